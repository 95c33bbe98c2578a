/- The engine, part 4: what it reckons of the code is what the code does. Conditions: none but those each theorem states. -/
import Derived.Test.YtihenfpnilliiaaE3
import Derived.Shelf.SlSortCmp.WholeK
import Derived.Shelf.SlSortCmp.NoneTotal
import Derived.Shelf.Slices.In.SortNone
import Derived.Shelf.Sort.Plain
/-! The library's sort of structs of plain parts, as an entry. Conditions: the comparison is told, and a strict weak order. -/
section
set_option linter.unusedVariables false
set_option linter.unusedSimpArgs false
namespace Go.Eng
open Go.RowKit Go.Sort Go.Shelf Go.Proofs
instance : Inhabited P := ⟨.unit⟩
/-- Shapes whose cells are told by their data alone. -/
def Sh.det : Sh → Bool
  | .int _ | .bool | .str | .unit => true
  | .pair a b => a.det && b.det
  | _ => false
def canon : Sh → P → P
  | .int k, p => .int k p.toInt
  | .bool, p => .bool p.toBool
  | .str, p => .str p.toStr
  | .unit, _ => .unit
  | .pair a b, p => .pair (canon a p.fst) (canon b p.snd)
  | _, p => p
def encS : Sh → P → List Value
  | .int k, p => [.int k p.toInt]
  | .bool, p => [.bool p.toBool]
  | .str, p => [.string p.toStr]
  | .unit, _ => []
  | .pair a b, p => encS a p.fst ++ encS b p.snd
  | .arr n e, _ => List.replicate (n * e.size) undef
  | _, _ => [undef]
theorem encS_len : ∀ (s : Sh) (p : P), (encS s p).length = s.size
  | .int _, _ | .bool, _ | .str, _ | .unit, _ | .fn, _ | .ptr, _ | .map, _ | .slice _, _ => rfl
  | .pair a b, p => by simp [encS, Sh.size, encS_len a, encS_len b]
  | .arr n e, p => by simp [encS, Sh.size]
theorem encS_one : ∀ (s : Sh) (p : P), s.det = true → ∀ v ∈ encS s p, v.oneCell' = true
  | .int _, _, _, v, h | .bool, _, _, v, h | .str, _, _, v, h => by simp [encS] at h; subst h; rfl
  | .unit, _, _, v, h => by cases h
  | .pair a b, p, hd, v, h => by
    simp only [Sh.det, Bool.and_eq_true] at hd
    rcases List.mem_append.1 h with h | h
    · exact encS_one a _ hd.1 v h
    · exact encS_one b _ hd.2 v h
theorem rep_canon {w : World} {F : Cells} : ∀ (s : Sh) (p : P), s.det = true → Rep w F s (canon s p) (encS s p)
  | .int _, p, _ => ⟨_, rfl, rfl⟩
  | .bool, p, _ => ⟨_, rfl, rfl⟩
  | .str, p, _ => ⟨_, rfl, rfl⟩
  | .unit, p, _ => ⟨rfl, rfl⟩
  | .pair a b, p, hd => by
    simp only [Sh.det, Bool.and_eq_true] at hd
    exact ⟨_, _, _, _, rfl, rfl, rep_canon a _ hd.1, rep_canon b _ hd.2⟩
theorem rep_det {w : World} {F : Cells} : ∀ (s : Sh) {p : P} {c : List Value}, s.det = true → Rep w F s p c → p = canon s p ∧ c = encS s p
  | .int _, _, _, _, ⟨n, h1, h2⟩ => by subst h1; exact ⟨rfl, h2⟩
  | .bool, _, _, _, ⟨n, h1, h2⟩ => by subst h1; exact ⟨rfl, h2⟩
  | .str, _, _, _, ⟨n, h1, h2⟩ => by subst h1; exact ⟨rfl, h2⟩
  | .unit, _, _, _, ⟨h1, h2⟩ => by subst h1; exact ⟨rfl, h2⟩
  | .pair a b, _, _, hd, ⟨x, y, c, d, h1, h2, h3, h4⟩ => by
    simp only [Sh.det, Bool.and_eq_true] at hd
    obtain ⟨p1, p2⟩ := rep_det a hd.1 h3
    obtain ⟨q1, q2⟩ := rep_det b hd.2 h4
    subst h1
    exact ⟨by show P.pair x y = .pair (canon a x) (canon b y); rw [← p1, ← q1], by rw [h2, p2, q2]; rfl⟩
theorem world_grow {w w' : World} {S : Cells} (h : Fr True w.heap.size S w w') (hS : ∀ b o, ¬ S b o) : ∃ q os', w' = grow (w.drewN q) os' := by
  refine ⟨w'.drawn - w.drawn, w'.heap.extract w.heap.size w'.heap.size, ?_⟩
  have hh : w'.heap = w.heap ++ w'.heap.extract w.heap.size w'.heap.size := by
    apply Array.ext_getElem?
    intro i
    rw [Array.getElem?_append]
    by_cases hi : i < w.heap.size
    · rw [if_pos hi, h.block i hi (fun o => hS i o)]
    · rw [if_neg hi, Array.getElem?_extract]
      have := h.size
      by_cases h2 : i < w'.heap.size
      · rw [if_pos (by omega)]; congr 1; omega
      · rw [if_neg (by omega), Array.getElem?_eq_none (by omega)]
  have hd := h.dr trivial
  have h1 := h.os; have h2 := h.tape; have h3 := h.output
  cases w'; cases w
  simp only [grow, World.drewN] at *
  subst h1; subst h2; subst h3
  congr 1
  omega
theorem cmp_calls {P : Program} {g : Nat} {e : Sh} (hdet : e.det = true) (hagg : e.isAgg = true) {cval : List Eng.P → Option (Nat × List Eng.P)} {rs : List (List Eng.P → List Nat → List Eng.P → Res)} {cf : Eng.P → Eng.P → Int} (hE : OkEntK True P ⟨g, [.imm e, .imm e], cval, rs⟩)
    {f0 : List Eng.P → List Nat → List Eng.P → Res} (hf0 : rs[0]? = some f0) (hret : ∀ ps ls qs, (f0 ps ls qs).ret = [.imm (.int .i64) (lf qs 0)])
    (hv : ∀ x y, cval [canon e x, canon e y] = some (0, [.int .i64 (cf x y)])) (eg : ∀ args w, (callFunc g args).run P w = .ok (.enter g args) w) (x y : Eng.P) (w : World) :
    Calls P g #[.agg (encS e x).toArray, .agg (encS e y).toArray] w fun en w' => en = .returned (.int .i64 (cf x y)) ∧ ∃ q os', w' = grow (w.drewN q) os' := by
  have hfit : fitL [.imm e, .imm e] [.imm e (canon e x), .imm e (canon e y)] = some ([canon e x, canon e y], []) := by
    simp [fitL, A.fit, Sh.beq_refl]
  have hs := hE _ _ _ hfit _ (hv x y) f0 hf0
  have hF : (fun (b o : Nat) => False ∨ inRs [] b o) = fun _ _ => False := by funext b o; simp [inRs]
  have rel1 : ∀ z, TRel1 (fun _ => .arr none 0 0 .unit) w (fun _ _ => False) (.imm e (canon e z)) (.agg (encS e z).toArray) [] := by
    intro z
    show if T.isAgg (.imm e (canon e z)) = true then _ else _
    rw [if_pos (show T.isAgg (.imm e (canon e z)) = true from hagg)]
    exact ⟨_, rfl, rep_canon e z hdet, rfl⟩
  have hA : TRelL (fun _ => .arr none 0 0 .unit) w (fun _ _ => False) [.imm e (canon e x), .imm e (canon e y)] [.agg (encS e x).toArray, .agg (encS e y).toArray] [] :=
    ⟨_, _, [], [], rfl, rfl, rel1 x, _, _, [], [], rfl, rfl, rel1 y, rfl, rfl⟩
  have := hs (fun _ _ => False) (fun _ => .arr none 0 0 .unit) w [.agg (encS e x).toArray, .agg (encS e y).toArray] [] (by rw [hF]; exact hA) List.Pairwise.nil (fun _ _ _ q => q) (fun _ _ q => q.elim)
  simp only at this
  rcases this with ⟨g', h1, h2⟩ | ⟨v, w', h1, _⟩
  · rw [eg] at h1
    injection h1 with h1
    injection h1 with h1
    subst h1
    refine h2.mono ?_
    rintro en w' ⟨vs, R', rfl, hfr, hrel, _, _, hlen⟩
    rw [hret] at hlen hrel
    obtain ⟨Q, S, rfl, h1, h2⟩ := TRelL.append [T.imm (.int .i64) (lf [.int .i64 (cf x y)] 0)] hlen hrel
    obtain ⟨v, q, Q1, S1, rfl, rfl, h3, rfl, rfl⟩ := h1
    obtain ⟨⟨b, hb, h4⟩, _⟩ := h3
    injection hb with _ hb; injection h4 with h4
    subst hb; subst h4
    exact ⟨rfl, world_grow hfr fun b o hr => by obtain ⟨r, hr, _⟩ := hr; cases hr⟩
  · rw [eg] at h1
    injection h1 with h1
    cases h1
section
variable {P : Program} {w : World}
theorem flat_at {e : Sh} {d : Array Eng.P} {i j : Nat} (hi : i < d.size) (hj : j < e.size) : (flatK (encS e) e.size d)[i * e.size + j]! = (encS e d[i]!)[j]! := by
  have h1 : i * e.size + j < d.size * e.size := by
    have : (i + 1) * e.size ≤ d.size * e.size := Nat.mul_le_mul_right _ hi
    rw [Nat.succ_mul] at this; omega
  rw [get_flatK _ _ _ _ h1]
  have e1 : (i * e.size + j) / e.size = i := by rw [Nat.mul_comm, Nat.mul_add_div (by omega), Nat.div_eq_of_lt hj]; omega
  have e2 : (i * e.size + j) % e.size = j := by rw [Nat.mul_comm, Nat.mul_add_mod, Nat.mod_eq_of_lt hj]
  rw [e1, e2]
theorem get_get {l : List Value} {j : Nat} (h : j < l.length) : l[j]? = some l[j]! := by
  rw [getElem!_pos l j h, List.getElem?_eq_getElem h]
theorem holds_of {F : Cells} {e : Sh} (hdet : e.det = true) {xs : List Eng.P} {b o cap : Nat} (h : ArrRel w F e xs b o cap) : HoldsK (encS e) e.size w b o xs.toArray := by
  intro j hj
  have hj : j < xs.length * e.size := by simpa using hj
  have hk : 0 < e.size := by
    rcases Nat.eq_zero_or_pos e.size with q | q
    · rw [q] at hj; simp at hj
    · exact q
  have hi : j / e.size < xs.length := (Nat.div_lt_iff_lt_mul hk).2 hj
  have hm : j % e.size < e.size := Nat.mod_lt _ hk
  have hjj : j = j / e.size * e.size + j % e.size := (Nat.div_add_mod' j e.size).symm
  obtain ⟨c, h1, h2⟩ := h.1 _ hi
  obtain ⟨_, hc⟩ := rep_det e hdet h1
  have hcl : c.length = e.size := by rw [hc, encS_len]
  have := h2 (j % e.size) c[j % e.size]! (get_get (by omega))
  rw [Nat.add_assoc, ← hjj] at this
  refine ⟨?_, this.2⟩
  refine this.1.trans ?_
  congr 1
  show c[j % e.size]! = (flatK (encS e) e.size xs.toArray)[j]!
  rw [get_flatK _ _ _ _ (by simpa using hj)]
  have e1 : xs.toArray[j / e.size]! = rd xs (j / e.size) := by
    rw [getElem!_pos xs.toArray _ (by simpa using hi)]
    simp [rd, List.getD_eq_getElem?_getD, List.getElem?_eq_getElem hi]
  rw [e1, ← hc]
theorem sw_frozen {e : Sh} {b o n : Nat} {D : Array Eng.P} {os : Array Obj} {b' i : Nat} (hb : b' < w.heap.size) : (sortWorldK (encS e) e.size w b o n D os).frozen? (mkA b' i) = w.frozen? (mkA b' i) := by
  unfold sortWorldK
  rw [frozen?_grow _ _ _ (by simpa [putRowK, mkA] using hb)]
  unfold putRowK
  rw [frozen?_putRow]; rfl
theorem sw_other {e : Sh} {b o n : Nat} {D : Array Eng.P} {os : Array Obj} {b' i : Nat} (hb : b' < w.heap.size) (h : b' ≠ b ∨ i < o ∨ o + D.size * e.size ≤ i) : (sortWorldK (encS e) e.size w b o n D os).cell? (mkA b' i) = w.cell? (mkA b' i) := by
  unfold sortWorldK
  rw [cell?_grow _ _ _ (by simpa [putRowK, mkA] using hb)]
  unfold putRowK
  rw [cell?_putRow_other _ _ _ _ _ _ (by simpa [mkA] using h)]; rfl
theorem sw_in {e : Sh} {b o n : Nat} {d D : Array Eng.P} {os : Array Obj} (hb : b < w.heap.size) (hH : HoldsK (encS e) e.size w b o d) (hs : D.size = d.size) {i j : Nat} (hi : i < D.size) (hj : j < e.size) :
    (sortWorldK (encS e) e.size w b o n D os).cell? (mkA b (o + (i * e.size + j))) = some (encS e D[i]!)[j]! := by
  unfold sortWorldK
  rw [cell?_grow _ _ _ (by simpa [putRowK, mkA] using hb)]
  unfold putRowK
  have h1 : i * e.size + j < (flatK (encS e) e.size D).size := by
    rw [size_flatK]
    have : (i + 1) * e.size ≤ D.size * e.size := Nat.mul_le_mul_right _ hi
    rw [Nat.succ_mul] at this; omega
  have := cell?_putRow id (Sort.ahead w n) b o (flatK (encS e) e.size d) (flatK (encS e) e.size D) (holds_ahead id w n b o _ hH) (by rw [size_flatK, size_flatK, hs]) _ h1
  refine this.trans ?_
  show some (flatK (encS e) e.size D)[i * e.size + j]! = _
  rw [flat_at hi hj]
theorem sw_fr {e : Sh} {b o n cap : Nat} {d D : Array Eng.P} {os : Array Obj} (hb : b < w.heap.size) (hH : HoldsK (encS e) e.size w b o d) (hs : D.size = d.size) (hcap : D.size ≤ cap) :
    Fr True w.heap.size (inRs [(b, o, cap * e.size)]) w (sortWorldK (encS e) e.size w b o n D os) := by
  have hle : D.size * e.size ≤ cap * e.size := Nat.mul_le_mul_right _ hcap
  have hin : ∀ b' i, (b' ≠ b ∨ i < o ∨ o + D.size * e.size ≤ i) ∨ inRs [(b, o, cap * e.size)] b' i := by
    intro b' i
    by_cases h : b' ≠ b ∨ i < o ∨ o + D.size * e.size ≤ i
    · exact .inl h
    · simp only [not_or, Nat.not_lt, Nat.not_le, Decidable.not_not] at h
      exact .inr ⟨(b, o, cap * e.size), by simp, h.1, h.2.1, (by show i < o + cap * e.size; omega)⟩
  have hsize : (sortWorldK (encS e) e.size w b o n D os).heap.size = w.heap.size + os.size := by simp [sortWorldK, putRowK, putRow, mapBlock, Sort.ahead, grow]
  have hcell : ∀ b' i, b' < w.heap.size → ¬ inRs [(b, o, cap * e.size)] b' i → (sortWorldK (encS e) e.size w b o n D os).cell? (mkA b' i) = w.cell? (mkA b' i) := fun b' i hb' hn => sw_other hb' ((hin b' i).resolve_right hn)
  refine ⟨rfl, rfl, rfl, by rw [hsize]; omega, fun b' hb' hn => ?_, hcell, fun b' i hb' => sw_frozen hb', fun b' i hb' => ?_, fun _ => by simp [sortWorldK, putRowK, putRow, mapBlock, Sort.ahead, grow]⟩
  · unfold sortWorldK
    rw [heap_grow_old _ _ (by simpa [putRowK] using hb')]
    simp only [putRowK, putRow, mapBlock, Sort.ahead]
    rw [Array.getElem?_modify]
    by_cases hbb : b = b'
    · subst hbb
      rw [if_pos rfl]
      have hz : D.size * e.size = 0 := by
        rcases Nat.eq_zero_or_pos (D.size * e.size) with q | q
        · exact q
        · exact absurd ⟨(b, o, cap * e.size), by simp, rfl, Nat.le_refl _, (by show o < o + cap * e.size; omega)⟩ (hn o)
      have hid : ∀ c : Array Value, putCells id o (flatK (encS e) e.size D) c = c := by
        intro c
        apply Array.ext (by simp [putCells])
        intro i h1 h2
        simp [putCells, hz]; omega
      cases hq : w.heap[b]? with
      | none => rfl
      | some ob => cases ob <;> simp [onCells, hid]
    · rw [if_neg hbb]
  · by_cases hn : inRs [(b, o, cap * e.size)] b' i
    · by_cases ho : b' ≠ b ∨ i < o ∨ o + D.size * e.size ≤ i
      · rw [sw_other hb' ho]
      · simp only [not_or, Nat.not_lt, Nat.not_le, Decidable.not_not] at ho
        obtain ⟨rfl, h1, h2⟩ := ho
        have hk : 0 < e.size := by
          rcases Nat.eq_zero_or_pos e.size with q | q
          · rw [q] at h2; simp at h2; omega
          · exact q
        have hlt : i - o < D.size * e.size := by omega
        have hi : (i - o) / e.size < D.size := (Nat.div_lt_iff_lt_mul hk).2 hlt
        have hm : (i - o) % e.size < e.size := Nat.mod_lt _ hk
        have he : i = o + ((i - o) / e.size * e.size + (i - o) % e.size) := by rw [Nat.div_add_mod']; omega
        have := sw_in (n := n) (os := os) hb hH hs hi hm
        rw [← he] at this
        rw [this]
        have h3 := (hH (i - o) (by rw [size_flatK, ← hs]; exact hlt)).1
        rw [show o + (i - o) = i by omega] at h3
        have h3 : w.cell? (mkA b' i) = some (id (flatK (encS e) e.size d)[i - o]!) := h3
        rw [h3]; rfl
    · rw [hcell b' i hb' hn]
theorem sw_arr {F F' : Cells} {e : Sh} (hdet : e.det = true) {xs : List Eng.P} {b o n cap : Nat} {D : Array Eng.P} {os : Array Obj} (hb : b < w.heap.size) (h : ArrRel w F e xs b o cap) (hs : D.size = xs.length) (hp : ∀ x ∈ D.toList, x ∈ xs) :
    ArrRel (sortWorldK (encS e) e.size w b o n D os) F' e D.toList b o cap := by
  have hH := holds_of hdet h
  have hs' : D.size = xs.toArray.size := by simpa using hs
  have hcan : ∀ x ∈ xs, x = canon e x := by
    intro x hx
    obtain ⟨i, hi, rfl⟩ := List.getElem_of_mem hx
    obtain ⟨c, h1, _⟩ := h.1 i hi
    have := (rep_det e hdet h1).1
    simp only [rd, List.getD_eq_getElem?_getD, List.getElem?_eq_getElem hi, Option.getD_some] at this
    exact this
  refine ⟨fun i hi => ⟨encS e D[i]!, ?_, fun j v hv => ?_⟩, fun j hj => ?_⟩
  · have hi' : i < D.size := by simpa using hi
    have e1 : rd D.toList i = D[i]! := by
      rw [getElem!_pos D i hi']
      simp [rd, List.getD_eq_getElem?_getD, List.getElem?_eq_getElem hi]
    have hm : D[i]! ∈ xs := hp _ (by rw [getElem!_pos D i hi']; simp)
    rw [e1, hcan _ hm]
    have := rep_canon (w := sortWorldK (encS e) e.size w b o n D os) (F := F') e D[i]! hdet
    rw [← hcan _ hm] at this ⊢
    exact this
  · have hi' : i < D.size := by simpa using hi
    have hj : j < e.size := by
      have := (List.getElem?_eq_some_iff.1 hv).1
      rwa [encS_len] at this
    have := sw_in (n := n) (os := os) hb hH hs' hi' hj
    rw [Nat.add_assoc, this]
    refine ⟨?_, ?_⟩
    · rw [get_get (by rw [encS_len]; exact hj)] at hv; exact hv
    · rw [sw_frozen hb]
      have hlt : i * e.size + j < xs.length * e.size := by
        have : (i + 1) * e.size ≤ xs.length * e.size := Nat.mul_le_mul_right _ (by omega)
        rw [Nat.succ_mul] at this; omega
      exact (hH (i * e.size + j) (by simpa using hlt)).2
  · by_cases hin : o + j < o ∨ o + D.size * e.size ≤ o + j
    · obtain ⟨v, h1, h2⟩ := h.2 j hj
      exact ⟨v, by rw [sw_other hb (.inr hin)]; exact h1, by rw [sw_frozen hb]; exact h2⟩
    · simp only [not_or, Nat.not_lt, Nat.not_le] at hin
      have hlt : j < D.size * e.size := by omega
      have hk : 0 < e.size := by
        rcases Nat.eq_zero_or_pos e.size with q | q
        · rw [q] at hlt; simp at hlt
        · exact q
      have hi : j / e.size < D.size := (Nat.div_lt_iff_lt_mul hk).2 hlt
      have hm : j % e.size < e.size := Nat.mod_lt _ hk
      have := sw_in (n := n) (os := os) hb hH hs' hi hm
      rw [Nat.div_add_mod'] at this
      exact ⟨_, this, by rw [sw_frozen hb]; obtain ⟨v, _, h2⟩ := h.2 j hj; exact h2⟩
end
theorem fitL_sort {e : Sh} {g : FuncId} {ts : List T} {ps : List Eng.P} {ls : List Nat} (h : fitL [.own e, .fn g (.imm .unit)] ts = some (ps, ls)) :
    ∃ t0 p1, ts = [t0, .fn g (.imm .unit p1)] ∧ ((∃ l nil xs, t0 = .own l e nil xs ∧ ps = [.list nil xs, p1] ∧ ls = [l]) ∨ (t0 = .imm (.slice e) (.list true []) ∧ ps = [.list true [], p1] ∧ ls = [0])) := by
  match ts, h with
  | [], h => simp [fitL] at h
  | [t0], h => simp only [fitL] at h; split at h <;> first | (rename_i h2; simp at h2; done) | cases h
  | t0 :: t1 :: t2 :: q, h =>
    simp only [fitL] at h
    split at h
    · rename_i h2
      split at h2
      · rename_i h3; simp [fitL] at h3
      · cases h2
    · cases h
  | [t0, t1], h =>
    simp only [fitL] at h
    split at h
    case h_2 => cases h
    rename_i a b c d h0 h1
    split at h1
    case h_2 => cases h1
    rename_i a' b' c' d' h2 h3
    obtain ⟨rfl, rfl⟩ := Prod.mk.inj (Option.some.inj h3)
    obtain ⟨rfl, rfl⟩ := Prod.mk.inj (Option.some.inj h1)
    obtain ⟨rfl, rfl⟩ := Prod.mk.inj (Option.some.inj h)
    -- the closure
    have hfn : ∃ p1, t1 = .fn g (.imm .unit p1) ∧ a' = [p1] ∧ b' = [] := by
      cases t1 <;> simp only [A.fit] at h2 <;> try (cases h2; done)
      rename_i f c
      split at h2
      · rename_i hg
        have := beq_iff.1 hg; subst this
        cases c <;> simp only [A.fit] at h2 <;> try (cases h2; done)
        rename_i s p
        split at h2
        · rename_i hs
          have := Sh.beq_eq hs; subst this
          obtain ⟨rfl, rfl⟩ := Prod.mk.inj (Option.some.inj h2)
          exact ⟨_, rfl, rfl, rfl⟩
        · cases h2
      · cases h2
    obtain ⟨p1, rfl, rfl, rfl⟩ := hfn
    refine ⟨t0, p1, rfl, ?_⟩
    unfold A.fit at h0
    split at h0 <;> try (simp_all; done)
    · rename_i e1 l e2 nil xs heq
      injection heq with heq; subst heq
      split at h0
      · rename_i hb
        have := Sh.beq_eq hb; subst this
        obtain ⟨rfl, rfl⟩ := Prod.mk.inj (Option.some.inj h0)
        exact .inl ⟨_, _, _, rfl, rfl, rfl⟩
      · cases h0
    · rename_i e1 e2 heq
      injection heq with heq; subst heq
      split at h0
      · rename_i hb
        have := Sh.beq_eq hb; subst this
        obtain ⟨rfl, rfl⟩ := Prod.mk.inj (Option.some.inj h0)
        exact .inr ⟨rfl, rfl, rfl⟩
      · cases h0
/-- What the sort makes of a list. -/
def sorted (cf : Eng.P → Eng.P → Int) (xs : List Eng.P) : List Eng.P := (pdq (ltOf cf) xs.toArray 0 xs.length (Lib.bitLen xs.length) true true).toList
noncomputable def sortVal (cf : Eng.P → Eng.P → Int) (ps : List Eng.P) : Option (Nat × List Eng.P) :=
  if (lf ps 0).xs.length < 4611686018427387904 then some (0, [.list (lf ps 0).isNil (sorted cf (lf ps 0).xs)]) else none
def sortRes (e : Sh) (g : FuncId) : List Eng.P → List Nat → List Eng.P → Res := fun ps ls qs => ⟨[], [.own (ls.getD 0 0) e (lf qs 0).isNil (lf qs 0).xs, .fn g (.imm .unit (lf ps 1))]⟩
theorem sort_sim {P : Program} {ρ : Ren} (L : SlLaysF0.n6 P ρ) {e : Sh} (hdet : e.det = true) (hpos : 0 < e.size) (aE : ∀ w, (isAgg (ρ.t 24)).run P w = .ok true w) (zE : ∀ w, (Go.sizeOf (ρ.t 24)).run P w = .ok e.size w)
    {g : Nat} {cf : Eng.P → Eng.P → Int} (hO : SWO (ltOf cf)) (eg : ∀ args w, (callFunc g args).run P w = .ok (.enter g args) w) (es : ∀ args w, (callFunc (ρ.f 6) args).run P w = .ok (.enter (ρ.f 6) args) w)
    (hcmp : ∀ (x y : Eng.P) (w : World), Calls P g #[.agg (encS e x).toArray, .agg (encS e y).toArray] w fun en w' => en = .returned (.int .i64 (cf x y)) ∧ ∃ q os', w' = grow (w.drewN q) os')
    {l : Nat} {nil : Bool} {xs : List Eng.P} {p1 : Eng.P} (hlen : xs.length < 4611686018427387904) :
    Sim True P (ρ.f 6) [.own l e nil xs, .fn g (.imm .unit p1)] [] [.own l e nil (sorted cf xs), .fn g (.imm .unit p1)] := by
  intro X ml w cargs R hrel hdj hRX hX
  obtain ⟨v0, q0, R0', S0', rfl, rfl, h0, v1, q1, R1', S1', rfl, rfl, h1, rfl, rfl⟩ := hrel
  have h0 : TRel ml w _ (.own l e nil xs) [v0] R0' := h0
  have h1 : TRel ml w _ (.fn g (.imm .unit p1)) [v1] R1' := h1
  obtain ⟨a, cap, e1, e2, e3, e4, e5, e6, e7⟩ := h0
  obtain ⟨caps, f1, f2, f3⟩ := h1
  injection e1 with e1; subst e1
  injection f1 with f1; subst f1
  obtain ⟨f2, f4⟩ := f2
  have hcaps : caps = #[] := by cases caps; simpa using f4
  subst hcaps
  subst f3
  have hperm := (pdq_sorts (ltOf cf) hO xs.toArray 0 xs.toArray.size (Lib.bitLen xs.length) true true (Nat.zero_le _) (Nat.le_refl _) (Or.inl rfl)).1
  have hsz : xs.toArray.size = xs.length := by simp
  rw [hsz] at hperm
  have hDl : (sorted cf xs).length = xs.length := by
    unfold sorted; rw [Array.length_toList, hperm.1]; simp
  refine .inl ⟨ρ.f 6, es _ _, ?_⟩
  rcases Nat.eq_zero_or_pos xs.length with hz | hz
  · obtain rfl : xs = [] := List.eq_nil_of_length_eq_zero hz
    have hn : sorted cf [] = [] := List.eq_nil_of_length_eq_zero (by simpa using hDl)
    rw [hn]
    refine (AnyF.slices_SortFunc_none L (adr a) cap _ w).mono ?_
    rintro en w' ⟨rfl, rfl⟩
    refine ⟨[], R0' ++ ([] ++ []), rfl, Fr.refl _ _ _, ?_, hdj, fun b o h => .inl h, rfl⟩
    exact ⟨_, _, _, _, rfl, rfl, ⟨a, cap, rfl, e2, e3, e4, e5, e6, e7⟩, _, _, [], [], rfl, rfl, ⟨#[], rfl, ⟨f2, rfl⟩, rfl⟩, rfl, rfl⟩
  · obtain ⟨b, o, rfl⟩ : ∃ b o, a = some (b, o) := by
      cases a with
      | none => have := e5 rfl; omega
      | some x => exact ⟨x.1, x.2, rfl⟩
    have hA := e6 b o rfl
    have hH := holds_of hdet hA
    have hb : b < w.heap.size := by
      have h0 := (hH 0 (by simpa using Nat.mul_pos hz hpos)).1
      exact World.block_lt_of_cell? w _ h0
    have hcon := AnyQ.slices_SortFunc_eq L e.size aE zE (encS e) (encS_len e) (fun x => encS_one e x hdet) cf hO g #[] b o cap xs.toArray w eg (fun m os dk _ x y => by simpa using hcmp x y _) hH hb (by simpa using hlen)
    rw [hsz] at hcon
    refine hcon.mono ?_
    rintro en w' ⟨rfl, n, os, rfl⟩
    have hDs : (pdq (ltOf cf) xs.toArray 0 xs.length (Lib.bitLen xs.length) true true).size = xs.length := by rw [hperm.1]; simp
    have hmem : ∀ x ∈ (pdq (ltOf cf) xs.toArray 0 xs.length (Lib.bitLen xs.length) true true).toList, x ∈ xs := by
      intro x hx
      have hp := hperm.2.2
      rw [Array.extract_eq_self_of_le (by rw [hDs]; exact Nat.le_refl _), Array.extract_eq_self_of_le (by simp)] at hp
      simpa using hp.mem_iff.1 hx
    have hfr := sw_fr (n := n) (cap := cap) (os := os) hb hH (by rw [hDs]; simp) (by rw [hDs]; exact e4)
    have harr := sw_arr (F' := fun b o => X b o ∨ inRs (R0' ++ ([] ++ [])) b o) (n := n) (os := os) hdet hb hA hDs hmem
    refine ⟨[], R0' ++ ([] ++ []), rfl, ?_, ?_, hdj, fun b o h => .inl h, rfl⟩
    · refine hfr.mono fun b' i _ h => ?_
      rw [e7]; simpa [Loc.rng] using h
    · exact ⟨_, _, _, _, rfl, rfl, ⟨some (b, o), cap, by rw [hDl], by rw [hDl]; exact e2, e3, by rw [hDl]; exact e4, e5, fun b' o' h => (by cases h; exact harr), by rw [hDl]; exact e7⟩, _, _, [], [], rfl, rfl, ⟨#[], rfl, ⟨f2, rfl⟩, rfl⟩, rfl, rfl⟩
theorem sim_nil {K : Prop} {P : Program} {f : FuncId} {e : Sh} {r : List T} {ret az : List T} (h : Sim K P f (.own 0 e true [] :: r) ret az) : Sim K P f (.imm (.slice e) (.list true []) :: r) ret az := by
  intro X ml w cargs R hrel hdj hRX hX
  refine h X ml w cargs R ?_ hdj hRX hX
  obtain ⟨v, q, Q, S, h1, h2, h3, h4⟩ := hrel
  refine ⟨v, q, Q, S, h1, h2, ?_, h4⟩
  have h3 : TRel ml w _ (.imm (.slice e) (.list true [])) [v] Q := h3
  obtain ⟨⟨a, xs, cap, g1, g2, g3, g4, _⟩, rfl⟩ := h3
  injection g1 with g1 g5
  subst g5
  cases a with
  | some x => cases g1
  | none =>
    injection g2 with g2
    subst g2
    have := g4 rfl; subst this
    show TRel ml w _ (.own 0 e true []) _ []
    exact ⟨none, 0, rfl, fun h => absurd rfl h, rfl, Nat.le_refl _, fun _ => rfl, fun b o h => (by cases h), rfl⟩
theorem sort_ent {P : Program} {ρ : Ren} (L : SlLaysF0.n6 P ρ) {e : Sh} (hdet : e.det = true) (hagg : e.isAgg = true) (hpos : 0 < e.size) (aE : ∀ w, (isAgg (ρ.t 24)).run P w = .ok true w) (zE : ∀ w, (Go.sizeOf (ρ.t 24)).run P w = .ok e.size w)
    {g : Nat} {cf : Eng.P → Eng.P → Int} (hO : SWO (ltOf cf)) (eg : ∀ args w, (callFunc g args).run P w = .ok (.enter g args) w) {f : Nat} (hf : ρ.f 6 = f) (es : ∀ args w, (callFunc f args).run P w = .ok (.enter f args) w)
    {cval : List Eng.P → Option (Nat × List Eng.P)} {rs : List (List Eng.P → List Nat → List Eng.P → Res)} (hE : OkEntK True P ⟨g, [.imm e, .imm e], cval, rs⟩)
    {f0 : List Eng.P → List Nat → List Eng.P → Res} (hf0 : rs[0]? = some f0) (hret : ∀ ps ls qs, (f0 ps ls qs).ret = [.imm (.int .i64) (lf qs 0)])
    (hv : ∀ x y, cval [canon e x, canon e y] = some (0, [.int .i64 (cf x y)])) : OkEntK True P ⟨f, [.own e, .fn g (.imm .unit)], sortVal cf, [sortRes e g]⟩ := by
  subst hf
  intro ts ps ls hfit v hval gr hgr
  have hcmp := cmp_calls hdet hagg hE hf0 hret hv eg
  obtain ⟨t0, p1, rfl, h⟩ := fitL_sort hfit
  simp only [sortVal] at hval
  split at hval
  case isFalse => cases hval
  rename_i hl
  obtain rfl := Option.some.inj hval
  simp only [List.getElem?_cons_zero] at hgr
  obtain rfl := Option.some.inj hgr
  rcases h with ⟨l, nil, xs, rfl, rfl, rfl⟩ | ⟨rfl, rfl, rfl⟩
  · exact sort_sim L hdet hpos aE zE hO eg es hcmp hl
  · exact sim_nil (sort_sim L hdet hpos aE zE hO eg es hcmp hl)
end Go.Eng
end
/-! The library's sort of strings as an entry. Conditions: none but those each states. -/
section
set_option linter.unusedVariables false
set_option linter.unusedSimpArgs false
namespace Go.Eng
open Go.RowKit Go.Proofs Go.Sort Go.Shelf
def strL (p : Eng.P) : List UInt8 := p.toStr.data.toList
def ofL (s : List UInt8) : Eng.P := .str ⟨s.toArray⟩
def sortedL (xs : List Eng.P) : List (List UInt8) := (xs.map strL).mergeSort fun x y => decide (x ≤ y)
def sortedS (xs : List Eng.P) : List Eng.P := (sortedL xs).map ofL
noncomputable def sortValS (ps : List Eng.P) : Option (Nat × List Eng.P) :=
  if (lf ps 0).xs.length < 4611686018427387904 then some (0, [.list (lf ps 0).isNil (sortedS (lf ps 0).xs)]) else none
def sortResS : List Eng.P → List Nat → List Eng.P → Res := fun ps ls qs => ⟨[], [.own (ls.getD 0 0) .str (lf qs 0).isNil (lf qs 0).xs]⟩
theorem enc_of (s : List UInt8) : encS .str (ofL s) = [encStr s] := rfl
theorem enc_str (p : Eng.P) : encS .str p = [encStr (strL p)] := by
  show [Value.string p.toStr] = [Value.string ⟨p.toStr.data.toList.toArray⟩]
  congr 2
theorem flat_str (d : Array Eng.P) {j : Nat} (h : j < d.size) : (flatK (encS .str) (Sh.size .str) d)[j]! = encStr (strL d[j]!) := by
  rw [get_flatK _ _ _ _ (by simpa [Sh.size] using h)]
  show (encS .str d[j / 1]!)[j % 1]! = _
  rw [Nat.div_one, Nat.mod_one, enc_str]; rfl
theorem put_str (w : World) (b o : Nat) (S : List (List UInt8)) : putRow encStr w b o S.toArray = putRowK (encS .str) (Sh.size .str) w b o (S.map ofL).toArray := by
  unfold putRowK putRow
  congr 1
  funext c
  unfold putCells
  have hs : (flatK (encS .str) (Sh.size .str) (S.map ofL).toArray).size = S.toArray.size := by rw [size_flatK]; simp [Sh.size]
  rw [hs]
  apply Array.ext (by simp)
  intro k h1 h2
  simp only [Array.getElem_mapIdx]
  by_cases hk : o ≤ k ∧ k < o + S.toArray.size
  · rw [if_pos hk, if_pos hk]
    have hlt : k - o < S.length := by have := hk.2; simp at this; omega
    rw [flat_str _ (by simpa using hlt)]
    show encStr S.toArray[k - o]! = encStr (strL (S.map ofL).toArray[k - o]!)
    congr 1
    rw [getElem!_pos S.toArray _ (by simpa using hlt), getElem!_pos (S.map ofL).toArray _ (by simpa using hlt)]
    simp [strL, ofL, Eng.P.toStr]
  · rw [if_neg hk, if_neg hk]
theorem sortedS_len (xs : List Eng.P) : (sortedS xs).length = xs.length := by simp [sortedS, sortedL, List.length_mergeSort]
theorem sortS_sim {P : Program} {ρ : Ren} (L : Lays.n190 P ρ) (es : ∀ args w, (callFunc (ρ.f 190) args).run P w = .ok (.enter (ρ.f 190) args) w)
    {l : Nat} {nil : Bool} {xs : List Eng.P} (hlen : xs.length < 4611686018427387904) : Sim True P (ρ.f 190) [.own l .str nil xs] [] [.own l .str nil (sortedS xs)] := by
  intro X ml w cargs R hrel hdj hRX hX
  obtain ⟨v0, q0, R0', S0', rfl, rfl, h0, rfl, rfl⟩ := hrel
  have h0 : TRel ml w _ (.own l .str nil xs) [v0] R0' := h0
  obtain ⟨a, cap, e1, e2, e3, e4, e5, e6, e7⟩ := h0
  injection e1 with e1; subst e1
  have hDl := sortedS_len xs
  refine .inl ⟨ρ.f 190, es _ _, ?_⟩
  rcases Nat.eq_zero_or_pos xs.length with hz | hz
  · obtain rfl : xs = [] := List.eq_nil_of_length_eq_zero hz
    have hn : sortedS [] = [] := List.eq_nil_of_length_eq_zero (by simpa using hDl)
    rw [hn]
    refine (Any.slices_Sort_string_none L (adr a) cap w).mono ?_
    rintro en w' ⟨rfl, rfl⟩
    refine ⟨[], R0' ++ [], rfl, Fr.refl _ _ _, ?_, hdj, fun b o h => .inl h, rfl⟩
    exact ⟨_, _, _, _, rfl, rfl, ⟨a, cap, rfl, e2, e3, e4, e5, e6, e7⟩, rfl, rfl⟩
  · obtain ⟨b, o, rfl⟩ : ∃ b o, a = some (b, o) := by
      cases a with
      | none => have := e5 rfl; omega
      | some x => exact ⟨x.1, x.2, rfl⟩
    have hA := e6 b o rfl
    have hH := holds_of (e := .str) rfl hA
    have hb : b < w.heap.size := by
      have h0 := (hH 0 (by simpa [Sh.size] using hz)).1
      exact World.block_lt_of_cell? w _ h0
    have hH2 : Holds encStr w b o (xs.map strL).toArray := by
      intro j hj
      have hj : j < xs.length := by simpa using hj
      obtain ⟨h1, h2⟩ := hH j (by simpa [Sh.size] using hj)
      refine ⟨h1.trans ?_, h2⟩
      show some (flatK (encS .str) (Sh.size .str) xs.toArray)[j]! = _
      rw [flat_str _ (by simpa using hj)]
      congr 2
      rw [getElem!_pos xs.toArray _ (by simpa using hj), getElem!_pos (xs.map strL).toArray _ (by simpa using hj)]
      simp
    have hcon := Any.slices_Sort_string L b o cap (xs.map strL) w hH2 hb (by simpa using hlen)
    rw [List.length_map] at hcon
    refine hcon.mono ?_
    rintro en w' ⟨rfl, n, os, rfl⟩
    rw [put_str]
    show ∃ vs R', _
    have hmem : ∀ x ∈ (sortedS xs).toArray.toList, x ∈ xs := by
      intro x hx
      have hx : x ∈ (sortedL xs).map ofL := hx
      obtain ⟨s, hs, rfl⟩ := List.mem_map.1 hx
      have hs := (List.mergeSort_perm (xs.map strL) fun x y => decide (x ≤ y)).mem_iff.1 hs
      obtain ⟨y, hy, rfl⟩ := List.mem_map.1 hs
      obtain ⟨i, hi, rfl⟩ := List.getElem_of_mem hy
      obtain ⟨c, g1, _⟩ := hA.1 i hi
      have := (rep_det .str rfl g1).1
      simp only [rd, List.getD_eq_getElem?_getD, List.getElem?_eq_getElem hi, Option.getD_some] at this
      rw [show ofL (strL xs[i]) = canon .str xs[i] by simp [ofL, strL, canon], ← this]
      exact List.getElem_mem hi
    have hDs : (sortedS xs).toArray.size = xs.length := by simpa using hDl
    have hfr := sw_fr (n := n) (cap := cap) (os := os) hb hH (D := (sortedS xs).toArray) (by rw [hDs]; simp) (by rw [hDs]; exact e4)
    have harr := sw_arr (F' := fun b o => X b o ∨ inRs (R0' ++ []) b o) (n := n) (os := os) rfl hb hA hDs hmem
    refine ⟨[], R0' ++ [], rfl, ?_, ?_, hdj, fun b o h => .inl h, rfl⟩
    · refine hfr.mono fun b' i _ h => ?_
      rw [e7]; simpa [Loc.rng] using h
    · exact ⟨_, _, _, _, rfl, rfl, ⟨some (b, o), cap, by rw [hDl], by rw [hDl]; exact e2, e3, by rw [hDl]; exact e4, e5, fun b' o' h => (by cases h; exact harr), by rw [hDl]; exact e7⟩, rfl, rfl⟩
theorem fitL_sortS {ts : List T} {ps : List Eng.P} {ls : List Nat} (h : fitL [.own .str] ts = some (ps, ls)) :
    (∃ l nil xs, ts = [.own l .str nil xs] ∧ ps = [.list nil xs] ∧ ls = [l]) ∨ (ts = [.imm (.slice .str) (.list true [])] ∧ ps = [.list true []] ∧ ls = [0]) := by
  match ts, h with
  | [], h => simp [fitL] at h
  | t0 :: t1 :: q, h =>
    simp only [fitL] at h
    split at h
    · rename_i h2; simp at h2
    · cases h
  | [t0], h =>
    simp only [fitL] at h
    split at h
    case h_2 => cases h
    rename_i a b c d h0 h1
    obtain ⟨rfl, rfl⟩ := Prod.mk.inj (Option.some.inj h1)
    obtain ⟨rfl, rfl⟩ := Prod.mk.inj (Option.some.inj h)
    unfold A.fit at h0
    split at h0 <;> try (simp_all; done)
    · rename_i e1 l e2 nil xs heq
      injection heq with heq; subst heq
      split at h0
      · rename_i hb
        have := Sh.beq_eq hb; subst this
        obtain ⟨rfl, rfl⟩ := Prod.mk.inj (Option.some.inj h0)
        exact .inl ⟨_, _, _, rfl, rfl, rfl⟩
      · cases h0
    · rename_i e1 e2 heq
      injection heq with heq; subst heq
      split at h0
      · rename_i hb
        have := Sh.beq_eq hb; subst this
        obtain ⟨rfl, rfl⟩ := Prod.mk.inj (Option.some.inj h0)
        exact .inr ⟨rfl, rfl, rfl⟩
      · cases h0
theorem sortS_ent {P : Program} {ρ : Ren} (L : Lays.n190 P ρ) {f : Nat} (hf : ρ.f 190 = f) (es : ∀ args w, (callFunc f args).run P w = .ok (.enter f args) w) : OkEntK True P ⟨f, [.own .str], sortValS, [sortResS]⟩ := by
  subst hf
  intro ts ps ls hfit v hval gr hgr
  simp only [sortValS] at hval
  split at hval
  case isFalse => cases hval
  rename_i hl
  obtain rfl := Option.some.inj hval
  simp only [List.getElem?_cons_zero] at hgr
  obtain rfl := Option.some.inj hgr
  rcases fitL_sortS hfit with ⟨l, nil, xs, rfl, rfl, rfl⟩ | ⟨rfl, rfl, rfl⟩
  · exact sortS_sim L es hl
  · exact sim_nil (sortS_sim L es hl)
end Go.Eng
end
/-! Plain facts for reading trees: leaves, loops, tests. Conditions: none. -/
section
set_option linter.unusedVariables false
namespace Go.Eng
theorem lf0 (p : P) (r : List P) : lf (p :: r) 0 = p := rfl
theorem lfs (p : P) (r : List P) (n : Nat) : lf (p :: r) (n + 1) = lf r n := rfl
theorem nb_same (n : Nat) : Nat.beq n n = true := beq_iff.2 rfl
theorem nb_lt (a b : Nat) (h : a ≠ b) : Nat.beq a b = false := by
  cases hb : Nat.beq a b with
  | false => rfl
  | true => exact absurd (beq_iff.1 hb) h
theorem toInt_int (k : IntKind) (n : Int) : (P.int k n).toInt = n := rfl
theorem toBool_bool (b : Bool) : (P.bool b).toBool = b := rfl
theorem toStr_str (s : ByteArray) : (P.str s).toStr = s := rfl
theorem xs_list (n : Bool) (l : List P) : (P.list n l).xs = l := rfl
theorem nil_list (n : Bool) (l : List P) : (P.list n l).isNil = n := rfl
theorem fst_pair (a b : P) : (P.pair a b).fst = a := rfl
theorem snd_pair (a b : P) : (P.pair a b).snd = b := rfl
section
variable {step : List P → Tree Step} {ls ls' : List P} {y : Nat × List P}
/-- The loop ends so, within k rounds. -/
def Lp (k : Nat) (step : List P → Tree Step) (ls : List P) (y : Nat × List P) : Prop := ∀ n, k ≤ n → loopT step n ls = some y
theorem Lp.done {k : Nat} (h : ∀ K : Step → Option (Nat × List P), (step ls).run K = K (.inr y)) : Lp (k + 1) step ls y := by
  intro n hn
  cases n with
  | zero => omega
  | succ n => simp only [loopT]; rw [h]
theorem Lp.next {k : Nat} (h : ∀ K : Step → Option (Nat × List P), (step ls).run K = K (.inl ls')) (g : Lp k step ls' y) : Lp (k + 1) step ls y := by
  intro n hn
  cases n with
  | zero => omega
  | succ n => simp only [loopT]; rw [h]; exact g n (by omega)
theorem Lp.mono {k k' : Nat} (h : Lp k step ls y) (hk : k ≤ k') : Lp k' step ls y := fun n hn => h n (by omega)
/-- A loop that looks at one thing after the other: the first that ends it, or else the end. -/
theorem Lp.scan {st : Nat → List P} {y1 : Nat × List P} {bad : Nat → Option (Nat × List P)} {n : Nat}
    (hs : ∀ i, i < n → ∀ K : Step → Option (Nat × List P), (step (st i)).run K = match bad i with | some z => K (.inr z) | none => K (.inl (st (i + 1))))
    (he : ∀ K : Step → Option (Nat × List P), (step (st n)).run K = K (.inr y1)) : ∀ (d i : Nat), i + d = n → Lp (d + 1) step (st i) (((List.range' i d).findSome? bad).getD y1) := by
  intro d
  induction d with
  | zero => intro i hi; obtain rfl : i = n := by omega
            exact Lp.done he
  | succ d ih =>
    intro i hi
    rw [List.range'_succ, List.findSome?_cons]
    cases hb : bad i with
    | some z => exact Lp.done fun K => by rw [hs i (by omega) K, hb]; rfl
    | none => exact Lp.next (fun K => by rw [hs i (by omega) K, hb]) (ih (i + 1) (by omega))
theorem loop_scan {st : Nat → List P} {y1 : Nat × List P} {bad : Nat → Option (Nat × List P)} (n : Nat) (hn : n < 4611686018427387904)
    (hs : ∀ i, i < n → ∀ K : Step → Option (Nat × List P), (step (st i)).run K = match bad i with | some z => K (.inr z) | none => K (.inl (st (i + 1))))
    (he : ∀ K : Step → Option (Nat × List P), (step (st n)).run K = K (.inr y1)) : loopT step FUEL (st 0) = some (((List.range' 0 n).findSome? bad).getD y1) :=
  Lp.scan hs he n 0 (by omega) _ (Nat.le_trans (by omega) le_fuel)
/-- A loop that ends at the first thing that is not as it should be. -/
theorem loop_all {st : Nat → List P} {y1 z : Nat × List P} {ok : Nat → Bool} (n : Nat) (hn : n < 4611686018427387904)
    (hs : ∀ i, i < n → ∀ K : Step → Option (Nat × List P), (step (st i)).run K = if ok i = true then K (.inl (st (i + 1))) else K (.inr z))
    (he : ∀ K : Step → Option (Nat × List P), (step (st n)).run K = K (.inr y1)) : loopT step FUEL (st 0) = some (if (List.range n).all ok = true then y1 else z) := by
  rw [loop_scan (bad := fun i => if ok i = true then none else some z) n hn (fun i hi K => by
    rw [hs i hi K]
    by_cases h : ok i = true
    · simp only [if_pos h]
    · simp only [if_neg h]) he]
  congr 1
  by_cases h : (List.range n).all ok = true
  · rw [if_pos h, List.findSome?_eq_none_iff.2 fun i hi => ?_]
    · rfl
    · rw [List.all_eq_true] at h
      rw [if_pos (h i (List.mem_range.2 (by rw [List.mem_range'] at hi; omega)))]
  · rw [if_neg h]
    have : ∀ l : List Nat, l.all ok ≠ true → (l.findSome? fun i => if ok i = true then none else some z) = some z := by
      intro l
      induction l with
      | nil => intro h; simp at h
      | cons a t ih =>
        intro h
        rw [List.findSome?_cons]
        by_cases ha : ok a = true
        · rw [if_pos ha]; exact ih (by simpa [ha] using h)
        · rw [if_neg ha]
    rw [this _ (by rwa [← List.range_eq_range'])]; rfl
theorem loop_allB {st : Nat → List P} {y1 z : Nat × List P} {ok : Nat → Bool} (n : Nat) (hn : n < 4611686018427387904)
    (hs : ∀ i, i < n → ∀ K : Step → Option (Nat × List P), (step (st i)).run K = bif ok i then K (.inl (st (i + 1))) else K (.inr z))
    (he : ∀ K : Step → Option (Nat × List P), (step (st n)).run K = K (.inr y1)) : loopT step FUEL (st 0) = some (bif (List.range n).all ok then y1 else z) := by
  rw [loop_all (ok := ok) n hn (fun i hi K => by rw [hs i hi K]; cases ok i <;> rfl) he]
  cases (List.range n).all ok <;> rfl
theorem all_getD {α : Type} (p : α → Bool) (d : α) : ∀ l : List α, (List.range l.length).all (fun i => p (l.getD i d)) = l.all p
  | [] => rfl
  | a :: t => by
    rw [List.length_cons, List.range_succ_eq_map, List.all_cons, List.all_map]
    have := all_getD p d t
    simp only [Function.comp_def, List.getD_cons_succ, List.getD_cons_zero, this, List.all_cons]
theorem Lp.fuel {k : Nat} (h : Lp k step ls y) (hk : k ≤ 18446744073709551616) : loopT step FUEL ls = some y := h _ (Nat.le_trans hk le_fuel)
/-- A loop over a list that carries something on. -/
def goOn {α β : Type} (ok : β → α → Bool) (nx : β → α → β) : β → List α → Bool
  | _, [] => true
  | b, a :: t => ok b a && goOn ok nx (nx b a) t
theorem Lp.list {α β : Type} (l : List α) (d : α) (ok : β → α → Bool) (nx : β → α → β) (st : β → Nat → List P) (y1 z : Nat × List P)
    (hs : ∀ b i, i < l.length → ∀ K : Step → Option (Nat × List P), (step (st b i)).run K = bif ok b (l.getD i d) then K (.inl (st (nx b (l.getD i d)) (i + 1))) else K (.inr z))
    (he : ∀ b, ∀ K : Step → Option (Nat × List P), (step (st b l.length)).run K = K (.inr y1)) :
    ∀ (n i : Nat) (b : β), i + n = l.length → Lp (n + 1) step (st b i) (bif goOn ok nx b (l.drop i) then y1 else z) := by
  intro n
  induction n with
  | zero =>
    intro i b h
    obtain rfl : i = l.length := by omega
    rw [List.drop_length]
    exact Lp.done fun K => by rw [he]; rfl
  | succ n ih =>
    intro i b h
    have hi : i < l.length := by omega
    rw [List.drop_eq_getElem_cons hi]
    have e : l.getD i d = l[i] := by simp [List.getD_eq_getElem?_getD, hi]
    simp only [goOn]
    have h0 := hs b i hi
    rw [e] at h0
    cases ho : ok b l[i] with
    | true =>
      refine Lp.next (fun K => by rw [h0 K, ho]; rfl) ?_
      rw [Bool.true_and]
      exact ih (i + 1) _ (by omega)
    | false => exact Lp.done fun K => by rw [h0 K, ho]; rfl
theorem loop_list {α β : Type} (l : List α) (d : α) (ok : β → α → Bool) (nx : β → α → β) (st : β → Nat → List P) (y1 z : Nat × List P) (b : β) (hn : l.length < 4611686018427387904)
    (hs : ∀ b i, i < l.length → ∀ K : Step → Option (Nat × List P), (step (st b i)).run K = bif ok b (l.getD i d) then K (.inl (st (nx b (l.getD i d)) (i + 1))) else K (.inr z))
    (he : ∀ b, ∀ K : Step → Option (Nat × List P), (step (st b l.length)).run K = K (.inr y1)) : loopT step FUEL (st b 0) = some (bif goOn ok nx b l then y1 else z) :=
  (Lp.list l d ok nx st y1 z hs he l.length 0 b (by omega)).fuel (by omega)
end
end Go.Eng
end
/-! Runes of texts: what the model reads at a place. Conditions: none. -/
section
set_option linter.unusedVariables false
set_option linter.unusedSimpArgs false
namespace Go.Eng
theorem byteAt_nat (s : ByteArray) (i : Nat) : byteAt s (i : Int) = ((s.get! i).toNat : Int) := by
  unfold byteAt
  rw [Int.toNat_natCast]
  cases s with | mk d =>
  show ((d.getD i 0).toNat : Int) = ((d[i]!).toNat : Int)
  simp only [Array.getElem!_eq_getD]; rfl
theorem byteAt_lt (s : ByteArray) (i : Int) : 0 ≤ byteAt s i ∧ byteAt s i ≤ 255 := by
  unfold byteAt
  have := (s.data.getD i.toNat 0).toNat_lt
  omega
def val8 (r : Nat) : Bool := (decide ((0 : Int) ≤ r) && decide ((r : Int) < 0xD800)) || (decide ((0xE000 : Int) ≤ r) && decide ((r : Int) ≤ 0x10FFFF))
def dec8 (b0 b1 b2 b3 i n : Nat) : Nat × Nat :=
  if b0 < 0x80 then (b0, 1)
  else if (b0 / 32 == 6 && (decide (i + 1 < n) && b1 / 64 == 2)) = true then
    if b0 % 32 * 64 + b1 % 64 ≥ 0x80 then (b0 % 32 * 64 + b1 % 64, 2) else (0xFFFD, 1)
  else if (b0 / 16 == 14 && (decide (i + 1 < n) && b1 / 64 == 2) && (decide (i + 2 < n) && b2 / 64 == 2)) = true then
    if (decide (b0 % 16 * 4096 + b1 % 64 * 64 + b2 % 64 ≥ 0x800) && val8 (b0 % 16 * 4096 + b1 % 64 * 64 + b2 % 64)) = true then (b0 % 16 * 4096 + b1 % 64 * 64 + b2 % 64, 3) else (0xFFFD, 1)
  else if (b0 / 8 == 30 && (decide (i + 1 < n) && b1 / 64 == 2) && (decide (i + 2 < n) && b2 / 64 == 2) && (decide (i + 3 < n) && b3 / 64 == 2)) = true then
    if (decide (b0 % 8 * 262144 + b1 % 64 * 4096 + b2 % 64 * 64 + b3 % 64 ≥ 0x10000) && val8 (b0 % 8 * 262144 + b1 % 64 * 4096 + b2 % 64 * 64 + b3 % 64)) = true then (b0 % 8 * 262144 + b1 % 64 * 4096 + b2 % 64 * 64 + b3 % 64, 4) else (0xFFFD, 1)
  else (0xFFFD, 1)
theorem decode_dec (s : ByteArray) (i : Nat) : Utf8.decode s i = dec8 (s.get! i).toNat (s.get! (i + 1)).toNat (s.get! (i + 2)).toNat (s.get! (i + 3)).toNat i s.size := by
  unfold Utf8.decode Utf8.valid Utf8.runeError dec8 val8
  rfl
def run8 (b0 b1 b2 b3 : Int) (i n : Nat) : Int × Int :=
  if b0 < 128 then (b0, 1) else
  if 194 ≤ b0 ∧ b0 ≤ 223 then (if i + 1 < n ∧ 128 ≤ b1 ∧ b1 ≤ 191 then (b0 % 32 * 64 + b1 % 64, 2) else (65533, 1)) else
  if 224 ≤ b0 ∧ b0 ≤ 239 then (if i + 2 < n ∧ 128 ≤ b1 ∧ b1 ≤ 191 ∧ 128 ≤ b2 ∧ b2 ≤ 191 ∧ (b0 = 224 → 160 ≤ b1) ∧ (b0 = 237 → b1 ≤ 159) then ((b0 % 16 * 64 + b1 % 64) * 64 + b2 % 64, 3) else (65533, 1)) else
  if 240 ≤ b0 ∧ b0 ≤ 244 then (if i + 3 < n ∧ 128 ≤ b1 ∧ b1 ≤ 191 ∧ 128 ≤ b2 ∧ b2 ≤ 191 ∧ 128 ≤ b3 ∧ b3 ≤ 191 ∧ (b0 = 240 → 144 ≤ b1) ∧ (b0 = 244 → b1 ≤ 143) then (((b0 % 8 * 64 + b1 % 64) * 64 + b2 % 64) * 64 + b3 % 64, 4) else (65533, 1)) else (65533, 1)
set_option maxHeartbeats 2000000 in
theorem dec_run (b0 b1 b2 b3 i n : Nat) (l0 : b0 < 256) (l1 : b1 < 256) (l2 : b2 < 256) (l3 : b3 < 256) : (((dec8 b0 b1 b2 b3 i n).1 : Int), ((dec8 b0 b1 b2 b3 i n).2 : Int)) = run8 b0 b1 b2 b3 i n := by
  unfold dec8 run8 val8
  simp only [Bool.and_eq_true, Bool.or_eq_true, decide_eq_true_eq, beq_iff_eq]
  repeat' split
  all_goals (try simp only [Prod.mk.injEq])
  all_goals first | omega | (refine ⟨?_, ?_⟩ <;> omega) | (exact Prod.ext rfl rfl) | trivial
theorem decode_rune (s : ByteArray) (i : Nat) : (((Utf8.decode s i).1 : Int), ((Utf8.decode s i).2 : Int)) = run8 (byteAt s i) (byteAt s (i + 1 : Nat)) (byteAt s (i + 2 : Nat)) (byteAt s (i + 3 : Nat)) i s.size := by
  rw [decode_dec, byteAt_nat, byteAt_nat, byteAt_nat, byteAt_nat]
  exact dec_run _ _ _ _ _ _ (s.get! i).toNat_lt (s.get! (i + 1)).toNat_lt (s.get! (i + 2)).toNat_lt (s.get! (i + 3)).toNat_lt
end Go.Eng
end
/-! The forms of plain data of a shape. Conditions: none. -/
section
set_option linter.unusedVariables false
namespace Go.Eng
def Cn : Sh → P → Prop
  | .int k, p => ∃ n, p = .int k n
  | .bool, p => ∃ b, p = .bool b
  | .str, p => ∃ s, p = .str s
  | .slice e, p => ∃ n xs, p = .list n xs ∧ (n = true → xs = []) ∧ ∀ x ∈ xs, Cn e x
  | .pair a b, p => ∃ x y, p = .pair x y ∧ Cn a x ∧ Cn b y
  | .unit, p => p = .unit
  | .arr n e, p => ∃ xs, p = .list false xs ∧ xs.length = n ∧ ∀ x ∈ xs, Cn e x
  | _, p => p = .nilp
theorem rd_mem {xs : List P} {x : P} (h : x ∈ xs) : ∃ i, i < xs.length ∧ rd xs i = x := by
  obtain ⟨i, hi, rfl⟩ := List.getElem_of_mem h
  exact ⟨i, hi, by simp [rd, List.getD_eq_getElem?_getD, List.getElem?_eq_getElem hi]⟩
theorem Rep.cn {w : World} {F : Cells} : ∀ (s : Sh) (p : P) (cs : List Value), Rep w F s p cs → Cn s p
  | .int _, _, _, ⟨n, h, _⟩ => ⟨n, h⟩
  | .bool, _, _, ⟨n, h, _⟩ => ⟨n, h⟩
  | .str, _, _, ⟨n, h, _⟩ => ⟨n, h⟩
  | .fn, _, _, h => h.1
  | .ptr, _, _, h => h.1
  | .map, _, _, h => h.1
  | .unit, _, _, h => h.1
  | .slice e, _, _, ⟨a, xs, cap, h1, h2, h3, h4, h5⟩ => ⟨a.isNone, xs, h1, fun hn => by
      have ha : a = none := by simpa using hn
      have := h4 ha
      exact List.eq_nil_of_length_eq_zero (by omega), fun x hx => by
      obtain ⟨i, hi, rfl⟩ := rd_mem hx
      obtain ⟨b, o, c, _, g, _⟩ := h5 i hi
      exact Rep.cn e _ _ g⟩
  | .pair a b, _, _, ⟨x, y, c, d, h1, h2, h3, h4⟩ => ⟨x, y, h1, Rep.cn a _ _ h3, Rep.cn b _ _ h4⟩
  | .arr n e, _, _, ⟨xs, h1, h2, h3, h4⟩ => ⟨xs, h1, h2, fun x hx => by
      obtain ⟨i, hi, rfl⟩ := rd_mem hx
      exact Rep.cn e _ _ (h4 i (by omega))⟩
theorem TRel1.cn {ml : Lm} {w : World} {F : Cells} {s : Sh} {p : P} {v : Value} {R : List Rng} (h : TRel1 ml w F (.imm s p) v R) : Cn s p := by
  have h : if T.isAgg (.imm s p) = true then ∃ cs, v = .agg cs ∧ TRel ml w F (.imm s p) cs.toList R else TRel ml w F (.imm s p) [v] R := h
  by_cases hg : T.isAgg (.imm s p) = true
  · rw [if_pos hg] at h
    obtain ⟨cs, _, h⟩ := h
    exact Rep.cn s p _ h.1
  · rw [if_neg hg] at h
    exact Rep.cn s p _ h.1
end Go.Eng
end
