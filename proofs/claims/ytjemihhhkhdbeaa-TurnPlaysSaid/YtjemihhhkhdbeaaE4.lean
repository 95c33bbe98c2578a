/- The engine, part 4: what it reckons of the code is what the code does. Conditions: none but those each theorem states. -/
import Derived.Test.YtjemihhhkhdbeaaE3
import Derived.Deep.Slices
import Derived.Deep.Fields
import Derived.ChangeSame
import Derived.ProofKit
import Derived.OpenShut
import Derived.SizedLaws
/-! Arguments that are read: plain data. Conditions: none; what is read is what the row's own reading gives. -/
section
set_option linter.unusedVariables false
set_option linter.unusedSimpArgs false
namespace Go.Eng
open Go.RowKit Go.ChangeShapes Go.WideShapes Go.Deep
/-- What is known of plain data that is read: whole numbers are of their kind, lengths are bounded. -/
def Gd : Sh → P → Prop
  | .int k, p => (Lit.int k p.toInt).wf = true
  | .str, p => p.toStr.size ≤ maxLen
  | .slice e, p => p.xs.length ≤ maxLen ∧ ∀ x ∈ p.xs, Gd e x
  | .pair a b, p => Gd a p.fst ∧ Gd b p.snd
  | .arr _ e, p => ∀ x ∈ p.xs, Gd e x
  | _, _ => True
/-- Is the type made of whole numbers, bools, strings, slices, arrays and structs, the fields one after the other? -/
def argOk (p : Program) : Nat → TypeId → Bool
  | 0, _ => false
  | n + 1, t => match p.underlying t with
    | some .bool | some (.int _) | some .string => true
    | some (.slice e) => (match shOf p n e with | some s => Nat.blt 0 s.size | none => false) && argOk p n e
    | some (.struct fs) => offsB p n 0 fs.toList && fs.toList.all fun f => argOk p n f.type
    | _ => false
variable {P : Program}
theorem shOf_succ {n : Nat} {t : TypeId} {sh : Sh} (h : shOf P (n + 1) t = some sh) : tyOk P t sh = true ∧ (match P.underlying t with
    | some .bool => some .bool
    | some (.int k) => some (.int k)
    | some .string => some .str
    | some (.slice e) => (shOf P n e).map .slice
    | some (.struct fs) => pairs (fs.toList.map fun f => shOf P n f.type)
    | some (.array k e) => (shOf P n e).map (.arr k)
    | some (.pointer _) => some .ptr
    | some (.map _ _) => some .map
    | some (.func _ _ _) => some .fn
    | _ => none) = some sh := by
  simp only [shOf] at h
  split at h
  · rename_i s hs
    split at h
    · rename_i ht
      obtain rfl := Option.some.inj h
      exact ⟨ht, hs⟩
    · cases h
  · cases h
theorem cells_sh {n : Nat} {t : TypeId} {sh : Sh} (h : shOf P n t = some sh) : P.cellsOf t = sh.size := by
  obtain ⟨i, z, h1, h2, _⟩ := (shOf_is h).info
  simp [Program.cellsOf, h1, h2]
theorem cell_spot {w : World} {a : Addr} {v : Value} (h : w.cell? a = some v) : a = mkA a.block a.off := by
  obtain ⟨b, o, sp⟩ := a
  unfold World.cell? at h
  cases sp with
  | none => rfl
  | some k =>
    simp only at h
    split at h
    · simp at h
    · cases h
theorem choose_rd (R : Nat → Eng.P → Prop) : ∀ n : Nat, (∀ i, i < n → ∃ p, R i p) → ∃ l : List Eng.P, l.length = n ∧ ∀ i, i < n → R i (rd l i)
  | 0, _ => ⟨[], rfl, fun i hi => absurd hi (by omega)⟩
  | n + 1, h => by
    obtain ⟨l, h1, h2⟩ := choose_rd R n fun i hi => h i (by omega)
    obtain ⟨p, hp⟩ := h n (by omega)
    refine ⟨l ++ [p], by simp [h1], fun i hi => ?_⟩
    by_cases hiq : i < n
    · have : rd (l ++ [p]) i = rd l i := by simp only [rd, List.getD_eq_getElem?_getD]; rw [List.getElem?_append_left (by omega)]
      rw [this]; exact h2 i hiq
    · have hiq : i = n := by omega
      subst hiq
      have : rd (l ++ [p]) i = p := by simp only [rd, List.getD_eq_getElem?_getD]; rw [List.getElem?_append_right (by omega), h1]; simp
      rw [this]; exact hp
/-- The fields of a struct, from the place `off` on. -/
theorem flds_rep {n : Nat} {H : Type} {enc : TypeId × Value → H} {w : World} {base : Nat} {spare : Nat → Bool} {held : Bool} {cs : List Value}
    (ih : ∀ t sh, shOf P n t = some sh → argOk P n t = true → ∀ {fuel : Nat} {cs : List Value} {x : DataW H × List MemPlace}, DataW.trod enc P w base spare held fuel t cs = some x → ∃ p, Rep w (fun _ _ => False) sh p cs ∧ Gd sh p) :
    ∀ (fs : List Field) (off : Nat) (sh : Sh), pairs (fs.map fun f => shOf P n f.type) = some sh → offsB P n off fs = true → (fs.all fun f => argOk P n f.type) = true →
      (∀ f ∈ fs, ∃ m y, DataW.trod enc P w base spare held m f.type ((cs.drop f.offset).take (P.cellsOf f.type)) = some y) → cs.length = off + sh.size → ∃ p, Rep w (fun _ _ => False) sh p (cs.drop off) ∧ Gd sh p
  | [], off, sh, hp, ho, ha, hf, hl => by
    simp only [List.map_nil, pairs, Option.some.injEq] at hp
    subst hp
    exact ⟨.unit, ⟨rfl, by simp [Sh.size] at hl; exact List.drop_of_length_le (by omega)⟩, trivial⟩
  | f :: r, off, sh, hp, ho, ha, hf, hl => by
    simp only [List.map_cons, pairs] at hp
    split at hp
    · rename_i s1 s2 h1 h2
      obtain rfl := Option.some.inj hp
      simp only [offsB, Bool.and_eq_true] at ho
      obtain ⟨ho1, ho2⟩ := ho
      have ho1 := beq_iff.1 ho1
      rw [h1] at ho2
      simp only [List.all_cons, Bool.and_eq_true] at ha
      simp only [Sh.size] at hl
      obtain ⟨m, y, hy⟩ := hf f (by simp)
      obtain ⟨p, hp1, hp2⟩ := ih f.type s1 h1 ha.1 hy
      rw [cells_sh h1, ho1] at hp1
      obtain ⟨q, hq1, hq2⟩ := flds_rep ih r (off + s1.size) s2 h2 ho2 ha.2 (fun f' hf' => hf f' (by simp [hf'])) (by omega)
      refine ⟨.pair p q, ⟨p, q, _, _, rfl, ?_, hp1, hq1⟩, hp2, hq2⟩
      rw [← List.drop_drop, List.take_append_drop]
    · cases hp
theorem trod_rep {H : Type} {enc : TypeId × Value → H} {w : World} {base : Nat} {spare : Nat → Bool} {held : Bool} : ∀ (n : Nat) (t : TypeId) (sh : Sh), shOf P n t = some sh → argOk P n t = true →
    ∀ {fuel : Nat} {cs : List Value} {x : DataW H × List MemPlace}, DataW.trod enc P w base spare held fuel t cs = some x → ∃ p, Rep w (fun _ _ => False) sh p cs ∧ Gd sh p
  | 0, t, sh, hs, ha, fuel, cs, x, h => by simp [argOk] at ha
  | n + 1, t, sh, hs, ha, fuel, cs, x, h => by
    obtain ⟨hty, hs⟩ := shOf_succ hs
    have hsz : P.cellsOf t = sh.size := by
      obtain ⟨i, z, h1, h2, _⟩ := tyOk_spec hty
      simp [Program.cellsOf, h1, h2]
    simp only [argOk] at ha
    split at ha
    · rename_i hu
      simp only [hu, Option.some.injEq] at hs
      subst hs
      obtain ⟨b, rfl, _⟩ := DataW.trod_bool hu h
      exact ⟨.bool b, ⟨b, rfl, rfl⟩, trivial⟩
    · rename_i k hu
      simp only [hu, Option.some.injEq] at hs
      subst hs
      obtain ⟨i, rfl, _, hw⟩ := DataW.trod_int hu h
      exact ⟨.int k i, ⟨i, rfl, rfl⟩, hw⟩
    · rename_i hu
      simp only [hu, Option.some.injEq] at hs
      subst hs
      obtain ⟨s, rfl, _, hw⟩ := DataW.trod_string hu h
      exact ⟨.str s, ⟨s, rfl, rfl⟩, hw⟩
    · rename_i e hu
      simp only [hu, Option.map_eq_some_iff] at hs
      obtain ⟨se, hse, rfl⟩ := hs
      rw [hse] at ha
      simp only [Bool.and_eq_true, Nat.blt_eq] at ha
      obtain ⟨hpos, ha⟩ := ha
      have hce := cells_sh hse
      rcases open_slice hu h with ⟨rfl, _⟩ | ⟨a, len, cap, m, k, D, Pl, rfl, _, hl, hm, hmm, _, hi⟩
      · exact ⟨.list true [], ⟨none, [], 0, rfl, rfl, Nat.le_refl _, fun _ => rfl, fun i hi => absurd hi (by simp)⟩, by simp [Eng.P.xs], by simp [Eng.P.xs]⟩
      · have hlm : len ≤ m := by rw [hmm]; split <;> omega
        have key : ∀ i, i < len → ∃ p c, Rep w (fun _ _ => False) se p c ∧ Gd se p ∧ ∀ j v, c[j]? = some v → w.cell? (a.add (i * se.size + j)) = some v := by
          intro i hil
          obtain ⟨cs', hcs, ht⟩ := hi i (by omega)
          obtain ⟨p, hp1, hp2⟩ := trod_rep n e se hse ha ht
          obtain ⟨_, hcl, hat⟩ := World.cells?_some hcs
          rw [hce] at hcl hat
          refine ⟨p, cs', hp1, hp2, fun j v hj => ?_⟩
          have hjl : j < se.size := by rw [← hcl]; exact (List.getElem?_eq_some_iff.1 hj).1
          rw [← Go.Deep.add_add, hat j hjl, hj]
        have hlist := choose_rd (fun i p => ∃ c, Rep w (fun _ _ => False) se p c ∧ Gd se p ∧ ∀ j v, c[j]? = some v → w.cell? (a.add (i * se.size + j)) = some v) len (fun i hi => by obtain ⟨p, c, q⟩ := key i hi; exact ⟨p, c, q⟩)
        obtain ⟨l, h1, h2⟩ := hlist
        refine ⟨.list false l, ⟨some a, l, cap, rfl, by rw [h1], by omega, fun e0 => (by cases e0), fun i hi => ?_⟩, by show l.length ≤ _; omega, fun y hy => ?_⟩
        · obtain ⟨c, g1, _, g3⟩ := h2 i (by omega)
          have hc0 : 0 < c.length := by rw [g1.len]; exact hpos
          have hsp : a = mkA a.block a.off := by
            obtain ⟨c0, k1, _, k3⟩ := h2 0 (by omega)
            have := k3 0 _ (List.getElem?_eq_getElem (by rw [k1.len]; exact hpos))
            rw [show 0 * se.size + 0 = 0 from by simp] at this
            have := cell_spot this
            simpa [Addr.add] using this
          refine ⟨a.block, a.off, c, by rw [← hsp], g1, fun j v hj => ⟨?_, fun q => q⟩⟩
          have := g3 j v hj
          rw [hsp, mkA_add] at this
          rw [Nat.add_assoc]; exact this
        · obtain ⟨j, hj⟩ := List.getElem?_of_mem hy
          have hjl : j < l.length := (List.getElem?_eq_some_iff.1 hj).1
          obtain ⟨_, _, g2, _⟩ := h2 j (by omega)
          have hj' : l[j]? = some y := hj
          have : rd l j = y := by simp only [rd, List.getD_eq_getElem?_getD, hj']; rfl
          rw [this] at g2; exact g2
    · rename_i fs hu
      simp only [hu] at hs
      simp only [Bool.and_eq_true] at ha
      obtain ⟨xs, m, _, _, hl, hlen, hf⟩ := DataW.trod_struct hu h
      obtain ⟨p, hp1, hp2⟩ := flds_rep (enc := enc) (w := w) (base := base) (spare := spare) (held := held) (cs := cs) (fun t sh hs ha {_ _ _} h => trod_rep n t sh hs ha h) fs.toList 0 sh hs ha.1 ha.2 (fun f hf' => by
        obtain ⟨i, hi⟩ := List.getElem?_of_mem hf'
        have hi' : fs[i]? = some f := by simpa using hi
        have hlt : i < fs.size := (Array.getElem?_eq_some_iff.1 hi').1
        exact ⟨m, _, (hf i f hi').trans (List.getElem?_eq_getElem (by omega))⟩) (by rw [hl, hsz]; omega)
      exact ⟨p, by simpa using hp1, hp2⟩
    · cases ha
end Go.Eng
end
/-! A law's row out of its function's contract. Conditions: none. -/
section
set_option linter.unusedVariables false
set_option linter.unusedSimpArgs false
namespace Go.Eng
open Go.RowKit Go.ChangeShapes Go.WideShapes Go.Deep
variable {P : Program}
theorem arg_trel {H : Type} {enc : TypeId × Value → H} {w : World} {base base' : Nat} {spare : Nat → Bool} {held : Bool} {n : Nat} {t : TypeId} {sh : Sh} {v : Value} {d : DataW H} {pl : List MemPlace} (hs : shOf P n t = some sh) (ha : argOk P n t = true)
    (ho : Value.okWide P w .any base' t v) (h : DataW.Trod enc P w base spare held t v d pl) : ∃ p, Gd sh p ∧ ∀ ml, TRel1 ml w (fun _ _ => False) (.imm sh p) v [] := by
  obtain ⟨fuel, h⟩ := h
  obtain ⟨p, h1, h2⟩ := trod_rep n t sh hs ha h
  refine ⟨p, h2, fun ml => ?_⟩
  show if sh.isAgg then ∃ cs, v = .agg cs ∧ TRel ml w (fun _ _ => False) (.imm sh p) cs.toList [] else TRel ml w (fun _ _ => False) (.imm sh p) [v] []
  obtain ⟨dd, hu, hag⟩ := (shOf_is hs).und
  cases n with
  | zero => simp [argOk] at ha
  | succ n =>
    simp only [argOk] at ha
    unfold Value.okWide at ho
    split at ha
    · rename_i hu'
      rw [hu'] at hu; cases hu
      rw [if_neg (by rw [← hag]; simp [isAggD])]
      simp only [hu', Cell.okWide] at ho
      cases v <;> simp_all [Value.cells, TRel, Cell.ok]
    · rename_i hu'
      rw [hu'] at hu; cases hu
      rw [if_neg (by rw [← hag]; simp [isAggD])]
      simp only [hu', Cell.okWide] at ho
      cases v <;> simp_all [Value.cells, TRel, Cell.ok]
    · rename_i hu'
      rw [hu'] at hu; cases hu
      rw [if_neg (by rw [← hag]; simp [isAggD])]
      simp only [hu', Cell.okWide] at ho
      cases v <;> simp_all [Value.cells, TRel, Cell.ok]
    · rename_i hu'
      rw [hu'] at hu; cases hu
      rw [if_neg (by rw [← hag]; simp [isAggD])]
      simp only [hu', Cell.okWide] at ho
      cases v <;> simp_all [Value.cells, TRel, Cell.ok]
    · rename_i hu'
      rw [hu'] at hu; cases hu
      rw [if_pos (by rw [← hag]; rfl)]
      simp only [hu'] at ho
      obtain ⟨cs, rfl, _⟩ := ho
      exact ⟨cs, rfl, by simpa [Value.cells] using h1, rfl⟩
    · cases ha
/-- A law's call: it tells true, and leaves what was there. -/
theorem law_callsT {X : Cells} {f : FuncId} {ts as : List T} {w : World} {cargs : List Value} (hcall : ∀ args w, (callFunc f args).run P w = .ok (.enter f args) w) {K0 : Par} (hs : Sim K0 P f ts [.imm .bool (.bool true)] as)
    (hA : TRelL (fun _ => .arr none 0 0 .unit) w X ts cargs []) (hXs : ∀ b o, X b o → b < w.heap.size) (hT : TabOk K0 X w) : Calls P f cargs.toArray w fun e w' => e = .returned (.bool true) ∧ Below w.heap.size w w' := by
  have hF : (fun (b o : Nat) => X b o ∨ inRs [] b o) = X := by funext b o; simp [inRs]
  have := hs X (fun _ => .arr none 0 0 .unit) w cargs [] (by rw [hF]; exact hA) List.Pairwise.nil (fun b o q => by obtain ⟨r, hr, _⟩ := q; cases hr) hXs hT
  have key : Calls P f cargs.toArray w fun e w' => ∃ vs R', e = .returned (retV vs) ∧ Fr K0 w.heap.size (inRs []) w w' ∧
      TRelL (fun _ => .arr none 0 0 .unit) w' (fun b o => X b o ∨ inRs R' b o) ([T.imm .bool (.bool true)] ++ as) (vs ++ cargs) R' ∧ Dj R' ∧ (∀ b o, inRs R' b o → inRs [] b o ∨ w.heap.size ≤ b) ∧ vs.length = [T.imm .bool (.bool true)].length := by
    rcases this with ⟨g, h1, h2⟩ | ⟨v, w', h1, _⟩
    · rw [hcall] at h1
      injection h1 with h1
      injection h1 with h1
      subst h1; exact h2
    · rw [hcall] at h1
      injection h1 with h1
      cases h1
  refine key.mono ?_
  rintro e w' ⟨vs, R', rfl, hfr, hrel, _, _, hlen⟩
  obtain ⟨Q, S, rfl, h1, h2⟩ := TRelL.append [T.imm .bool (.bool true)] hlen hrel
  obtain ⟨v, q, Q1, S1, rfl, rfl, h3, rfl, rfl⟩ := h1
  obtain ⟨⟨b, hb, h4⟩, _⟩ := h3
  injection hb with hb; injection h4 with h4
  subst hb; subst h4
  exact ⟨rfl, hfr.below fun b o _ hr => by obtain ⟨r, hr, _⟩ := hr; cases hr⟩
theorem law_calls {f : FuncId} {ts as : List T} {w : World} {cargs : List Value} (hcall : ∀ args w, (callFunc f args).run P w = .ok (.enter f args) w) {dk : Prop} (hs : Sim ⟨dk, []⟩ P f ts [.imm .bool (.bool true)] as)
    (hA : TRelL (fun _ => .arr none 0 0 .unit) w (fun _ _ => False) ts cargs []) : Calls P f cargs.toArray w fun e w' => e = .returned (.bool true) ∧ Below w.heap.size w w' :=
  law_callsT hcall hs hA (fun _ _ q => q.elim) fun z hz => by cases hz
end Go.Eng
end
/-! The told pieces of a function's code, by their places. Conditions: none. -/
section
set_option linter.unusedVariables false
namespace Go.Eng
theorem cut_at {l : List (Nat × Code)} {p : Nat} {x x' : Code} (h : l.filter (fun z => Nat.beq z.1 p) = [(p, x)]) (hm : (p, x') ∈ l) : x' = x := by
  have : (p, x') ∈ l.filter (fun z => Nat.beq z.1 p) := List.mem_filter.2 ⟨hm, beq_iff.2 rfl⟩
  rw [h] at this
  have := List.mem_singleton.1 this
  exact (Prod.mk.inj this).2
theorem lok_none {K0 : Par} {c : Cx} {p : Nat} {x : Code} (h : ∀ s, c.L p s = none) : LOk K0 c p x := by
  intro s e he
  rw [h] at he; cases he
end Go.Eng
end
/-! Entries: a function's contract as data; cuts as data; the function's proof put together. Conditions: none. -/
section
set_option linter.unusedVariables false
namespace Go.Eng

/-- A function's contract for arguments of one form. -/
structure EntD where
  f : FuncId
  tm : List A
  val : List P → Option (Nat × List P)
  res : List (List P → List Nat → List P → Res)
def envOf : List EntD → Env
  | [], _, _ => none
  | e :: r, f, ts => bif Nat.beq f e.f then (match fitL e.tm ts with
    | some (ps, ls) => some ⟨e.val ps, e.res.map fun f => f ps ls⟩
    | none => envOf r f ts) else envOf r f ts
def OkEntK (K : Par) (p : Program) (e : EntD) : Prop :=
  ∀ ts ps ls, fitL e.tm ts = some (ps, ls) → ∀ v, e.val ps = some v → ∀ g, e.res[v.1]? = some g → Sim K p e.f ts (g ps ls v.2).ret (g ps ls v.2).args
/-- Draws need not be counted. -/
abbrev OkEnt (p : Program) (e : EntD) : Prop := OkEntK Par.no p e
def OkEnts (K : Par) (p : Program) : List EntD → Prop
  | [] => True
  | e :: r => OkEntK K p e ∧ OkEnts K p r
theorem Fr.weak {K : Par} {T : List (Nat × Obj)} {B : Nat} {S : Cells} {w w' : World} (h : Fr K B S w w') : Fr ⟨False, T⟩ B S w w' := ⟨h.os, h.tape, h.output, h.size, h.block, h.cell, h.frozen, h.there, fun k => k.elim⟩
/-- What needs no tables holds with them. -/
theorem OkEntK.weakT {dk : Prop} {T : List (Nat × Obj)} {p : Program} {e : EntD} (h : OkEntK ⟨dk, []⟩ p e) : OkEntK ⟨False, T⟩ p e := by
  intro ts ps ls h1 v h2 g h3 X ml w cargs R a1 a2 a3 a4 a5
  rcases h ts ps ls h1 v h2 g h3 X ml w cargs R a1 a2 a3 a4 (fun z hz => by cases hz) with ⟨g', q1, q2⟩ | ⟨v', w', q1, q2⟩
  · exact .inl ⟨g', q1, q2.mono fun e w' ⟨vs, R', z1, z2, z3⟩ => ⟨vs, R', z1, z2.weak, z3⟩⟩
  · obtain ⟨vs, R', z1, z2, z3⟩ := q2
    exact .inr ⟨v', w', q1, vs, R', z1, z2.weak, z3⟩
theorem OkEntK.weak {dk : Prop} {p : Program} {e : EntD} (h : OkEntK ⟨dk, []⟩ p e) : OkEnt p e := h.weakT
theorem good_envOf {K : Par} {p : Program} : ∀ l : List EntD, OkEnts K p l → Good K p (envOf l)
  | [], _ => fun f args e h => by cases h
  | e :: r, h => fun f args x hx v hv g hg => by
    simp only [envOf] at hx
    cases hb : Nat.beq f e.f with
    | false => rw [hb, cond_false] at hx; exact good_envOf r h.2 f args x hx v hv g hg
    | true =>
      rw [hb, cond_true] at hx
      split at hx
      · rename_i ps ls hf
        obtain rfl := Option.some.inj hx
        have := beq_iff.1 hb
        rw [this]
        rw [List.getElem?_map, Option.map_eq_some_iff] at hg
        obtain ⟨g', hg', rfl⟩ := hg
        exact h.1 args ps ls hf v hv g' hg'
      · exact good_envOf r h.2 f args x hx v hv g hg

/-- All pieces of a code, those in loops as well. -/
def cutsAll : Code → Bool → Nat → List (Nat × Code)
  | .seq a b, ask, p => (if ask then [(p, .seq a b)] else []) ++ (cutsAll a true (2 * p) ++ cutsAll b true (2 * p + 1))
  | .cond x a b, ask, p => (if ask then [(p, .cond x a b)] else []) ++ (cutsAll a true (2 * p) ++ cutsAll b true (2 * p + 1))
  | .block id x, ask, p => (if ask then [(p, .block id x)] else []) ++ cutsAll x true (2 * p)
  | .loop x, ask, p => (if ask then [(p, .loop x)] else []) ++ cutsAll x true (2 * p)
  | .scope x, _, p => cutsAll x true (2 * p)
  | _, _, _ => []
theorem cuts_sub : ∀ (code : Code) (ask : Bool) (p : Nat) q x, (q, x) ∈ cutsOf code ask p → (q, x) ∈ cutsAll code ask p := by
  intro code
  induction code with
  | seq a b iha ihb =>
    intro ask p q x hx
    simp only [cutsOf, cutsAll, List.mem_append] at hx ⊢
    rcases hx with hx | hx | hx
    · exact .inl hx
    · exact .inr (.inl (iha _ _ _ _ hx))
    · exact .inr (.inr (ihb _ _ _ _ hx))
  | cond v a b iha ihb =>
    intro ask p q x hx
    simp only [cutsOf, cutsAll, List.mem_append] at hx ⊢
    rcases hx with hx | hx | hx
    · exact .inl hx
    · exact .inr (.inl (iha _ _ _ _ hx))
    · exact .inr (.inr (ihb _ _ _ _ hx))
  | block id a iha =>
    intro ask p q x hx
    simp only [cutsOf, cutsAll, List.mem_append] at hx ⊢
    rcases hx with hx | hx
    · exact .inl hx
    · exact .inr (iha _ _ _ _ hx)
  | loop a iha =>
    intro ask p q x hx
    simp only [cutsAll, List.mem_append]
    exact .inl hx
  | scope a iha =>
    intro ask p q x hx
    simp only [cutsOf, cutsAll] at hx ⊢
    exact iha _ _ _ _ hx
  | _ => intro ask p q x hx; simp [cutsOf] at hx
/-- A told piece of code. -/
inductive Cu where
  | loop (p : Nat) (sk : Sk) (fl : List (Out × Sk)) (step : List P → Tree Step)
  | cut (p : Nat) (sk : Sk) (fl : List (Out × Sk)) (step : List P → Tree (Nat × List P))
def Cu.p : Cu → Nat
  | .loop p _ _ _ | .cut p _ _ _ => p
noncomputable def Cu.ask : Cu → St → Option LEnt
  | .loop _ sk fl step, s => match sk.fit s with | some ls => some ⟨loopT step FUEL ls, fl⟩ | none => none
  | .cut _ sk fl step, s => match sk.fit s with | some ls => some ⟨(step ls).run some, fl⟩ | none => none
noncomputable def lOf : List Cu → Nat → St → Option LEnt
  | [], _, _ => none
  | u :: r, q, s => bif Nat.beq q u.p then u.ask s else lOf r q s
def nodeIn : List (Nat × Code) → Nat → List Code
  | [], _ => []
  | (q, x) :: r, p => bif Nat.beq q p then x :: nodeIn r p else nodeIn r p
def nodeAt (body : Code) (p : Nat) : Code := match nodeIn (cutsAll body true 1) p with | [x] => x | _ => .skip
def oneAt (body : Code) (p : Nat) : Bool := match nodeIn (cutsAll body true 1) p with | [_] => true | _ => false
def loopIn : Code → Code
  | .loop x => x
  | _ => .skip
def isLoop : Code → Bool
  | .loop _ => true
  | _ => false
theorem mem_nodeIn : ∀ {l : List (Nat × Code)} {p : Nat} {x : Code}, (p, x) ∈ l → x ∈ nodeIn l p
  | (q, y) :: r, p, x, h => by
    rcases List.mem_cons.1 h with h | h
    · cases h; simp [nodeIn]
    · simp only [nodeIn]
      cases Nat.beq q p with
      | false => exact mem_nodeIn h
      | true => exact List.mem_cons_of_mem _ (mem_nodeIn h)
theorem nodeAt_eq {body : Code} {p : Nat} {x : Code} (h1 : oneAt body p = true) (h : (p, x) ∈ cutsAll body true 1) : x = nodeAt body p := by
  have := mem_nodeIn h
  cases hn : nodeIn (cutsAll body true 1) p with
  | nil => simp [oneAt, hn] at h1
  | cons y r =>
    cases r with
    | nil => rw [hn] at this; simp only [nodeAt, hn]; exact List.mem_singleton.1 this
    | cons z r => simp [oneAt, hn] at h1
/-- The piece's own equation. -/
def Cu.Ok (c : Cx) (body : Code) : Cu → Prop
  | .loop p sk fl step => (oneAt body p && isLoop (nodeAt body p)) = true ∧ ∀ {R : Type} (ls : List P) (Kr : List P → Option R) (Kx : Nat × List P → Option R),
      exec c (loopIn (nodeAt body p)) true (2 * p) (sk.fill ls) (roundK sk fl Kr Kx) = (step ls).run fun | .inl ls' => Kr ls' | .inr y => Kx y
  | .cut p sk fl step => oneAt body p = true ∧ ∀ {R : Type} (ls : List P) (Kx : Nat × List P → Option R),
      exec c (nodeAt body p) false p (sk.fill ls) (cutK fl Kx) = (step ls).run Kx
def CuOks (c : Cx) (body : Code) : List Cu → Prop
  | [] => True
  | u :: r => u.Ok c body ∧ CuOks c body r

theorem cuts_ind {K0 : Par} {c : Cx} : ∀ (code : Code) (ask : Bool) (p : Nat),
    (∀ q x, (q, x) ∈ cutsAll code ask p → (∀ q' x', (q', x') ∈ cutsAll x false q → LOk K0 c q' x') → LOk K0 c q x) → ∀ q x, (q, x) ∈ cutsAll code ask p → LOk K0 c q x := by
  intro code
  induction code with
  | seq a b iha ihb =>
    intro ask p H
    have Ha := iha true (2 * p) (fun q x hx => H q x (by simp [cutsAll, hx]))
    have Hb := ihb true (2 * p + 1) (fun q x hx => H q x (by simp [cutsAll, hx]))
    intro q x hx
    simp only [cutsAll, List.mem_append] at hx
    rcases hx with hx | hx | hx
    · cases ask with
      | false => simp at hx
      | true =>
        simp at hx; obtain ⟨rfl, rfl⟩ := hx
        exact H _ _ (by simp [cutsAll]) fun q' x' hx' => by
          simp only [cutsAll, List.mem_append] at hx'
          rcases hx' with hx' | hx' | hx'
          · simp at hx'
          · exact Ha _ _ hx'
          · exact Hb _ _ hx'
    · exact Ha _ _ hx
    · exact Hb _ _ hx
  | cond v a b iha ihb =>
    intro ask p H
    have Ha := iha true (2 * p) (fun q x hx => H q x (by simp [cutsAll, hx]))
    have Hb := ihb true (2 * p + 1) (fun q x hx => H q x (by simp [cutsAll, hx]))
    intro q x hx
    simp only [cutsAll, List.mem_append] at hx
    rcases hx with hx | hx | hx
    · cases ask with
      | false => simp at hx
      | true =>
        simp at hx; obtain ⟨rfl, rfl⟩ := hx
        exact H _ _ (by simp [cutsAll]) fun q' x' hx' => by
          simp only [cutsAll, List.mem_append] at hx'
          rcases hx' with hx' | hx' | hx'
          · simp at hx'
          · exact Ha _ _ hx'
          · exact Hb _ _ hx'
    · exact Ha _ _ hx
    · exact Hb _ _ hx
  | block id a iha =>
    intro ask p H
    have Ha := iha true (2 * p) (fun q x hx => H q x (by simp [cutsAll, hx]))
    intro q x hx
    simp only [cutsAll, List.mem_append] at hx
    rcases hx with hx | hx
    · cases ask with
      | false => simp at hx
      | true =>
        simp at hx; obtain ⟨rfl, rfl⟩ := hx
        exact H _ _ (by simp [cutsAll]) fun q' x' hx' => by
          simp only [cutsAll, List.mem_append] at hx'
          rcases hx' with hx' | hx'
          · simp at hx'
          · exact Ha _ _ hx'
    · exact Ha _ _ hx
  | loop a iha =>
    intro ask p H
    have Ha := iha true (2 * p) (fun q x hx => H q x (by simp [cutsAll, hx]))
    intro q x hx
    simp only [cutsAll, List.mem_append] at hx
    rcases hx with hx | hx
    · cases ask with
      | false => simp at hx
      | true =>
        simp at hx; obtain ⟨rfl, rfl⟩ := hx
        exact H _ _ (by simp [cutsAll]) fun q' x' hx' => by
          simp only [cutsAll, List.mem_append] at hx'
          rcases hx' with hx' | hx'
          · simp at hx'
          · exact Ha _ _ hx'
    · exact Ha _ _ hx
  | scope a iha =>
    intro ask p H q x hx
    simp only [cutsAll] at hx
    exact iha true (2 * p) (fun q x hx => H q x (by simpa [cutsAll] using hx)) q x hx
  | _ => intro ask p H q x hx; simp [cutsAll] at hx

theorem lOf_ok {K0 : Par} {c : Cx} (hG : Good K0 c.p c.E) {body : Code} : ∀ (us : List Cu), CuOks c body us → ∀ (P : Nat → Prop), (∀ q, P q → c.L q = lOf us q) → ∀ q x, P q → (q, x) ∈ cutsAll body true 1 → (∀ q' x', (q', x') ∈ cutsAll x false q → LOk K0 c q' x') → LOk K0 c q x
  | [], _, P, hL, q, x, hq, _, _ => lok_none fun s => by rw [hL q hq]; rfl
  | u :: r, h, P, hL, q, x, hq, hx, hin => by
    cases hb : Nat.beq q u.p with
    | false =>
      refine lOf_ok hG r h.2 (fun q => P q ∧ Nat.beq q u.p = false) (fun q hq => ?_) q x ⟨hq, hb⟩ hx hin
      rw [hL q hq.1]; funext s; simp only [lOf]; rw [hq.2]; rfl
    | true =>
      have e := beq_iff.1 hb
      have ha : c.L q = u.ask := by rw [hL q hq]; funext s; simp only [lOf]; rw [hb]; rfl
      have hu := h.1
      cases u with
      | loop p sk fl step =>
        simp only [Cu.p] at e; subst e
        obtain ⟨h1, h2⟩ := hu
        simp only [Bool.and_eq_true] at h1
        have hn := nodeAt_eq h1.1 hx
        subst hn
        have hlp := h1.2
        generalize nodeAt body q = z at *
        cases z <;> simp only [isLoop] at hlp <;> try (cases hlp)
        exact loop_ok hG (fun s => by rw [ha]; rfl) (fun ls Kr Kx => h2 ls Kr Kx) (fun q' x' hx' => hin q' x' (by simp [cutsAll, cuts_sub _ _ _ _ _ hx']))
      | cut p sk fl step =>
        simp only [Cu.p] at e; subst e
        obtain ⟨h1, h2⟩ := hu
        have hn := nodeAt_eq h1 hx
        subst hn
        exact cut_ok hG (fun s => by rw [ha]; rfl) (fun ls Kx => h2 ls Kx) (fun q' x' hx' => hin q' x' (cuts_sub _ _ _ _ _ hx'))

/-- How many leaves a template has. -/
def A.leaves : A → Nat
  | .imm _ | .iptr _ | .own _ | .blk _ => 1
  | .pel _ => 2
  | .box _ a => a.leaves
  | .fn _ a => a.leaves
  | .pair a b => a.leaves + b.leaves
def leavesL : List A → Nat
  | [] => 0
  | a :: r => a.leaves + leavesL r
theorem fit_len (a : A) (t : T) : ∀ (ps : List P) (ls : List Nat), a.fit t = some (ps, ls) → ps.length = a.leaves := by
  fun_induction A.fit a t <;> intro qs ms h <;> first | (cases h; done) | (cases h; simp_all [A.leaves]; done) | (simp_all [A.leaves]; done) | (injection h with h; injection h with h1 h2; subst h1; simp_all [A.leaves])
theorem fitL_len : ∀ (as : List A) (ts : List T) (ps : List P) (ls : List Nat), fitL as ts = some (ps, ls) → ps.length = leavesL as
  | [], [], ps, ls, h => by cases h; rfl
  | [], _ :: _, ps, ls, h => by cases h
  | _ :: _, [], ps, ls, h => by cases h
  | a :: r, t :: q, ps, ls, h => by
    simp only [fitL] at h
    split at h
    · rename_i h1 h2; cases h; simp [leavesL, fit_len _ _ _ _ h1, fitL_len _ _ _ _ h2]
    · cases h
def explF (ps : List P) : Nat → Nat → List P
  | 0, _ => []
  | n + 1, i => lf ps i :: explF ps n (i + 1)
theorem explF_eq : ∀ (n i : Nat) (ps : List P), explF ps n i = ((List.range' i n).map (lf ps))
  | 0, _, _ => rfl
  | n + 1, i, ps => by simp [explF, List.range'_succ, explF_eq n (i + 1) ps]
theorem lf_cons (p : P) (ps : List P) (i : Nat) : lf (p :: ps) (i + 1) = lf ps i := rfl
theorem expl_cons (p : P) (ps : List P) : ∀ (n i : Nat), explF (p :: ps) n (i + 1) = explF ps n i
  | 0, _ => rfl
  | n + 1, i => by simp only [explF]; rw [lf_cons, expl_cons p ps n (i + 1)]
theorem expl_self : ∀ (ps : List P), explF ps ps.length 0 = ps
  | [] => rfl
  | p :: ps => by simp only [List.length_cons, explF]; rw [expl_cons, expl_self ps]; rfl
theorem run_bind {α R : Type} (t : Tree α) (K : α → Option R) : t.run K = (t.run some).bind K := by
  induction t with
  | ret a => rfl
  | fail => rfl
  | ite b x y hx hy => cases b <;> simp [Tree.run, hx, hy]
  | call v k ih => cases v <;> simp [Tree.run, ih]
  | loop v k ih => cases v <;> simp [Tree.run, ih]
/-- A function's contract out of its tree. -/
theorem ent_ok {K0 : Par} {c : Cx} {e : EntD} {g : FuncId} {fn : Func} {body : Code} {us : List Cu} {n : Nat} {t : List P → Tree (Nat × List P)} (hG : Good K0 c.p c.E) (hf : c.p.funcs[g]? = some fn) (hb : fn.body = some body)
    (hcall : ∀ args w, (callFunc e.f args).run c.p w = .ok (.enter g args) w) (hL : c.L = lOf us) (hus : CuOks c body us) (hn : leavesL e.tm = n)
    (hfn : ∀ ps ls, execFn c g e.tm (explF ps n 0) ls = (t ps).run fun q => altR (e.res.map fun f => f ps ls) 0 q some) (hv : ∀ ps, e.val ps = (t ps).run some) : OkEntK K0 c.p e := by
  intro ts ps ls hfit v hval gr hgr
  refine sim_ok hG hf hb hcall ?_ hfit ?_
  · exact fun q0 x0 h0 => cuts_ind body true 1 (fun q x hx hin => lOf_ok hG us hus (fun _ => True) (fun q _ => by rw [hL]) q x trivial hx hin) q0 x0 (cuts_sub _ _ _ _ _ h0)
  · have hlen := fitL_len _ _ _ _ hfit
    have := hfn ps ls
    rw [← hn, ← hlen, expl_self] at this
    rw [this, run_bind, ← hv, hval]
    have key : ∀ (l : List (List P → Res)) (i : Nat) (g : List P → Res), i ≤ v.1 → l[v.1 - i]? = some g → altR l i v some = some (g v.2) := by
      intro l
      induction l with
      | nil => intro i g hi h; cases h
      | cons f q ih =>
        intro i g hi h
        simp only [altR]
        cases hb : Nat.beq v.1 i with
        | true =>
          have e := beq_iff.1 hb
          rw [e, Nat.sub_self] at h
          rw [cond_true]
          simp at h; rw [h]
        | false =>
          rw [cond_false]
          have hne : v.1 ≠ i := fun e => by rw [beq_iff.2 e] at hb; cases hb
          refine ih (i + 1) g (by omega) ?_
          rw [show v.1 - i = (v.1 - (i + 1)) + 1 by omega] at h
          simpa using h
    exact key _ 0 (gr ps ls) (Nat.zero_le _) (by rw [Nat.sub_zero, List.getElem?_map, hgr]; rfl)
end Go.Eng
end
/-! Plain facts for reading trees: leaves, loops, tests. Conditions: none. -/
section
set_option linter.unusedVariables false
namespace Go.Eng
theorem lf0 (p : P) (r : List P) : lf (p :: r) 0 = p := rfl
theorem lfs (p : P) (r : List P) (n : Nat) : lf (p :: r) (n + 1) = lf r n := rfl
theorem nb_same (n : Nat) : Nat.beq n n = true := beq_iff.2 rfl
theorem nb_lt (a b : Nat) (h : a ≠ b) : Nat.beq a b = false := by
  cases hb : Nat.beq a b with
  | false => rfl
  | true => exact absurd (beq_iff.1 hb) h
theorem toInt_int (k : IntKind) (n : Int) : (P.int k n).toInt = n := rfl
theorem toBool_bool (b : Bool) : (P.bool b).toBool = b := rfl
theorem toStr_str (s : ByteArray) : (P.str s).toStr = s := rfl
theorem xs_list (n : Bool) (l : List P) : (P.list n l).xs = l := rfl
theorem nil_list (n : Bool) (l : List P) : (P.list n l).isNil = n := rfl
theorem fst_pair (a b : P) : (P.pair a b).fst = a := rfl
theorem snd_pair (a b : P) : (P.pair a b).snd = b := rfl
section
variable {step : List P → Tree Step} {ls ls' : List P} {y : Nat × List P}
/-- The loop ends so, within k rounds. -/
def Lp (k : Nat) (step : List P → Tree Step) (ls : List P) (y : Nat × List P) : Prop := ∀ n, k ≤ n → loopT step n ls = some y
theorem Lp.done {k : Nat} (h : ∀ K : Step → Option (Nat × List P), (step ls).run K = K (.inr y)) : Lp (k + 1) step ls y := by
  intro n hn
  cases n with
  | zero => omega
  | succ n => simp only [loopT]; rw [h]
theorem Lp.next {k : Nat} (h : ∀ K : Step → Option (Nat × List P), (step ls).run K = K (.inl ls')) (g : Lp k step ls' y) : Lp (k + 1) step ls y := by
  intro n hn
  cases n with
  | zero => omega
  | succ n => simp only [loopT]; rw [h]; exact g n (by omega)
theorem Lp.mono {k k' : Nat} (h : Lp k step ls y) (hk : k ≤ k') : Lp k' step ls y := fun n hn => h n (by omega)
/-- A loop that looks at one thing after the other: the first that ends it, or else the end. -/
theorem Lp.scan {st : Nat → List P} {y1 : Nat × List P} {bad : Nat → Option (Nat × List P)} {n : Nat}
    (hs : ∀ i, i < n → ∀ K : Step → Option (Nat × List P), (step (st i)).run K = match bad i with | some z => K (.inr z) | none => K (.inl (st (i + 1))))
    (he : ∀ K : Step → Option (Nat × List P), (step (st n)).run K = K (.inr y1)) : ∀ (d i : Nat), i + d = n → Lp (d + 1) step (st i) (((List.range' i d).findSome? bad).getD y1) := by
  intro d
  induction d with
  | zero => intro i hi; obtain rfl : i = n := by omega
            exact Lp.done he
  | succ d ih =>
    intro i hi
    rw [List.range'_succ, List.findSome?_cons]
    cases hb : bad i with
    | some z => exact Lp.done fun K => by rw [hs i (by omega) K, hb]; rfl
    | none => exact Lp.next (fun K => by rw [hs i (by omega) K, hb]) (ih (i + 1) (by omega))
theorem loop_scan {st : Nat → List P} {y1 : Nat × List P} {bad : Nat → Option (Nat × List P)} (n : Nat) (hn : n < 4611686018427387904)
    (hs : ∀ i, i < n → ∀ K : Step → Option (Nat × List P), (step (st i)).run K = match bad i with | some z => K (.inr z) | none => K (.inl (st (i + 1))))
    (he : ∀ K : Step → Option (Nat × List P), (step (st n)).run K = K (.inr y1)) : loopT step FUEL (st 0) = some (((List.range' 0 n).findSome? bad).getD y1) :=
  Lp.scan hs he n 0 (by omega) _ (Nat.le_trans (by omega) le_fuel)
/-- A loop that ends at the first thing that is not as it should be. -/
theorem loop_all {st : Nat → List P} {y1 z : Nat × List P} {ok : Nat → Bool} (n : Nat) (hn : n < 4611686018427387904)
    (hs : ∀ i, i < n → ∀ K : Step → Option (Nat × List P), (step (st i)).run K = if ok i = true then K (.inl (st (i + 1))) else K (.inr z))
    (he : ∀ K : Step → Option (Nat × List P), (step (st n)).run K = K (.inr y1)) : loopT step FUEL (st 0) = some (if (List.range n).all ok = true then y1 else z) := by
  rw [loop_scan (bad := fun i => if ok i = true then none else some z) n hn (fun i hi K => by
    rw [hs i hi K]
    by_cases h : ok i = true
    · simp only [if_pos h]
    · simp only [if_neg h]) he]
  congr 1
  by_cases h : (List.range n).all ok = true
  · rw [if_pos h, List.findSome?_eq_none_iff.2 fun i hi => ?_]
    · rfl
    · rw [List.all_eq_true] at h
      rw [if_pos (h i (List.mem_range.2 (by rw [List.mem_range'] at hi; omega)))]
  · rw [if_neg h]
    have : ∀ l : List Nat, l.all ok ≠ true → (l.findSome? fun i => if ok i = true then none else some z) = some z := by
      intro l
      induction l with
      | nil => intro h; simp at h
      | cons a t ih =>
        intro h
        rw [List.findSome?_cons]
        by_cases ha : ok a = true
        · rw [if_pos ha]; exact ih (by simpa [ha] using h)
        · rw [if_neg ha]
    rw [this _ (by rwa [← List.range_eq_range'])]; rfl
theorem loop_allB {st : Nat → List P} {y1 z : Nat × List P} {ok : Nat → Bool} (n : Nat) (hn : n < 4611686018427387904)
    (hs : ∀ i, i < n → ∀ K : Step → Option (Nat × List P), (step (st i)).run K = bif ok i then K (.inl (st (i + 1))) else K (.inr z))
    (he : ∀ K : Step → Option (Nat × List P), (step (st n)).run K = K (.inr y1)) : loopT step FUEL (st 0) = some (bif (List.range n).all ok then y1 else z) := by
  rw [loop_all (ok := ok) n hn (fun i hi K => by rw [hs i hi K]; cases ok i <;> rfl) he]
  cases (List.range n).all ok <;> rfl
theorem all_getD {α : Type} (p : α → Bool) (d : α) : ∀ l : List α, (List.range l.length).all (fun i => p (l.getD i d)) = l.all p
  | [] => rfl
  | a :: t => by
    rw [List.length_cons, List.range_succ_eq_map, List.all_cons, List.all_map]
    have := all_getD p d t
    simp only [Function.comp_def, List.getD_cons_succ, List.getD_cons_zero, this, List.all_cons]
theorem Lp.fuel {k : Nat} (h : Lp k step ls y) (hk : k ≤ 18446744073709551616) : loopT step FUEL ls = some y := h _ (Nat.le_trans hk le_fuel)
/-- A loop over a list that carries something on. -/
def goOn {α β : Type} (ok : β → α → Bool) (nx : β → α → β) : β → List α → Bool
  | _, [] => true
  | b, a :: t => ok b a && goOn ok nx (nx b a) t
theorem Lp.list {α β : Type} (l : List α) (d : α) (ok : β → α → Bool) (nx : β → α → β) (st : β → Nat → List P) (y1 z : Nat × List P)
    (hs : ∀ b i, i < l.length → ∀ K : Step → Option (Nat × List P), (step (st b i)).run K = bif ok b (l.getD i d) then K (.inl (st (nx b (l.getD i d)) (i + 1))) else K (.inr z))
    (he : ∀ b, ∀ K : Step → Option (Nat × List P), (step (st b l.length)).run K = K (.inr y1)) :
    ∀ (n i : Nat) (b : β), i + n = l.length → Lp (n + 1) step (st b i) (bif goOn ok nx b (l.drop i) then y1 else z) := by
  intro n
  induction n with
  | zero =>
    intro i b h
    obtain rfl : i = l.length := by omega
    rw [List.drop_length]
    exact Lp.done fun K => by rw [he]; rfl
  | succ n ih =>
    intro i b h
    have hi : i < l.length := by omega
    rw [List.drop_eq_getElem_cons hi]
    have e : l.getD i d = l[i] := by simp [List.getD_eq_getElem?_getD, hi]
    simp only [goOn]
    have h0 := hs b i hi
    rw [e] at h0
    cases ho : ok b l[i] with
    | true =>
      refine Lp.next (fun K => by rw [h0 K, ho]; rfl) ?_
      rw [Bool.true_and]
      exact ih (i + 1) _ (by omega)
    | false => exact Lp.done fun K => by rw [h0 K, ho]; rfl
theorem loop_list {α β : Type} (l : List α) (d : α) (ok : β → α → Bool) (nx : β → α → β) (st : β → Nat → List P) (y1 z : Nat × List P) (b : β) (hn : l.length < 4611686018427387904)
    (hs : ∀ b i, i < l.length → ∀ K : Step → Option (Nat × List P), (step (st b i)).run K = bif ok b (l.getD i d) then K (.inl (st (nx b (l.getD i d)) (i + 1))) else K (.inr z))
    (he : ∀ b, ∀ K : Step → Option (Nat × List P), (step (st b l.length)).run K = K (.inr y1)) : loopT step FUEL (st b 0) = some (bif goOn ok nx b l then y1 else z) :=
  (Lp.list l d ok nx st y1 z hs he l.length 0 b (by omega)).fuel (by omega)
end
end Go.Eng
end
/-! Runes of texts: what the model reads at a place. Conditions: none. -/
section
set_option linter.unusedVariables false
set_option linter.unusedSimpArgs false
namespace Go.Eng
theorem byteAt_nat (s : ByteArray) (i : Nat) : byteAt s (i : Int) = ((s.get! i).toNat : Int) := by
  unfold byteAt
  rw [Int.toNat_natCast]
  cases s with | mk d =>
  show ((d.getD i 0).toNat : Int) = ((d[i]!).toNat : Int)
  simp only [Array.getElem!_eq_getD]; rfl
theorem byteAt_lt (s : ByteArray) (i : Int) : 0 ≤ byteAt s i ∧ byteAt s i ≤ 255 := by
  unfold byteAt
  have := (s.data.getD i.toNat 0).toNat_lt
  omega
def val8 (r : Nat) : Bool := (decide ((0 : Int) ≤ r) && decide ((r : Int) < 0xD800)) || (decide ((0xE000 : Int) ≤ r) && decide ((r : Int) ≤ 0x10FFFF))
def dec8 (b0 b1 b2 b3 i n : Nat) : Nat × Nat :=
  if b0 < 0x80 then (b0, 1)
  else if (b0 / 32 == 6 && (decide (i + 1 < n) && b1 / 64 == 2)) = true then
    if b0 % 32 * 64 + b1 % 64 ≥ 0x80 then (b0 % 32 * 64 + b1 % 64, 2) else (0xFFFD, 1)
  else if (b0 / 16 == 14 && (decide (i + 1 < n) && b1 / 64 == 2) && (decide (i + 2 < n) && b2 / 64 == 2)) = true then
    if (decide (b0 % 16 * 4096 + b1 % 64 * 64 + b2 % 64 ≥ 0x800) && val8 (b0 % 16 * 4096 + b1 % 64 * 64 + b2 % 64)) = true then (b0 % 16 * 4096 + b1 % 64 * 64 + b2 % 64, 3) else (0xFFFD, 1)
  else if (b0 / 8 == 30 && (decide (i + 1 < n) && b1 / 64 == 2) && (decide (i + 2 < n) && b2 / 64 == 2) && (decide (i + 3 < n) && b3 / 64 == 2)) = true then
    if (decide (b0 % 8 * 262144 + b1 % 64 * 4096 + b2 % 64 * 64 + b3 % 64 ≥ 0x10000) && val8 (b0 % 8 * 262144 + b1 % 64 * 4096 + b2 % 64 * 64 + b3 % 64)) = true then (b0 % 8 * 262144 + b1 % 64 * 4096 + b2 % 64 * 64 + b3 % 64, 4) else (0xFFFD, 1)
  else (0xFFFD, 1)
theorem decode_dec (s : ByteArray) (i : Nat) : Utf8.decode s i = dec8 (s.get! i).toNat (s.get! (i + 1)).toNat (s.get! (i + 2)).toNat (s.get! (i + 3)).toNat i s.size := by
  unfold Utf8.decode Utf8.valid Utf8.runeError dec8 val8
  rfl
def run8 (b0 b1 b2 b3 : Int) (i n : Nat) : Int × Int :=
  if b0 < 128 then (b0, 1) else
  if 194 ≤ b0 ∧ b0 ≤ 223 then (if i + 1 < n ∧ 128 ≤ b1 ∧ b1 ≤ 191 then (b0 % 32 * 64 + b1 % 64, 2) else (65533, 1)) else
  if 224 ≤ b0 ∧ b0 ≤ 239 then (if i + 2 < n ∧ 128 ≤ b1 ∧ b1 ≤ 191 ∧ 128 ≤ b2 ∧ b2 ≤ 191 ∧ (b0 = 224 → 160 ≤ b1) ∧ (b0 = 237 → b1 ≤ 159) then ((b0 % 16 * 64 + b1 % 64) * 64 + b2 % 64, 3) else (65533, 1)) else
  if 240 ≤ b0 ∧ b0 ≤ 244 then (if i + 3 < n ∧ 128 ≤ b1 ∧ b1 ≤ 191 ∧ 128 ≤ b2 ∧ b2 ≤ 191 ∧ 128 ≤ b3 ∧ b3 ≤ 191 ∧ (b0 = 240 → 144 ≤ b1) ∧ (b0 = 244 → b1 ≤ 143) then (((b0 % 8 * 64 + b1 % 64) * 64 + b2 % 64) * 64 + b3 % 64, 4) else (65533, 1)) else (65533, 1)
set_option maxHeartbeats 2000000 in
theorem dec_run (b0 b1 b2 b3 i n : Nat) (l0 : b0 < 256) (l1 : b1 < 256) (l2 : b2 < 256) (l3 : b3 < 256) : (((dec8 b0 b1 b2 b3 i n).1 : Int), ((dec8 b0 b1 b2 b3 i n).2 : Int)) = run8 b0 b1 b2 b3 i n := by
  unfold dec8 run8 val8
  simp only [Bool.and_eq_true, Bool.or_eq_true, decide_eq_true_eq, beq_iff_eq]
  repeat' split
  all_goals (try simp only [Prod.mk.injEq])
  all_goals first | omega | (refine ⟨?_, ?_⟩ <;> omega) | (exact Prod.ext rfl rfl) | trivial
theorem decode_rune (s : ByteArray) (i : Nat) : (((Utf8.decode s i).1 : Int), ((Utf8.decode s i).2 : Int)) = run8 (byteAt s i) (byteAt s (i + 1 : Nat)) (byteAt s (i + 2 : Nat)) (byteAt s (i + 3 : Nat)) i s.size := by
  rw [decode_dec, byteAt_nat, byteAt_nat, byteAt_nat, byteAt_nat]
  exact dec_run _ _ _ _ _ _ (s.get! i).toNat_lt (s.get! (i + 1)).toNat_lt (s.get! (i + 2)).toNat_lt (s.get! (i + 3)).toNat_lt
end Go.Eng
end
/-! The forms of plain data of a shape. Conditions: none. -/
section
set_option linter.unusedVariables false
namespace Go.Eng
def Cn : Sh → P → Prop
  | .int k, p => ∃ n, p = .int k n
  | .bool, p => ∃ b, p = .bool b
  | .str, p => ∃ s, p = .str s
  | .slice e, p => ∃ n xs, p = .list n xs ∧ (n = true → xs = []) ∧ ∀ x ∈ xs, Cn e x
  | .pair a b, p => ∃ x y, p = .pair x y ∧ Cn a x ∧ Cn b y
  | .unit, p => p = .unit
  | .arr n e, p => ∃ xs, p = .list false xs ∧ xs.length = n ∧ ∀ x ∈ xs, Cn e x
  | _, p => p = .nilp
theorem rd_mem {xs : List P} {x : P} (h : x ∈ xs) : ∃ i, i < xs.length ∧ rd xs i = x := by
  obtain ⟨i, hi, rfl⟩ := List.getElem_of_mem h
  exact ⟨i, hi, by simp [rd, List.getD_eq_getElem?_getD, List.getElem?_eq_getElem hi]⟩
theorem Rep.cn {w : World} {F : Cells} : ∀ (s : Sh) (p : P) (cs : List Value), Rep w F s p cs → Cn s p
  | .int _, _, _, ⟨n, h, _⟩ => ⟨n, h⟩
  | .bool, _, _, ⟨n, h, _⟩ => ⟨n, h⟩
  | .str, _, _, ⟨n, h, _⟩ => ⟨n, h⟩
  | .fn, _, _, h => h.1
  | .ptr, _, _, h => h.1
  | .map, _, _, h => h.1
  | .unit, _, _, h => h.1
  | .slice e, _, _, ⟨a, xs, cap, h1, h2, h3, h4, h5⟩ => ⟨a.isNone, xs, h1, fun hn => by
      have ha : a = none := by simpa using hn
      have := h4 ha
      exact List.eq_nil_of_length_eq_zero (by omega), fun x hx => by
      obtain ⟨i, hi, rfl⟩ := rd_mem hx
      obtain ⟨b, o, c, _, g, _⟩ := h5 i hi
      exact Rep.cn e _ _ g⟩
  | .pair a b, _, _, ⟨x, y, c, d, h1, h2, h3, h4⟩ => ⟨x, y, h1, Rep.cn a _ _ h3, Rep.cn b _ _ h4⟩
  | .arr n e, _, _, ⟨xs, h1, h2, h3, h4⟩ => ⟨xs, h1, h2, fun x hx => by
      obtain ⟨i, hi, rfl⟩ := rd_mem hx
      exact Rep.cn e _ _ (h4 i (by omega))⟩
theorem TRel1.cn {ml : Lm} {w : World} {F : Cells} {s : Sh} {p : P} {v : Value} {R : List Rng} (h : TRel1 ml w F (.imm s p) v R) : Cn s p := by
  have h : if T.isAgg (.imm s p) = true then ∃ cs, v = .agg cs ∧ TRel ml w F (.imm s p) cs.toList R else TRel ml w F (.imm s p) [v] R := h
  by_cases hg : T.isAgg (.imm s p) = true
  · rw [if_pos hg] at h
    obtain ⟨cs, _, h⟩ := h
    exact Rep.cn s p _ h.1
  · rw [if_neg hg] at h
    exact Rep.cn s p _ h.1
end Go.Eng
end
