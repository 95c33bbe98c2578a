/- slices.SortFunc over a row of the call's own, told in lists: the row holds a permutation, sorted. Conditions: the comparison is a strict weak order, its contract lays blocks alone; fewer than 2^62 elements. -/
import Derived.Test.YtjemihhhkhdbeaaWApart
import Derived.Test.YtjemihhhkhdbeaaWKept
import Derived.Test.YtjemihhhkhdbeaaWMore
import Derived.Shelf.SlSortCmp.WholeK
import Derived.Shelf.SlSortCmp.NoneTotal
namespace Go.Proofs.YtjemihhhkhdbeaaSortKit
open Go.RowKit Go.Sort Go.Shelf
open Go.Proofs.YtjemihhhkhdbeaaW.PrintWords
variable {P : Program} {α : Type}
/-- A kind whose cells are plain. -/
structure Plain (d : Kd α) (enc : α → List Value) : Prop where
  iff : ∀ {w base ok x cs}, d.M w base ok x cs ↔ cs = enc x
theorem heap_sortWorldK [Inhabited α] (enc : α → List Value) (k : Nat) (w : World) (blk off n : Nat) (d : Array α) (os : Array Obj) (i : Nat) (hi : i < w.heap.size) (hne : i ≠ blk) : (sortWorldK enc k w blk off n d os).heap[i]? = w.heap[i]? := by
  unfold sortWorldK
  rw [heap_grow_old _ _ (by simp [putRowK, putRow, mapBlock, Go.Sort.ahead]; exact hi)]
  simp only [putRowK, putRow, mapBlock, Go.Sort.ahead]
  rw [Array.getElem?_modify, if_neg (fun h => hne h.symm)]
theorem size_sortWorldK [Inhabited α] (enc : α → List Value) (k : Nat) (w : World) (blk off n : Nat) (d : Array α) (os : Array Obj) : (sortWorldK enc k w blk off n d os).heap.size = w.heap.size + os.size := by
  simp [sortWorldK, putRowK, putRow, mapBlock, Go.Sort.ahead, grow]
theorem heap_sortWorldK_at [Inhabited α] (enc : α → List Value) (k : Nat) (w : World) (blk n : Nat) (d : Array α) (os : Array Obj) (cur : Array Value) (e : TypeId) (fr : Nat × Nat) (h : w.heap[blk]? = some (.cells cur e fr)) :
    (sortWorldK enc k w blk 0 n d os).heap[blk]? = some (.cells (putCells id 0 (flatK enc k d) cur) e fr) := by
  have hlt : blk < w.heap.size := (Array.getElem?_eq_some_iff.1 h).1
  unfold sortWorldK
  rw [heap_grow_old _ _ (by simp [putRowK, putRow, mapBlock, Go.Sort.ahead]; exact hlt)]
  simp only [putRowK, putRow, mapBlock, Go.Sort.ahead]
  rw [Array.getElem?_modify, if_pos rfl, h]
  rfl
theorem below_sort [Inhabited α] (enc : α → List Value) (k : Nat) {w0 w : World} (blk n : Nat) (d : Array α) (os : Array Obj) (hB : Below w0.heap.size w0 w) (hb : w0.heap.size ≤ blk) : Below w0.heap.size w0 (sortWorldK enc k w blk 0 n d os) := by
  refine ⟨hB.os, hB.tape, hB.output, ?_, fun i hi => ?_⟩
  · rw [size_sortWorldK]; have := hB.size; omega
  · have hs := hB.size
    by_cases hi2 : i < w.heap.size
    · rw [heap_sortWorldK _ _ _ _ _ _ _ _ _ hi2 (by omega), hB.block i hi]
    · omega
theorem take_putCells (f : Array Value) (cur : Array Value) (h : f.size ≤ cur.size) : (putCells id 0 f cur).toList.take f.size = f.toList := by
  apply List.ext_getElem
  · simp [putCells, h]
  · intro i h1 h2
    have hi : i < f.size := by simpa using h2
    simp [putCells, hi]
theorem flatK_reps [Inhabited α] (enc : α → List Value) (k : Nat) (d : Array α) (hk : ∀ x, (enc x).length = k) : Reps (fun x cs => cs = enc x) k d.toList (flatK enc k d).toList := by
  refine ⟨by simp [flatK], fun j p hj => ?_⟩
  have hjd : d[j]? = some p := by simpa using hj
  have hlt : j < d.size := (Array.getElem?_eq_some_iff.1 hjd).1
  have hb : j * k + k ≤ d.size * k := by rw [← Nat.succ_mul]; exact Nat.mul_le_mul_right _ hlt
  apply List.ext_getElem
  · simp [flatK, hk]; omega
  · intro i h1 h2
    have hi : i < k := by rw [hk] at h2; exact h2
    simp only [flatK, List.getElem_take, List.getElem_drop, Array.getElem_toList, Array.getElem_map, Array.getElem_range]
    have e1 : (j * k + i) / k = j := by rw [Nat.mul_comm, Nat.mul_add_div (by omega), Nat.div_eq_of_lt hi]; omega
    have e2 : (j * k + i) % k = i := by rw [Nat.mul_comm, Nat.mul_add_mod, Nat.mod_eq_of_lt hi]
    rw [e1, e2]
    have hp : d[j]! = p := by rw [getElem!_pos d j hlt]; exact (Array.getElem?_eq_some_iff.1 hjd).2
    rw [hp, getElem!_pos (enc p) i h2]
theorem reps_holds [Inhabited α] {enc : α → List Value} {k : Nat} {w : World} {g : Nat} {l : List α} {inner : List Value} {cur : Array Value} {e : TypeId} (hk : ∀ x, (enc x).length = k) (hR : Reps (fun x cs => cs = enc x) k l inner) (hb : w.heap[g]? = some (.cells cur e (0, 0))) (hc : cur.toList.take (l.length * k) = inner) : HoldsK enc k w g 0 l.toArray := by
  intro j hj
  have hj' : j < l.length * k := by simpa using hj
  have hk0 : 0 < k := by
    rcases Nat.eq_zero_or_pos k with h | h
    · subst h; simp at hj'
    · exact h
  have hq : j / k < l.length := (Nat.div_lt_iff_lt_mul hk0).2 hj'
  have hm : j % k < k := Nat.mod_lt _ hk0
  have hlen := hR.1
  have hr := hR.2 (j / k) l[j / k] (by simp)
  have hcl : l.length * k ≤ cur.size := by
    have := congrArg List.length hc
    rw [List.length_take, hlen] at this
    simp at this; omega
  have hcell : cur[j]? = some (flatK enc k l.toArray)[j]! := by
    rw [get_flatK _ _ _ _ (by simpa using hj')]
    have e1 : l.toArray[j / k]! = l[j / k] := by rw [getElem!_pos l.toArray (j / k) (by simpa using hq)]; simp
    rw [e1]
    have e2 : (enc l[j / k])[j % k]? = some (enc l[j / k])[j % k]! := by rw [getElem!_pos _ _ (by rw [hk]; exact hm), List.getElem?_eq_getElem (by rw [hk]; exact hm)]
    rw [← e2, ← hr, List.getElem?_take_of_lt hm, List.getElem?_drop, ← hc, List.getElem?_take_of_lt (by rw [Nat.div_add_mod']; exact hj'), Nat.div_add_mod']
    simp
  refine ⟨?_, ?_⟩
  · rw [Nat.zero_add]
    show w.cell? ⟨g, j, none⟩ = _
    rw [blk_cell hb j, hcell]; rfl
  · show w.frozen? ⟨g, 0 + j, none⟩ = false
    simp [World.frozen?, hb]
theorem kept_sort [Inhabited α] (enc : α → List Value) (k : Nat) (w : World) (blk n : Nat) (d : Array α) (os : Array Obj) (S : Nat → Prop) (hS : S blk) : Kept w (sortWorldK enc k w blk 0 n d os) S :=
  ⟨by rw [size_sortWorldK]; omega, fun i hi hn => heap_sortWorldK _ _ _ _ _ _ _ _ _ hi (fun h => hn (h ▸ hS))⟩
/-- The call: the row holds what pdq makes of it. -/
theorem sort_own {ρ : Ren} [Inhabited α] (L : SlLaysF0.n6 P ρ) (k : Nat) (aE : ∀ w, (isAgg (ρ.t 24)).run P w = .ok true w) (zE : ∀ w, (Go.sizeOf (ρ.t 24)).run P w = .ok k w) {d : Kd α} {enc : α → List Value} (hd : Plain d enc) (hsz : d.sz = k) (hk : ∀ x, (enc x).length = k) (h1 : ∀ x, ∀ v ∈ enc x, v.oneCell' = true)
    (cf : α → α → Int) (hO : SWO (ltOf cf)) (g : Nat) (eg : ∀ args w, (callFunc g args).run P w = .ok (.enter g args) w) (hcmp : ∀ blk off size w, CmpLays P g #[] enc k cf blk off size w)
    (e : Nat) (P0_ : Nat → Prop) (u : Value) (l : List α) (w0 w : World) (hB : Below w0.heap.size w0 w) (ho : Kd.R d e w w0.heap.size P0_ u l) (hl : l.length < 4611686018427387904) :
    Calls P (ρ.f 6) #[u, .func (.func g) #[] #[]] w fun e_ w' => e_ = .returned (.tuple #[]) ∧ Kd.R d e w' w0.heap.size (fun k_ => (P0_ k_ ∨ w.heap.size ≤ k_)) u (pdq (ltOf cf) l.toArray 0 l.length (Lib.bitLen l.length) true true).toList ∧ Below w0.heap.size w0 w' ∧ Kept w w' (fun k_ => P0_ k_) := by
  obtain ⟨h0, inner, hrow, hreps⟩ := ho
  have hreps' : Reps (fun x cs => cs = enc x) k l inner := by rw [← hsz]; exact hreps.imp_ fun _ _ hp => hd.iff.1 hp
  have hperm := (pdq_sorts (ltOf cf) hO l.toArray 0 l.toArray.size (Lib.bitLen l.length) true true (Nat.zero_le _) (Nat.le_refl _) (Or.inl rfl)).1.1
  have hsl : l.toArray.size = l.length := by simp
  rw [hsl] at hperm
  rcases Nat.eq_zero_or_pos l.length with hz | hz
  · obtain rfl : l = [] := List.eq_nil_of_length_eq_zero hz
    have hnil : (pdq (ltOf cf) ([] : List α).toArray 0 ([] : List α).length (Lib.bitLen ([] : List α).length) true true).toList = [] := by
      apply List.eq_nil_of_length_eq_zero
      simpa using hperm
    rw [hnil]
    obtain ⟨A, c, rfl⟩ := own_slice hrow
    refine (AnyF.slices_SortFunc_none L A c _ w).mono ?_
    rintro e_ w' ⟨rfl, rfl⟩
    exact ⟨rfl, Kd.R_mono ⟨h0, inner, hrow, hreps⟩ fun _ h => .inl h, hB, Kept.refl _ _⟩
  · obtain ⟨hlen, hcase⟩ := hrow
    rcases hcase with ⟨_, h⟩ | ⟨b, cap, cur, rfl, hb, hh, hn, hm, hcs, hct⟩
    · omega
    · have hblk : b < w.heap.size := (Array.getElem?_eq_some_iff.1 hh).1
      have hct' : cur.toList.take (l.length * k) = inner := by rw [← hsz]; exact hct
      have hH := reps_holds hk hreps' hh hct'
      have hcon := AnyQ.slices_SortFunc_eq L k aE zE enc hk h1 cf hO g #[] b 0 cap l.toArray w eg (hcmp _ _ _ _) hH hblk (by simpa using hl)
      rw [hsl] at hcon
      refine hcon.mono ?_
      generalize hD : pdq (ltOf cf) l.toArray 0 l.length (Lib.bitLen l.length) true true = D at hperm ⊢
      rintro e_ w' ⟨rfl, n, os, rfl⟩
      have hat := heap_sortWorldK_at enc k w b n D os cur e (0, 0) hh
      have hDl : D.toList.length = l.length := by rw [Array.length_toList, hperm]
      have hfs : (flatK enc k D).size = l.length * k := by rw [size_flatK, ← hDl, Array.length_toList]
      refine ⟨rfl, ⟨fun q hq => .inl (h0 q (by simpa [Value.ownBlock] using hq)), (flatK enc k D).toList, ?_, ?_⟩, below_sort enc k b n D os hB hb, kept_sort enc k w b n D os _ (h0 b (by simp [Value.ownBlock]))⟩
      · rw [hDl]
        refine ⟨by rw [Array.length_toList, hfs, hsz], .inr ⟨b, cap, _, rfl, hb, hat, hn, hm, by rw [show (putCells id 0 (flatK enc k D) cur).size = cur.size by simp [putCells]]; exact hcs, ?_⟩⟩
        rw [hsz, ← hfs]
        refine take_putCells _ _ ?_
        rw [hfs, hcs, hsz]; exact Nat.mul_le_mul_right _ hn
      · rw [hsz]; exact (flatK_reps enc k D hk).imp_ fun _ _ hp => hd.iff.2 hp
end Go.Proofs.YtjemihhhkhdbeaaSortKit
