/- Stores: lists of numbers, names, DeleteFunc. Conditions: none but those each states. -/
import Derived.Test.YtjemihhhkhdbeaaSt2
import Derived.Sort.Walk0
set_option linter.unusedVariables false
set_option linter.unusedSimpArgs false
namespace Go.Proofs.Ytjemihhhkhdbeaa.Mn
open Go Go.Eng Go.Sort
abbrev BA := ByteArray
theorem bl_inj {a b : BA} (h : a.toList = b.toList) : a = b := by
  rw [ByteArray.toList_eq, ByteArray.toList_eq] at h
  cases a; cases b
  simp only [ByteArray.mk.injEq] at *
  exact Array.toList_inj.1 h
theorem strEq_iff {a b : BA} : strEq a b = true ↔ a = b := by
  unfold strEq
  rw [beq_iff_eq]
  exact ⟨bl_inj, fun h => by rw [h]⟩
theorem strLt_iff {a b : BA} : strLt a b = true ↔ a.toList < b.toList := by
  unfold strLt
  rw [bytesLess_eq, decide_eq_true_eq]
theorem lt_or {a b : BA} (h1 : ¬ strLt a b = true) (h2 : ¬ strEq a b = true) : b.toList < a.toList := by
  rw [strLt_iff] at h1
  rcases Decidable.em (b.toList < a.toList) with h | h
  · exact h
  · exact absurd (strEq_iff.2 (bl_inj (List.le_antisymm h h1))) h2
/-- The numbers below n at which q is so. -/
def ixs (q : P → Bool) (L : List P) (n : Nat) : List P := ((List.range n).filter fun j => q (rd L j)).map fun j : Nat => I (j : Int)
theorem ixs_zero (q : P → Bool) (L : List P) : ixs q L 0 = [] := rfl
theorem ixs_succ (q : P → Bool) (L : List P) (n : Nat) : ixs q L (n + 1) = ixs q L n ++ (if q (rd L n) = true then [I (n : Int)] else []) := by
  unfold ixs
  rw [List.range_succ, List.filter_append, List.map_append]
  congr 1
  by_cases h : q (rd L n) = true <;> simp [h]
theorem ixs_len (q : P → Bool) (L : List P) (n : Nat) : (ixs q L n).length ≤ n := by
  unfold ixs
  rw [List.length_map]
  exact Nat.le_trans (List.length_filter_le _ _) (by simp)
theorem ixs_mem {q : P → Bool} {L : List P} {n : Nat} {p : P} (h : p ∈ ixs q L n) : ∃ j : Nat, j < n ∧ p = I (j : Int) := by
  unfold ixs at h
  obtain ⟨j, h1, h2⟩ := List.mem_map.1 h
  exact ⟨j, List.mem_range.1 (List.mem_filter.1 h1).1, h2.symm⟩
theorem ixs_cong {q r : P → Bool} {L M : List P} {n : Nat} (h : ∀ j, j < n → q (rd L j) = r (rd M j)) : ixs q L n = ixs r M n := by
  unfold ixs
  congr 1
  apply List.filter_congr
  intro j hj
  exact h j (List.mem_range.1 hj)
theorem ixs_filter (q r : P → Bool) (L : List P) (n : Nat) : (ixs q L n).filter (fun p => r (rd L p.toInt.toNat)) = ixs (fun p => q p && r p) L n := by
  unfold ixs
  rw [List.filter_map, List.filter_filter]
  congr 1
  apply List.filter_congr
  intro j _
  simp only [Function.comp, toInt_int, Int.toNat_natCast]
  rw [Bool.and_comm]
theorem rd_app {L : List P} {x : P} {j : Nat} (h : j < L.length) : rd (L ++ [x]) j = rd L j := by
  simp only [rd_getD, List.getD_eq_getElem?_getD, List.getElem?_append_left h]
theorem rd_last (L : List P) (x : P) : rd (L ++ [x]) L.length = x := by
  simp [rd_getD]
theorem rd_set_eq {L : List P} {x : P} {j : Nat} (h : j < L.length) : rd (L.set j x) j = x := by
  simp [rd_getD, h]
theorem rd_set_ne {L : List P} {x : P} {i j : Nat} (h : i ≠ j) : rd (L.set i x) j = rd L j := by
  simp [rd_getD, List.getElem?_set, h]
def livB (p : P) : Bool := !p.snd.snd.snd.fst.toBool
def lrB (p : P) : Bool := p.snd.snd.fst.toBool
theorem live_ixs (L : List P) : ∀ k, k ≤ L.length → liveF 0 (L.take k) = ixs livB L k
  | 0, _ => by simp [liveF, ixs_zero]
  | k + 1, h => by
    have ht : L.take (k + 1) = L.take k ++ [rd L k] := by
      rw [List.take_succ_eq_append_getElem (by omega), rd_getD, List.getD_eq_getElem?_getD, List.getElem?_eq_getElem (by omega)]; rfl
    have hl : (L.take k).length = k := by rw [List.length_take]; omega
    rw [ht, live_snoc, live_ixs L k (by omega), ixs_succ, hl]
    congr 1
    unfold livB
    cases (rd L k).snd.snd.snd.fst.toBool <;> simp
theorem live_all (L : List P) : liveF 0 L = ixs livB L L.length := by
  rw [← live_ixs L L.length (Nat.le_refl _), List.take_length]
/-! ### DeleteFunc -/
/-- What IndexFunc tells. -/
def idxF (del : P → Bool) (xs : List P) : Option Nat := (List.range xs.length).find? fun i => del (rd xs i)
theorem idx_loop {step : List P → Tree Step} (del : P → Bool) (xs : List P) (st : Nat → List P) (yes : Nat → Nat × List P) (no : Nat × List P) (hn : xs.length < 4611686018427387904)
    (hs : ∀ i, i < xs.length → ∀ K : Step → Option (Nat × List P), (step (st i)).run K = if del (rd xs i) = true then K (.inr (yes i)) else K (.inl (st (i + 1))))
    (he : ∀ K : Step → Option (Nat × List P), (step (st xs.length)).run K = K (.inr no)) :
    (∀ i, i < xs.length → del (rd xs i) = false) ∧ loopT step FUEL (st 0) = some no ∨
    ∃ i, i < xs.length ∧ (∀ j, j < i → del (rd xs j) = false) ∧ del (rd xs i) = true ∧ loopT step FUEL (st 0) = some (yes i) := by
  have key : ∀ d i, i + d = xs.length → (∀ j, j < i → del (rd xs j) = false) → ((∀ i, i < xs.length → del (rd xs i) = false) ∧ Lp (d + 1) step (st i) no) ∨
      ∃ i', i' < xs.length ∧ (∀ j, j < i' → del (rd xs j) = false) ∧ del (rd xs i') = true ∧ Lp (d + 1) step (st i) (yes i') := by
    intro d
    induction d with
    | zero => intro i hi hb; obtain rfl : i = xs.length := by omega
              exact .inl ⟨hb, Lp.done he⟩
    | succ d ih =>
      intro i hi hb
      have h := hs i (by omega)
      by_cases hd : del (rd xs i) = true
      · simp only [hd, if_true] at h
        exact .inr ⟨i, by omega, hb, hd, Lp.done h⟩
      · simp only [hd, Bool.false_eq_true, if_false] at h
        rcases ih (i + 1) (by omega) (fun j hj => by
          rcases Nat.lt_succ_iff_lt_or_eq.1 hj with h | h
          · exact hb j h
          · subst h; simpa using hd) with ⟨h1, h2⟩ | ⟨i', h1, h2, h3, h4⟩
        · exact .inl ⟨h1, Lp.next h h2⟩
        · exact .inr ⟨i', h1, h2, h3, Lp.next h h4⟩
  rcases key xs.length 0 (by omega) (fun j hj => absurd hj (by omega)) with ⟨h1, h2⟩ | ⟨i, h1, h2, h3, h4⟩
  · exact .inl ⟨h1, h2.fuel (by omega)⟩
  · exact .inr ⟨i, h1, h2, h3, h4.fuel (by omega)⟩
theorem take_snoc {L : List P} {k : Nat} (h : k < L.length) : L.take (k + 1) = L.take k ++ [rd L k] := by
  rw [List.take_succ_eq_append_getElem h, rd_getD, List.getD_eq_getElem?_getD, List.getElem?_eq_getElem h]; rfl
theorem all_keep {del : P → Bool} {xs : List P} (h : ∀ i, i < xs.length → del (rd xs i) = false) : xs.filter (fun p => !del p) = xs := by
  rw [List.filter_eq_self]
  intro p hp
  obtain ⟨i, hi, rfl⟩ := List.mem_iff_getElem.1 hp
  have := h i hi
  rw [rd_getD, List.getD_eq_getElem?_getD, List.getElem?_eq_getElem hi, Option.getD_some] at this
  rw [this]; rfl
theorem keep_take {del : P → Bool} {xs : List P} {i : Nat} (h : ∀ j, j < i → del (rd xs j) = false) (hi : i < xs.length) (hd : del (rd xs i) = true) : (xs.take (i + 1)).filter (fun p => !del p) = xs.take i := by
  rw [take_snoc hi, List.filter_append]
  have h1 : (xs.take i).filter (fun p => !del p) = xs.take i := all_keep (fun j hj => by
    rw [List.length_take] at hj
    have := h j (by omega)
    simpa [rd_getD, List.getElem?_take, show j < i by omega] using this)
  rw [h1]; simp [hd]
theorem rd_drop {xs ys : List P} {j : Nat} (h : ys.drop j = xs.drop j) (hj : j < xs.length) : rd ys j = rd xs j := by
  have h0 : (ys.drop j)[0]? = (xs.drop j)[0]? := by rw [h]
  rw [List.getElem?_drop, List.getElem?_drop, Nat.add_zero] at h0
  simp only [rd_getD, List.getD_eq_getElem?_getD, h0]
/-- The loop of DeleteFunc. -/
theorem del_loop {step : List P → Tree Step} (del : P → Bool) (xs : List P) (i0 : Nat) (st : Nat → Nat → List P → List P) (fin : Nat → List P → Nat × List P) (hn : xs.length < 4611686018427387904) (hi0 : i0 < xs.length)
    (h0 : ∀ j, j < i0 → del (rd xs j) = false) (hd0 : del (rd xs i0) = true)
    (hs : ∀ j w ys, j < xs.length → w ≤ j → ys.length = xs.length → rd ys j = rd xs j → ∀ K : Step → Option (Nat × List P), (step (st j w ys)).run K = if del (rd xs j) = true then K (.inl (st (j + 1) w ys)) else K (.inl (st (j + 1) (w + 1) (ys.set w (rd xs j)))))
    (he : ∀ w ys, w ≤ xs.length → ys.length = xs.length → ∀ K : Step → Option (Nat × List P), (step (st xs.length w ys)).run K = K (.inr (fin w ys))) :
    ∃ w ys, w ≤ xs.length ∧ ys.length = xs.length ∧ ys.take w = xs.filter (fun p => !del p) ∧ loopT step FUEL (st (i0 + 1) i0 xs) = some (fin w ys) := by
  obtain ⟨b, ⟨h1, h2, h3, h4⟩, lp⟩ := loop_inv (step := step) (β := Nat × List P)
    (fun t b => b.1 ≤ i0 + 1 + t ∧ b.2.length = xs.length ∧ b.2.take b.1 = (xs.take (i0 + 1 + t)).filter (fun p => !del p) ∧ b.2.drop (i0 + 1 + t) = xs.drop (i0 + 1 + t))
    (fun t b => st (i0 + 1 + t) b.1 b.2) (fun b => fin b.1 b.2) (xs.length - (i0 + 1)) (by omega) (by
      rintro t ⟨w, ys⟩ ht ⟨g1, g2, g3, g4⟩
      simp only at g1 g2 g3 g4
      have hj : i0 + 1 + t < xs.length := by omega
      have hr := rd_drop g4 hj
      have h := hs (i0 + 1 + t) w ys hj g1 g2 hr
      have hdr : ∀ zs : List P, zs.drop (i0 + 1 + t) = xs.drop (i0 + 1 + t) → zs.drop (i0 + 1 + (t + 1)) = xs.drop (i0 + 1 + (t + 1)) := fun zs hz => by
        have := congrArg (List.drop 1) hz
        simpa [List.drop_drop, Nat.add_assoc] using this
      have htk : (xs.take (i0 + 1 + (t + 1))).filter (fun p => !del p) = (xs.take (i0 + 1 + t)).filter (fun p => !del p) ++ (if del (rd xs (i0 + 1 + t)) = true then [] else [rd xs (i0 + 1 + t)]) := by
        rw [show i0 + 1 + (t + 1) = i0 + 1 + t + 1 from rfl, take_snoc hj, List.filter_append]
        congr 1
        by_cases hd : del (rd xs (i0 + 1 + t)) = true <;> simp [hd]
      by_cases hd : del (rd xs (i0 + 1 + t)) = true
      · simp only [hd, if_true, List.append_nil] at h htk
        exact ⟨(w, ys), ⟨by show w ≤ _; omega, g2, by show ys.take w = _; rw [htk]; exact g3, hdr ys g4⟩, h⟩
      · simp only [hd, Bool.false_eq_true, if_false] at h htk
        refine ⟨(w + 1, ys.set w (rd xs (i0 + 1 + t))), ⟨by show w + 1 ≤ _; omega, by simpa using g2, ?_, ?_⟩, h⟩
        · show (ys.set w (rd xs (i0 + 1 + t))).take (w + 1) = _
          rw [htk, ← g3, take_snoc (by rw [List.length_set]; omega), rd_set_eq (by omega), List.take_set_of_le (Nat.le_refl _)]
        · show (ys.set w (rd xs (i0 + 1 + t))).drop _ = _
          rw [List.drop_set_of_lt (by omega)]
          exact hdr ys g4) (by
      rintro ⟨w, ys⟩ ⟨g1, g2, _, _⟩ K
      simp only at g1 g2
      have : i0 + 1 + (xs.length - (i0 + 1)) = xs.length := by omega
      rw [this] at g1 ⊢
      exact he w ys g1 g2 K) (i0, xs) ⟨by show i0 ≤ _; omega, rfl, by show xs.take i0 = _; rw [Nat.add_zero, keep_take h0 hi0 hd0], rfl⟩
  have hx : i0 + 1 + (xs.length - (i0 + 1)) = xs.length := by omega
  rw [hx] at h1 h3
  rw [List.take_length] at h3
  exact ⟨b.1, b.2, h1, h2, h3, lp⟩
end Go.Proofs.Ytjemihhhkhdbeaa.Mn
