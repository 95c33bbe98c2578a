/- Names that rise: lists of names without repetition, in order. Conditions: none. -/
import Derived.Test.YtihenfpnilliiaaMnA
import Derived.Test.YtihenfpnilliiaaE4
import Derived.Sort.Walk0
set_option linter.unusedVariables false
set_option linter.unusedSimpArgs false
namespace Go.Proofs.Ytihenfpnilliiaa.Mn
open Go Go.Eng Go.Sort
abbrev BA := ByteArray
theorem bl_inj {a b : BA} (h : a.toList = b.toList) : a = b := by
  rw [ByteArray.toList_eq, ByteArray.toList_eq] at h
  cases a; cases b
  simp only [ByteArray.mk.injEq] at *
  exact Array.toList_inj.1 h
theorem strEq_iff {a b : BA} : strEq a b = true ↔ a = b := by
  unfold strEq
  rw [beq_iff_eq]
  exact ⟨bl_inj, fun h => by rw [h]⟩
theorem strLt_iff {a b : BA} : strLt a b = true ↔ a.toList < b.toList := by
  unfold strLt
  rw [bytesLess_eq, decide_eq_true_eq]
/-- Names that rise. -/
def Up (l : List BA) : Prop := l.Pairwise fun a b => a.toList < b.toList
def insS (x : BA) : List BA → List BA
  | [] => [x]
  | y :: t => if strLt x y || strEq x y then (if strEq x y then x :: t else x :: y :: t) else y :: insS x t
theorem insS_mem (x : BA) : ∀ (l : List BA) (z : BA), z ∈ insS x l ↔ z = x ∨ z ∈ l
  | [], z => by simp [insS]
  | y :: t, z => by
    simp only [insS]
    by_cases h1 : strEq x y = true
    · have := strEq_iff.1 h1
      subst this
      simp [h1]
    · by_cases h2 : strLt x y = true
      · simp [h1, h2]
      · simp only [h1, h2, Bool.or_self, Bool.false_eq_true, if_false, List.mem_cons, insS_mem x t z]
        constructor
        · rintro (h | h | h)
          · exact .inr (.inl h)
          · exact .inl h
          · exact .inr (.inr h)
        · rintro (h | h | h)
          · exact .inr (.inl h)
          · exact .inl h
          · exact .inr (.inr h)
theorem lt_or {a b : BA} (h1 : ¬ strLt a b = true) (h2 : ¬ strEq a b = true) : b.toList < a.toList := by
  rw [strLt_iff] at h1
  rcases Decidable.em (b.toList < a.toList) with h | h
  · exact h
  · exact absurd (strEq_iff.2 (bl_inj (List.le_antisymm h h1))) h2
theorem insS_up (x : BA) : ∀ {l : List BA}, Up l → Up (insS x l)
  | [], _ => List.pairwise_singleton _ _
  | y :: t, h => by
    have h := List.pairwise_cons.1 h
    simp only [insS]
    by_cases h1 : strEq x y = true
    · have := strEq_iff.1 h1
      subst this
      simp only [h1, Bool.or_true, if_true]
      exact List.pairwise_cons.2 h
    · by_cases h2 : strLt x y = true
      · simp only [h1, h2, Bool.true_or, if_true, Bool.false_eq_true, if_false]
        refine List.pairwise_cons.2 ⟨fun z hz => ?_, List.pairwise_cons.2 h⟩
        have := strLt_iff.1 h2
        rcases List.mem_cons.1 hz with rfl | hz
        · exact this
        · exact List.lt_trans this (h.1 z hz)
      · simp only [h1, h2, Bool.or_self, Bool.false_eq_true, if_false]
        refine List.pairwise_cons.2 ⟨fun z hz => ?_, insS_up x h.2⟩
        rcases (insS_mem x t z).1 hz with rfl | hz
        · exact lt_or h2 h1
        · exact h.1 z hz
theorem insS_len (x : BA) : ∀ l : List BA, (insS x l).length ≤ l.length + 1
  | [] => Nat.le_refl _
  | y :: t => by
    have := insS_len x t
    simp only [insS]
    by_cases h1 : strEq x y = true
    · simp [h1]
    · by_cases h2 : strLt x y = true
      · simp [h1, h2]
      · simp only [h1, h2, Bool.or_self, Bool.false_eq_true, if_false, List.length_cons]; omega
/-- Two lists that rise and have the same names are the same. -/
theorem Up.same : ∀ {a b : List BA}, Up a → Up b → (∀ z, z ∈ a ↔ z ∈ b) → a = b
  | [], [], _, _, _ => rfl
  | [], y :: t, _, _, h => absurd ((h y).2 (by simp)) (by simp)
  | x :: t, [], _, _, h => absurd ((h x).1 (by simp)) (by simp)
  | x :: t, y :: u, ha, hb, h => by
    have ha := List.pairwise_cons.1 ha
    have hb := List.pairwise_cons.1 hb
    have e : x = y := by
      rcases List.mem_cons.1 ((h x).1 (by simp)) with h1 | h1
      · exact h1
      · rcases List.mem_cons.1 ((h y).2 (by simp)) with h2 | h2
        · exact h2.symm
        · exact absurd (List.lt_trans (hb.1 x h1) (ha.1 y h2)) (List.lt_irrefl _)
    subst e
    rw [Up.same ha.2 hb.2 fun z => ⟨fun hz => by
      rcases List.mem_cons.1 ((h z).1 (List.mem_cons_of_mem _ hz)) with e | e
      · exact absurd (e ▸ ha.1 z hz) (List.lt_irrefl _)
      · exact e, fun hz => by
      rcases List.mem_cons.1 ((h z).2 (List.mem_cons_of_mem _ hz)) with e | e
      · exact absurd (e ▸ hb.1 z hz) (List.lt_irrefl _)
      · exact e⟩]
/-- Names in order, without repetition. -/
def addN (acc : List BA) (x : BA) : List BA := insS x acc
theorem fold_up : ∀ (l acc : List BA), Up acc → Up (l.foldl addN acc) ∧ ∀ z, z ∈ l.foldl addN acc ↔ z ∈ acc ∨ z ∈ l
  | [], acc, h => ⟨h, fun z => by simp⟩
  | x :: t, acc, h => by
    obtain ⟨h1, h2⟩ := fold_up t (insS x acc) (insS_up x h)
    refine ⟨h1, fun z => (h2 z).trans ?_⟩
    rw [insS_mem, List.mem_cons]
    constructor
    · rintro ((h | h) | h)
      · exact .inr (.inl h)
      · exact .inl h
      · exact .inr (.inr h)
    · rintro (h | h | h)
      · exact .inl (.inr h)
      · exact .inl (.inl h)
      · exact .inr h
/-- The first of each name. -/
def hasN (acc : List BA) (x : BA) : Bool := acc.any fun y => strEq y x
theorem hasN_iff {acc : List BA} {x : BA} : hasN acc x = true ↔ x ∈ acc := by
  unfold hasN
  rw [List.any_eq_true]
  exact ⟨fun ⟨y, h1, h2⟩ => strEq_iff.1 h2 ▸ h1, fun h => ⟨x, h, strEq_iff.2 rfl⟩⟩
def newN (acc : List BA) (x : BA) : List BA := if hasN acc x = true then acc else acc ++ [x]
theorem fold_new : ∀ (l acc : List BA), acc.Nodup → (l.foldl newN acc).Nodup ∧ ∀ z, z ∈ l.foldl newN acc ↔ z ∈ acc ∨ z ∈ l
  | [], acc, h => ⟨h, fun z => by simp⟩
  | x :: t, acc, h => by
    have hx : (newN acc x).Nodup ∧ ∀ z, z ∈ newN acc x ↔ z ∈ acc ∨ z = x := by
      unfold newN
      by_cases hb : hasN acc x = true
      · have hm := hasN_iff.1 hb
        rw [if_pos hb]
        exact ⟨h, fun z => ⟨.inl, fun q => q.elim id fun e => e ▸ hm⟩⟩
      · have hm : ¬ x ∈ acc := fun q => hb (hasN_iff.2 q)
        rw [if_neg hb]
        refine ⟨List.nodup_append.2 ⟨h, by simp, fun a ha b hb => by simp at hb; subst hb; exact fun e => hm (e ▸ ha)⟩, fun z => by simp⟩
    obtain ⟨h1, h2⟩ := fold_new t (newN acc x) hx.1
    refine ⟨h1, fun z => (h2 z).trans ?_⟩
    rw [hx.2, List.mem_cons]
    constructor
    · rintro ((h | h) | h)
      · exact .inl h
      · exact .inr (.inl h)
      · exact .inr (.inr h)
    · rintro (h | h | h)
      · exact .inl (.inl h)
      · exact .inl (.inr h)
      · exact .inr h
theorem newN_len (acc : List BA) (x : BA) : (newN acc x).length ≤ acc.length + 1 := by
  unfold newN; split <;> simp
/-- The library's sort of distinct names. -/
def unL (s : List UInt8) : BA := ⟨s.toArray⟩
theorem sort_names {l : List BA} (hn : l.Nodup) : ∃ r, sortedS (l.map P.str) = r.map P.str ∧ Up r ∧ ∀ z, z ∈ r ↔ z ∈ l := by
  have e0 : (l.map P.str).map strL = l.map fun s => s.data.toList := by simp [strL, Function.comp_def, P.toStr]
  have hp := List.mergeSort_perm (l.map fun s => s.data.toList) fun x y => decide (x ≤ y)
  have hs := List.pairwise_mergeSort (le := fun (x y : List UInt8) => decide (x ≤ y)) (fun a b c h1 h2 => by simp only [decide_eq_true_eq] at *; exact List.le_trans h1 h2) (fun a b => by simp only [Bool.or_eq_true, decide_eq_true_eq]; exact List.le_total a b) (l.map fun s => s.data.toList)
  have hnd : (l.map fun s => s.data.toList).Nodup := by
    refine List.Pairwise.map _ (fun a b h e => ?_) hn
    exact h (bl_inj (by rw [ByteArray.toList_eq, ByteArray.toList_eq]; exact e))
  have hnd2 := hp.nodup_iff.2 hnd
  generalize hm : (l.map fun s => s.data.toList).mergeSort (fun x y => decide (x ≤ y)) = q at hp hs hnd2
  refine ⟨q.map unL, ?_, ?_, fun z => ?_⟩
  · unfold sortedS sortedL
    rw [e0, hm, List.map_map]; rfl
  · refine List.Pairwise.map _ (R := fun (x y : List UInt8) => x < y) (fun a b h => ?_) ?_
    · rw [ByteArray.toList_eq, ByteArray.toList_eq]; simpa [unL] using h
    · refine (hs.and hnd2).imp fun {a b} h => ?_
      have h1 : a ≤ b := by simpa using h.1
      rcases Decidable.em (a < b) with g | g
      · exact g
      · exact absurd (List.le_antisymm h1 g) h.2
  · rw [List.mem_map]
    constructor
    · rintro ⟨s, hs, rfl⟩
      obtain ⟨x, hx, rfl⟩ := List.mem_map.1 (hp.mem_iff.1 hs)
      simpa [unL] using hx
    · intro hz
      exact ⟨z.data.toList, hp.mem_iff.2 (List.mem_map.2 ⟨z, hz, rfl⟩), by simp [unL]⟩
theorem names_eq (l : List BA) : ∃ r, sortedS ((l.foldl newN []).map P.str) = r.map P.str ∧ r = l.foldl addN [] := by
  obtain ⟨h1, h2⟩ := fold_new l [] List.nodup_nil
  obtain ⟨g1, g2⟩ := fold_up l [] List.Pairwise.nil
  obtain ⟨r, hr, hu, hm⟩ := sort_names h1
  exact ⟨r, hr, hu.same g1 fun z => by rw [hm, h2, g2]⟩
end Go.Proofs.Ytihenfpnilliiaa.Mn
