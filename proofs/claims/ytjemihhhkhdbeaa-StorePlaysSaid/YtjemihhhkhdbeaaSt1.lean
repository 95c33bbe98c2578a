/- Stores: what clashes and terms that may be looked at come to. Conditions: none but those each states. -/
import Derived.Test.YtjemihhhkhdbeaaLabR
set_option linter.unusedVariables false
set_option linter.unusedSimpArgs false
namespace Go.Proofs.Ytjemihhhkhdbeaa.Mn
open Go Go.Eng
/-! ### loops -/
theorem loop_some {step : List P → Tree Step} {st : Nat → List P} {y1 z : Nat × List P} (n : Nat) (hn : n < 4611686018427387904)
    (hs : ∀ i, i < n → (∀ K : Step → Option (Nat × List P), (step (st i)).run K = K (.inl (st (i + 1)))) ∨ ∀ K : Step → Option (Nat × List P), (step (st i)).run K = K (.inr z))
    (he : ∀ K : Step → Option (Nat × List P), (step (st n)).run K = K (.inr y1)) : loopT step FUEL (st 0) = some y1 ∨ loopT step FUEL (st 0) = some z := by
  have key : ∀ d i, i + d = n → Lp (d + 1) step (st i) y1 ∨ Lp (d + 1) step (st i) z := by
    intro d
    induction d with
    | zero => intro i hi; obtain rfl : i = n := by omega
              exact .inl (Lp.done he)
    | succ d ih =>
      intro i hi
      rcases hs i (by omega) with h | h
      · rcases ih (i + 1) (by omega) with g | g
        · exact .inl (Lp.next h g)
        · exact .inr (Lp.next h g)
      · exact .inr (Lp.done h)
  rcases key n 0 (by omega) with h | h
  · exact .inl (h.fuel (by omega))
  · exact .inr (h.fuel (by omega))
theorem loop_inv {β : Type} {step : List P → Tree Step} (Inv : Nat → β → Prop) (st : Nat → β → List P) (fin : β → Nat × List P) (n : Nat) (hn : n < 4611686018427387904)
    (hs : ∀ i b, i < n → Inv i b → ∃ b', Inv (i + 1) b' ∧ ∀ K : Step → Option (Nat × List P), (step (st i b)).run K = K (.inl (st (i + 1) b')))
    (he : ∀ b, Inv n b → ∀ K : Step → Option (Nat × List P), (step (st n b)).run K = K (.inr (fin b))) (b0 : β) (h0 : Inv 0 b0) : ∃ b, Inv n b ∧ loopT step FUEL (st 0 b0) = some (fin b) := by
  have key : ∀ d i b, i + d = n → Inv i b → ∃ b', Inv n b' ∧ Lp (d + 1) step (st i b) (fin b') := by
    intro d
    induction d with
    | zero => intro i b hi hb; obtain rfl : i = n := by omega
              exact ⟨b, hb, Lp.done (he b hb)⟩
    | succ d ih =>
      intro i b hi hb
      obtain ⟨b1, h1, h2⟩ := hs i b (by omega) hb
      obtain ⟨b2, h3, h4⟩ := ih (i + 1) b1 (by omega) h1
      exact ⟨b2, h3, Lp.next h2 h4⟩
  obtain ⟨b, h1, h2⟩ := key n 0 b0 (by omega) h0
  exact ⟨b, h1, h2.fuel (by omega)⟩
theorem rd_getD (xs : List P) (i : Nat) : rd xs i = xs.getD i .unit := rfl
theorem rd_in {xs : List P} {i : Nat} (h : i < xs.length) : rd xs i ∈ xs := by
  rw [rd_getD, List.getD_eq_getElem?_getD, List.getElem?_eq_getElem h]; exact List.getElem_mem h
/-! ### what is looked at -/
def l18 (p : P) : Bool := decide ((p.snd.fst.xs.length : Int) > 60) || decide ((p.fst.toStr.size : Int) > 200)
def l19 (c : P) : Bool := decide ((c.xs.length : Int) > 40) || c.xs.any l18
def l24 (l : P) : Bool := decide ((l.xs.length : Int) > 60) || l.xs.any fun d => l19 d.snd.snd.fst
theorem large18_told (p : P) : f165_v [p] = some (0, [.bool (l18 p)]) := by
  simp only [f165_v, f165_t, Tree.run, Bool.cond_decide]
  simp only [Tree.run, lf0, lfs, toInt_int, toBool_bool, toStr_str, xs_list, nil_list, fst_pair, snd_pair, List.length_map, Option.bind_some, nb_same, cond_true, cond_false, decide_true, decide_false, l18]
  by_cases h : (p.snd.fst.xs.length : Int) > 60 <;> simp [h]
theorem any_not {α : Type} (p : α → Bool) (l : List α) : (l.all fun x => !p x) = !l.any p := by induction l <;> simp_all
theorem large19_told (c : P) : f104_v [c] = some (0, [.bool (l19 c)]) := by
  simp only [f104_v, f104_t, Tree.run, Bool.cond_decide]
  by_cases h : (c.xs.length : Int) > 40
  · simp only [Tree.run, lf0, lfs, toInt_int, toBool_bool, toStr_str, xs_list, nil_list, fst_pair, snd_pair, List.length_map, Option.bind_some, nb_same, cond_true, cond_false, decide_true, decide_false, eq_true h, if_true, l19, decide_eq_true h, Bool.true_or]
  · simp only [Tree.run, lf0, lfs, toInt_int, toBool_bool, toStr_str, xs_list, nil_list, fst_pair, snd_pair, List.length_map, Option.bind_some, nb_same, cond_true, cond_false, decide_true, decide_false, eq_false h, if_false, l19, decide_eq_false h, Bool.false_or]
    have lp := loop_allB (step := f104_s58) (st := fun i => [c, I (i : Int)]) (y1 := (1, [])) (z := (0, [.bool true])) (ok := fun i => !l18 (rd c.xs i)) c.xs.length (by omega) (fun i hi K => by
      simp only [f104_s58, Tree.run, Bool.cond_decide]
      simp only [Tree.run, lf0, lfs, toInt_int, toBool_bool, toStr_str, xs_list, nil_list, fst_pair, snd_pair, List.length_map, Option.bind_some, nb_same, cond_true, cond_false, decide_true, decide_false, eq_true (show (i : Int) < c.xs.length by omega), if_true, inb_nat hi, Int.toNat_natCast, large18_told, wrap_succ i (by omega)]
      cases l18 (rd c.xs i) <;> rfl) (fun K => by
      simp only [f104_s58, Tree.run, Bool.cond_decide]
      simp only [Tree.run, lf0, lfs, toInt_int, toBool_bool, toStr_str, xs_list, nil_list, fst_pair, snd_pair, List.length_map, Option.bind_some, nb_same, cond_true, cond_false, decide_true, decide_false, eq_false (show ¬ (c.xs.length : Int) < c.xs.length by omega), if_false])
    rw [show loopT f104_s58 FUEL [c, .int .i64 0] = _ from lp]
    have := all_getD (fun p => !l18 p) .unit c.xs
    simp only [rd_getD] at this ⊢
    rw [this, any_not]
    cases c.xs.any l18 <;> rfl
theorem large24_told (l : P) : f15_v [l] = some (0, [.bool (l24 l)]) := by
  simp only [f15_v, f15_t, Tree.run, Bool.cond_decide]
  by_cases h : (l.xs.length : Int) > 60
  · simp only [Tree.run, lf0, lfs, toInt_int, toBool_bool, toStr_str, xs_list, nil_list, fst_pair, snd_pair, List.length_map, Option.bind_some, nb_same, cond_true, cond_false, decide_true, decide_false, eq_true h, if_true, l24, decide_eq_true h, Bool.true_or]
  · simp only [Tree.run, lf0, lfs, toInt_int, toBool_bool, toStr_str, xs_list, nil_list, fst_pair, snd_pair, List.length_map, Option.bind_some, nb_same, cond_true, cond_false, decide_true, decide_false, eq_false h, if_false, l24, decide_eq_false h, Bool.false_or]
    have lp := loop_allB (step := f15_s58) (st := fun i => [l, I (i : Int)]) (y1 := (1, [])) (z := (0, [.bool true])) (ok := fun i => !l19 (rd l.xs i).snd.snd.fst) l.xs.length (by omega) (fun i hi K => by
      simp only [f15_s58, Tree.run, Bool.cond_decide]
      simp only [Tree.run, lf0, lfs, toInt_int, toBool_bool, toStr_str, xs_list, nil_list, fst_pair, snd_pair, List.length_map, Option.bind_some, nb_same, cond_true, cond_false, decide_true, decide_false, eq_true (show (i : Int) < l.xs.length by omega), if_true, inb_nat hi, Int.toNat_natCast, large19_told, wrap_succ i (by omega)]
      cases l19 (rd l.xs i).snd.snd.fst <;> rfl) (fun K => by
      simp only [f15_s58, Tree.run, Bool.cond_decide]
      simp only [Tree.run, lf0, lfs, toInt_int, toBool_bool, toStr_str, xs_list, nil_list, fst_pair, snd_pair, List.length_map, Option.bind_some, nb_same, cond_true, cond_false, decide_true, decide_false, eq_false (show ¬ (l.xs.length : Int) < l.xs.length by omega), if_false])
    rw [show loopT f15_s58 FUEL [l, .int .i64 0] = _ from lp]
    have := all_getD (fun p : P => !l19 p.snd.snd.fst) .unit l.xs
    simp only [rd_getD] at this ⊢
    rw [this, any_not (fun p : P => l19 p.snd.snd.fst)]
    cases l.xs.any (fun p => l19 p.snd.snd.fst) <;> rfl
/-- A clash that is not too large. -/
structure Sm (c : P) : Prop where
  len : c.xs.length ≤ 40
  sp : ∀ t ∈ c.xs, t.snd.fst.xs.length ≤ 60 ∧ t.fst.toStr.size ≤ 200
theorem l19_sm {c : P} (h : l19 c = false) : Sm c := by
  unfold l19 at h
  simp only [Bool.or_eq_false_iff, decide_eq_false_iff_not, List.any_eq_false] at h
  refine ⟨by omega, fun t ht => ?_⟩
  have := h.2 t ht
  unfold l18 at this
  simp only [Bool.not_eq_true, Bool.or_eq_false_iff, decide_eq_false_iff_not] at this
  omega
/-! ### which clashes may be -/
theorem check06_told (l : P) (hl : l.xs.length ≤ 1000000) : ∃ b, f81_v [l] = some (0, [.bool b]) := by
  have lp := loop_some (step := f81_s26) (st := fun i => [l, I (i : Int)]) (y1 := (1, [])) (z := (0, [.bool false])) l.xs.length (by omega) (fun i hi => by
    simp only [f81_s26, Tree.run, Bool.cond_decide]
    simp only [Tree.run, lf0, lfs, toInt_int, toBool_bool, toStr_str, xs_list, nil_list, fst_pair, snd_pair, List.length_map, Option.bind_some, nb_same, cond_true, cond_false, decide_true, decide_false, eq_true (show (i : Int) < l.xs.length by omega), if_true, inb_nat hi, Int.toNat_natCast, wrap_succ i (by omega)]
    by_cases h1 : (rd l.xs i).fst.toInt < 0
    · simp only [eq_true h1, if_true]; (first | exact .inr fun K => rfl | exact .inr fun _ => trivial | trivial)
    · simp only [eq_false h1, if_false]
      by_cases h2 : (rd l.xs i).snd.fst.toInt > 1000000000
      · simp only [eq_true h2, if_true]; (first | exact .inr fun K => rfl | exact .inr fun _ => trivial | trivial)
      · simp only [eq_false h2, if_false]
        by_cases h3 : (rd l.xs i).fst.toInt ≥ (rd l.xs i).snd.fst.toInt
        · simp only [eq_true h3, if_true]; (first | exact .inr fun K => rfl | exact .inr fun _ => trivial | trivial)
        · simp only [eq_false h3, if_false]
          cases i with
          | zero => simp only [eq_false (show ¬ ((0 : Nat) : Int) > 0 by omega), if_false]; (first | exact .inl fun K => rfl | exact .inl fun _ => trivial | trivial)
          | succ j =>
            simp only [eq_true (show ((j + 1 : Nat) : Int) > 0 by omega), if_true, wrap_pred j (by omega), inb_nat (show j < l.xs.length by omega), Tree.run, lf0, lfs, toInt_int, toBool_bool, toStr_str, xs_list, nil_list, fst_pair, snd_pair, List.length_map, Option.bind_some, nb_same, cond_true, cond_false, decide_true, decide_false, Int.toNat_natCast]
            by_cases h4 : (rd l.xs (j + 1)).fst.toInt ≤ (rd l.xs j).snd.fst.toInt
            · simp only [eq_true h4, if_true]; (first | exact .inr fun K => rfl | exact .inr fun _ => trivial | trivial)
            · simp only [eq_false h4, if_false]; (first | exact .inl fun K => rfl | exact .inl fun _ => trivial | trivial)) (fun K => by
    simp only [f81_s26, Tree.run, Bool.cond_decide]
    simp only [Tree.run, lf0, lfs, toInt_int, toBool_bool, toStr_str, xs_list, nil_list, fst_pair, snd_pair, List.length_map, Option.bind_some, nb_same, cond_true, cond_false, decide_true, decide_false, eq_false (show ¬ (l.xs.length : Int) < l.xs.length by omega), if_false])
  simp only [f81_v, f81_t, Tree.run, Bool.cond_decide]
  simp only [Tree.run, lf0, lfs, toInt_int, toBool_bool, toStr_str, xs_list, nil_list, fst_pair, snd_pair, List.length_map, Option.bind_some, nb_same, cond_true, cond_false, decide_true, decide_false]
  rcases lp with lp | lp
  · rw [show loopT f81_s26 FUEL [l, .int .i64 0] = _ from lp]; exact ⟨_, rfl⟩
  · rw [show loopT f81_s26 FUEL [l, .int .i64 0] = _ from lp]; exact ⟨_, rfl⟩
theorem check18_told (t : P) (h1 : t.snd.fst.xs.length ≤ 60) (h2 : t.fst.toStr.size ≤ 200) (hc : ∃ s, t.fst = .str s) : ∃ b, f105_v [t] = some (0, [.bool b]) := by
  obtain ⟨s, hs⟩ := hc
  rw [hs] at h2
  have hf := rfit_told s (by simp only [toStr_str] at h2; omega)
  obtain ⟨b, hb⟩ := check06_told t.snd.fst (by omega)
  simp only [f105_v, f105_t, Tree.run, Bool.cond_decide]
  simp only [Tree.run, lf0, lfs, toInt_int, toBool_bool, toStr_str, xs_list, nil_list, fst_pair, snd_pair, List.length_map, Option.bind_some, nb_same, cond_true, cond_false, decide_true, decide_false, hs, hf]
  cases fitB s with
  | true => simp only [Tree.run, lf0, lfs, toInt_int, toBool_bool, toStr_str, xs_list, nil_list, fst_pair, snd_pair, List.length_map, Option.bind_some, nb_same, cond_true, cond_false, decide_true, decide_false, hb]; exact ⟨_, rfl⟩
  | false => exact ⟨_, rfl⟩
theorem eqP_span (p : P) : eqP (.pair (.int .i64) (.pair (.int .i64) .unit)) p p = true := by simp [eqP]
theorem same06_told (a b : P) (h : a.xs.length ≤ 1000000) : ∃ r, f82_v [a, b] = some (0, [.bool r]) ∧ (a.xs = b.xs → r = true) := by
  simp only [f82_v, f82_t, Tree.run, Bool.cond_decide]
  by_cases hl : a.xs.length = b.xs.length
  · have hl' : ((a.xs.length : Int) != (b.xs.length : Int)) = false := by simp [hl]
    simp only [Tree.run, lf0, lfs, toInt_int, toBool_bool, toStr_str, xs_list, nil_list, fst_pair, snd_pair, List.length_map, Option.bind_some, nb_same, cond_true, cond_false, decide_true, decide_false, hl']
    have he : ∀ K : Step → Option (Nat × List P), (f82_s58 [a, b, I (a.xs.length : Int)]).run K = K (.inr (1, [])) := fun K => by
      simp only [f82_s58, Tree.run, Bool.cond_decide]
      simp only [Tree.run, lf0, lfs, toInt_int, toBool_bool, toStr_str, xs_list, nil_list, fst_pair, snd_pair, List.length_map, Option.bind_some, nb_same, cond_true, cond_false, decide_true, decide_false, eq_false (show ¬ (a.xs.length : Int) < a.xs.length by omega), if_false]
    by_cases hab : a.xs = b.xs
    · have lp := loop_scan (step := f82_s58) (st := fun i => [a, b, I (i : Int)]) (y1 := (1, [])) (bad := fun _ => none) a.xs.length (by omega) (fun i hi K => by
        simp only [f82_s58, Tree.run, Bool.cond_decide]
        simp only [Tree.run, lf0, lfs, toInt_int, toBool_bool, toStr_str, xs_list, nil_list, fst_pair, snd_pair, List.length_map, Option.bind_some, nb_same, cond_true, cond_false, decide_true, decide_false, eq_true (show (i : Int) < a.xs.length by omega), if_true, inb_nat hi, inb_nat (show i < b.xs.length by omega), Int.toNat_natCast, ← hab, eqP_span, Bool.not_true, wrap_succ i (by omega)]) he
      rw [show loopT f82_s58 FUEL [a, b, .int .i64 0] = _ from lp]
      have hn : ((List.range' 0 a.xs.length).findSome? fun _ => (none : Option (Nat × List P))) = none := by simp
      rw [hn]
      exact ⟨true, rfl, fun _ => rfl⟩
    · have lp := loop_some (step := f82_s58) (st := fun i => [a, b, I (i : Int)]) (y1 := (1, [])) (z := (0, [.bool false])) a.xs.length (by omega) (fun i hi => by
        simp only [f82_s58, Tree.run, Bool.cond_decide]
        simp only [Tree.run, lf0, lfs, toInt_int, toBool_bool, toStr_str, xs_list, nil_list, fst_pair, snd_pair, List.length_map, Option.bind_some, nb_same, cond_true, cond_false, decide_true, decide_false, eq_true (show (i : Int) < a.xs.length by omega), if_true, inb_nat hi, inb_nat (show i < b.xs.length by omega), Int.toNat_natCast, wrap_succ i (by omega)]
        cases eqP (.pair (.int .i64) (.pair (.int .i64) .unit)) (rd a.xs i) (rd b.xs i)
        · (first | exact .inr fun K => rfl | exact .inr fun _ => trivial | trivial)
        · (first | exact .inl fun K => rfl | exact .inl fun _ => trivial | trivial)) he
      rcases lp with lp | lp
      · rw [show loopT f82_s58 FUEL [a, b, .int .i64 0] = _ from lp]; exact ⟨_, rfl, fun h => absurd h hab⟩
      · rw [show loopT f82_s58 FUEL [a, b, .int .i64 0] = _ from lp]; exact ⟨_, rfl, fun h => absurd h hab⟩
  · have hl' : ((a.xs.length : Int) != (b.xs.length : Int)) = true := by rw [bne_iff_ne]; omega
    simp only [Tree.run, lf0, lfs, toInt_int, toBool_bool, toStr_str, xs_list, nil_list, fst_pair, snd_pair, List.length_map, Option.bind_some, nb_same, cond_true, cond_false, decide_true, decide_false, hl']
    exact ⟨false, rfl, fun h => absurd (by rw [h]) hl⟩
theorem full_told (t : P) (h : t.snd.fst.xs.length ≤ 60) : ∃ b, f106_v [t] = some (0, [.bool b]) := by
  obtain ⟨r, hr, _⟩ := same06_told t.snd.fst (.list false [.pair (I 0) (.pair (I 1000000000) .unit)]) (by omega)
  simp only [f106_v, f106_t, f87_v, f87_t, Tree.run, Bool.cond_decide]
  cases hb : t.snd.snd.fst.toBool <;> simp only [Tree.run, lf0, lfs, toInt_int, toBool_bool, toStr_str, xs_list, nil_list, fst_pair, snd_pair, List.length_map, Option.bind_some, nb_same, cond_true, cond_false, decide_true, decide_false, hb, hr] <;> exact ⟨_, rfl⟩
theorem empty_told (t : P) : ∃ b, f107_v [t] = some (0, [.bool b]) := by
  simp only [f107_v, f107_t, Tree.run, Bool.cond_decide]
  cases hb : t.snd.snd.fst.toBool <;> simp only [Tree.run, lf0, lfs, toInt_int, toBool_bool, toStr_str, xs_list, nil_list, fst_pair, snd_pair, List.length_map, Option.bind_some, nb_same, cond_true, cond_false, decide_true, decide_false, hb, Bool.not_true, Bool.not_false] <;> exact ⟨_, rfl⟩
theorem check19_told (c : P) (hs : Sm c) (hc : ∀ t ∈ c.xs, ∃ s, t.fst = .str s) : ∃ b, f18_v [c] = some (0, [.bool b]) := by
  have hlen := hs.len
  have lp := loop_some (step := f18_s26) (st := fun i => [c, I (i : Int)]) (y1 := (1, [])) (z := (0, [.bool false])) c.xs.length (by omega) (fun i hi => by
    have hm := rd_in hi
    obtain ⟨q1, q2⟩ := hs.sp _ hm
    obtain ⟨b1, h1⟩ := check18_told (rd c.xs i) q1 q2 (hc _ hm)
    obtain ⟨b2, h2⟩ := full_told (rd c.xs i) q1
    obtain ⟨b3, h3⟩ := empty_told (rd c.xs i)
    simp only [f18_s26, Tree.run, Bool.cond_decide]
    simp only [Tree.run, lf0, lfs, toInt_int, toBool_bool, toStr_str, xs_list, nil_list, fst_pair, snd_pair, List.length_map, Option.bind_some, nb_same, cond_true, cond_false, decide_true, decide_false, eq_true (show (i : Int) < c.xs.length by omega), if_true, inb_nat hi, Int.toNat_natCast, h1, h2, h3, wrap_succ i (by omega)]
    cases b1 with
    | false => (first | exact .inr fun K => rfl | exact .inr fun _ => trivial | trivial)
    | true =>
      cases b2 with
      | true => (first | exact .inr fun K => rfl | exact .inr fun _ => trivial | trivial)
      | false =>
        cases b3 with
        | true => (first | exact .inr fun K => rfl | exact .inr fun _ => trivial | trivial)
        | false =>
          simp only [Tree.run, lf0, lfs, toInt_int, toBool_bool, toStr_str, xs_list, nil_list, fst_pair, snd_pair, List.length_map, Option.bind_some, nb_same, cond_true, cond_false, decide_true, decide_false, Bool.not_true]
          cases i with
          | zero => simp only [eq_false (show ¬ ((0 : Nat) : Int) > 0 by omega), if_false]; (first | exact .inl fun K => rfl | exact .inl fun _ => trivial | trivial)
          | succ j =>
            simp only [eq_true (show ((j + 1 : Nat) : Int) > 0 by omega), if_true, wrap_pred j (by omega), inb_nat (show j < c.xs.length by omega), Tree.run, lf0, lfs, toInt_int, toBool_bool, toStr_str, xs_list, nil_list, fst_pair, snd_pair, List.length_map, Option.bind_some, nb_same, cond_true, cond_false, decide_true, decide_false, Int.toNat_natCast]
            generalize (strLt _ _ || strEq _ _) = bb
            cases bb
            · (first | exact .inl fun K => rfl | exact .inl fun _ => trivial | trivial)
            · (first | exact .inr fun K => rfl | exact .inr fun _ => trivial | trivial)) (fun K => by
    simp only [f18_s26, Tree.run, Bool.cond_decide]
    simp only [Tree.run, lf0, lfs, toInt_int, toBool_bool, toStr_str, xs_list, nil_list, fst_pair, snd_pair, List.length_map, Option.bind_some, nb_same, cond_true, cond_false, decide_true, decide_false, eq_false (show ¬ (c.xs.length : Int) < c.xs.length by omega), if_false])
  simp only [f18_v, f18_t, Tree.run, Bool.cond_decide]
  simp only [Tree.run, lf0, lfs, toInt_int, toBool_bool, toStr_str, xs_list, nil_list, fst_pair, snd_pair, List.length_map, Option.bind_some, nb_same, cond_true, cond_false, decide_true, decide_false]
  rcases lp with lp | lp
  · rw [show loopT f18_s26 FUEL [c, .int .i64 0] = _ from lp]; exact ⟨_, rfl⟩
  · rw [show loopT f18_s26 FUEL [c, .int .i64 0] = _ from lp]; exact ⟨_, rfl⟩
theorem strEq_self (s : ByteArray) : strEq s s = true := by simp [strEq]
theorem same18_told (t : P) (h : t.snd.fst.xs.length ≤ 60) : f109_v [t, t] = some (0, [.bool true]) := by
  obtain ⟨r, hr, h2⟩ := same06_told t.snd.fst t.snd.fst (by omega)
  simp only [f109_v, f109_t, Tree.run, Bool.cond_decide]
  simp only [Tree.run, lf0, lfs, toInt_int, toBool_bool, toStr_str, xs_list, nil_list, fst_pair, snd_pair, List.length_map, Option.bind_some, nb_same, cond_true, cond_false, decide_true, decide_false, strEq_self, beq_self_eq_true, hr, h2 rfl]
theorem same19_told (n : Bool) (c : P) (hs : Sm c) : f22_v [.list n c.xs, c] = some (0, [.bool true]) := by
  have hlen := hs.len
  simp only [f22_v, f22_t, Tree.run, Bool.cond_decide]
  have hl' : ((c.xs.length : Int) != (c.xs.length : Int)) = false := by simp
  simp only [Tree.run, lf0, lfs, toInt_int, toBool_bool, toStr_str, xs_list, nil_list, fst_pair, snd_pair, List.length_map, Option.bind_some, nb_same, cond_true, cond_false, decide_true, decide_false, hl']
  have lp := loop_scan (step := f22_s58) (st := fun i => [.list n c.xs, c, I (i : Int)]) (y1 := (1, [])) (bad := fun _ => none) c.xs.length (by omega) (fun i hi K => by
    simp only [f22_s58, Tree.run, Bool.cond_decide]
    simp only [Tree.run, lf0, lfs, toInt_int, toBool_bool, toStr_str, xs_list, nil_list, fst_pair, snd_pair, List.length_map, Option.bind_some, nb_same, cond_true, cond_false, decide_true, decide_false, eq_true (show (i : Int) < c.xs.length by omega), if_true, inb_nat hi, Int.toNat_natCast, same18_told _ (hs.sp _ (rd_in hi)).1, Bool.not_true, wrap_succ i (by omega)]) (fun K => by
    simp only [f22_s58, Tree.run, Bool.cond_decide]
    simp only [Tree.run, lf0, lfs, toInt_int, toBool_bool, toStr_str, xs_list, nil_list, fst_pair, snd_pair, List.length_map, Option.bind_some, nb_same, cond_true, cond_false, decide_true, decide_false, eq_false (show ¬ (c.xs.length : Int) < c.xs.length by omega), if_false])
  rw [show loopT f22_s58 FUEL [.list n c.xs, c, .int .i64 0] = _ from lp]
  have hn : ((List.range' 0 c.xs.length).findSome? fun _ => (none : Option (Nat × List P))) = none := by simp
  rw [hn]; rfl
end Go.Proofs.Ytjemihhhkhdbeaa.Mn
