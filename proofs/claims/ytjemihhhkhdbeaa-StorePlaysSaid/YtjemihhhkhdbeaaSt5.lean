/- Stores: DeleteFunc, Learned, About. Conditions: none but those each states. -/
import Derived.Test.YtjemihhhkhdbeaaSt4
set_option linter.unusedVariables false
set_option linter.unusedSimpArgs false
namespace Go.Proofs.Ytjemihhhkhdbeaa.Mn
open Go Go.Eng
theorem clr_len {w : Nat} {z : P} {xs : List P} (h : w ≤ xs.length) : (clr w (xs.length - w) z xs).length = xs.length := by
  simp [clr]; omega
theorem clr_take {w n : Nat} {z : P} {xs : List P} (h : w ≤ xs.length) : (clr w n z xs).take w = xs.take w := by
  unfold clr
  rw [List.take_append_of_le_length (by rw [List.length_take]; omega), List.take_take, Nat.min_self]
theorem win_clr {w n : Nat} {z : P} {xs : List P} (h : w ≤ xs.length) : winOf 0 w (clr w n z xs) = xs.take w := by
  unfold winOf
  rw [List.drop_zero, clr_take h]
/-- What goes (Learned). -/
def delL (L : List P) (p : P) : Bool := !(rd L p.toInt.toNat).snd.snd.fst.toBool
theorem delL_told (L a u p x : P) (h : inb p.toInt L.xs.length = true) : f115_1_v [p, L, a, x] = some (0, [.bool (!(rd L.xs p.toInt.toNat).snd.snd.fst.toBool)]) := by
  simp only [f115_1_v, f115_1_t, Tree.run, Bool.cond_decide]
  simp only [Tree.run, lf0, lfs, toInt_int, toBool_bool, toStr_str, xs_list, nil_list, fst_pair, snd_pair, List.length_map, Option.bind_some, nb_same, cond_true, cond_false, decide_true, decide_false, h]
theorem delL_idx (xs : List P) (nb : Bool) (L a u : P) (hx : ∀ p ∈ xs, inb p.toInt L.xs.length = true) (hn : xs.length ≤ 1000) :
    ((∀ i, i < xs.length → delL L.xs (rd xs i) = false) ∧ f169_2_v [.list nb xs, L, a, u, .unit] = some (0, [I (-1), .list nb xs, .list L.isNil L.xs, a, u])) ∨
    ∃ i, i < xs.length ∧ (∀ j, j < i → delL L.xs (rd xs j) = false) ∧ delL L.xs (rd xs i) = true ∧ f169_2_v [.list nb xs, L, a, u, .unit] = some (0, [I (i : Int), .list nb xs, .list L.isNil L.xs, a, u]) := by
  have lp := idx_loop (step := f169_2_s26) (delL L.xs) xs (fun i => [.unit, I (xs.length : Int), I (i : Int), .list nb xs, u, .list L.isNil L.xs, a]) (fun i => (0, [.unit, I (i : Int), .list nb xs, u, .list L.isNil L.xs, a])) (1, [.unit, .list nb xs, u, .list L.isNil L.xs, a]) (by omega) (fun i hi K => by
      have hp := delL_told (.list L.isNil L.xs) a u (rd xs i) u (hx _ (rd_in hi))
      simp only [f169_2_s26, Tree.run, Bool.cond_decide]
      simp only [Tree.run, lf0, lfs, toInt_int, toBool_bool, toStr_str, xs_list, nil_list, fst_pair, snd_pair, List.length_map, Option.bind_some, nb_same, cond_true, cond_false, decide_true, decide_false, eq_true (show (i : Int) < xs.length by omega), if_true, inb_nat hi, Int.toNat_natCast, hp, wrap_succ i (by omega)]
      simp only [show (!(rd L.xs (rd xs i).toInt.toNat).snd.snd.fst.toBool) = delL L.xs (rd xs i) from rfl]
      cases delL L.xs (rd xs i) <;> rfl) (fun K => by
      simp only [f169_2_s26, Tree.run, Bool.cond_decide]
      simp only [Tree.run, lf0, lfs, toInt_int, toBool_bool, toStr_str, xs_list, nil_list, fst_pair, snd_pair, List.length_map, Option.bind_some, nb_same, cond_true, cond_false, decide_true, decide_false, eq_false (show ¬ (xs.length : Int) < xs.length by omega), if_false])
  rcases lp with ⟨h1, lp⟩ | ⟨i, h1, h2, h3, lp⟩
  · refine .inl ⟨h1, ?_⟩
    simp only [f169_2_v, f169_2_t, Tree.run, Bool.cond_decide]
    simp only [Tree.run, lf0, lfs, toInt_int, toBool_bool, toStr_str, xs_list, nil_list, fst_pair, snd_pair, List.length_map, Option.bind_some, nb_same, cond_true, cond_false, decide_true, decide_false]
    rw [show loopT f169_2_s26 FUEL [.unit, .int .i64 (xs.length : Int), .int .i64 0, .list nb xs, u, .list L.isNil L.xs, a] = _ from lp]
    rfl
  · refine .inr ⟨i, h1, h2, h3, ?_⟩
    simp only [f169_2_v, f169_2_t, Tree.run, Bool.cond_decide]
    simp only [Tree.run, lf0, lfs, toInt_int, toBool_bool, toStr_str, xs_list, nil_list, fst_pair, snd_pair, List.length_map, Option.bind_some, nb_same, cond_true, cond_false, decide_true, decide_false]
    rw [show loopT f169_2_s26 FUEL [.unit, .int .i64 (xs.length : Int), .int .i64 0, .list nb xs, u, .list L.isNil L.xs, a] = _ from lp]
    rfl
theorem delL_del (xs : List P) (nb : Bool) (L a u : P) (hx : ∀ p ∈ xs, inb p.toInt L.xs.length = true) (hn : xs.length ≤ 1000) :
    (f114_2_v [.list nb xs, L, a, u, .unit] = some (0, [.list nb xs, .list L.isNil L.xs, a, u]) ∧ xs.filter (fun p => !delL L.xs p) = xs) ∨
    ∃ (w : Nat) (ys : List P), winOf 0 w ys = xs.filter (fun p => !delL L.xs p) ∧ f114_2_v [.list nb xs, L, a, u, .unit] = some (1, [I 0, I (w : Int), .list nb ys, .list L.isNil L.xs, a, u]) := by
  rcases delL_idx xs nb (.list L.isNil L.xs) a u hx hn with ⟨h1, h2⟩ | ⟨i, h1, h2, h3, h4⟩
  · refine .inl ⟨?_, all_keep h1⟩
    simp only [xs_list, nil_list] at h2
    simp only [f114_2_v, f114_2_t, Tree.run, Bool.cond_decide]
    simp only [Tree.run, lf0, lfs, toInt_int, toBool_bool, toStr_str, xs_list, nil_list, fst_pair, snd_pair, List.length_map, Option.bind_some, nb_same, cond_true, cond_false, decide_true, decide_false, h2, beq_self_eq_true]
  · simp only [xs_list, nil_list] at h2 h3 h4
    obtain ⟨w, ys, q1, q2, q3, lp⟩ := del_loop (step := f114_2_s122) (delL L.xs) xs i (fun j w ys => [.unit, I (w : Int), I (j : Int), .list nb ys, u, .list L.isNil L.xs, a]) (fun w ys => (0, [.unit, I (w : Int), .list nb ys, u, .list L.isNil L.xs, a])) (by omega) h1 h2 h3 (fun j w ys g1 g2 g3 g4 K => by
      have hp := delL_told (.list L.isNil L.xs) a u (rd xs j) u (hx _ (rd_in g1))
      simp only [f114_2_s122, Tree.run, Bool.cond_decide]
      simp only [Tree.run, lf0, lfs, toInt_int, toBool_bool, toStr_str, xs_list, nil_list, fst_pair, snd_pair, List.length_map, Option.bind_some, nb_same, cond_true, cond_false, decide_true, decide_false, g3, eq_true (show (j : Int) < xs.length by omega), if_true, inb_nat g1, Int.toNat_natCast, g4, hp, inb_nat (show w < xs.length by omega), wrap_succ j (by omega), wrap_succ w (by omega)]
      simp only [show (!(rd L.xs (rd xs j).toInt.toNat).snd.snd.fst.toBool) = delL L.xs (rd xs j) from rfl]
      cases delL L.xs (rd xs j) <;> rfl) (fun w ys g1 g2 K => by
      simp only [f114_2_s122, Tree.run, Bool.cond_decide]
      simp only [Tree.run, lf0, lfs, toInt_int, toBool_bool, toStr_str, xs_list, nil_list, fst_pair, snd_pair, List.length_map, Option.bind_some, nb_same, cond_true, cond_false, decide_true, decide_false, g2, eq_false (show ¬ (xs.length : Int) < xs.length by omega), if_false])
    refine .inr ⟨w, clr w (ys.length - w) (.int .i64 0) ys, by rw [win_clr (by omega)]; exact q3, ?_⟩
    have hne : ((i : Int) == -1) = false := by rw [beq_eq_false_iff_ne]; omega
    have hcl := clr_len (z := .int .i64 0) (show w ≤ ys.length by omega)
    simp only [f114_2_v, f114_2_t, Tree.run, Bool.cond_decide]
    simp only [Tree.run, lf0, lfs, toInt_int, toBool_bool, toStr_str, xs_list, nil_list, fst_pair, snd_pair, List.length_map, Option.bind_some, nb_same, cond_true, cond_false, decide_true, decide_false, h4, hne, wrap_succ i (by omega)]
    rw [show loopT f114_2_s122 FUEL [.unit, .int .i64 (i : Int), .int .i64 ((i + 1 : Nat) : Int), .list nb xs, u, .list L.isNil L.xs, a] = _ from lp]
    simp only [Tree.run, lf0, lfs, toInt_int, toBool_bool, toStr_str, xs_list, nil_list, fst_pair, snd_pair, List.length_map, Option.bind_some, nb_same, cond_true, cond_false, decide_true, decide_false, Int.toNat_natCast, hcl, eq_true (show (0 : Int) ≤ w ∧ (w : Int) ≤ ys.length ∧ (ys.length : Int) ≤ ys.length by omega), eq_true (show (0 : Int) ≤ 0 ∧ (0 : Int) ≤ w ∧ (w : Int) ≤ ys.length by omega), if_true, Int.sub_zero]
/-- What goes (About). -/
def delA (L : List P) (p : P) : Bool := (rd L p.toInt.toNat).snd.snd.snd.fst.toBool
theorem delA_told (L a u p x : P) (h : inb p.toInt L.xs.length = true) : f117_v [p, L, a, x] = some (0, [(rd L.xs p.toInt.toNat).snd.snd.snd.fst]) := by
  simp only [f117_v, f117_t, Tree.run, Bool.cond_decide]
  simp only [Tree.run, lf0, lfs, toInt_int, toBool_bool, toStr_str, xs_list, nil_list, fst_pair, snd_pair, List.length_map, Option.bind_some, nb_same, cond_true, cond_false, decide_true, decide_false, h]
theorem delA_idx (xs : List P) (nb : Bool) (L a u : P) (hx : ∀ p ∈ xs, inb p.toInt L.xs.length = true) (hn : xs.length ≤ 1000) :
    ((∀ i, i < xs.length → delA L.xs (rd xs i) = false) ∧ f169_4_v [.list nb xs, L, a, u, .unit] = some (0, [I (-1), .list nb xs, .list L.isNil L.xs, a, u])) ∨
    ∃ i, i < xs.length ∧ (∀ j, j < i → delA L.xs (rd xs j) = false) ∧ delA L.xs (rd xs i) = true ∧ f169_4_v [.list nb xs, L, a, u, .unit] = some (0, [I (i : Int), .list nb xs, .list L.isNil L.xs, a, u]) := by
  have lp := idx_loop (step := f169_4_s26) (delA L.xs) xs (fun i => [.unit, I (xs.length : Int), I (i : Int), .list nb xs, u, .list L.isNil L.xs, a]) (fun i => (0, [.unit, I (i : Int), .list nb xs, u, .list L.isNil L.xs, a])) (1, [.unit, .list nb xs, u, .list L.isNil L.xs, a]) (by omega) (fun i hi K => by
      have hp := delA_told (.list L.isNil L.xs) a u (rd xs i) u (hx _ (rd_in hi))
      simp only [f169_4_s26, Tree.run, Bool.cond_decide]
      simp only [Tree.run, lf0, lfs, toInt_int, toBool_bool, toStr_str, xs_list, nil_list, fst_pair, snd_pair, List.length_map, Option.bind_some, nb_same, cond_true, cond_false, decide_true, decide_false, eq_true (show (i : Int) < xs.length by omega), if_true, inb_nat hi, Int.toNat_natCast, hp, wrap_succ i (by omega)]
      simp only [show ((rd L.xs (rd xs i).toInt.toNat).snd.snd.snd.fst.toBool) = delA L.xs (rd xs i) from rfl]
      cases delA L.xs (rd xs i) <;> rfl) (fun K => by
      simp only [f169_4_s26, Tree.run, Bool.cond_decide]
      simp only [Tree.run, lf0, lfs, toInt_int, toBool_bool, toStr_str, xs_list, nil_list, fst_pair, snd_pair, List.length_map, Option.bind_some, nb_same, cond_true, cond_false, decide_true, decide_false, eq_false (show ¬ (xs.length : Int) < xs.length by omega), if_false])
  rcases lp with ⟨h1, lp⟩ | ⟨i, h1, h2, h3, lp⟩
  · refine .inl ⟨h1, ?_⟩
    simp only [f169_4_v, f169_4_t, Tree.run, Bool.cond_decide]
    simp only [Tree.run, lf0, lfs, toInt_int, toBool_bool, toStr_str, xs_list, nil_list, fst_pair, snd_pair, List.length_map, Option.bind_some, nb_same, cond_true, cond_false, decide_true, decide_false]
    rw [show loopT f169_4_s26 FUEL [.unit, .int .i64 (xs.length : Int), .int .i64 0, .list nb xs, u, .list L.isNil L.xs, a] = _ from lp]
    rfl
  · refine .inr ⟨i, h1, h2, h3, ?_⟩
    simp only [f169_4_v, f169_4_t, Tree.run, Bool.cond_decide]
    simp only [Tree.run, lf0, lfs, toInt_int, toBool_bool, toStr_str, xs_list, nil_list, fst_pair, snd_pair, List.length_map, Option.bind_some, nb_same, cond_true, cond_false, decide_true, decide_false]
    rw [show loopT f169_4_s26 FUEL [.unit, .int .i64 (xs.length : Int), .int .i64 0, .list nb xs, u, .list L.isNil L.xs, a] = _ from lp]
    rfl
theorem delA_del (xs : List P) (nb : Bool) (L a u : P) (hx : ∀ p ∈ xs, inb p.toInt L.xs.length = true) (hn : xs.length ≤ 1000) :
    (f114_4_v [.list nb xs, L, a, u, .unit] = some (0, [.list nb xs, .list L.isNil L.xs, a, u]) ∧ xs.filter (fun p => !delA L.xs p) = xs) ∨
    ∃ (w : Nat) (ys : List P), winOf 0 w ys = xs.filter (fun p => !delA L.xs p) ∧ f114_4_v [.list nb xs, L, a, u, .unit] = some (1, [I 0, I (w : Int), .list nb ys, .list L.isNil L.xs, a, u]) := by
  rcases delA_idx xs nb (.list L.isNil L.xs) a u hx hn with ⟨h1, h2⟩ | ⟨i, h1, h2, h3, h4⟩
  · refine .inl ⟨?_, all_keep h1⟩
    simp only [xs_list, nil_list] at h2
    simp only [f114_4_v, f114_4_t, Tree.run, Bool.cond_decide]
    simp only [Tree.run, lf0, lfs, toInt_int, toBool_bool, toStr_str, xs_list, nil_list, fst_pair, snd_pair, List.length_map, Option.bind_some, nb_same, cond_true, cond_false, decide_true, decide_false, h2, beq_self_eq_true]
  · simp only [xs_list, nil_list] at h2 h3 h4
    obtain ⟨w, ys, q1, q2, q3, lp⟩ := del_loop (step := f114_4_s122) (delA L.xs) xs i (fun j w ys => [.unit, I (w : Int), I (j : Int), .list nb ys, u, .list L.isNil L.xs, a]) (fun w ys => (0, [.unit, I (w : Int), .list nb ys, u, .list L.isNil L.xs, a])) (by omega) h1 h2 h3 (fun j w ys g1 g2 g3 g4 K => by
      have hp := delA_told (.list L.isNil L.xs) a u (rd xs j) u (hx _ (rd_in g1))
      simp only [f114_4_s122, Tree.run, Bool.cond_decide]
      simp only [Tree.run, lf0, lfs, toInt_int, toBool_bool, toStr_str, xs_list, nil_list, fst_pair, snd_pair, List.length_map, Option.bind_some, nb_same, cond_true, cond_false, decide_true, decide_false, g3, eq_true (show (j : Int) < xs.length by omega), if_true, inb_nat g1, Int.toNat_natCast, g4, hp, inb_nat (show w < xs.length by omega), wrap_succ j (by omega), wrap_succ w (by omega)]
      simp only [show ((rd L.xs (rd xs j).toInt.toNat).snd.snd.snd.fst.toBool) = delA L.xs (rd xs j) from rfl]
      cases delA L.xs (rd xs j) <;> rfl) (fun w ys g1 g2 K => by
      simp only [f114_4_s122, Tree.run, Bool.cond_decide]
      simp only [Tree.run, lf0, lfs, toInt_int, toBool_bool, toStr_str, xs_list, nil_list, fst_pair, snd_pair, List.length_map, Option.bind_some, nb_same, cond_true, cond_false, decide_true, decide_false, g2, eq_false (show ¬ (xs.length : Int) < xs.length by omega), if_false])
    refine .inr ⟨w, clr w (ys.length - w) (.int .i64 0) ys, by rw [win_clr (by omega)]; exact q3, ?_⟩
    have hne : ((i : Int) == -1) = false := by rw [beq_eq_false_iff_ne]; omega
    have hcl := clr_len (z := .int .i64 0) (show w ≤ ys.length by omega)
    simp only [f114_4_v, f114_4_t, Tree.run, Bool.cond_decide]
    simp only [Tree.run, lf0, lfs, toInt_int, toBool_bool, toStr_str, xs_list, nil_list, fst_pair, snd_pair, List.length_map, Option.bind_some, nb_same, cond_true, cond_false, decide_true, decide_false, h4, hne, wrap_succ i (by omega)]
    rw [show loopT f114_4_s122 FUEL [.unit, .int .i64 (i : Int), .int .i64 ((i + 1 : Nat) : Int), .list nb xs, u, .list L.isNil L.xs, a] = _ from lp]
    simp only [Tree.run, lf0, lfs, toInt_int, toBool_bool, toStr_str, xs_list, nil_list, fst_pair, snd_pair, List.length_map, Option.bind_some, nb_same, cond_true, cond_false, decide_true, decide_false, Int.toNat_natCast, hcl, eq_true (show (0 : Int) ≤ w ∧ (w : Int) ≤ ys.length ∧ (ys.length : Int) ≤ ys.length by omega), eq_true (show (0 : Int) ≤ 0 ∧ (0 : Int) ≤ w ∧ (w : Int) ≤ ys.length by omega), if_true, Int.sub_zero]
end Go.Proofs.Ytjemihhhkhdbeaa.Mn
