/- Needs and manifests: which may be; clones. Conditions: none but those each states. -/
import Derived.Test.YtjemihhhkhdbeaaMn
set_option linter.unusedVariables false
set_option linter.unusedSimpArgs false
namespace Go.Proofs.Ytjemihhhkhdbeaa.Mn
open Go Go.Eng
theorem baList (x : ByteArray) : x.toList = x.data.toList := ByteArray.toList_eq x
theorem strLt_empty (x : ByteArray) : strLt x .empty = false := by
  unfold strLt
  rw [baList .empty]
  show Op.bytesLess x.toList [] = false
  cases x.toList <;> rfl
theorem fit_empty {x : ByteArray} (h : strEq x .empty = true) : fitB x = false := by
  unfold strEq at h
  rw [baList x, baList .empty] at h
  have h : (x.data.toList == []) = true := h
  have : x.size = 0 := by
    have h2 : x.data.toList = [] := by simpa using h
    show x.data.size = 0
    rw [← Array.length_toList, h2]; rfl
  unfold fitB runes
  rw [this]; rfl
def leS (a b : ByteArray) : Bool := strLt a b || strEq a b
def okNd (last : ByteArray) (d : Nd) : Bool := fitB d.nm && (!leS d.nm last && (decide (d.ins.length ≤ 6) && chkS (-1) d.ins))
def chkN (l : List Nd) : Bool := goOn okNd (fun _ d => d.nm) .empty l && decide (l.length ≤ 6)
theorem checkN_told (n : Bool) (l : List Nd) (hl : l.length < 1000000) (hs : ∀ x ∈ l, NdS x) : f126_v [LN n l] = some (0, [.bool (chkN l)]) := by
  have h := loop_list (step := f126_s58) l n0 okNd (fun _ d => d.nm) (fun last i => [LN n l, .str last, LN n l, I (l.length : Int), I (i : Int)]) (1, [LN n l]) (0, [.bool false]) .empty (by omega) (fun last i hi K => by
      have hx := at_of (d := n0) hs hi
      have hf := fit_told (l.getD i n0).nm hx.2
      have hc := check_told (l.getD i n0).ni (l.getD i n0).ins hx.1
      simp only [f126_s58, Tree.run, Bool.cond_decide]
      simp only [Tree.run, lf0, lfs, toInt_int, toBool_bool, toStr_str, xs_list, nil_list, fst_pair, snd_pair, List.length_map, Option.bind_some, nb_same, cond_true, cond_false, decide_true, decide_false, eq_true (show (i : Int) < l.length by omega), if_true, inb_nat hi, Int.toNat_natCast, rdN hi, wrap_succ i (by omega), hf, hc]
      generalize l.getD i n0 = d
      unfold okNd leS
      cases fitB d.nm with
      | false => simp only [Bool.not_false, Bool.false_and, Tree.run, lf0, lfs, toInt_int, toBool_bool, toStr_str, xs_list, nil_list, fst_pair, snd_pair, List.length_map, Option.bind_some, nb_same, cond_true, cond_false, decide_true, decide_false]
      | true =>
        cases (strLt d.nm last || strEq d.nm last) with
        | true => simp only [Bool.not_true, Bool.true_and, Bool.false_and, Tree.run, lf0, lfs, toInt_int, toBool_bool, toStr_str, xs_list, nil_list, fst_pair, snd_pair, List.length_map, Option.bind_some, nb_same, cond_true, cond_false, decide_true, decide_false]
        | false =>
          by_cases c : (d.ins.length : Int) > 6
          · simp only [eq_true c, if_true, Bool.not_true, Bool.not_false, Bool.true_and, decide_eq_false (show ¬ d.ins.length ≤ 6 by omega), Bool.false_and, Tree.run, lf0, lfs, toInt_int, toBool_bool, toStr_str, xs_list, nil_list, fst_pair, snd_pair, List.length_map, Option.bind_some, nb_same, cond_true, cond_false, decide_true, decide_false]
          · simp only [eq_false c, if_false, Bool.not_true, Bool.not_false, Bool.true_and, decide_eq_true (show d.ins.length ≤ 6 by omega), Tree.run, lf0, lfs, toInt_int, toBool_bool, toStr_str, xs_list, nil_list, fst_pair, snd_pair, List.length_map, Option.bind_some, nb_same, cond_true, cond_false, decide_true, decide_false]
            cases chkS (-1) d.ins <;> rfl) (fun last K => by
      simp only [f126_s58, Tree.run, Bool.cond_decide]
      simp only [Tree.run, lf0, lfs, toInt_int, toBool_bool, toStr_str, xs_list, nil_list, fst_pair, snd_pair, List.length_map, Option.bind_some, nb_same, cond_true, cond_false, decide_true, decide_false, eq_false (show ¬ (l.length : Int) < l.length by omega), if_false])
  simp only [f126_v, f126_t, Tree.run, Bool.cond_decide]
  simp only [Tree.run, lf0, lfs, toInt_int, toBool_bool, toStr_str, xs_list, nil_list, fst_pair, snd_pair, List.length_map, Option.bind_some, nb_same, cond_true, cond_false, decide_true, decide_false]
  rw [show loopT f126_s58 FUEL [LN n l, .str .empty, LN n l, .int .i64 (l.length : Int), .int .i64 0] = _ from h]
  unfold chkN
  cases goOn okNd (fun _ d => d.nm) .empty l with
  | false => rfl
  | true =>
    simp only [Tree.run, lf0, lfs, toInt_int, toBool_bool, toStr_str, xs_list, nil_list, fst_pair, snd_pair, List.length_map, Option.bind_some, nb_same, cond_true, cond_false, decide_true, decide_false, nb_lt 1 0 (by omega), Bool.true_and]
    by_cases c : l.length ≤ 6
    · rw [decide_eq_true c, decide_eq_true (by omega)]
    · rw [decide_eq_false c, decide_eq_false (by omega)]
theorem rcheckN_told (n : Bool) (l : List Nd) (hl : l.length < 1000000) (hs : ∀ x ∈ l, NdS x) : f129_v [LN n l] = some (0, [.bool (chkN l)]) := by
  have h := loop_allB (step := f129_s26) (st := fun i => [LN n l, I (i : Int)]) (y1 := (1, [LN n l])) (z := (0, [.bool false]))
    (ok := fun i => (fitB (l.getD i n0).nm && (chkS (-1) (l.getD i n0).ins && decide ((l.getD i n0).ins.length ≤ 6))) && (decide (i = 0) || !leS (l.getD i n0).nm (l.getD (i - 1) n0).nm)) l.length (by omega) (fun i hi K => by
      have hx := at_of (d := n0) hs hi
      have hf := rfit_told (l.getD i n0).nm hx.2
      have hc := rcheck_told (l.getD i n0).ni (l.getD i n0).ins hx.1
      simp only [f129_s26, Tree.run, Bool.cond_decide]
      simp only [Tree.run, lf0, lfs, toInt_int, toBool_bool, toStr_str, xs_list, nil_list, fst_pair, snd_pair, List.length_map, Option.bind_some, nb_same, cond_true, cond_false, decide_true, decide_false, eq_true (show (i : Int) < l.length by omega), if_true, inb_nat hi, Int.toNat_natCast, rdN hi, wrap_succ i (by omega), hf, hc]
      cases fitB (l.getD i n0).nm with
      | false => simp only [Bool.not_false, Bool.false_and, Tree.run, lf0, lfs, toInt_int, toBool_bool, toStr_str, xs_list, nil_list, fst_pair, snd_pair, List.length_map, Option.bind_some, nb_same, cond_true, cond_false, decide_true, decide_false]
      | true =>
        cases chkS (-1) (l.getD i n0).ins with
        | false => simp only [Bool.not_false, Bool.not_true, Bool.false_and, Bool.and_false, Tree.run, lf0, lfs, toInt_int, toBool_bool, toStr_str, xs_list, nil_list, fst_pair, snd_pair, List.length_map, Option.bind_some, nb_same, cond_true, cond_false, decide_true, decide_false]
        | true =>
          by_cases c : ((l.getD i n0).ins.length : Int) > 6
          · simp only [eq_true c, if_true, Bool.not_true, Bool.true_and, decide_eq_false (show ¬ (l.getD i n0).ins.length ≤ 6 by omega), Bool.false_and, Tree.run, lf0, lfs, toInt_int, toBool_bool, toStr_str, xs_list, nil_list, fst_pair, snd_pair, List.length_map, Option.bind_some, nb_same, cond_true, cond_false, decide_true, decide_false]
          · have c6 := decide_eq_true (show (l.getD i n0).ins.length ≤ 6 by omega)
            by_cases c4 : i = 0
            · simp only [eq_false c, eq_true c4, eq_false (show ¬ (i : Int) > 0 by omega), if_true, if_false, Bool.not_true, c6, Bool.true_and, decide_true, Bool.true_or, Tree.run, lf0, lfs, toInt_int, toBool_bool, toStr_str, xs_list, nil_list, fst_pair, snd_pair, List.length_map, Option.bind_some, nb_same, cond_true, cond_false, decide_true, decide_false]
            · obtain ⟨j, rfl⟩ : ∃ j, i = j + 1 := ⟨i - 1, by omega⟩
              have hw := wrap_pred j (by omega)
              have hj : j < l.length := by omega
              simp only [eq_false c, eq_false c4, eq_true (show ((j + 1 : Nat) : Int) > 0 by omega), if_true, if_false, Bool.not_true, c6, Bool.true_and, decide_false, Bool.false_or, hw, inb_nat hj, Int.toNat_natCast, rdN hj, Tree.run, lf0, lfs, toInt_int, toBool_bool, toStr_str, xs_list, nil_list, fst_pair, snd_pair, List.length_map, Option.bind_some, nb_same, cond_true, cond_false, decide_true, decide_false, Nat.add_sub_cancel]
              unfold leS
              cases (strLt (l.getD (j + 1) n0).nm (l.getD j n0).nm || strEq (l.getD (j + 1) n0).nm (l.getD j n0).nm) <;> rfl) (fun K => by
      simp only [f129_s26, Tree.run, Bool.cond_decide]
      simp only [Tree.run, lf0, lfs, toInt_int, toBool_bool, toStr_str, xs_list, nil_list, fst_pair, snd_pair, List.length_map, Option.bind_some, nb_same, cond_true, cond_false, decide_true, decide_false, eq_false (show ¬ (l.length : Int) < l.length by omega), if_false])
  rw [all_prev (fun d : Nd => fitB d.nm && (chkS (-1) d.ins && decide (d.ins.length ≤ 6))) (fun b d => !leS d.nm b.nm) n0 l] at h
  have e := goOn_prev (fun d : Nd => d.nm) okNd (fun d : Nd => fitB d.nm && (chkS (-1) d.ins && decide (d.ins.length ≤ 6))) (fun b d => !leS d.nm b.nm) l none .empty
    (fun a ha => by
      simp only [Bool.and_eq_true] at ha
      have hne : strEq a.nm .empty = false := by
        cases hq : strEq a.nm .empty with
        | false => rfl
        | true => have := fit_empty hq; rw [this] at ha; cases ha.1
      simp only [okNd, leS, strLt_empty, hne, ha.1, ha.2.1, ha.2.2]; rfl)
    (fun a ha => by simp only [okNd, Bool.and_eq_true] at ha ⊢; exact ⟨ha.1, ha.2.2.2, ha.2.2.1⟩)
    (fun a ha c hc => by simp only [Bool.and_eq_true] at hc; simp only [okNd, hc.1, hc.2.1, hc.2.2, Bool.and_self, Bool.and_true, Bool.true_and])
    (fun a ha c hc => by simp only [okNd, Bool.and_eq_true] at hc ⊢; exact ⟨hc.1, hc.2.2.2, hc.2.2.1⟩)
  rw [← e] at h
  simp only [f129_v, f129_t, Tree.run, Bool.cond_decide]
  simp only [Tree.run, lf0, lfs, toInt_int, toBool_bool, toStr_str, xs_list, nil_list, fst_pair, snd_pair, List.length_map, Option.bind_some, nb_same, cond_true, cond_false, decide_true, decide_false]
  rw [show loopT f129_s26 FUEL [LN n l, .int .i64 0] = _ from h]
  unfold chkN
  cases goOn okNd (fun _ d => d.nm) .empty l with
  | false => rfl
  | true =>
    simp only [Tree.run, lf0, lfs, toInt_int, toBool_bool, toStr_str, xs_list, nil_list, fst_pair, snd_pair, List.length_map, Option.bind_some, nb_same, cond_true, cond_false, decide_true, decide_false, nb_lt 1 0 (by omega), Bool.true_and]
    by_cases c : l.length ≤ 6
    · rw [decide_eq_true c, decide_eq_true (by omega)]
    · rw [decide_eq_false c, decide_eq_false (by omega)]
def okRl (last : Int) (r : Rl) : Bool := decide (last < r.ver) && (decide (r.ver < 1000000000) && chkN r.nds)
def chkM (m : Mf) : Bool := goOn okRl (fun _ r => r.ver) (-1) m.rls && (fitB m.nm && decide (m.rls.length ≤ 8))
theorem checkM_told (m : Mf) (hm : MfS m) : f53_v [eM m] = some (0, [.bool (chkM m)]) := by
  have hl := hm.2.1
  have h := loop_list (step := f53_s58) m.rls rl0 okRl (fun _ r => r.ver) (fun last i => [I last, LR m.rn m.rls, I (m.rls.length : Int), I (i : Int), eM m]) (1, [eM m]) (0, [.bool false]) (-1) (by omega) (fun last i hi K => by
      have hx := at_of (d := rl0) hm.2.2 hi
      have hc := checkN_told (m.rls.getD i rl0).nn (m.rls.getD i rl0).nds hx.1 hx.2
      simp only [f53_s58, Tree.run, Bool.cond_decide]
      simp only [Tree.run, lf0, lfs, toInt_int, toBool_bool, toStr_str, xs_list, nil_list, fst_pair, snd_pair, List.length_map, Option.bind_some, nb_same, cond_true, cond_false, decide_true, decide_false, eq_true (show (i : Int) < m.rls.length by omega), if_true, inb_nat hi, Int.toNat_natCast, rdR hi, wrap_succ i (by omega), hc]
      generalize m.rls.getD i rl0 = r
      unfold okRl
      by_cases c1 : r.ver ≤ last
      · simp only [eq_true c1, if_true, decide_eq_false (show ¬ last < r.ver by omega), Bool.false_and, Tree.run, lf0, lfs, toInt_int, toBool_bool, toStr_str, xs_list, nil_list, fst_pair, snd_pair, List.length_map, Option.bind_some, nb_same, cond_true, cond_false, decide_true, decide_false]
      by_cases c2 : r.ver ≥ 1000000000
      · simp only [eq_false c1, eq_true c2, if_true, if_false, decide_eq_true (show last < r.ver by omega), decide_eq_false (show ¬ r.ver < 1000000000 by omega), Bool.false_and, Bool.and_false, Tree.run, lf0, lfs, toInt_int, toBool_bool, toStr_str, xs_list, nil_list, fst_pair, snd_pair, List.length_map, Option.bind_some, nb_same, cond_true, cond_false, decide_true, decide_false]
      simp only [eq_false c1, eq_false c2, if_false, decide_eq_true (show last < r.ver by omega), decide_eq_true (show r.ver < 1000000000 by omega), Bool.true_and, Tree.run, lf0, lfs, toInt_int, toBool_bool, toStr_str, xs_list, nil_list, fst_pair, snd_pair, List.length_map, Option.bind_some, nb_same, cond_true, cond_false, decide_true, decide_false]
      cases chkN r.nds <;> rfl) (fun last K => by
      simp only [f53_s58, Tree.run, Bool.cond_decide]
      simp only [Tree.run, lf0, lfs, toInt_int, toBool_bool, toStr_str, xs_list, nil_list, fst_pair, snd_pair, List.length_map, Option.bind_some, nb_same, cond_true, cond_false, decide_true, decide_false, eq_false (show ¬ (m.rls.length : Int) < m.rls.length by omega), if_false])
  have hf := fit_told m.nm hm.1
  simp only [f53_v, f53_t, Tree.run, Bool.cond_decide]
  simp only [Tree.run, lf0, lfs, toInt_int, toBool_bool, toStr_str, xs_list, nil_list, fst_pair, snd_pair, List.length_map, Option.bind_some, nb_same, cond_true, cond_false, decide_true, decide_false, eM] at h ⊢
  rw [show loopT f53_s58 FUEL [.int .i64 (-1), LR m.rn m.rls, .int .i64 (m.rls.length : Int), .int .i64 0, .pair (.str m.nm) (.pair (LR m.rn m.rls) .unit)] = _ from h]
  unfold chkM
  cases goOn okRl (fun _ r => r.ver) (-1) m.rls with
  | false => rfl
  | true =>
    simp only [Tree.run, lf0, lfs, toInt_int, toBool_bool, toStr_str, xs_list, nil_list, fst_pair, snd_pair, List.length_map, Option.bind_some, nb_same, cond_true, cond_false, decide_true, decide_false, nb_lt 1 0 (by omega), Bool.true_and, hf]
    cases fitB m.nm with
    | false => rfl
    | true =>
      simp only [Tree.run, lf0, lfs, toInt_int, toBool_bool, toStr_str, xs_list, nil_list, fst_pair, snd_pair, List.length_map, Option.bind_some, nb_same, cond_true, cond_false, decide_true, decide_false, Bool.true_and]
      by_cases c : m.rls.length ≤ 8
      · rw [decide_eq_true c, decide_eq_true (by omega)]
      · rw [decide_eq_false c, decide_eq_false (by omega)]
theorem vfit_told (v : Int) : f128_v [I v] = some (0, [.bool (decide (0 ≤ v) && decide (v < 1000000000))]) := by
  simp only [f128_v, f128_t, Tree.run, Bool.cond_decide]
  simp only [Tree.run, lf0, lfs, toInt_int, toBool_bool, toStr_str, xs_list, nil_list, fst_pair, snd_pair, List.length_map, Option.bind_some, nb_same, cond_true, cond_false, decide_true, decide_false]
  by_cases c : v ≥ 0
  · simp only [eq_true c, if_true, decide_true, show (0 ≤ v) = True from eq_true (by omega), Bool.true_and]
    rfl
  · simp only [eq_false c, if_false, decide_false, show (0 ≤ v) = False from eq_false (by omega), Bool.false_and]
theorem rcheckM_told (m : Mf) (hm : MfS m) : f54_v [eM m] = some (0, [.bool (chkM m)]) := by
  have hl := hm.2.1
  have h := loop_allB (step := f54_s26) (st := fun i => [I (i : Int), eM m]) (y1 := (1, [eM m])) (z := (0, [.bool false]))
    (ok := fun i => ((decide (0 ≤ (m.rls.getD i rl0).ver) && decide ((m.rls.getD i rl0).ver < 1000000000)) && chkN (m.rls.getD i rl0).nds) && (decide (i = 0) || decide ((m.rls.getD (i - 1) rl0).ver < (m.rls.getD i rl0).ver))) m.rls.length (by omega) (fun i hi K => by
      have hx := at_of (d := rl0) hm.2.2 hi
      have hv := vfit_told (m.rls.getD i rl0).ver
      have hc := rcheckN_told (m.rls.getD i rl0).nn (m.rls.getD i rl0).nds hx.1 hx.2
      simp only [f54_s26, Tree.run, Bool.cond_decide, eM]
      simp only [Tree.run, lf0, lfs, toInt_int, toBool_bool, toStr_str, xs_list, nil_list, fst_pair, snd_pair, List.length_map, Option.bind_some, nb_same, cond_true, cond_false, decide_true, decide_false, eq_true (show (i : Int) < m.rls.length by omega), if_true, inb_nat hi, Int.toNat_natCast, rdR hi, wrap_succ i (by omega), hv, hc, Bool.cond_decide]
      cases (decide (0 ≤ (m.rls.getD i rl0).ver) && decide ((m.rls.getD i rl0).ver < 1000000000)) with
      | false => simp only [Bool.not_false, Bool.false_and, Tree.run, lf0, lfs, toInt_int, toBool_bool, toStr_str, xs_list, nil_list, fst_pair, snd_pair, List.length_map, Option.bind_some, nb_same, cond_true, cond_false, decide_true, decide_false]
      | true =>
        cases chkN (m.rls.getD i rl0).nds with
        | false => simp only [Bool.not_false, Bool.not_true, Bool.false_and, Bool.and_false, Tree.run, lf0, lfs, toInt_int, toBool_bool, toStr_str, xs_list, nil_list, fst_pair, snd_pair, List.length_map, Option.bind_some, nb_same, cond_true, cond_false, decide_true, decide_false]
        | true =>
          by_cases c4 : i = 0
          · simp only [eq_true c4, eq_false (show ¬ (i : Int) > 0 by omega), if_true, if_false, Bool.not_true, Bool.true_and, decide_true, Bool.true_or, Tree.run, lf0, lfs, toInt_int, toBool_bool, toStr_str, xs_list, nil_list, fst_pair, snd_pair, List.length_map, Option.bind_some, nb_same, cond_true, cond_false, decide_true, decide_false]
          · obtain ⟨j, rfl⟩ : ∃ j, i = j + 1 := ⟨i - 1, by omega⟩
            have hw := wrap_pred j (by omega)
            have hj : j < m.rls.length := by omega
            simp only [eq_false c4, eq_true (show ((j + 1 : Nat) : Int) > 0 by omega), if_true, if_false, Bool.not_true, Bool.true_and, decide_false, Bool.false_or, hw, inb_nat hj, Int.toNat_natCast, rdR hj, Tree.run, lf0, lfs, toInt_int, toBool_bool, toStr_str, xs_list, nil_list, fst_pair, snd_pair, List.length_map, Option.bind_some, nb_same, cond_true, cond_false, decide_true, decide_false, Nat.add_sub_cancel]
            by_cases c5 : (m.rls.getD (j + 1) rl0).ver ≤ (m.rls.getD j rl0).ver
            · simp only [eq_true c5, if_true, decide_eq_false (show ¬ (m.rls.getD j rl0).ver < (m.rls.getD (j + 1) rl0).ver by omega), Tree.run, lf0, lfs, toInt_int, toBool_bool, toStr_str, xs_list, nil_list, fst_pair, snd_pair, List.length_map, Option.bind_some, nb_same, cond_true, cond_false, decide_true, decide_false]
            · simp only [eq_false c5, if_false, decide_eq_true (show (m.rls.getD j rl0).ver < (m.rls.getD (j + 1) rl0).ver by omega), Tree.run, lf0, lfs, toInt_int, toBool_bool, toStr_str, xs_list, nil_list, fst_pair, snd_pair, List.length_map, Option.bind_some, nb_same, cond_true, cond_false, decide_true, decide_false]) (fun K => by
      simp only [f54_s26, Tree.run, Bool.cond_decide, eM]
      simp only [Tree.run, lf0, lfs, toInt_int, toBool_bool, toStr_str, xs_list, nil_list, fst_pair, snd_pair, List.length_map, Option.bind_some, nb_same, cond_true, cond_false, decide_true, decide_false, eq_false (show ¬ (m.rls.length : Int) < m.rls.length by omega), if_false, Bool.cond_decide])
  rw [all_prev (fun r : Rl => (decide (0 ≤ r.ver) && decide (r.ver < 1000000000)) && chkN r.nds) (fun b r => decide (b.ver < r.ver)) rl0 m.rls] at h
  have e := goOn_prev (fun r : Rl => r.ver) okRl (fun r : Rl => (decide (0 ≤ r.ver) && decide (r.ver < 1000000000)) && chkN r.nds) (fun b r => decide (b.ver < r.ver)) m.rls none (-1)
    (fun a ha => by
      simp only [Bool.and_eq_true, decide_eq_true_eq] at ha
      simp only [okRl, decide_eq_true (show -1 < a.ver by omega), decide_eq_true ha.1.2, ha.2]; rfl)
    (fun a ha => by simp only [okRl, Bool.and_eq_true, decide_eq_true_eq] at ha ⊢; exact ⟨⟨by omega, ha.2.1⟩, ha.2.2⟩)
    (fun a ha c hc => by simp only [Bool.and_eq_true, decide_eq_true_eq] at hc; simp only [okRl, decide_eq_true hc.1.2, hc.2, Bool.and_self, Bool.and_true])
    (fun a ha c hc => by simp only [okRl, Bool.and_eq_true, decide_eq_true_eq] at ha hc ⊢; exact ⟨⟨by omega, hc.2.1⟩, hc.2.2⟩)
  rw [← e] at h
  have hf := rfit_told m.nm hm.1
  simp only [f54_v, f54_t, Tree.run, Bool.cond_decide]
  simp only [Tree.run, lf0, lfs, toInt_int, toBool_bool, toStr_str, xs_list, nil_list, fst_pair, snd_pair, List.length_map, Option.bind_some, nb_same, cond_true, cond_false, decide_true, decide_false]
  rw [show loopT f54_s26 FUEL [.int .i64 0, eM m] = _ from h]
  unfold chkM
  cases goOn okRl (fun _ r => r.ver) (-1) m.rls with
  | false => rfl
  | true =>
    simp only [Tree.run, lf0, lfs, toInt_int, toBool_bool, toStr_str, xs_list, nil_list, fst_pair, snd_pair, List.length_map, Option.bind_some, nb_same, cond_true, cond_false, decide_true, decide_false, nb_lt 1 0 (by omega), Bool.true_and, eM, hf]
    cases fitB m.nm with
    | false => rfl
    | true =>
      simp only [Tree.run, lf0, lfs, toInt_int, toBool_bool, toStr_str, xs_list, nil_list, fst_pair, snd_pair, List.length_map, Option.bind_some, nb_same, cond_true, cond_false, decide_true, decide_false, Bool.true_and]
      by_cases c : m.rls.length ≤ 8
      · rw [decide_eq_true c, decide_eq_true (by omega)]
      · rw [decide_eq_false c, decide_eq_false (by omega)]
end Go.Proofs.Ytjemihhhkhdbeaa.Mn
