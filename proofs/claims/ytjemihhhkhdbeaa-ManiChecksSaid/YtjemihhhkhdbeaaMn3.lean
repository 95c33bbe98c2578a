/- Manifests: what is too large, clones, the example; the law ManiChecks, plainly. Conditions: none but those each states. -/
import Derived.Test.YtjemihhhkhdbeaaMn2
import Derived.Test.YtjemihhhkhdbeaaE3
set_option linter.unusedVariables false
set_option linter.unusedSimpArgs false
namespace Go.Proofs.Ytjemihhhkhdbeaa.Mn
open Go Go.Eng
/-! ### what is too large -/
def smN (l : List Nd) : Bool := decide (l.length ≤ 40) && l.all fun d => decide (d.ins.length ≤ 40) && decide (d.nm.size ≤ 100)
theorem largeN_told (n : Bool) (l : List Nd) : f123_v [LN n l] = some (0, [.bool (!smN l)]) := by
  simp only [f123_v, f123_t, Tree.run, Bool.cond_decide]
  simp only [Tree.run, lf0, lfs, toInt_int, toBool_bool, toStr_str, xs_list, nil_list, fst_pair, snd_pair, List.length_map, Option.bind_some, nb_same, cond_true, cond_false, decide_true, decide_false]
  by_cases c : (l.length : Int) > 40
  · simp only [eq_true c, if_true, smN, decide_eq_false (show ¬ l.length ≤ 40 by omega), Bool.false_and, Bool.not_false]
  · have h := loop_allB (step := f123_s58) (st := fun i => [LN n l, I (i : Int)]) (y1 := (1, [])) (z := (0, [.bool true]))
      (ok := fun i => decide ((l.getD i n0).ins.length ≤ 40) && decide ((l.getD i n0).nm.size ≤ 100)) l.length (by omega) (fun i hi K => by
        simp only [f123_s58, Tree.run, Bool.cond_decide]
        simp only [Tree.run, lf0, lfs, toInt_int, toBool_bool, toStr_str, xs_list, nil_list, fst_pair, snd_pair, List.length_map, Option.bind_some, nb_same, cond_true, cond_false, decide_true, decide_false, eq_true (show (i : Int) < l.length by omega), if_true, inb_nat hi, Int.toNat_natCast, rdN hi, wrap_succ i (by omega)]
        generalize l.getD i n0 = d
        by_cases c1 : (d.ins.length : Int) > 40
        · simp only [eq_true c1, if_true, decide_eq_false (show ¬ d.ins.length ≤ 40 by omega), Bool.false_and, Tree.run, lf0, lfs, toInt_int, toBool_bool, toStr_str, xs_list, nil_list, fst_pair, snd_pair, List.length_map, Option.bind_some, nb_same, cond_true, cond_false, decide_true, decide_false]
        by_cases c2 : (d.nm.size : Int) > 100
        · simp only [eq_false c1, eq_true c2, if_true, if_false, decide_eq_false (show ¬ d.nm.size ≤ 100 by omega), Bool.and_false, Tree.run, lf0, lfs, toInt_int, toBool_bool, toStr_str, xs_list, nil_list, fst_pair, snd_pair, List.length_map, Option.bind_some, nb_same, cond_true, cond_false, decide_true, decide_false]
        simp only [eq_false c1, eq_false c2, if_false, decide_eq_true (show d.ins.length ≤ 40 by omega), decide_eq_true (show d.nm.size ≤ 100 by omega), Bool.and_self, Tree.run, lf0, lfs, toInt_int, toBool_bool, toStr_str, xs_list, nil_list, fst_pair, snd_pair, List.length_map, Option.bind_some, nb_same, cond_true, cond_false, decide_true, decide_false]) (fun K => by
        simp only [f123_s58, Tree.run, Bool.cond_decide]
        simp only [Tree.run, lf0, lfs, toInt_int, toBool_bool, toStr_str, xs_list, nil_list, fst_pair, snd_pair, List.length_map, Option.bind_some, nb_same, cond_true, cond_false, decide_true, decide_false, eq_false (show ¬ (l.length : Int) < l.length by omega), if_false])
    rw [all_getD (fun d : Nd => decide (d.ins.length ≤ 40) && decide (d.nm.size ≤ 100)) n0 l] at h
    simp only [eq_false c, if_false]
    rw [show loopT f123_s58 FUEL [LN n l, .int .i64 0] = _ from h]
    simp only [smN, decide_eq_true (show l.length ≤ 40 by omega), Bool.true_and]
    cases l.all (fun d : Nd => decide (d.ins.length ≤ 40) && decide (d.nm.size ≤ 100)) <;> rfl
def smM (m : Mf) : Bool := decide (m.rls.length ≤ 30) && (decide (m.nm.size ≤ 200) && m.rls.all fun r => smN r.nds)
theorem largeM_told (m : Mf) : f51_v [eM m] = some (0, [.bool (!smM m)]) := by
  simp only [f51_v, f51_t, Tree.run, Bool.cond_decide, eM]
  simp only [Tree.run, lf0, lfs, toInt_int, toBool_bool, toStr_str, xs_list, nil_list, fst_pair, snd_pair, List.length_map, Option.bind_some, nb_same, cond_true, cond_false, decide_true, decide_false]
  by_cases c : (m.rls.length : Int) > 30
  · simp only [eq_true c, if_true, smM, decide_eq_false (show ¬ m.rls.length ≤ 30 by omega), Bool.false_and, Bool.not_false, Bool.cond_decide]
  by_cases c2 : (m.nm.size : Int) > 200
  · simp only [eq_false c, eq_true c2, if_true, if_false, smM, decide_eq_false (show ¬ m.nm.size ≤ 200 by omega), Bool.false_and, Bool.and_false, Bool.not_false, Bool.cond_decide]
  have h := loop_allB (step := f51_s58) (st := fun i => [I (i : Int), eM m]) (y1 := (1, [])) (z := (0, [.bool true]))
    (ok := fun i => smN (m.rls.getD i rl0).nds) m.rls.length (by omega) (fun i hi K => by
      simp only [f51_s58, Tree.run, Bool.cond_decide, eM]
      simp only [Tree.run, lf0, lfs, toInt_int, toBool_bool, toStr_str, xs_list, nil_list, fst_pair, snd_pair, List.length_map, Option.bind_some, nb_same, cond_true, cond_false, decide_true, decide_false, eq_true (show (i : Int) < m.rls.length by omega), if_true, inb_nat hi, Int.toNat_natCast, rdR hi, wrap_succ i (by omega), largeN_told, Bool.cond_decide]
      cases smN (m.rls.getD i rl0).nds <;> rfl) (fun K => by
      simp only [f51_s58, Tree.run, Bool.cond_decide, eM]
      simp only [Tree.run, lf0, lfs, toInt_int, toBool_bool, toStr_str, xs_list, nil_list, fst_pair, snd_pair, List.length_map, Option.bind_some, nb_same, cond_true, cond_false, decide_true, decide_false, eq_false (show ¬ (m.rls.length : Int) < m.rls.length by omega), if_false, Bool.cond_decide])
  rw [all_getD (fun r : Rl => smN r.nds) rl0 m.rls] at h
  simp only [eq_false c, eq_false c2, if_false, Bool.cond_decide]
  rw [show loopT f51_s58 FUEL [.int .i64 0, .pair (.str m.nm) (.pair (LR m.rn m.rls) .unit)] = _ from h]
  simp only [smM, decide_eq_true (show m.rls.length ≤ 30 by omega), decide_eq_true (show m.nm.size ≤ 200 by omega), Bool.true_and]
  cases m.rls.all (fun r : Rl => smN r.nds) <;> rfl
theorem smN_s {l : List Nd} (h : smN l = true) : l.length ≤ 40 ∧ ∀ d ∈ l, d.ins.length ≤ 40 ∧ d.nm.size ≤ 100 := by
  simp only [smN, Bool.and_eq_true, decide_eq_true_eq, List.all_eq_true] at h
  exact h
theorem smM_s {m : Mf} (h : smM m = true) : MfS m := by
  simp only [smM, Bool.and_eq_true, decide_eq_true_eq, List.all_eq_true] at h
  refine ⟨by omega, by omega, fun r hr => ?_⟩
  obtain ⟨h1, h2⟩ := smN_s (h.2.2 r hr)
  exact ⟨by omega, fun d hd => by have := h2 d hd; exact ⟨by omega, by omega⟩⟩
/-! ### clones -/
/-- What is nil has nothing. -/
def NdW (d : Nd) : Prop := d.ni = true → d.ins = []
theorem cloneS_told (n : Bool) (l : List Sp) (hl : l.length < 1000000) (hn : n = true → l = []) : f167_v [LS n l] = some (0, [LS n l]) := by
  simp only [f167_v, f167_t, f167_s1, Tree.run, Bool.cond_decide]
  simp only [Tree.run, lf0, lfs, toInt_int, toBool_bool, toStr_str, xs_list, nil_list, fst_pair, snd_pair, List.length_map, Option.bind_some, nb_same, cond_true, cond_false, decide_true, decide_false, eq_true (show (0 + l.length) * 16 ≤ 140737488355328 by omega)]
  cases n with
  | true => rw [hn rfl]; rfl
  | false => rfl
theorem cloned_told (r : Rl) (hr : RlS r) (hw : ∀ d ∈ r.nds, NdW d) : f135_v [eR r] = some (0, [I r.ver, LN r.nds.isEmpty r.nds, .unit]) := by
  have h1 := hr.1
  have h := loop_scan (step := f135_s58) (st := fun i => [LN r.nn r.nds, I (r.nds.length : Int), I (i : Int), .pair (I 0) (.pair (.list true []) .unit), I r.ver, .unit, .list (decide (i = 0)) ((r.nds.take i).map eN)])
    (y1 := (0, [.pair (I 0) (.pair (.list true []) .unit), I r.ver, .unit, LN r.nds.isEmpty r.nds])) (bad := fun _ => none) r.nds.length (by omega) (fun i hi K => by
      have hx := at_of (d := n0) hr.2 hi
      have hxw := at_of (d := n0) hw hi
      have hc := cloneS_told (r.nds.getD i n0).ni (r.nds.getD i n0).ins hx.1 hxw
      have ht : (r.nds.take (i + 1)).map eN = (r.nds.take i).map eN ++ [eN (r.nds.getD i n0)] := by
        rw [List.take_succ_eq_append_getElem hi, List.map_append, getD_at hi]; rfl
      have hlen : (List.take i r.nds).length ≤ i := List.length_take_le _ _
      simp only [f135_s58, Tree.run, Bool.cond_decide]
      simp only [Tree.run, lf0, lfs, toInt_int, toBool_bool, toStr_str, xs_list, nil_list, fst_pair, snd_pair, List.length_map, Option.bind_some, nb_same, cond_true, cond_false, decide_true, decide_false, eq_true (show (i : Int) < r.nds.length by omega), if_true, inb_nat hi, Int.toNat_natCast, rdN hi, wrap_succ i (by omega), hc, eq_true (show ((List.take i r.nds).length + 1) * 40 ≤ 140737488355328 by omega), Bool.and_false, eq_false (show ¬ i + 1 = 0 by omega), ht]
      rfl) (fun K => by
      simp only [f135_s58, Tree.run, Bool.cond_decide]
      simp only [Tree.run, lf0, lfs, toInt_int, toBool_bool, toStr_str, xs_list, nil_list, fst_pair, snd_pair, List.length_map, Option.bind_some, nb_same, cond_true, cond_false, decide_true, decide_false, eq_false (show ¬ (r.nds.length : Int) < r.nds.length by omega), if_false, List.take_length]
      cases r.nds <;> rfl)
  have hnone : ((List.range' 0 r.nds.length).findSome? fun _ => (none : Option (Nat × List P))) = none := by simp
  rw [hnone] at h
  simp only [f135_v, f135_t, Tree.run, Bool.cond_decide, eR]
  simp only [Tree.run, lf0, lfs, toInt_int, toBool_bool, toStr_str, xs_list, nil_list, fst_pair, snd_pair, List.length_map, Option.bind_some, nb_same, cond_true, cond_false, decide_true, decide_false]
  rw [show loopT f135_s58 FUEL [LN r.nn r.nds, .int .i64 (r.nds.length : Int), .int .i64 0, .pair (.int .i64 0) (.pair (.list true []) .unit), I r.ver, .unit, .list true []] = _ from h]
  simp only [Tree.run, lf0, lfs, toInt_int, toBool_bool, toStr_str, xs_list, nil_list, fst_pair, snd_pair, List.length_map, Option.bind_some, nb_same, cond_true, cond_false, decide_true, decide_false, Option.getD_none]
def cl (r : Rl) : Rl := ⟨r.ver, r.nds.isEmpty, r.nds⟩
def clM (m : Mf) : Mf := ⟨m.nm, m.rls.isEmpty, m.rls.map cl⟩
theorem clone_told (m : Mf) (hm : MfS m) (hw : ∀ r ∈ m.rls, ∀ d ∈ r.nds, NdW d) : f57_v [eM m] = some (0, [.str m.nm, LR m.rls.isEmpty (m.rls.map cl), .unit]) := by
  have h1 := hm.2.1
  have h := loop_scan (step := f57_s58) (st := fun i => [LR m.rn m.rls, I (m.rls.length : Int), I (i : Int), .pair (.str .empty) (.pair (.list true []) .unit), .str m.nm, .unit, .list (decide (i = 0)) (((m.rls.map cl).take i).map eR)])
    (y1 := (0, [.pair (.str .empty) (.pair (.list true []) .unit), .str m.nm, .unit, LR m.rls.isEmpty (m.rls.map cl)])) (bad := fun _ => none) m.rls.length (by omega) (fun i hi K => by
      have hx := at_of (d := rl0) hm.2.2 hi
      have hxw := at_of (d := rl0) hw hi
      have hc := cloned_told (m.rls.getD i rl0) hx hxw
      have ht : ((m.rls.map cl).take (i + 1)).map eR = ((m.rls.map cl).take i).map eR ++ [eR (cl (m.rls.getD i rl0))] := by
        rw [List.take_succ_eq_append_getElem (by rw [List.length_map]; exact hi), List.map_append, getD_at hi, List.getElem_map]; rfl
      have hlen : (List.take i (m.rls.map cl)).length ≤ i := List.length_take_le _ _
      simp only [f57_s58, Tree.run, Bool.cond_decide]
      simp only [eq_true (show (i : Int) < m.rls.length by omega), if_true, inb_nat hi, Int.toNat_natCast, rd_map eR m.rls rl0 hi, wrap_succ i (by omega), hc, Tree.run, lf0, lfs, toInt_int, toBool_bool, toStr_str, xs_list, nil_list, fst_pair, snd_pair, List.length_map, Option.bind_some, nb_same, cond_true, cond_false, decide_true, decide_false, eq_true (show ((List.take i (m.rls.map cl)).length + 1) * 32 ≤ 140737488355328 by omega), Bool.and_false, eq_false (show ¬ i + 1 = 0 by omega), ht]
      rfl) (fun K => by
      simp only [f57_s58, Tree.run, Bool.cond_decide]
      have e : (m.rls.map cl).take m.rls.length = m.rls.map cl := List.take_of_length_le (by rw [List.length_map]; omega)
      simp only [Tree.run, lf0, lfs, toInt_int, toBool_bool, toStr_str, xs_list, nil_list, fst_pair, snd_pair, List.length_map, Option.bind_some, nb_same, cond_true, cond_false, decide_true, decide_false, eq_false (show ¬ (m.rls.length : Int) < m.rls.length by omega), if_false, e]
      cases m.rls <;> rfl)
  have hnone : ((List.range' 0 m.rls.length).findSome? fun _ => (none : Option (Nat × List P))) = none := by simp
  rw [hnone] at h
  simp only [f57_v, f57_t, Tree.run, Bool.cond_decide, eM]
  simp only [Tree.run, lf0, lfs, toInt_int, toBool_bool, toStr_str, xs_list, nil_list, fst_pair, snd_pair, List.length_map, Option.bind_some, nb_same, cond_true, cond_false, decide_true, decide_false]
  rw [show loopT f57_s58 FUEL [LR m.rn m.rls, .int .i64 (m.rls.length : Int), .int .i64 0, .pair (.str .empty) (.pair (.list true []) .unit), .str m.nm, .unit, .list true []] = _ from h]
  simp only [Tree.run, lf0, lfs, toInt_int, toBool_bool, toStr_str, xs_list, nil_list, fst_pair, snd_pair, List.length_map, Option.bind_some, nb_same, cond_true, cond_false, decide_true, decide_false, Option.getD_none]
theorem strEq_refl (s : ByteArray) : strEq s s = true := by simp [strEq]
theorem sameN_refl (l : List Nd) : sameN l l = true := by simp [sameN, okN, strEq_refl, sameS_refl]
theorem same_clone (m : Mf) : sameM (clM m) m = true := by
  simp only [sameM, clM, strEq_refl, sameR, List.length_map, decide_true, Bool.true_and, List.all_eq_true, List.mem_range]
  intro i hi
  have e : (m.rls.map cl).getD i rl0 = cl (m.rls.getD i rl0) := by simp [List.getD_eq_getElem?_getD, hi]
  rw [e]
  simp [okR, cl, sameN_refl]
/-! ### the example -/
def mf0 : Mf := ⟨⟨#[97]⟩, false, [⟨1000000, true, []⟩, ⟨2000000, true, []⟩]⟩
theorem down0 (hi : Int) (h1 : 2000000 ≤ hi) (h2 : hi ≤ 1000000000) : down125_v [eM mf0, LS false [⟨0, hi⟩]] = some (0, [.list false (if hi = 2000000 then [I 1000000] else [I 2000000, I 1000000])]) := by
  have hc : Sp.Chk (-1) [⟨0, hi⟩] := ⟨by show (-1 : Int) < 0; omega, by show 0 < hi; omega, h2, trivial⟩
  have a1 := Sp.has_told false 1000000 hc
  have a2 := Sp.has_told false 2000000 hc
  have m1 : Sp.mem [⟨0, hi⟩] 1000000 = true := by simp [Sp.mem]; omega
  have m2 : Sp.mem [⟨0, hi⟩] 2000000 = decide (2000000 < hi) := by simp [Sp.mem]
  rw [m1] at a1
  rw [m2] at a2
  show (downR (LS false [⟨0, hi⟩]) [eR ⟨2000000, true, []⟩, eR ⟨1000000, true, []⟩]).map _ = _
  simp only [downR, eR, fst_pair]
  rw [a1, a2]
  by_cases e : hi = 2000000
  · subst e; rfl
  · rw [decide_eq_true (show 2000000 < hi by omega), if_neg e]; rfl
theorem awake_told : f52_v [] = some (0, [.bool true]) := by
  have h1 := down0 2000000 (by omega) (by omega)
  have h2 := down0 1000000000 (by omega) (by omega)
  have h3 := checkM_told mf0 ⟨by decide, by decide, fun r hr => by simp [mf0] at hr; rcases hr with rfl | rfl <;> exact ⟨by decide, fun x hx => by cases hx⟩⟩
  have hck : chkM mf0 = true := by decide
  rw [hck] at h3
  rw [if_pos rfl] at h1
  rw [if_neg (by decide)] at h2
  have hn : f124_v [eM mf0, LS false [⟨0, 2000000⟩]] = some (0, [I 1000000, .bool true]) := by
    simp only [f124_v, f124_t, Tree.run, Bool.cond_decide]
    simp only [lf0, lfs, h1, Tree.run, lf0, lfs, toInt_int, toBool_bool, toStr_str, xs_list, nil_list, fst_pair, snd_pair, List.length_map, Option.bind_some, nb_same, cond_true, cond_false, decide_true, decide_false]
    rfl
  have e0 : P.pair (.str ⟨#[97]⟩) (.pair (.list false [.pair (.int .i64 (1000000 : Int)) (.pair (.list true []) .unit), .pair (.int .i64 (2000000 : Int)) (.pair (.list true []) .unit)]) .unit) = eM mf0 := rfl
  have e1 : ∀ h : Int, P.list false [.pair (.int .i64 (0 : Int)) (.pair (.int .i64 h) .unit)] = LS false [⟨0, h⟩] := fun _ => rfl
  simp only [f52_v, f52_t, Tree.run]
  rw [e0, e1, hn]
  simp only [e1, h2, h3, Tree.run, lf0, lfs, toInt_int, toBool_bool, toStr_str, xs_list, nil_list, fst_pair, snd_pair, List.length_map, Option.bind_some, nb_same, cond_true, cond_false, decide_true, decide_false]
  rfl
/-! ### the law -/
theorem maniChecks_told (a b : Mf) (hw : ∀ r ∈ a.rls, ∀ d ∈ r.nds, NdW d) : f7_v [eM a, eM b] = some (0, [.bool true]) := by
  have l1 := largeM_told a
  have l2 := largeM_told b
  simp only [f7_v, f7_t, Tree.run, Bool.cond_decide]
  simp only [lf0, lfs, l1, Tree.run, lf0, lfs, toInt_int, toBool_bool, toStr_str, xs_list, nil_list, fst_pair, snd_pair, List.length_map, Option.bind_some, nb_same, cond_true, cond_false, decide_true, decide_false, awake_told]
  cases h1 : smM a with
  | false => rfl
  | true =>
    simp only [Bool.not_true, Tree.run, lf0, lfs, toInt_int, toBool_bool, toStr_str, xs_list, nil_list, fst_pair, snd_pair, List.length_map, Option.bind_some, nb_same, cond_true, cond_false, decide_true, decide_false, l2]
    cases h2 : smM b with
    | false => rfl
    | true =>
      have s1 := smM_s h1
      have hc := clone_told a s1 hw
      have hcl : MfS (clM a) := by
        refine ⟨s1.1, by simpa [clM] using s1.2.1, fun r hr => ?_⟩
        simp only [clM, List.mem_map] at hr
        obtain ⟨q, hq, rfl⟩ := hr
        exact s1.2.2 q hq
      have hs : f56_v [.pair (.str a.nm) (.pair (LR a.rls.isEmpty (a.rls.map cl)) .unit), eM a] = some (0, [.bool true]) := by
        have := rsameM_told (clM a) a hcl
        rw [same_clone] at this; exact this
      have hb1 : ∀ x : Bool, (x == x) = true := fun x => by cases x <;> rfl
      simp only [Bool.not_true, Tree.run, lf0, lfs, toInt_int, toBool_bool, toStr_str, xs_list, nil_list, fst_pair, snd_pair, List.length_map, Option.bind_some, nb_same, cond_true, cond_false, decide_true, decide_false, checkM_told a s1, rcheckM_told a s1, hb1, sameM_told a b s1, rsameM_told a b s1, hc, hs]
theorem cn_nd {l : List P} (h : ∀ x ∈ l, Cn (.pair .str (.pair (.slice (.pair (.int .i64) (.pair (.int .i64) .unit))) .unit)) x) : ∃ ds : List Nd, l = ds.map eN ∧ ∀ d ∈ ds, NdW d := by
  induction l with
  | nil => exact ⟨[], rfl, by simp⟩
  | cons x t ih =>
    obtain ⟨ds, rfl, h2⟩ := ih fun y hy => h y (by simp [hy])
    obtain ⟨a, b, rfl, ⟨s, rfl⟩, c, d, rfl, hc, rfl⟩ := h x (by simp)
    obtain ⟨n, xs, rfl, hz, hx⟩ := hc
    have : ∃ ls : List Sp, xs = ls.map eS := by
      clear hz h
      induction xs with
      | nil => exact ⟨[], rfl⟩
      | cons y u ih2 =>
        obtain ⟨ls, hls⟩ := ih2 fun z hz => hx z (by simp [hz])
        obtain ⟨a, b, rfl, ⟨i, rfl⟩, c, d, rfl, ⟨j, rfl⟩, rfl⟩ := hx y (by simp)
        exact ⟨⟨i, j⟩ :: ls, by rw [hls]; rfl⟩
    obtain ⟨ls, rfl⟩ := this
    refine ⟨⟨s, n, ls⟩ :: ds, rfl, fun d hd => ?_⟩
    rcases List.mem_cons.1 hd with rfl | hd
    · exact fun hn => by simpa using hz hn
    · exact h2 d hd
theorem cn_mf {p : P} (h : Cn (.pair .str (.pair (.slice (.pair (.int .i64) (.pair (.slice (.pair .str (.pair (.slice (.pair (.int .i64) (.pair (.int .i64) .unit))) .unit))) .unit))) .unit)) p) : ∃ m : Mf, p = eM m ∧ ∀ r ∈ m.rls, ∀ d ∈ r.nds, NdW d := by
  obtain ⟨a, b, rfl, ⟨s, rfl⟩, c, d, rfl, hc, rfl⟩ := h
  obtain ⟨n, xs, rfl, hz, hx⟩ := hc
  have : ∃ rs : List Rl, xs = rs.map eR ∧ ∀ r ∈ rs, ∀ d ∈ r.nds, NdW d := by
    clear hz
    induction xs with
    | nil => exact ⟨[], rfl, by simp⟩
    | cons y u ih =>
      obtain ⟨rs, rfl, h2⟩ := ih fun z hz => hx z (by simp [hz])
      obtain ⟨a, b, rfl, ⟨i, rfl⟩, c, d, rfl, hc, rfl⟩ := hx y (by simp)
      obtain ⟨n', ys, rfl, _, hy⟩ := hc
      obtain ⟨ds, rfl, h3⟩ := cn_nd hy
      refine ⟨⟨i, n', ds⟩ :: rs, rfl, fun r hr => ?_⟩
      rcases List.mem_cons.1 hr with rfl | hr
      · exact h3
      · exact h2 r hr
  obtain ⟨rs, rfl, h2⟩ := this
  exact ⟨⟨s, n, rs⟩, rfl, h2⟩
end Go.Proofs.Ytjemihhhkhdbeaa.Mn
namespace Go.Proofs.Ytjemihhhkhdbeaa
open Go Go.Eng
theorem maniChecks_pure {p0 p1 : P} (c0 : Cn shMani p0) (c1 : Cn shMani p1) : f7_v [p0, p1] = some (0, [.bool true]) := by
  obtain ⟨a, rfl, hw⟩ := Mn.cn_mf c0
  obtain ⟨b, rfl, _⟩ := Mn.cn_mf c1
  exact Mn.maniChecks_told a b hw
end Go.Proofs.Ytjemihhhkhdbeaa
