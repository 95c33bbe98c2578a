/- Manifests: what Vers, Down, Newest, Get tell; the law ManiNewest, plainly. Conditions: none but those each states. -/
import Derived.Test.YtihenfpnilliiaaNw1
set_option linter.unusedVariables false
set_option linter.unusedSimpArgs false
namespace Go.Proofs.Ytihenfpnilliiaa.Mn
open Go Go.Eng
theorem vers_told (m : Mf) (hm : MfS m) (hr : Rise (-1) (vs m.rls)) : ∃ q r, f10_v [eM m] = some (0, [LS q r]) ∧ Sp.IsSet (Sp.mem (vsp (vs m.rls))) r := by
  have hl := hm.2.1
  have h := loop_scan (step := f10_s58) (st := fun i => [LR m.rn m.rls, I (m.rls.length : Int), I (i : Int), .list (decide (i = 0)) ((m.rls.take i).map fun r => eS ⟨r.ver, r.ver + 1⟩)])
    (y1 := (0, [.list m.rls.isEmpty (m.rls.map fun r => eS ⟨r.ver, r.ver + 1⟩)])) (bad := fun _ => none) m.rls.length (by omega) (fun i hi K => by
      have hv := hr.gt (m.rls.getD i rl0).ver (by rw [getD_at hi]; exact List.mem_map.2 ⟨_, List.getElem_mem hi, rfl⟩)
      have ht : ((m.rls.take (i + 1)).map fun r => eS ⟨r.ver, r.ver + 1⟩) = ((m.rls.take i).map fun r => eS ⟨r.ver, r.ver + 1⟩) ++ [eS ⟨(m.rls.getD i rl0).ver, (m.rls.getD i rl0).ver + 1⟩] := by
        rw [List.take_succ_eq_append_getElem hi, List.map_append, getD_at hi]; rfl
      have hlen : (List.take i m.rls).length ≤ i := List.length_take_le _ _
      simp only [f10_s58, Tree.run, Bool.cond_decide]
      simp only [Tree.run, lf0, lfs, toInt_int, toBool_bool, toStr_str, xs_list, nil_list, fst_pair, snd_pair, List.length_map, Option.bind_some, nb_same, cond_true, cond_false, decide_true, decide_false, eq_true (show (i : Int) < m.rls.length by omega), if_true, inb_nat hi, Int.toNat_natCast, rdR hi, wrap_succ i (by omega), wrap_of (x := (m.rls.getD i rl0).ver + 1) (by omega) (by omega), eq_true (show ((List.take i m.rls).length + 1) * 16 ≤ 140737488355328 by omega), Bool.and_false, eq_false (show ¬ i + 1 = 0 by omega), ht]
      rfl) (fun K => by
      simp only [f10_s58, Tree.run, Bool.cond_decide]
      simp only [Tree.run, lf0, lfs, toInt_int, toBool_bool, toStr_str, xs_list, nil_list, fst_pair, snd_pair, List.length_map, Option.bind_some, nb_same, cond_true, cond_false, decide_true, decide_false, eq_false (show ¬ (m.rls.length : Int) < m.rls.length by omega), if_false, List.take_length]
      cases m.rls <;> rfl)
  have hnone : ((List.range' 0 m.rls.length).findSome? fun _ => (none : Option (Nat × List P))) = none := by simp
  rw [hnone] at h
  have e : (m.rls.map fun r => eS ⟨r.ver, r.ver + 1⟩) = (vsp (vs m.rls)).map eS := by simp [vsp, vs, Function.comp_def]
  obtain ⟨q, r, ho, hs⟩ := Sp.of_told m.rls.isEmpty (vsp (vs m.rls)) (by simp [vsp, vs]; omega)
  refine ⟨q, r, ?_, hs⟩
  simp only [f10_v, f10_t, Tree.run, Bool.cond_decide, eM]
  simp only [Tree.run, lf0, lfs, toInt_int, toBool_bool, toStr_str, xs_list, nil_list, fst_pair, snd_pair, List.length_map, Option.bind_some, nb_same, cond_true, cond_false, decide_true, decide_false]
  rw [show loopT f10_s58 FUEL [LR m.rn m.rls, .int .i64 (m.rls.length : Int), .int .i64 0, .list true []] = _ from h]
  simp only [Tree.run, lf0, lfs, toInt_int, toBool_bool, toStr_str, xs_list, nil_list, fst_pair, snd_pair, List.length_map, Option.bind_some, nb_same, cond_true, cond_false, decide_true, decide_false, Option.getD_none]
  rw [e]
  simp only [show f33_v [.list m.rls.isEmpty ((vsp (vs m.rls)).map eS)] = _ from ho, Tree.run, lf0, lfs, toInt_int, toBool_bool, toStr_str, xs_list, nil_list, fst_pair, snd_pair, List.length_map, Option.bind_some, nb_same, cond_true, cond_false, decide_true, decide_false]
theorem downR_told (n : Bool) {inn : List Sp} (hc : Sp.Chk (-1) inn) : ∀ l : List Rl, downR (LS n inn) (l.map eR) = some (((vs l).filter fun v => Sp.mem inn v).map I)
  | [] => rfl
  | r :: t => by
    have h := Sp.has_told n r.ver hc
    rw [List.map_cons]
    simp only [downR]
    rw [show (eR r).fst = I r.ver from rfl, show f15_v [LS n inn, I r.ver] = _ from h]
    simp only [downR_told n hc t, Option.map_some, Tree.run, lf0, lfs, toInt_int, toBool_bool, toStr_str, xs_list, nil_list, fst_pair, snd_pair, List.length_map, Option.bind_some, nb_same, cond_true, cond_false, decide_true, decide_false, vs, List.map_cons, List.filter_cons]
    cases Sp.mem inn r.ver <;> rfl
theorem down_told (m : Mf) (hm : MfS m) (n : Bool) {inn : List Sp} (hc : Sp.Chk (-1) inn) : down13_v [eM m, LS n inn] = some (0, [.list (dn (vs m.rls) inn).isEmpty ((dn (vs m.rls) inn).map I)]) := by
  have hl := hm.2.1
  have h := downR_told n hc m.rls.reverse
  unfold down13_v
  simp only [lf0, lfs, eM, snd_pair, fst_pair, xs_list, List.length_map, decide_eq_true (show m.rls.length < 1000000000000 by omega), cond_true, ← List.map_reverse]
  rw [show downR (LS n inn) (m.rls.reverse.map eR) = _ from h]
  simp only [Option.map_some, dn, vs, ← List.map_reverse]
  congr 3
  cases (m.rls.reverse.map (·.ver)).filter (fun v => Sp.mem inn v) <;> rfl
theorem newest_told (m : Mf) (hm : MfS m) (n : Bool) {inn : List Sp} (hc : Sp.Chk (-1) inn) : f11_v [eM m, LS n inn] = some (0, match dn (vs m.rls) inn with | [] => [I 0, .bool false] | d :: _ => [I d, .bool true]) := by
  have h := down_told m hm n hc
  simp only [f11_v, f11_t, Tree.run, Bool.cond_decide]
  simp only [lf0, lfs, h, Tree.run, lf0, lfs, toInt_int, toBool_bool, toStr_str, xs_list, nil_list, fst_pair, snd_pair, List.length_map, Option.bind_some, nb_same, cond_true, cond_false, decide_true, decide_false]
  cases dn (vs m.rls) inn with
  | nil => rfl
  | cons d t =>
    have hne : (((d :: t).length : Int) == 0) = false := by rw [beq_eq_false_iff_ne, List.length_cons]; omega
    have hb : inb (0 : Int) (d :: t).length = true := inb_nat (i := 0) (by simp)
    simp only [hne, hb, Tree.run, lf0, lfs, toInt_int, toBool_bool, toStr_str, xs_list, nil_list, fst_pair, snd_pair, List.length_map, Option.bind_some, nb_same, cond_true, cond_false, decide_true, decide_false]
    rfl
theorem find1_told (r : Rl) (v : Int) (h0 : 0 ≤ v) (h1 : v < 1000000000) (h2 : 0 ≤ r.ver) (h3 : r.ver < 1000000000) : f54_v [.pair (I r.ver) (.pair (LN r.nn r.nds) .unit), I v] = some (0, [I (r.ver - v)]) := by
  simp only [f54_v, f54_t, Tree.run, Bool.cond_decide]
  simp only [Tree.run, lf0, lfs, toInt_int, toBool_bool, toStr_str, xs_list, nil_list, fst_pair, snd_pair, List.length_map, Option.bind_some, nb_same, cond_true, cond_false, decide_true, decide_false, wrap_of (x := r.ver - v) (by omega) (by omega)]
theorem rbs_told (n : Bool) (l : List Rl) (hr : Rise (-1) (vs l)) (hl : l.length < 1000000) (q : P) (c : Nat) (hc : c < l.length) : ∀ d i j : Nat, j - i ≤ d → i ≤ c → c ≤ j → j ≤ l.length →
    Lp (d + 1) f53_s60 [LR n l, I (l.getD c rl0).ver, q, I (l.length : Int), I i, I j] (0, [LR n l, I (l.getD c rl0).ver, q, I (l.length : Int), I (c : Int)]) := by
  have hv : ∀ i, i < l.length → 0 ≤ (l.getD i rl0).ver ∧ (l.getD i rl0).ver < 1000000000 := fun i hi => by
    have := hr.gt (l.getD i rl0).ver (by rw [getD_at hi]; exact List.mem_map.2 ⟨_, List.getElem_mem hi, rfl⟩)
    omega
  have hlt : ∀ i j, i < j → j < l.length → (l.getD i rl0).ver < (l.getD j rl0).ver := fun i j hij hj => by
    have := List.pairwise_iff_getElem.1 hr.pw i j (by simp [vs]; omega) (by simp [vs]; omega) hij
    rw [getD_at (by omega), getD_at hj]
    simpa [vs] using this
  have hcv := hv c hc
  intro d
  induction d with
  | zero =>
    intro i j hd h1 h2 h3
    have e : i = c := by omega
    subst e
    have e' : j = i := by omega
    subst e'
    refine Lp.done fun K => ?_
    simp only [f53_s60, Tree.run, Bool.cond_decide]
    simp only [Tree.run, lf0, lfs, toInt_int, toBool_bool, toStr_str, xs_list, nil_list, fst_pair, snd_pair, List.length_map, Option.bind_some, nb_same, cond_true, cond_false, decide_true, decide_false, eq_false (show ¬ (j : Int) < j by omega), if_false]
  | succ d ih =>
    intro i j hd h1 h2 h3
    by_cases hij : i < j
    · have hm : (i + j) / 2 < l.length := by omega
      have hltI : (i : Int) < j := by omega
      have hhv := hv _ hm
      by_cases hc1 : (i + j) / 2 < c
      · have := hlt _ _ hc1 hc
        refine Lp.next (fun K => ?_) (ih ((i + j) / 2 + 1) j (by omega) (by omega) h2 h3)
        simp only [f53_s60, Tree.run, Bool.cond_decide]
        simp only [Tree.run, lf0, lfs, toInt_int, toBool_bool, toStr_str, xs_list, nil_list, fst_pair, snd_pair, List.length_map, Option.bind_some, nb_same, cond_true, cond_false, decide_true, decide_false, Sp.half i j (by omega), inb_nat hm, Int.toNat_natCast, rdR hm, find1_told _ _ hcv.1 hcv.2 hhv.1 hhv.2, wrap_succ _ (show (i + j) / 2 < 4611686018427387904 by omega), eq_true hltI, if_true, eq_true (show (l.getD ((i + j) / 2) rl0).ver - (l.getD c rl0).ver < 0 by omega)]
      · have hge : (l.getD c rl0).ver ≤ (l.getD ((i + j) / 2) rl0).ver := by
          rcases Nat.lt_or_ge c ((i + j) / 2) with h | h
          · have := hlt _ _ h hm; omega
          · have : c = (i + j) / 2 := by omega
            rw [this]; exact Int.le_refl _
        refine Lp.next (fun K => ?_) (ih i ((i + j) / 2) (by omega) h1 (by omega) (by omega))
        simp only [f53_s60, Tree.run, Bool.cond_decide]
        simp only [Tree.run, lf0, lfs, toInt_int, toBool_bool, toStr_str, xs_list, nil_list, fst_pair, snd_pair, List.length_map, Option.bind_some, nb_same, cond_true, cond_false, decide_true, decide_false, Sp.half i j (by omega), inb_nat hm, Int.toNat_natCast, rdR hm, find1_told _ _ hcv.1 hcv.2 hhv.1 hhv.2, eq_true hltI, if_true, eq_false (show ¬ (l.getD ((i + j) / 2) rl0).ver - (l.getD c rl0).ver < 0 by omega), if_false]
    · exact (ih i j (by omega) h1 h2 h3).mono (by omega)
theorem find_told (m : Mf) (hm : MfS m) (hr : Rise (-1) (vs m.rls)) (c : Nat) (hc : c < m.rls.length) : f35_v [eM m, I (m.rls.getD c rl0).ver] = some (0, [I (c : Int), .bool true]) := by
  have hl := hm.2.1
  have hv := hr.gt (m.rls.getD c rl0).ver (by rw [getD_at hc]; exact List.mem_map.2 ⟨_, List.getElem_mem hc, rfl⟩)
  have h := (rbs_told m.rn m.rls hr hl .unit c hc m.rls.length 0 m.rls.length (by omega) (by omega) (by omega) (Nat.le_refl _)).fuel (by omega)
  have hb : f53_v [LR m.rn m.rls, I (m.rls.getD c rl0).ver, .unit] = some (0, [I (c : Int), .bool true]) := by
    simp only [f53_v, f53_t, Tree.run, Bool.cond_decide]
    simp only [Tree.run, lf0, lfs, toInt_int, toBool_bool, toStr_str, xs_list, nil_list, fst_pair, snd_pair, List.length_map, Option.bind_some, nb_same, cond_true, cond_false, decide_true, decide_false]
    rw [show loopT f53_s60 FUEL [LR m.rn m.rls, I (m.rls.getD c rl0).ver, .unit, .int .i64 (m.rls.length : Int), .int .i64 (0 : Int), .int .i64 (m.rls.length : Int)] = _ from h]
    simp only [Tree.run, lf0, lfs, toInt_int, toBool_bool, toStr_str, xs_list, nil_list, fst_pair, snd_pair, List.length_map, Option.bind_some, nb_same, cond_true, cond_false, decide_true, decide_false, eq_true (show (c : Int) < m.rls.length by omega), if_true, inb_nat hc, Int.toNat_natCast, rdR hc, find1_told (m.rls.getD c rl0) _ (by omega) hv.2 (by omega) hv.2, show ((m.rls.getD c rl0).ver - (m.rls.getD c rl0).ver == 0) = true by simp]
  simp only [f35_v, f35_t, Tree.run, Bool.cond_decide, eM]
  simp only [Tree.run, lf0, lfs, toInt_int, toBool_bool, toStr_str, xs_list, nil_list, fst_pair, snd_pair, List.length_map, Option.bind_some, nb_same, cond_true, cond_false, decide_true, decide_false]
  simp only [show f53_v [.list m.rn (m.rls.map eR), I (m.rls.getD c rl0).ver, .unit] = _ from hb, Tree.run, lf0, lfs, toInt_int, toBool_bool, toStr_str, xs_list, nil_list, fst_pair, snd_pair, List.length_map, Option.bind_some, nb_same, cond_true, cond_false, decide_true, decide_false]
theorem get_told (m : Mf) (hm : MfS m) (hw : ∀ r ∈ m.rls, ∀ d ∈ r.nds, NdW d) (hr : Rise (-1) (vs m.rls)) (c : Nat) (hc : c < m.rls.length) : ∃ x y z, f14_v [eM m, I (m.rls.getD c rl0).ver] = some (0, [x, y, z, .bool true]) := by
  have hv := hr.gt (m.rls.getD c rl0).ver (by rw [getD_at hc]; exact List.mem_map.2 ⟨_, List.getElem_mem hc, rfl⟩)
  have hf := find_told m hm hr c hc
  have hcl := cloned_told (m.rls.getD c rl0) (at_of hm.2.2 hc) (at_of hw hc)
  refine ⟨I (m.rls.getD c rl0).ver, LN (m.rls.getD c rl0).nds.isEmpty (m.rls.getD c rl0).nds, .unit, ?_⟩
  simp only [f14_v, f14_t, f14_s1, Tree.run, Bool.cond_decide]
  simp only [Tree.run, lf0, lfs, toInt_int, toBool_bool, toStr_str, xs_list, nil_list, fst_pair, snd_pair, List.length_map, Option.bind_some, nb_same, cond_true, cond_false, decide_true, decide_false, eq_false (show ¬ (m.rls.getD c rl0).ver < 0 by omega), eq_false (show ¬ (m.rls.getD c rl0).ver ≥ 1000000000 by omega), if_false, hf, Bool.not_true]
  simp only [eM, Tree.run, lf0, lfs, toInt_int, toBool_bool, toStr_str, xs_list, nil_list, fst_pair, snd_pair, List.length_map, Option.bind_some, nb_same, cond_true, cond_false, decide_true, decide_false, inb_nat hc, Int.toNat_natCast, rdR hc]
  rw [show f36_v [.pair (I (m.rls.getD c rl0).ver) (.pair (LN (m.rls.getD c rl0).nn (m.rls.getD c rl0).nds) .unit)] = _ from hcl]
  simp only [Tree.run, lf0, lfs, toInt_int, toBool_bool, toStr_str, xs_list, nil_list, fst_pair, snd_pair, List.length_map, Option.bind_some, nb_same, cond_true, cond_false, decide_true, decide_false]
end Go.Proofs.Ytihenfpnilliiaa.Mn
