/- The law ManiNewest, plainly. Conditions: none but those stated. -/
import Derived.Test.YtihenfpnilliiaaNw2
set_option linter.unusedVariables false
set_option linter.unusedSimpArgs false
namespace Go.Proofs.Ytihenfpnilliiaa.Mn
open Go Go.Eng
theorem beq_rfl (b : Bool) : (b == b) = true := by cases b <;> rfl
theorem maniNewest_told (m : Mf) (n : Bool) (inn : List Sp) (hw : ∀ r ∈ m.rls, ∀ d ∈ r.nds, NdW d) : f3_v [eM m, LS n inn] = some (0, [.bool true]) := by
  have l1 := largeM_told m
  simp only [f3_v, f3_t, Tree.run, Bool.cond_decide]
  simp only [lf0, lfs, l1, Tree.run, lf0, lfs, toInt_int, toBool_bool, toStr_str, xs_list, nil_list, fst_pair, snd_pair, List.length_map, Option.bind_some, nb_same, cond_true, cond_false, decide_true, decide_false, awake_told]
  cases h1 : smM m with
  | false => rfl
  | true =>
  have s1 := smM_s h1
  simp only [Bool.not_true, Tree.run, lf0, lfs, toInt_int, toBool_bool, toStr_str, xs_list, nil_list, fst_pair, snd_pair, List.length_map, Option.bind_some, nb_same, cond_true, cond_false, decide_true, decide_false, checkM_told m s1]
  cases h2 : chkM m with
  | false => rfl
  | true =>
  simp only [Bool.not_true, Tree.run, lf0, lfs, toInt_int, toBool_bool, toStr_str, xs_list, nil_list, fst_pair, snd_pair, List.length_map, Option.bind_some, nb_same, cond_true, cond_false, decide_true, decide_false]
  by_cases h3 : (inn.length : Int) > 40
  · simp only [eq_true h3, if_true]
  simp only [eq_false h3, if_false, check_told n inn (by omega)]
  cases h4 : chkS (-1) inn with
  | false => rfl
  | true =>
  simp only [Bool.not_true, Tree.run, lf0, lfs, toInt_int, toBool_bool, toStr_str, xs_list, nil_list, fst_pair, snd_pair, List.length_map, Option.bind_some, nb_same, cond_true, cond_false, decide_true, decide_false]
  have hc := (chkS_iff inn (-1)).1 h4
  have hr : Rise (-1) (vs m.rls) := chk_rise m.rls (-1) (by
    unfold chkM at h2
    rw [Bool.and_eq_true] at h2
    exact h2.1)
  obtain ⟨q, v, hv, hvs⟩ := vers_told m s1 hr
  obtain ⟨k, b, hb, hk⟩ := Sp.meet_told q n hvs.chk hc
  have hb : f9_v [.list q (v.map eS), .list n (inn.map eS)] = some (0, [.list k (b.map eS)]) := hb
  have hB := Both.of hr hvs hk
  have hnw := newest_told m s1 n hc
  have hmo := Sp.most_told k b (by have := Sp.chk_len hB.chk; omega)
  have hmo : f12_v [.list k (b.map eS)] = _ := hmo
  have hdn := down_told m s1 n hc
  have hco := Sp.count_told k hB.chk
  have hco : f16_v [.list k (b.map eS)] = _ := hco
  have hcnt := hB.count hr
  have hpw := dn_pw inn hr
  have hdl : (dn (vs m.rls) inn).length ≤ m.rls.length := by
    unfold dn
    exact Nat.le_trans (List.length_filter_le _ _) (by simp [vs])
  have hml := s1.2.1
  have hin : ∀ i, i < (dn (vs m.rls) inn).length → (dn (vs m.rls) inn).getD i 0 ∈ dn (vs m.rls) inn := fun i hi => by rw [getD_at hi]; exact List.getElem_mem hi
  -- the loop
  have loop : ∀ x y z u : P, loopT f3_s1018 FUEL [x, y, z, u, .int .i64 (0 : Int), eM m, .list k (b.map eS), .list (dn (vs m.rls) inn).isEmpty ((dn (vs m.rls) inn).map I)] =
      some (1, [x, y, z, u, .list k (b.map eS), .list (dn (vs m.rls) inn).isEmpty ((dn (vs m.rls) inn).map I)]) := by
    intro x y z u
    have h := loop_scan (step := f3_s1018) (st := fun i => [x, y, z, u, I (i : Int), eM m, .list k (b.map eS), .list (dn (vs m.rls) inn).isEmpty ((dn (vs m.rls) inn).map I)])
      (y1 := (1, [x, y, z, u, .list k (b.map eS), .list (dn (vs m.rls) inn).isEmpty ((dn (vs m.rls) inn).map I)])) (bad := fun _ => none) (dn (vs m.rls) inn).length (by omega) (fun i hi K => by
        have hd := hin i hi
        generalize hw' : (dn (vs m.rls) inn).getD i 0 = w at hd
        have hmem := mem_dn.1 hd
        obtain ⟨r, hrm, hrw⟩ := List.mem_map.1 hmem.1
        obtain ⟨c, hc1, hc2⟩ := List.getElem_of_mem hrm
        obtain ⟨g1, g2, g3, hg⟩ := get_told m s1 hw hr c hc1
        rw [getD_at hc1, hc2, hrw] at hg
        have hhas := Sp.has_told k w hB.chk
        rw [hB.mem_, decide_eq_true hd] at hhas
        have hhas : f15_v [.list k (b.map eS), I w] = some (0, [.bool true]) := hhas
        have hrd : rd ((dn (vs m.rls) inn).map I) i = I w := by rw [← hw']; exact rd_map I (dn (vs m.rls) inn) 0 hi
        simp only [f3_s1018, Tree.run, Bool.cond_decide]
        simp only [Tree.run, lf0, lfs, toInt_int, toBool_bool, toStr_str, xs_list, nil_list, fst_pair, snd_pair, List.length_map, Option.bind_some, nb_same, cond_true, cond_false, decide_true, decide_false, eq_true (show (i : Int) < (dn (vs m.rls) inn).length by omega), if_true, inb_nat hi, Int.toNat_natCast, hrd, hg, hhas, Bool.not_true, wrap_succ i (by omega)]
        by_cases hi0 : (i : Int) > 0
        · have hi1 : i - 1 < (dn (vs m.rls) inn).length := by omega
          have hwr : IntKind.i64.wrap ((i : Int) - 1) = ((i - 1 : Nat) : Int) := by rw [wrap_of (by omega) (by omega)]; omega
          have hrd1 : rd ((dn (vs m.rls) inn).map I) (i - 1) = I ((dn (vs m.rls) inn).getD (i - 1) 0) := rd_map I (dn (vs m.rls) inn) 0 hi1
          have hgt : w < (dn (vs m.rls) inn).getD (i - 1) 0 := by
            have := List.pairwise_iff_getElem.1 hpw (i - 1) i hi1 hi (by omega)
            rw [← hw', getD_at hi, getD_at hi1]
            omega
          simp only [eq_true hi0, if_true, hwr, inb_nat hi1, Tree.run, lf0, lfs, toInt_int, toBool_bool, toStr_str, xs_list, nil_list, fst_pair, snd_pair, List.length_map, Option.bind_some, nb_same, cond_true, cond_false, decide_true, decide_false, Int.toNat_natCast, hrd1, eq_false (show ¬ w ≥ (dn (vs m.rls) inn).getD (i - 1) 0 by omega), if_false]
        · simp only [eq_false hi0, if_false]) (fun K => by
        simp only [f3_s1018, Tree.run, Bool.cond_decide]
        simp only [Tree.run, lf0, lfs, toInt_int, toBool_bool, toStr_str, xs_list, nil_list, fst_pair, snd_pair, List.length_map, Option.bind_some, nb_same, cond_true, cond_false, decide_true, decide_false, eq_false (show ¬ ((dn (vs m.rls) inn).length : Int) < (dn (vs m.rls) inn).length by omega), if_false])
    have hnone : ((List.range' 0 (dn (vs m.rls) inn).length).findSome? fun _ => (none : Option (Nat × List P))) = none := by simp
    rw [hnone] at h
    exact h
  simp only [hv, Tree.run, lf0, lfs, toInt_int, toBool_bool, toStr_str, xs_list, nil_list, fst_pair, snd_pair, List.length_map, Option.bind_some, nb_same, cond_true, cond_false, decide_true, decide_false, hb, hnw, hmo, hdn, loop, hco, hcnt, nb_lt 1 0 (by omega)]
  rcases hB.top hr with ⟨h5, h6⟩ | ⟨d, t, h5, h6, h7⟩
  · simp only [h5, h6, if_true, Tree.run, lf0, lfs, toInt_int, toBool_bool, toStr_str, xs_list, nil_list, fst_pair, snd_pair, List.length_map, Option.bind_some, nb_same, cond_true, cond_false, decide_true, decide_false, lf0, lfs, beq_self_eq_true, beq_rfl]
  · have hd : 0 ≤ d ∧ d < 1000000000 := by
      have := hr.gt d (mem_dn.1 (by rw [h5]; simp)).1
      omega
    have hwr : IntKind.i64.wrap ((Sp.rd_T123 b ((b.length - 1 : Nat) : Int)).f1 - 1) = d := by rw [← h7, wrap_of (by omega) (by omega)]
    simp only [h5, eq_false h6, if_false, Tree.run, lf0, lfs, toInt_int, toBool_bool, toStr_str, xs_list, nil_list, fst_pair, snd_pair, List.length_map, Option.bind_some, nb_same, cond_true, cond_false, decide_true, decide_false, lf0, lfs, hwr, beq_self_eq_true, beq_rfl]
theorem cn_spans {p : P} (h : Cn (.slice (.pair (.int .i64) (.pair (.int .i64) .unit))) p) : ∃ n l, p = LS n l := by
  obtain ⟨n, xs, rfl, hz, hx⟩ := h
  clear hz
  have : ∃ l : List Sp, xs = l.map eS := by
    induction xs with
    | nil => exact ⟨[], rfl⟩
    | cons x t ih =>
      obtain ⟨l, hl⟩ := ih fun y hy => hx y (by simp [hy])
      obtain ⟨a, b, rfl, ⟨i, rfl⟩, c, d, rfl, ⟨j, rfl⟩, rfl⟩ := hx x (by simp)
      exact ⟨⟨i, j⟩ :: l, by rw [hl]; rfl⟩
  obtain ⟨l, rfl⟩ := this
  exact ⟨n, l, rfl⟩
end Go.Proofs.Ytihenfpnilliiaa.Mn
namespace Go.Proofs.Ytihenfpnilliiaa
open Go Go.Eng
theorem maniNewest_pure {p0 p1 : P} (c0 : Cn shMani p0) (c1 : Cn (.slice (.pair (.int .i64) (.pair (.int .i64) .unit))) p1) : f3_v [p0, p1] = some (0, [.bool true]) := by
  obtain ⟨a, rfl, hw⟩ := Mn.cn_mf c0
  obtain ⟨n, l, rfl⟩ := Mn.cn_spans c1
  exact Mn.maniNewest_told a n l hw
end Go.Proofs.Ytihenfpnilliiaa
