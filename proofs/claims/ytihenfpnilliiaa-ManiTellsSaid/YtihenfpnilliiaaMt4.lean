/- The law ManiTells, plainly. Conditions: none but those stated. -/
import Derived.Test.YtihenfpnilliiaaMt3
set_option linter.unusedVariables false
set_option linter.unusedSimpArgs false
namespace Go.Proofs.Ytihenfpnilliiaa.Mn
open Go Go.Eng
theorem allN_len : ∀ l : List Rl, (∀ r ∈ l, r.nds.length ≤ 40) → (allN l).length ≤ 40 * l.length
  | [], _ => by simp [allN]
  | a :: t, hq => by
    have h1 := allN_len t fun r hr => hq r (by simp [hr])
    have h2 := hq a (by simp)
    have : (allN (a :: t)).length = a.nds.length + (allN t).length := by simp [allN, nms]
    rw [this, List.length_cons]; omega
theorem gets (m : Mf) (hm : MfS m) (hw : ∀ r ∈ m.rls, ∀ d ∈ r.nds, NdW d) (hr : Rise (-1) (vs m.rls)) (p : Int) : ∃ (v : Int) (b1 : Bool) (nds : List Nd) (b2 : Bool) (is : Bool),
    f14_v [eM m, I p] = some (0, [I v, LN b1 nds, .unit, .bool is]) ∧ f19_v [eM m, I p] = some (0, [.pair (I v) (.pair (LN b2 nds) .unit), .bool is]) ∧ nds.length < 1000000 ∧ ∀ x ∈ nds, NdS x := by
  by_cases h : ∃ c, c < m.rls.length ∧ (m.rls.getD c rl0).ver = p
  · obtain ⟨c, hc, rfl⟩ := h
    have hs := at_of (d := rl0) hm.2.2 hc
    exact ⟨_, _, _, _, _, get_yes m hm hw hr c hc, rget_yes m hm hr c hc, hs.1, hs.2⟩
  · have hn : ∀ i, i < m.rls.length → (m.rls.getD i rl0).ver ≠ p := fun i hi e => h ⟨i, hi, e⟩
    exact ⟨0, true, [], true, false, get_no m hm hr p hn, rget_no m hm p hn, by simp, fun x hx => by cases hx⟩
theorem bool_rfl (b : Bool) : (b == b) = true := by cases b <;> rfl
theorem maniTells_told (m : Mf) (p : Int) (n : Bool) (inn : List Sp) (hw : ∀ r ∈ m.rls, ∀ d ∈ r.nds, NdW d) : f4_v [eM m, I p, LS n inn] = some (0, [.bool true]) := by
  have l1 := largeM_told m
  simp only [f4_v, f4_t, Tree.run, Bool.cond_decide]
  simp only [lf0, lfs, l1, Tree.run, lf0, lfs, toInt_int, toBool_bool, toStr_str, xs_list, nil_list, fst_pair, snd_pair, List.length_map, Option.bind_some, nb_same, cond_true, cond_false, decide_true, decide_false, awake_told]
  cases h1 : smM m with
  | false => rfl
  | true =>
  have s1 := smM_s h1
  simp only [Bool.not_true, Tree.run, lf0, lfs, toInt_int, toBool_bool, toStr_str, xs_list, nil_list, fst_pair, snd_pair, List.length_map, Option.bind_some, nb_same, cond_true, cond_false, decide_true, decide_false, rcheckM_told m s1]
  cases h2 : chkM m with
  | false => rfl
  | true =>
  simp only [Bool.not_true, Tree.run, lf0, lfs, toInt_int, toBool_bool, toStr_str, xs_list, nil_list, fst_pair, snd_pair, List.length_map, Option.bind_some, nb_same, cond_true, cond_false, decide_true, decide_false]
  by_cases h3 : (inn.length : Int) > 40
  · simp only [eq_true h3, if_true]
  simp only [eq_false h3, if_false, rcheck_told n inn (by omega)]
  cases h4 : chkS (-1) inn with
  | false => rfl
  | true =>
  simp only [Bool.not_true, Tree.run, lf0, lfs, toInt_int, toBool_bool, toStr_str, xs_list, nil_list, fst_pair, snd_pair, List.length_map, Option.bind_some, nb_same, cond_true, cond_false, decide_true, decide_false]
  have hc := (chkS_iff inn (-1)).1 h4
  have hr : Rise (-1) (vs m.rls) := chk_rise m.rls (-1) (by
    unfold chkM at h2
    rw [Bool.and_eq_true] at h2
    exact h2.1)
  have hsm : m.rls.length ≤ 30 ∧ ∀ r ∈ m.rls, r.nds.length ≤ 40 := by
    unfold smM at h1
    rw [Bool.and_eq_true, Bool.and_eq_true, List.all_eq_true, decide_eq_true_eq] at h1
    exact ⟨h1.1, fun r hx => (smN_s (h1.2.2 r hx)).1⟩
  obtain ⟨v, b1, nds, b2, is, g1, g2, g3, g4⟩ := gets m s1 hw hr p
  have hsn : f20_v [.list b1 (nds.map eN), .list b2 (nds.map eN)] = some (0, [.bool true]) := by
    have := rsameN_told b1 b2 nds nds g3 g4
    rw [sameN_refl] at this; exact this
  obtain ⟨q, r, hv, hvs⟩ := vers_told m s1 hr
  obtain ⟨q2, r2, hv2, hvs2⟩ := rvers_told m s1 hr hsm.1
  have er : r2 = r := hvs2.unique hvs
  subst er
  have hrl := set_len (hr.pw.imp (by intro a b h; omega)) (fun x hx => by have := hr.gt x hx; omega) hvs
  have hvl : (vs m.rls).length = m.rls.length := by simp [vs]
  have hss : f21_v [.list q (r2.map eS), .list q2 (r2.map eS)] = some (0, [.bool true]) := by
    have := rsameS_told q q2 r2 r2 (by omega)
    rw [sameS_refl] at this; exact this
  obtain ⟨b3, hn1⟩ := names_told m hsm.1 hsm.2
  obtain ⟨b4, hn2⟩ := rnames_told m hsm.1 hsm.2
  have hal := allN_len m.rls hsm.2
  have hfl := fold_len (fun acc x => insS_len x acc) (f := addN) (allN m.rls) []
  have hn3 := names2_told b3 b4 ((allN m.rls).foldl addN []) (by simp at hfl; omega)
  have hd1 := down_told m s1 n hc
  obtain ⟨b5, hd2⟩ := rdown_told m s1 hr n inn (by omega)
  have hdl : (dn (vs m.rls) inn).length ≤ m.rls.length := by
    unfold dn
    exact Nat.le_trans (List.length_filter_le _ _) (by simp [vs])
  have hd3 := ints_told (dn (vs m.rls) inn).isEmpty b5 (dn (vs m.rls) inn) (by omega)
  have hnw := newest_told m s1 n hc
  simp only [g1, g2, Tree.run, lf0, lfs, toInt_int, toBool_bool, toStr_str, xs_list, nil_list, fst_pair, snd_pair, List.length_map, Option.bind_some, nb_same, cond_true, cond_false, decide_true, decide_false, bool_rfl, Bool.not_true, bne_self_eq_false, hsn, hv, hv2, hss, hn1, hn2, hn3, hd1, hd2, hd3, hnw]
  cases hdn : dn (vs m.rls) inn with
  | nil => simp only [Tree.run, lf0, lfs, toInt_int, toBool_bool, toStr_str, xs_list, nil_list, fst_pair, snd_pair, List.length_map, Option.bind_some, nb_same, cond_true, cond_false, decide_true, decide_false, lf0, lfs, List.length_nil]; rfl
  | cons d t =>
    have hb : inb (0 : Int) (d :: t).length = true := inb_nat (i := 0) (by simp)
    have hg : decide (((d :: t).length : Int) > 0) = true := decide_eq_true (by rw [List.length_cons]; omega)
    have hd0 : rd ((d :: t).map I) 0 = I d := rfl
    simp only [Tree.run, lf0, lfs, toInt_int, toBool_bool, toStr_str, xs_list, nil_list, fst_pair, snd_pair, List.length_map, Option.bind_some, nb_same, cond_true, cond_false, decide_true, decide_false, lf0, lfs, hg, hb, hd0, Bool.not_true, beq_self_eq_true, bool_rfl]
theorem cn_spans {p : P} (h : Cn (.slice (.pair (.int .i64) (.pair (.int .i64) .unit))) p) : ∃ n l, p = LS n l := by
  obtain ⟨n, xs, rfl, hz, hx⟩ := h
  clear hz
  have : ∃ l : List Sp, xs = l.map eS := by
    induction xs with
    | nil => exact ⟨[], rfl⟩
    | cons x t ih =>
      obtain ⟨l, hl⟩ := ih fun y hy => hx y (by simp [hy])
      obtain ⟨a, b, rfl, ⟨i, rfl⟩, c, d, rfl, ⟨j, rfl⟩, rfl⟩ := hx x (by simp)
      exact ⟨⟨i, j⟩ :: l, by rw [hl]; rfl⟩
  obtain ⟨l, rfl⟩ := this
  exact ⟨n, l, rfl⟩
end Go.Proofs.Ytihenfpnilliiaa.Mn
namespace Go.Proofs.Ytihenfpnilliiaa
open Go Go.Eng
theorem maniTells_pure {p0 p1 p2 : P} (c0 : Cn shMani p0) (c1 : Cn (.int .i64) p1) (c2 : Cn (.slice (.pair (.int .i64) (.pair (.int .i64) .unit))) p2) : f4_v [p0, p1, p2] = some (0, [.bool true]) := by
  obtain ⟨a, rfl, hw⟩ := Mn.cn_mf c0
  obtain ⟨i, rfl⟩ := c1
  obtain ⟨n, l, rfl⟩ := Mn.cn_spans c2
  exact Mn.maniTells_told a i n l hw
end Go.Proofs.Ytihenfpnilliiaa
