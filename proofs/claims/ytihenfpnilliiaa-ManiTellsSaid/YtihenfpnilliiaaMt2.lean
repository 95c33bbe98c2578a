/- What a manifest tells of its releases and versions, by the program and by the document. Conditions: none but those each states. -/
import Derived.Test.YtihenfpnilliiaaNw2
import Derived.Test.YtihenfpnilliiaaMtA
import Derived.Test.YtihenfpnilliiaaSpRef
import Derived.Test.YtihenfpnilliiaaMt1
set_option linter.unusedVariables false
set_option linter.unusedSimpArgs false
namespace Go.Proofs.Ytihenfpnilliiaa.Mn
open Go Go.Eng
theorem fs_first {β : Type} (bad : Nat → Option β) (z : β) (c : Nat) : ∀ n s : Nat, s ≤ c → c < s + n → (∀ j, s ≤ j → j < c → bad j = none) → bad c = some z → (List.range' s n).findSome? bad = some z
  | 0, s, h1, h2, _, _ => by omega
  | n + 1, s, h1, h2, h3, h4 => by
    rw [List.range'_succ, List.findSome?_cons]
    by_cases e : s = c
    · subst e; rw [h4]
    · rw [h3 s (Nat.le_refl _) (by omega)]
      exact fs_first bad z c n (s + 1) (by omega) (by omega) (fun j hj => h3 j (by omega)) h4
theorem fs_none {β : Type} (bad : Nat → Option β) (n : Nat) (h : ∀ j, j < n → bad j = none) : (List.range' 0 n).findSome? bad = none := by
  rw [List.findSome?_eq_none_iff]
  intro j hj
  rw [List.mem_range'] at hj
  exact h j (by omega)
theorem vs_lt {l : List Rl} (hr : Rise (-1) (vs l)) {i j : Nat} (hij : i < j) (hj : j < l.length) : (l.getD i rl0).ver < (l.getD j rl0).ver := by
  have := List.pairwise_iff_getElem.1 hr.pw i j (by simp [vs]; omega) (by simp [vs]; omega) hij
  rw [getD_at (by omega), getD_at hj]
  simpa [vs] using this
theorem vs_in {l : List Rl} (hr : Rise (-1) (vs l)) {i : Nat} (hi : i < l.length) : 0 ≤ (l.getD i rl0).ver ∧ (l.getD i rl0).ver < 1000000000 := by
  have := hr.gt (l.getD i rl0).ver (by rw [getD_at hi]; exact List.mem_map.2 ⟨_, List.getElem_mem hi, rfl⟩)
  omega
def get0 : P := .pair (.int .i64 (0 : Int)) (.pair (.list true []) .unit)
theorem rget_loop (m : Mf) (hm : MfS m) (p : Int) : loopT f19_s26 FUEL [I p, I 0, eM m, get0] =
    some (((List.range' 0 m.rls.length).findSome? fun i => if (m.rls.getD i rl0).ver = p then some (0, [.bool true, eR (m.rls.getD i rl0)]) else none).getD (1, [get0])) := by
  have hl := hm.2.1
  exact loop_scan (step := f19_s26) (st := fun i => [I p, I (i : Int), eM m, get0]) m.rls.length (by omega) (fun i hi K => by
    simp only [f19_s26, Tree.run, Bool.cond_decide, eM]
    simp only [Tree.run, lf0, lfs, toInt_int, toBool_bool, toStr_str, xs_list, nil_list, fst_pair, snd_pair, List.length_map, Option.bind_some, nb_same, cond_true, cond_false, decide_true, decide_false, eq_true (show (i : Int) < m.rls.length by omega), if_true, inb_nat hi, Int.toNat_natCast, rdR hi, wrap_succ i (by omega), beqI, Bool.cond_decide]
    by_cases h : (m.rls.getD i rl0).ver = p
    · simp only [eq_true h, if_true]; rfl
    · simp only [eq_false h, if_false]) (fun K => by
    simp only [f19_s26, Tree.run, Bool.cond_decide, eM]
    simp only [Tree.run, lf0, lfs, toInt_int, toBool_bool, toStr_str, xs_list, nil_list, fst_pair, snd_pair, List.length_map, Option.bind_some, nb_same, cond_true, cond_false, decide_true, decide_false, eq_false (show ¬ (m.rls.length : Int) < m.rls.length by omega), if_false])
theorem rget_yes (m : Mf) (hm : MfS m) (hr : Rise (-1) (vs m.rls)) (c : Nat) (hc : c < m.rls.length) : f19_v [eM m, I (m.rls.getD c rl0).ver] = some (0, [eR (m.rls.getD c rl0), .bool true]) := by
  have h := rget_loop m hm (m.rls.getD c rl0).ver
  have hf := fs_first (fun i => if (m.rls.getD i rl0).ver = (m.rls.getD c rl0).ver then some (0, [.bool true, eR (m.rls.getD i rl0)]) else none) (0, [.bool true, eR (m.rls.getD c rl0)]) c m.rls.length 0 (Nat.zero_le _) (by omega) (fun j _ hj => if_neg (by have := vs_lt hr hj hc; omega)) (if_pos rfl)
  rw [hf] at h
  simp only [f19_v, f19_t, Tree.run, Bool.cond_decide]
  simp only [lf0, lfs]
  rw [show loopT f19_s26 FUEL [I (m.rls.getD c rl0).ver, .int .i64 (0 : Int), eM m, .pair (.int .i64 (0 : Int)) (.pair (.list true []) .unit)] = _ from h]
  rfl
theorem rget_no (m : Mf) (hm : MfS m) (p : Int) (hn : ∀ i, i < m.rls.length → (m.rls.getD i rl0).ver ≠ p) : f19_v [eM m, I p] = some (0, [get0, .bool false]) := by
  have h := rget_loop m hm p
  rw [fs_none _ _ (fun j hj => if_neg (hn j hj))] at h
  simp only [f19_v, f19_t, Tree.run, Bool.cond_decide]
  simp only [lf0, lfs]
  rw [show loopT f19_s26 FUEL [I p, .int .i64 (0 : Int), eM m, .pair (.int .i64 (0 : Int)) (.pair (.list true []) .unit)] = _ from h]
  rfl
theorem place {l : List Rl} (hr : Rise (-1) (vs l)) (p : Int) : ∀ k : Nat, k ≤ l.length → ∃ c, c ≤ k ∧ (∀ i, i < c → (l.getD i rl0).ver < p) ∧ ∀ i, c ≤ i → i < k → ¬ (l.getD i rl0).ver < p
  | 0, _ => ⟨0, Nat.le_refl _, fun i h => by omega, fun i h1 h2 => by omega⟩
  | k + 1, hk => by
    obtain ⟨c, h1, h2, h3⟩ := place hr p k (by omega)
    by_cases h : (l.getD k rl0).ver < p
    · refine ⟨k + 1, Nat.le_refl _, fun i hi => ?_, fun i h1 h2 => by omega⟩
      rcases Nat.lt_or_ge i k with q | q
      · have := vs_lt hr q (show k < l.length by omega); omega
      · have : i = k := by omega
        rw [this]; exact h
    · refine ⟨c, by omega, h2, fun i hi1 hi2 => ?_⟩
      rcases Nat.lt_or_ge i k with q | q
      · exact h3 i hi1 q
      · have : i = k := by omega
        rw [this]; exact h
theorem find1b_told (r : Rl) (v : Int) (h0 : 0 ≤ v) (h1 : v < 1000000000) (h2 : 0 ≤ r.ver) (h3 : r.ver < 1000000000) : f54_v [.pair (I r.ver) (.pair (LN r.nn r.nds) .unit), I v] = some (0, [I (r.ver - v)]) := find1_told r v h0 h1 h2 h3
theorem rbs2_told (n : Bool) (l : List Rl) (hr : Rise (-1) (vs l)) (hl : l.length < 1000000) (q : P) (p : Int) (hp : 0 ≤ p ∧ p < 1000000000) (c : Nat) (hc : c ≤ l.length) (hb : ∀ i, i < c → (l.getD i rl0).ver < p) (ha : ∀ i, c ≤ i → i < l.length → ¬ (l.getD i rl0).ver < p) :
    ∀ d i j : Nat, j - i ≤ d → i ≤ c → c ≤ j → j ≤ l.length →
    Lp (d + 1) f53_s60 [LR n l, I p, q, I (l.length : Int), I i, I j] (0, [LR n l, I p, q, I (l.length : Int), I (c : Int)]) := by
  intro d
  induction d with
  | zero =>
    intro i j hd h1 h2 h3
    have e : i = c := by omega
    subst e
    have e' : j = i := by omega
    subst e'
    refine Lp.done fun K => ?_
    simp only [f53_s60, Tree.run, Bool.cond_decide]
    simp only [Tree.run, lf0, lfs, toInt_int, toBool_bool, toStr_str, xs_list, nil_list, fst_pair, snd_pair, List.length_map, Option.bind_some, nb_same, cond_true, cond_false, decide_true, decide_false, eq_false (show ¬ (j : Int) < j by omega), if_false]
  | succ d ih =>
    intro i j hd h1 h2 h3
    by_cases hij : i < j
    · have hm : (i + j) / 2 < l.length := by omega
      have hltI : (i : Int) < j := by omega
      have hhv := vs_in hr hm
      by_cases hc1 : (i + j) / 2 < c
      · have := hb _ hc1
        refine Lp.next (fun K => ?_) (ih ((i + j) / 2 + 1) j (by omega) (by omega) h2 h3)
        simp only [f53_s60, Tree.run, Bool.cond_decide]
        simp only [Tree.run, lf0, lfs, toInt_int, toBool_bool, toStr_str, xs_list, nil_list, fst_pair, snd_pair, List.length_map, Option.bind_some, nb_same, cond_true, cond_false, decide_true, decide_false, Sp.half i j (by omega), inb_nat hm, Int.toNat_natCast, rdR hm, find1_told _ _ hp.1 hp.2 hhv.1 hhv.2, wrap_succ _ (show (i + j) / 2 < 4611686018427387904 by omega), eq_true hltI, if_true, eq_true (show (l.getD ((i + j) / 2) rl0).ver - p < 0 by omega)]
      · have := ha _ (by omega) hm
        refine Lp.next (fun K => ?_) (ih i ((i + j) / 2) (by omega) h1 (by omega) (by omega))
        simp only [f53_s60, Tree.run, Bool.cond_decide]
        simp only [Tree.run, lf0, lfs, toInt_int, toBool_bool, toStr_str, xs_list, nil_list, fst_pair, snd_pair, List.length_map, Option.bind_some, nb_same, cond_true, cond_false, decide_true, decide_false, Sp.half i j (by omega), inb_nat hm, Int.toNat_natCast, rdR hm, find1_told _ _ hp.1 hp.2 hhv.1 hhv.2, eq_true hltI, if_true, eq_false (show ¬ (l.getD ((i + j) / 2) rl0).ver - p < 0 by omega), if_false]
    · exact (ih i j (by omega) h1 h2 h3).mono (by omega)
theorem find_no (m : Mf) (hm : MfS m) (hr : Rise (-1) (vs m.rls)) (p : Int) (hp : 0 ≤ p ∧ p < 1000000000) (hn : ∀ i, i < m.rls.length → (m.rls.getD i rl0).ver ≠ p) : ∃ x, f35_v [eM m, I p] = some (0, [x, .bool false]) := by
  have hl := hm.2.1
  obtain ⟨c, hc, hb, ha⟩ := place hr p m.rls.length (Nat.le_refl _)
  have h := (rbs2_told m.rn m.rls hr hl .unit p hp c hc hb ha m.rls.length 0 m.rls.length (by omega) (by omega) (by omega) (Nat.le_refl _)).fuel (by omega)
  refine ⟨I (c : Int), ?_⟩
  have hb : f53_v [LR m.rn m.rls, I p, .unit] = some (0, [I (c : Int), .bool false]) := by
    simp only [f53_v, f53_t, Tree.run, Bool.cond_decide]
    simp only [Tree.run, lf0, lfs, toInt_int, toBool_bool, toStr_str, xs_list, nil_list, fst_pair, snd_pair, List.length_map, Option.bind_some, nb_same, cond_true, cond_false, decide_true, decide_false]
    rw [show loopT f53_s60 FUEL [LR m.rn m.rls, I p, .unit, .int .i64 (m.rls.length : Int), .int .i64 (0 : Int), .int .i64 (m.rls.length : Int)] = _ from h]
    by_cases hcl : c < m.rls.length
    · have hv := vs_in hr hcl
      have hne := hn c hcl
      have hz : ((m.rls.getD c rl0).ver - p == 0) = false := by rw [beq_eq_false_iff_ne]; omega
      simp only [Tree.run, lf0, lfs, toInt_int, toBool_bool, toStr_str, xs_list, nil_list, fst_pair, snd_pair, List.length_map, Option.bind_some, nb_same, cond_true, cond_false, decide_true, decide_false, eq_true (show (c : Int) < m.rls.length by omega), if_true, inb_nat hcl, Int.toNat_natCast, rdR hcl, find1_told (m.rls.getD c rl0) _ hp.1 hp.2 hv.1 hv.2, hz]
    · simp only [Tree.run, lf0, lfs, toInt_int, toBool_bool, toStr_str, xs_list, nil_list, fst_pair, snd_pair, List.length_map, Option.bind_some, nb_same, cond_true, cond_false, decide_true, decide_false, eq_false (show ¬ (c : Int) < m.rls.length by omega), if_false]
  simp only [f35_v, f35_t, Tree.run, Bool.cond_decide, eM]
  simp only [Tree.run, lf0, lfs, toInt_int, toBool_bool, toStr_str, xs_list, nil_list, fst_pair, snd_pair, List.length_map, Option.bind_some, nb_same, cond_true, cond_false, decide_true, decide_false]
  simp only [show f53_v [.list m.rn (m.rls.map eR), I p, .unit] = _ from hb, Tree.run, lf0, lfs, toInt_int, toBool_bool, toStr_str, xs_list, nil_list, fst_pair, snd_pair, List.length_map, Option.bind_some, nb_same, cond_true, cond_false, decide_true, decide_false]
theorem get_no (m : Mf) (hm : MfS m) (hr : Rise (-1) (vs m.rls)) (p : Int) (hn : ∀ i, i < m.rls.length → (m.rls.getD i rl0).ver ≠ p) : f14_v [eM m, I p] = some (0, [I 0, .list true [], .unit, .bool false]) := by
  simp only [f14_v, f14_t, f14_s1, Tree.run, Bool.cond_decide]
  by_cases h1 : p < 0
  · simp only [Tree.run, lf0, lfs, toInt_int, toBool_bool, toStr_str, xs_list, nil_list, fst_pair, snd_pair, List.length_map, Option.bind_some, nb_same, cond_true, cond_false, decide_true, decide_false, eq_true h1, if_true]
  by_cases h2 : p ≥ 1000000000
  · simp only [Tree.run, lf0, lfs, toInt_int, toBool_bool, toStr_str, xs_list, nil_list, fst_pair, snd_pair, List.length_map, Option.bind_some, nb_same, cond_true, cond_false, decide_true, decide_false, eq_false h1, eq_true h2, if_true, if_false]
  obtain ⟨x, hf⟩ := find_no m hm hr p ⟨by omega, by omega⟩ hn
  simp only [Tree.run, lf0, lfs, toInt_int, toBool_bool, toStr_str, xs_list, nil_list, fst_pair, snd_pair, List.length_map, Option.bind_some, nb_same, cond_true, cond_false, decide_true, decide_false, eq_false h1, eq_false h2, if_false, hf, Bool.not_false]
theorem get_yes (m : Mf) (hm : MfS m) (hw : ∀ r ∈ m.rls, ∀ d ∈ r.nds, NdW d) (hr : Rise (-1) (vs m.rls)) (c : Nat) (hc : c < m.rls.length) : f14_v [eM m, I (m.rls.getD c rl0).ver] = some (0, [I (m.rls.getD c rl0).ver, LN (m.rls.getD c rl0).nds.isEmpty (m.rls.getD c rl0).nds, .unit, .bool true]) := by
  have hv := hr.gt (m.rls.getD c rl0).ver (by rw [getD_at hc]; exact List.mem_map.2 ⟨_, List.getElem_mem hc, rfl⟩)
  have hf := find_told m hm hr c hc
  have hcl := cloned_told (m.rls.getD c rl0) (at_of hm.2.2 hc) (at_of hw hc)
  simp only [f14_v, f14_t, f14_s1, Tree.run, Bool.cond_decide]
  simp only [Tree.run, lf0, lfs, toInt_int, toBool_bool, toStr_str, xs_list, nil_list, fst_pair, snd_pair, List.length_map, Option.bind_some, nb_same, cond_true, cond_false, decide_true, decide_false, eq_false (show ¬ (m.rls.getD c rl0).ver < 0 by omega), eq_false (show ¬ (m.rls.getD c rl0).ver ≥ 1000000000 by omega), if_false, hf, Bool.not_true]
  simp only [eM, Tree.run, lf0, lfs, toInt_int, toBool_bool, toStr_str, xs_list, nil_list, fst_pair, snd_pair, List.length_map, Option.bind_some, nb_same, cond_true, cond_false, decide_true, decide_false, inb_nat hc, Int.toNat_natCast, rdR hc]
  rw [show f36_v [.pair (I (m.rls.getD c rl0).ver) (.pair (LN (m.rls.getD c rl0).nn (m.rls.getD c rl0).nds) .unit)] = _ from hcl]
  simp only [Tree.run, lf0, lfs, toInt_int, toBool_bool, toStr_str, xs_list, nil_list, fst_pair, snd_pair, List.length_map, Option.bind_some, nb_same, cond_true, cond_false, decide_true, decide_false]
/-! ### versions -/
theorem one_told (v : Int) (h0 : 0 ≤ v) (h1 : v < 1000000000) : f42_v [I v] = some (0, [LS false [⟨v, v + 1⟩]]) := by
  simp only [f42_v, f42_t, f42_s1, Tree.run, Bool.cond_decide]
  simp only [Tree.run, lf0, lfs, toInt_int, toBool_bool, toStr_str, xs_list, nil_list, fst_pair, snd_pair, List.length_map, Option.bind_some, nb_same, cond_true, cond_false, decide_true, decide_false, eq_false (show ¬ v < 0 by omega), eq_false (show ¬ v ≥ 1000000000 by omega), if_false, wrap_of (x := v + 1) (by omega) (by omega)]
  rfl
theorem len_count : ∀ {l : List Sp} {e : Int}, Sp.Chk e l → (l.length : Int) ≤ Sp.countR l
  | [], _, _ => Int.le_refl _
  | s :: t, e, ⟨h1, h2, h3, h4⟩ => by
    have := len_count h4
    show ((t.length + 1 : Nat) : Int) ≤ (s.f1 - s.f0) + Sp.countR t
    omega
theorem set_len {l : List Int} {r : List Sp} (hn : l.Nodup) (hb : ∀ x ∈ l, 0 ≤ x ∧ x < 1000000000) (h : Sp.IsSet (Sp.mem (vsp l)) r) : r.length ≤ l.length := by
  have h1 := len_count h.chk
  rw [Sp.count_card (by omega) h.chk, Sp.card_congr (g := fun x => decide (x ∈ l)) (fun i hi => by
    rw [h.mem_, mem_vsp, decide_eq_true (show (0 : Int) ≤ i by omega), decide_eq_true (show (i : Int) < 1000000000 by omega)]; rfl), card_list _ l hn (fun x hx => by have := hb x hx; omega)] at h1
  omega
theorem rvers_told (m : Mf) (hm : MfS m) (hr : Rise (-1) (vs m.rls)) (hlen : m.rls.length ≤ 30) : ∃ q r, f22_v [eM m] = some (0, [LS q r]) ∧ Sp.IsSet (Sp.mem (vsp (vs m.rls))) r := by
  have loop : ∀ d i : Nat, m.rls.length - i = d → i ≤ m.rls.length → ∀ (q : Bool) (out : List Sp), Sp.IsSet (Sp.mem (vsp ((vs m.rls).take i))) out →
      ∃ q' r, Lp (d + 1) f22_s58 [I (i : Int), eM m, LS q out] (0, [LS q' r]) ∧ Sp.IsSet (Sp.mem (vsp (vs m.rls))) r := by
    intro d
    induction d with
    | zero =>
      intro i hd hi q out ho
      have e : i = m.rls.length := by omega
      subst e
      refine ⟨q, out, Lp.done fun K => ?_, ?_⟩
      · simp only [f22_s58, Tree.run, Bool.cond_decide, eM]
        simp only [Tree.run, lf0, lfs, toInt_int, toBool_bool, toStr_str, xs_list, nil_list, fst_pair, snd_pair, List.length_map, Option.bind_some, nb_same, cond_true, cond_false, decide_true, decide_false, eq_false (show ¬ (m.rls.length : Int) < m.rls.length by omega), if_false]
      · rwa [List.take_of_length_le (by simp [vs])] at ho
    | succ d ih =>
      intro i hd hi q out ho
      have hi' : i < m.rls.length := by omega
      have hv := vs_in hr hi'
      have hsub : ((vs m.rls).take i).Sublist (vs m.rls) := List.take_sublist _ _
      have hlo := set_len ((hr.pw.imp (by intro a b h; omega)).sublist hsub) (fun x hx => by have := hr.gt x (hsub.mem hx); omega) ho
      have hlo2 : ((vs m.rls).take i).length ≤ i := List.length_take_le _ _
      obtain ⟨q2, r2, h2, hk⟩ := Sp.runion_told q false out [⟨(m.rls.getD i rl0).ver, (m.rls.getD i rl0).ver + 1⟩] (by omega) (by simp)
      have h2 : f41_v [.list q (out.map eS), .list false ([⟨(m.rls.getD i rl0).ver, (m.rls.getD i rl0).ver + 1⟩].map eS)] = some (0, [.list q2 (r2.map eS)]) := h2
      have ht : (vs m.rls).take (i + 1) = (vs m.rls).take i ++ [(m.rls.getD i rl0).ver] := by
        rw [List.take_succ_eq_append_getElem (by simp [vs]; omega), getD_at hi']; simp [vs]
      have hs2 : Sp.IsSet (Sp.mem (vsp ((vs m.rls).take (i + 1)))) r2 := by
        refine hk.set.congr fun p h0 h1 => ?_
        rw [ho.mem_, mem_vsp, mem_vsp, ht, Sp.mem_one, Bool.eq_iff_iff]
        simp only [Sp.KUnion, Bool.or_eq_true, Bool.and_eq_true, decide_eq_true_eq, List.mem_append, List.mem_singleton]
        constructor
        · rintro (h | h)
          · exact .inl h.2
          · right; omega
        · rintro (h | h)
          · exact .inl ⟨⟨h0, h1⟩, h⟩
          · right; omega
      obtain ⟨q3, r3, h3, hs3⟩ := ih (i + 1) (by omega) (by omega) q2 r2 hs2
      refine ⟨q3, r3, Lp.next (fun K => ?_) h3, hs3⟩
      simp only [f22_s58, Tree.run, Bool.cond_decide, eM]
      simp only [Tree.run, lf0, lfs, toInt_int, toBool_bool, toStr_str, xs_list, nil_list, fst_pair, snd_pair, List.length_map, Option.bind_some, nb_same, cond_true, cond_false, decide_true, decide_false, eq_true (show (i : Int) < m.rls.length by omega), if_true, inb_nat hi', Int.toNat_natCast, rdR hi', wrap_succ i (by omega), one_told _ hv.1 hv.2, h2]
  obtain ⟨q, r, h, hs⟩ := loop m.rls.length 0 rfl (Nat.zero_le _) true [] ⟨trivial, fun p => by simp [vsp, Sp.mem]⟩
  refine ⟨q, r, ?_, hs⟩
  have h' := h.fuel (by omega)
  simp only [f22_v, f22_t, Tree.run, Bool.cond_decide]
  simp only [lf0, lfs]
  rw [show loopT f22_s58 FUEL [.int .i64 (0 : Int), eM m, .list true []] = _ from h']
  simp only [Tree.run, lf0, lfs, toInt_int, toBool_bool, toStr_str, xs_list, nil_list, fst_pair, snd_pair, List.length_map, Option.bind_some, nb_same, cond_true, cond_false, decide_true, decide_false]
/-! ### the versions in a set, as the document has them -/
theorem rdown_told (m : Mf) (hm : MfS m) (hr : Rise (-1) (vs m.rls)) (n : Bool) (inn : List Sp) (hi : inn.length ≤ 100000) : ∃ b, f27_v [eM m, LS n inn] = some (0, [.list b ((dn (vs m.rls) inn).map I)]) := by
  have hl := hm.2.1
  have loop : ∀ k : Nat, k ≤ m.rls.length → ∀ (b : Bool) (out : List Int), out.length ≤ m.rls.length - k →
      ∃ b', Lp (k + 1) f27_s58 [LS n inn, I ((k : Int) - 1), eM m, .list b (out.map I)] (0, [.list b' ((out ++ ((vs m.rls).take k).reverse.filter fun v => Sp.mem inn v).map I)]) := by
    intro k
    induction k with
    | zero =>
      intro _ b out ho
      refine ⟨b, Lp.done fun K => ?_⟩
      simp only [f27_s58, Tree.run, Bool.cond_decide, eM]
      simp only [Tree.run, lf0, lfs, toInt_int, toBool_bool, toStr_str, xs_list, nil_list, fst_pair, snd_pair, List.length_map, Option.bind_some, nb_same, cond_true, cond_false, decide_true, decide_false, eq_false (show ¬ ((0 : Nat) : Int) - 1 ≥ 0 by omega), if_false, List.take_zero, List.reverse_nil, List.filter_nil, List.append_nil]
    | succ k ih =>
      intro hk b out ho
      have hk' : k < m.rls.length := by omega
      have hv := vs_in hr hk'
      have hh := Sp.rhas_told n inn (m.rls.getD k rl0).ver (by omega)
      rw [decide_eq_true hv.1, decide_eq_true hv.2, Bool.true_and, Bool.true_and] at hh
      have hh : f45_v [.list n (inn.map eS), I (m.rls.getD k rl0).ver] = some (0, [.bool (Sp.mem inn (m.rls.getD k rl0).ver)]) := hh
      have ht : (vs m.rls).take (k + 1) = (vs m.rls).take k ++ [(m.rls.getD k rl0).ver] := by
        rw [List.take_succ_eq_append_getElem (by simp [vs]; omega), getD_at hk']; simp [vs]
      have e1 : (((k + 1 : Nat) : Int) - 1) = (k : Int) := by omega
      have e2 : IntKind.i64.wrap ((k : Int) - 1) = (k : Int) - 1 := wrap_of (by omega) (by omega)
      rw [ht, List.reverse_append, List.reverse_singleton, List.singleton_append, List.filter_cons, e1]
      cases hmm : Sp.mem inn (m.rls.getD k rl0).ver with
      | true =>
        rw [hmm] at hh
        obtain ⟨b', h⟩ := ih (by omega) (b && false) (out ++ [(m.rls.getD k rl0).ver]) (by simp; omega)
        refine ⟨b', ?_⟩
        rw [if_pos rfl, List.append_cons]
        refine Lp.next (fun K => ?_) h
        simp only [f27_s58, Tree.run, Bool.cond_decide, eM]
        simp only [Tree.run, lf0, lfs, toInt_int, toBool_bool, toStr_str, xs_list, nil_list, fst_pair, snd_pair, List.length_map, Option.bind_some, nb_same, cond_true, cond_false, decide_true, decide_false, eq_true (show (k : Int) ≥ 0 by omega), if_true, inb_nat hk', Int.toNat_natCast, rdR hk', hh, e2, eq_true (show (out.length + 1) * 8 ≤ 140737488355328 by omega), List.map_append, List.map_cons, List.map_nil]
      | false =>
        rw [hmm] at hh
        obtain ⟨b', h⟩ := ih (by omega) b out (by omega)
        refine ⟨b', ?_⟩
        rw [if_neg (by simp)]
        refine Lp.next (fun K => ?_) h
        simp only [f27_s58, Tree.run, Bool.cond_decide, eM]
        simp only [Tree.run, lf0, lfs, toInt_int, toBool_bool, toStr_str, xs_list, nil_list, fst_pair, snd_pair, List.length_map, Option.bind_some, nb_same, cond_true, cond_false, decide_true, decide_false, eq_true (show (k : Int) ≥ 0 by omega), if_true, inb_nat hk', Int.toNat_natCast, rdR hk', hh, e2]
  obtain ⟨b', h⟩ := loop m.rls.length (Nat.le_refl _) true [] (by simp)
  have h' := h.fuel (by omega)
  rw [List.take_of_length_le (by simp [vs]), List.nil_append] at h'
  refine ⟨b', ?_⟩
  simp only [f27_v, f27_t, Tree.run, Bool.cond_decide, eM]
  simp only [Tree.run, lf0, lfs, toInt_int, toBool_bool, toStr_str, xs_list, nil_list, fst_pair, snd_pair, List.length_map, Option.bind_some, nb_same, cond_true, cond_false, decide_true, decide_false, wrap_of (x := (m.rls.length : Int) - 1) (by omega) (by omega)]
  rw [show loopT f27_s58 FUEL [LS n inn, .int .i64 ((m.rls.length : Int) - 1), .pair (.str m.nm) (.pair (LR m.rn m.rls) .unit), .list true []] = _ from h']
  simp only [Tree.run, lf0, lfs, toInt_int, toBool_bool, toStr_str, xs_list, nil_list, fst_pair, snd_pair, List.length_map, Option.bind_some, nb_same, cond_true, cond_false, decide_true, decide_false, dn]
theorem ints_told (a b : Bool) (l : List Int) (hl : l.length < 1000000) : f26_v [.list a (l.map I), .list b (l.map I)] = some (0, [.bool true]) := by
  have h := loop_scan (step := f26_s58) (st := fun i => [.list a (l.map I), .list b (l.map I), I (i : Int)]) (y1 := (1, [])) (bad := fun _ => none) l.length (by omega) (fun i hi K => by
    have hrd : rd (l.map I) i = I (l.getD i 0) := rd_map I l 0 hi
    simp only [f26_s58, Tree.run, Bool.cond_decide]
    simp only [Tree.run, lf0, lfs, toInt_int, toBool_bool, toStr_str, xs_list, nil_list, fst_pair, snd_pair, List.length_map, Option.bind_some, nb_same, cond_true, cond_false, decide_true, decide_false, eq_true (show (i : Int) < l.length by omega), if_true, inb_nat hi, Int.toNat_natCast, hrd, wrap_succ i (by omega), bne_self_eq_false]) (fun K => by
    simp only [f26_s58, Tree.run, Bool.cond_decide]
    simp only [Tree.run, lf0, lfs, toInt_int, toBool_bool, toStr_str, xs_list, nil_list, fst_pair, snd_pair, List.length_map, Option.bind_some, nb_same, cond_true, cond_false, decide_true, decide_false, eq_false (show ¬ (l.length : Int) < l.length by omega), if_false])
  rw [fs_none _ _ (fun _ _ => rfl)] at h
  simp only [f26_v, f26_t, Tree.run, Bool.cond_decide]
  simp only [Tree.run, lf0, lfs, toInt_int, toBool_bool, toStr_str, xs_list, nil_list, fst_pair, snd_pair, List.length_map, Option.bind_some, nb_same, cond_true, cond_false, decide_true, decide_false, bne_self_eq_false]
  rw [show loopT f26_s58 FUEL [.list a (l.map I), .list b (l.map I), .int .i64 (0 : Int)] = _ from h]
  rfl
theorem names2_told (a b : Bool) (l : List BA) (hl : l.length < 1000000) : f23_v [.list a (l.map P.str), .list b (l.map P.str)] = some (0, [.bool true]) := by
  have h := loop_scan (step := f23_s58) (st := fun i => [.list a (l.map P.str), .list b (l.map P.str), I (i : Int)]) (y1 := (1, [])) (bad := fun _ => none) l.length (by omega) (fun i hi K => by
    have hrd : rd (l.map P.str) i = .str (l.getD i .empty) := rd_map P.str l .empty hi
    simp only [f23_s58, Tree.run, Bool.cond_decide]
    simp only [Tree.run, lf0, lfs, toInt_int, toBool_bool, toStr_str, xs_list, nil_list, fst_pair, snd_pair, List.length_map, Option.bind_some, nb_same, cond_true, cond_false, decide_true, decide_false, eq_true (show (i : Int) < l.length by omega), if_true, inb_nat hi, Int.toNat_natCast, hrd, wrap_succ i (by omega), strEq_refl, Bool.not_true]) (fun K => by
    simp only [f23_s58, Tree.run, Bool.cond_decide]
    simp only [Tree.run, lf0, lfs, toInt_int, toBool_bool, toStr_str, xs_list, nil_list, fst_pair, snd_pair, List.length_map, Option.bind_some, nb_same, cond_true, cond_false, decide_true, decide_false, eq_false (show ¬ (l.length : Int) < l.length by omega), if_false])
  rw [fs_none _ _ (fun _ _ => rfl)] at h
  simp only [f23_v, f23_t, Tree.run, Bool.cond_decide]
  simp only [Tree.run, lf0, lfs, toInt_int, toBool_bool, toStr_str, xs_list, nil_list, fst_pair, snd_pair, List.length_map, Option.bind_some, nb_same, cond_true, cond_false, decide_true, decide_false, bne_self_eq_false]
  rw [show loopT f23_s58 FUEL [.list a (l.map P.str), .list b (l.map P.str), .int .i64 (0 : Int)] = _ from h]
  rfl
end Go.Proofs.Ytihenfpnilliiaa.Mn
