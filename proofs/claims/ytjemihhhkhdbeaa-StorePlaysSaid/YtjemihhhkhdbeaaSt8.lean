/- The law StorePlays, plainly. Conditions: the arguments have the forms of their types. -/
import Derived.Test.YtjemihhhkhdbeaaSt7
set_option linter.unusedVariables false
set_option linter.unusedSimpArgs false
namespace Go.Proofs.Ytjemihhhkhdbeaa.Mn
open Go Go.Eng
abbrev doSh : Sh := .pair .bool (.pair (.int .i64) (.pair (.slice tmSh) (.pair .bool .unit)))
theorem loop_done {step : List P → Tree Step} {ls : List P} {y : Nat × List P} (h : ∀ K : Step → Option (Nat × List P), (step ls).run K = K (.inr y)) : loopT step FUEL ls = some y := (Lp.done (k := 0) h).fuel (by omega)
/-- What is put in may be looked at. -/
structure Df (d : P) : Prop where
  sm : Sm d.snd.snd.fst
  cf : Cf d.snd.snd.fst
theorem df_of {l : P} (hl : Cn (.slice doSh) l) (h : l24 l = false) : l.xs.length ≤ 60 ∧ ∀ d ∈ l.xs, Df d := by
  unfold l24 at h
  simp only [Bool.or_eq_false_iff, decide_eq_false_iff_not, List.any_eq_false] at h
  obtain ⟨n, xs, rfl, h1, h2⟩ := hl
  refine ⟨by omega, fun d hd => ⟨l19_sm (by simpa using h.2 d hd), ?_⟩⟩
  obtain ⟨_, _, rfl, _, _, _, rfl, _, c, _, rfl, hc, _⟩ := h2 d hd
  exact cf_of hc
/-- An item that was put in. -/
def It (p : P) : Prop := ∃ c n lr g, p = item c n lr g ∧ Sm c ∧ Cf c
theorem it_gone {p : P} (h : It p) : It (goneP p) := by
  obtain ⟨c, n, lr, g, rfl, h1, h2⟩ := h
  exact ⟨c, n, lr, true, rfl, h1, h2⟩
theorem plays1 (l name u : P) (hl : l.xs.length ≤ 60) (hd : ∀ d ∈ l.xs, Df d) :
    ∃ (L : List P) (nb xb : Bool) (a : P), L.length ≤ 60 ∧ (∀ p ∈ L, It p) ∧ AbL L a ∧
      loopT f5_s250 FUEL [l, name, I 0, u, .pair (.list true []) .unit, .list true [], .list false []] = some (1, [name, u, .pair (.list xb L) .unit, .list nb L, a]) := by
  obtain ⟨b, ⟨h1, h2, h3⟩, lp⟩ := loop_inv (step := f5_s250) (β := List P × Bool × Bool × P) (fun i b => b.1.length ≤ i ∧ (∀ p ∈ b.1, It p) ∧ AbL b.1 b.2.2.2)
    (fun i b => [l, name, I (i : Int), u, .pair (.list b.2.2.1 b.1) .unit, .list b.2.1 b.1, b.2.2.2]) (fun b => (1, [name, u, .pair (.list b.2.2.1 b.1) .unit, .list b.2.1 b.1, b.2.2.2])) l.xs.length (by omega) (by
      rintro i ⟨L, nb, xb, a⟩ hi ⟨g1, g2, g3⟩
      simp only at g1 g2 g3
      have hm := rd_in hi
      have hf := hd _ hm
      cases hdr : (rd l.xs i).fst.toBool with
      | true =>
        have e1 := drop_told (.list nb L) a u (rd l.xs i).snd.fst (by simp only [xs_list]; omega)
        obtain ⟨b', e2⟩ := rdrop_told xb L .unit (rd l.xs i).snd.fst (by omega)
        simp only [xs_list, nil_list] at e1
        have hbe : ∀ q : Bool, (!(q == q)) = false := fun q => by cases q <;> rfl
        cases hdb : dropB L (rd l.xs i).snd.fst.toInt with
        | false =>
          rw [hdb] at e1 e2
          refine ⟨(L, nb, b', a), ⟨by show L.length ≤ i + 1; omega, g2, g3⟩, fun K => ?_⟩
          simp only [f5_s250, Tree.run, Bool.cond_decide]
          simp only [Tree.run, lf0, lfs, toInt_int, toBool_bool, toStr_str, xs_list, nil_list, fst_pair, snd_pair, List.length_map, Option.bind_some, nb_same, cond_true, cond_false, decide_true, decide_false, eq_true (show (i : Int) < l.xs.length by omega), if_true, inb_nat hi, Int.toNat_natCast, hdr, e1, e2, hbe, wrap_succ i (by omega)]
        | true =>
          rw [hdb] at e1 e2
          have hin : (rd l.xs i).snd.fst.toInt.toNat < L.length := by
            unfold dropB at hdb
            rw [Bool.and_eq_true, decide_eq_true_iff] at hdb
            omega
          refine ⟨(L.set (rd l.xs i).snd.fst.toInt.toNat (goneP (rd L (rd l.xs i).snd.fst.toInt.toNat)), nb, b', a), ⟨by show (L.set _ _).length ≤ i + 1; rw [List.length_set]; omega, fun p hp => ?_, ab_drop g3 hin⟩, fun K => ?_⟩
          · rcases List.mem_or_eq_of_mem_set hp with h | h
            · exact g2 p h
            · rw [h]; exact it_gone (g2 _ (rd_in hin))
          · simp only [f5_s250, Tree.run, Bool.cond_decide]
            simp only [Tree.run, lf0, lfs, toInt_int, toBool_bool, toStr_str, xs_list, nil_list, fst_pair, snd_pair, List.length_map, Option.bind_some, nb_same, cond_true, cond_false, decide_true, decide_false, eq_true (show (i : Int) < l.xs.length by omega), if_true, inb_nat hi, Int.toNat_natCast, hdr, e1, e2, hbe, wrap_succ i (by omega)]
      | false =>
        obtain ⟨b, hb, hr⟩ := check19_rise (rd l.xs i).snd.snd.fst hf.sm (fun t ht => (hf.cf.tms t ht).str)
        cases b with
        | false =>
          refine ⟨(L, nb, xb, a), ⟨by show L.length ≤ i + 1; omega, g2, g3⟩, fun K => ?_⟩
          simp only [f5_s250, Tree.run, Bool.cond_decide]
          simp only [Tree.run, lf0, lfs, toInt_int, toBool_bool, toStr_str, xs_list, nil_list, fst_pair, snd_pair, List.length_map, Option.bind_some, nb_same, cond_true, cond_false, decide_true, decide_false, eq_true (show (i : Int) < l.xs.length by omega), if_true, inb_nat hi, Int.toNat_natCast, hdr, hb, Bool.not_false, wrap_succ i (by omega)]
        | true =>
          obtain ⟨a', q1, q2⟩ := add_told2 (.list nb L) a u (rd l.xs i).snd.snd.fst (rd l.xs i).snd.fst (rd l.xs i).snd.snd.snd.fst hf.sm hf.cf (hr rfl) (by simp only [xs_list]; omega) g3
          obtain ⟨b', q3⟩ := radd_told xb L .unit (rd l.xs i).snd.snd.fst (rd l.xs i).snd.fst (rd l.xs i).snd.snd.snd.fst (by omega)
          have hit : P.pair (rd l.xs i).snd.snd.fst (.pair (rd l.xs i).snd.fst (.pair (rd l.xs i).snd.snd.snd.fst (.pair (.bool false) .unit))) = item (rd l.xs i).snd.snd.fst (rd l.xs i).snd.fst (rd l.xs i).snd.snd.snd.fst false := by
            unfold item; rw [hf.cf.eta]
          rw [hit] at q3
          simp only [xs_list] at q1 q2
          have hne : ((L.length : Int) != (L.length : Int)) = false := by simp
          refine ⟨(L ++ [item (rd l.xs i).snd.snd.fst (rd l.xs i).snd.fst (rd l.xs i).snd.snd.snd.fst false], false, b', a'), ⟨by simp; omega, fun p hp => ?_, q1⟩, fun K => ?_⟩
          · rcases List.mem_append.1 hp with h | h
            · exact g2 p h
            · rw [List.mem_singleton.1 h]; exact ⟨_, _, _, _, rfl, hf.sm, hf.cf⟩
          · simp only [f5_s250, Tree.run, Bool.cond_decide]
            simp only [Tree.run, lf0, lfs, toInt_int, toBool_bool, toStr_str, xs_list, nil_list, fst_pair, snd_pair, List.length_map, Option.bind_some, nb_same, cond_true, cond_false, decide_true, decide_false, eq_true (show (i : Int) < l.xs.length by omega), if_true, inb_nat hi, Int.toNat_natCast, hdr, hb, Bool.not_true, q2, q3, hne, wrap_succ i (by omega)]) (by
      rintro ⟨L, nb, xb, a⟩ _ K
      simp only [f5_s250, Tree.run, Bool.cond_decide]
      simp only [Tree.run, lf0, lfs, toInt_int, toBool_bool, toStr_str, xs_list, nil_list, fst_pair, snd_pair, List.length_map, Option.bind_some, nb_same, cond_true, cond_false, decide_true, decide_false, eq_false (show ¬ (l.xs.length : Int) < l.xs.length by omega), if_false]) ([], true, true, .list false []) ⟨Nat.le_refl _, (fun d h => by cases h), fun s => ⟨rfl, fun _ => rfl⟩⟩
  obtain ⟨L, nb, xb, a⟩ := b
  exact ⟨L, nb, xb, a, by simp only at h1; omega, h2, h3, lp⟩
theorem get_out (L a u d : P) (hL : L.xs.length ≤ 1000) (h : ¬ (0 ≤ d.toInt ∧ d.toInt < L.xs.length)) :
    f21_v [L, a, u, d] = some (0, [.list true [], .pair (I 0) (.pair (.bool false) (.pair (.bool false) .unit)), .bool false, .list L.isNil L.xs, a, u]) := by
  simp only [f21_v, f21_t, f21_s1, Tree.run, Bool.cond_decide]
  by_cases h1 : d.toInt < 0
  · simp only [Tree.run, lf0, lfs, toInt_int, toBool_bool, toStr_str, xs_list, nil_list, fst_pair, snd_pair, List.length_map, Option.bind_some, nb_same, cond_true, cond_false, decide_true, decide_false, eq_true h1, if_true]
  · simp only [Tree.run, lf0, lfs, toInt_int, toBool_bool, toStr_str, xs_list, nil_list, fst_pair, snd_pair, List.length_map, Option.bind_some, nb_same, cond_true, cond_false, decide_true, decide_false, eq_false h1, if_false, len_told, eq_true (show d.toInt ≥ L.xs.length by omega), if_true]
theorem plays2 (name u a : P) (L : List P) (nb xb : Bool) (hL : L.length ≤ 60) (hd : ∀ p ∈ L, It p) :
    loopT f5_s506 FUEL [name, I (-1), u, .pair (.list xb L) .unit, .list nb L, a] = some (1, [name, u, .pair (.list xb L) .unit, .list nb L, a]) := by
  have hbe : ∀ q : Bool, (!(q == q)) = false := fun q => by cases q <;> rfl
  have hbi : ∀ q : Int, (q != q) = false := fun q => by simp
  have lp := loop_scan (step := f5_s506) (st := fun k => [name, I ((k : Int) - 1), u, .pair (.list xb L) .unit, .list nb L, a]) (y1 := (1, [name, u, .pair (.list xb L) .unit, .list nb L, a])) (bad := fun _ => none) (L.length + 2) (by omega) (fun k hk K => by
    have hw : IntKind.i64.wrap ((k : Int) - 1 + 1) = ((k + 1 : Nat) : Int) - 1 := by
      rw [wrap_of (by omega) (by omega)]; omega
    by_cases hin : 0 ≤ (k : Int) - 1 ∧ (k : Int) - 1 < (L.length : Int)
    · obtain ⟨j, rfl⟩ : ∃ j, k = j + 1 := ⟨k - 1, by omega⟩
      have hj : j < L.length := by omega
      have hk1 : ((j + 1 : Nat) : Int) - 1 = (j : Int) := by omega
      obtain ⟨c, n, lr, g, he, hs, hc⟩ := hd _ (rd_in hj)
      have e1 := get_told (.list nb L) a u c n lr g j (by simp only [xs_list]; omega) (by simp only [xs_list]; omega) he hs hc
      have e2 := rget_told (.pair (.list xb L) .unit) (I (j : Int))
      rw [if_pos (show 0 ≤ (I (j : Int)).toInt ∧ (I (j : Int)).toInt < (((P.pair (.list xb L) .unit).fst.xs.length : Nat) : Int) from ⟨by show (0 : Int) ≤ j; omega, by show (j : Int) < L.length; omega⟩)] at e2
      have e3 := same19_told c.isNil (.list c.isNil c.xs) ⟨hs.len, hs.sp⟩
      simp only [fst_pair, xs_list, nil_list, toInt_int, Int.toNat_natCast, he] at e1 e2 e3
      rw [hk1] at hw
      simp only [f5_s506, Tree.run, Bool.cond_decide]
      simp only [Tree.run, lf0, lfs, toInt_int, toBool_bool, toStr_str, xs_list, nil_list, fst_pair, snd_pair, List.length_map, Option.bind_some, nb_same, cond_true, cond_false, decide_true, decide_false, hk1, eq_true (show (j : Int) ≤ L.length by omega), if_true, e1, e2, hbe, item, e3, hbi, Bool.not_true, hw]
    · have e1 := get_out (.list nb L) a u (I ((k : Int) - 1)) (by simp only [xs_list]; omega) hin
      have e2 := rget_told (.pair (.list xb L) .unit) (I ((k : Int) - 1))
      rw [if_neg (show ¬ (0 ≤ (I ((k : Int) - 1)).toInt ∧ (I ((k : Int) - 1)).toInt < (((P.pair (.list xb L) .unit).fst.xs.length : Nat) : Int)) from hin)] at e2
      have e3 := same19_told true (.list true []) sm_nil
      simp only [fst_pair, xs_list, nil_list] at e1 e2 e3
      simp only [f5_s506, Tree.run, Bool.cond_decide]
      simp only [Tree.run, lf0, lfs, toInt_int, toBool_bool, toStr_str, xs_list, nil_list, fst_pair, snd_pair, List.length_map, Option.bind_some, nb_same, cond_true, cond_false, decide_true, decide_false, eq_true (show (k : Int) - 1 ≤ L.length by omega), if_true, e1, e2, hbe, e3, hbi, Bool.not_true, hw]) (fun K => by
    simp only [f5_s506, Tree.run, Bool.cond_decide]
    simp only [Tree.run, lf0, lfs, toInt_int, toBool_bool, toStr_str, xs_list, nil_list, fst_pair, snd_pair, List.length_map, Option.bind_some, nb_same, cond_true, cond_false, decide_true, decide_false, eq_false (show ¬ ((L.length + 2 : Nat) : Int) - 1 ≤ L.length by omega), if_false])
  have hn : ((List.range' 0 (L.length + 2)).findSome? fun _ => (none : Option (Nat × List P))) = none := by simp
  rw [hn] at lp
  exact lp
theorem zlen : f34_1_v [.nilp] = some (0, [I 0]) := rfl
theorem zget : f21_1_v [.nilp, .int .i64 0] = some (0, [.pair (I 0) (.pair (.bool false) (.pair (.bool false) .unit)), .bool false]) := by
  simp only [f21_1_v, f21_1_t, Tree.run, Bool.cond_decide]
  simp only [Tree.run, lf0, lfs, toInt_int, toBool_bool, toStr_str, xs_list, nil_list, fst_pair, snd_pair, List.length_map, Option.bind_some, nb_same, cond_true, cond_false, decide_true, decide_false, eq_false (show ¬ (0 : Int) < 0 by omega), if_false, zlen, eq_true (show (0 : Int) ≥ 0 by omega), if_true]
theorem zadd (c n lr : P) : f19_1_v [.nilp, c, n, lr] = some (0, [I (-1)]) := rfl
theorem zdrop : f20_1_v [.nilp, .int .i64 0] = some (0, [.bool false]) := by
  simp only [f20_1_v, f20_1_t, Tree.run, Bool.cond_decide]
  simp only [Tree.run, lf0, lfs, toInt_int, toBool_bool, toStr_str, xs_list, nil_list, fst_pair, snd_pair, List.length_map, Option.bind_some, nb_same, cond_true, cond_false, decide_true, decide_false, eq_false (show ¬ (0 : Int) < 0 by omega), if_false, zlen, eq_true (show (0 : Int) ≥ 0 by omega), if_true]
theorem zlive : f23_1_v [.nilp] = some (0, [.list true []]) := by
  have lp : loopT f23_1_s58 FUEL [.nilp, .list true [], .int .i64 0, .int .i64 0] = some (0, [.list true []]) := loop_done fun K => by
    simp only [f23_1_s58, Tree.run, Bool.cond_decide]
    simp only [Tree.run, lf0, lfs, toInt_int, toBool_bool, toStr_str, xs_list, nil_list, fst_pair, snd_pair, List.length_map, Option.bind_some, nb_same, cond_true, cond_false, decide_true, decide_false, eq_false (show ¬ (0 : Int) < 0 by omega), if_false]
  simp only [f23_1_v, f23_1_t, Tree.run, Bool.cond_decide]
  simp only [Tree.run, lf0, lfs, toInt_int, toBool_bool, toStr_str, xs_list, nil_list, fst_pair, snd_pair, List.length_map, Option.bind_some, nb_same, cond_true, cond_false, decide_true, decide_false, zlen, lp]
theorem zidx : f169_v [.list true [], .nilp, .unit] = some (0, [I (-1), .nilp]) := by
  have lp : loopT f169_s26 FUEL [.list true [], .unit, .int .i64 0, .int .i64 0, .nilp] = some (0, [.unit, .nilp]) := loop_done fun K => by
    simp only [f169_s26, Tree.run, Bool.cond_decide]
    simp only [Tree.run, lf0, lfs, toInt_int, toBool_bool, toStr_str, xs_list, nil_list, fst_pair, snd_pair, List.length_map, Option.bind_some, nb_same, cond_true, cond_false, decide_true, decide_false, eq_false (show ¬ (0 : Int) < 0 by omega), if_false]
  simp only [f169_v, f169_t, Tree.run, Bool.cond_decide]
  simp only [Tree.run, lf0, lfs, toInt_int, toBool_bool, toStr_str, xs_list, nil_list, fst_pair, snd_pair, List.length_map, Option.bind_some, nb_same, cond_true, cond_false, decide_true, decide_false, List.length_nil, Int.natCast_zero, Int.ofNat_zero, lp]
theorem zdel : f114_v [.list true [], .nilp, .unit] = some (0, [.nilp]) := by
  simp only [f114_v, f114_t, Tree.run, Bool.cond_decide]
  simp only [Tree.run, lf0, lfs, toInt_int, toBool_bool, toStr_str, xs_list, nil_list, fst_pair, snd_pair, List.length_map, Option.bind_some, nb_same, cond_true, cond_false, decide_true, decide_false, zidx, beq_self_eq_true]
theorem zlearned : f35_v [.nilp] = some (0, [.list true []]) := by
  simp only [f35_v, f35_t, Tree.run, Bool.cond_decide]
  simp only [Tree.run, lf0, lfs, toInt_int, toBool_bool, toStr_str, xs_list, nil_list, fst_pair, snd_pair, List.length_map, Option.bind_some, nb_same, cond_true, cond_false, decide_true, decide_false, zlive, zdel]
end Go.Proofs.Ytjemihhhkhdbeaa.Mn
namespace Go.Proofs.Ytjemihhhkhdbeaa
open Go Go.Eng Mn
theorem storePlays_pure {x0 x1 : P} (h0 : Cn (.slice doSh) x0) (h1 : Cn .str x1) : f5_v [x0, x1] = some (0, [.bool true]) := by
  obtain ⟨s, rfl⟩ := h1
  simp only [f5_v, f5_t, Tree.run, Bool.cond_decide]
  simp only [Tree.run, lf0, lfs, toInt_int, toBool_bool, toStr_str, xs_list, nil_list, fst_pair, snd_pair, List.length_map, Option.bind_some, nb_same, cond_true, cond_false, decide_true, decide_false, large24_told]
  cases hl : l24 x0 with
  | true => simp only [Tree.run, lf0, lfs, toInt_int, toBool_bool, toStr_str, xs_list, nil_list, fst_pair, snd_pair, List.length_map, Option.bind_some, nb_same, cond_true, cond_false, decide_true, decide_false, awake24_told]
  | false =>
    by_cases hd : (s.size : Int) > 200
    · simp only [Tree.run, lf0, lfs, toInt_int, toBool_bool, toStr_str, xs_list, nil_list, fst_pair, snd_pair, List.length_map, Option.bind_some, nb_same, cond_true, cond_false, decide_true, decide_false, eq_true hd, if_true, awake24_told]
    · obtain ⟨g1, g2⟩ := df_of h0 hl
      obtain ⟨L, nb, xb, a, k1, k2, k3, k4⟩ := plays1 x0 (.str s) .unit g1 g2
      have k5 := plays2 (.str s) .unit a L nb xb k1 k2
      have w0 : IntKind.i64.wrap ((0 : Int) + 0) = 0 := wrap_of (by omega) (by omega)
      have hx : ∀ p ∈ L, p.fst.xs.length ≤ 1000 := fun p hp => by
        obtain ⟨c, n, lr, g, rfl, hs, _⟩ := k2 p hp
        have := hs.len
        show c.xs.length ≤ 1000; omega
      obtain ⟨b1, v1⟩ := live_told (.list nb L) a .unit (by simp only [xs_list]; omega)
      rw [live_all] at v1
      obtain ⟨b2, v2⟩ := rlive_told (.pair (.list xb L) .unit) (by show L.length ≤ 1000; omega)
      obtain ⟨t3, b3, ht3, v3⟩ := learned_told (.list nb L) a .unit (by simp only [xs_list]; omega)
      obtain ⟨b4, v4⟩ := rlearned_told (.pair (.list xb L) .unit) (by show L.length ≤ 1000; omega)
      obtain ⟨t5, b5, ht5, v5⟩ := about_told (.list nb L) a .unit s (by simp only [xs_list]; omega) k3
      obtain ⟨b6, v6⟩ := rabout_told (.pair (.list xb L) .unit) s (by show L.length ≤ 1000; omega) hx
      simp only [xs_list, nil_list, fst_pair] at v1 v2 v3 v4 v5 v6
      have i1 := ints_told (.list b1 (ixs livB L L.length)) (.list b2 (ixs livB L L.length)) rfl (by simp only [xs_list]; have := ixs_len livB L L.length; omega)
      have i2 := ints_told (.list b3 (ixs llB L L.length)) (.list b4 (ixs llB L L.length)) rfl (by simp only [xs_list]; have := ixs_len llB L L.length; omega)
      have i3 := ints_told (.list b5 (ixs (abB s) L L.length)) (.list b6 (ixs (abB s) L L.length)) rfl (by simp only [xs_list]; have := ixs_len (abB s) L L.length; omega)
      have hln := len_told (.list nb L) a .unit
      simp only [xs_list] at hln
      simp only [Tree.run, lf0, lfs, toInt_int, toBool_bool, toStr_str, xs_list, nil_list, fst_pair, snd_pair, List.length_map, Option.bind_some, nb_same, cond_true, cond_false, decide_true, decide_false, eq_false hd, if_false, new_told]
      rw [show loopT f5_s250 FUEL [x0, .str s, .int .i64 0, .unit, .pair (.list true []) .unit, .list true [], .list false []] = _ from k4]
      simp only [Tree.run, lf0, lfs, toInt_int, toBool_bool, toStr_str, xs_list, nil_list, fst_pair, snd_pair, List.length_map, Option.bind_some, nb_same, cond_true, cond_false, decide_true, decide_false, nb_lt 1 0 (by omega)]
      rw [show loopT f5_s506 FUEL [.str s, .int .i64 (-1), .unit, .pair (.list xb L) .unit, .list nb L, a] = _ from k5]
      simp only [Tree.run, lf0, lfs, toInt_int, toBool_bool, toStr_str, xs_list, nil_list, fst_pair, snd_pair, List.length_map, Option.bind_some, nb_same, cond_true, cond_false, decide_true, decide_false, nb_lt 1 0 (by omega), zget, zadd, zdrop, zlen, zlive, zlearned, show f36_v [.nilp, .str s] = some (0, []) from rfl, bne_self_eq_false, List.length_nil, Int.natCast_zero, w0, hln, beq_self_eq_true, v1, v2, i1]
      rw [v3]
      rcases ht3 with rfl | rfl <;> rcases ht5 with rfl | rfl <;> simp only [Tree.run, lf0, lfs, toInt_int, toBool_bool, toStr_str, xs_list, nil_list, fst_pair, snd_pair, List.length_map, Option.bind_some, nb_same, cond_true, cond_false, decide_true, decide_false, nb_lt 1 0 (by omega), v4, i2, v5, v6, i3, awake24_told]
end Go.Proofs.Ytjemihhhkhdbeaa
