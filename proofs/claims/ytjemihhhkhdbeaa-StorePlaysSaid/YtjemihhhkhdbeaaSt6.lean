/- Stores: what the reference's functions tell; Learned; About. Conditions: none but those each states. -/
import Derived.Test.YtjemihhhkhdbeaaSt5
set_option linter.unusedVariables false
set_option linter.unusedSimpArgs false
namespace Go.Proofs.Ytjemihhhkhdbeaa.Mn
open Go Go.Eng
theorem inb_ix {q : P → Bool} {L : List P} {n m : Nat} (h : n ≤ m) : ∀ p ∈ ixs q L n, inb p.toInt m = true := fun p hp => by
  obtain ⟨j, h1, rfl⟩ := ixs_mem hp
  exact inb_nat (by omega)
/-- Those that live, and were learned. -/
def llB (p : P) : Bool := livB p && lrB p
theorem learned_told (L a u : P) (hL : L.xs.length ≤ 1000) : ∃ t b, (t = 0 ∨ t = 1) ∧ f35_1_v [L, a, u] = some (t, [.list b (ixs llB L.xs L.xs.length), .list L.isNil L.xs, a, u]) := by
  obtain ⟨b, hlive⟩ := live_told L a u hL
  rw [live_all] at hlive
  have hlen := ixs_len livB L.xs L.xs.length
  have hfil : (ixs livB L.xs L.xs.length).filter (fun p => !delL L.xs p) = ixs llB L.xs L.xs.length := by
    have h := ixs_filter livB lrB L.xs L.xs.length
    rw [show (fun p => !delL L.xs p) = (fun p => lrB (rd L.xs p.toInt.toNat)) from funext fun p => by simp only [delL, lrB, Bool.not_not]]
    exact h
  have hd := delL_del (ixs livB L.xs L.xs.length) b (.list L.isNil L.xs) a u (inb_ix (Nat.le_refl _)) (by omega)
  simp only [xs_list, nil_list, hfil] at hd
  rcases hd with ⟨hd, he⟩ | ⟨w, ys, h1, hd⟩
  · refine ⟨1, b, .inr rfl, ?_⟩
    simp only [f35_1_v, f35_1_t, Tree.run, Bool.cond_decide]
    have hlive' := hlive
    simp only [Tree.run, lf0, lfs, toInt_int, toBool_bool, toStr_str, xs_list, nil_list, fst_pair, snd_pair, List.length_map, Option.bind_some, nb_same, cond_true, cond_false, decide_true, decide_false, show f23_v [.list L.isNil L.xs, a, u] = _ from hlive']
    rw [hd]
    simp only [Tree.run, lf0, lfs, toInt_int, toBool_bool, toStr_str, xs_list, nil_list, fst_pair, snd_pair, List.length_map, Option.bind_some, nb_same, cond_true, cond_false, decide_true, decide_false, he]
  · refine ⟨0, b, .inl rfl, ?_⟩
    simp only [f35_1_v, f35_1_t, Tree.run, Bool.cond_decide]
    simp only [Tree.run, lf0, lfs, toInt_int, toBool_bool, toStr_str, xs_list, nil_list, fst_pair, snd_pair, List.length_map, Option.bind_some, nb_same, cond_true, cond_false, decide_true, decide_false, show f23_v [.list L.isNil L.xs, a, u] = _ from hlive]
    rw [hd]
    simp only [Tree.run, lf0, lfs, toInt_int, toBool_bool, toStr_str, xs_list, nil_list, fst_pair, snd_pair, List.length_map, Option.bind_some, nb_same, cond_true, cond_false, decide_true, decide_false, show Nat.beq 1 0 = false from rfl, Int.toNat_zero, Int.toNat_natCast, h1]
theorem cloneI_told (l : P) (hl : l.xs.length ≤ 1000000) : f116_v [l] = some (0, [.list l.isNil (bif l.isNil then [] else l.xs)]) := by
  simp only [f116_v, f116_t, f116_s1, Tree.run, Bool.cond_decide]
  simp only [Tree.run, lf0, lfs, toInt_int, toBool_bool, toStr_str, xs_list, nil_list, fst_pair, snd_pair, List.length_map, Option.bind_some, nb_same, cond_true, cond_false, decide_true, decide_false]
  cases hb : l.isNil with
  | true => simp only [Tree.run, lf0, lfs, toInt_int, toBool_bool, toStr_str, xs_list, nil_list, fst_pair, snd_pair, List.length_map, Option.bind_some, nb_same, cond_true, cond_false, decide_true, decide_false]
  | false => simp only [Tree.run, lf0, lfs, toInt_int, toBool_bool, toStr_str, xs_list, nil_list, fst_pair, snd_pair, List.length_map, Option.bind_some, nb_same, cond_true, cond_false, decide_true, decide_false, eq_true (show (0 + l.xs.length) * 8 ≤ 140737488355328 by omega), if_true]
/-- Has a clash a term of a name? -/
def hasC (s : BA) (c : P) : Bool := c.xs.any fun t => decide (t.fst.toStr = s)
def hasB (s : BA) (p : P) : Bool := hasC s p.fst
def abB (s : BA) (p : P) : Bool := hasB s p && livB p
/-- What is about the names. -/
def AbL (L : List P) (a : P) : Prop := ∀ s : BA, (lookP .str (.str s) (.list true []) a.xs).xs = ixs (hasB s) L L.length ∧ ((lookP .str (.str s) (.list true []) a.xs).isNil = true → (lookP .str (.str s) (.list true []) a.xs).xs = [])
theorem about_told (L a u : P) (s : BA) (hL : L.xs.length ≤ 1000) (ha : AbL L.xs a) : ∃ t b, (t = 0 ∨ t = 1) ∧ f36_1_v [L, a, u, .str s] = some (t, [.list b (ixs (abB s) L.xs L.xs.length), .list L.isNil L.xs, a, u]) := by
  obtain ⟨ha1, ha2⟩ := ha s
  generalize hl : lookP .str (.str s) (.list true []) a.xs = l at ha1 ha2
  have hlen := ixs_len (hasB s) L.xs L.xs.length
  have hcl := cloneI_told l (by rw [ha1]; omega)
  have hcl' : (bif l.isNil then ([] : List P) else l.xs) = ixs (hasB s) L.xs L.xs.length := by
    cases hb : l.isNil with
    | true => rw [cond_true, ← ha1, ha2 hb]
    | false => rw [cond_false, ha1]
  rw [hcl'] at hcl
  have hfil : (ixs (hasB s) L.xs L.xs.length).filter (fun p => !delA L.xs p) = ixs (abB s) L.xs L.xs.length := by
    have h := ixs_filter (hasB s) livB L.xs L.xs.length
    rw [show (fun p => !delA L.xs p) = (fun p => livB (rd L.xs p.toInt.toNat)) from funext fun p => by simp only [delA, livB]]
    exact h
  have hd := delA_del (ixs (hasB s) L.xs L.xs.length) l.isNil (.list L.isNil L.xs) a u (inb_ix (Nat.le_refl _)) (by omega)
  simp only [xs_list, nil_list, hfil] at hd
  rcases hd with ⟨hd, he⟩ | ⟨w, ys, h1, hd⟩
  · refine ⟨1, l.isNil, .inr rfl, ?_⟩
    simp only [f36_1_v, f36_1_t, Tree.run, Bool.cond_decide]
    simp only [Tree.run, lf0, lfs, toInt_int, toBool_bool, toStr_str, xs_list, nil_list, fst_pair, snd_pair, List.length_map, Option.bind_some, nb_same, cond_true, cond_false, decide_true, decide_false, hl, hcl]
    rw [hd]
    simp only [Tree.run, lf0, lfs, toInt_int, toBool_bool, toStr_str, xs_list, nil_list, fst_pair, snd_pair, List.length_map, Option.bind_some, nb_same, cond_true, cond_false, decide_true, decide_false, he]
  · refine ⟨0, l.isNil, .inl rfl, ?_⟩
    simp only [f36_1_v, f36_1_t, Tree.run, Bool.cond_decide]
    simp only [Tree.run, lf0, lfs, toInt_int, toBool_bool, toStr_str, xs_list, nil_list, fst_pair, snd_pair, List.length_map, Option.bind_some, nb_same, cond_true, cond_false, decide_true, decide_false, hl, hcl]
    rw [hd]
    simp only [Tree.run, lf0, lfs, toInt_int, toBool_bool, toStr_str, xs_list, nil_list, fst_pair, snd_pair, List.length_map, Option.bind_some, nb_same, cond_true, cond_false, decide_true, decide_false, show Nat.beq 1 0 = false from rfl, Int.toNat_zero, Int.toNat_natCast, h1]
/-! ### the reference -/
theorem rlen {L : List P} {r : Bool} (q : P → Bool) (i : Nat) (hi : i < 1000) : ((ixs q L i).length + 1) * 8 ≤ 140737488355328 := by
  have := ixs_len q L i; omega
theorem rlive_told (x : P) (hL : x.fst.xs.length ≤ 1000) : ∃ b, f38_v [x] = some (0, [.list b (ixs livB x.fst.xs x.fst.xs.length)]) := by
  obtain ⟨b, _, lp⟩ := loop_inv (step := f38_s58) (β := Bool) (fun i b => True) (fun i b => [I (i : Int), x, .list b (ixs livB x.fst.xs i)]) (fun b => (0, [.list b (ixs livB x.fst.xs x.fst.xs.length)])) x.fst.xs.length (by omega) (fun i b hi _ => by
    have hs := ixs_succ livB x.fst.xs i
    have hl := rlen (L := x.fst.xs) (r := true) livB i (by omega)
    cases hg : (rd x.fst.xs i).snd.snd.snd.fst.toBool with
    | true =>
      refine ⟨b, trivial, fun K => ?_⟩
      simp only [livB, hg, Bool.not_true, Bool.false_eq_true, if_false, List.append_nil] at hs
      simp only [f38_s58, Tree.run, Bool.cond_decide]
      simp only [Tree.run, lf0, lfs, toInt_int, toBool_bool, toStr_str, xs_list, nil_list, fst_pair, snd_pair, List.length_map, Option.bind_some, nb_same, cond_true, cond_false, decide_true, decide_false, eq_true (show (i : Int) < x.fst.xs.length by omega), if_true, inb_nat hi, Int.toNat_natCast, hg, Bool.not_true, wrap_succ i (by omega)]
      rw [show ixs livB x.fst.xs (i + 1) = ixs livB x.fst.xs i from hs]
    | false =>
      refine ⟨false, trivial, fun K => ?_⟩
      simp only [livB, hg, Bool.not_false, if_true] at hs
      simp only [f38_s58, Tree.run, Bool.cond_decide]
      simp only [Tree.run, lf0, lfs, toInt_int, toBool_bool, toStr_str, xs_list, nil_list, fst_pair, snd_pair, List.length_map, Option.bind_some, nb_same, cond_true, cond_false, decide_true, decide_false, eq_true (show (i : Int) < x.fst.xs.length by omega), if_true, inb_nat hi, Int.toNat_natCast, hg, Bool.not_false, eq_true hl, Bool.and_false, wrap_succ i (by omega)]
      rw [show ixs livB x.fst.xs (i + 1) = ixs livB x.fst.xs i ++ [I (i : Int)] from hs]) (fun b _ K => by
    simp only [f38_s58, Tree.run, Bool.cond_decide]
    simp only [Tree.run, lf0, lfs, toInt_int, toBool_bool, toStr_str, xs_list, nil_list, fst_pair, snd_pair, List.length_map, Option.bind_some, nb_same, cond_true, cond_false, decide_true, decide_false, eq_false (show ¬ (x.fst.xs.length : Int) < x.fst.xs.length by omega), if_false]) true trivial
  refine ⟨b, ?_⟩
  simp only [f38_v, f38_t, Tree.run, Bool.cond_decide]
  rw [show loopT f38_s58 FUEL [.int .i64 0, lf [x] 0, .list true []] = _ from lp]
  simp only [Tree.run, lf0, lfs, toInt_int, toBool_bool, toStr_str, xs_list, nil_list, fst_pair, snd_pair, List.length_map, Option.bind_some, nb_same, cond_true, cond_false, decide_true, decide_false]
theorem rlearned_told (x : P) (hL : x.fst.xs.length ≤ 1000) : ∃ b, f39_v [x] = some (0, [.list b (ixs llB x.fst.xs x.fst.xs.length)]) := by
  obtain ⟨b, _, lp⟩ := loop_inv (step := f39_s58) (β := Bool) (fun i b => True) (fun i b => [I (i : Int), x, .list b (ixs llB x.fst.xs i)]) (fun b => (0, [.list b (ixs llB x.fst.xs x.fst.xs.length)])) x.fst.xs.length (by omega) (fun i b hi _ => by
    have hs := ixs_succ llB x.fst.xs i
    have hl := rlen (L := x.fst.xs) (r := true) llB i (by omega)
    cases hg : (rd x.fst.xs i).snd.snd.snd.fst.toBool with
    | true =>
      refine ⟨b, trivial, fun K => ?_⟩
      simp only [llB, livB, hg, Bool.not_true, Bool.false_and, Bool.false_eq_true, if_false, List.append_nil] at hs
      simp only [f39_s58, Tree.run, Bool.cond_decide]
      simp only [Tree.run, lf0, lfs, toInt_int, toBool_bool, toStr_str, xs_list, nil_list, fst_pair, snd_pair, List.length_map, Option.bind_some, nb_same, cond_true, cond_false, decide_true, decide_false, eq_true (show (i : Int) < x.fst.xs.length by omega), if_true, inb_nat hi, Int.toNat_natCast, hg, Bool.not_true, wrap_succ i (by omega)]
      rw [show ixs llB x.fst.xs (i + 1) = ixs llB x.fst.xs i from hs]
    | false =>
      cases hr : (rd x.fst.xs i).snd.snd.fst.toBool with
      | true =>
        refine ⟨false, trivial, fun K => ?_⟩
        simp only [llB, livB, lrB, hg, hr, Bool.not_false, Bool.and_self, if_true] at hs
        simp only [f39_s58, Tree.run, Bool.cond_decide]
        simp only [Tree.run, lf0, lfs, toInt_int, toBool_bool, toStr_str, xs_list, nil_list, fst_pair, snd_pair, List.length_map, Option.bind_some, nb_same, cond_true, cond_false, decide_true, decide_false, eq_true (show (i : Int) < x.fst.xs.length by omega), if_true, inb_nat hi, Int.toNat_natCast, hg, hr, Bool.not_false, eq_true hl, Bool.and_false, wrap_succ i (by omega)]
        rw [show ixs llB x.fst.xs (i + 1) = ixs llB x.fst.xs i ++ [I (i : Int)] from hs]
      | false =>
        refine ⟨b, trivial, fun K => ?_⟩
        simp only [llB, livB, lrB, hg, hr, Bool.and_false, Bool.false_eq_true, if_false, List.append_nil] at hs
        simp only [f39_s58, Tree.run, Bool.cond_decide]
        simp only [Tree.run, lf0, lfs, toInt_int, toBool_bool, toStr_str, xs_list, nil_list, fst_pair, snd_pair, List.length_map, Option.bind_some, nb_same, cond_true, cond_false, decide_true, decide_false, eq_true (show (i : Int) < x.fst.xs.length by omega), if_true, inb_nat hi, Int.toNat_natCast, hg, hr, Bool.not_false, wrap_succ i (by omega)]
        rw [show ixs llB x.fst.xs (i + 1) = ixs llB x.fst.xs i from hs]) (fun b _ K => by
    simp only [f39_s58, Tree.run, Bool.cond_decide]
    simp only [Tree.run, lf0, lfs, toInt_int, toBool_bool, toStr_str, xs_list, nil_list, fst_pair, snd_pair, List.length_map, Option.bind_some, nb_same, cond_true, cond_false, decide_true, decide_false, eq_false (show ¬ (x.fst.xs.length : Int) < x.fst.xs.length by omega), if_false]) true trivial
  refine ⟨b, ?_⟩
  simp only [f39_v, f39_t, Tree.run, Bool.cond_decide]
  rw [show loopT f39_s58 FUEL [.int .i64 0, lf [x] 0, .list true []] = _ from lp]
  simp only [Tree.run, lf0, lfs, toInt_int, toBool_bool, toStr_str, xs_list, nil_list, fst_pair, snd_pair, List.length_map, Option.bind_some, nb_same, cond_true, cond_false, decide_true, decide_false]
theorem find_told (c : P) (s : BA) (hc : c.xs.length ≤ 1000000) : ∃ r, f118_v [c, .str s] = some (0, [r, .bool (hasC s c)]) := by
  have lp := idx_loop (step := f118_s26) (fun t => decide (t.fst.toStr = s)) c.xs (fun i => [c, .str s, I (i : Int), .pair (.str .empty) (.pair (.list true []) (.pair (.bool false) .unit))]) (fun i => (0, [.bool true, rd c.xs i])) (1, [.str s, .pair (.str .empty) (.pair (.list true []) (.pair (.bool false) .unit))]) (by omega) (fun i hi K => by
    have he : strEq (rd c.xs i).fst.toStr s = decide ((rd c.xs i).fst.toStr = s) := by
      rw [Bool.eq_iff_iff, strEq_iff, decide_eq_true_iff]
    simp only [f118_s26, Tree.run, Bool.cond_decide]
    simp only [Tree.run, lf0, lfs, toInt_int, toBool_bool, toStr_str, xs_list, nil_list, fst_pair, snd_pair, List.length_map, Option.bind_some, nb_same, cond_true, cond_false, decide_true, decide_false, eq_true (show (i : Int) < c.xs.length by omega), if_true, inb_nat hi, Int.toNat_natCast, he, wrap_succ i (by omega)]
    cases decide ((rd c.xs i).fst.toStr = s) <;> rfl) (fun K => by
    simp only [f118_s26, Tree.run, Bool.cond_decide]
    simp only [Tree.run, lf0, lfs, toInt_int, toBool_bool, toStr_str, xs_list, nil_list, fst_pair, snd_pair, List.length_map, Option.bind_some, nb_same, cond_true, cond_false, decide_true, decide_false, eq_false (show ¬ (c.xs.length : Int) < c.xs.length by omega), if_false])
  rcases lp with ⟨h1, lp⟩ | ⟨i, h1, h2, h3, lp⟩
  · have hh : hasC s c = false := by
      unfold hasC
      rw [List.any_eq_false]
      intro t ht
      obtain ⟨i, hi, rfl⟩ := List.mem_iff_getElem.1 ht
      have := h1 i hi
      rw [rd_getD, List.getD_eq_getElem?_getD, List.getElem?_eq_getElem hi, Option.getD_some] at this
      rw [this]; simp
    simp only [f118_v, f118_t, f118_s1, f87_v, f87_t, Tree.run, Bool.cond_decide]
    rw [show loopT f118_s26 FUEL [lf [lf [c, .str s] 0, lf [c, .str s] 1] 0, lf [lf [c, .str s] 0, lf [c, .str s] 1] 1, .int .i64 0, .pair (.str .empty) (.pair (.list true []) (.pair (.bool false) .unit))] = _ from lp]
    simp only [Tree.run, lf0, lfs, toInt_int, toBool_bool, toStr_str, xs_list, nil_list, fst_pair, snd_pair, List.length_map, Option.bind_some, nb_same, cond_true, cond_false, decide_true, decide_false, show Nat.beq 1 0 = false from rfl, hh]
    exact ⟨_, rfl⟩
  · have hh : hasC s c = true := by
      unfold hasC
      rw [List.any_eq_true]
      exact ⟨_, rd_in h1, h3⟩
    simp only [f118_v, f118_t, f118_s1, Tree.run, Bool.cond_decide]
    rw [show loopT f118_s26 FUEL [lf [lf [c, .str s] 0, lf [c, .str s] 1] 0, lf [lf [c, .str s] 0, lf [c, .str s] 1] 1, .int .i64 0, .pair (.str .empty) (.pair (.list true []) (.pair (.bool false) .unit))] = _ from lp]
    simp only [Tree.run, lf0, lfs, toInt_int, toBool_bool, toStr_str, xs_list, nil_list, fst_pair, snd_pair, List.length_map, Option.bind_some, nb_same, cond_true, cond_false, decide_true, decide_false, hh]
    exact ⟨_, rfl⟩
theorem rabout_told (x : P) (s : BA) (hL : x.fst.xs.length ≤ 1000) (hx : ∀ p ∈ x.fst.xs, p.fst.xs.length ≤ 1000) : ∃ b, f40_v [x, .str s] = some (0, [.list b (ixs (abB s) x.fst.xs x.fst.xs.length)]) := by
  obtain ⟨b, _, lp⟩ := loop_inv (step := f40_s58) (β := Bool) (fun i b => True) (fun i b => [.str s, I (i : Int), x, .list b (ixs (abB s) x.fst.xs i)]) (fun b => (0, [.list b (ixs (abB s) x.fst.xs x.fst.xs.length)])) x.fst.xs.length (by omega) (fun i b hi _ => by
    have hs := ixs_succ (abB s) x.fst.xs i
    have hl := rlen (L := x.fst.xs) (r := true) (abB s) i (by omega)
    obtain ⟨r, hf⟩ := find_told (rd x.fst.xs i).fst s (by have := hx _ (rd_in hi); omega)
    cases hg : (rd x.fst.xs i).snd.snd.snd.fst.toBool with
    | true =>
      refine ⟨b, trivial, fun K => ?_⟩
      simp only [abB, livB, hg, Bool.not_true, Bool.and_false, Bool.false_eq_true, if_false, List.append_nil] at hs
      simp only [f40_s58, Tree.run, Bool.cond_decide]
      simp only [Tree.run, lf0, lfs, toInt_int, toBool_bool, toStr_str, xs_list, nil_list, fst_pair, snd_pair, List.length_map, Option.bind_some, nb_same, cond_true, cond_false, decide_true, decide_false, eq_true (show (i : Int) < x.fst.xs.length by omega), if_true, inb_nat hi, Int.toNat_natCast, hf, hg, Bool.not_true, wrap_succ i (by omega)]
      rw [show ixs (abB s) x.fst.xs (i + 1) = ixs (abB s) x.fst.xs i from hs]
    | false =>
      cases hr : hasC s (rd x.fst.xs i).fst with
      | true =>
        refine ⟨false, trivial, fun K => ?_⟩
        simp only [abB, livB, hasB, hg, hr, Bool.not_false, Bool.and_self, if_true] at hs
        simp only [f40_s58, Tree.run, Bool.cond_decide]
        simp only [Tree.run, lf0, lfs, toInt_int, toBool_bool, toStr_str, xs_list, nil_list, fst_pair, snd_pair, List.length_map, Option.bind_some, nb_same, cond_true, cond_false, decide_true, decide_false, eq_true (show (i : Int) < x.fst.xs.length by omega), if_true, inb_nat hi, Int.toNat_natCast, hf, hg, hr, Bool.not_false, eq_true hl, Bool.and_false, wrap_succ i (by omega)]
        rw [show ixs (abB s) x.fst.xs (i + 1) = ixs (abB s) x.fst.xs i ++ [I (i : Int)] from hs]
      | false =>
        refine ⟨b, trivial, fun K => ?_⟩
        simp only [abB, livB, hasB, hg, hr, Bool.false_and, Bool.false_eq_true, if_false, List.append_nil] at hs
        simp only [f40_s58, Tree.run, Bool.cond_decide]
        simp only [Tree.run, lf0, lfs, toInt_int, toBool_bool, toStr_str, xs_list, nil_list, fst_pair, snd_pair, List.length_map, Option.bind_some, nb_same, cond_true, cond_false, decide_true, decide_false, eq_true (show (i : Int) < x.fst.xs.length by omega), if_true, inb_nat hi, Int.toNat_natCast, hf, hg, hr, Bool.not_false, wrap_succ i (by omega)]
        rw [show ixs (abB s) x.fst.xs (i + 1) = ixs (abB s) x.fst.xs i from hs]) (fun b _ K => by
    simp only [f40_s58, Tree.run, Bool.cond_decide]
    simp only [Tree.run, lf0, lfs, toInt_int, toBool_bool, toStr_str, xs_list, nil_list, fst_pair, snd_pair, List.length_map, Option.bind_some, nb_same, cond_true, cond_false, decide_true, decide_false, eq_false (show ¬ (x.fst.xs.length : Int) < x.fst.xs.length by omega), if_false]) true trivial
  refine ⟨b, ?_⟩
  simp only [f40_v, f40_t, Tree.run, Bool.cond_decide]
  rw [show loopT f40_s58 FUEL [lf [x, .str s] 1, .int .i64 0, lf [x, .str s] 0, .list true []] = _ from lp]
  simp only [Tree.run, lf0, lfs, toInt_int, toBool_bool, toStr_str, xs_list, nil_list, fst_pair, snd_pair, List.length_map, Option.bind_some, nb_same, cond_true, cond_false, decide_true, decide_false]
theorem ints_told (a b : P) (h : a.xs = b.xs) (hl : a.xs.length ≤ 1000) : f37_v [a, b] = some (0, [.bool true]) := by
  rw [h] at hl
  have hne : ((b.xs.length : Int) != (b.xs.length : Int)) = false := by simp
  have hn : ((List.range' 0 b.xs.length).findSome? fun _ => (none : Option (Nat × List P))) = none := by simp
  have lp := loop_scan (step := f37_s58) (st := fun i => [a, b, I (i : Int)]) (y1 := (1, [])) (bad := fun _ => none) b.xs.length (by omega) (fun i hi K => by
    have he : ((rd b.xs i).toInt != (rd b.xs i).toInt) = false := by simp
    simp only [f37_s58, Tree.run, Bool.cond_decide]
    simp only [Tree.run, lf0, lfs, toInt_int, toBool_bool, toStr_str, xs_list, nil_list, fst_pair, snd_pair, List.length_map, Option.bind_some, nb_same, cond_true, cond_false, decide_true, decide_false, h, eq_true (show (i : Int) < b.xs.length by omega), if_true, inb_nat hi, Int.toNat_natCast, he, wrap_succ i (by omega)]) (fun K => by
    simp only [f37_s58, Tree.run, Bool.cond_decide]
    simp only [Tree.run, lf0, lfs, toInt_int, toBool_bool, toStr_str, xs_list, nil_list, fst_pair, snd_pair, List.length_map, Option.bind_some, nb_same, cond_true, cond_false, decide_true, decide_false, h, eq_false (show ¬ (b.xs.length : Int) < b.xs.length by omega), if_false])
  rw [hn] at lp
  simp only [f37_v, f37_t, Tree.run, Bool.cond_decide]
  simp only [Tree.run, lf0, lfs, toInt_int, toBool_bool, toStr_str, xs_list, nil_list, fst_pair, snd_pair, List.length_map, Option.bind_some, nb_same, cond_true, cond_false, decide_true, decide_false, h, hne]
  rw [show loopT f37_s58 FUEL [a, b, .int .i64 0] = _ from lp]
  rfl
end Go.Proofs.Ytjemihhhkhdbeaa.Mn
