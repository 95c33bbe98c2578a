/- Turns: what the reference's functions tell. Conditions: none but those each states. -/
import Derived.Test.YtjemihhhkhdbeaaTv4
set_option linter.unusedVariables false
set_option linter.unusedSimpArgs false
namespace Go.Proofs.Ytjemihhhkhdbeaa.Mn
open Go Go.Eng
abbrev rq (Q : List P) (i : Nat) : List P := (rd Q i).xs
/-- The reference's things. -/
abbrev X (b : Bool) (Q : List P) (last r : P) : P := .pair (.list b Q) (.pair last r)
/-- The reference's queues are the program's. -/
structure Rl (xs Q : List P) (n : Nat) : Prop where
  len : Q.length = n
  eq : ∀ j, j < n → rq Q j = qu xs j
theorem Rl.set {xs Q : List P} {n i : Nat} {b f : Bool} {l : List P} (h : Rl xs Q n) (hx : xs.length = n) (hi : i < n) : Rl (putQ xs i f l) (Q.set i (.list b l)) n := by
  have hl := h.len
  refine ⟨by simpa using h.len, fun j hj => ?_⟩
  by_cases e : i = j
  · subst e; rw [putQ_same (by omega)]; show (rd (Q.set i (.list b l)) i).xs = l; rw [rd_set_eq (by omega)]; rfl
  · rw [putQ_other e]; show (rd (Q.set i (.list b l)) j).xs = _; rw [rd_set_ne e]; exact h.eq j hj
theorem put_told (b : Bool) (Q : List P) (y l : P) (c : Nat) (hc : c < Q.length) (hQ : Q.length ≤ 1000) :
    f121_1_v [.pair (.list b Q) y, I (c : Int), l] = some (0, [.list Q.isEmpty (Q.set c l), y]) := by
  simp only [f121_1_v, f121_1_t, Tree.run, Bool.cond_decide]
  simp only [Tree.run, lf0, lfs, toInt_int, toBool_bool, toStr_str, xs_list, nil_list, fst_pair, snd_pair, List.length_map, Option.bind_some, nb_same, cond_true, cond_false, decide_true, decide_false, eq_true (show (0 + Q.length) * 24 ≤ 140737488355328 by omega), if_true, inb_nat hc, Int.toNat_natCast]
theorem rat_told (b : Bool) (Q : List P) (y : P) (c : Nat) (hc : c < Q.length) : f122_v [.pair (.list b Q) y, I (c : Int)] = some (0, [rd Q c]) := by
  simp only [f122_v, f122_t, Tree.run, Bool.cond_decide]
  simp only [Tree.run, lf0, lfs, toInt_int, toBool_bool, toStr_str, xs_list, nil_list, fst_pair, snd_pair, List.length_map, Option.bind_some, nb_same, cond_true, cond_false, decide_true, decide_false, eq_false (show ¬ (c : Int) < 0 by omega), if_false, eq_false (show ¬ (c : Int) ≥ Q.length by omega), inb_nat hc, Int.toNat_natCast]
theorem rat_out (b : Bool) (Q : List P) (y c : P) (h : ¬ (0 ≤ c.toInt ∧ c.toInt < Q.length)) : f122_v [.pair (.list b Q) y, c] = some (0, [.list true []]) := by
  simp only [f122_v, f122_t, Tree.run, Bool.cond_decide]
  by_cases h1 : c.toInt < 0
  · simp only [Tree.run, lf0, lfs, toInt_int, toBool_bool, toStr_str, xs_list, nil_list, fst_pair, snd_pair, List.length_map, Option.bind_some, nb_same, cond_true, cond_false, decide_true, decide_false, eq_true h1, if_true]
  · simp only [Tree.run, lf0, lfs, toInt_int, toBool_bool, toStr_str, xs_list, nil_list, fst_pair, snd_pair, List.length_map, Option.bind_some, nb_same, cond_true, cond_false, decide_true, decide_false, eq_false h1, if_false, eq_true (show c.toInt ≥ Q.length by omega), if_true]
theorem rPush_out (b : Bool) (Q : List P) (y c s : P) (h : ¬ (0 ≤ c.toInt ∧ c.toInt < Q.length)) :
    f44_1_v [.pair (.list b Q) y, c, s] = some (0, [.bool false, .pair (.list b Q) y]) := by
  simp only [f44_1_v, f44_1_t, f44_1_s1, Tree.run, Bool.cond_decide]
  by_cases h1 : c.toInt < 0
  · simp only [Tree.run, lf0, lfs, toInt_int, toBool_bool, toStr_str, xs_list, nil_list, fst_pair, snd_pair, List.length_map, Option.bind_some, nb_same, cond_true, cond_false, decide_true, decide_false, eq_true h1, if_true]
  · simp only [Tree.run, lf0, lfs, toInt_int, toBool_bool, toStr_str, xs_list, nil_list, fst_pair, snd_pair, List.length_map, Option.bind_some, nb_same, cond_true, cond_false, decide_true, decide_false, eq_false h1, if_false, eq_true (show c.toInt ≥ Q.length by omega), if_true]
theorem rPush_told (b : Bool) (Q : List P) (y s : P) (c : Nat) (hc : c < Q.length) (hQ : Q.length ≤ 1000) (hq : (rq Q c).length ≤ 1000) :
    ∃ b' f, f44_1_v [.pair (.list b Q) y, I (c : Int), s] = some (0, [.bool (!inQ s (rq Q c)), .pair (.list b' (bif inQ s (rq Q c) then Q else Q.set c (.list f (rq Q c ++ [s])))) y]) := by
  have lp := idx_loop (step := f44_1_s122) (fun i => strEq s.toStr (rd (rq Q c) i).toStr) (rq Q c).length (fun i => [I (c : Int), s, I (i : Int), .pair (.list b Q) y, .list (decide (i = 0)) ((rq Q c).take i)])
    (fun i => (0, [.bool false, .pair (.list b Q) y])) (1, [I (c : Int), s, .pair (.list b Q) y, .list (decide ((rq Q c).length = 0)) (rq Q c)]) (by omega) (fun i hi K => by
    have hl : (((rq Q c).take i).length + 1) * 16 ≤ 140737488355328 := by rw [List.length_take]; omega
    have ht := take_snoc hi
    have hd : decide (i + 1 = 0) = false := by simp
    simp only [f44_1_s122, Tree.run, Bool.cond_decide]
    simp only [Tree.run, lf0, lfs, toInt_int, toBool_bool, toStr_str, xs_list, nil_list, fst_pair, snd_pair, List.length_map, Option.bind_some, nb_same, cond_true, cond_false, decide_true, decide_false, inb_nat hc, Int.toNat_natCast, eq_true (show (i : Int) < (rq Q c).length by omega), if_true, inb_nat hi, strEq_comm (rd (rq Q c) i).toStr s.toStr, eq_true hl, Bool.and_false, wrap_succ i (by omega), ht, hd]
    cases strEq s.toStr (rd (rq Q c) i).toStr <;> rfl) (fun K => by
    simp only [f44_1_s122, Tree.run, Bool.cond_decide]
    simp only [Tree.run, lf0, lfs, toInt_int, toBool_bool, toStr_str, xs_list, nil_list, fst_pair, snd_pair, List.length_map, Option.bind_some, nb_same, cond_true, cond_false, decide_true, decide_false, inb_nat hc, Int.toNat_natCast, eq_false (show ¬ ((rq Q c).length : Int) < (rq Q c).length by omega), if_false, List.take_length])
  rcases lp with ⟨h1, lp⟩ | ⟨i, h1, h2, h3, lp⟩
  · have hh : inQ s (rq Q c) = false := any_idx _ _ h1
    have hp := put_told b Q y (.list false (rq Q c ++ [s])) c hc hQ
    refine ⟨Q.isEmpty, false, ?_⟩
    simp only [f44_1_v, f44_1_t, f44_1_s1, Tree.run, Bool.cond_decide]
    simp only [Tree.run, lf0, lfs, toInt_int, toBool_bool, toStr_str, xs_list, nil_list, fst_pair, snd_pair, List.length_map, Option.bind_some, nb_same, cond_true, cond_false, decide_true, decide_false, eq_false (show ¬ (c : Int) < 0 by omega), if_false, eq_false (show ¬ (c : Int) ≥ Q.length by omega)]
    rw [show loopT f44_1_s122 FUEL [.int .i64 (c : Int), s, .int .i64 0, .pair (.list b Q) y, .list true []] = _ from lp]
    simp only [Tree.run, lf0, lfs, toInt_int, toBool_bool, toStr_str, xs_list, nil_list, fst_pair, snd_pair, List.length_map, Option.bind_some, nb_same, cond_true, cond_false, decide_true, decide_false, nb_ne (show 1 ≠ 0 by omega), eq_true (show ((rq Q c).length + 1) * 16 ≤ 140737488355328 by omega), if_true, Bool.and_false, hp, hh, Bool.not_false]
  · have hh : inQ s (rq Q c) = true := List.any_eq_true.2 ⟨_, rd_in h1, h3⟩
    refine ⟨b, false, ?_⟩
    simp only [f44_1_v, f44_1_t, f44_1_s1, Tree.run, Bool.cond_decide]
    simp only [Tree.run, lf0, lfs, toInt_int, toBool_bool, toStr_str, xs_list, nil_list, fst_pair, snd_pair, List.length_map, Option.bind_some, nb_same, cond_true, cond_false, decide_true, decide_false, eq_false (show ¬ (c : Int) < 0 by omega), if_false, eq_false (show ¬ (c : Int) ≥ Q.length by omega)]
    rw [show loopT f44_1_s122 FUEL [.int .i64 (c : Int), s, .int .i64 0, .pair (.list b Q) y, .list true []] = _ from lp]
    simp only [Tree.run, lf0, lfs, toInt_int, toBool_bool, toStr_str, xs_list, nil_list, fst_pair, snd_pair, List.length_map, Option.bind_some, nb_same, cond_true, cond_false, decide_true, decide_false, hh, Bool.not_true]
/-- The reference's last client. -/
def Lr (last : Int) (l n : Nat) : Prop := last = l ∨ (last = -1 ∧ l + 1 = n)
theorem rcyc_mod {n l i : Nat} {last : Int} (hr : Lr last l n) (hn : n ≤ 1000) (hl : l < n) (hi : i < n) : (IntKind.i64.wrap (last + ((i + 1 : Nat) : Int))).tmod (n : Int) = ((cyc n l i : Nat) : Int) := by
  rcases hr with rfl | ⟨rfl, h⟩
  · have := cyc_mod hn hl hi
    rw [wrap_succ l (by omega), wrap_add (l + 1) i (by omega)] at this
    rw [wrap_add l (i + 1) (by omega), show l + (i + 1) = l + 1 + i from by omega]
    exact this
  · rw [wrap_of (by omega) (by omega), show (-1 : Int) + ((i + 1 : Nat) : Int) = (i : Nat) from by omega]
    rw [Int.tmod_eq_emod_of_nonneg (by omega), ← Int.natCast_emod]
    congr 1
    unfold cyc
    rw [Nat.mod_eq_of_lt hi]; split <;> omega
theorem rPop_told (b : Bool) (Q : List P) (last : Int) (l : Nat) (r : P) (hr : Lr last l Q.length) (hn : Q.length ≤ 1000) (hl : l < Q.length) :
    ((∀ i, i < Q.length → rq Q (cyc Q.length l i) = []) ∧ f45_1_v [X b Q (I last) r] = some (0, [I 0, .str .empty, .bool false, X b Q (I last) r])) ∨
    ∃ i p q, i < Q.length ∧ (∀ j, j < i → rq Q (cyc Q.length l j) = []) ∧ rq Q (cyc Q.length l i) = p :: q ∧
      f45_1_v [X b Q (I last) r] = some (0, [I (cyc Q.length l i : Nat), p, .bool true, X Q.isEmpty (Q.set (cyc Q.length l i) (.list (rd Q (cyc Q.length l i)).isNil q)) (I (cyc Q.length l i : Nat)) r]) := by
  have lp := idx_loop (step := f45_1_s58) (fun i => decide (((rq Q (cyc Q.length l i)).length : Int) > 0)) Q.length (fun i => [I (Q.length : Int), I ((i + 1 : Nat) : Int), X b Q (I last) r])
    (fun i => (0, [I (cyc Q.length l i : Nat), (rq Q (cyc Q.length l i)).headD .unit, .bool true, .pair (I (cyc Q.length l i : Nat)) r, .list Q.isEmpty (Q.set (cyc Q.length l i) (.list (rd Q (cyc Q.length l i)).isNil (rq Q (cyc Q.length l i)).tail))]))
    (1, [X b Q (I last) r]) (by omega) (fun i hi K => by
    have hc := rcyc_mod hr hn hl hi
    have hlt := cyc_lt hl hi
    have h0 : ((Q.length : Int) == 0) = false := by rw [beq_eq_false_iff_ne]; omega
    have hle : ((i + 1 : Nat) : Int) ≤ (Q.length : Int) := by omega
    simp only [f45_1_s58, Tree.run, Bool.cond_decide]
    simp only [Tree.run, lf0, lfs, toInt_int, toBool_bool, toStr_str, xs_list, nil_list, fst_pair, snd_pair, List.length_map, Option.bind_some, nb_same, cond_true, cond_false, decide_true, decide_false, eq_true hle, if_true, h0, hc, inb_nat hlt, Int.toNat_natCast, wrap_succ (i + 1) (by omega)]
    by_cases hq : rq Q (cyc Q.length l i) = []
    · have hz : ¬ (((rq Q (cyc Q.length l i)).length : Int) > 0) := by rw [hq]; simp
      simp only [eq_false hz, if_false, decide_false, Bool.false_eq_true]
    · have hz : ((rq Q (cyc Q.length l i)).length : Int) > 0 := by
        have := List.length_pos_iff.2 hq; omega
      obtain ⟨p, q, hpq⟩ := List.exists_cons_of_ne_nil hq
      have hz2 : ((p :: q).length : Int) > 0 := by rw [hpq] at hz; exact hz
      have hin : inb 0 (p :: q).length = true := inb_nat (i := 0) (by simp)
      have h1 : (0 : Int) ≤ 1 ∧ (1 : Int) ≤ ((p :: q).length : Int) ∧ ((p :: q).length : Int) ≤ ((p :: q).length : Int) := by simp; omega
      have hp := put_told b Q (.pair (I last) r) (.list (rd Q (cyc Q.length l i)).isNil q) _ hlt hn
      have hdr : ((p :: q).take (p :: q).length).drop 1 = q := by rw [List.take_length]; rfl
      have hr0 : rd (p :: q) 0 = p := rfl
      simp only [hpq, eq_true hz, eq_true hz2, if_true, decide_true, hin, eq_true h1, hdr, hr0, hp, Tree.run, lf0, lfs, toInt_int, toBool_bool, toStr_str, xs_list, nil_list, fst_pair, snd_pair, List.length_map, Option.bind_some, nb_same, cond_true, cond_false, decide_true, decide_false, List.headD_cons, List.tail_cons]) (fun K => by
    simp only [f45_1_s58, Tree.run, Bool.cond_decide]
    simp only [Tree.run, lf0, lfs, toInt_int, toBool_bool, toStr_str, xs_list, nil_list, fst_pair, snd_pair, List.length_map, Option.bind_some, nb_same, cond_true, cond_false, decide_true, decide_false, eq_false (show ¬ ((Q.length + 1 : Nat) : Int) ≤ Q.length by omega), if_false])
  have he : ∀ i, decide (((rq Q (cyc Q.length l i)).length : Int) > 0) = false → rq Q (cyc Q.length l i) = [] := fun i h => by
    rw [decide_eq_false_iff_not] at h
    exact List.eq_nil_of_length_eq_zero (by omega)
  rcases lp with ⟨h1, lp⟩ | ⟨i, h1, h2, h3, lp⟩
  · refine .inl ⟨fun i hi => he i (h1 i hi), ?_⟩
    simp only [f45_1_v, f45_1_t, f45_1_s1, Tree.run, Bool.cond_decide]
    simp only [Tree.run, lf0, lfs, toInt_int, toBool_bool, toStr_str, xs_list, nil_list, fst_pair, snd_pair, List.length_map, Option.bind_some, nb_same, cond_true, cond_false, decide_true, decide_false]
    rw [show loopT f45_1_s58 FUEL [.int .i64 (Q.length : Int), .int .i64 1, X b Q (I last) r] = _ from lp]
    simp only [Tree.run, lf0, lfs, toInt_int, toBool_bool, toStr_str, xs_list, nil_list, fst_pair, snd_pair, List.length_map, Option.bind_some, nb_same, cond_true, cond_false, decide_true, decide_false, nb_ne (show 1 ≠ 0 by omega)]
  · cases hq : rq Q (cyc Q.length l i) with
    | nil => rw [hq] at h3; simp at h3
    | cons p q =>
      refine .inr ⟨i, p, q, h1, fun j hj => he j (h2 j hj), hq, ?_⟩
      simp only [hq, List.headD_cons, List.tail_cons] at lp
      simp only [f45_1_v, f45_1_t, f45_1_s1, Tree.run, Bool.cond_decide]
      simp only [Tree.run, lf0, lfs, toInt_int, toBool_bool, toStr_str, xs_list, nil_list, fst_pair, snd_pair, List.length_map, Option.bind_some, nb_same, cond_true, cond_false, decide_true, decide_false]
      rw [show loopT f45_1_s58 FUEL [.int .i64 (Q.length : Int), .int .i64 1, X b Q (I last) r] = _ from lp]
      simp only [Tree.run, lf0, lfs, toInt_int, toBool_bool, toStr_str, xs_list, nil_list, fst_pair, snd_pair, List.length_map, Option.bind_some, nb_same, cond_true, cond_false, decide_true, decide_false]
theorem rClear_out (b : Bool) (Q : List P) (y c : P) (h : ¬ (0 ≤ c.toInt ∧ c.toInt < Q.length)) :
    f46_1_v [.pair (.list b Q) y, c] = some (0, [I 0, .pair (.list b Q) y]) := by
  simp only [f46_1_v, f46_1_t, f46_1_s1, Tree.run, Bool.cond_decide]
  simp only [Tree.run, lf0, lfs, toInt_int, toBool_bool, toStr_str, xs_list, nil_list, fst_pair, snd_pair, List.length_map, Option.bind_some, nb_same, cond_true, cond_false, decide_true, decide_false, rat_out b Q y c h]; rfl
theorem rClear_told (b : Bool) (Q : List P) (y : P) (c : Nat) (hc : c < Q.length) (hQ : Q.length ≤ 1000) :
    ∃ b' Q', f46_1_v [.pair (.list b Q) y, I (c : Int)] = some (0, [I ((rq Q c).length : Int), .pair (.list b' Q') y]) ∧ Q'.length = Q.length ∧ rq Q' c = [] ∧ ∀ j, j ≠ c → rq Q' j = rq Q j := by
  have hp := put_told b Q y (.list true []) c hc hQ
  by_cases hz : ((rq Q c).length : Int) > 0
  · refine ⟨Q.isEmpty, Q.set c (.list true []), ?_, by simp, by show (rd (Q.set c (.list true [])) c).xs = []; rw [rd_set_eq hc]; rfl, fun j hj => by show (rd (Q.set c (.list true [])) j).xs = _; rw [rd_set_ne (fun e => hj e.symm)]⟩
    simp only [f46_1_v, f46_1_t, f46_1_s1, Tree.run, Bool.cond_decide]
    simp only [Tree.run, lf0, lfs, toInt_int, toBool_bool, toStr_str, xs_list, nil_list, fst_pair, snd_pair, List.length_map, Option.bind_some, nb_same, cond_true, cond_false, decide_true, decide_false, rat_told b Q y c hc, eq_true hz, if_true, hp]
  · refine ⟨b, Q, ?_, rfl, List.eq_nil_of_length_eq_zero (by omega), fun j _ => rfl⟩
    simp only [f46_1_v, f46_1_t, f46_1_s1, Tree.run, Bool.cond_decide]
    simp only [Tree.run, lf0, lfs, toInt_int, toBool_bool, toStr_str, xs_list, nil_list, fst_pair, snd_pair, List.length_map, Option.bind_some, nb_same, cond_true, cond_false, decide_true, decide_false, rat_told b Q y c hc, eq_false hz, if_false]
theorem rstr_loop (c : Nat) (s n0 : P) (b : Bool) (Q : List P) (y : P) (hc : c < Q.length) (hq : (rq Q c).length ≤ 1000) :
    ∃ f, loopT f47_1_s14922 FUEL [s, n0, I (c : Int), I 0, .pair (.list b Q) y, .list true []] = some (0, [s, n0, I (c : Int), .pair (.list b Q) y, .list f (keepQ s (rq Q c))]) := by
  obtain ⟨f, _, lp⟩ := loop_inv (step := f47_1_s14922) (β := Bool) (fun _ _ => True) (fun i f => [s, n0, I (c : Int), I (i : Int), .pair (.list b Q) y, .list f (keepQ s ((rq Q c).take i))]) (fun f => (0, [s, n0, I (c : Int), .pair (.list b Q) y, .list f (keepQ s (rq Q c))])) (rq Q c).length (by omega) (by
    intro i f hi _
    have hk : (keepQ s ((rq Q c).take i)).length ≤ i := Nat.le_trans (keep_len _ _) (List.length_take_le _ _)
    have ht : keepQ s ((rq Q c).take (i + 1)) = keepQ s ((rq Q c).take i) ++ (if isS s (rd (rq Q c) i) = true then [] else [rd (rq Q c) i]) := by
      unfold keepQ
      rw [take_snoc hi, List.filter_append]
      congr 1
      by_cases h : isS s (rd (rq Q c) i) = true <;> simp [h]
    have hcm : strEq (rd (rq Q c) i).toStr s.toStr = isS s (rd (rq Q c) i) := strEq_comm _ _
    cases he : isS s (rd (rq Q c) i) with
    | true =>
      refine ⟨f, trivial, fun K => ?_⟩
      rw [he] at hcm
      simp only [he, if_true, List.append_nil] at ht
      simp only [f47_1_s14922, Tree.run, Bool.cond_decide]
      simp only [Tree.run, lf0, lfs, toInt_int, toBool_bool, toStr_str, xs_list, nil_list, fst_pair, snd_pair, List.length_map, Option.bind_some, nb_same, cond_true, cond_false, decide_true, decide_false, inb_nat hc, Int.toNat_natCast, eq_true (show (i : Int) < (rq Q c).length by omega), if_true, inb_nat hi, hcm, Bool.not_true, wrap_succ i (by omega), ht]
    | false =>
      refine ⟨false, trivial, fun K => ?_⟩
      rw [he] at hcm
      simp only [he, Bool.false_eq_true, if_false] at ht
      simp only [f47_1_s14922, Tree.run, Bool.cond_decide]
      simp only [Tree.run, lf0, lfs, toInt_int, toBool_bool, toStr_str, xs_list, nil_list, fst_pair, snd_pair, List.length_map, Option.bind_some, nb_same, cond_true, cond_false, decide_true, decide_false, inb_nat hc, Int.toNat_natCast, eq_true (show (i : Int) < (rq Q c).length by omega), if_true, inb_nat hi, hcm, Bool.not_false, eq_true (show ((keepQ s ((rq Q c).take i)).length + 1) * 16 ≤ 140737488355328 by omega), Bool.and_false, wrap_succ i (by omega), ht]) (by
    intro f _ K
    simp only [f47_1_s14922, Tree.run, Bool.cond_decide]
    simp only [Tree.run, lf0, lfs, toInt_int, toBool_bool, toStr_str, xs_list, nil_list, fst_pair, snd_pair, List.length_map, Option.bind_some, nb_same, cond_true, cond_false, decide_true, decide_false, inb_nat hc, Int.toNat_natCast, eq_false (show ¬ ((rq Q c).length : Int) < (rq Q c).length by omega), if_false, List.take_length]) true trivial
  exact ⟨f, lp⟩
theorem rStrike_told (b : Bool) (Q xs : List P) (y s : P) (n m : Nat) (hr : Rl xs Q n) (hq : Tp xs n m) (hn : n ≤ 1000) (hm : m ≤ 1000) :
    ∃ b' Q', f47_1_v [.pair (.list b Q) y, s] = some (0, [I (cnt s xs n : Nat), .pair (.list b' Q') y]) ∧ Q'.length = n ∧ ∀ j, j < n → rq Q' j = keepQ s (qu xs j) := by
  obtain ⟨c, ⟨h1, h2, h3⟩, lp⟩ := loop_inv (step := f47_1_s58) (β := Bool × List P) (fun i c => c.2.length = n ∧ (∀ j, j < i → rq c.2 j = keepQ s (qu xs j)) ∧ (∀ j, i ≤ j → j < n → rq c.2 j = qu xs j))
    (fun i c => [s, I (cnt s xs i : Nat), I (i : Int), .pair (.list c.1 c.2) y]) (fun c => (0, [I (cnt s xs n : Nat), .pair (.list c.1 c.2) y])) n (by omega) (by
    rintro i ⟨b, Q⟩ hi ⟨g1, g2, g3⟩
    simp only at g1 g2 g3
    have hqi := g3 i (Nat.le_refl _) hi
    have hql := hq.ql i hi
    obtain ⟨f, lp⟩ := rstr_loop i s (I (cnt s xs i : Nat)) b Q y (by omega) (by rw [hqi]; omega)
    rw [hqi] at lp
    have hp := put_told b Q y (.list f (keepQ s (qu xs i))) i (by omega) (by omega)
    have hk := keep_len s (qu xs i)
    have hc := cnt_le (s := s) hq.uq i (by omega)
    have hw : IntKind.i64.wrap (IntKind.i64.wrap (((cnt s xs i : Nat) : Int) + ((rq Q i).length : Int)) - ((keepQ s (qu xs i)).length : Int)) = ((cnt s xs (i + 1) : Nat) : Int) := by
      rw [hqi, wrap_add _ _ (by omega), wrap_of (by omega) (by omega)]
      simp only [cnt]; omega
    refine ⟨(Q.isEmpty, Q.set i (.list f (keepQ s (qu xs i)))), ⟨by simpa using g1, fun j hj => ?_, fun j hj hjn => ?_⟩, fun K => ?_⟩
    · show (rd (Q.set i _) j).xs = _
      by_cases e : i = j
      · subst e; rw [rd_set_eq (by omega)]; rfl
      · rw [rd_set_ne e]; exact g2 j (by omega)
    · show (rd (Q.set i _) j).xs = _
      rw [rd_set_ne (by omega)]; exact g3 j (by omega) hjn
    · simp only [f47_1_s58, Tree.run, Bool.cond_decide]
      simp only [Tree.run, lf0, lfs, toInt_int, toBool_bool, toStr_str, xs_list, nil_list, fst_pair, snd_pair, List.length_map, Option.bind_some, nb_same, cond_true, cond_false, decide_true, decide_false, eq_true (show (i : Int) < Q.length by omega), if_true]
      rw [show loopT f47_1_s14922 FUEL [s, I (cnt s xs i : Nat), I (i : Int), .int .i64 0, .pair (.list b Q) y, .list true []] = _ from lp]
      simp only [Tree.run, lf0, lfs, toInt_int, toBool_bool, toStr_str, xs_list, nil_list, fst_pair, snd_pair, List.length_map, Option.bind_some, nb_same, cond_true, cond_false, decide_true, decide_false, inb_nat (show i < Q.length by omega), Int.toNat_natCast, hp, hw, wrap_succ i (by omega)]) (by
    rintro ⟨b, Q⟩ ⟨g1, _⟩ K
    simp only at g1
    simp only [f47_1_s58, Tree.run, Bool.cond_decide]
    simp only [Tree.run, lf0, lfs, toInt_int, toBool_bool, toStr_str, xs_list, nil_list, fst_pair, snd_pair, List.length_map, Option.bind_some, nb_same, cond_true, cond_false, decide_true, decide_false, eq_false (show ¬ (n : Int) < Q.length by omega), if_false]) (b, Q) ⟨hr.len, fun j hj => absurd hj (by omega), fun j _ hj => hr.eq j hj⟩
  refine ⟨c.1, c.2, ?_, h1, h2⟩
  simp only [f47_1_v, f47_1_t, Tree.run, Bool.cond_decide]
  rw [show loopT f47_1_s58 FUEL [lf [.pair (.list b Q) y, s] 1, .int .i64 0, .int .i64 0, lf [.pair (.list b Q) y, s] 0] = _ from lp]
  simp only [Tree.run, lf0, lfs, toInt_int, toBool_bool, toStr_str, xs_list, nil_list, fst_pair, snd_pair, List.length_map, Option.bind_some, nb_same, cond_true, cond_false, decide_true, decide_false]
theorem rLen_told (b : Bool) (Q xs : List P) (y : P) (n : Nat) (hr : Rl xs Q n) (hn : n ≤ 1000) (hb : ∀ j, j < n → (qu xs j).length ≤ 1000) :
    f48_v [.pair (.list b Q) y] = some (0, [I (tot xs n : Nat)]) := by
  have hlen := hr.len
  have lp := loop_scan (step := f48_s58) (st := fun i => [I (tot xs i : Nat), I (i : Int), .pair (.list b Q) y]) (y1 := (0, [I (tot xs n : Nat)])) (bad := fun _ => none) n (by omega) (fun i hi K => by
    have ht := tot_le (xs := xs) (b := 1000) i fun j hj => hb j (by omega)
    have h2 := hb i hi
    have hw := wrap_add (tot xs i) (qu xs i).length (by omega)
    have he := hr.eq i hi
    simp only [rq] at he
    simp only [f48_s58, Tree.run, Bool.cond_decide]
    simp only [Tree.run, lf0, lfs, toInt_int, toBool_bool, toStr_str, xs_list, nil_list, fst_pair, snd_pair, List.length_map, Option.bind_some, nb_same, cond_true, cond_false, decide_true, decide_false, eq_true (show (i : Int) < Q.length by omega), if_true, inb_nat (show i < Q.length by omega), Int.toNat_natCast, he, hw, wrap_succ i (by omega), tot]) (fun K => by
    simp only [f48_s58, Tree.run, Bool.cond_decide]
    simp only [Tree.run, lf0, lfs, toInt_int, toBool_bool, toStr_str, xs_list, nil_list, fst_pair, snd_pair, List.length_map, Option.bind_some, nb_same, cond_true, cond_false, decide_true, decide_false, eq_false (show ¬ (n : Int) < Q.length by omega), if_false])
  have hnn : ((List.range' 0 n).findSome? fun _ => (none : Option (Nat × List P))) = none := by simp
  rw [hnn] at lp
  simp only [f48_v, f48_t, Tree.run, Bool.cond_decide]
  rw [show loopT f48_s58 FUEL [.int .i64 0, .int .i64 0, lf [.pair (.list b Q) y] 0] = _ from lp]
  rfl
theorem rList_told (b : Bool) (Q : List P) (y : P) (c : Nat) (hc : c < Q.length) : f50_v [.pair (.list b Q) y, I (c : Int)] = some (0, [rd Q c]) := by
  simp only [f50_v, f50_t, Tree.run, Bool.cond_decide]
  simp only [Tree.run, lf0, lfs, toInt_int, toBool_bool, toStr_str, xs_list, nil_list, fst_pair, snd_pair, List.length_map, Option.bind_some, nb_same, cond_true, cond_false, decide_true, decide_false, rat_told b Q y c hc]
theorem rList_out (b : Bool) (Q : List P) (y c : P) (h : ¬ (0 ≤ c.toInt ∧ c.toInt < Q.length)) : f50_v [.pair (.list b Q) y, c] = some (0, [.list true []]) := by
  simp only [f50_v, f50_t, Tree.run, Bool.cond_decide]
  simp only [Tree.run, lf0, lfs, toInt_int, toBool_bool, toStr_str, xs_list, nil_list, fst_pair, snd_pair, List.length_map, Option.bind_some, nb_same, cond_true, cond_false, decide_true, decide_false, rat_out b Q y c h]
theorem names_told (a b : P) (h : a.xs = b.xs) (hl : a.xs.length ≤ 1000) : f49_v [a, b] = some (0, [.bool true]) := by
  rw [h] at hl
  have hne : ((b.xs.length : Int) != (b.xs.length : Int)) = false := by simp
  have hn : ((List.range' 0 b.xs.length).findSome? fun _ => (none : Option (Nat × List P))) = none := by simp
  have lp := loop_scan (step := f49_s58) (st := fun i => [a, b, I (i : Int)]) (y1 := (1, [])) (bad := fun _ => none) b.xs.length (by omega) (fun i hi K => by
    simp only [f49_s58, Tree.run, Bool.cond_decide]
    simp only [Tree.run, lf0, lfs, toInt_int, toBool_bool, toStr_str, xs_list, nil_list, fst_pair, snd_pair, List.length_map, Option.bind_some, nb_same, cond_true, cond_false, decide_true, decide_false, h, eq_true (show (i : Int) < b.xs.length by omega), if_true, inb_nat hi, Int.toNat_natCast, strEq_self, Bool.not_true, wrap_succ i (by omega)]) (fun K => by
    simp only [f49_s58, Tree.run, Bool.cond_decide]
    simp only [Tree.run, lf0, lfs, toInt_int, toBool_bool, toStr_str, xs_list, nil_list, fst_pair, snd_pair, List.length_map, Option.bind_some, nb_same, cond_true, cond_false, decide_true, decide_false, h, eq_false (show ¬ (b.xs.length : Int) < b.xs.length by omega), if_false])
  rw [hn] at lp
  simp only [f49_v, f49_t, Tree.run, Bool.cond_decide]
  simp only [Tree.run, lf0, lfs, toInt_int, toBool_bool, toStr_str, xs_list, nil_list, fst_pair, snd_pair, List.length_map, Option.bind_some, nb_same, cond_true, cond_false, decide_true, decide_false, h, hne]
  rw [show loopT f49_s58 FUEL [a, b, .int .i64 0] = _ from lp]
  rfl
end Go.Proofs.Ytjemihhhkhdbeaa.Mn
