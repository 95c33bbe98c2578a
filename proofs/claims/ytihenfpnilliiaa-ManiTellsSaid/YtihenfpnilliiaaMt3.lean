/- The names of a manifest, by the program and by the document; the law ManiTells, plainly. Conditions: none but those each states. -/
import Derived.Test.YtihenfpnilliiaaMt2
set_option linter.unusedVariables false
set_option linter.unusedSimpArgs false
namespace Go.Proofs.Ytihenfpnilliiaa.Mn
open Go Go.Eng
theorem baNe {a b : BA} (h : a ≠ b) : (a == b) = false := by
  cases hb : a == b with
  | false => rfl
  | true => exact absurd (baEq.1 hb) h
theorem look_upd (x y : BA) (d v : P) : ∀ l : List P, lookP .str (.str x) d (updP .str (.str y) v l) = if x = y then v else lookP .str (.str x) d l
  | [] => by
    show (bif x == y then v else d) = _
    by_cases h : x = y
    · rw [if_pos h, baEq.2 h]; rfl
    · rw [if_neg h, baNe h]; rfl
  | p :: r => by
    simp only [updP]
    cases hc : eqP .str (.str y) p.fst with
    | true =>
      have hy : y = p.fst.toStr := baEq.1 hc
      rw [cond_true]
      show (bif x == p.fst.toStr then v else lookP .str (.str x) d r) = if x = y then v else (bif x == p.fst.toStr then p.snd else lookP .str (.str x) d r)
      rw [← hy]
      by_cases h : x = y
      · rw [if_pos h, baEq.2 h]; rfl
      · rw [if_neg h, baNe h]; rfl
    | false =>
      have hy : y ≠ p.fst.toStr := fun e => by
        have hc : (y == p.fst.toStr) = false := hc
        rw [baEq.2 e] at hc; cases hc
      rw [cond_false]
      show (bif x == p.fst.toStr then p.snd else lookP .str (.str x) d (updP .str (.str y) v r)) = if x = y then v else (bif x == p.fst.toStr then p.snd else lookP .str (.str x) d r)
      rw [look_upd x y d v r]
      by_cases h : x = y
      · rw [if_pos h, if_pos h, baNe (h ▸ hy)]; rfl
      · rw [if_neg h, if_neg h]
/-- The names that were seen. -/
def Seen (M : List P) (acc : List BA) : Prop := ∀ x, (lookP .str (.str x) (.bool false) M).toBool = hasN acc x
theorem Seen.step {M : List P} {acc : List BA} (h : Seen M acc) {x : BA} (hx : ¬ hasN acc x = true) : Seen (updP .str (.str x) (.bool true) M) (newN acc x) := by
  intro y
  rw [look_upd]
  unfold newN
  rw [if_neg hx]
  by_cases e : y = x
  · rw [if_pos e]
    exact (hasN_iff.2 (by rw [e]; simp)).symm
  · rw [if_neg e, h y, Bool.eq_iff_iff, hasN_iff, hasN_iff]
    simp [e]
def nms (l : List Nd) : List BA := l.map (·.nm)
theorem nms_drop (l : List Nd) {i : Nat} (h : i < l.length) : nms (l.drop i) = (l.getD i n0).nm :: nms (l.drop (i + 1)) := by
  rw [List.drop_eq_getElem_cons h, getD_at h]; rfl
theorem names_in (x0 x1 x2 : P) (n : Bool) (l : List Nd) (hl : l.length ≤ 40) : ∀ d j : Nat, l.length - j = d → j ≤ l.length → ∀ (M : List P) (b : Bool) (acc : List BA), Seen M acc → acc.length + (l.length - j) ≤ 1000000 →
    ∃ M' b', Lp (d + 1) f24_s31334 [x0, x1, x2, LN n l, I (l.length : Int), I (j : Int), .list false M, .list b (acc.map P.str)] (0, [x0, x1, x2, .list false M', .list b' (((nms (l.drop j)).foldl newN acc).map P.str)]) ∧ Seen M' ((nms (l.drop j)).foldl newN acc) := by
  intro d
  induction d with
  | zero =>
    intro j hd hj M b acc hs hb
    have e : j = l.length := by omega
    subst e
    rw [List.drop_length]
    refine ⟨M, b, Lp.done fun K => ?_, hs⟩
    simp only [f24_s31334, Tree.run, Bool.cond_decide]
    simp only [Tree.run, lf0, lfs, toInt_int, toBool_bool, toStr_str, xs_list, nil_list, fst_pair, snd_pair, List.length_map, Option.bind_some, nb_same, cond_true, cond_false, decide_true, decide_false, eq_false (show ¬ (l.length : Int) < l.length by omega), if_false]
    rfl
  | succ d ih =>
    intro j hd hj M b acc hs hb
    have hj' : j < l.length := by omega
    rw [nms_drop l hj', List.foldl_cons]
    have hsx := hs (l.getD j n0).nm
    have hln := newN_len acc (l.getD j n0).nm
    by_cases hx : hasN acc (l.getD j n0).nm = true
    · rw [hx] at hsx
      have e : newN acc (l.getD j n0).nm = acc := by unfold newN; rw [if_pos hx]
      rw [e]
      obtain ⟨M', b', h, hs'⟩ := ih (j + 1) (by omega) (by omega) M b acc hs (by omega)
      refine ⟨M', b', Lp.next (fun K => ?_) h, hs'⟩
      simp only [f24_s31334, Tree.run, Bool.cond_decide]
      simp only [Tree.run, lf0, lfs, toInt_int, toBool_bool, toStr_str, xs_list, nil_list, fst_pair, snd_pair, List.length_map, Option.bind_some, nb_same, cond_true, cond_false, decide_true, decide_false, eq_true (show (j : Int) < l.length by omega), if_true, inb_nat hj', Int.toNat_natCast, rdN hj', hsx, Bool.not_true, wrap_succ j (by omega)]
    · have hx' : hasN acc (l.getD j n0).nm = false := by simpa using hx
      rw [hx'] at hsx
      have e : newN acc (l.getD j n0).nm = acc ++ [(l.getD j n0).nm] := by unfold newN; rw [if_neg hx]
      have hst := hs.step hx
      obtain ⟨M', b', h, hs'⟩ := ih (j + 1) (by omega) (by omega) (updP .str (.str (l.getD j n0).nm) (.bool true) M) (b && false) (newN acc (l.getD j n0).nm) hst (by omega)
      refine ⟨M', b', Lp.next (fun K => ?_) h, hs'⟩
      simp only [f24_s31334, Tree.run, Bool.cond_decide]
      simp only [Tree.run, lf0, lfs, toInt_int, toBool_bool, toStr_str, xs_list, nil_list, fst_pair, snd_pair, List.length_map, Option.bind_some, nb_same, cond_true, cond_false, decide_true, decide_false, eq_true (show (j : Int) < l.length by omega), if_true, inb_nat hj', Int.toNat_natCast, rdN hj', hsx, Bool.not_false, wrap_succ j (by omega), eq_true (show (acc.length + 1) * 16 ≤ 140737488355328 by omega), e, List.map_append, List.map_cons, List.map_nil]
def allN (l : List Rl) : List BA := l.flatMap fun r => nms r.nds
theorem allN_drop (l : List Rl) {i : Nat} (h : i < l.length) : allN (l.drop i) = nms (l.getD i rl0).nds ++ allN (l.drop (i + 1)) := by
  rw [List.drop_eq_getElem_cons h, getD_at h]; rfl
theorem fold_len {f : List BA → BA → List BA} (hf : ∀ acc x, (f acc x).length ≤ acc.length + 1) : ∀ (l acc : List BA), (l.foldl f acc).length ≤ acc.length + l.length
  | [], acc => Nat.le_refl _
  | x :: t, acc => by
    have h1 := fold_len hf t (f acc x)
    have h2 := hf acc x
    rw [List.foldl_cons, List.length_cons]
    omega
theorem names_out (n : Bool) (l : List Rl) (hl : l.length ≤ 30) (hk : ∀ r ∈ l, r.nds.length ≤ 40) : ∀ d i : Nat, l.length - i = d → i ≤ l.length → ∀ (M : List P) (b : Bool) (acc : List BA), Seen M acc → acc.length ≤ 40 * i →
    ∃ b', Lp (d + 1) f24_s122 [LR n l, I (l.length : Int), I (i : Int), .list false M, .list b (acc.map P.str)] (0, [.list b' (((allN (l.drop i)).foldl newN acc).map P.str)]) := by
  intro d
  induction d with
  | zero =>
    intro i hd hi M b acc hs hb
    have e : i = l.length := by omega
    subst e
    rw [List.drop_length]
    refine ⟨b, Lp.done fun K => ?_⟩
    simp only [f24_s122, Tree.run, Bool.cond_decide]
    simp only [Tree.run, lf0, lfs, toInt_int, toBool_bool, toStr_str, xs_list, nil_list, fst_pair, snd_pair, List.length_map, Option.bind_some, nb_same, cond_true, cond_false, decide_true, decide_false, eq_false (show ¬ (l.length : Int) < l.length by omega), if_false]
    rfl
  | succ d ih =>
    intro i hd hi M b acc hs hb
    have hi' : i < l.length := by omega
    have hnd : (l.getD i rl0).nds.length ≤ 40 := by rw [getD_at hi']; exact hk _ (List.getElem_mem hi')
    rw [allN_drop l hi', List.foldl_append]
    obtain ⟨M', b', h, hs'⟩ := names_in (LR n l) (I (l.length : Int)) (I (i : Int)) (l.getD i rl0).nn (l.getD i rl0).nds hnd (l.getD i rl0).nds.length 0 rfl (Nat.zero_le _) M b acc hs (by omega)
    rw [List.drop_zero] at h hs'
    have h := h.fuel (by omega)
    have hlen := fold_len newN_len (nms (l.getD i rl0).nds) acc
    have hlen2 : (nms (l.getD i rl0).nds).length = (l.getD i rl0).nds.length := by simp [nms]
    obtain ⟨b2, h2⟩ := ih (i + 1) (by omega) (by omega) M' b' _ hs' (by omega)
    refine ⟨b2, Lp.next (fun K => ?_) h2⟩
    simp only [f24_s122, Tree.run, Bool.cond_decide]
    simp only [Tree.run, lf0, lfs, toInt_int, toBool_bool, toStr_str, xs_list, nil_list, fst_pair, snd_pair, List.length_map, Option.bind_some, nb_same, cond_true, cond_false, decide_true, decide_false, eq_true (show (i : Int) < l.length by omega), if_true, inb_nat hi', Int.toNat_natCast, rdR hi']
    rw [show loopT f24_s31334 FUEL [.list n (l.map eR), .int .i64 (l.length : Int), .int .i64 (i : Int), LN (l.getD i rl0).nn (l.getD i rl0).nds, .int .i64 ((l.getD i rl0).nds.length : Int), .int .i64 (0 : Int), .list false M, .list b (acc.map P.str)] = _ from h]
    simp only [Tree.run, lf0, lfs, toInt_int, toBool_bool, toStr_str, xs_list, nil_list, fst_pair, snd_pair, List.length_map, Option.bind_some, nb_same, cond_true, cond_false, decide_true, decide_false, wrap_succ i (by omega)]
theorem names_told (m : Mf) (hl : m.rls.length ≤ 30) (hk : ∀ r ∈ m.rls, r.nds.length ≤ 40) : ∃ b, f24_v [eM m] = some (0, [.list b (((allN m.rls).foldl addN []).map P.str)]) := by
  obtain ⟨b, h⟩ := names_out m.rn m.rls hl hk m.rls.length 0 rfl (Nat.zero_le _) [] true [] (fun x => rfl) (by simp)
  rw [List.drop_zero] at h
  have h := h.fuel (by omega)
  obtain ⟨r, hr, he⟩ := names_eq (allN m.rls)
  have hlen := fold_len newN_len (allN m.rls) []
  have hal : (allN m.rls).length ≤ 40 * m.rls.length := by
    have : ∀ l : List Rl, (∀ r ∈ l, r.nds.length ≤ 40) → (allN l).length ≤ 40 * l.length := by
      intro l
      induction l with
      | nil => intro _; simp [allN]
      | cons a t ih =>
        intro hq
        have h1 := ih fun r hr => hq r (by simp [hr])
        have h2 := hq a (by simp)
        have : (allN (a :: t)).length = a.nds.length + (allN t).length := by simp [allN, nms]
        rw [this, List.length_cons]; omega
    exact this m.rls hk
  refine ⟨b, ?_⟩
  simp only [f24_v, f24_t, Tree.run, Bool.cond_decide, eM]
  simp only [Tree.run, lf0, lfs, toInt_int, toBool_bool, toStr_str, xs_list, nil_list, fst_pair, snd_pair, List.length_map, Option.bind_some, nb_same, cond_true, cond_false, decide_true, decide_false]
  rw [show loopT f24_s122 FUEL [LR m.rn m.rls, .int .i64 (m.rls.length : Int), .int .i64 (0 : Int), .list false [], .list true []] = _ from h]
  have hs : sortstr43_v [.list b (((allN m.rls).foldl newN []).map P.str)] = some (0, [.list b (((allN m.rls).foldl addN []).map P.str)]) := by
    show sortValS _ = _
    unfold sortValS
    simp only [lf0, xs_list, nil_list, List.length_map]
    rw [if_pos (by simp at hlen; omega), hr, he]
  simp only [Tree.run, lf0, lfs, toInt_int, toBool_bool, toStr_str, xs_list, nil_list, fst_pair, snd_pair, List.length_map, Option.bind_some, nb_same, cond_true, cond_false, decide_true, decide_false, hs]
/-! ### the document's names -/
theorem add_in (b : Bool) (l : List BA) (x : BA) (hl : l.length ≤ 1000000) : ∀ d i : Nat, l.length - i = d → i ≤ l.length → ∀ (c : Bool) (out : List BA), out.length ≤ i + 1 →
    ∃ c', Lp (d + 1) f44_s122 [.list b (l.map P.str), .str x, .bool true, I (i : Int), .list c (out.map P.str)] (0, [.str x, .bool true, .list c' ((out ++ l.drop i).map P.str)]) := by
  intro d
  induction d with
  | zero =>
    intro i hd hi c out ho
    have e : i = l.length := by omega
    subst e
    rw [List.drop_length, List.append_nil]
    refine ⟨c, Lp.done fun K => ?_⟩
    simp only [f44_s122, Tree.run, Bool.cond_decide]
    simp only [Tree.run, lf0, lfs, toInt_int, toBool_bool, toStr_str, xs_list, nil_list, fst_pair, snd_pair, List.length_map, Option.bind_some, nb_same, cond_true, cond_false, decide_true, decide_false, eq_false (show ¬ (l.length : Int) < l.length by omega), if_false]
  | succ d ih =>
    intro i hd hi c out ho
    have hi' : i < l.length := by omega
    have hrd : rd (l.map P.str) i = .str (l.getD i .empty) := rd_map P.str l .empty hi'
    obtain ⟨c', h⟩ := ih (i + 1) (by omega) (by omega) (c && false) (out ++ [l.getD i .empty]) (by simp; omega)
    refine ⟨c', ?_⟩
    rw [List.drop_eq_getElem_cons hi', ← getD_at (d := (.empty : BA)) hi', List.append_cons]
    refine Lp.next (fun K => ?_) h
    simp only [f44_s122, Tree.run, Bool.cond_decide]
    simp only [Tree.run, lf0, lfs, toInt_int, toBool_bool, toStr_str, xs_list, nil_list, fst_pair, snd_pair, List.length_map, Option.bind_some, nb_same, cond_true, cond_false, decide_true, decide_false, eq_true (show (i : Int) < l.length by omega), if_true, inb_nat hi', Int.toNat_natCast, hrd, Bool.not_true, wrap_succ i (by omega), eq_true (show (out.length + 1) * 16 ≤ 140737488355328 by omega), List.map_append, List.map_cons, List.map_nil]
theorem add_lp (b : Bool) (l : List BA) (x : BA) (hl : l.length ≤ 1000000) : ∀ d i : Nat, l.length - i = d → i ≤ l.length → ∀ (c : Bool) (out : List BA), out.length ≤ i →
    ∃ (f c' : Bool) (out' : List BA), Lp (d + 1) f44_s122 [.list b (l.map P.str), .str x, .bool false, I (i : Int), .list c (out.map P.str)] (0, [.str x, .bool f, .list c' (out'.map P.str)]) ∧ (bif f then out' else out' ++ [x]) = out ++ insS x (l.drop i) ∧ out'.length ≤ l.length + 1 := by
  intro d
  induction d with
  | zero =>
    intro i hd hi c out ho
    have e : i = l.length := by omega
    subst e
    rw [List.drop_length]
    refine ⟨false, c, out, Lp.done fun K => ?_, rfl, by omega⟩
    simp only [f44_s122, Tree.run, Bool.cond_decide]
    simp only [Tree.run, lf0, lfs, toInt_int, toBool_bool, toStr_str, xs_list, nil_list, fst_pair, snd_pair, List.length_map, Option.bind_some, nb_same, cond_true, cond_false, decide_true, decide_false, eq_false (show ¬ (l.length : Int) < l.length by omega), if_false]
  | succ d ih =>
    intro i hd hi c out ho
    have hi' : i < l.length := by omega
    have hrd : rd (l.map P.str) i = .str (l.getD i .empty) := rd_map P.str l .empty hi'
    rw [List.drop_eq_getElem_cons hi', ← getD_at (d := (.empty : BA)) hi']
    generalize hy : l.getD i (.empty : BA) = y at hrd
    simp only [insS]
    by_cases h1 : strEq x y = true
    · obtain ⟨c', h⟩ := add_in b l x hl d (i + 1) (by omega) (by omega) (c && false) (out ++ [x]) (by simp; omega)
      have hlen2 : (l.drop (i + 1)).length = l.length - (i + 1) := List.length_drop
      refine ⟨true, c', _, Lp.next (fun K => ?_) h, ?_, ?_⟩
      · simp only [f44_s122, Tree.run, Bool.cond_decide]
        simp only [Tree.run, lf0, lfs, toInt_int, toBool_bool, toStr_str, xs_list, nil_list, fst_pair, snd_pair, List.length_map, Option.bind_some, nb_same, cond_true, cond_false, decide_true, decide_false, eq_true (show (i : Int) < l.length by omega), if_true, inb_nat hi', Int.toNat_natCast, hrd, Bool.not_false, h1, Bool.or_true, wrap_succ i (by omega), eq_true (show (out.length + 1) * 16 ≤ 140737488355328 by omega), List.map_append, List.map_cons, List.map_nil]
      · simp [h1]
      · rw [List.length_append, List.length_append, hlen2]; simp; omega
    · have h1 : strEq x y = false := by simpa using h1
      by_cases h2 : strLt x y = true
      · obtain ⟨c', h⟩ := add_in b l x hl d (i + 1) (by omega) (by omega) ((c && false) && false) (out ++ [x] ++ [y]) (by simp; omega)
        have hlen2 : (l.drop (i + 1)).length = l.length - (i + 1) := List.length_drop
        refine ⟨true, c', _, Lp.next (fun K => ?_) h, ?_, ?_⟩
        · simp only [f44_s122, Tree.run, Bool.cond_decide]
          simp only [Tree.run, lf0, lfs, toInt_int, toBool_bool, toStr_str, xs_list, nil_list, fst_pair, snd_pair, List.length_map, Option.bind_some, nb_same, cond_true, cond_false, decide_true, decide_false, eq_true (show (i : Int) < l.length by omega), if_true, inb_nat hi', Int.toNat_natCast, hrd, Bool.not_false, h1, h2, Bool.true_or, wrap_succ i (by omega), eq_true (show (out.length + 1) * 16 ≤ 140737488355328 by omega), List.length_append, List.length_cons, List.length_nil, eq_true (show (out.length + (0 + 1) + 1) * 16 ≤ 140737488355328 by omega), List.map_append, List.map_cons, List.map_nil]
        · simp [h1, h2]
        · simp only [List.length_append, hlen2, List.length_cons, List.length_nil]; omega
      · have h2 : strLt x y = false := by simpa using h2
        obtain ⟨f, c', out', h, he, hlo⟩ := ih (i + 1) (by omega) (by omega) (c && false) (out ++ [y]) (by simp; omega)
        refine ⟨f, c', out', Lp.next (fun K => ?_) h, ?_, hlo⟩
        · simp only [f44_s122, Tree.run, Bool.cond_decide]
          simp only [Tree.run, lf0, lfs, toInt_int, toBool_bool, toStr_str, xs_list, nil_list, fst_pair, snd_pair, List.length_map, Option.bind_some, nb_same, cond_true, cond_false, decide_true, decide_false, eq_true (show (i : Int) < l.length by omega), if_true, inb_nat hi', Int.toNat_natCast, hrd, Bool.not_false, h1, h2, Bool.or_self, wrap_succ i (by omega), eq_true (show (out.length + 1) * 16 ≤ 140737488355328 by omega), List.map_append, List.map_cons, List.map_nil]
        · rw [he]; simp [h1, h2]
theorem radd_told (b : Bool) (l : List BA) (x : BA) (hl : l.length ≤ 1000000) : ∃ c, f44_v [.list b (l.map P.str), .str x] = some (0, [.list c ((addN l x).map P.str)]) := by
  obtain ⟨f, c', out', h, he, hlo⟩ := add_lp b l x hl l.length 0 rfl (Nat.zero_le _) true [] (Nat.le_refl _)
  have h := h.fuel (by omega)
  rw [List.drop_zero, List.nil_append] at he
  have h : loopT f44_s122 FUEL [.list b (l.map P.str), .str x, .bool false, .int .i64 (0 : Int), .list true []] = some (0, [.str x, .bool f, .list c' (out'.map P.str)]) := h
  simp only [f44_v, f44_t, f44_s1, Tree.run, Bool.cond_decide]
  cases f with
  | true =>
    refine ⟨c', ?_⟩
    rw [cond_true] at he
    simp only [lf0, lfs, h, Tree.run, lf0, lfs, toInt_int, toBool_bool, toStr_str, xs_list, nil_list, fst_pair, snd_pair, List.length_map, Option.bind_some, nb_same, cond_true, cond_false, decide_true, decide_false, Bool.not_true]
    rw [he]; rfl
  | false =>
    refine ⟨c' && false, ?_⟩
    rw [cond_false] at he
    simp only [lf0, lfs, h, Tree.run, lf0, lfs, toInt_int, toBool_bool, toStr_str, xs_list, nil_list, fst_pair, snd_pair, List.length_map, Option.bind_some, nb_same, cond_true, cond_false, decide_true, decide_false, Bool.not_false, eq_true (show (out'.length + 1) * 16 ≤ 140737488355328 by omega)]
    unfold addN
    rw [← he]
    simp [lf, P.isNil, P.xs]
theorem rnames_in (x0 x3 : P) (n : Bool) (l : List Nd) : ∀ d j : Nat, l.length - j = d → j ≤ l.length → l.length ≤ 40 → ∀ (b : Bool) (acc : List BA), acc.length + (l.length - j) ≤ 1000000 →
    ∃ b', Lp (d + 1) f25_s7462 [x0, LN n l, I (j : Int), x3, .list b (acc.map P.str)] (0, [x0, x3, .list b' (((nms (l.drop j)).foldl addN acc).map P.str)]) := by
  intro d
  induction d with
  | zero =>
    intro j hd hj hl b acc hb
    have e : j = l.length := by omega
    subst e
    rw [List.drop_length]
    refine ⟨b, Lp.done fun K => ?_⟩
    simp only [f25_s7462, Tree.run, Bool.cond_decide]
    simp only [Tree.run, lf0, lfs, toInt_int, toBool_bool, toStr_str, xs_list, nil_list, fst_pair, snd_pair, List.length_map, Option.bind_some, nb_same, cond_true, cond_false, decide_true, decide_false, eq_false (show ¬ (l.length : Int) < l.length by omega), if_false]
    rfl
  | succ d ih =>
    intro j hd hj hl b acc hb
    have hj' : j < l.length := by omega
    rw [nms_drop l hj', List.foldl_cons]
    obtain ⟨c, hc⟩ := radd_told b acc (l.getD j n0).nm (by omega)
    have hln := insS_len (l.getD j n0).nm acc
    have hln2 : (addN acc (l.getD j n0).nm).length ≤ acc.length + 1 := hln
    obtain ⟨b', h⟩ := ih (j + 1) (by omega) (by omega) hl c (addN acc (l.getD j n0).nm) (by omega)
    refine ⟨b', Lp.next (fun K => ?_) h⟩
    simp only [f25_s7462, Tree.run, Bool.cond_decide]
    simp only [Tree.run, lf0, lfs, toInt_int, toBool_bool, toStr_str, xs_list, nil_list, fst_pair, snd_pair, List.length_map, Option.bind_some, nb_same, cond_true, cond_false, decide_true, decide_false, eq_true (show (j : Int) < l.length by omega), if_true, inb_nat hj', Int.toNat_natCast, rdN hj', hc, wrap_succ j (by omega)]
theorem rnames_out (m : Mf) (hl : m.rls.length ≤ 30) (hk : ∀ r ∈ m.rls, r.nds.length ≤ 40) : ∀ d i : Nat, m.rls.length - i = d → i ≤ m.rls.length → ∀ (b : Bool) (acc : List BA), acc.length ≤ 40 * i →
    ∃ b', Lp (d + 1) f25_s58 [I (i : Int), eM m, .list b (acc.map P.str)] (0, [.list b' (((allN (m.rls.drop i)).foldl addN acc).map P.str)]) := by
  intro d
  induction d with
  | zero =>
    intro i hd hi b acc hb
    have e : i = m.rls.length := by omega
    subst e
    rw [List.drop_length]
    refine ⟨b, Lp.done fun K => ?_⟩
    simp only [f25_s58, Tree.run, Bool.cond_decide, eM]
    simp only [Tree.run, lf0, lfs, toInt_int, toBool_bool, toStr_str, xs_list, nil_list, fst_pair, snd_pair, List.length_map, Option.bind_some, nb_same, cond_true, cond_false, decide_true, decide_false, eq_false (show ¬ (m.rls.length : Int) < m.rls.length by omega), if_false]
    rfl
  | succ d ih =>
    intro i hd hi b acc hb
    have hi' : i < m.rls.length := by omega
    have hnd : (m.rls.getD i rl0).nds.length ≤ 40 := by rw [getD_at hi']; exact hk _ (List.getElem_mem hi')
    rw [allN_drop m.rls hi', List.foldl_append]
    obtain ⟨b', h⟩ := rnames_in (I (i : Int)) (eM m) (m.rls.getD i rl0).nn (m.rls.getD i rl0).nds (m.rls.getD i rl0).nds.length 0 rfl (Nat.zero_le _) hnd b acc (by omega)
    rw [List.drop_zero] at h
    have h := h.fuel (by omega)
    have hlen := fold_len (fun acc x => insS_len x acc) (f := addN) (nms (m.rls.getD i rl0).nds) acc
    have hlen2 : (nms (m.rls.getD i rl0).nds).length = (m.rls.getD i rl0).nds.length := by simp [nms]
    obtain ⟨b2, h2⟩ := ih (i + 1) (by omega) (by omega) b' _ (by omega : ((nms (m.rls.getD i rl0).nds).foldl addN acc).length ≤ 40 * (i + 1))
    refine ⟨b2, Lp.next (fun K => ?_) h2⟩
    simp only [f25_s58, Tree.run, Bool.cond_decide]
    simp only [eM, Tree.run, lf0, lfs, toInt_int, toBool_bool, toStr_str, xs_list, nil_list, fst_pair, snd_pair, List.length_map, Option.bind_some, nb_same, cond_true, cond_false, decide_true, decide_false, eq_true (show (i : Int) < m.rls.length by omega), if_true, inb_nat hi', Int.toNat_natCast, rdR hi']
    rw [show loopT f25_s7462 FUEL [.int .i64 (i : Int), LN (m.rls.getD i rl0).nn (m.rls.getD i rl0).nds, .int .i64 (0 : Int), .pair (.str m.nm) (.pair (LR m.rn m.rls) .unit), .list b (acc.map P.str)] = _ from h]
    simp only [Tree.run, lf0, lfs, toInt_int, toBool_bool, toStr_str, xs_list, nil_list, fst_pair, snd_pair, List.length_map, Option.bind_some, nb_same, cond_true, cond_false, decide_true, decide_false, wrap_succ i (by omega)]
    rfl
theorem rnames_told (m : Mf) (hl : m.rls.length ≤ 30) (hk : ∀ r ∈ m.rls, r.nds.length ≤ 40) : ∃ b, f25_v [eM m] = some (0, [.list b (((allN m.rls).foldl addN []).map P.str)]) := by
  obtain ⟨b, h⟩ := rnames_out m hl hk m.rls.length 0 rfl (Nat.zero_le _) true [] (by simp)
  rw [List.drop_zero] at h
  have h := h.fuel (by omega)
  refine ⟨b, ?_⟩
  simp only [f25_v, f25_t, Tree.run, Bool.cond_decide]
  simp only [lf0, lfs]
  rw [show loopT f25_s58 FUEL [.int .i64 (0 : Int), eM m, .list true []] = _ from h]
  simp only [Tree.run, lf0, lfs, toInt_int, toBool_bool, toStr_str, xs_list, nil_list, fst_pair, snd_pair, List.length_map, Option.bind_some, nb_same, cond_true, cond_false, decide_true, decide_false]
end Go.Proofs.Ytihenfpnilliiaa.Mn
