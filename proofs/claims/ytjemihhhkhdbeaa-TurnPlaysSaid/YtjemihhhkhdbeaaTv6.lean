/- The law TurnPlays, plainly. Conditions: the arguments have the forms of their types. -/
import Derived.Test.YtjemihhhkhdbeaaTv5
set_option linter.unusedVariables false
set_option linter.unusedSimpArgs false
namespace Go.Proofs.Ytjemihhhkhdbeaa.Mn
open Go Go.Eng
abbrev doSh : Sh := .pair (.int .i64) (.pair (.int .i64) (.pair .str .unit))
/-- What is kept on both sides. -/
structure Bs where
  nb : Bool
  xs : List P
  l : Nat
  b : Bool
  Q : List P
  last : Int
abbrev Bs.t (s : Bs) : P := .list s.nb s.xs
abbrev Bs.lp (s : Bs) : P := .pair (I (s.l : Int)) .unit
abbrev Bs.x (s : Bs) : P := .pair (.list s.b s.Q) (.pair (I s.last) .unit)
structure Bi (n m : Nat) (s : Bs) : Prop where
  q : Tp s.xs n m
  r : Rl s.xs s.Q n
  l : s.l < n
  a : Lr s.last s.l n
theorem Bi.mono {n m m' : Nat} {s : Bs} (h : Bi n m s) (hm : m ≤ m') : Bi n m' s := ⟨h.q.mono hm, h.r, h.l, h.a⟩
theorem beq_not (q : Bool) : (!(q == q)) = false := by cases q <;> rfl
theorem inQ_no {s : P} {l : List P} (h : inQ s l = false) : ∀ p ∈ l, isS p s = false := fun p hp => by
  have := List.any_eq_false.1 h p hp
  rw [isS_comm]; simpa [isS] using this
theorem uq_app {s : P} {l : List P} (h : Uq l) (hs : inQ s l = false) : Uq (l ++ [s]) := by
  refine List.pairwise_append.2 ⟨h, List.pairwise_singleton _ _, fun p hp q hq => ?_⟩
  rw [List.mem_singleton.1 hq]; exact inQ_no hs p hp
theorem kb (a : Int) (b : Int) : (a == b) = decide (a = b) := by by_cases h : a = b <;> simp [h]
/-- One thing that is done. -/
theorem op_told (n m : Nat) (hn0 : 0 < n) (hn : n ≤ 1000) (hm : m ≤ 900) (s : Bs) (h : Bi n m s) (u v w : P) (k c : Int) (nm : ByteArray) :
    ∃ s', Bi n (m + 1) s' ∧ (f6_s521365 [u, v, w, I k, .bool (k == 0), s.lp, s.x, .pair (I k) (.pair (I c) (.pair (.str nm) .unit)), s.t]).run some = some (1, [u, v, w, s'.lp, s'.x, .pair (I k) (.pair (I c) (.pair (.str nm) .unit)), s'.t]) := by
  obtain ⟨hq, hr, hl, ha⟩ := h
  have hxl := hq.len
  have hQl := hr.len
  obtain ⟨nb, xs, l, b, Q, last⟩ := s
  simp only at hq hr hl ha hxl hQl
  simp only [Bs.t, Bs.lp, Bs.x]
  by_cases k0 : k = 0
  · subst k0
    by_cases hc : 0 ≤ c ∧ c < (n : Int)
    · obtain ⟨j, rfl⟩ : ∃ j : Nat, c = j := ⟨c.toNat, by omega⟩
      have hj : j < n := by omega
      have hql := hq.ql j hj
      have hrj := hr.eq j hj
      obtain ⟨nb', e1⟩ := Push_told nb xs (.pair (I (l : Int)) .unit) j (.str nm) (by omega) (by omega)
      obtain ⟨b', f, e2⟩ := rPush_told b Q (.pair (I last) .unit) (.str nm) j (by omega) (by omega) (by rw [hrj]; omega)
      rw [hrj] at e2
      cases hi : inQ (.str nm) (qu xs j) with
      | true =>
        rw [hi] at e1 e2
        simp only [pushQ, hi, cond_true] at e1 e2
        refine ⟨⟨nb', xs, l, b', Q, last⟩, ⟨hq.mono (by omega), hr, hl, ha⟩, ?_⟩
        simp only [f6_s521365, Tree.run, Bool.cond_decide]
        simp only [Tree.run, lf0, lfs, toInt_int, toBool_bool, toStr_str, xs_list, nil_list, fst_pair, snd_pair, List.length_map, Option.bind_some, nb_same, cond_true, cond_false, decide_true, decide_false, show ((0 : Int) == 0) = true from rfl, e1, e2, Bool.not_true, beq_not]
      | false =>
        rw [hi] at e1 e2
        simp only [pushQ, hi, cond_false] at e1 e2
        refine ⟨⟨nb', putQ xs j ((rd xs j).fst.isNil && false) (qu xs j ++ [.str nm]), l, b', Q.set j (.list f (qu xs j ++ [.str nm])), last⟩, ⟨?_, hr.set hxl hj, hl, ha⟩, ?_⟩
        · refine (hq.mono (by omega : m ≤ m + 1)).put (by simp only [List.length_append, List.length_singleton]; omega) (uq_app (hq.uq j hj) hi) (fun e => by simp at e)
        · simp only [f6_s521365, Tree.run, Bool.cond_decide]
          simp only [Tree.run, lf0, lfs, toInt_int, toBool_bool, toStr_str, xs_list, nil_list, fst_pair, snd_pair, List.length_map, Option.bind_some, nb_same, cond_true, cond_false, decide_true, decide_false, show ((0 : Int) == 0) = true from rfl, e1, e2, Bool.not_false, beq_not]
    · have e1 := Push_out nb xs (.pair (I (l : Int)) .unit) (I c) (.str nm) (by rw [hxl]; exact hc)
      have e2 := rPush_out b Q (.pair (I last) .unit) (I c) (.str nm) (by rw [hQl]; exact hc)
      refine ⟨⟨nb, xs, l, b, Q, last⟩, ⟨hq.mono (by omega), hr, hl, ha⟩, ?_⟩
      simp only [f6_s521365, Tree.run, Bool.cond_decide]
      simp only [Tree.run, lf0, lfs, toInt_int, toBool_bool, toStr_str, xs_list, nil_list, fst_pair, snd_pair, List.length_map, Option.bind_some, nb_same, cond_true, cond_false, decide_true, decide_false, show ((0 : Int) == 0) = true from rfl, e1, e2, beq_not]
  · have z0 : (k == 0) = false := by rw [beq_eq_false_iff_ne]; exact k0
    simp only [f6_s521365, f6_s2085463, Tree.run, Bool.cond_decide]
    simp only [Tree.run, lf0, lfs, toInt_int, toBool_bool, toStr_str, xs_list, nil_list, fst_pair, snd_pair, List.length_map, Option.bind_some, nb_same, cond_true, cond_false, decide_true, decide_false, z0]
    by_cases k1 : k = 1
    · subst k1
      simp only [show ((1 : Int) == 1) = true from rfl, cond_true]
      have e1 := Pop_told nb xs l .unit (by omega) (by omega)
      have e2 := rPop_told b Q last l .unit (by rw [hQl]; exact ha) (by omega) (by omega)
      rw [hxl] at e1
      rw [hQl] at e2
      rcases e1 with ⟨a1, e1⟩ | ⟨i, p, q, a1, a2, a3, e1⟩
      · rcases e2 with ⟨c1, e2⟩ | ⟨i', p', q', c1, c2, c3, e2⟩
        · refine ⟨⟨nb, xs, l, b, Q, last⟩, ⟨hq.mono (by omega), hr, hl, ha⟩, ?_⟩
          simp only [Tree.run, lf0, lfs, toInt_int, toBool_bool, toStr_str, xs_list, nil_list, fst_pair, snd_pair, List.length_map, Option.bind_some, nb_same, cond_true, cond_false, decide_true, decide_false, e1, e2, bne_self_eq_false, strEq_self, Bool.not_true, beq_not, nb_ne (show 1 ≠ 0 by omega)]
        · have := a1 i' c1
          rw [hr.eq _ (cyc_lt hl c1), this] at c3; cases c3
      · rcases e2 with ⟨c1, e2⟩ | ⟨i', p', q', c1, c2, c3, e2⟩
        · have := c1 i a1
          rw [hr.eq _ (cyc_lt hl a1), a3] at this; cases this
        · have hii : i' = i := by
            rcases Nat.lt_trichotomy i i' with g | g | g
            · have := c2 i g
              rw [hr.eq _ (cyc_lt hl a1), a3] at this; cases this
            · exact g.symm
            · have := a2 i' g
              rw [hr.eq _ (cyc_lt hl c1), this] at c3; cases c3
          subst hii
          have hcl := cyc_lt hl a1
          rw [hr.eq _ hcl, a3] at c3
          cases c3
          have hql := hq.ql _ hcl
          rw [a3] at hql
          have hu := hq.uq _ hcl
          rw [a3] at hu
          refine ⟨⟨false, putQ xs (cyc n l i') (rd xs (cyc n l i')).fst.isNil q, cyc n l i', Q.isEmpty, Q.set (cyc n l i') (.list (rd Q (cyc n l i')).isNil q), (cyc n l i' : Nat)⟩, ⟨?_, hr.set hxl hcl, hcl, .inl rfl⟩, ?_⟩
          · refine (hq.mono (by omega : m ≤ m + 1)).put (by simp at hql; omega) (List.pairwise_cons.1 hu).2 (fun e => by have := hq.nl _ hcl e; rw [a3] at this; cases this)
          · simp only [Tree.run, lf0, lfs, toInt_int, toBool_bool, toStr_str, xs_list, nil_list, fst_pair, snd_pair, List.length_map, Option.bind_some, nb_same, cond_true, cond_false, decide_true, decide_false, e1, e2, bne_self_eq_false, strEq_self, Bool.not_true, beq_not, nb_ne (show 1 ≠ 0 by omega)]
    · have z1 : (k == 1) = false := by rw [beq_eq_false_iff_ne]; exact k1
      simp only [f6_s8341855, Tree.run, Bool.cond_decide]
      simp only [Tree.run, lf0, lfs, toInt_int, toBool_bool, toStr_str, xs_list, nil_list, fst_pair, snd_pair, List.length_map, Option.bind_some, nb_same, cond_true, cond_false, decide_true, decide_false, z1]
      by_cases k2 : k = 2
      · subst k2
        simp only [show ((2 : Int) == 2) = true from rfl, cond_true]
        by_cases hc : 0 ≤ c ∧ c < (n : Int)
        · obtain ⟨j, rfl⟩ : ∃ j : Nat, c = j := ⟨c.toNat, by omega⟩
          have hj : j < n := by omega
          have e1 := Clear_told nb xs (.pair (I (l : Int)) .unit) j (by omega)
          obtain ⟨b', Q', e2, d1, d2, d3⟩ := rClear_told b Q (.pair (I last) .unit) j (by omega) (by omega)
          have hrj := hr.eq j hj
          rw [hrj] at e2
          refine ⟨⟨false, putQ xs j true [], l, b', Q', last⟩, ⟨(hq.mono (by omega)).put (by simp) List.Pairwise.nil (fun _ => rfl), ⟨by show Q'.length = n; omega, fun i hi => ?_⟩, hl, ha⟩, ?_⟩
          · show rq Q' i = qu (putQ xs j true []) i
            by_cases e : j = i
            · subst e; rw [putQ_same (by omega), d2]
            · rw [putQ_other e, d3 i (fun x => e x.symm)]; exact hr.eq i hi
          · simp only [Tree.run, lf0, lfs, toInt_int, toBool_bool, toStr_str, xs_list, nil_list, fst_pair, snd_pair, List.length_map, Option.bind_some, nb_same, cond_true, cond_false, decide_true, decide_false, e1, e2, bne_self_eq_false, nb_ne (show 1 ≠ 0 by omega)]
        · have e1 := Clear_out nb xs (.pair (I (l : Int)) .unit) (I c) (by rw [hxl]; exact hc)
          have e2 := rClear_out b Q (.pair (I last) .unit) (I c) (by rw [hQl]; exact hc)
          refine ⟨⟨nb, xs, l, b, Q, last⟩, ⟨hq.mono (by omega), hr, hl, ha⟩, ?_⟩
          simp only [Tree.run, lf0, lfs, toInt_int, toBool_bool, toStr_str, xs_list, nil_list, fst_pair, snd_pair, List.length_map, Option.bind_some, nb_same, cond_true, cond_false, decide_true, decide_false, e1, e2, bne_self_eq_false, nb_ne (show 1 ≠ 0 by omega)]
      · have z2 : (k == 2) = false := by rw [beq_eq_false_iff_ne]; exact k2
        simp only [f6_s33367423, Tree.run, Bool.cond_decide]
        simp only [Tree.run, lf0, lfs, toInt_int, toBool_bool, toStr_str, xs_list, nil_list, fst_pair, snd_pair, List.length_map, Option.bind_some, nb_same, cond_true, cond_false, decide_true, decide_false, z2]
        by_cases k3 : k = 3
        · subst k3
          simp only [show ((3 : Int) == 3) = true from rfl, cond_true]
          obtain ⟨nb', ys, d1, d2, e1⟩ := Strike_told nb xs n m (.pair (I (l : Int)) .unit) (.str nm) hq hn (by omega)
          obtain ⟨b', Q', e2, d3, d4⟩ := rStrike_told b Q xs (.pair (I last) .unit) (.str nm) n m hr hq hn (by omega)
          refine ⟨⟨nb', ys, l, b', Q', last⟩, ⟨d1.mono (by omega), ⟨d3, fun i hi => by show rq Q' i = qu ys i; rw [d4 i hi, d2 i hi]⟩, hl, ha⟩, ?_⟩
          simp only [Tree.run, lf0, lfs, toInt_int, toBool_bool, toStr_str, xs_list, nil_list, fst_pair, snd_pair, List.length_map, Option.bind_some, nb_same, cond_true, cond_false, decide_true, decide_false, e1, e2, bne_self_eq_false, nb_ne (show 1 ≠ 0 by omega)]
        · have z3 : (k == 3) = false := by rw [beq_eq_false_iff_ne]; exact k3
          refine ⟨⟨nb, xs, l, b, Q, last⟩, ⟨hq.mono (by omega), hr, hl, ha⟩, ?_⟩
          simp only [Tree.run, lf0, lfs, toInt_int, toBool_bool, toStr_str, xs_list, nil_list, fst_pair, snd_pair, List.length_map, Option.bind_some, nb_same, cond_true, cond_false, decide_true, decide_false, z3, nb_ne (show 1 ≠ 0 by omega)]
/-- A client's queue is told alike. -/
theorem list_same (n m : Nat) (hm : m ≤ 1000) (s : Bs) (h : Bi n m s) (c : Int) :
    ∃ f l r, f30_v [s.t, s.lp, I c] = some (0, [.list f l, s.t, s.lp]) ∧ f50_v [s.x, I c] = some (0, [r]) ∧ f49_v [.list f l, r] = some (0, [.bool true]) := by
  have hxl := h.q.len
  have hQl := h.r.len
  by_cases hc : 0 ≤ c ∧ c < (n : Int)
  · obtain ⟨j, rfl⟩ : ∃ j : Nat, c = j := ⟨c.toNat, by omega⟩
    have hj : j < n := by omega
    have hql := h.q.ql j hj
    exact ⟨_, _, _, List_told s.nb s.xs s.lp j (by omega) (by omega) (h.q.nl j hj), rList_told s.b s.Q (.pair (I s.last) .unit) j (by omega), names_told _ _ (h.r.eq j hj).symm (by simp only [xs_list]; omega)⟩
  · exact ⟨_, _, _, List_out s.nb s.xs s.lp (I c) (by rw [hxl]; exact hc), rList_out s.b s.Q (.pair (I s.last) .unit) (I c) (by rw [hQl]; exact hc), names_told _ _ rfl (by simp [P.xs])⟩
theorem do_form {l : P} (h : Cn (.slice doSh) l) : ∀ d ∈ l.xs, ∃ k c nm, d = .pair (I k) (.pair (I c) (.pair (.str nm) .unit)) := by
  obtain ⟨n, xs, rfl, h1, h2⟩ := h
  intro d hd
  obtain ⟨_, _, rfl, ⟨k, rfl, _⟩, _, _, rfl, ⟨c, rfl, _⟩, _, _, rfl, ⟨s, rfl⟩, hu⟩ := h2 d hd
  exact ⟨k, c, s, by first | rfl | (cases hu; rfl)⟩
theorem plays1 (z l : P) (n : Nat) (hn0 : 0 < n) (hn : n ≤ 1000) (hl : l.xs.length ≤ 150) (hd : ∀ d ∈ l.xs, ∃ k c nm, d = .pair (I k) (.pair (I c) (.pair (.str nm) .unit))) (s0 : Bs) (h0 : Bi n 0 s0) :
    ∃ s, Bi n 150 s ∧ loopT f6_s1018 FUEL [z, l, I 0, s0.lp, s0.x, s0.t] = some (1, [z, s.lp, s.x, s.t]) := by
  obtain ⟨s, h1, lp⟩ := loop_inv (step := f6_s1018) (β := Bs) (fun i s => Bi n i s) (fun i s => [z, l, I (i : Int), s.lp, s.x, s.t]) (fun s => (1, [z, s.lp, s.x, s.t])) l.xs.length (by omega) (by
    intro i s hi h
    obtain ⟨k, c, nm, hdd⟩ := hd _ (rd_in hi)
    obtain ⟨s', h', e⟩ := op_told n i hn0 hn (by omega) s h z l (I (i : Int)) k c nm
    have hq := h'.q
    have hL := Len_told s'.nb s'.xs s'.lp (by rw [hq.len]; omega) (fun j hj => Nat.le_trans (hq.ql j (by rw [← hq.len]; exact hj)) (by omega))
    have hR := rLen_told s'.b s'.Q s'.xs (.pair (I s'.last) .unit) n h'.r hn (fun j hj => Nat.le_trans (hq.ql j hj) (by omega))
    rw [hq.len] at hL
    obtain ⟨f, ll, r, e1, e2, e3⟩ := list_same n (i + 1) (by omega) s' h' c
    refine ⟨s', h', fun K => ?_⟩
    simp only [f6_s1018, Tree.run, Bool.cond_decide]
    simp only [Tree.run, lf0, lfs, toInt_int, toBool_bool, toStr_str, xs_list, nil_list, fst_pair, snd_pair, List.length_map, Option.bind_some, nb_same, cond_true, cond_false, decide_true, decide_false, eq_true (show (i : Int) < l.xs.length by omega), if_true, inb_nat hi, Int.toNat_natCast, hdd]
    rw [show (f6_s521365 [z, l, .int .i64 (i : Int), .int .i64 k, .bool (k == 0), s.lp, s.x, .pair (I k) (.pair (I c) (.pair (.str nm) .unit)), s.t]).run some = _ from e]
    simp only [Tree.run, lf0, lfs, toInt_int, toBool_bool, toStr_str, xs_list, nil_list, fst_pair, snd_pair, List.length_map, Option.bind_some, nb_same, cond_true, cond_false, decide_true, decide_false, nb_ne (show 1 ≠ 0 by omega), hL, hR, bne_self_eq_false, e1, e2, e3, Bool.not_true, wrap_succ i (by omega)]) (by
    intro s _ K
    simp only [f6_s1018, Tree.run, Bool.cond_decide]
    simp only [Tree.run, lf0, lfs, toInt_int, toBool_bool, toStr_str, xs_list, nil_list, fst_pair, snd_pair, List.length_map, Option.bind_some, nb_same, cond_true, cond_false, decide_true, decide_false, eq_false (show ¬ (l.xs.length : Int) < l.xs.length by omega), if_false]) s0 h0
  exact ⟨s, h1.mono hl, lp⟩
theorem plays2 (n m : Nat) (hn : n ≤ 1000) (hm : m ≤ 1000) (s : Bs) (h : Bi n m s) :
    loopT f6_s2042 FUEL [I (n : Int), I 0, s.lp, s.x, s.t] = some (1, []) := by
  have lp := loop_scan (step := f6_s2042) (st := fun i => [I (n : Int), I (i : Int), s.lp, s.x, s.t]) (y1 := (1, [])) (bad := fun _ => none) n (by omega) (fun i hi K => by
    obtain ⟨f, ll, r, e1, e2, e3⟩ := list_same n m hm s h (i : Int)
    simp only [f6_s2042, Tree.run, Bool.cond_decide]
    simp only [Tree.run, lf0, lfs, toInt_int, toBool_bool, toStr_str, xs_list, nil_list, fst_pair, snd_pair, List.length_map, Option.bind_some, nb_same, cond_true, cond_false, decide_true, decide_false, eq_true (show (i : Int) < n by omega), if_true, e1, e2, e3, Bool.not_true, wrap_succ i (by omega)]) (fun K => by
    simp only [f6_s2042, Tree.run, Bool.cond_decide]
    simp only [Tree.run, lf0, lfs, toInt_int, toBool_bool, toStr_str, xs_list, nil_list, fst_pair, snd_pair, List.length_map, Option.bind_some, nb_same, cond_true, cond_false, decide_true, decide_false, eq_false (show ¬ (n : Int) < n by omega), if_false])
  have hnn : ((List.range' 0 n).findSome? fun _ => (none : Option (Nat × List P))) = none := by simp
  rw [hnn] at lp
  exact lp
theorem rnew_told (n : Nat) (h1 : 1 ≤ n) (h2 : n ≤ 100) : f41_v [I (n : Int)] = some (0, [.list false (List.replicate n (.list true [])), .pair (I (-1)) .unit, .bool true]) := by
  simp only [f41_v, f41_t, f41_s1, Tree.run, Bool.cond_decide]
  simp only [Tree.run, lf0, lfs, toInt_int, toBool_bool, toStr_str, xs_list, nil_list, fst_pair, snd_pair, List.length_map, Option.bind_some, nb_same, cond_true, cond_false, decide_true, decide_false, eq_false (show ¬ (n : Int) < 1 by omega), if_false, eq_false (show ¬ (n : Int) > 100 by omega), eq_true (show (0 : Int) ≤ n ∧ (n : Int) ≤ n ∧ (n : Int) * 24 ≤ 140737488355328 ∧ (n : Int) ≤ 140737488355328 by omega), if_true, Int.toNat_natCast]
theorem new_out (c : P) (h : ¬ (1 ≤ c.toInt ∧ c.toInt ≤ 100)) : f26_v [c] = some (0, [.nilp]) := by
  simp only [f26_v, f26_t, Tree.run, Bool.cond_decide]
  by_cases h1 : c.toInt < 1
  · simp only [Tree.run, lf0, lfs, toInt_int, toBool_bool, toStr_str, xs_list, nil_list, fst_pair, snd_pair, List.length_map, Option.bind_some, nb_same, cond_true, cond_false, decide_true, decide_false, eq_true h1, if_true]
  · simp only [Tree.run, lf0, lfs, toInt_int, toBool_bool, toStr_str, xs_list, nil_list, fst_pair, snd_pair, List.length_map, Option.bind_some, nb_same, cond_true, cond_false, decide_true, decide_false, eq_false h1, if_false, eq_true (show c.toInt > 100 by omega), if_true]
theorem rnew_out (c : P) (h : ¬ (1 ≤ c.toInt ∧ c.toInt ≤ 100)) : f41_v [c] = some (0, [.list true [], .pair (I 0) .unit, .bool false]) := by
  simp only [f41_v, f41_t, f41_s1, Tree.run, Bool.cond_decide]
  by_cases h1 : c.toInt < 1
  · simp only [Tree.run, lf0, lfs, toInt_int, toBool_bool, toStr_str, xs_list, nil_list, fst_pair, snd_pair, List.length_map, Option.bind_some, nb_same, cond_true, cond_false, decide_true, decide_false, eq_true h1, if_true]
  · simp only [Tree.run, lf0, lfs, toInt_int, toBool_bool, toStr_str, xs_list, nil_list, fst_pair, snd_pair, List.length_map, Option.bind_some, nb_same, cond_true, cond_false, decide_true, decide_false, eq_false h1, if_false, eq_true (show c.toInt > 100 by omega), if_true]
theorem bi_new (n : Nat) (h1 : 1 ≤ n) : Bi n 0 ⟨false, List.replicate n (.pair (.list true []) .unit), n - 1, false, List.replicate n (.list true []), -1⟩ := by
  have hq : ∀ j, j < n → qu (List.replicate n (.pair (.list true []) .unit)) j = [] := fun j hj => by
    simp [qu, rd, hj, P.fst, P.xs]
  refine ⟨⟨by simp, fun j hj => ?_, fun j hj _ => hq j hj, fun j hj => ?_⟩, ⟨by simp, fun j hj => ?_⟩, by show n - 1 < n; omega, .inr ⟨rfl, by show n - 1 + 1 = n; omega⟩⟩
  · show (qu (List.replicate n _) j).length ≤ 0; rw [hq j hj]; simp
  · show Uq (qu (List.replicate n _) j); rw [hq j hj]; exact List.Pairwise.nil
  · show rq (List.replicate n _) j = qu (List.replicate n _) j; rw [hq j hj]; simp [rq, rd, hj, P.xs]
end Go.Proofs.Ytjemihhhkhdbeaa.Mn
namespace Go.Proofs.Ytjemihhhkhdbeaa
open Go Go.Eng Mn
theorem turnPlays_pure {x0 x1 : P} (h0 : Cn (.int .i64) x0) (h1 : Cn (.slice doSh) x1) : f6_v [x0, x1] = some (0, [.bool true]) := by
  obtain ⟨z, rfl, _⟩ := h0
  simp only [f6_v, f6_t, Tree.run, Bool.cond_decide]
  simp only [Tree.run, lf0, lfs, toInt_int, toBool_bool, toStr_str, xs_list, nil_list, fst_pair, snd_pair, List.length_map, Option.bind_some, nb_same, cond_true, cond_false, decide_true, decide_false, skip_told]
  cases hl : skB x1 with
  | true => simp only [Tree.run, lf0, lfs, toInt_int, toBool_bool, toStr_str, xs_list, nil_list, fst_pair, snd_pair, List.length_map, Option.bind_some, nb_same, cond_true, cond_false, decide_true, decide_false, awake35_told]
  | false =>
    obtain ⟨g1, g2⟩ := skB_no hl
    by_cases hz : 1 ≤ z ∧ z ≤ 100
    · obtain ⟨n, rfl⟩ : ∃ n : Nat, z = n := ⟨z.toNat, by omega⟩
      have e1 := new_told n (by omega) (by omega)
      have e2 := rnew_told n (by omega) (by omega)
      obtain ⟨s, k1, k2⟩ := plays1 (I (n : Int)) x1 n (by omega) (by omega) g1 (do_form h1) _ (bi_new n (by omega))
      have k3 := plays2 n 150 (by omega) (by omega) s k1
      simp only [Tree.run, lf0, lfs, toInt_int, toBool_bool, toStr_str, xs_list, nil_list, fst_pair, snd_pair, List.length_map, Option.bind_some, nb_same, cond_true, cond_false, decide_true, decide_false, show f26_v [.int .i64 (n : Int)] = _ from e1, show f41_v [.int .i64 (n : Int)] = _ from e2, nb_ne (show 1 ≠ 0 by omega), Bool.not_true]
      rw [show loopT f6_s1018 FUEL [.int .i64 (n : Int), x1, .int .i64 0, .pair (I ((n - 1 : Nat) : Int)) .unit, .pair (.list false (List.replicate n (.list true []))) (.pair (I (-1)) .unit), .list false (List.replicate n (.pair (.list true []) .unit))] = _ from k2]
      simp only [Tree.run, lf0, lfs, toInt_int, toBool_bool, toStr_str, xs_list, nil_list, fst_pair, snd_pair, List.length_map, Option.bind_some, nb_same, cond_true, cond_false, decide_true, decide_false, nb_ne (show 1 ≠ 0 by omega)]
      rw [show loopT f6_s2042 FUEL [.int .i64 (n : Int), .int .i64 0, s.lp, s.x, s.t] = _ from k3]
      simp only [Tree.run, lf0, lfs, toInt_int, toBool_bool, toStr_str, xs_list, nil_list, fst_pair, snd_pair, List.length_map, Option.bind_some, nb_same, cond_true, cond_false, decide_true, decide_false, nb_ne (show 1 ≠ 0 by omega), awake35_told]
    · have e1 := new_out (I z) hz
      have e2 := rnew_out (I z) hz
      have w0 : IntKind.i64.wrap ((0 : Int) + 0) = 0 := wrap_of (by omega) (by omega)
      have p1 : f28_1_v [.nilp] = some (0, [I 0, .str .empty, .bool false]) := rfl
      have p2 : f27_1_v [.nilp, .int .i64 0, .str ⟨#[97]⟩] = some (0, [.bool false]) := rfl
      have p3 : f42_1_v [.nilp, .int .i64 0] = some (0, [I 0]) := rfl
      have p4 : f43_1_v [.nilp, .str ⟨#[97]⟩] = some (0, [I 0]) := rfl
      have p5 : f29_1_v [.nilp] = some (0, [I 0]) := rfl
      have p6 : f30_1_v [.nilp, .int .i64 0] = some (0, []) := rfl
      simp only [Tree.run, lf0, lfs, toInt_int, toBool_bool, toStr_str, xs_list, nil_list, fst_pair, snd_pair, List.length_map, Option.bind_some, nb_same, cond_true, cond_false, decide_true, decide_false, show f26_v [.int .i64 z] = _ from e1, show f41_v [.int .i64 z] = _ from e2, Bool.not_false, p1, p2, p3, p4, p5, p6, w0, beq_self_eq_true, awake35_told]
end Go.Proofs.Ytjemihhhkhdbeaa
