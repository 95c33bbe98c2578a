/- Turns: Clear, Strike. Conditions: none but those each states. -/
import Derived.Test.YtjemihhhkhdbeaaTv2
set_option linter.unusedVariables false
set_option linter.unusedSimpArgs false
namespace Go.Proofs.Ytjemihhhkhdbeaa.Mn
open Go Go.Eng
theorem clr_len {w : Nat} {z : P} {xs : List P} (h : w ≤ xs.length) : (clr w (xs.length - w) z xs).length = xs.length := by
  simp [clr]; omega
theorem clr_take {w n : Nat} {z : P} {xs : List P} (h : w ≤ xs.length) : (clr w n z xs).take w = xs.take w := by
  unfold clr
  rw [List.take_append_of_le_length (by rw [List.length_take]; omega), List.take_take, Nat.min_self]
theorem win_clr {w n : Nat} {z : P} {xs : List P} (h : w ≤ xs.length) : winOf 0 w (clr w n z xs) = xs.take w := by
  unfold winOf
  rw [List.drop_zero, clr_take h]
theorem take_snoc {L : List P} {k : Nat} (h : k < L.length) : L.take (k + 1) = L.take k ++ [rd L k] := by
  rw [List.take_succ_eq_append_getElem h, rd_getD, List.getD_eq_getElem?_getD, List.getElem?_eq_getElem h]; rfl
theorem all_keep {del : P → Bool} {xs : List P} (h : ∀ i, i < xs.length → del (rd xs i) = false) : xs.filter (fun p => !del p) = xs := by
  rw [List.filter_eq_self]
  intro p hp
  obtain ⟨i, hi, rfl⟩ := rd_mem hp
  rw [h i hi]; rfl
theorem keep_take {del : P → Bool} {xs : List P} {i : Nat} (h : ∀ j, j < i → del (rd xs j) = false) (hi : i < xs.length) (hd : del (rd xs i) = true) : (xs.take (i + 1)).filter (fun p => !del p) = xs.take i := by
  rw [take_snoc hi, List.filter_append]
  have h1 : (xs.take i).filter (fun p => !del p) = xs.take i := all_keep (fun j hj => by
    rw [List.length_take] at hj
    have := h j (by omega)
    simpa [rd_getD, List.getElem?_take, show j < i by omega] using this)
  rw [h1]; simp [hd]
theorem rd_drop {xs ys : List P} {j : Nat} (h : ys.drop j = xs.drop j) (hj : j < xs.length) : rd ys j = rd xs j := by
  have h0 : (ys.drop j)[0]? = (xs.drop j)[0]? := by rw [h]
  rw [List.getElem?_drop, List.getElem?_drop, Nat.add_zero] at h0
  simp only [rd_getD, List.getD_eq_getElem?_getD, h0]
/-- The loop of DeleteFunc. -/
theorem del_loop {step : List P → Tree Step} (del : P → Bool) (xs : List P) (i0 : Nat) (st : Nat → Nat → List P → List P) (fin : Nat → List P → Nat × List P) (hn : xs.length < 4611686018427387904) (hi0 : i0 < xs.length)
    (h0 : ∀ j, j < i0 → del (rd xs j) = false) (hd0 : del (rd xs i0) = true)
    (hs : ∀ j w ys, j < xs.length → w ≤ j → ys.length = xs.length → rd ys j = rd xs j → ∀ K : Step → Option (Nat × List P), (step (st j w ys)).run K = if del (rd xs j) = true then K (.inl (st (j + 1) w ys)) else K (.inl (st (j + 1) (w + 1) (ys.set w (rd xs j)))))
    (he : ∀ w ys, w ≤ xs.length → ys.length = xs.length → ∀ K : Step → Option (Nat × List P), (step (st xs.length w ys)).run K = K (.inr (fin w ys))) :
    ∃ w ys, w ≤ xs.length ∧ ys.length = xs.length ∧ ys.take w = xs.filter (fun p => !del p) ∧ loopT step FUEL (st (i0 + 1) i0 xs) = some (fin w ys) := by
  obtain ⟨b, ⟨h1, h2, h3, h4⟩, lp⟩ := loop_inv (step := step) (β := Nat × List P)
    (fun t b => b.1 ≤ i0 + 1 + t ∧ b.2.length = xs.length ∧ b.2.take b.1 = (xs.take (i0 + 1 + t)).filter (fun p => !del p) ∧ b.2.drop (i0 + 1 + t) = xs.drop (i0 + 1 + t))
    (fun t b => st (i0 + 1 + t) b.1 b.2) (fun b => fin b.1 b.2) (xs.length - (i0 + 1)) (by omega) (by
      rintro t ⟨w, ys⟩ ht ⟨g1, g2, g3, g4⟩
      simp only at g1 g2 g3 g4
      have hj : i0 + 1 + t < xs.length := by omega
      have hr := rd_drop g4 hj
      have h := hs (i0 + 1 + t) w ys hj g1 g2 hr
      have hdr : ∀ zs : List P, zs.drop (i0 + 1 + t) = xs.drop (i0 + 1 + t) → zs.drop (i0 + 1 + (t + 1)) = xs.drop (i0 + 1 + (t + 1)) := fun zs hz => by
        have := congrArg (List.drop 1) hz
        simpa [List.drop_drop, Nat.add_assoc] using this
      have htk : (xs.take (i0 + 1 + (t + 1))).filter (fun p => !del p) = (xs.take (i0 + 1 + t)).filter (fun p => !del p) ++ (if del (rd xs (i0 + 1 + t)) = true then [] else [rd xs (i0 + 1 + t)]) := by
        rw [show i0 + 1 + (t + 1) = i0 + 1 + t + 1 from rfl, take_snoc hj, List.filter_append]
        congr 1
        by_cases hd : del (rd xs (i0 + 1 + t)) = true <;> simp [hd]
      by_cases hd : del (rd xs (i0 + 1 + t)) = true
      · simp only [hd, if_true, List.append_nil] at h htk
        exact ⟨(w, ys), ⟨by show w ≤ _; omega, g2, by show ys.take w = _; rw [htk]; exact g3, hdr ys g4⟩, h⟩
      · simp only [hd, Bool.false_eq_true, if_false] at h htk
        refine ⟨(w + 1, ys.set w (rd xs (i0 + 1 + t))), ⟨by show w + 1 ≤ _; omega, by simpa using g2, ?_, ?_⟩, h⟩
        · show (ys.set w (rd xs (i0 + 1 + t))).take (w + 1) = _
          rw [htk, ← g3, take_snoc (by rw [List.length_set]; omega), rd_set_eq (by omega), List.take_set_of_le (Nat.le_refl _)]
        · show (ys.set w (rd xs (i0 + 1 + t))).drop _ = _
          rw [List.drop_set_of_lt (by omega)]
          exact hdr ys g4) (by
      rintro ⟨w, ys⟩ ⟨g1, g2, _, _⟩ K
      simp only at g1 g2
      have : i0 + 1 + (xs.length - (i0 + 1)) = xs.length := by omega
      rw [this] at g1 ⊢
      exact he w ys g1 g2 K) (i0, xs) ⟨by show i0 ≤ _; omega, rfl, by show xs.take i0 = _; rw [Nat.add_zero, keep_take h0 hi0 hd0], rfl⟩
  have hx : i0 + 1 + (xs.length - (i0 + 1)) = xs.length := by omega
  rw [hx] at h1 h3
  rw [List.take_length] at h3
  exact ⟨b.1, b.2, h1, h2, h3, lp⟩
/-- Is it the name? -/
def isS (s p : P) : Bool := strEq s.toStr p.toStr
def keepQ (s : P) (l : List P) : List P := l.filter fun p => !isS s p
theorem keep_len (s : P) (l : List P) : (keepQ s l).length ≤ l.length := List.length_filter_le _ _
theorem clo_told (p s : P) : f171_v [p, s] = some (0, [.bool (isS s p)]) := rfl
theorem sidx_told (xs : List P) (nb : Bool) (s : P) (hn : xs.length ≤ 1000) :
    ((∀ i, i < xs.length → isS s (rd xs i) = false) ∧ f192_v [.list nb xs, s, .unit] = some (0, [I (-1), s])) ∨
    ∃ i, i < xs.length ∧ (∀ j, j < i → isS s (rd xs j) = false) ∧ isS s (rd xs i) = true ∧ f192_v [.list nb xs, s, .unit] = some (0, [I (i : Int), s]) := by
  have lp := idx_loop (step := f192_s26) (fun i => isS s (rd xs i)) xs.length (fun i => [.list nb xs, .unit, I (xs.length : Int), I (i : Int), s]) (fun i => (0, [.unit, I (i : Int), s])) (1, [.unit, s]) (by omega) (fun i hi K => by
    simp only [f192_s26, Tree.run, Bool.cond_decide]
    simp only [Tree.run, lf0, lfs, toInt_int, toBool_bool, toStr_str, xs_list, nil_list, fst_pair, snd_pair, List.length_map, Option.bind_some, nb_same, cond_true, cond_false, decide_true, decide_false, eq_true (show (i : Int) < xs.length by omega), if_true, inb_nat hi, Int.toNat_natCast, clo_told, wrap_succ i (by omega)]
    cases isS s (rd xs i) <;> rfl) (fun K => by
    simp only [f192_s26, Tree.run, Bool.cond_decide]
    simp only [Tree.run, lf0, lfs, toInt_int, toBool_bool, toStr_str, xs_list, nil_list, fst_pair, snd_pair, List.length_map, Option.bind_some, nb_same, cond_true, cond_false, decide_true, decide_false, eq_false (show ¬ (xs.length : Int) < xs.length by omega), if_false])
  simp only [f192_v, f192_t, Tree.run, Bool.cond_decide]
  simp only [Tree.run, lf0, lfs, toInt_int, toBool_bool, toStr_str, xs_list, nil_list, fst_pair, snd_pair, List.length_map, Option.bind_some, nb_same, cond_true, cond_false, decide_true, decide_false]
  rcases lp with ⟨h1, lp⟩ | ⟨i, h1, h2, h3, lp⟩
  · refine .inl ⟨h1, ?_⟩
    rw [show loopT f192_s26 FUEL [.list nb xs, .unit, .int .i64 (xs.length : Int), .int .i64 0, s] = _ from lp]
    rfl
  · refine .inr ⟨i, h1, h2, h3, ?_⟩
    rw [show loopT f192_s26 FUEL [.list nb xs, .unit, .int .i64 (xs.length : Int), .int .i64 0, s] = _ from lp]
    rfl
theorem sdel_told (xs : List P) (nb : Bool) (s : P) (hn : xs.length ≤ 1000) :
    (f170_1_v [.list nb xs, s, .unit] = some (0, [s]) ∧ keepQ s xs = xs) ∨
    ∃ (w : Nat) (ys : List P), winOf 0 w ys = keepQ s xs ∧ f170_1_v [.list nb xs, s, .unit] = some (1, [I 0, I (w : Int), .list nb ys, s]) := by
  rcases sidx_told xs nb s hn with ⟨h1, h2⟩ | ⟨i, h1, h2, h3, h4⟩
  · refine .inl ⟨?_, all_keep h1⟩
    simp only [f170_1_v, f170_1_t, Tree.run, Bool.cond_decide]
    simp only [Tree.run, lf0, lfs, toInt_int, toBool_bool, toStr_str, xs_list, nil_list, fst_pair, snd_pair, List.length_map, Option.bind_some, nb_same, cond_true, cond_false, decide_true, decide_false, h2, beq_self_eq_true]
  · obtain ⟨w, ys, q1, q2, q3, lp⟩ := del_loop (step := f170_1_s122) (isS s) xs i (fun j w ys => [.unit, I (w : Int), I (j : Int), .list nb ys, s]) (fun w ys => (0, [.unit, I (w : Int), .list nb ys, s])) (by omega) h1 h2 h3 (fun j w ys g1 g2 g3 g4 K => by
      simp only [f170_1_s122, Tree.run, Bool.cond_decide]
      simp only [Tree.run, lf0, lfs, toInt_int, toBool_bool, toStr_str, xs_list, nil_list, fst_pair, snd_pair, List.length_map, Option.bind_some, nb_same, cond_true, cond_false, decide_true, decide_false, g3, eq_true (show (j : Int) < xs.length by omega), if_true, inb_nat g1, Int.toNat_natCast, g4, clo_told, inb_nat (show w < xs.length by omega), wrap_succ j (by omega), wrap_succ w (by omega)]
      cases isS s (rd xs j) <;> rfl) (fun w ys g1 g2 K => by
      simp only [f170_1_s122, Tree.run, Bool.cond_decide]
      simp only [Tree.run, lf0, lfs, toInt_int, toBool_bool, toStr_str, xs_list, nil_list, fst_pair, snd_pair, List.length_map, Option.bind_some, nb_same, cond_true, cond_false, decide_true, decide_false, g2, eq_false (show ¬ (xs.length : Int) < xs.length by omega), if_false])
    refine .inr ⟨w, clr w (ys.length - w) (.str .empty) ys, by rw [win_clr (by omega)]; exact q3, ?_⟩
    have hne : ((i : Int) == -1) = false := by rw [beq_eq_false_iff_ne]; omega
    have hcl := clr_len (z := .str .empty) (show w ≤ ys.length by omega)
    simp only [f170_1_v, f170_1_t, Tree.run, Bool.cond_decide]
    simp only [Tree.run, lf0, lfs, toInt_int, toBool_bool, toStr_str, xs_list, nil_list, fst_pair, snd_pair, List.length_map, Option.bind_some, nb_same, cond_true, cond_false, decide_true, decide_false, h4, hne, wrap_succ i (by omega)]
    rw [show loopT f170_1_s122 FUEL [.unit, .int .i64 (i : Int), .int .i64 ((i + 1 : Nat) : Int), .list nb xs, s] = _ from lp]
    simp only [Tree.run, lf0, lfs, toInt_int, toBool_bool, toStr_str, xs_list, nil_list, fst_pair, snd_pair, List.length_map, Option.bind_some, nb_same, cond_true, cond_false, decide_true, decide_false, Int.toNat_natCast, hcl, eq_true (show (0 : Int) ≤ w ∧ (w : Int) ≤ ys.length ∧ (ys.length : Int) ≤ ys.length by omega), eq_true (show (0 : Int) ≤ 0 ∧ (0 : Int) ≤ w ∧ (w : Int) ≤ ys.length by omega), if_true, Int.sub_zero]
theorem strike_told (nb : Bool) (xs : List P) (i : Nat) (s : P) (hi : i < xs.length) (hb : (qu xs i).length ≤ 1000) (hn : (rd xs i).fst.isNil = true → qu xs i = []) :
    f120_v [.list nb xs, I (i : Int), s] = some (0, [.bool (decide (((keepQ s (qu xs i)).length : Int) < (qu xs i).length)), .list false (putQ xs i (rd xs i).fst.isNil (keepQ s (qu xs i)))]) := by
  have hc := clone_told (rd xs i).fst (Nat.le_trans hb (by omega)) hn
  have hs := sdel_told (qu xs i) (rd xs i).fst.isNil s hb
  simp only [qu] at hs
  rcases hs with ⟨h1, h2⟩ | ⟨w, ys, h1, h2⟩
  · simp only [f120_v, f120_t, Tree.run, Bool.cond_decide]
    simp only [Tree.run, lf0, lfs, toInt_int, toBool_bool, toStr_str, xs_list, nil_list, fst_pair, snd_pair, List.length_map, Option.bind_some, nb_same, cond_true, cond_false, decide_true, decide_false, Int.toNat_natCast, hc, h1, rd_set_eq hi, putQ, qu, h2]
    rfl
  · simp only [f120_v, f120_t, Tree.run, Bool.cond_decide]
    simp only [Tree.run, lf0, lfs, toInt_int, toBool_bool, toStr_str, xs_list, nil_list, fst_pair, snd_pair, List.length_map, Option.bind_some, nb_same, cond_true, cond_false, decide_true, decide_false, Int.toNat_natCast, hc, h2, nb_ne (show 1 ≠ 0 by omega), rd_set_eq hi, putQ, qu, Int.toNat_zero, h1]
/-- Queues of which each has a name once, each no longer than b. -/
def Uq (l : List P) : Prop := l.Pairwise fun p q => isS p q = false
structure Tp (xs : List P) (n b : Nat) : Prop where
  len : xs.length = n
  ql : ∀ j, j < n → (qu xs j).length ≤ b
  nl : ∀ j, j < n → (rd xs j).fst.isNil = true → qu xs j = []
  uq : ∀ j, j < n → Uq (qu xs j)
theorem Tp.mono {xs : List P} {n b b' : Nat} (h : Tp xs n b) (hb : b ≤ b') : Tp xs n b' := ⟨h.len, fun j hj => Nat.le_trans (h.ql j hj) hb, h.nl, h.uq⟩
theorem Tp.put {xs : List P} {n b i : Nat} {f : Bool} {l : List P} (h : Tp xs n b) (hl : l.length ≤ b) (hu : Uq l) (hn : f = true → l = []) : Tp (putQ xs i f l) n b := by
  by_cases hi : i < xs.length
  · refine ⟨by rw [putQ_len]; exact h.len, fun j hj => ?_, fun j hj => ?_, fun j hj => ?_⟩
    · by_cases e : i = j
      · subst e; rw [putQ_same hi]; exact hl
      · rw [putQ_other e]; exact h.ql j hj
    · by_cases e : i = j
      · subst e; rw [putQ_same hi]; unfold putQ; rw [rd_set_eq hi]; exact hn
      · rw [putQ_other e]; unfold putQ; rw [rd_set_ne e]; exact h.nl j hj
    · by_cases e : i = j
      · subst e; rw [putQ_same hi]; exact hu
      · rw [putQ_other e]; exact h.uq j hj
  · have : putQ xs i f l = xs := by unfold putQ; exact List.set_eq_of_length_le (by omega)
    rw [this]; exact h
theorem uq_keep {s : P} {l : List P} (h : Uq l) : Uq (keepQ s l) := h.sublist List.filter_sublist
theorem isS_comm (p q : P) : isS p q = isS q p := strEq_comm _ _
theorem isS_trans {s p q : P} (h1 : isS s p = true) (h2 : isS s q = true) : isS p q = true := by
  have a := strEq_iff.1 h1; have b := strEq_iff.1 h2
  exact strEq_iff.2 (a.symm.trans b)
theorem uq_one {s : P} : ∀ {l : List P}, Uq l → l.length ≤ (keepQ s l).length + 1
  | [], _ => by simp
  | p :: r, h => by
    obtain ⟨h1, h2⟩ := List.pairwise_cons.1 h
    have ih := uq_one (s := s) h2
    cases he : isS s p with
    | false =>
      have : keepQ s (p :: r) = p :: keepQ s r := by simp [keepQ, he]
      rw [this]; simp only [List.length_cons]; omega
    | true =>
      have hr : keepQ s r = r := by
        unfold keepQ
        rw [List.filter_eq_self]
        intro q hq
        have := h1 q hq
        cases hq2 : isS s q with
        | false => rfl
        | true => rw [isS_trans he hq2] at this; cases this
      have : keepQ s (p :: r) = keepQ s r := by simp [keepQ, he]
      rw [this, hr]; simp
/-- How many of the first i queues lose a name. -/
def cnt (s : P) (xs : List P) : Nat → Nat
  | 0 => 0
  | i + 1 => cnt s xs i + ((qu xs i).length - (keepQ s (qu xs i)).length)
theorem cnt_le {s : P} {xs : List P} {n : Nat} (hu : ∀ j, j < n → Uq (qu xs j)) : ∀ i, i ≤ n → cnt s xs i ≤ i
  | 0, _ => by simp [cnt]
  | i + 1, h => by
    have h1 := cnt_le (s := s) hu i (by omega)
    have h2 := uq_one (s := s) (hu i (by omega))
    simp only [cnt]; omega
theorem Strike_told (nb : Bool) (xs : List P) (n b : Nat) (last s : P) (hq : Tp xs n b) (hn : n ≤ 1000) (hb : b ≤ 1000) :
    ∃ nb' ys, Tp ys n b ∧ (∀ j, j < n → qu ys j = keepQ s (qu xs j)) ∧ f43_v [.list nb xs, last, s] = some (0, [I (cnt s xs n : Nat), .list nb' ys, last]) := by
  have hlen := hq.len
  obtain ⟨b', ⟨h1, h2, h3⟩, lp⟩ := loop_inv (step := f43_s234) (β := Bool × List P) (fun i c => Tp c.2 n b ∧ (∀ j, j < i → qu c.2 j = keepQ s (qu xs j)) ∧ (∀ j, i ≤ j → qu c.2 j = qu xs j))
    (fun i c => [s, I (cnt s xs i : Nat), I (n : Int), I (i : Int), last, .list c.1 c.2]) (fun c => (0, [I (cnt s xs n : Nat), last, .list c.1 c.2])) n (by omega) (by
    rintro i ⟨nb, ys⟩ hi ⟨g1, g2, g3⟩
    simp only at g1 g2 g3
    have hyl := g1.len
    have hql := g1.ql i hi
    have hst := strike_told nb ys i s (by omega) (by omega) (g1.nl i hi)
    have hu := uq_one (s := s) (g1.uq i hi)
    have hk := keep_len s (qu ys i)
    have hc := cnt_le (s := s) hq.uq i (by omega)
    have hcs : cnt s xs (i + 1) = cnt s xs i + ((qu ys i).length - (keepQ s (qu ys i)).length) := by simp only [cnt, g3 i (Nat.le_refl _)]
    refine ⟨(false, putQ ys i (rd ys i).fst.isNil (keepQ s (qu ys i))), ⟨g1.put (by omega) (uq_keep (g1.uq i hi)) (fun e => by rw [g1.nl i hi e]; rfl), fun j hj => ?_, fun j hj => ?_⟩, fun K => ?_⟩
    · show qu (putQ _ _ _ _) j = _
      by_cases e : i = j
      · subst e; rw [putQ_same (by omega), g3 i (Nat.le_refl _)]
      · rw [putQ_other e]; exact g2 j (by omega)
    · show qu (putQ _ _ _ _) j = _
      rw [putQ_other (by omega)]; exact g3 j (by omega)
    · simp only [f43_s234, Tree.run, Bool.cond_decide]
      simp only [Tree.run, lf0, lfs, toInt_int, toBool_bool, toStr_str, xs_list, nil_list, fst_pair, snd_pair, List.length_map, Option.bind_some, nb_same, cond_true, cond_false, decide_true, decide_false, eq_true (show (i : Int) < n by omega), if_true, inb_nat (show i < ys.length by omega), Int.toNat_natCast, hst, hcs, wrap_succ i (by omega), wrap_succ (cnt s xs i) (by omega)]
      by_cases hlt : (keepQ s (qu ys i)).length < (qu ys i).length
      · rw [show cnt s xs i + ((qu ys i).length - (keepQ s (qu ys i)).length) = cnt s xs i + 1 from by omega]
        simp only [eq_true (show ((keepQ s (qu ys i)).length : Int) < (qu ys i).length by omega), decide_true, cond_true]
      · rw [show cnt s xs i + ((qu ys i).length - (keepQ s (qu ys i)).length) = cnt s xs i from by omega]
        simp only [eq_false (show ¬ ((keepQ s (qu ys i)).length : Int) < (qu ys i).length by omega), decide_false, cond_false]) (by
    rintro ⟨nb, ys⟩ _ K
    simp only [f43_s234, Tree.run, Bool.cond_decide]
    simp only [Tree.run, lf0, lfs, toInt_int, toBool_bool, toStr_str, xs_list, nil_list, fst_pair, snd_pair, List.length_map, Option.bind_some, nb_same, cond_true, cond_false, decide_true, decide_false, eq_false (show ¬ (n : Int) < n by omega), if_false]) (nb, xs) ⟨hq, fun j hj => absurd hj (by omega), fun j _ => rfl⟩
  refine ⟨b'.1, b'.2, h1, h2, ?_⟩
  simp only [f43_v, f43_t, Tree.run, Bool.cond_decide]
  simp only [Tree.run, lf0, lfs, toInt_int, toBool_bool, toStr_str, xs_list, nil_list, fst_pair, snd_pair, List.length_map, Option.bind_some, nb_same, cond_true, cond_false, decide_true, decide_false, hlen]
  rw [show loopT f43_s234 FUEL [s, .int .i64 0, .int .i64 (n : Int), .int .i64 0, last, .list nb xs] = _ from lp]
  simp only [Tree.run, lf0, lfs, toInt_int, toBool_bool, toStr_str, xs_list, nil_list, fst_pair, snd_pair, List.length_map, Option.bind_some, nb_same, cond_true, cond_false, decide_true, decide_false]
theorem Clear_told (nb : Bool) (xs : List P) (last : P) (i : Nat) (hi : i < xs.length) :
    f42_v [.list nb xs, last, I (i : Int)] = some (0, [I ((qu xs i).length : Int), .list false (putQ xs i true [])]) := by
  simp only [f42_v, f42_t, f119_v, f119_t, Tree.run, Bool.cond_decide]
  simp only [Tree.run, lf0, lfs, toInt_int, toBool_bool, toStr_str, xs_list, nil_list, fst_pair, snd_pair, List.length_map, Option.bind_some, nb_same, cond_true, cond_false, decide_true, decide_false, at_told (.list nb xs) last i hi, nb_ne (show 1 ≠ 0 by omega), Int.toNat_natCast, putQ, qu]
theorem Clear_out (nb : Bool) (xs : List P) (last c : P) (h : ¬ (0 ≤ c.toInt ∧ c.toInt < xs.length)) :
    f42_v [.list nb xs, last, c] = some (0, [I 0, .list nb xs]) := by
  simp only [f42_v, f42_t, Tree.run, Bool.cond_decide]
  simp only [Tree.run, lf0, lfs, toInt_int, toBool_bool, toStr_str, xs_list, nil_list, fst_pair, snd_pair, List.length_map, Option.bind_some, nb_same, cond_true, cond_false, decide_true, decide_false, at_out (.list nb xs) last c h]
end Go.Proofs.Ytjemihhhkhdbeaa.Mn
