/- Turns: what the program's functions tell. Conditions: none but those each states. -/
import Derived.Test.YtjemihhhkhdbeaaFTp2
import Derived.Test.YtjemihhhkhdbeaaE4
import Derived.Sort.Walk0
set_option linter.unusedVariables false
set_option linter.unusedSimpArgs false
namespace Go.Proofs.Ytjemihhhkhdbeaa.Mn
open Go Go.Eng Go.Sort
abbrev I (n : Int) : P := .int .i64 n
abbrev BA := ByteArray
theorem wrap_of {x : Int} (h0 : -9223372036854775808 ≤ x) (h1 : x ≤ 9223372036854775807) : IntKind.i64.wrap x = x := by
  simp [IntKind.wrap, IntKind.bits, IntKind.signed]; omega
theorem wrap_succ (i : Nat) (h : i < 4611686018427387904) : IntKind.i64.wrap ((i : Int) + 1) = ((i + 1 : Nat) : Int) := by rw [wrap_of (by omega) (by omega)]; omega
theorem wrap_pred (i : Nat) (h : i < 4611686018427387904) : IntKind.i64.wrap (((i + 1 : Nat) : Int) - 1) = (i : Int) := by rw [wrap_of (by omega) (by omega)]; omega
theorem wrap_add (i j : Nat) (h : i + j < 4611686018427387904) : IntKind.i64.wrap ((i : Int) + (j : Int)) = ((i + j : Nat) : Int) := by rw [wrap_of (by omega) (by omega)]; omega
theorem inb_nat {i n : Nat} (h : i < n) : inb (i : Int) n = true := by unfold inb; exact decide_eq_true ⟨by omega, by omega⟩
theorem bl_inj {a b : BA} (h : a.toList = b.toList) : a = b := by
  rw [ByteArray.toList_eq, ByteArray.toList_eq] at h
  cases a; cases b
  simp only [ByteArray.mk.injEq] at *
  exact Array.toList_inj.1 h
theorem strEq_iff {a b : BA} : strEq a b = true ↔ a = b := by
  unfold strEq
  rw [beq_iff_eq]
  exact ⟨bl_inj, fun h => by rw [h]⟩
theorem strEq_comm (a b : BA) : strEq a b = strEq b a := by
  rw [Bool.eq_iff_iff, strEq_iff, strEq_iff]; exact eq_comm
/-! ### loops -/
theorem loop_inv {β : Type} {step : List P → Tree Step} (Inv : Nat → β → Prop) (st : Nat → β → List P) (fin : β → Nat × List P) (n : Nat) (hn : n < 4611686018427387904)
    (hs : ∀ i b, i < n → Inv i b → ∃ b', Inv (i + 1) b' ∧ ∀ K : Step → Option (Nat × List P), (step (st i b)).run K = K (.inl (st (i + 1) b')))
    (he : ∀ b, Inv n b → ∀ K : Step → Option (Nat × List P), (step (st n b)).run K = K (.inr (fin b))) (b0 : β) (h0 : Inv 0 b0) : ∃ b, Inv n b ∧ loopT step FUEL (st 0 b0) = some (fin b) := by
  have key : ∀ d i b, i + d = n → Inv i b → ∃ b', Inv n b' ∧ Lp (d + 1) step (st i b) (fin b') := by
    intro d
    induction d with
    | zero => intro i b hi hb; obtain rfl : i = n := by omega
              exact ⟨b, hb, Lp.done (he b hb)⟩
    | succ d ih =>
      intro i b hi hb
      obtain ⟨b1, h1, h2⟩ := hs i b (by omega) hb
      obtain ⟨b2, h3, h4⟩ := ih (i + 1) b1 (by omega) h1
      exact ⟨b2, h3, Lp.next h2 h4⟩
  obtain ⟨b, h1, h2⟩ := key n 0 b0 (by omega) h0
  exact ⟨b, h1, h2.fuel (by omega)⟩
/-- A loop that may end early in z. -/
theorem loop_inv3 {β : Type} {step : List P → Tree Step} {z : Nat × List P} (Inv : Nat → β → Prop) (st : Nat → β → List P) (fin : β → Nat × List P) (n : Nat) (hn : n < 4611686018427387904)
    (hs : ∀ i b, i < n → Inv i b → (∃ b', Inv (i + 1) b' ∧ ∀ K : Step → Option (Nat × List P), (step (st i b)).run K = K (.inl (st (i + 1) b'))) ∨ ∀ K : Step → Option (Nat × List P), (step (st i b)).run K = K (.inr z))
    (he : ∀ b, Inv n b → ∀ K : Step → Option (Nat × List P), (step (st n b)).run K = K (.inr (fin b))) (b0 : β) (h0 : Inv 0 b0) : (∃ b, Inv n b ∧ loopT step FUEL (st 0 b0) = some (fin b)) ∨ loopT step FUEL (st 0 b0) = some z := by
  have key : ∀ d i b, i + d = n → Inv i b → (∃ b', Inv n b' ∧ Lp (d + 1) step (st i b) (fin b')) ∨ Lp (d + 1) step (st i b) z := by
    intro d
    induction d with
    | zero => intro i b hi hb; obtain rfl : i = n := by omega
              exact .inl ⟨b, hb, Lp.done (he b hb)⟩
    | succ d ih =>
      intro i b hi hb
      rcases hs i b (by omega) hb with ⟨b1, h1, h2⟩ | h2
      · rcases ih (i + 1) b1 (by omega) h1 with ⟨b2, h3, h4⟩ | h4
        · exact .inl ⟨b2, h3, Lp.next h2 h4⟩
        · exact .inr (Lp.next h2 h4)
      · exact .inr (Lp.done h2)
  rcases key n 0 b0 (by omega) h0 with ⟨b, h1, h2⟩ | h2
  · exact .inl ⟨b, h1, h2.fuel (by omega)⟩
  · exact .inr (h2.fuel (by omega))
theorem loop_done {step : List P → Tree Step} {ls : List P} {y : Nat × List P} (h : ∀ K : Step → Option (Nat × List P), (step ls).run K = K (.inr y)) : loopT step FUEL ls = some y := (Lp.done (k := 0) h).fuel (by omega)
theorem idx_loop {step : List P → Tree Step} (del : Nat → Bool) (n : Nat) (st : Nat → List P) (yes : Nat → Nat × List P) (no : Nat × List P) (hn : n < 4611686018427387904)
    (hs : ∀ i, i < n → ∀ K : Step → Option (Nat × List P), (step (st i)).run K = if del i = true then K (.inr (yes i)) else K (.inl (st (i + 1))))
    (he : ∀ K : Step → Option (Nat × List P), (step (st n)).run K = K (.inr no)) :
    (∀ i, i < n → del i = false) ∧ loopT step FUEL (st 0) = some no ∨
    ∃ i, i < n ∧ (∀ j, j < i → del j = false) ∧ del i = true ∧ loopT step FUEL (st 0) = some (yes i) := by
  have key : ∀ d i, i + d = n → (∀ j, j < i → del j = false) → ((∀ i, i < n → del i = false) ∧ Lp (d + 1) step (st i) no) ∨
      ∃ i', i' < n ∧ (∀ j, j < i' → del j = false) ∧ del i' = true ∧ Lp (d + 1) step (st i) (yes i') := by
    intro d
    induction d with
    | zero => intro i hi hb; obtain rfl : i = n := by omega
              exact .inl ⟨hb, Lp.done he⟩
    | succ d ih =>
      intro i hi hb
      have h := hs i (by omega)
      by_cases hd : del i = true
      · simp only [hd, if_true] at h
        exact .inr ⟨i, by omega, hb, hd, Lp.done h⟩
      · simp only [hd, Bool.false_eq_true, if_false] at h
        rcases ih (i + 1) (by omega) (fun j hj => by
          rcases Nat.lt_succ_iff_lt_or_eq.1 hj with h | h
          · exact hb j h
          · subst h; simpa using hd) with ⟨h1, h2⟩ | ⟨i', h1, h2, h3, h4⟩
        · exact .inl ⟨h1, Lp.next h h2⟩
        · exact .inr ⟨i', h1, h2, h3, Lp.next h h4⟩
  rcases key n 0 (by omega) (fun j hj => absurd hj (by omega)) with ⟨h1, h2⟩ | ⟨i, h1, h2, h3, h4⟩
  · exact .inl ⟨h1, h2.fuel (by omega)⟩
  · exact .inr ⟨i, h1, h2, h3, h4.fuel (by omega)⟩
/-! ### lists -/
theorem rd_getD (xs : List P) (i : Nat) : rd xs i = xs.getD i .unit := rfl
theorem rd_in {xs : List P} {i : Nat} (h : i < xs.length) : rd xs i ∈ xs := by
  rw [rd_getD, List.getD_eq_getElem?_getD, List.getElem?_eq_getElem h]; exact List.getElem_mem h
theorem rd_set_eq {L : List P} {x : P} {j : Nat} (h : j < L.length) : rd (L.set j x) j = x := by
  simp [rd_getD, h]
theorem rd_set_ne {L : List P} {x : P} {i j : Nat} (h : i ≠ j) : rd (L.set i x) j = rd L j := by
  simp [rd_getD, List.getElem?_set, h]
theorem rd_mem {xs : List P} {p : P} (h : p ∈ xs) : ∃ i, i < xs.length ∧ rd xs i = p := by
  obtain ⟨i, hi, rfl⟩ := List.mem_iff_getElem.1 h
  exact ⟨i, hi, by rw [rd_getD, List.getD_eq_getElem?_getD, List.getElem?_eq_getElem hi]; rfl⟩
theorem any_idx (q : P → Bool) (xs : List P) (h : ∀ i, i < xs.length → q (rd xs i) = false) : xs.any q = false := by
  rw [List.any_eq_false]
  intro p hp
  obtain ⟨i, hi, rfl⟩ := rd_mem hp
  rw [h i hi]; simp
theorem nb_ne {a b : Nat} (h : a ≠ b) : Nat.beq a b = false := nb_lt a b h
/-- A client's queue. -/
abbrev qu (xs : List P) (i : Nat) : List P := (rd xs i).fst.xs
/-- Another queue of a client. -/
def putQ (xs : List P) (i : Nat) (b : Bool) (l : List P) : List P := xs.set i (.pair (.list b l) (rd xs i).snd)
theorem putQ_len (xs : List P) (i : Nat) (b : Bool) (l : List P) : (putQ xs i b l).length = xs.length := List.length_set
theorem putQ_same {xs : List P} {i : Nat} {b : Bool} {l : List P} (h : i < xs.length) : qu (putQ xs i b l) i = l := by
  unfold putQ qu; rw [rd_set_eq h]; rfl
theorem putQ_other {xs : List P} {i j : Nat} {b : Bool} {l : List P} (h : i ≠ j) : qu (putQ xs i b l) j = qu xs j := by
  unfold putQ qu; rw [rd_set_ne h]
/-! ### what is looked at -/
def bigD (d : P) : Bool := decide ((d.snd.snd.fst.toStr.size : Int) > 60)
def skB (l : P) : Bool := decide ((l.xs.length : Int) > 150) || l.xs.any bigD
theorem any_not {α : Type} (p : α → Bool) (l : List α) : (l.all fun x => !p x) = !l.any p := by induction l <;> simp_all
theorem skip_told (l : P) : f24_v [l] = some (0, [.bool (skB l)]) := by
  simp only [f24_v, f24_t, Tree.run, Bool.cond_decide]
  by_cases h : (l.xs.length : Int) > 150
  · simp only [Tree.run, lf0, lfs, toInt_int, toBool_bool, toStr_str, xs_list, nil_list, fst_pair, snd_pair, List.length_map, Option.bind_some, nb_same, cond_true, cond_false, decide_true, decide_false, eq_true h, if_true, skB, decide_eq_true h, Bool.true_or]
  · simp only [Tree.run, lf0, lfs, toInt_int, toBool_bool, toStr_str, xs_list, nil_list, fst_pair, snd_pair, List.length_map, Option.bind_some, nb_same, cond_true, cond_false, decide_true, decide_false, eq_false h, if_false, skB, decide_eq_false h, Bool.false_or]
    have lp := loop_allB (step := f24_s58) (st := fun i => [l, I (i : Int)]) (y1 := (1, [])) (z := (0, [.bool true])) (ok := fun i => !bigD (rd l.xs i)) l.xs.length (by omega) (fun i hi K => by
      simp only [f24_s58, Tree.run, Bool.cond_decide]
      simp only [Tree.run, lf0, lfs, toInt_int, toBool_bool, toStr_str, xs_list, nil_list, fst_pair, snd_pair, List.length_map, Option.bind_some, nb_same, cond_true, cond_false, decide_true, decide_false, eq_true (show (i : Int) < l.xs.length by omega), if_true, inb_nat hi, Int.toNat_natCast, wrap_succ i (by omega)]
      by_cases hh : ((rd l.xs i).snd.snd.fst.toStr.size : Int) > 60 <;> simp [hh, bigD]) (fun K => by
      simp only [f24_s58, Tree.run, Bool.cond_decide]
      simp only [Tree.run, lf0, lfs, toInt_int, toBool_bool, toStr_str, xs_list, nil_list, fst_pair, snd_pair, List.length_map, Option.bind_some, nb_same, cond_true, cond_false, decide_true, decide_false, eq_false (show ¬ (l.xs.length : Int) < l.xs.length by omega), if_false])
    rw [show loopT f24_s58 FUEL [l, .int .i64 0] = _ from lp]
    have := all_getD (fun p : P => !bigD p) .unit l.xs
    simp only [rd_getD] at this ⊢
    rw [this, any_not bigD]
    cases l.xs.any bigD <;> rfl
theorem skB_no {l : P} (h : skB l = false) : l.xs.length ≤ 150 ∧ ∀ d ∈ l.xs, d.snd.snd.fst.toStr.size ≤ 60 := by
  unfold skB at h
  simp only [Bool.or_eq_false_iff, decide_eq_false_iff_not, List.any_eq_false] at h
  refine ⟨by omega, fun d hd => ?_⟩
  have := h.2 d hd
  simp only [bigD, decide_eq_true_eq] at this
  omega
theorem new_told (n : Nat) (h1 : 1 ≤ n) (h2 : n ≤ 100) : f26_v [I (n : Int)] = some (1, [.list false (List.replicate n (.pair (.list true []) .unit)), .pair (I ((n - 1 : Nat) : Int)) .unit]) := by
  have hw : IntKind.i64.wrap ((n : Int) - 1) = ((n - 1 : Nat) : Int) := by rw [wrap_of (by omega) (by omega)]; omega
  simp only [f26_v, f26_t, Tree.run, Bool.cond_decide]
  simp only [Tree.run, lf0, lfs, toInt_int, toBool_bool, toStr_str, xs_list, nil_list, fst_pair, snd_pair, List.length_map, Option.bind_some, nb_same, cond_true, cond_false, decide_true, decide_false, eq_false (show ¬ (n : Int) < 1 by omega), if_false, eq_false (show ¬ (n : Int) > 100 by omega), eq_true (show (0 : Int) ≤ n ∧ (n : Int) ≤ n ∧ (n : Int) * 24 ≤ 140737488355328 ∧ (n : Int) ≤ 140737488355328 by omega), if_true, Int.toNat_natCast, hw]
theorem at_told (xs last : P) (i : Nat) (h : i < xs.xs.length) : f110_v [xs, last, I (i : Int)] = some (1, []) := by
  simp only [f110_v, f110_t, Tree.run, Bool.cond_decide]
  simp only [Tree.run, lf0, lfs, toInt_int, toBool_bool, toStr_str, xs_list, nil_list, fst_pair, snd_pair, List.length_map, Option.bind_some, nb_same, cond_true, cond_false, decide_true, decide_false, eq_false (show ¬ (i : Int) < 0 by omega), if_false, eq_false (show ¬ (i : Int) ≥ xs.xs.length by omega), inb_nat h]
theorem at_out (xs last c : P) (h : ¬ (0 ≤ c.toInt ∧ c.toInt < xs.xs.length)) : f110_v [xs, last, c] = some (0, [.nilp]) := by
  simp only [f110_v, f110_t, Tree.run, Bool.cond_decide]
  by_cases h1 : c.toInt < 0
  · simp only [Tree.run, lf0, lfs, toInt_int, toBool_bool, toStr_str, xs_list, nil_list, fst_pair, snd_pair, List.length_map, Option.bind_some, nb_same, cond_true, cond_false, decide_true, decide_false, eq_true h1, if_true]
  · simp only [Tree.run, lf0, lfs, toInt_int, toBool_bool, toStr_str, xs_list, nil_list, fst_pair, snd_pair, List.length_map, Option.bind_some, nb_same, cond_true, cond_false, decide_true, decide_false, eq_false h1, if_false, eq_true (show c.toInt ≥ xs.xs.length by omega), if_true]
/-- Does a name stand in a row? -/
def inQ (s : P) (l : List P) : Bool := l.any fun p => strEq s.toStr p.toStr
theorem contains_told (l s : P) (hl : l.xs.length ≤ 1000000) : f168_v [l, s] = some (0, [.bool (inQ s l.xs)]) := by
  have lp := idx_loop (step := f191_s26) (fun i => strEq s.toStr (rd l.xs i).toStr) l.xs.length (fun i => [l, s, I (l.xs.length : Int), I (i : Int)]) (fun i => (0, [I (i : Int)])) (1, []) (by omega) (fun i hi K => by
    simp only [f191_s26, Tree.run, Bool.cond_decide]
    simp only [Tree.run, lf0, lfs, toInt_int, toBool_bool, toStr_str, xs_list, nil_list, fst_pair, snd_pair, List.length_map, Option.bind_some, nb_same, cond_true, cond_false, decide_true, decide_false, eq_true (show (i : Int) < l.xs.length by omega), if_true, inb_nat hi, Int.toNat_natCast, wrap_succ i (by omega)]
    cases strEq s.toStr (rd l.xs i).toStr <;> rfl) (fun K => by
    simp only [f191_s26, Tree.run, Bool.cond_decide]
    simp only [Tree.run, lf0, lfs, toInt_int, toBool_bool, toStr_str, xs_list, nil_list, fst_pair, snd_pair, List.length_map, Option.bind_some, nb_same, cond_true, cond_false, decide_true, decide_false, eq_false (show ¬ (l.xs.length : Int) < l.xs.length by omega), if_false])
  simp only [f168_v, f168_t, f191_v, f191_t, Tree.run, Bool.cond_decide]
  rcases lp with ⟨h1, lp⟩ | ⟨i, h1, h2, h3, lp⟩
  · have hh : inQ s l.xs = false := any_idx _ _ h1
    simp only [Tree.run, lf0, lfs, toInt_int, toBool_bool, toStr_str, xs_list, nil_list, fst_pair, snd_pair, List.length_map, Option.bind_some, nb_same, cond_true, cond_false, decide_true, decide_false]
    rw [show loopT f191_s26 FUEL [l, s, .int .i64 (l.xs.length : Int), .int .i64 0] = _ from lp]
    simp only [Tree.run, lf0, lfs, toInt_int, toBool_bool, toStr_str, xs_list, nil_list, fst_pair, snd_pair, List.length_map, Option.bind_some, nb_same, cond_true, cond_false, decide_true, decide_false, nb_ne (show 1 ≠ 0 by omega), hh]; rfl
  · have hh : inQ s l.xs = true := List.any_eq_true.2 ⟨_, rd_in h1, h3⟩
    simp only [Tree.run, lf0, lfs, toInt_int, toBool_bool, toStr_str, xs_list, nil_list, fst_pair, snd_pair, List.length_map, Option.bind_some, nb_same, cond_true, cond_false, decide_true, decide_false]
    rw [show loopT f191_s26 FUEL [l, s, .int .i64 (l.xs.length : Int), .int .i64 0] = _ from lp]
    simp only [Tree.run, lf0, lfs, toInt_int, toBool_bool, toStr_str, xs_list, nil_list, fst_pair, snd_pair, List.length_map, Option.bind_some, nb_same, cond_true, cond_false, decide_true, decide_false, hh]
    show some (0, [P.bool (decide ((i : Int) ≥ 0))]) = _
    rw [decide_eq_true (show (i : Int) ≥ 0 by omega)]
/-- What Push leaves. -/
def pushQ (xs : List P) (i : Nat) (s : P) : List P := bif inQ s (qu xs i) then xs else putQ xs i ((rd xs i).fst.isNil && false) (qu xs i ++ [s])
theorem push_told (nb : Bool) (xs : List P) (i : Nat) (s : P) (hi : i < xs.length) (hq : (qu xs i).length ≤ 1000000) :
    ∃ nb', f111_v [.list nb xs, I (i : Int), s] = some (0, [.bool (!inQ s (qu xs i)), .list nb' (pushQ xs i s)]) := by
  simp only [f111_v, f111_t, Tree.run, Bool.cond_decide]
  simp only [Tree.run, lf0, lfs, toInt_int, toBool_bool, toStr_str, xs_list, nil_list, fst_pair, snd_pair, List.length_map, Option.bind_some, nb_same, cond_true, cond_false, decide_true, decide_false, Int.toNat_natCast, contains_told (rd xs i).fst s hq, pushQ]
  cases inQ s (qu xs i) with
  | true => exact ⟨nb, rfl⟩
  | false =>
    simp only [Tree.run, lf0, lfs, toInt_int, toBool_bool, toStr_str, xs_list, nil_list, fst_pair, snd_pair, List.length_map, Option.bind_some, nb_same, cond_true, cond_false, decide_true, decide_false, eq_true (show ((qu xs i).length + 1) * 16 ≤ 140737488355328 by omega), if_true, Bool.not_false]
    exact ⟨false, rfl⟩
theorem Push_told (nb : Bool) (xs : List P) (last : P) (i : Nat) (s : P) (hi : i < xs.length) (hq : (qu xs i).length ≤ 1000000) :
    ∃ nb', f27_v [.list nb xs, last, I (i : Int), s] = some (0, [.bool (!inQ s (qu xs i)), .list nb' (pushQ xs i s)]) := by
  obtain ⟨nb', h⟩ := push_told nb xs i s hi hq
  refine ⟨nb', ?_⟩
  simp only [f27_v, f27_t, Tree.run, Bool.cond_decide]
  simp only [Tree.run, lf0, lfs, toInt_int, toBool_bool, toStr_str, xs_list, nil_list, fst_pair, snd_pair, List.length_map, Option.bind_some, nb_same, cond_true, cond_false, decide_true, decide_false, at_told (.list nb xs) last i hi, nb_ne (show 1 ≠ 0 by omega), Int.toNat_natCast, h]
theorem Push_out (nb : Bool) (xs : List P) (last c s : P) (h : ¬ (0 ≤ c.toInt ∧ c.toInt < xs.length)) :
    f27_v [.list nb xs, last, c, s] = some (0, [.bool false, .list nb xs]) := by
  simp only [f27_v, f27_t, Tree.run, Bool.cond_decide]
  simp only [Tree.run, lf0, lfs, toInt_int, toBool_bool, toStr_str, xs_list, nil_list, fst_pair, snd_pair, List.length_map, Option.bind_some, nb_same, cond_true, cond_false, decide_true, decide_false, at_out (.list nb xs) last c h]
theorem pop_told (nb : Bool) (xs : List P) (i : Nat) (p : P) (r : List P) (hi : i < xs.length) (hq : qu xs i = p :: r) :
    f112_v [.list nb xs, I (i : Int)] = some (0, [p, .list false (putQ xs i (rd xs i).fst.isNil r)]) := by
  have hin : inb 0 (qu xs i).length = true := by rw [hq]; exact inb_nat (i := 0) (by simp)
  have h1 : (0 : Int) ≤ 1 ∧ (1 : Int) ≤ ((qu xs i).length : Int) ∧ ((qu xs i).length : Int) ≤ ((qu xs i).length : Int) := by rw [hq]; simp; omega
  simp only [f112_v, f112_t, Tree.run, Bool.cond_decide]
  simp only [Tree.run, lf0, lfs, toInt_int, toBool_bool, toStr_str, xs_list, nil_list, fst_pair, snd_pair, List.length_map, Option.bind_some, nb_same, cond_true, cond_false, decide_true, decide_false, Int.toNat_natCast, hin, eq_true h1, if_true, List.take_length]
  simp only [qu] at hq
  simp only [hq, putQ]
  rfl
/-! ### turns -/
/-- The i-th client behind the last one. -/
def cyc (n l i : Nat) : Nat := if l + 1 + i < n then l + 1 + i else l + 1 + i - n
theorem cyc_lt {n l i : Nat} (hl : l < n) (hi : i < n) : cyc n l i < n := by unfold cyc; split <;> omega
theorem cyc_mod {n l i : Nat} (hn : n ≤ 1000) (hl : l < n) (hi : i < n) : (IntKind.i64.wrap (IntKind.i64.wrap ((l : Int) + 1) + (i : Int))).tmod (n : Int) = ((cyc n l i : Nat) : Int) := by
  rw [wrap_succ l (by omega), wrap_add (l + 1) i (by omega)]
  rw [Int.tmod_eq_emod_of_nonneg (by omega), ← Int.natCast_emod]
  congr 1
  unfold cyc
  split
  · exact Nat.mod_eq_of_lt (by omega)
  · rw [Nat.mod_eq_sub_mod (by omega), Nat.mod_eq_of_lt (by omega)]
theorem Pop_told (nb : Bool) (xs : List P) (l : Nat) (r : P) (hn : xs.length ≤ 1000) (hl : l < xs.length) :
    ((∀ i, i < xs.length → qu xs (cyc xs.length l i) = []) ∧ f28_v [.list nb xs, .pair (I (l : Int)) r] = some (0, [I 0, .str .empty, .bool false, .list nb xs, .pair (I (l : Int)) r])) ∨
    ∃ i p q, i < xs.length ∧ (∀ j, j < i → qu xs (cyc xs.length l j) = []) ∧ qu xs (cyc xs.length l i) = p :: q ∧
      f28_v [.list nb xs, .pair (I (l : Int)) r] = some (0, [I (cyc xs.length l i : Nat), p, .bool true, .list false (putQ xs (cyc xs.length l i) (rd xs (cyc xs.length l i)).fst.isNil q), .pair (I (cyc xs.length l i : Nat)) r]) := by
  have lp := idx_loop (step := f28_s58) (fun i => decide (((qu xs (cyc xs.length l i)).length : Int) > 0)) xs.length (fun i => [I (xs.length : Int), I (i : Int), .pair (I (l : Int)) r, .list nb xs])
    (fun i => (0, [I (cyc xs.length l i : Nat), (qu xs (cyc xs.length l i)).headD .unit, .bool true, .pair (I (cyc xs.length l i : Nat)) r, .list false (putQ xs (cyc xs.length l i) (rd xs (cyc xs.length l i)).fst.isNil (qu xs (cyc xs.length l i)).tail)]))
    (1, [.pair (I (l : Int)) r, .list nb xs]) (by omega) (fun i hi K => by
    have hc := cyc_mod hn hl hi
    have hlt := cyc_lt hl hi
    have h0 : ((xs.length : Int) == 0) = false := by rw [beq_eq_false_iff_ne]; omega
    simp only [f28_s58, Tree.run, Bool.cond_decide]
    simp only [Tree.run, lf0, lfs, toInt_int, toBool_bool, toStr_str, xs_list, nil_list, fst_pair, snd_pair, List.length_map, Option.bind_some, nb_same, cond_true, cond_false, decide_true, decide_false, eq_true (show (i : Int) < xs.length by omega), if_true, h0, hc, inb_nat hlt, Int.toNat_natCast, wrap_succ i (by omega)]
    by_cases hq : qu xs (cyc xs.length l i) = []
    · have hz : ¬ (((qu xs (cyc xs.length l i)).length : Int) > 0) := by rw [hq]; simp
      simp only [eq_false hz, if_false, decide_false, Bool.false_eq_true]
    · have hz : ((qu xs (cyc xs.length l i)).length : Int) > 0 := by
        have := List.length_pos_iff.2 hq; omega
      obtain ⟨p, q, hpq⟩ := List.exists_cons_of_ne_nil hq
      have hp := pop_told nb xs _ p q hlt hpq
      have hz2 : ((p :: q).length : Int) > 0 := by rw [hpq] at hz; exact hz
      simp only [eq_true hz, eq_true hz2, if_true, decide_true, hp, Tree.run, lf0, lfs, toInt_int, toBool_bool, toStr_str, xs_list, nil_list, fst_pair, snd_pair, List.length_map, Option.bind_some, nb_same, cond_true, cond_false, decide_true, decide_false, hpq, List.headD_cons, List.tail_cons]) (fun K => by
    simp only [f28_s58, Tree.run, Bool.cond_decide]
    simp only [Tree.run, lf0, lfs, toInt_int, toBool_bool, toStr_str, xs_list, nil_list, fst_pair, snd_pair, List.length_map, Option.bind_some, nb_same, cond_true, cond_false, decide_true, decide_false, eq_false (show ¬ (xs.length : Int) < xs.length by omega), if_false])
  have he : ∀ i, decide (((qu xs (cyc xs.length l i)).length : Int) > 0) = false → qu xs (cyc xs.length l i) = [] := fun i h => by
    rw [decide_eq_false_iff_not] at h
    exact List.eq_nil_of_length_eq_zero (by omega)
  rcases lp with ⟨h1, lp⟩ | ⟨i, h1, h2, h3, lp⟩
  · refine .inl ⟨fun i hi => he i (h1 i hi), ?_⟩
    simp only [f28_v, f28_t, Tree.run, Bool.cond_decide]
    simp only [Tree.run, lf0, lfs, toInt_int, toBool_bool, toStr_str, xs_list, nil_list, fst_pair, snd_pair, List.length_map, Option.bind_some, nb_same, cond_true, cond_false, decide_true, decide_false]
    rw [show loopT f28_s58 FUEL [.int .i64 (xs.length : Int), .int .i64 0, .pair (I (l : Int)) r, .list nb xs] = _ from lp]
    simp only [Tree.run, lf0, lfs, toInt_int, toBool_bool, toStr_str, xs_list, nil_list, fst_pair, snd_pair, List.length_map, Option.bind_some, nb_same, cond_true, cond_false, decide_true, decide_false, nb_ne (show 1 ≠ 0 by omega)]
  · cases hq : qu xs (cyc xs.length l i) with
    | nil => rw [hq] at h3; simp at h3
    | cons p q =>
      refine .inr ⟨i, p, q, h1, fun j hj => he j (h2 j hj), hq, ?_⟩
      simp only [hq, List.headD_cons, List.tail_cons] at lp
      simp only [f28_v, f28_t, Tree.run, Bool.cond_decide]
      simp only [Tree.run, lf0, lfs, toInt_int, toBool_bool, toStr_str, xs_list, nil_list, fst_pair, snd_pair, List.length_map, Option.bind_some, nb_same, cond_true, cond_false, decide_true, decide_false]
      rw [show loopT f28_s58 FUEL [.int .i64 (xs.length : Int), .int .i64 0, .pair (I (l : Int)) r, .list nb xs] = _ from lp]
      simp only [Tree.run, lf0, lfs, toInt_int, toBool_bool, toStr_str, xs_list, nil_list, fst_pair, snd_pair, List.length_map, Option.bind_some, nb_same, cond_true, cond_false, decide_true, decide_false]
end Go.Proofs.Ytjemihhhkhdbeaa.Mn
