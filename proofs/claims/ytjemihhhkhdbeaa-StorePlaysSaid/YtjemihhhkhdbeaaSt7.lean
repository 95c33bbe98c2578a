/- Stores: clashes whose names rise; Add and what is about names. Conditions: none but those each states. -/
import Derived.Test.YtjemihhhkhdbeaaSt6
set_option linter.unusedVariables false
set_option linter.unusedSimpArgs false
namespace Go.Proofs.Ytjemihhhkhdbeaa.Mn
open Go Go.Eng
theorem loop_inv2 {step : List P → Tree Step} {st : Nat → List P} {y1 z : Nat × List P} (Inv : Nat → Prop) (n : Nat) (hn : n < 4611686018427387904)
    (hs : ∀ i, i < n → Inv i → (Inv (i + 1) ∧ ∀ K : Step → Option (Nat × List P), (step (st i)).run K = K (.inl (st (i + 1)))) ∨ ∀ K : Step → Option (Nat × List P), (step (st i)).run K = K (.inr z))
    (he : ∀ K : Step → Option (Nat × List P), (step (st n)).run K = K (.inr y1)) (h0 : Inv 0) : (Inv n ∧ loopT step FUEL (st 0) = some y1) ∨ loopT step FUEL (st 0) = some z := by
  have key : ∀ d i, i + d = n → Inv i → (Inv n ∧ Lp (d + 1) step (st i) y1) ∨ Lp (d + 1) step (st i) z := by
    intro d
    induction d with
    | zero => intro i hi h; obtain rfl : i = n := by omega
              exact .inl ⟨h, Lp.done he⟩
    | succ d ih =>
      intro i hi hb
      rcases hs i (by omega) hb with ⟨h0, h⟩ | h
      · rcases ih (i + 1) (by omega) h0 with ⟨g0, g⟩ | g
        · exact .inl ⟨g0, Lp.next h g⟩
        · exact .inr (Lp.next h g)
      · exact .inr (Lp.done h)
  rcases key n 0 (by omega) h0 with ⟨h0, h⟩ | h
  · exact .inl ⟨h0, h.fuel (by omega)⟩
  · exact .inr (h.fuel (by omega))
/-- The names of a clash rise. -/
def Rise (c : P) (n : Nat) : Prop := ∀ i, i + 1 < n → (rd c.xs i).fst.toStr.toList < (rd c.xs (i + 1)).fst.toStr.toList
theorem check19_rise (c : P) (hs : Sm c) (hc : ∀ t ∈ c.xs, ∃ s, t.fst = .str s) : ∃ b, f18_v [c] = some (0, [.bool b]) ∧ (b = true → Rise c c.xs.length) := by
  have hlen := hs.len
  have lp := loop_inv2 (step := f18_s26) (st := fun i => [c, I (i : Int)]) (y1 := (1, [])) (z := (0, [.bool false])) (Rise c) c.xs.length (by omega) (fun i hi hr => by
    have hm := rd_in hi
    obtain ⟨q1, q2⟩ := hs.sp _ hm
    obtain ⟨b1, h1⟩ := check18_told (rd c.xs i) q1 q2 (hc _ hm)
    obtain ⟨b2, h2⟩ := full_told (rd c.xs i) q1
    obtain ⟨b3, h3⟩ := empty_told (rd c.xs i)
    simp only [f18_s26, Tree.run, Bool.cond_decide]
    simp only [Tree.run, lf0, lfs, toInt_int, toBool_bool, toStr_str, xs_list, nil_list, fst_pair, snd_pair, List.length_map, Option.bind_some, nb_same, cond_true, cond_false, decide_true, decide_false, eq_true (show (i : Int) < c.xs.length by omega), if_true, inb_nat hi, Int.toNat_natCast, h1, h2, h3, wrap_succ i (by omega)]
    cases b1 with
    | false => (first | exact .inr fun K => rfl | exact .inr fun _ => trivial | trivial)
    | true =>
      cases b2 with
      | true => (first | exact .inr fun K => rfl | exact .inr fun _ => trivial | trivial)
      | false =>
        cases b3 with
        | true => (first | exact .inr fun K => rfl | exact .inr fun _ => trivial | trivial)
        | false =>
          simp only [Tree.run, lf0, lfs, toInt_int, toBool_bool, toStr_str, xs_list, nil_list, fst_pair, snd_pair, List.length_map, Option.bind_some, nb_same, cond_true, cond_false, decide_true, decide_false, Bool.not_true]
          cases i with
          | zero =>
            have h0 : Rise c (0 + 1) := fun i hi => absurd hi (by omega)
            simp only [eq_false (show ¬ ((0 : Nat) : Int) > 0 by omega), if_false]; (first | exact .inl ⟨h0, fun K => rfl⟩ | exact .inl ⟨h0, fun _ => trivial⟩ | exact .inl h0)
          | succ j =>
            simp only [eq_true (show ((j + 1 : Nat) : Int) > 0 by omega), if_true, wrap_pred j (by omega), inb_nat (show j < c.xs.length by omega), Tree.run, lf0, lfs, toInt_int, toBool_bool, toStr_str, xs_list, nil_list, fst_pair, snd_pair, List.length_map, Option.bind_some, nb_same, cond_true, cond_false, decide_true, decide_false, Int.toNat_natCast]
            generalize hbb : (strLt _ _ || strEq _ _) = bb
            cases bb with
            | false =>
              rw [Bool.or_eq_false_iff] at hbb
              have hlt := lt_or (a := (rd c.xs (j + 1)).fst.toStr) (b := (rd c.xs j).fst.toStr) (by rw [hbb.1]; simp) (by rw [hbb.2]; simp)
              have h0 : Rise c (j + 1 + 1) := fun i hi => by
                rcases Nat.lt_succ_iff_lt_or_eq.1 hi with h | h
                · exact hr i h
                · obtain rfl : i = j := by omega
                  exact hlt
              (first | exact .inl ⟨h0, fun K => rfl⟩ | exact .inl ⟨h0, fun _ => trivial⟩ | exact .inl h0)
            | true => (first | exact .inr fun K => rfl | exact .inr fun _ => trivial | trivial)) (fun K => by
    simp only [f18_s26, Tree.run, Bool.cond_decide]
    simp only [Tree.run, lf0, lfs, toInt_int, toBool_bool, toStr_str, xs_list, nil_list, fst_pair, snd_pair, List.length_map, Option.bind_some, nb_same, cond_true, cond_false, decide_true, decide_false, eq_false (show ¬ (c.xs.length : Int) < c.xs.length by omega), if_false]) (fun i hi => absurd hi (by omega))
  simp only [f18_v, f18_t, Tree.run, Bool.cond_decide]
  simp only [Tree.run, lf0, lfs, toInt_int, toBool_bool, toStr_str, xs_list, nil_list, fst_pair, snd_pair, List.length_map, Option.bind_some, nb_same, cond_true, cond_false, decide_true, decide_false]
  rcases lp with ⟨h0, lp⟩ | lp
  · rw [show loopT f18_s26 FUEL [c, .int .i64 0] = _ from lp]; exact ⟨true, rfl, fun _ => h0⟩
  · rw [show loopT f18_s26 FUEL [c, .int .i64 0] = _ from lp]; exact ⟨false, rfl, fun h => by cases h⟩
theorem rise_lt {c : P} {n : Nat} (h : Rise c n) : ∀ d i, i + d + 1 < n → (rd c.xs i).fst.toStr.toList < (rd c.xs (i + d + 1)).fst.toStr.toList
  | 0, i, hi => h i hi
  | d + 1, i, hi => by
    have h1 := rise_lt h d i (by omega)
    have h2 := h (i + d + 1) (by omega)
    exact List.lt_trans h1 h2
theorem rise_ne {c : P} {n i j : Nat} (h : Rise c n) (hij : i < j) (hj : j < n) : (rd c.xs i).fst.toStr ≠ (rd c.xs j).fst.toStr := by
  intro he
  have := rise_lt h (j - i - 1) i (by omega)
  rw [show i + (j - i - 1) + 1 = j from by omega, he] at this
  exact List.lt_irrefl _ this
/-- Does one of the first n terms have the name? -/
def hasN (s : BA) (c : P) (n : Nat) : Bool := (List.range n).any fun i => decide ((rd c.xs i).fst.toStr = s)
theorem hasN_succ (s : BA) (c : P) (n : Nat) : hasN s c (n + 1) = (hasN s c n || decide ((rd c.xs n).fst.toStr = s)) := by
  unfold hasN
  rw [List.range_succ, List.any_append]; simp
theorem hasN_all (s : BA) (c : P) : hasN s c c.xs.length = hasC s c := by
  unfold hasN hasC
  rw [Bool.eq_iff_iff, List.any_eq_true, List.any_eq_true]
  constructor
  · rintro ⟨i, h1, h2⟩
    exact ⟨_, rd_in (List.mem_range.1 h1), h2⟩
  · rintro ⟨t, h1, h2⟩
    obtain ⟨i, hi, rfl⟩ := List.mem_iff_getElem.1 h1
    refine ⟨i, List.mem_range.2 hi, ?_⟩
    rw [rd_getD, List.getD_eq_getElem?_getD, List.getElem?_eq_getElem hi, Option.getD_some]; exact h2
theorem hasN_no {s : BA} {c : P} {n : Nat} (h : Rise c c.xs.length) (hn : n < c.xs.length) (he : (rd c.xs n).fst.toStr = s) : hasN s c n = false := by
  unfold hasN
  rw [List.any_eq_false]
  intro i hi
  have := rise_ne h (List.mem_range.1 hi) hn
  rw [he] at this
  simpa using this
theorem ba_beq {a b : BA} : (a == b) = true ↔ a = b := by
  cases a; cases b
  show (Array.isEqv _ _ _ = true) ↔ _
  simp
theorem ba_self (a : BA) : (a == a) = true := ba_beq.2 rfl
theorem ba_ne {a b : BA} (h : a ≠ b) : (a == b) = false := by
  cases h' : a == b
  · rfl
  · exact absurd (ba_beq.1 h') h
theorem look_same (k v d : P) : ∀ l : List P, lookP .str k d (updP .str k v l) = v
  | [] => by
    simp only [updP, lookP, fst_pair, snd_pair, eqP, ba_self, cond_true]
  | p :: r => by
    simp only [updP]
    cases he : eqP .str k p.fst with
    | true => simp only [cond_true, lookP, fst_pair, snd_pair, he]
    | false => simp only [cond_false, lookP, he]; exact look_same k v d r
theorem look_other (k k' v d : P) (h : k'.toStr ≠ k.toStr) : ∀ l : List P, lookP .str k' d (updP .str k v l) = lookP .str k' d l
  | [] => by
    have : (k'.toStr == k.toStr) = false := ba_ne h
    simp only [updP, lookP, fst_pair, snd_pair, eqP, this, cond_false]
  | p :: r => by
    simp only [updP]
    cases he : eqP .str k p.fst with
    | true =>
      have h1 : k.toStr = p.fst.toStr := ba_beq.1 he
      have : (k'.toStr == p.fst.toStr) = false := ba_ne (h1 ▸ h)
      simp only [cond_true, lookP, fst_pair, snd_pair, eqP, this, cond_false]
    | false =>
      simp only [cond_false, lookP]
      rw [look_other k k' v d h r]
/-- What is about the names, while a clash is put in. -/
def AbM (L : List P) (c : P) (i : Nat) (a : P) : Prop := ∀ s : BA, (lookP .str (.str s) (.list true []) a.xs).xs = ixs (hasB s) L L.length ++ (if hasN s c i = true then [I (L.length : Int)] else []) ∧ ((lookP .str (.str s) (.list true []) a.xs).isNil = true → (lookP .str (.str s) (.list true []) a.xs).xs = [])
theorem add_told2 (L a u c n lr : P) (hs : Sm c) (hc : Cf c) (hr : Rise c c.xs.length) (hL : L.xs.length ≤ 1000) (ha : AbL L.xs a) :
    ∃ a', AbL (L.xs ++ [item c n lr false]) a' ∧ f19_v [L, a, u, c, n, lr] = some (0, [I (L.xs.length : Int), .list false (L.xs ++ [item c n lr false]), a', u]) := by
  have hlen := hs.len
  obtain ⟨a', h1, lp⟩ := loop_inv (step := f19_s250) (β := P) (fun i a => AbM L.xs c i a) (fun i a => [I (L.xs.length : Int), c, I (c.xs.length : Int), I (i : Int), u, .list false (L.xs ++ [item c n lr false]), a])
    (fun a => (0, [I (L.xs.length : Int), u, .list false (L.xs ++ [item c n lr false]), a])) c.xs.length (by omega) (fun i a hi ha => by
      obtain ⟨s, hst⟩ := (hc.tms _ (rd_in hi)).str
      obtain ⟨k1, k2⟩ := ha s
      have hno := hasN_no hr hi (show (rd c.xs i).fst.toStr = s by rw [hst]; rfl)
      rw [hno] at k1
      simp only [Bool.false_eq_true, if_false, List.append_nil] at k1
      have hlk := ixs_len (hasB s) L.xs L.xs.length
      refine ⟨.list false (updP .str (rd c.xs i).fst (.list ((lookP .str (rd c.xs i).fst (.list true []) a.xs).isNil && false) ((lookP .str (rd c.xs i).fst (.list true []) a.xs).xs ++ [I (L.xs.length : Int)])) a.xs), fun s' => ?_, fun K => ?_⟩
      · simp only [xs_list, hst]
        by_cases he : s' = s
        · subst he
          rw [look_same, hasN_succ, hst]
          simp only [toStr_str, decide_true, Bool.or_true, if_true, xs_list, nil_list, k1, Bool.and_false]
          exact ⟨trivial, fun h => by cases h⟩
        · rw [look_other (.str s) (.str s') _ _ he, hasN_succ, hst]
          have : decide ((P.str s).toStr = s') = false := by rw [decide_eq_false_iff_not]; exact fun h => he h.symm
          rw [this, Bool.or_false]
          exact ha s'
      · simp only [f19_s250, Tree.run, Bool.cond_decide]
        simp only [Tree.run, lf0, lfs, toInt_int, toBool_bool, toStr_str, xs_list, nil_list, fst_pair, snd_pair, List.length_map, Option.bind_some, nb_same, cond_true, cond_false, decide_true, decide_false, eq_true (show (i : Int) < c.xs.length by omega), if_true, inb_nat hi, Int.toNat_natCast, hst, eq_true (show ((lookP .str (.str s) (.list true []) a.xs).xs.length + 1) * 8 ≤ 140737488355328 by rw [k1]; omega), wrap_succ i (by omega)]) (fun a ha K => by
      simp only [f19_s250, Tree.run, Bool.cond_decide]
      simp only [Tree.run, lf0, lfs, toInt_int, toBool_bool, toStr_str, xs_list, nil_list, fst_pair, snd_pair, List.length_map, Option.bind_some, nb_same, cond_true, cond_false, decide_true, decide_false, eq_false (show ¬ (c.xs.length : Int) < c.xs.length by omega), if_false]) a (fun s => by
      rw [show hasN s c 0 = false from rfl]
      simp only [Bool.false_eq_true, if_false, List.append_nil]
      exact ha s)
  refine ⟨a', fun s => ?_, ?_⟩
  · obtain ⟨q1, q2⟩ := h1 s
    refine ⟨?_, q2⟩
    rw [q1, hasN_all, List.length_append, List.length_singleton, ixs_succ, rd_last]
    congr 1
    exact ixs_cong fun j hj => by rw [rd_app hj]
  · simp only [f19_v, f19_t, Tree.run, Bool.cond_decide]
    simp only [Tree.run, lf0, lfs, toInt_int, toBool_bool, toStr_str, xs_list, nil_list, fst_pair, snd_pair, List.length_map, Option.bind_some, nb_same, cond_true, cond_false, decide_true, decide_false, cloned_told c hs hc, eq_true (show (L.xs.length + 1) * 40 ≤ 140737488355328 by omega), if_true, Bool.and_false]
    rw [show loopT f19_s250 FUEL [I (L.xs.length : Int), c, I (c.xs.length : Int), .int .i64 0, u, .list false (L.xs ++ [.pair (.list c.isNil c.xs) (.pair n (.pair lr (.pair (.bool false) .unit)))]), a] = _ from lp]
    simp only [Tree.run, lf0, lfs, toInt_int, toBool_bool, toStr_str, xs_list, nil_list, fst_pair, snd_pair, List.length_map, Option.bind_some, nb_same, cond_true, cond_false, decide_true, decide_false]
/-- Drop leaves the terms. -/
theorem ab_drop {L : List P} {a : P} {j : Nat} (h : AbL L a) (hj : j < L.length) : AbL (L.set j (goneP (rd L j))) a := fun s => by
  obtain ⟨h1, h2⟩ := h s
  refine ⟨?_, h2⟩
  rw [h1, List.length_set]
  refine ixs_cong fun i hi => ?_
  by_cases e : j = i
  · subst e; rw [rd_set_eq hj]; rfl
  · rw [rd_set_ne e]
theorem rget_told (x i : P) : f33_v [x, i] = some (0, if 0 ≤ i.toInt ∧ i.toInt < x.fst.xs.length then [rd x.fst.xs i.toInt.toNat, .bool true] else [.pair (.list true []) (.pair (I 0) (.pair (.bool false) (.pair (.bool false) .unit))), .bool false]) := by
  simp only [f33_v, f33_t, Tree.run, Bool.cond_decide]
  simp only [Tree.run, lf0, lfs, toInt_int, toBool_bool, toStr_str, xs_list, nil_list, fst_pair, snd_pair, List.length_map, Option.bind_some, nb_same, cond_true, cond_false, decide_true, decide_false]
  by_cases h1 : i.toInt < 0
  · rw [if_neg (show ¬ (0 ≤ i.toInt ∧ i.toInt < x.fst.xs.length) by omega)]
    simp only [eq_true h1, if_true]
  · by_cases h2 : i.toInt ≥ x.fst.xs.length
    · rw [if_neg (show ¬ (0 ≤ i.toInt ∧ i.toInt < x.fst.xs.length) by omega)]
      simp only [eq_false h1, if_false, eq_true h2, if_true]
    · have hin : inb i.toInt x.fst.xs.length = true := by unfold inb; exact decide_eq_true ⟨by omega, by omega⟩
      rw [if_pos (show 0 ≤ i.toInt ∧ i.toInt < (x.fst.xs.length : Int) by omega)]
      simp only [eq_false h1, if_false, eq_false h2, hin]; rfl
theorem rdrop_told (b : Bool) (L : List P) (r d : P) (hL : L.length ≤ 1000) :
    ∃ b', f31_1_v [.pair (.list b L) r, d] = some (0, [.bool (dropB L d.toInt), .pair (.list b' (bif dropB L d.toInt then L.set d.toInt.toNat (goneP (rd L d.toInt.toNat)) else L)) r]) := by
  have hg := rget_told (.pair (.list b L) r) d
  by_cases h1 : 0 ≤ d.toInt ∧ d.toInt < (L.length : Int)
  · have hin : inb d.toInt L.length = true := by unfold inb; exact decide_eq_true ⟨by omega, by omega⟩
    have hd : decide (0 ≤ d.toInt ∧ d.toInt < (L.length : Int)) = true := decide_eq_true h1
    rw [if_pos (show 0 ≤ d.toInt ∧ d.toInt < (((P.pair (.list b L) r).fst.xs.length : Nat) : Int) from h1)] at hg
    simp only [fst_pair, xs_list] at hg
    simp only [f31_1_v, f31_1_t, f31_1_s1, Tree.run, Bool.cond_decide]
    simp only [Tree.run, lf0, lfs, toInt_int, toBool_bool, toStr_str, xs_list, nil_list, fst_pair, snd_pair, List.length_map, Option.bind_some, nb_same, cond_true, cond_false, decide_true, decide_false, hg, Bool.not_true, dropB, hd, Bool.true_and, hin, eq_true (show (0 + L.length) * 40 ≤ 140737488355328 by omega), if_true]
    cases (rd L d.toInt.toNat).snd.snd.fst.toBool with
    | false => exact ⟨b, rfl⟩
    | true =>
      cases (rd L d.toInt.toNat).snd.snd.snd.fst.toBool with
      | true => exact ⟨b, rfl⟩
      | false => exact ⟨_, rfl⟩
  · have hd : decide (0 ≤ d.toInt ∧ d.toInt < (L.length : Int)) = false := decide_eq_false h1
    rw [if_neg (show ¬ (0 ≤ d.toInt ∧ d.toInt < (((P.pair (.list b L) r).fst.xs.length : Nat) : Int)) from h1)] at hg
    simp only [f31_1_v, f31_1_t, f31_1_s1, Tree.run, Bool.cond_decide]
    simp only [Tree.run, lf0, lfs, toInt_int, toBool_bool, toStr_str, xs_list, nil_list, fst_pair, snd_pair, List.length_map, Option.bind_some, nb_same, cond_true, cond_false, decide_true, decide_false, hg, Bool.not_false, dropB, hd, Bool.false_and]
    exact ⟨b, rfl⟩
theorem radd_told (b : Bool) (L : List P) (r c n lr : P) (hL : L.length ≤ 1000) :
    ∃ b', f32_v [.pair (.list b L) r, c, n, lr] = some (0, [I (L.length : Int), .list b' (L ++ [.pair c (.pair n (.pair lr (.pair (.bool false) .unit)))]), r]) := by
  have hw : IntKind.i64.wrap (((L ++ [P.pair c (.pair n (.pair lr (.pair (.bool false) .unit)))]).length : Int) - 1) = (L.length : Int) := by
    rw [List.length_append, List.length_singleton]; exact wrap_pred L.length (by omega)
  simp only [f32_v, f32_t, Tree.run, Bool.cond_decide]
  simp only [Tree.run, lf0, lfs, toInt_int, toBool_bool, toStr_str, xs_list, nil_list, fst_pair, snd_pair, List.length_map, Option.bind_some, nb_same, cond_true, cond_false, decide_true, decide_false, hw, eq_true (show (0 + L.length) * 40 ≤ 140737488355328 by omega), eq_true (show (L.length + 1) * 40 ≤ 140737488355328 by omega), if_true]
  exact ⟨_, rfl⟩
end Go.Proofs.Ytjemihhhkhdbeaa.Mn
