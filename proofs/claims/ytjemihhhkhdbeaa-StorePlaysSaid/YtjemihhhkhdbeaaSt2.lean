/- Stores: what the program's functions tell. Conditions: none but those each states. -/
import Derived.Test.YtjemihhhkhdbeaaSt1
import Derived.Test.YtjemihhhkhdbeaaE4
set_option linter.unusedVariables false
set_option linter.unusedSimpArgs false
namespace Go.Proofs.Ytjemihhhkhdbeaa.Mn
open Go Go.Eng
abbrev spSh : Sh := .pair (.int .i64) (.pair (.int .i64) .unit)
abbrev tmSh : Sh := .pair .str (.pair (.slice spSh) (.pair .bool .unit))
/-- A term's form. -/
structure Tf (t : P) : Prop where
  eta : P.pair t.fst (.pair (.list t.snd.fst.isNil t.snd.fst.xs) t.snd.snd) = t
  nil : t.snd.fst.isNil = true → t.snd.fst.xs = []
  str : ∃ s, t.fst = .str s
structure Cf (c : P) : Prop where
  eta : P.list c.isNil c.xs = c
  nil : c.isNil = true → c.xs = []
  tms : ∀ t ∈ c.xs, Tf t
theorem tf_of {t : P} (h : Cn tmSh t) : Tf t := by
  obtain ⟨x, y, rfl, ⟨s, rfl⟩, u, v, rfl, ⟨n, xs, rfl, h1, _⟩, h2⟩ := h
  exact ⟨rfl, h1, s, rfl⟩
theorem cf_of {c : P} (h : Cn (.slice tmSh) c) : Cf c := by
  obtain ⟨n, xs, rfl, h1, h2⟩ := h
  exact ⟨rfl, h1, fun t ht => tf_of (h2 t ht)⟩
theorem cloneT_told (l : P) (hl : l.xs.length ≤ 1000000) (hn : l.isNil = true → l.xs = []) : f166_v [l] = some (0, [.list l.isNil l.xs]) := by
  simp only [f166_v, f166_t, f166_s1, Tree.run, Bool.cond_decide]
  simp only [Tree.run, lf0, lfs, toInt_int, toBool_bool, toStr_str, xs_list, nil_list, fst_pair, snd_pair, List.length_map, Option.bind_some, nb_same, cond_true, cond_false, decide_true, decide_false]
  cases hb : l.isNil with
  | true => simp only [Tree.run, lf0, lfs, toInt_int, toBool_bool, toStr_str, xs_list, nil_list, fst_pair, snd_pair, List.length_map, Option.bind_some, nb_same, cond_true, cond_false, decide_true, decide_false, hn hb]
  | false => simp only [Tree.run, lf0, lfs, toInt_int, toBool_bool, toStr_str, xs_list, nil_list, fst_pair, snd_pair, List.length_map, Option.bind_some, nb_same, cond_true, cond_false, decide_true, decide_false, eq_true (show (0 + l.xs.length) * 48 ≤ 140737488355328 by omega), if_true]
theorem cloneS_told (l : P) (hl : l.xs.length ≤ 1000000) (hn : l.isNil = true → l.xs = []) : f167_v [l] = some (0, [.list l.isNil l.xs]) := by
  simp only [f167_v, f167_t, f167_s1, Tree.run, Bool.cond_decide]
  simp only [Tree.run, lf0, lfs, toInt_int, toBool_bool, toStr_str, xs_list, nil_list, fst_pair, snd_pair, List.length_map, Option.bind_some, nb_same, cond_true, cond_false, decide_true, decide_false]
  cases hb : l.isNil with
  | true => simp only [Tree.run, lf0, lfs, toInt_int, toBool_bool, toStr_str, xs_list, nil_list, fst_pair, snd_pair, List.length_map, Option.bind_some, nb_same, cond_true, cond_false, decide_true, decide_false, hn hb]
  | false => simp only [Tree.run, lf0, lfs, toInt_int, toBool_bool, toStr_str, xs_list, nil_list, fst_pair, snd_pair, List.length_map, Option.bind_some, nb_same, cond_true, cond_false, decide_true, decide_false, eq_true (show (0 + l.xs.length) * 16 ≤ 140737488355328 by omega), if_true]
theorem set_rd {xs : List P} {i : Nat} (h : i < xs.length) : xs.set i (rd xs i) = xs := by
  rw [rd_getD, List.getD_eq_getElem?_getD, List.getElem?_eq_getElem h]; simp
theorem cloned_told (c : P) (hs : Sm c) (hc : Cf c) : f108_v [c] = some (0, [.list c.isNil c.xs]) := by
  have hlen := hs.len
  have lp := loop_scan (step := f108_s58) (st := fun i => [I (c.xs.length : Int), I (i : Int), .list c.isNil c.xs]) (y1 := (0, [.list c.isNil c.xs])) (bad := fun _ => none) c.xs.length (by omega) (fun i hi K => by
    have hm := rd_in hi
    have ht := hc.tms _ hm
    have hq := (hs.sp _ hm).1
    have hset : c.xs.set i (.pair (rd c.xs i).fst (.pair (.list (rd c.xs i).snd.fst.isNil (rd c.xs i).snd.fst.xs) (rd c.xs i).snd.snd)) = c.xs := by rw [ht.eta, set_rd hi]
    simp only [f108_s58, Tree.run, Bool.cond_decide]
    simp only [Tree.run, lf0, lfs, toInt_int, toBool_bool, toStr_str, xs_list, nil_list, fst_pair, snd_pair, List.length_map, Option.bind_some, nb_same, cond_true, cond_false, decide_true, decide_false, eq_true (show (i : Int) < c.xs.length by omega), if_true, inb_nat hi, Int.toNat_natCast, cloneS_told _ (by omega : (rd c.xs i).snd.fst.xs.length ≤ 1000000) ht.nil, hset, wrap_succ i (by omega)]) (fun K => by
    simp only [f108_s58, Tree.run, Bool.cond_decide]
    simp only [Tree.run, lf0, lfs, toInt_int, toBool_bool, toStr_str, xs_list, nil_list, fst_pair, snd_pair, List.length_map, Option.bind_some, nb_same, cond_true, cond_false, decide_true, decide_false, eq_false (show ¬ (c.xs.length : Int) < c.xs.length by omega), if_false])
  have hn : ((List.range' 0 c.xs.length).findSome? fun _ => (none : Option (Nat × List P))) = none := by simp
  rw [hn] at lp
  simp only [f108_v, f108_t, Tree.run, Bool.cond_decide]
  simp only [Tree.run, lf0, lfs, toInt_int, toBool_bool, toStr_str, xs_list, nil_list, fst_pair, snd_pair, List.length_map, Option.bind_some, nb_same, cond_true, cond_false, decide_true, decide_false, cloneT_told c (by omega) hc.nil]
  rw [show loopT f108_s58 FUEL [I (c.xs.length : Int), .int .i64 0, .list c.isNil c.xs] = _ from lp]
  simp only [Tree.run, lf0, lfs, toInt_int, toBool_bool, toStr_str, xs_list, nil_list, fst_pair, snd_pair, List.length_map, Option.bind_some, nb_same, cond_true, cond_false, decide_true, decide_false, Option.getD_none]
/-! ### what is about a name -/
def Ab (b : Nat) (a : P) : Prop := ∀ k, (lookP .str k (.list true []) a.xs).xs.length ≤ b
theorem Ab.mono {a : P} {b b' : Nat} (h : Ab b a) (hb : b ≤ b') : Ab b' a := fun k => Nat.le_trans (h k) hb
theorem look_upd (s : Sh) (k v k' d : P) : ∀ l : List P, lookP s k' d (updP s k v l) = v ∨ lookP s k' d (updP s k v l) = lookP s k' d l
  | [] => by
    simp only [updP, lookP, fst_pair, snd_pair]
    cases eqP s k' k
    · exact .inr rfl
    · exact .inl rfl
  | p :: r => by
    simp only [updP]
    cases eqP s k p.fst with
    | true =>
      simp only [cond_true, lookP, fst_pair, snd_pair]
      cases eqP s k' p.fst
      · exact .inr rfl
      · exact .inl rfl
    | false =>
      simp only [cond_false, lookP]
      cases eqP s k' p.fst
      · simpa using look_upd s k v k' d r
      · exact .inr rfl
/-- An item. -/
def item (c n lr : P) (g : Bool) : P := .pair (.list c.isNil c.xs) (.pair n (.pair lr (.pair (.bool g) .unit)))
theorem add_told (L a u c n lr : P) (b : Nat) (hs : Sm c) (hc : Cf c) (hL : L.xs.length ≤ 1000) (hb : b ≤ 1000000) (ha : Ab b a) :
    ∃ a', Ab (b + 40) a' ∧ f19_v [L, a, u, c, n, lr] = some (0, [I (L.xs.length : Int), .list false (L.xs ++ [item c n lr false]), a', u]) := by
  have hlen := hs.len
  obtain ⟨a', h1, lp⟩ := loop_inv (step := f19_s250) (β := P) (fun i a => Ab (b + i) a) (fun i a => [I (L.xs.length : Int), c, I (c.xs.length : Int), I (i : Int), u, .list false (L.xs ++ [item c n lr false]), a])
    (fun a => (0, [I (L.xs.length : Int), u, .list false (L.xs ++ [item c n lr false]), a])) c.xs.length (by omega) (fun i a hi ha => by
      have hk := ha (rd c.xs i).fst
      refine ⟨.list false (updP .str (rd c.xs i).fst (.list ((lookP .str (rd c.xs i).fst (.list true []) a.xs).isNil && false) ((lookP .str (rd c.xs i).fst (.list true []) a.xs).xs ++ [I (L.xs.length : Int)])) a.xs), fun k => ?_, fun K => ?_⟩
      · rcases look_upd .str (rd c.xs i).fst (.list ((lookP .str (rd c.xs i).fst (.list true []) a.xs).isNil && false) ((lookP .str (rd c.xs i).fst (.list true []) a.xs).xs ++ [I (L.xs.length : Int)])) k (.list true []) a.xs with h | h
        · show (lookP .str k (.list true []) (updP .str _ _ a.xs)).xs.length ≤ _
          rw [h]; simp only [xs_list, List.length_append, List.length_singleton]; omega
        · show (lookP .str k (.list true []) (updP .str _ _ a.xs)).xs.length ≤ _
          rw [h]; have := ha k; omega
      · simp only [f19_s250, Tree.run, Bool.cond_decide]
        simp only [Tree.run, lf0, lfs, toInt_int, toBool_bool, toStr_str, xs_list, nil_list, fst_pair, snd_pair, List.length_map, Option.bind_some, nb_same, cond_true, cond_false, decide_true, decide_false, eq_true (show (i : Int) < c.xs.length by omega), if_true, inb_nat hi, Int.toNat_natCast, eq_true (show ((lookP .str (rd c.xs i).fst (.list true []) a.xs).xs.length + 1) * 8 ≤ 140737488355328 by omega), wrap_succ i (by omega)]) (fun a ha K => by
      simp only [f19_s250, Tree.run, Bool.cond_decide]
      simp only [Tree.run, lf0, lfs, toInt_int, toBool_bool, toStr_str, xs_list, nil_list, fst_pair, snd_pair, List.length_map, Option.bind_some, nb_same, cond_true, cond_false, decide_true, decide_false, eq_false (show ¬ (c.xs.length : Int) < c.xs.length by omega), if_false]) a (by simpa using ha)
  refine ⟨a', h1.mono (by omega), ?_⟩
  simp only [f19_v, f19_t, Tree.run, Bool.cond_decide]
  simp only [Tree.run, lf0, lfs, toInt_int, toBool_bool, toStr_str, xs_list, nil_list, fst_pair, snd_pair, List.length_map, Option.bind_some, nb_same, cond_true, cond_false, decide_true, decide_false, cloned_told c hs hc, eq_true (show (L.xs.length + 1) * 40 ≤ 140737488355328 by omega), if_true, Bool.and_false]
  rw [show loopT f19_s250 FUEL [I (L.xs.length : Int), c, I (c.xs.length : Int), .int .i64 0, u, .list false (L.xs ++ [.pair (.list c.isNil c.xs) (.pair n (.pair lr (.pair (.bool false) .unit)))]), a] = _ from lp]
  simp only [Tree.run, lf0, lfs, toInt_int, toBool_bool, toStr_str, xs_list, nil_list, fst_pair, snd_pair, List.length_map, Option.bind_some, nb_same, cond_true, cond_false, decide_true, decide_false]
theorem len_told (L a u : P) : f34_v [L, a, u] = some (0, [I (L.xs.length : Int)]) := by
  simp only [f34_v, f34_t, Tree.run, Bool.cond_decide]
  simp only [Tree.run, lf0, lfs, toInt_int, toBool_bool, toStr_str, xs_list, nil_list, fst_pair, snd_pair, List.length_map, Option.bind_some, nb_same, cond_true, cond_false, decide_true, decide_false]
theorem get_told (L a u c n lr : P) (g : Bool) (i : Nat) (hL : L.xs.length ≤ 1000) (hi : i < L.xs.length) (hx : rd L.xs i = item c n lr g) (hs : Sm c) (hc : Cf c) :
    f21_v [L, a, u, I (i : Int)] = some (0, [.list c.isNil c.xs, .pair n (.pair lr (.pair (.bool g) .unit)), .bool true, .list L.isNil L.xs, a, u]) := by
  have hcc := cloned_told (.list c.isNil c.xs) ⟨hs.len, hs.sp⟩ ⟨rfl, hc.nil, hc.tms⟩
  simp only [f21_v, f21_t, f21_s1, Tree.run, Bool.cond_decide]
  simp only [Tree.run, lf0, lfs, toInt_int, toBool_bool, toStr_str, xs_list, nil_list, fst_pair, snd_pair, List.length_map, Option.bind_some, nb_same, cond_true, cond_false, decide_true, decide_false, eq_false (show ¬ (i : Int) < 0 by omega), if_false, len_told, eq_false (show ¬ (i : Int) ≥ L.xs.length by omega), inb_nat hi, Int.toNat_natCast, hx, item, hcc]
/-- What Drop does. -/
def dropB (L : List P) (d : Int) : Bool := decide (0 ≤ d ∧ d < L.length) && ((rd L d.toNat).snd.snd.fst.toBool && !(rd L d.toNat).snd.snd.snd.fst.toBool)
def goneP (p : P) : P := .pair p.fst (.pair p.snd.fst (.pair p.snd.snd.fst (.pair (.bool true) p.snd.snd.snd.snd)))
theorem drop_told (L a u d : P) (hL : L.xs.length ≤ 1000) :
    f20_v [L, a, u, d] = some (0, [.bool (dropB L.xs d.toInt), .list L.isNil (bif dropB L.xs d.toInt then L.xs.set d.toInt.toNat (goneP (rd L.xs d.toInt.toNat)) else L.xs)]) := by
  simp only [f20_v, f20_t, Tree.run, Bool.cond_decide]
  by_cases h1 : d.toInt < 0
  · have : dropB L.xs d.toInt = false := by unfold dropB; rw [decide_eq_false (by omega)]; rfl
    simp only [Tree.run, lf0, lfs, toInt_int, toBool_bool, toStr_str, xs_list, nil_list, fst_pair, snd_pair, List.length_map, Option.bind_some, nb_same, cond_true, cond_false, decide_true, decide_false, eq_true h1, if_true, this]
  · by_cases h2 : d.toInt ≥ L.xs.length
    · have : dropB L.xs d.toInt = false := by unfold dropB; rw [decide_eq_false (by omega)]; rfl
      simp only [Tree.run, lf0, lfs, toInt_int, toBool_bool, toStr_str, xs_list, nil_list, fst_pair, snd_pair, List.length_map, Option.bind_some, nb_same, cond_true, cond_false, decide_true, decide_false, eq_false h1, if_false, len_told, eq_true h2, if_true, this]
    · have hin : inb d.toInt L.xs.length = true := by unfold inb; exact decide_eq_true ⟨by omega, by omega⟩
      have hd : decide (0 ≤ d.toInt ∧ d.toInt < (L.xs.length : Int)) = true := decide_eq_true ⟨by omega, by omega⟩
      simp only [Tree.run, lf0, lfs, toInt_int, toBool_bool, toStr_str, xs_list, nil_list, fst_pair, snd_pair, List.length_map, Option.bind_some, nb_same, cond_true, cond_false, decide_true, decide_false, eq_false h1, if_false, len_told, eq_false h2, hin, dropB, hd, Bool.true_and]
      cases (rd L.xs d.toInt.toNat).snd.snd.fst.toBool <;> cases (rd L.xs d.toInt.toNat).snd.snd.snd.fst.toBool <;> rfl
/-- Those that live, from n on. -/
def liveF : Nat → List P → List P
  | _, [] => []
  | n, p :: r => if p.snd.snd.snd.fst.toBool = true then liveF (n + 1) r else I (n : Int) :: liveF (n + 1) r
theorem live_snoc (p : P) : ∀ (l : List P) (n : Nat), liveF n (l ++ [p]) = liveF n l ++ (if p.snd.snd.snd.fst.toBool = true then [] else [I ((n + l.length : Nat) : Int)])
  | [], n => by simp only [List.nil_append, liveF, List.length_nil, Nat.add_zero]
  | q :: r, n => by
    simp only [List.cons_append, liveF, live_snoc p r (n + 1), List.length_cons]
    rw [show n + 1 + r.length = n + (r.length + 1) from by omega]
    split <;> rfl
theorem live_len : ∀ (l : List P) (n : Nat), (liveF n l).length ≤ l.length
  | [], n => Nat.le_refl _
  | p :: r, n => by
    have := live_len r (n + 1)
    simp only [liveF, List.length_cons]
    split
    · omega
    · simp only [List.length_cons]; omega
theorem live_told (L a u : P) (hL : L.xs.length ≤ 1000) : ∃ b, f23_v [L, a, u] = some (0, [.list b (liveF 0 L.xs), .list L.isNil L.xs, a, u]) := by
  obtain ⟨b, h1, lp⟩ := loop_inv (step := f23_s58) (β := Bool) (fun i b => True) (fun i b => [I (L.xs.length : Int), I (i : Int), u, .list b (liveF 0 (L.xs.take i)), .list L.isNil L.xs, a])
    (fun b => (0, [u, .list b (liveF 0 L.xs), .list L.isNil L.xs, a])) L.xs.length (by omega) (fun i b hi _ => by
      have ht : L.xs.take (i + 1) = L.xs.take i ++ [rd L.xs i] := by
        rw [List.take_succ_eq_append_getElem hi, rd_getD, List.getD_eq_getElem?_getD, List.getElem?_eq_getElem hi]; rfl
      have hl : (L.xs.take i).length = i := by rw [List.length_take]; omega
      have hll := live_len (L.xs.take i) 0
      have hsn := live_snoc (rd L.xs i) (L.xs.take i) 0
      rw [hl, Nat.zero_add] at hsn
      cases hg : (rd L.xs i).snd.snd.snd.fst.toBool with
      | true =>
        refine ⟨b, trivial, fun K => ?_⟩
        rw [hg] at hsn
        simp only [f23_s58, Tree.run, Bool.cond_decide]
        simp only [Tree.run, lf0, lfs, toInt_int, toBool_bool, toStr_str, xs_list, nil_list, fst_pair, snd_pair, List.length_map, Option.bind_some, nb_same, cond_true, cond_false, decide_true, decide_false, eq_true (show (i : Int) < L.xs.length by omega), if_true, inb_nat hi, Int.toNat_natCast, hg, Bool.not_true, wrap_succ i (by omega), ht, hsn, List.append_nil]
      | false =>
        refine ⟨false, trivial, fun K => ?_⟩
        rw [hg] at hsn
        simp only [f23_s58, Tree.run, Bool.cond_decide]
        simp only [Tree.run, lf0, lfs, toInt_int, toBool_bool, toStr_str, xs_list, nil_list, fst_pair, snd_pair, List.length_map, Option.bind_some, nb_same, cond_true, cond_false, decide_true, decide_false, eq_true (show (i : Int) < L.xs.length by omega), if_true, inb_nat hi, Int.toNat_natCast, hg, Bool.not_false, eq_true (show ((liveF 0 (L.xs.take i)).length + 1) * 8 ≤ 140737488355328 by omega), Bool.and_false, wrap_succ i (by omega), ht, hsn, Bool.false_eq_true, if_false]) (fun b _ K => by
      simp only [f23_s58, Tree.run, Bool.cond_decide]
      simp only [Tree.run, lf0, lfs, toInt_int, toBool_bool, toStr_str, xs_list, nil_list, fst_pair, snd_pair, List.length_map, Option.bind_some, nb_same, cond_true, cond_false, decide_true, decide_false, eq_false (show ¬ (L.xs.length : Int) < L.xs.length by omega), if_false, List.take_length]) true trivial
  refine ⟨b, ?_⟩
  simp only [f23_v, f23_t, Tree.run, Bool.cond_decide]
  simp only [Tree.run, lf0, lfs, toInt_int, toBool_bool, toStr_str, xs_list, nil_list, fst_pair, snd_pair, List.length_map, Option.bind_some, nb_same, cond_true, cond_false, decide_true, decide_false, len_told]
  rw [show loopT f23_s58 FUEL [I (L.xs.length : Int), .int .i64 0, u, .list true [], .list L.isNil L.xs, a] = _ from lp]
  simp only [Tree.run, lf0, lfs, toInt_int, toBool_bool, toStr_str, xs_list, nil_list, fst_pair, snd_pair, List.length_map, Option.bind_some, nb_same, cond_true, cond_false, decide_true, decide_false]
theorem new_told : f17_v [] = some (0, [.list false [], .unit]) := by
  simp only [f17_v, f17_t, Tree.run, Bool.cond_decide]
theorem sm_nil : Sm (.list true []) := ⟨by simp [P.xs], fun t ht => by cases ht⟩
theorem cf_nil : Cf (.list true []) := ⟨rfl, fun _ => rfl, fun t ht => by cases ht⟩
theorem awake24_told : f16_v [] = some (0, [.bool true]) := by
  obtain ⟨a1, h1, e1⟩ := add_told (.list true []) (.list false []) .unit (.list true []) (I 5) (.bool false) 0 sm_nil cf_nil (by simp [P.xs]) (by omega) (fun k => by simp [lookP, P.xs])
  obtain ⟨a2, h2, e2⟩ := add_told (.list false [item (.list true []) (I 5) (.bool false) false]) a1 .unit (.list true []) (I 6) (.bool true) 40 sm_nil cf_nil (by simp [P.xs]) (by omega) (by simpa using h1)
  have d1 := drop_told (.list false [item (.list true []) (I 5) (.bool false) false, item (.list true []) (I 6) (.bool true) false]) a2 .unit (I 0) (by simp [P.xs])
  have d2 := drop_told (.list false [item (.list true []) (I 5) (.bool false) false, item (.list true []) (I 6) (.bool true) false]) a2 .unit (I 1) (by simp [P.xs])
  obtain ⟨b, l1⟩ := live_told (.list false [item (.list true []) (I 5) (.bool false) false, item (.list true []) (I 6) (.bool true) true]) a2 .unit (by simp [P.xs])
  simp only [f16_v, f16_t, Tree.run, Bool.cond_decide]
  simp only [Tree.run, lf0, lfs, toInt_int, toBool_bool, toStr_str, xs_list, nil_list, fst_pair, snd_pair, List.length_map, Option.bind_some, nb_same, cond_true, cond_false, decide_true, decide_false, new_told]
  rw [show f19_v [.list true [], .list false [], .unit, .list true [], .int .i64 5, .bool false] = _ from e1]
  simp only [Tree.run, lf0, lfs, toInt_int, toBool_bool, toStr_str, xs_list, nil_list, fst_pair, snd_pair, List.length_map, Option.bind_some, nb_same, cond_true, cond_false, decide_true, decide_false, List.nil_append]
  rw [show f19_v [.list false [item (.list true []) (I 5) (.bool false) false], a1, .unit, .list true [], .int .i64 6, .bool true] = _ from e2]
  simp only [Tree.run, lf0, lfs, toInt_int, toBool_bool, toStr_str, xs_list, nil_list, fst_pair, snd_pair, List.length_map, Option.bind_some, nb_same, cond_true, cond_false, decide_true, decide_false, List.cons_append, List.nil_append]
  rw [show f20_v [.list false [item (.list true []) (I 5) (.bool false) false, item (.list true []) (I 6) (.bool true) false], a2, .unit, .int .i64 0] = _ from d1]
  have z1 : dropB [item (.list true []) (I 5) (.bool false) false, item (.list true []) (I 6) (.bool true) false] 0 = false := rfl
  have z2 : dropB [item (.list true []) (I 5) (.bool false) false, item (.list true []) (I 6) (.bool true) false] 1 = true := rfl
  simp only [Tree.run, lf0, lfs, toInt_int, toBool_bool, toStr_str, xs_list, nil_list, fst_pair, snd_pair, List.length_map, Option.bind_some, nb_same, cond_true, cond_false, decide_true, decide_false, z1]
  rw [show f20_v [.list false [item (.list true []) (I 5) (.bool false) false, item (.list true []) (I 6) (.bool true) false], a2, .unit, .int .i64 1] = _ from d2]
  simp only [Tree.run, lf0, lfs, toInt_int, toBool_bool, toStr_str, xs_list, nil_list, fst_pair, snd_pair, List.length_map, Option.bind_some, nb_same, cond_true, cond_false, decide_true, decide_false, z2]
  rw [show f23_v [.list false ([item (.list true []) (I 5) (.bool false) false, item (.list true []) (I 6) (.bool true) false].set (1 : Int).toNat (goneP (rd [item (.list true []) (I 5) (.bool false) false, item (.list true []) (I 6) (.bool true) false] (1 : Int).toNat))), a2, .unit] = _ from l1]
  rfl
end Go.Proofs.Ytjemihhhkhdbeaa.Mn
