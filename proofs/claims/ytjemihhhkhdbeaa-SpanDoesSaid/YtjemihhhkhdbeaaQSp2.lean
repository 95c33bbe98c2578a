/- What package span's unions, meets and complements tell. Conditions: none but those each states. -/
import Derived.Test.YtjemihhhkhdbeaaQSp
set_option linter.unusedVariables false
set_option linter.unusedSimpArgs false
namespace Go.Proofs.Ytjemihhhkhdbeaa.Sp
open Go Go.Eng
theorem mmx_max (a b : Int) : mmx true a b = max a b := by unfold mmx; simp only [if_true]; split <;> omega
theorem mmx_min (a b : Int) : mmx false a b = min a b := by unfold mmx; simp only [Bool.false_eq_true, if_false]; split <;> omega
theorem set_last {α : Type} (i : List α) (x y : α) : (i ++ [x]).set i.length y = i ++ [y] := by simp
theorem add_told (n : Bool) (l : List S123) (s : S123) (hl : l.length < 8796093022207) : ∃ m, f157_v [L n l, enc s] = some (0, [L m (addR l s)]) := by
  simp only [f157_v, f157_t, f157_s1, Tree.run, Bool.cond_decide]
  simp only [Tree.run, lf0, lfs, toInt_int, toBool_bool, toStr_str, xs_list, nil_list, fst_pair, snd_pair, List.length_map, Option.bind_some, nb_same, cond_true, cond_false]
  rcases snoc_cases l with rfl | ⟨i, x, rfl⟩
  · refine ⟨n && false, ?_⟩
    simp only [List.length_nil, wrap_of (x := ((0 : Nat) : Int) - 1) (by omega) (by omega), eq_false (show ¬ ((0 : Nat) : Int) - 1 ≥ 0 by omega), if_false, eq_true (show (0 + 1) * 16 ≤ 140737488355328 by omega), if_true, Tree.run, lf0, lfs, toInt_int, toBool_bool, toStr_str, xs_list, nil_list, fst_pair, snd_pair, List.length_map, Option.bind_some, nb_same, cond_true, cond_false, List.map_nil, List.nil_append]
    rfl
  · have hlen : ((i ++ [x]).length : Int) - 1 = (i.length : Int) := by simp
    have hlt : i.length < (i ++ [x]).length := by simp
    have hl' : i.length + 1 < 8796093022207 := by simpa using hl
    have hrd : rd_T123 (i ++ [x]) (i.length : Int) = x := by rw [rd_nat]; simp
    rw [addR_snoc]
    simp only [hlen, wrap_of (x := (i.length : Int)) (by omega) (by omega), eq_true (show (i.length : Int) ≥ 0 by omega), if_true, inb_nat hlt, Tree.run, lf0, lfs, toInt_int, toBool_bool, toStr_str, xs_list, nil_list, fst_pair, snd_pair, List.length_map, Option.bind_some, nb_same, cond_true, cond_false, Int.toNat_natCast, rd_enc hlt, hrd, enc, mmx_max]
    by_cases h : s.f0 ≤ x.f1
    · refine ⟨n, ?_⟩
      simp only [eq_true h, if_true, Tree.run, lf0, lfs, toInt_int, toBool_bool, toStr_str, xs_list, nil_list, fst_pair, snd_pair, List.length_map, Option.bind_some, nb_same, cond_true, cond_false]
      simp only [L, List.map_append, List.map_cons, List.map_nil, enc]
      rw [show i.length = (i.map enc).length by simp, set_last]
    · refine ⟨n && false, ?_⟩
      simp only [eq_false h, if_false, eq_true (show ((i ++ [x]).length + 1) * 16 ≤ 140737488355328 by simp; omega), if_true, Tree.run, lf0, lfs, toInt_int, toBool_bool, toStr_str, xs_list, nil_list, fst_pair, snd_pair, List.length_map, Option.bind_some, nb_same, cond_true, cond_false]
      simp only [L, List.map_append, List.map_cons, List.map_nil, enc]
def KUnion : Bool → Bool → Bool := fun x y => x || y
theorem told_Union (x y : Bool) : f162_v [.bool x, .bool y] = some (0, [.bool (KUnion x y)]) := by
  cases x <;> cases y <;> rfl
theorem kept_Union_told (n m : Bool) {a b : List S123} (c : P) (ha : Chk (-1) a) (hb : Chk (-1) b) : ∀ (d : Nat) (q : Bool) (out : List S123) (at_ : Int), (1000000000 - at_).toNat ≤ d → 0 ≤ at_ → KInv KUnion a b out at_ →
    ∃ q' r, Lp (d + 1) f161_2_s58 [L n a, L m b, c, I at_, L q out] (0, [L q' r]) ∧ IsKept KUnion a b r := by
  intro d
  induction d with
  | zero =>
    intro q out at_ hd h0 hi
    refine ⟨q, out, Lp.done fun K => ?_, hi.done (by omega)⟩
    simp only [f161_2_s58, Tree.run, Bool.cond_decide]
    simp only [Tree.run, lf0, lfs, toInt_int, toBool_bool, toStr_str, xs_list, nil_list, fst_pair, snd_pair, List.length_map, Option.bind_some, nb_same, cond_true, cond_false, eq_false (show ¬ at_ < 1000000000 by omega), if_false]
  | succ d ih =>
    intro q out at_ hd h0 hi
    by_cases hlt : at_ < 1000000000
    · have na := next_gt ha hlt
      have nb := next_gt hb hlt
      have hs := hi.step ha hb h0 hlt
      have hlen : out.length < 8796093022207 := by have := chk_len hi.upto.chk; omega
      by_cases hc : KUnion (mem a at_) (mem b at_) = true
      · rw [if_pos hc] at hs
        obtain ⟨q1, hadd⟩ := add_told q out ⟨at_, min (nextR a at_) (nextR b at_)⟩ hlen
        obtain ⟨q', r, hr, hk⟩ := ih q1 _ _ (by omega) (by omega) hs
        refine ⟨q', r, Lp.next (fun K => ?_) hr, hk⟩
        simp only [f161_2_s58, Tree.run, Bool.cond_decide]
        simp only [Tree.run, lf0, lfs, toInt_int, toBool_bool, toStr_str, xs_list, nil_list, fst_pair, snd_pair, List.length_map, Option.bind_some, nb_same, cond_true, cond_false, eq_true hlt, if_true, next_told n at_ ha, next_told m at_ hb, has_told n at_ ha, has_told m at_ hb, told_Union, hc, mmx_min, show P.pair (I at_) (P.pair (I (min (nextR a at_) (nextR b at_))) P.unit) = enc ⟨at_, min (nextR a at_) (nextR b at_)⟩ from rfl, hadd]
      · rw [if_neg hc] at hs
        obtain ⟨q', r, hr, hk⟩ := ih q _ _ (by omega) (by omega) hs
        refine ⟨q', r, Lp.next (fun K => ?_) hr, hk⟩
        have hc : KUnion (mem a at_) (mem b at_) = false := by simpa using hc
        simp only [f161_2_s58, Tree.run, Bool.cond_decide]
        simp only [Tree.run, lf0, lfs, toInt_int, toBool_bool, toStr_str, xs_list, nil_list, fst_pair, snd_pair, List.length_map, Option.bind_some, nb_same, cond_true, cond_false, eq_true hlt, if_true, next_told n at_ ha, next_told m at_ hb, has_told n at_ ha, has_told m at_ hb, told_Union, hc, mmx_min]
    · refine ⟨q, out, Lp.done fun K => ?_, hi.done hlt⟩
      simp only [f161_2_s58, Tree.run, Bool.cond_decide]
      simp only [Tree.run, lf0, lfs, toInt_int, toBool_bool, toStr_str, xs_list, nil_list, fst_pair, snd_pair, List.length_map, Option.bind_some, nb_same, cond_true, cond_false, eq_false hlt, if_false]
theorem kept_Union_all (n m : Bool) {a b : List S123} (c : P) (ha : Chk (-1) a) (hb : Chk (-1) b) : ∃ q r, f161_2_v [L n a, L m b, c] = some (0, [L q r]) ∧ IsKept KUnion a b r := by
  obtain ⟨q, r, h, hk⟩ := kept_Union_told n m c ha hb 1000000000 true [] 0 (by omega) (by omega) (KInv.start _ _ _)
  have h' : loopT f161_2_s58 FUEL [L n a, L m b, c, I 0, .list true []] = some (0, [L q r]) := h.fuel (by omega)
  refine ⟨q, r, ?_, hk⟩
  simp only [f161_2_v, f161_2_t, Tree.run, Bool.cond_decide]
  simp only [Tree.run, lf0, lfs, toInt_int, toBool_bool, toStr_str, xs_list, nil_list, fst_pair, snd_pair, List.length_map, Option.bind_some, nb_same, cond_true, cond_false, h']
def KMeet : Bool → Bool → Bool := fun x y => x && y
theorem told_Meet (x y : Bool) : f163_v [.bool x, .bool y] = some (0, [.bool (KMeet x y)]) := by
  cases x <;> cases y <;> rfl
theorem kept_Meet_told (n m : Bool) {a b : List S123} (c : P) (ha : Chk (-1) a) (hb : Chk (-1) b) : ∀ (d : Nat) (q : Bool) (out : List S123) (at_ : Int), (1000000000 - at_).toNat ≤ d → 0 ≤ at_ → KInv KMeet a b out at_ →
    ∃ q' r, Lp (d + 1) f161_1_s58 [L n a, L m b, c, I at_, L q out] (0, [L q' r]) ∧ IsKept KMeet a b r := by
  intro d
  induction d with
  | zero =>
    intro q out at_ hd h0 hi
    refine ⟨q, out, Lp.done fun K => ?_, hi.done (by omega)⟩
    simp only [f161_1_s58, Tree.run, Bool.cond_decide]
    simp only [Tree.run, lf0, lfs, toInt_int, toBool_bool, toStr_str, xs_list, nil_list, fst_pair, snd_pair, List.length_map, Option.bind_some, nb_same, cond_true, cond_false, eq_false (show ¬ at_ < 1000000000 by omega), if_false]
  | succ d ih =>
    intro q out at_ hd h0 hi
    by_cases hlt : at_ < 1000000000
    · have na := next_gt ha hlt
      have nb := next_gt hb hlt
      have hs := hi.step ha hb h0 hlt
      have hlen : out.length < 8796093022207 := by have := chk_len hi.upto.chk; omega
      by_cases hc : KMeet (mem a at_) (mem b at_) = true
      · rw [if_pos hc] at hs
        obtain ⟨q1, hadd⟩ := add_told q out ⟨at_, min (nextR a at_) (nextR b at_)⟩ hlen
        obtain ⟨q', r, hr, hk⟩ := ih q1 _ _ (by omega) (by omega) hs
        refine ⟨q', r, Lp.next (fun K => ?_) hr, hk⟩
        simp only [f161_1_s58, Tree.run, Bool.cond_decide]
        simp only [Tree.run, lf0, lfs, toInt_int, toBool_bool, toStr_str, xs_list, nil_list, fst_pair, snd_pair, List.length_map, Option.bind_some, nb_same, cond_true, cond_false, eq_true hlt, if_true, next_told n at_ ha, next_told m at_ hb, has_told n at_ ha, has_told m at_ hb, told_Meet, hc, mmx_min, show P.pair (I at_) (P.pair (I (min (nextR a at_) (nextR b at_))) P.unit) = enc ⟨at_, min (nextR a at_) (nextR b at_)⟩ from rfl, hadd]
      · rw [if_neg hc] at hs
        obtain ⟨q', r, hr, hk⟩ := ih q _ _ (by omega) (by omega) hs
        refine ⟨q', r, Lp.next (fun K => ?_) hr, hk⟩
        have hc : KMeet (mem a at_) (mem b at_) = false := by simpa using hc
        simp only [f161_1_s58, Tree.run, Bool.cond_decide]
        simp only [Tree.run, lf0, lfs, toInt_int, toBool_bool, toStr_str, xs_list, nil_list, fst_pair, snd_pair, List.length_map, Option.bind_some, nb_same, cond_true, cond_false, eq_true hlt, if_true, next_told n at_ ha, next_told m at_ hb, has_told n at_ ha, has_told m at_ hb, told_Meet, hc, mmx_min]
    · refine ⟨q, out, Lp.done fun K => ?_, hi.done hlt⟩
      simp only [f161_1_s58, Tree.run, Bool.cond_decide]
      simp only [Tree.run, lf0, lfs, toInt_int, toBool_bool, toStr_str, xs_list, nil_list, fst_pair, snd_pair, List.length_map, Option.bind_some, nb_same, cond_true, cond_false, eq_false hlt, if_false]
theorem kept_Meet_all (n m : Bool) {a b : List S123} (c : P) (ha : Chk (-1) a) (hb : Chk (-1) b) : ∃ q r, f161_1_v [L n a, L m b, c] = some (0, [L q r]) ∧ IsKept KMeet a b r := by
  obtain ⟨q, r, h, hk⟩ := kept_Meet_told n m c ha hb 1000000000 true [] 0 (by omega) (by omega) (KInv.start _ _ _)
  have h' : loopT f161_1_s58 FUEL [L n a, L m b, c, I 0, .list true []] = some (0, [L q r]) := h.fuel (by omega)
  refine ⟨q, r, ?_, hk⟩
  simp only [f161_1_v, f161_1_t, Tree.run, Bool.cond_decide]
  simp only [Tree.run, lf0, lfs, toInt_int, toBool_bool, toStr_str, xs_list, nil_list, fst_pair, snd_pair, List.length_map, Option.bind_some, nb_same, cond_true, cond_false, h']
def KNot : Bool → Bool → Bool := fun x _ => !x
theorem told_Not (x y : Bool) : f164_v [.bool x, .bool y] = some (0, [.bool (KNot x y)]) := by
  cases x <;> cases y <;> rfl
theorem kept_Not_told (n m : Bool) {a b : List S123} (c : P) (ha : Chk (-1) a) (hb : Chk (-1) b) : ∀ (d : Nat) (q : Bool) (out : List S123) (at_ : Int), (1000000000 - at_).toNat ≤ d → 0 ≤ at_ → KInv KNot a b out at_ →
    ∃ q' r, Lp (d + 1) f161_s58 [L n a, L m b, c, I at_, L q out] (0, [L q' r]) ∧ IsKept KNot a b r := by
  intro d
  induction d with
  | zero =>
    intro q out at_ hd h0 hi
    refine ⟨q, out, Lp.done fun K => ?_, hi.done (by omega)⟩
    simp only [f161_s58, Tree.run, Bool.cond_decide]
    simp only [Tree.run, lf0, lfs, toInt_int, toBool_bool, toStr_str, xs_list, nil_list, fst_pair, snd_pair, List.length_map, Option.bind_some, nb_same, cond_true, cond_false, eq_false (show ¬ at_ < 1000000000 by omega), if_false]
  | succ d ih =>
    intro q out at_ hd h0 hi
    by_cases hlt : at_ < 1000000000
    · have na := next_gt ha hlt
      have nb := next_gt hb hlt
      have hs := hi.step ha hb h0 hlt
      have hlen : out.length < 8796093022207 := by have := chk_len hi.upto.chk; omega
      by_cases hc : KNot (mem a at_) (mem b at_) = true
      · rw [if_pos hc] at hs
        obtain ⟨q1, hadd⟩ := add_told q out ⟨at_, min (nextR a at_) (nextR b at_)⟩ hlen
        obtain ⟨q', r, hr, hk⟩ := ih q1 _ _ (by omega) (by omega) hs
        refine ⟨q', r, Lp.next (fun K => ?_) hr, hk⟩
        simp only [f161_s58, Tree.run, Bool.cond_decide]
        simp only [Tree.run, lf0, lfs, toInt_int, toBool_bool, toStr_str, xs_list, nil_list, fst_pair, snd_pair, List.length_map, Option.bind_some, nb_same, cond_true, cond_false, eq_true hlt, if_true, next_told n at_ ha, next_told m at_ hb, has_told n at_ ha, has_told m at_ hb, told_Not, hc, mmx_min, show P.pair (I at_) (P.pair (I (min (nextR a at_) (nextR b at_))) P.unit) = enc ⟨at_, min (nextR a at_) (nextR b at_)⟩ from rfl, hadd]
      · rw [if_neg hc] at hs
        obtain ⟨q', r, hr, hk⟩ := ih q _ _ (by omega) (by omega) hs
        refine ⟨q', r, Lp.next (fun K => ?_) hr, hk⟩
        have hc : KNot (mem a at_) (mem b at_) = false := by simpa using hc
        simp only [f161_s58, Tree.run, Bool.cond_decide]
        simp only [Tree.run, lf0, lfs, toInt_int, toBool_bool, toStr_str, xs_list, nil_list, fst_pair, snd_pair, List.length_map, Option.bind_some, nb_same, cond_true, cond_false, eq_true hlt, if_true, next_told n at_ ha, next_told m at_ hb, has_told n at_ ha, has_told m at_ hb, told_Not, hc, mmx_min]
    · refine ⟨q, out, Lp.done fun K => ?_, hi.done hlt⟩
      simp only [f161_s58, Tree.run, Bool.cond_decide]
      simp only [Tree.run, lf0, lfs, toInt_int, toBool_bool, toStr_str, xs_list, nil_list, fst_pair, snd_pair, List.length_map, Option.bind_some, nb_same, cond_true, cond_false, eq_false hlt, if_false]
theorem kept_Not_all (n m : Bool) {a b : List S123} (c : P) (ha : Chk (-1) a) (hb : Chk (-1) b) : ∃ q r, f161_v [L n a, L m b, c] = some (0, [L q r]) ∧ IsKept KNot a b r := by
  obtain ⟨q, r, h, hk⟩ := kept_Not_told n m c ha hb 1000000000 true [] 0 (by omega) (by omega) (KInv.start _ _ _)
  have h' : loopT f161_s58 FUEL [L n a, L m b, c, I 0, .list true []] = some (0, [L q r]) := h.fuel (by omega)
  refine ⟨q, r, ?_, hk⟩
  simp only [f161_v, f161_t, Tree.run, Bool.cond_decide]
  simp only [Tree.run, lf0, lfs, toInt_int, toBool_bool, toStr_str, xs_list, nil_list, fst_pair, snd_pair, List.length_map, Option.bind_some, nb_same, cond_true, cond_false, h']
theorem union_told (n m : Bool) {a b : List S123} (ha : Chk (-1) a) (hb : Chk (-1) b) : ∃ q r, f94_v [L n a, L m b] = some (0, [L q r]) ∧ IsKept KUnion a b r := by
  obtain ⟨q, r, h, hk⟩ := kept_Union_all n m .unit ha hb
  refine ⟨q, r, ?_, hk⟩
  simp only [f94_v, f94_t, Tree.run, Bool.cond_decide]
  simp only [Tree.run, lf0, lfs, toInt_int, toBool_bool, toStr_str, xs_list, nil_list, fst_pair, snd_pair, List.length_map, Option.bind_some, nb_same, cond_true, cond_false, h]
theorem meet_told (n m : Bool) {a b : List S123} (ha : Chk (-1) a) (hb : Chk (-1) b) : ∃ q r, f96_v [L n a, L m b] = some (0, [L q r]) ∧ IsKept KMeet a b r := by
  obtain ⟨q, r, h, hk⟩ := kept_Meet_all n m .unit ha hb
  refine ⟨q, r, ?_, hk⟩
  simp only [f96_v, f96_t, Tree.run, Bool.cond_decide]
  simp only [Tree.run, lf0, lfs, toInt_int, toBool_bool, toStr_str, xs_list, nil_list, fst_pair, snd_pair, List.length_map, Option.bind_some, nb_same, cond_true, cond_false, h]
theorem not_told (n : Bool) {a : List S123} (ha : Chk (-1) a) : ∃ q r, f98_v [L n a] = some (0, [L q r]) ∧ IsKept KNot a [] r := by
  obtain ⟨q, r, h, hk⟩ := kept_Not_all n true .unit ha (b := []) trivial
  have h : f161_v [L n a, .list true [], .unit] = some (0, [L q r]) := h
  refine ⟨q, r, ?_, hk⟩
  simp only [f98_v, f98_t, Tree.run, Bool.cond_decide]
  simp only [Tree.run, lf0, lfs, toInt_int, toBool_bool, toStr_str, xs_list, nil_list, fst_pair, snd_pair, List.length_map, Option.bind_some, nb_same, cond_true, cond_false, h]
end Go.Proofs.Ytjemihhhkhdbeaa.Sp
