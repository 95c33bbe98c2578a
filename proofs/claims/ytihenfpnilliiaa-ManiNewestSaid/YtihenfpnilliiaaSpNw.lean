/- Sets of spans: what add, Meet, Of, Count, Most tell. Conditions: none but those each states. -/
import Derived.Test.YtihenfpnilliiaaQSp
set_option linter.unusedVariables false
set_option linter.unusedSimpArgs false
namespace Go.Proofs.Ytihenfpnilliiaa.Sp
open Go Go.Eng
theorem mmx_max (a b : Int) : mmx true a b = max a b := by unfold mmx; simp only [if_true]; split <;> omega
theorem mmx_min (a b : Int) : mmx false a b = min a b := by unfold mmx; simp only [Bool.false_eq_true, if_false]; split <;> omega
theorem set_last {α : Type} (i : List α) (x y : α) : (i ++ [x]).set i.length y = i ++ [y] := by simp
theorem add_told (n : Bool) (l : List S123) (s : S123) (hl : l.length < 8796093022207) : ∃ m, f48_v [L n l, enc s] = some (0, [L m (addR l s)]) := by
  simp only [f48_v, f48_t, f48_s1, Tree.run, Bool.cond_decide]
  simp only [Tree.run, lf0, lfs, toInt_int, toBool_bool, toStr_str, xs_list, nil_list, fst_pair, snd_pair, List.length_map, Option.bind_some, nb_same, cond_true, cond_false, decide_true, decide_false]
  rcases snoc_cases l with rfl | ⟨i, x, rfl⟩
  · refine ⟨n && false, ?_⟩
    simp only [List.length_nil, wrap_of (x := ((0 : Nat) : Int) - 1) (by omega) (by omega), eq_false (show ¬ ((0 : Nat) : Int) - 1 ≥ 0 by omega), if_false, eq_true (show (0 + 1) * 16 ≤ 140737488355328 by omega), if_true, Tree.run, lf0, lfs, toInt_int, toBool_bool, toStr_str, xs_list, nil_list, fst_pair, snd_pair, List.length_map, Option.bind_some, nb_same, cond_true, cond_false, decide_true, decide_false, List.map_nil, List.nil_append]
    rfl
  · have hlen : ((i ++ [x]).length : Int) - 1 = (i.length : Int) := by simp
    have hlt : i.length < (i ++ [x]).length := by simp
    have hl' : i.length + 1 < 8796093022207 := by simpa using hl
    have hrd : rd_T123 (i ++ [x]) (i.length : Int) = x := by rw [rd_nat]; simp
    rw [addR_snoc]
    simp only [hlen, wrap_of (x := (i.length : Int)) (by omega) (by omega), eq_true (show (i.length : Int) ≥ 0 by omega), if_true, inb_nat hlt, Tree.run, lf0, lfs, toInt_int, toBool_bool, toStr_str, xs_list, nil_list, fst_pair, snd_pair, List.length_map, Option.bind_some, nb_same, cond_true, cond_false, decide_true, decide_false, Int.toNat_natCast, rd_enc hlt, hrd, enc, mmx_max]
    by_cases h : s.f0 ≤ x.f1
    · refine ⟨n, ?_⟩
      simp only [eq_true h, if_true, Tree.run, lf0, lfs, toInt_int, toBool_bool, toStr_str, xs_list, nil_list, fst_pair, snd_pair, List.length_map, Option.bind_some, nb_same, cond_true, cond_false, decide_true, decide_false]
      simp only [L, List.map_append, List.map_cons, List.map_nil, enc]
      rw [show i.length = (i.map enc).length by simp, set_last]
    · refine ⟨n && false, ?_⟩
      simp only [eq_false h, if_false, eq_true (show ((i ++ [x]).length + 1) * 16 ≤ 140737488355328 by simp; omega), if_true, Tree.run, lf0, lfs, toInt_int, toBool_bool, toStr_str, xs_list, nil_list, fst_pair, snd_pair, List.length_map, Option.bind_some, nb_same, cond_true, cond_false, decide_true, decide_false]
      simp only [L, List.map_append, List.map_cons, List.map_nil, enc]
def KMeet : Bool → Bool → Bool := fun x y => x && y
theorem told_Meet (x y : Bool) : f32_v [.bool x, .bool y] = some (0, [.bool (KMeet x y)]) := by
  cases x <;> cases y <;> rfl
theorem kept_Meet_told (n m : Bool) {a b : List S123} (c : P) (ha : Chk (-1) a) (hb : Chk (-1) b) : ∀ (d : Nat) (q : Bool) (out : List S123) (at_ : Int), (1000000000 - at_).toNat ≤ d → 0 ≤ at_ → KInv KMeet a b out at_ →
    ∃ q' r, Lp (d + 1) f31_s58 [L n a, L m b, c, I at_, L q out] (0, [L q' r]) ∧ IsKept KMeet a b r := by
  intro d
  induction d with
  | zero =>
    intro q out at_ hd h0 hi
    refine ⟨q, out, Lp.done fun K => ?_, hi.done (by omega)⟩
    simp only [f31_s58, Tree.run, Bool.cond_decide]
    simp only [Tree.run, lf0, lfs, toInt_int, toBool_bool, toStr_str, xs_list, nil_list, fst_pair, snd_pair, List.length_map, Option.bind_some, nb_same, cond_true, cond_false, decide_true, decide_false, eq_false (show ¬ at_ < 1000000000 by omega), if_false]
  | succ d ih =>
    intro q out at_ hd h0 hi
    by_cases hlt : at_ < 1000000000
    · have na := next_gt ha hlt
      have nb := next_gt hb hlt
      have hs := hi.step ha hb h0 hlt
      have hlen : out.length < 8796093022207 := by have := chk_len hi.upto.chk; omega
      by_cases hc : KMeet (mem a at_) (mem b at_) = true
      · rw [if_pos hc] at hs
        obtain ⟨q1, hadd⟩ := add_told q out ⟨at_, min (nextR a at_) (nextR b at_)⟩ hlen
        obtain ⟨q', r, hr, hk⟩ := ih q1 _ _ (by omega) (by omega) hs
        refine ⟨q', r, Lp.next (fun K => ?_) hr, hk⟩
        simp only [f31_s58, Tree.run, Bool.cond_decide]
        simp only [Tree.run, lf0, lfs, toInt_int, toBool_bool, toStr_str, xs_list, nil_list, fst_pair, snd_pair, List.length_map, Option.bind_some, nb_same, cond_true, cond_false, decide_true, decide_false, eq_true hlt, if_true, next_told n at_ ha, next_told m at_ hb, has_told n at_ ha, has_told m at_ hb, told_Meet, hc, mmx_min, show P.pair (I at_) (P.pair (I (min (nextR a at_) (nextR b at_))) P.unit) = enc ⟨at_, min (nextR a at_) (nextR b at_)⟩ from rfl, hadd]
      · rw [if_neg hc] at hs
        obtain ⟨q', r, hr, hk⟩ := ih q _ _ (by omega) (by omega) hs
        refine ⟨q', r, Lp.next (fun K => ?_) hr, hk⟩
        have hc : KMeet (mem a at_) (mem b at_) = false := by simpa using hc
        simp only [f31_s58, Tree.run, Bool.cond_decide]
        simp only [Tree.run, lf0, lfs, toInt_int, toBool_bool, toStr_str, xs_list, nil_list, fst_pair, snd_pair, List.length_map, Option.bind_some, nb_same, cond_true, cond_false, decide_true, decide_false, eq_true hlt, if_true, next_told n at_ ha, next_told m at_ hb, has_told n at_ ha, has_told m at_ hb, told_Meet, hc, mmx_min]
    · refine ⟨q, out, Lp.done fun K => ?_, hi.done hlt⟩
      simp only [f31_s58, Tree.run, Bool.cond_decide]
      simp only [Tree.run, lf0, lfs, toInt_int, toBool_bool, toStr_str, xs_list, nil_list, fst_pair, snd_pair, List.length_map, Option.bind_some, nb_same, cond_true, cond_false, decide_true, decide_false, eq_false hlt, if_false]
theorem kept_Meet_all (n m : Bool) {a b : List S123} (c : P) (ha : Chk (-1) a) (hb : Chk (-1) b) : ∃ q r, f31_v [L n a, L m b, c] = some (0, [L q r]) ∧ IsKept KMeet a b r := by
  obtain ⟨q, r, h, hk⟩ := kept_Meet_told n m c ha hb 1000000000 true [] 0 (by omega) (by omega) (KInv.start _ _ _)
  have h' : loopT f31_s58 FUEL [L n a, L m b, c, I 0, .list true []] = some (0, [L q r]) := h.fuel (by omega)
  refine ⟨q, r, ?_, hk⟩
  simp only [f31_v, f31_t, Tree.run, Bool.cond_decide]
  simp only [Tree.run, lf0, lfs, toInt_int, toBool_bool, toStr_str, xs_list, nil_list, fst_pair, snd_pair, List.length_map, Option.bind_some, nb_same, cond_true, cond_false, decide_true, decide_false, h']
theorem meet_told (n m : Bool) {a b : List S123} (ha : Chk (-1) a) (hb : Chk (-1) b) : ∃ q r, f9_v [L n a, L m b] = some (0, [L q r]) ∧ IsKept KMeet a b r := by
  obtain ⟨q, r, h, hk⟩ := kept_Meet_all n m .unit ha hb
  refine ⟨q, r, ?_, hk⟩
  simp only [f9_v, f9_t, Tree.run, Bool.cond_decide]
  simp only [Tree.run, lf0, lfs, toInt_int, toBool_bool, toStr_str, xs_list, nil_list, fst_pair, snd_pair, List.length_map, Option.bind_some, nb_same, cond_true, cond_false, decide_true, decide_false, h]
theorem countR_le {l : List S123} : ∀ {e : Int}, Chk e l → -1 ≤ e → 0 ≤ countR l ∧ countR l ≤ 1000000000 := by
  intro e h he
  rw [count_card he h]
  have := card_not (mem l) 1000000000
  have p1 : ∀ (f : Int → Bool) n, 0 ≤ card f n := fun f n => by
    induction n with
    | zero => exact Int.le_refl _
    | succ n ih => simp only [card]; cases f n <;> simp only [b2i] <;> omega
  have h1 := p1 (mem l) 1000000000
  have h2 := p1 (fun x => !mem l x) 1000000000
  omega
theorem Chk.drop {l : List S123} : ∀ {e : Int} (i : Nat), Chk e l → ∃ e', e ≤ e' ∧ Chk e' (l.drop i) := by
  induction l with
  | nil => intro e i h; exact ⟨e, Int.le_refl _, by simpa using h⟩
  | cons s t ih =>
    intro e i h
    cases i with
    | zero => exact ⟨e, Int.le_refl _, h⟩
    | succ i =>
      obtain ⟨h1, h2, h3, h4⟩ := h
      obtain ⟨e', he, hc⟩ := ih i h4
      exact ⟨e', by omega, hc⟩
theorem count_told (n : Bool) {l : List S123} (hc : Chk (-1) l) : f16_v [L n l] = some (0, [I (countR l)]) := by
  have hl := chk_len hc
  have loop : ∀ d i : Nat, l.length - i = d → i ≤ l.length → ∀ k : Int, 0 ≤ k → k + countR (l.drop i) ≤ 1000000000 → Lp (d + 1) f16_s58 [I k, L n l, I (l.length : Int), I i] (0, [I (k + countR (l.drop i))]) := by
    intro d
    induction d with
    | zero =>
      intro i hd hi k h0 h1
      rw [List.drop_eq_nil_of_le (by omega)]
      refine Lp.done fun K => ?_
      simp only [f16_s58, Tree.run, Bool.cond_decide]
      simp only [Tree.run, lf0, lfs, toInt_int, toBool_bool, toStr_str, xs_list, nil_list, fst_pair, snd_pair, List.length_map, Option.bind_some, nb_same, cond_true, cond_false, decide_true, decide_false, eq_false (show ¬ (i : Int) < l.length by omega), if_false, countR, Int.add_zero]
    | succ d ih =>
      intro i hd hi k h0 h1
      have hi' : i < l.length := by omega
      obtain ⟨e, he, hd'⟩ := hc.drop i
      rw [drop_cons l i hi'] at hd' h1 ⊢
      have hb := countR_le (l := rd_T123 l i :: l.drop (i + 1)) hd' he
      obtain ⟨c1, c2, c3, c4⟩ := hd'
      have hb2 := countR_le c4 (by omega)
      simp only [countR] at hb h1 ⊢
      have h := ih (i + 1) (by omega) (by omega) (k + ((rd_T123 l i).f1 - (rd_T123 l i).f0)) (by omega) (by omega)
      rw [Int.add_assoc] at h
      refine Lp.next (fun K => ?_) h
      simp only [f16_s58, Tree.run, Bool.cond_decide]
      simp only [Tree.run, lf0, lfs, toInt_int, toBool_bool, toStr_str, xs_list, nil_list, fst_pair, snd_pair, List.length_map, Option.bind_some, nb_same, cond_true, cond_false, decide_true, decide_false, eq_true (show (i : Int) < l.length by omega), if_true, inb_nat hi', Int.toNat_natCast, rd_enc hi', enc, wrap_succ i (by omega)]
      rw [wrap_of (x := (rd_T123 l i).f1 - (rd_T123 l i).f0) (by omega) (by omega), wrap_of (x := k + _) (by omega) (by omega)]
  have he := (loop l.length 0 rfl (by omega) 0 (by omega) (by have := countR_le hc (by omega); rw [List.drop_zero]; omega)).fuel (by omega)
  have he' : loopT f16_s58 FUEL [I 0, L n l, I (l.length : Int), I 0] = some (0, [I (countR l)]) := by rw [List.drop_zero, Int.zero_add] at he; exact he
  simp only [f16_v, f16_t, Tree.run, Bool.cond_decide]
  simp only [Tree.run, lf0, lfs, toInt_int, toBool_bool, toStr_str, xs_list, nil_list, fst_pair, snd_pair, List.length_map, Option.bind_some, nb_same, cond_true, cond_false, decide_true, decide_false, he']
theorem most_told (n : Bool) (l : List S123) (hl : l.length ≤ 1000000001) : f12_v [L n l] = some (0, if l.length = 0 then [I 0, .bool false] else [I (IntKind.i64.wrap ((rd_T123 l (l.length - 1 : Nat)).f1 - 1)), .bool true]) := by
  cases l with
  | nil => rfl
  | cons s t =>
    have h0 : 0 < (s :: t).length := by simp
    have hne : (((s :: t).length : Int) == 0) = false := by rw [beq_eq_false_iff_ne]; simp; omega
    have hlt : (s :: t).length - 1 < (s :: t).length := by omega
    have hw : IntKind.i64.wrap (((s :: t).length : Int) - 1) = (((s :: t).length - 1 : Nat) : Int) := by rw [wrap_of (by omega) (by omega)]; omega
    simp only [f12_v, f12_t, Tree.run, Bool.cond_decide]
    simp only [Tree.run, lf0, lfs, toInt_int, toBool_bool, toStr_str, xs_list, nil_list, fst_pair, snd_pair, List.length_map, Option.bind_some, nb_same, cond_true, cond_false, decide_true, decide_false, hne, hw, inb_nat hlt, Int.toNat_natCast, rd_enc hlt, enc, eq_false (show ¬ (s :: t).length = 0 by omega), if_false]
end Go.Proofs.Ytihenfpnilliiaa.Sp
