/- Parts and counts of sets. Conditions: none but those each states. -/
import Derived.Test.YtjemihhhkhdbeaaQSp5
set_option linter.unusedVariables false
set_option linter.unusedSimpArgs false
namespace Go.Proofs.Ytjemihhhkhdbeaa.Sp
open Go Go.Eng
theorem within_told (n m : Bool) {a b : List S123} (ha : Chk (-1) a) (hb : Chk (-1) b) : f100_v [L n a, L m b] = some (0, [.bool (withinR a b)]) := by
  have hla := chk_len ha
  have loop : ∀ d i : Nat, a.length - i = d → i ≤ a.length →
      ∃ y, Lp (d + 1) f100_s26 [L m b, L n a, I (a.length : Int), I i] y ∧ (y = (0, [.bool false]) ∧ withinR (a.drop i) b = false ∨ y = (1, []) ∧ withinR (a.drop i) b = true) := by
    intro d
    induction d with
    | zero =>
      intro i hd hi
      refine ⟨_, Lp.done fun K => ?_, .inr ⟨rfl, by rw [List.drop_eq_nil_of_le (by omega)]; rfl⟩⟩
      simp only [f100_s26, Tree.run, Bool.cond_decide]
      simp only [Tree.run, lf0, lfs, toInt_int, toBool_bool, toStr_str, xs_list, nil_list, fst_pair, snd_pair, List.length_map, Option.bind_some, nb_same, cond_true, cond_false, eq_false (show ¬ (i : Int) < a.length by omega), if_false]
    | succ d ih =>
      intro i hd hi
      have hi' : i < a.length := by omega
      have hw : withinR (a.drop i) b = (decide (cnt b (rd_T123 a i).f0 < b.length) && decide ((b.getD (cnt b (rd_T123 a i).f0) z123).f0 ≤ (rd_T123 a i).f0) && decide ((rd_T123 a i).f1 ≤ (b.getD (cnt b (rd_T123 a i).f0) z123).f1) && withinR (a.drop (i + 1)) b) := by
        rw [drop_cons a i hi']; rfl
      have hle := cnt_le b (rd_T123 a i).f0
      by_cases h1 : cnt b (rd_T123 a i).f0 < b.length
      · have hne : ((cnt b (rd_T123 a i).f0 : Int) == (b.length : Int)) = false := by rw [beq_eq_false_iff_ne]; omega
        rw [decide_eq_true h1, Bool.true_and] at hw
        by_cases h2 : (b.getD (cnt b (rd_T123 a i).f0) z123).f0 > (rd_T123 a i).f0
        · rw [decide_eq_false (show ¬ (b.getD (cnt b (rd_T123 a i).f0) z123).f0 ≤ (rd_T123 a i).f0 by omega), Bool.false_and, Bool.false_and] at hw
          refine ⟨_, (Lp.done fun K => ?_ : Lp 1 _ _ _).mono (by omega), .inl ⟨rfl, hw⟩⟩
          simp only [f100_s26, Tree.run, Bool.cond_decide]
          simp only [Tree.run, lf0, lfs, toInt_int, toBool_bool, toStr_str, xs_list, nil_list, fst_pair, snd_pair, List.length_map, Option.bind_some, nb_same, cond_true, cond_false, eq_true (show (i : Int) < a.length by omega), if_true, inb_nat hi', Int.toNat_natCast, rd_enc hi', enc, after_told m _ hb, hne, inb_nat h1, rd_enc h1, rd_nat b, eq_true h2]
        · rw [decide_eq_true (show (b.getD (cnt b (rd_T123 a i).f0) z123).f0 ≤ (rd_T123 a i).f0 by omega), Bool.true_and] at hw
          by_cases h3 : (b.getD (cnt b (rd_T123 a i).f0) z123).f1 < (rd_T123 a i).f1
          · rw [decide_eq_false (by omega), Bool.false_and] at hw
            refine ⟨_, (Lp.done fun K => ?_ : Lp 1 _ _ _).mono (by omega), .inl ⟨rfl, hw⟩⟩
            simp only [f100_s26, Tree.run, Bool.cond_decide]
            simp only [Tree.run, lf0, lfs, toInt_int, toBool_bool, toStr_str, xs_list, nil_list, fst_pair, snd_pair, List.length_map, Option.bind_some, nb_same, cond_true, cond_false, eq_true (show (i : Int) < a.length by omega), if_true, inb_nat hi', Int.toNat_natCast, rd_enc hi', enc, after_told m _ hb, hne, inb_nat h1, rd_enc h1, rd_nat b, eq_false h2, if_false, eq_true h3]
          · rw [decide_eq_true (by omega), Bool.true_and] at hw
            obtain ⟨y, he, hy⟩ := ih (i + 1) (by omega) (by omega)
            refine ⟨y, Lp.next (fun K => ?_) he, by rw [hw]; exact hy⟩
            simp only [f100_s26, Tree.run, Bool.cond_decide]
            simp only [Tree.run, lf0, lfs, toInt_int, toBool_bool, toStr_str, xs_list, nil_list, fst_pair, snd_pair, List.length_map, Option.bind_some, nb_same, cond_true, cond_false, eq_true (show (i : Int) < a.length by omega), if_true, inb_nat hi', Int.toNat_natCast, rd_enc hi', enc, after_told m _ hb, hne, inb_nat h1, rd_enc h1, rd_nat b, eq_false h2, if_false, eq_false h3, wrap_succ i (by omega)]
      · have hne : ((cnt b (rd_T123 a i).f0 : Int) == (b.length : Int)) = true := by rw [beq_iff_eq]; omega
        rw [decide_eq_false h1, Bool.false_and, Bool.false_and, Bool.false_and] at hw
        refine ⟨_, (Lp.done fun K => ?_ : Lp 1 _ _ _).mono (by omega), .inl ⟨rfl, hw⟩⟩
        simp only [f100_s26, Tree.run, Bool.cond_decide]
        simp only [Tree.run, lf0, lfs, toInt_int, toBool_bool, toStr_str, xs_list, nil_list, fst_pair, snd_pair, List.length_map, Option.bind_some, nb_same, cond_true, cond_false, eq_true (show (i : Int) < a.length by omega), if_true, inb_nat hi', Int.toNat_natCast, rd_enc hi', enc, after_told m _ hb, hne]
  obtain ⟨y, he, hy⟩ := loop a.length 0 rfl (by omega)
  have he' : loopT f100_s26 FUEL [L m b, L n a, I (a.length : Int), I 0] = some y := he.fuel (by omega)
  simp only [f100_v, f100_t, Tree.run, Bool.cond_decide]
  rcases hy with ⟨rfl, hw⟩ | ⟨rfl, hw⟩
  · simp only [Tree.run, lf0, lfs, toInt_int, toBool_bool, toStr_str, xs_list, nil_list, fst_pair, snd_pair, List.length_map, Option.bind_some, nb_same, cond_true, cond_false, he']
    rw [List.drop_zero] at hw; rw [hw]
  · simp only [Tree.run, lf0, lfs, toInt_int, toBool_bool, toStr_str, xs_list, nil_list, fst_pair, snd_pair, List.length_map, Option.bind_some, nb_same, cond_true, cond_false, he', nb_lt 1 0 (by omega)]
    rw [List.drop_zero] at hw; rw [hw]
theorem count_told (n : Bool) {l : List S123} (hc : Chk (-1) l) : f102_v [L n l] = some (0, [I (countR l)]) := by
  have hl := chk_len hc
  have loop : ∀ d i : Nat, l.length - i = d → i ≤ l.length → ∀ k : Int, 0 ≤ k → k + countR (l.drop i) ≤ 1000000000 → Lp (d + 1) f102_s58 [I k, L n l, I (l.length : Int), I i] (0, [I (k + countR (l.drop i))]) := by
    intro d
    induction d with
    | zero =>
      intro i hd hi k h0 h1
      rw [List.drop_eq_nil_of_le (by omega)]
      refine Lp.done fun K => ?_
      simp only [f102_s58, Tree.run, Bool.cond_decide]
      simp only [Tree.run, lf0, lfs, toInt_int, toBool_bool, toStr_str, xs_list, nil_list, fst_pair, snd_pair, List.length_map, Option.bind_some, nb_same, cond_true, cond_false, eq_false (show ¬ (i : Int) < l.length by omega), if_false, countR, Int.add_zero]
    | succ d ih =>
      intro i hd hi k h0 h1
      have hi' : i < l.length := by omega
      obtain ⟨e, he, hd'⟩ := hc.drop i
      rw [drop_cons l i hi'] at hd' h1 ⊢
      have hb := countR_le (l := rd_T123 l i :: l.drop (i + 1)) hd' he
      obtain ⟨c1, c2, c3, c4⟩ := hd'
      have hb2 := countR_le c4 (by omega)
      simp only [countR] at hb h1 ⊢
      have h := ih (i + 1) (by omega) (by omega) (k + ((rd_T123 l i).f1 - (rd_T123 l i).f0)) (by omega) (by omega)
      rw [Int.add_assoc] at h
      refine Lp.next (fun K => ?_) h
      simp only [f102_s58, Tree.run, Bool.cond_decide]
      simp only [Tree.run, lf0, lfs, toInt_int, toBool_bool, toStr_str, xs_list, nil_list, fst_pair, snd_pair, List.length_map, Option.bind_some, nb_same, cond_true, cond_false, eq_true (show (i : Int) < l.length by omega), if_true, inb_nat hi', Int.toNat_natCast, rd_enc hi', enc, wrap_succ i (by omega)]
      rw [wrap_of (x := (rd_T123 l i).f1 - (rd_T123 l i).f0) (by omega) (by omega), wrap_of (x := k + _) (by omega) (by omega)]
  have he := (loop l.length 0 rfl (by omega) 0 (by omega) (by have := countR_le hc (by omega); rw [List.drop_zero]; omega)).fuel (by omega)
  have he' : loopT f102_s58 FUEL [I 0, L n l, I (l.length : Int), I 0] = some (0, [I (countR l)]) := by rw [List.drop_zero, Int.zero_add] at he; exact he
  simp only [f102_v, f102_t, Tree.run, Bool.cond_decide]
  simp only [Tree.run, lf0, lfs, toInt_int, toBool_bool, toStr_str, xs_list, nil_list, fst_pair, snd_pair, List.length_map, Option.bind_some, nb_same, cond_true, cond_false, he']
theorem rcount_told (n : Bool) {l : List S123} (hc : Chk (-1) l) : f103_v [L n l] = some (0, [I (countR l)]) := by
  have hl := chk_len hc
  have loop : ∀ d i : Nat, l.length - i = d → i ≤ l.length → ∀ k : Int, 0 ≤ k → k + countR (l.drop i) ≤ 1000000000 → Lp (d + 1) f103_s58 [L n l, I k, I i] (0, [I (k + countR (l.drop i))]) := by
    intro d
    induction d with
    | zero =>
      intro i hd hi k h0 h1
      rw [List.drop_eq_nil_of_le (by omega)]
      refine Lp.done fun K => ?_
      simp only [f103_s58, Tree.run, Bool.cond_decide]
      simp only [Tree.run, lf0, lfs, toInt_int, toBool_bool, toStr_str, xs_list, nil_list, fst_pair, snd_pair, List.length_map, Option.bind_some, nb_same, cond_true, cond_false, eq_false (show ¬ (i : Int) < l.length by omega), if_false, countR, Int.add_zero]
    | succ d ih =>
      intro i hd hi k h0 h1
      have hi' : i < l.length := by omega
      obtain ⟨e, he, hd'⟩ := hc.drop i
      rw [drop_cons l i hi'] at hd' h1 ⊢
      obtain ⟨c1, c2, c3, c4⟩ := hd'
      have hb2 := countR_le c4 (by omega)
      simp only [countR] at h1 ⊢
      have h := ih (i + 1) (by omega) (by omega) (k + (rd_T123 l i).f1 - (rd_T123 l i).f0) (by omega) (by omega)
      rw [show k + (rd_T123 l i).f1 - (rd_T123 l i).f0 + countR (l.drop (i + 1)) = k + ((rd_T123 l i).f1 - (rd_T123 l i).f0 + countR (l.drop (i + 1))) by omega] at h
      refine Lp.next (fun K => ?_) h
      simp only [f103_s58, Tree.run, Bool.cond_decide]
      simp only [Tree.run, lf0, lfs, toInt_int, toBool_bool, toStr_str, xs_list, nil_list, fst_pair, snd_pair, List.length_map, Option.bind_some, nb_same, cond_true, cond_false, eq_true (show (i : Int) < l.length by omega), if_true, inb_nat hi', Int.toNat_natCast, rd_enc hi', enc, wrap_succ i (by omega)]
      rw [wrap_of (x := k + _) (by omega) (by omega), wrap_of (x := k + _ - _) (by omega) (by omega)]
  have he := (loop l.length 0 rfl (by omega) 0 (by omega) (by have := countR_le hc (by omega); rw [List.drop_zero]; omega)).fuel (by omega)
  have he' : loopT f103_s58 FUEL [L n l, I 0, I 0] = some (0, [I (countR l)]) := by rw [List.drop_zero, Int.zero_add] at he; exact he
  simp only [f103_v, f103_t, Tree.run, Bool.cond_decide]
  simp only [Tree.run, lf0, lfs, toInt_int, toBool_bool, toStr_str, xs_list, nil_list, fst_pair, snd_pair, List.length_map, Option.bind_some, nb_same, cond_true, cond_false, he']
theorem rwithin_told (n m : Bool) (a b : List S123) (ha : a.length ≤ 100000) (hb : b.length ≤ 100000) : ∃ r, IsKept KMeet a b r ∧ f101_v [L n a, L m b] = some (0, [.bool (sameB r a)]) := by
  obtain ⟨q, r, h, hk⟩ := rmeet_told n m a b ha hb
  refine ⟨r, hk, ?_⟩
  have hlr := chk_len hk.chk
  simp only [f101_v, f101_t, Tree.run, Bool.cond_decide]
  simp only [Tree.run, lf0, lfs, toInt_int, toBool_bool, toStr_str, xs_list, nil_list, fst_pair, snd_pair, List.length_map, Option.bind_some, nb_same, cond_true, cond_false, h, rsame_told q n r a (by omega)]
end Go.Proofs.Ytjemihhhkhdbeaa.Sp
