/- What the document's own answers for spans tell: alike, a set, has. Conditions: none but those each states. -/
import Derived.Test.YtjemihhhkhdbeaaQSp2
set_option linter.unusedVariables false
set_option linter.unusedSimpArgs false
namespace Go.Proofs.Ytjemihhhkhdbeaa.Sp
open Go Go.Eng
/-! Lists that are alike. -/
def sameB : List S123 → List S123 → Bool
  | [], [] => true
  | s :: t, s' :: t' => s.f0 == s'.f0 && s.f1 == s'.f1 && sameB t t'
  | _, _ => false
theorem sameB_iff : ∀ a b : List S123, sameB a b = true ↔ a = b
  | [], [] => by simp [sameB]
  | [], s' :: t' => by simp [sameB]
  | s :: t, [] => by simp [sameB]
  | s :: t, s' :: t' => by
    simp only [sameB, Bool.and_eq_true, beq_iff_eq, sameB_iff t t', List.cons.injEq]
    constructor
    · rintro ⟨⟨h1, h2⟩, h3⟩; exact ⟨S123_ext h1 h2, h3⟩
    · rintro ⟨rfl, h⟩; exact ⟨⟨rfl, rfl⟩, h⟩
theorem sameB_refl (a : List S123) : sameB a a = true := (sameB_iff a a).2 rfl
theorem sameB_len {a b : List S123} (h : a.length ≠ b.length) : sameB a b = false := by
  cases hs : sameB a b with
  | false => rfl
  | true => exact absurd (congrArg List.length ((sameB_iff a b).1 hs)) h

theorem eqP_enc (x y : S123) : eqP (.pair (.int .i64) (.pair (.int .i64) .unit)) (enc x) (enc y) = ((x.f0 == y.f0) && (x.f1 == y.f1)) := by
  simp [eqP, enc, P.fst, P.snd, P.toInt]
theorem rsame_lp (n m : Bool) (a b : List S123) (hab : a.length = b.length) (hl : a.length ≤ 4611686018427387903) : ∀ d i : Nat, a.length - i = d → i ≤ a.length →
    Lp (d + 1) f82_s58 [L n a, L m b, I i] (if sameB (a.drop i) (b.drop i) = true then (1, []) else (0, [.bool false])) := by
  intro d
  induction d with
  | zero =>
    intro i hd hi
    rw [List.drop_eq_nil_of_le (by omega), List.drop_eq_nil_of_le (by omega)]
    refine Lp.done fun K => ?_
    simp only [f82_s58, Tree.run, Bool.cond_decide]
    simp only [Tree.run, lf0, lfs, toInt_int, toBool_bool, toStr_str, xs_list, nil_list, fst_pair, snd_pair, List.length_map, Option.bind_some, nb_same, cond_true, cond_false, eq_false (show ¬ (i : Int) < a.length by omega), if_false, sameB, if_true]
  | succ d ih =>
    intro i hd hi
    rw [drop_cons a i (by omega), drop_cons b i (by omega)]
    have hia : i < a.length := by omega
    have hib : i < b.length := by omega
    have he : sameB (rd_T123 a i :: a.drop (i + 1)) (rd_T123 b i :: b.drop (i + 1)) = (((rd_T123 a i).f0 == (rd_T123 b i).f0) && ((rd_T123 a i).f1 == (rd_T123 b i).f1) && sameB (a.drop (i + 1)) (b.drop (i + 1))) := rfl
    rw [he]
    cases hx : ((rd_T123 a i).f0 == (rd_T123 b i).f0) && ((rd_T123 a i).f1 == (rd_T123 b i).f1) with
    | true =>
      rw [Bool.true_and]
      refine Lp.next (fun K => ?_) (ih (i + 1) (by omega) (by omega))
      simp only [f82_s58, Tree.run, Bool.cond_decide]
      simp only [Tree.run, lf0, lfs, toInt_int, toBool_bool, toStr_str, xs_list, nil_list, fst_pair, snd_pair, List.length_map, Option.bind_some, nb_same, cond_true, cond_false, eq_true (show (i : Int) < a.length by omega), if_true, inb_nat hia, inb_nat hib, Int.toNat_natCast, rd_enc hia, rd_enc hib, eqP_enc, hx, Bool.not_true, wrap_succ i (by omega)]
    | false =>
      rw [Bool.false_and, if_neg (by simp)]
      refine Lp.done fun K => ?_
      simp only [f82_s58, Tree.run, Bool.cond_decide]
      simp only [Tree.run, lf0, lfs, toInt_int, toBool_bool, toStr_str, xs_list, nil_list, fst_pair, snd_pair, List.length_map, Option.bind_some, nb_same, cond_true, cond_false, eq_true (show (i : Int) < a.length by omega), if_true, inb_nat hia, inb_nat hib, Int.toNat_natCast, rd_enc hia, rd_enc hib, eqP_enc, hx, Bool.not_false]
theorem rsame_told (n m : Bool) (a b : List S123) (hl : a.length ≤ 4611686018427387903) : f82_v [L n a, L m b] = some (0, [.bool (sameB a b)]) := by
  simp only [f82_v, f82_t, Tree.run, Bool.cond_decide]
  simp only [Tree.run, lf0, lfs, toInt_int, toBool_bool, toStr_str, xs_list, nil_list, fst_pair, snd_pair, List.length_map, Option.bind_some, nb_same, cond_true, cond_false]
  by_cases hne : a.length = b.length
  · have hd : ((a.length : Int) != b.length) = false := by simp [hne]
    have h := (rsame_lp n m a b hne hl a.length 0 (by omega) (by omega)).fuel (by omega)
    have h' : loopT f82_s58 FUEL [L n a, L m b, I 0] = some (if sameB a b = true then (1, []) else (0, [.bool false])) := h
    simp only [hd, Tree.run, lf0, lfs, toInt_int, toBool_bool, toStr_str, xs_list, nil_list, fst_pair, snd_pair, List.length_map, Option.bind_some, nb_same, cond_true, cond_false, h']
    cases hs : sameB a b with
    | true => simp only [if_true, nb_lt 1 0 (by decide), Tree.run, lf0, lfs, toInt_int, toBool_bool, toStr_str, xs_list, nil_list, fst_pair, snd_pair, List.length_map, Option.bind_some, nb_same, cond_true, cond_false]
    | false => simp only [Bool.false_eq_true, if_false, Tree.run, lf0, lfs, toInt_int, toBool_bool, toStr_str, xs_list, nil_list, fst_pair, snd_pair, List.length_map, Option.bind_some, nb_same, cond_true, cond_false]
  · have hd : ((a.length : Int) != b.length) = true := by simp; omega
    simp only [hd, Tree.run, lf0, lfs, toInt_int, toBool_bool, toStr_str, xs_list, nil_list, fst_pair, snd_pair, List.length_map, Option.bind_some, nb_same, cond_true, cond_false, sameB_len hne]
theorem rcheck_lp (n : Bool) (l : List S123) (hl : l.length ≤ 4611686018427387903) : ∀ d i : Nat, l.length - i = d → i ≤ l.length → ∀ e, (i = 0 → e = -1) → (0 < i → e = (rd_T123 l ((i : Int) - 1)).f1 ∧ 0 ≤ e) →
    Lp (d + 1) f81_s26 [L n l, I i] (if chkB e (l.drop i) = true then (1, []) else (0, [.bool false])) := by
  intro d
  induction d with
  | zero =>
    intro i hd hi e _ _
    rw [List.drop_eq_nil_of_le (by omega)]
    refine Lp.done fun K => ?_
    simp only [f81_s26, Tree.run, Bool.cond_decide]
    simp only [Tree.run, lf0, lfs, toInt_int, toBool_bool, toStr_str, xs_list, nil_list, fst_pair, snd_pair, List.length_map, Option.bind_some, nb_same, cond_true, cond_false, eq_false (show ¬ (i : Int) < l.length by omega), if_false, chkB, if_true]
  | succ d ih =>
    intro i hd hi e he0 he1
    rw [drop_cons l i (by omega)]
    have hil : i < l.length := by omega
    have hlow : -1 ≤ e := by
      rcases Nat.eq_zero_or_pos i with h | h
      · rw [he0 h]; omega
      · have := (he1 h).2; omega
    have ce : chkB e (rd_T123 l i :: l.drop (i + 1)) = (decide (e < (rd_T123 l i).f0) && decide ((rd_T123 l i).f0 < (rd_T123 l i).f1) && decide ((rd_T123 l i).f1 ≤ 1000000000) && chkB (rd_T123 l i).f1 (l.drop (i + 1))) := rfl
    rw [ce]
    have stop : ∀ b : Bool, b = false → (if b = true then ((1 : Nat), ([] : List P)) else (0, [.bool false])) = (0, [.bool false]) := fun b h => by rw [h]; rfl
    by_cases h1 : (rd_T123 l i).f0 < 0
    · rw [stop _ (by rw [decide_eq_false (p := e < _) (by omega)]; rfl)]
      refine Lp.done fun K => ?_
      simp only [f81_s26, Tree.run, Bool.cond_decide]
      simp only [Tree.run, lf0, lfs, toInt_int, toBool_bool, toStr_str, xs_list, nil_list, fst_pair, snd_pair, List.length_map, Option.bind_some, nb_same, cond_true, cond_false, eq_true (show (i : Int) < l.length by omega), if_true, inb_nat hil, Int.toNat_natCast, rd_enc hil, enc, eq_true h1]
    · by_cases h3 : (rd_T123 l i).f1 > 1000000000
      · rw [stop _ (by rw [decide_eq_false (p := _ ≤ 1000000000) (by omega)]; simp)]
        refine Lp.done fun K => ?_
        simp only [f81_s26, Tree.run, Bool.cond_decide]
        simp only [Tree.run, lf0, lfs, toInt_int, toBool_bool, toStr_str, xs_list, nil_list, fst_pair, snd_pair, List.length_map, Option.bind_some, nb_same, cond_true, cond_false, eq_true (show (i : Int) < l.length by omega), if_true, inb_nat hil, Int.toNat_natCast, rd_enc hil, enc, eq_false h1, if_false, eq_true h3]
      · by_cases h2 : (rd_T123 l i).f0 ≥ (rd_T123 l i).f1
        · rw [stop _ (by rw [decide_eq_false (p := _ < (rd_T123 l i).f1) (by omega)]; simp)]
          refine Lp.done fun K => ?_
          simp only [f81_s26, Tree.run, Bool.cond_decide]
          simp only [Tree.run, lf0, lfs, toInt_int, toBool_bool, toStr_str, xs_list, nil_list, fst_pair, snd_pair, List.length_map, Option.bind_some, nb_same, cond_true, cond_false, eq_true (show (i : Int) < l.length by omega), if_true, inb_nat hil, Int.toNat_natCast, rd_enc hil, enc, eq_false h1, if_false, eq_false h3, eq_true h2]
        · have ih' := ih (i + 1) (by omega) (by omega) (rd_T123 l i).f1 (fun h => by omega) (fun _ => ⟨by congr 2; omega, by omega⟩)
          rcases Nat.eq_zero_or_pos i with h | h
          · subst h
            rw [he0 rfl, decide_eq_true (p := -1 < _) (by omega), decide_eq_true (p := _ < (rd_T123 l (0 : Nat)).f1) (by omega), decide_eq_true (p := _ ≤ 1000000000) (by omega), Bool.true_and, Bool.true_and, Bool.true_and]
            refine Lp.next (fun K => ?_) ih'
            simp only [f81_s26, Tree.run, Bool.cond_decide]
            simp only [Tree.run, lf0, lfs, toInt_int, toBool_bool, toStr_str, xs_list, nil_list, fst_pair, snd_pair, List.length_map, Option.bind_some, nb_same, cond_true, cond_false, eq_true (show ((0 : Nat) : Int) < l.length by omega), if_true, inb_nat hil, Int.toNat_natCast, rd_enc hil, enc, eq_false h1, if_false, eq_false h3, eq_false h2, eq_false (show ¬ ((0 : Nat) : Int) > 0 by omega), wrap_succ 0 (by omega)]
          · have hw : IntKind.i64.wrap ((i : Int) - 1) = ((i - 1 : Nat) : Int) := by rw [wrap_of (by omega) (by omega)]; omega
            have hi1 : i - 1 < l.length := by omega
            have he := (he1 h).1
            rw [show ((i : Int) - 1) = ((i - 1 : Nat) : Int) by omega] at he
            by_cases h5 : (rd_T123 l i).f0 ≤ e
            · rw [stop _ (by rw [decide_eq_false (p := e < _) (by omega)]; rfl)]
              refine Lp.done fun K => ?_
              simp only [f81_s26, Tree.run, Bool.cond_decide]
              simp only [Tree.run, lf0, lfs, toInt_int, toBool_bool, toStr_str, xs_list, nil_list, fst_pair, snd_pair, List.length_map, Option.bind_some, nb_same, cond_true, cond_false, eq_true (show (i : Int) < l.length by omega), if_true, inb_nat hil, Int.toNat_natCast, rd_enc hil, enc, eq_false h1, if_false, eq_false h3, eq_false h2, eq_true (show (i : Int) > 0 by omega), hw, inb_nat hi1, rd_enc hi1, ← he, eq_true h5]
            · rw [decide_eq_true (p := e < _) (by omega), decide_eq_true (p := _ < (rd_T123 l i).f1) (by omega), decide_eq_true (p := _ ≤ 1000000000) (by omega), Bool.true_and, Bool.true_and, Bool.true_and]
              refine Lp.next (fun K => ?_) ih'
              simp only [f81_s26, Tree.run, Bool.cond_decide]
              simp only [Tree.run, lf0, lfs, toInt_int, toBool_bool, toStr_str, xs_list, nil_list, fst_pair, snd_pair, List.length_map, Option.bind_some, nb_same, cond_true, cond_false, eq_true (show (i : Int) < l.length by omega), if_true, inb_nat hil, Int.toNat_natCast, rd_enc hil, enc, eq_false h1, if_false, eq_false h3, eq_false h2, eq_true (show (i : Int) > 0 by omega), hw, inb_nat hi1, rd_enc hi1, ← he, eq_false h5, wrap_succ i (by omega)]
theorem rcheck_told (n : Bool) (l : List S123) (hl : l.length ≤ 4611686018427387903) : f81_v [L n l] = some (0, [.bool (chkB (-1) l)]) := by
  have h := (rcheck_lp n l hl l.length 0 (by omega) (by omega) (-1) (fun _ => rfl) (fun h => by omega)).fuel (by omega)
  have h' : loopT f81_s26 FUEL [L n l, I 0] = some (if chkB (-1) l = true then (1, []) else (0, [.bool false])) := h
  simp only [f81_v, f81_t, Tree.run, Bool.cond_decide]
  simp only [Tree.run, lf0, lfs, toInt_int, toBool_bool, toStr_str, xs_list, nil_list, fst_pair, snd_pair, List.length_map, Option.bind_some, nb_same, cond_true, cond_false, h']
  cases hs : chkB (-1) l with
  | true => simp only [if_true, nb_lt 1 0 (by decide), Tree.run, lf0, lfs, toInt_int, toBool_bool, toStr_str, xs_list, nil_list, fst_pair, snd_pair, List.length_map, Option.bind_some, nb_same, cond_true, cond_false]
  | false => simp only [Bool.false_eq_true, if_false, Tree.run, lf0, lfs, toInt_int, toBool_bool, toStr_str, xs_list, nil_list, fst_pair, snd_pair, List.length_map, Option.bind_some, nb_same, cond_true, cond_false]
theorem rhas_lp (n : Bool) (l : List S123) (p : Int) (hl : l.length ≤ 4611686018427387903) : ∀ d i : Nat, l.length - i = d → i ≤ l.length →
    ∃ y, Lp (d + 1) f93_s26 [L n l, I p, I i] y ∧ ((y = (1, []) ∧ mem (l.drop i) p = false) ∨ (y = (0, [.bool (decide (0 ≤ p) && decide (p < 1000000000))]) ∧ mem (l.drop i) p = true)) := by
  intro d
  induction d with
  | zero =>
    intro i hd hi
    rw [List.drop_eq_nil_of_le (by omega), mem_nil]
    refine ⟨(1, []), Lp.done fun K => ?_, .inl ⟨rfl, rfl⟩⟩
    simp only [f93_s26, Tree.run, Bool.cond_decide]
    simp only [Tree.run, lf0, lfs, toInt_int, toBool_bool, toStr_str, xs_list, nil_list, fst_pair, snd_pair, List.length_map, Option.bind_some, nb_same, cond_true, cond_false, eq_false (show ¬ (i : Int) < l.length by omega), if_false]
  | succ d ih =>
    intro i hd hi
    rw [drop_cons l i (by omega), mem_cons]
    have hil : i < l.length := by omega
    obtain ⟨y, hy, hc⟩ := ih (i + 1) (by omega) (by omega)
    by_cases h1 : (rd_T123 l i).f0 ≤ p
    · by_cases h2 : p < (rd_T123 l i).f1
      · refine ⟨_, Lp.done fun K => ?_, .inr ⟨rfl, by rw [decide_eq_true h1, decide_eq_true h2]; rfl⟩⟩
        simp only [f93_s26, Tree.run, Bool.cond_decide]
        simp only [Tree.run, lf0, lfs, toInt_int, toBool_bool, toStr_str, xs_list, nil_list, fst_pair, snd_pair, List.length_map, Option.bind_some, nb_same, cond_true, cond_false, eq_true (show (i : Int) < l.length by omega), if_true, inb_nat hil, Int.toNat_natCast, rd_enc hil, enc, eq_true h1, eq_true h2]
        by_cases h3 : p ≥ 0
        · simp only [eq_true h3, if_true, eq_true (show 0 ≤ p from h3), decide_true, Bool.true_and]
          rfl
        · simp only [eq_false h3, if_false, eq_false (show ¬ 0 ≤ p by omega), decide_false, Bool.false_and]
      · rw [decide_eq_false h2, Bool.and_false, Bool.false_or]
        refine ⟨y, Lp.next (fun K => ?_) hy, hc⟩
        simp only [f93_s26, Tree.run, Bool.cond_decide]
        simp only [Tree.run, lf0, lfs, toInt_int, toBool_bool, toStr_str, xs_list, nil_list, fst_pair, snd_pair, List.length_map, Option.bind_some, nb_same, cond_true, cond_false, eq_true (show (i : Int) < l.length by omega), if_true, inb_nat hil, Int.toNat_natCast, rd_enc hil, enc, eq_true h1, eq_false h2, if_false, wrap_succ i (by omega)]
    · rw [decide_eq_false h1, Bool.false_and, Bool.false_or]
      refine ⟨y, Lp.next (fun K => ?_) hy, hc⟩
      simp only [f93_s26, Tree.run, Bool.cond_decide]
      simp only [Tree.run, lf0, lfs, toInt_int, toBool_bool, toStr_str, xs_list, nil_list, fst_pair, snd_pair, List.length_map, Option.bind_some, nb_same, cond_true, cond_false, eq_true (show (i : Int) < l.length by omega), if_true, inb_nat hil, Int.toNat_natCast, rd_enc hil, enc, eq_false h1, if_false, wrap_succ i (by omega)]
theorem rhas_told (n : Bool) (l : List S123) (p : Int) (hl : l.length ≤ 4611686018427387903) : f93_v [L n l, I p] = some (0, [.bool (decide (0 ≤ p) && decide (p < 1000000000) && mem l p)]) := by
  obtain ⟨y, hy, hc⟩ := rhas_lp n l p hl l.length 0 (by omega) (by omega)
  have h' : loopT f93_s26 FUEL [L n l, I p, I 0] = some y := hy.fuel (by omega)
  simp only [f93_v, f93_t, Tree.run, Bool.cond_decide]
  simp only [Tree.run, lf0, lfs, toInt_int, toBool_bool, toStr_str, xs_list, nil_list, fst_pair, snd_pair, List.length_map, Option.bind_some, nb_same, cond_true, cond_false, h']
  rw [List.drop_zero] at hc
  rcases hc with ⟨rfl, hm⟩ | ⟨rfl, hm⟩
  · simp only [nb_lt 1 0 (by decide), Tree.run, lf0, lfs, toInt_int, toBool_bool, toStr_str, xs_list, nil_list, fst_pair, snd_pair, List.length_map, Option.bind_some, nb_same, cond_true, cond_false, hm, Bool.and_false]
  · simp only [Tree.run, lf0, lfs, toInt_int, toBool_bool, toStr_str, xs_list, nil_list, fst_pair, snd_pair, List.length_map, Option.bind_some, nb_same, cond_true, cond_false, hm, Bool.and_true]
end Go.Proofs.Ytjemihhhkhdbeaa.Sp
