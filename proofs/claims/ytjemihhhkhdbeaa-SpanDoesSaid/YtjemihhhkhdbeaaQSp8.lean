/- The law SpanDoes, plainly. Conditions: none but those stated. -/
import Derived.Test.YtjemihhhkhdbeaaQSp7
import Derived.Test.YtjemihhhkhdbeaaE4
set_option linter.unusedVariables false
set_option linter.unusedSimpArgs false
namespace Go.Proofs.Ytjemihhhkhdbeaa.Sp
open Go Go.Eng
theorem least_told (n : Bool) (l : List S123) : f90_v [L n l] = some (0, if l.length = 0 then [I 0, .bool false] else [I (rd_T123 l 0).f0, .bool true]) := by
  cases l with
  | nil => rfl
  | cons s t =>
    have h0 : 0 < (s :: t).length := by simp
    have hne : (((s :: t).length : Int) == 0) = false := by rw [beq_eq_false_iff_ne]; simp; omega
    have hz : inb 0 (s :: t).length = true := inb_nat h0
    have hr : rd ((s :: t).map enc) 0 = enc (rd_T123 (s :: t) 0) := rd_enc h0
    simp only [f90_v, f90_t, Tree.run, Bool.cond_decide]
    simp only [Tree.run, lf0, lfs, toInt_int, toBool_bool, toStr_str, xs_list, nil_list, fst_pair, snd_pair, List.length_map, Option.bind_some, nb_same, cond_true, cond_false, hne, hz, hr, enc, eq_false (show ¬ (s :: t).length = 0 by omega), if_false]
theorem most_told (n : Bool) (l : List S123) (hl : l.length ≤ 1000000000) : f91_v [L n l] = some (0, if l.length = 0 then [I 0, .bool false] else [I (IntKind.i64.wrap ((rd_T123 l (l.length - 1 : Nat)).f1 - 1)), .bool true]) := by
  cases l with
  | nil => rfl
  | cons s t =>
    have h0 : 0 < (s :: t).length := by simp
    have hne : (((s :: t).length : Int) == 0) = false := by rw [beq_eq_false_iff_ne]; simp; omega
    have hlt : (s :: t).length - 1 < (s :: t).length := by omega
    have hw : IntKind.i64.wrap (((s :: t).length : Int) - 1) = (((s :: t).length - 1 : Nat) : Int) := by rw [wrap_of (by omega) (by omega)]; omega
    simp only [f91_v, f91_t, Tree.run, Bool.cond_decide]
    simp only [Tree.run, lf0, lfs, toInt_int, toBool_bool, toStr_str, xs_list, nil_list, fst_pair, snd_pair, List.length_map, Option.bind_some, nb_same, cond_true, cond_false, hne, hw, inb_nat hlt, Int.toNat_natCast, rd_enc hlt, enc, eq_false (show ¬ (s :: t).length = 0 by omega), if_false]
theorem within_same {a b m : List S123} (ha : Chk (-1) a) (hb : Chk (-1) b) (ms : IsKept KMeet a b m) : withinR a b = sameB m a := by
  rw [Bool.eq_iff_iff, withinR_iff hb ha, sameB_iff]
  constructor
  · intro h
    refine ms.chk.canon ha fun q => ?_
    refine (ms.mem_ q).trans (Eq.trans ?_ ((IsSet.self ha).mem_ q).symm)
    congr 1
    show (mem a q && mem b q) = mem a q
    cases hq : mem a q with
    | true => rw [h q hq]; rfl
    | false => rfl
  · rintro rfl q hq
    rw [ms.mem_] at hq
    have : (mem m q && mem b q) = true := (Bool.and_eq_true _ _ ▸ hq).2
    exact (Bool.and_eq_true _ _ ▸ this).2
theorem spanDoes_told (n m : Bool) (a b : List S123) (p : Int) : f13_v [L n a, L m b, I p] = some (0, [.bool true]) := by
  by_cases g1 : (a.length : Int) > 60
  · simp only [f13_v, f13_t, Tree.run, Bool.cond_decide]
    simp only [Tree.run, lf0, lfs, toInt_int, toBool_bool, toStr_str, xs_list, nil_list, fst_pair, snd_pair, List.length_map, Option.bind_some, nb_same, cond_true, cond_false, eq_true g1, if_true, awake_told]
  by_cases g2 : (b.length : Int) > 60
  · simp only [f13_v, f13_t, Tree.run, Bool.cond_decide]
    simp only [Tree.run, lf0, lfs, toInt_int, toBool_bool, toStr_str, xs_list, nil_list, fst_pair, snd_pair, List.length_map, Option.bind_some, nb_same, cond_true, cond_false, eq_false g1, eq_true g2, if_true, if_false, awake_told]
  have hca := rcheck_told n a (by omega)
  have hcb := rcheck_told m b (by omega)
  by_cases g3 : chkB (-1) a = false
  · rw [g3] at hca
    simp only [f13_v, f13_t, Tree.run, Bool.cond_decide]
    simp only [Tree.run, lf0, lfs, toInt_int, toBool_bool, toStr_str, xs_list, nil_list, fst_pair, snd_pair, List.length_map, Option.bind_some, nb_same, cond_true, cond_false, eq_false g1, eq_false g2, if_true, if_false, awake_told, hca, Bool.not_false]
  have g3 : chkB (-1) a = true := by simpa using g3
  by_cases g4 : chkB (-1) b = false
  · rw [g3] at hca
    rw [g4] at hcb
    simp only [f13_v, f13_t, Tree.run, Bool.cond_decide]
    simp only [Tree.run, lf0, lfs, toInt_int, toBool_bool, toStr_str, xs_list, nil_list, fst_pair, snd_pair, List.length_map, Option.bind_some, nb_same, cond_true, cond_false, eq_false g1, eq_false g2, if_true, if_false, awake_told, hca, hcb, Bool.not_false, Bool.not_true]
  have g4 : chkB (-1) b = true := by simpa using g4
  rw [g3] at hca
  rw [g4] at hcb
  have ha := chkB_iff.1 g3
  have hb := chkB_iff.1 g4
  have hin : (decide (0 ≤ p) && decide (p < 1000000000) && mem a p) = mem a p := ((IsSet.self ha).mem_ p).symm
  have hrh := rhas_told n a p (by omega)
  rw [hin] at hrh
  have hh := has_told n p ha
  obtain ⟨q1, u, hu, us⟩ := union_told n m ha hb
  obtain ⟨q1', u', hu', us'⟩ := runion_told n m a b (by omega) (by omega)
  obtain rfl : u = u' := us.unique us'
  obtain ⟨q2, w, hw, ws⟩ := meet_told n m ha hb
  obtain ⟨q2', w', hw', ws'⟩ := rmeet_told n m a b (by omega) (by omega)
  obtain rfl : w = w' := ws.unique ws'
  obtain ⟨q3, v, hv, vs⟩ := not_told n ha
  obtain ⟨q3', v', hv', vs'⟩ := rnot_told n a (by omega)
  obtain rfl : v = v' := vs.unique vs'
  have lu := chk_len us.chk
  have lw := chk_len ws.chk
  have lv := chk_len vs.chk
  have su := rsame_told q1 q1' u u (by omega)
  have sw := rsame_told q2 q2' w w (by omega)
  have sv := rsame_told q3 q3' v v (by omega)
  rw [sameB_refl] at su sw sv
  have hwi := within_told n m ha hb
  obtain ⟨r, hr, hrw⟩ := rwithin_told n m a b (by omega) (by omega)
  rw [← within_same ha hb hr] at hrw
  have hc1 := count_told n ha
  have hc2 := rcount_told n ha
  have hle := least_told n a
  have hmo := most_told n a (by omega)
  have hb1 : ∀ x : Bool, (x == x) = true := fun x => by cases x <;> rfl
  have hi1 : ∀ x : Int, (x == x) = true := fun x => beq_self_eq_true x
  have hi2 : ∀ x : Int, (x != x) = false := fun x => by simp
  cases a with
  | nil =>
    simp only [f13_v, f13_t, Tree.run, Bool.cond_decide]
    simp only [Tree.run, lf0, lfs, toInt_int, toBool_bool, toStr_str, xs_list, nil_list, fst_pair, snd_pair, List.length_map, Option.bind_some, nb_same, cond_true, cond_false, eq_false g1, eq_false g2, if_false, hca, hcb, Bool.not_true, List.length_nil, if_true] at hle hmo ⊢
    simp only [Tree.run, lf0, lfs, toInt_int, toBool_bool, toStr_str, xs_list, nil_list, fst_pair, snd_pair, List.length_map, Option.bind_some, nb_same, cond_true, cond_false, hle, hmo, show (!(false == decide (((0 : Nat) : Int) > 0))) = false by decide, show (!(false == false)) = false by decide, Bool.not_false, hi2, hh, hrh, hb1, hu, hu', su, hw, hw', sw, hv, hv', sv, hwi, hrw, hc1, hc2, hi1, awake_told]
    rfl
  | cons s t =>
    have h0 : 0 < (s :: t).length := by simp
    have hlt : (s :: t).length - 1 < (s :: t).length := by omega
    have hw1 : IntKind.i64.wrap (((s :: t).length : Int) - 1) = (((s :: t).length - 1 : Nat) : Int) := by rw [wrap_of (by omega) (by omega)]; omega
    have hd : (!(true == decide (((s :: t).length : Int) > 0))) = false := by rw [decide_eq_true (by omega)]; rfl
    have hz : inb 0 (s :: t).length = true := inb_nat h0
    have hr0 : rd ((s :: t).map enc) 0 = enc (rd_T123 (s :: t) 0) := rd_enc h0
    have hn0 : ¬ (s :: t).length = 0 := by omega
    rw [if_neg hn0] at hle hmo
    simp only [f13_v, f13_t, Tree.run, Bool.cond_decide]
    simp only [Tree.run, lf0, lfs, toInt_int, toBool_bool, toStr_str, xs_list, nil_list, fst_pair, snd_pair, List.length_map, Option.bind_some, nb_same, cond_true, cond_false, eq_false g1, eq_false g2, if_false, hca, hcb, Bool.not_true, hle, hmo, hd, show (!(true == true)) = false by decide, hz, hr0, enc, hw1, inb_nat hlt, Int.toNat_natCast, rd_enc hlt, hi2, hh, hrh, hb1, hu, hu', su, hw, hw', sw, hv, hv', sv, hwi, hrw, hc1, hc2, hi1, awake_told]
/-- A list of spans that is read. -/
theorem cn_spans {p : P} (h : Cn (.slice (.pair (.int .i64) (.pair (.int .i64) .unit))) p) : ∃ n l, p = L n l := by
  obtain ⟨n, xs, rfl, hz, hx⟩ := h
  clear hz
  have : ∃ l : List S123, xs = l.map enc := by
    induction xs with
    | nil => exact ⟨[], rfl⟩
    | cons x t ih =>
      obtain ⟨l, hl⟩ := ih fun y hy => hx y (by simp [hy])
      obtain ⟨a, b, rfl, ⟨i, rfl⟩, c, d, rfl, ⟨j, rfl⟩, rfl⟩ := hx x (by simp)
      exact ⟨⟨i, j⟩ :: l, by rw [hl]; rfl⟩
  obtain ⟨l, rfl⟩ := this
  exact ⟨n, l, rfl⟩
end Go.Proofs.Ytjemihhhkhdbeaa.Sp
namespace Go.Proofs.Ytjemihhhkhdbeaa
open Go Go.Eng
theorem spanDoes_pure {p0 p1 p2 : P} (c0 : Cn (.slice (.pair (.int .i64) (.pair (.int .i64) .unit))) p0) (c1 : Cn (.slice (.pair (.int .i64) (.pair (.int .i64) .unit))) p1) (c2 : Cn (.int .i64) p2) : f13_v [p0, p1, p2] = some (0, [.bool true]) := by
  obtain ⟨n, a, rfl⟩ := Sp.cn_spans c0
  obtain ⟨m, b, rfl⟩ := Sp.cn_spans c1
  obtain ⟨p, rfl⟩ := c2
  exact Sp.spanDoes_told n m a b p
end Go.Proofs.Ytjemihhhkhdbeaa
