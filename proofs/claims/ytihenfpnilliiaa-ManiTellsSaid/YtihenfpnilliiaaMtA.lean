/- Needs and manifests, as the document has them: which may be, which are alike. Conditions: none but those each states. -/
import Derived.Test.YtihenfpnilliiaaMnA
set_option linter.unusedVariables false
set_option linter.unusedSimpArgs false
namespace Go.Proofs.Ytihenfpnilliiaa.Mn
open Go Go.Eng
def prevAll {α : Type} (p0 : α → Bool) (p1 : α → α → Bool) : Option α → List α → Bool
  | _, [] => true
  | o, a :: t => p0 a && ((match o with | none => true | some b => p1 b a) && prevAll p0 p1 (some a) t)
theorem all_prev_at {α : Type} (p0 : α → Bool) (p1 : α → α → Bool) (d : α) (l : List α) : ∀ (n i : Nat), i + n = l.length →
    ((List.range' i n).all fun i => p0 (l.getD i d) && (decide (i = 0) || p1 (l.getD (i - 1) d) (l.getD i d))) = prevAll p0 p1 (if i = 0 then none else some (l.getD (i - 1) d)) (l.drop i) := by
  intro n
  induction n with
  | zero =>
    intro i h
    obtain rfl : i = l.length := by omega
    rw [List.drop_length]; rfl
  | succ n ih =>
    intro i h
    have hi : i < l.length := by omega
    rw [List.range'_succ, List.all_cons, ih (i + 1) (by omega), List.drop_eq_getElem_cons hi]
    have e : l.getD i d = l[i] := getD_at hi
    simp only [prevAll, if_neg (show ¬ i + 1 = 0 by omega), Nat.add_sub_cancel, e]
    by_cases h0 : i = 0
    · simp only [h0, if_true, decide_true, Bool.true_or, Bool.and_true, Bool.true_and]
    · simp only [h0, if_false, decide_false, Bool.false_or, Bool.and_assoc]
theorem all_prev {α : Type} (p0 : α → Bool) (p1 : α → α → Bool) (d : α) (l : List α) :
    ((List.range l.length).all fun i => p0 (l.getD i d) && (decide (i = 0) || p1 (l.getD (i - 1) d) (l.getD i d))) = prevAll p0 p1 none l := by
  rw [List.range_eq_range', all_prev_at p0 p1 d l l.length 0 (by omega)]; rfl
theorem goOn_prev {α β : Type} (f : α → β) (ok : β → α → Bool) (p0 : α → Bool) (p1 : α → α → Bool) : ∀ (l : List α) (o : Option α) (b : β),
    (∀ a, p0 a = true → (match o with | none => true | some c => p1 c a) = ok b a) → (∀ a, ok b a = true → p0 a = true) →
    (∀ a, p0 a = true → ∀ c, p0 c = true → p1 a c = ok (f a) c) → (∀ a, p0 a = true → ∀ c, ok (f a) c = true → p0 c = true) → goOn ok (fun _ a => f a) b l = prevAll p0 p1 o l
  | [], _, _, _, _, _, _ => rfl
  | a :: t, o, b, h1, h2, h3, h4 => by
    simp only [goOn, prevAll]
    cases hp : p0 a with
    | false =>
      have : ok b a = false := by
        cases ho : ok b a with
        | false => rfl
        | true => have := h2 a ho; rw [hp] at this; cases this
      rw [this]; rfl
    | true =>
      rw [goOn_prev f ok p0 p1 t (some a) (f a) (fun c hc => h3 a hp c hc) (fun c hc => h4 a hp c hc) h3 h4, ← h1 a hp]
      simp only [Bool.true_and]
theorem rcheck_told (n : Bool) (l : List Sp) (hl : l.length < 1000000) : f18_v [LS n l] = some (0, [.bool (chkS (-1) l)]) := by
  have h := loop_allB (step := f18_s26) (st := fun i => [LS n l, I (i : Int)]) (y1 := (1, [])) (z := (0, [.bool false]))
    (ok := fun i => (decide (0 ≤ (l.getD i s0).f0) && (decide ((l.getD i s0).f1 ≤ 1000000000) && decide ((l.getD i s0).f0 < (l.getD i s0).f1))) && (decide (i = 0) || decide ((l.getD (i - 1) s0).f1 < (l.getD i s0).f0))) l.length (by omega) (fun i hi K => by
      simp only [f18_s26, Tree.run, Bool.cond_decide]
      simp only [Tree.run, lf0, lfs, toInt_int, toBool_bool, toStr_str, xs_list, nil_list, fst_pair, snd_pair, List.length_map, Option.bind_some, nb_same, cond_true, cond_false, decide_true, decide_false, eq_true (show (i : Int) < l.length by omega), if_true, inb_nat hi, Int.toNat_natCast, rdS hi, wrap_succ i (by omega)]
      by_cases c1 : (l.getD i s0).f0 < 0
      · simp only [eq_true c1, if_true, decide_eq_false (show ¬ 0 ≤ (l.getD i s0).f0 by omega), Bool.false_and, Tree.run, lf0, lfs, toInt_int, toBool_bool, toStr_str, xs_list, nil_list, fst_pair, snd_pair, List.length_map, Option.bind_some, nb_same, cond_true, cond_false, decide_true, decide_false]
      by_cases c2 : (l.getD i s0).f1 > 1000000000
      · simp only [eq_false c1, eq_true c2, if_true, if_false, decide_eq_false (show ¬ (l.getD i s0).f1 ≤ 1000000000 by omega), Bool.false_and, Bool.and_false, Tree.run, lf0, lfs, toInt_int, toBool_bool, toStr_str, xs_list, nil_list, fst_pair, snd_pair, List.length_map, Option.bind_some, nb_same, cond_true, cond_false, decide_true, decide_false]
      by_cases c3 : (l.getD i s0).f0 ≥ (l.getD i s0).f1
      · simp only [eq_false c1, eq_false c2, eq_true c3, if_true, if_false, decide_eq_false (show ¬ (l.getD i s0).f0 < (l.getD i s0).f1 by omega), Bool.false_and, Bool.and_false, Tree.run, lf0, lfs, toInt_int, toBool_bool, toStr_str, xs_list, nil_list, fst_pair, snd_pair, List.length_map, Option.bind_some, nb_same, cond_true, cond_false, decide_true, decide_false]
      have q1 := decide_eq_true (show 0 ≤ (l.getD i s0).f0 by omega)
      have q2 := decide_eq_true (show (l.getD i s0).f1 ≤ 1000000000 by omega)
      have q3 := decide_eq_true (show (l.getD i s0).f0 < (l.getD i s0).f1 by omega)
      by_cases c4 : i = 0
      · simp only [eq_false c1, eq_false c2, eq_false c3, eq_true c4, eq_false (show ¬ (i : Int) > 0 by omega), if_true, if_false, q1, q2, q3, decide_true, Bool.true_or, Bool.and_self, Tree.run, lf0, lfs, toInt_int, toBool_bool, toStr_str, xs_list, nil_list, fst_pair, snd_pair, List.length_map, Option.bind_some, nb_same, cond_true, cond_false, decide_true, decide_false]
      obtain ⟨j, rfl⟩ : ∃ j, i = j + 1 := ⟨i - 1, by omega⟩
      have hw := wrap_pred j (by omega)
      have hj : j < l.length := by omega
      simp only [eq_false c1, eq_false c2, eq_false c3, eq_false c4, eq_true (show ((j + 1 : Nat) : Int) > 0 by omega), if_true, if_false, q1, q2, q3, decide_false, Bool.false_or, Bool.true_and, Bool.and_self, hw, inb_nat hj, Int.toNat_natCast, rdS hj, Tree.run, lf0, lfs, toInt_int, toBool_bool, toStr_str, xs_list, nil_list, fst_pair, snd_pair, List.length_map, Option.bind_some, nb_same, cond_true, cond_false, decide_true, decide_false, Nat.add_sub_cancel]
      by_cases c5 : (l.getD (j + 1) s0).f0 ≤ (l.getD j s0).f1
      · simp only [eq_true c5, if_true, decide_eq_false (show ¬ (l.getD j s0).f1 < (l.getD (j + 1) s0).f0 by omega), Tree.run, lf0, lfs, toInt_int, toBool_bool, toStr_str, xs_list, nil_list, fst_pair, snd_pair, List.length_map, Option.bind_some, nb_same, cond_true, cond_false, decide_true, decide_false]
      · simp only [eq_false c5, if_false, decide_eq_true (show (l.getD j s0).f1 < (l.getD (j + 1) s0).f0 by omega), Tree.run, lf0, lfs, toInt_int, toBool_bool, toStr_str, xs_list, nil_list, fst_pair, snd_pair, List.length_map, Option.bind_some, nb_same, cond_true, cond_false, decide_true, decide_false]) (fun K => by
      simp only [f18_s26, Tree.run, Bool.cond_decide]
      simp only [Tree.run, lf0, lfs, toInt_int, toBool_bool, toStr_str, xs_list, nil_list, fst_pair, snd_pair, List.length_map, Option.bind_some, nb_same, cond_true, cond_false, decide_true, decide_false, eq_false (show ¬ (l.length : Int) < l.length by omega), if_false])
  rw [all_prev (fun s : Sp => decide (0 ≤ s.f0) && (decide (s.f1 ≤ 1000000000) && decide (s.f0 < s.f1))) (fun b s => decide (b.f1 < s.f0)) s0 l] at h
  have e := goOn_prev (fun s : Sp => s.f1) (fun e s => decide (e < s.f0) && (decide (s.f0 < s.f1) && decide (s.f1 ≤ 1000000000))) (fun s : Sp => decide (0 ≤ s.f0) && (decide (s.f1 ≤ 1000000000) && decide (s.f0 < s.f1))) (fun b s => decide (b.f1 < s.f0)) l none (-1)
    (fun a ha => by simp only [Bool.and_eq_true, decide_eq_true_eq] at ha; simp only [decide_eq_true (show -1 < a.f0 by omega), decide_eq_true ha.2.1, decide_eq_true ha.2.2]; rfl)
    (fun a ha => by simp only [Bool.and_eq_true, decide_eq_true_eq] at ha ⊢; omega)
    (fun a ha c hc => by simp only [Bool.and_eq_true, decide_eq_true_eq] at hc; simp only [decide_eq_true hc.2.1, decide_eq_true hc.2.2, Bool.and_self, Bool.and_true])
    (fun a ha c hc => by simp only [Bool.and_eq_true, decide_eq_true_eq] at ha hc ⊢; omega)
  rw [← e, goOn_chk] at h
  simp only [f18_v, f18_t, Tree.run, Bool.cond_decide]
  simp only [Tree.run, lf0, lfs, toInt_int, toBool_bool, toStr_str, xs_list, nil_list, fst_pair, snd_pair, List.length_map, Option.bind_some, nb_same, cond_true, cond_false, decide_true, decide_false]
  rw [show loopT f18_s26 FUEL [LS n l, .int .i64 0] = _ from h]
  cases chkS (-1) l <;> rfl
def sameS (a b : List Sp) : Bool := decide (a.length = b.length) && (List.range a.length).all fun i => (a.getD i s0).f0 == (b.getD i s0).f0 && ((a.getD i s0).f1 == (b.getD i s0).f1 && true)
theorem rsameS_told (n m : Bool) (a b : List Sp) (ha : a.length < 1000000) : f21_v [LS n a, LS m b] = some (0, [.bool (sameS a b)]) := by
  simp only [f21_v, f21_t, Tree.run, Bool.cond_decide]
  simp only [Tree.run, lf0, lfs, toInt_int, toBool_bool, toStr_str, xs_list, nil_list, fst_pair, snd_pair, List.length_map, Option.bind_some, nb_same, cond_true, cond_false, decide_true, decide_false, neq_len]
  by_cases hl : a.length = b.length
  · have h := loop_allB (step := f21_s58) (st := fun i => [LS n a, LS m b, I (i : Int)]) (y1 := (1, [])) (z := (0, [.bool false]))
      (ok := fun i => (a.getD i s0).f0 == (b.getD i s0).f0 && ((a.getD i s0).f1 == (b.getD i s0).f1 && true)) a.length (by omega) (fun i hi K => by
        simp only [f21_s58, Tree.run, Bool.cond_decide]
        simp only [Tree.run, lf0, lfs, toInt_int, toBool_bool, toStr_str, xs_list, nil_list, fst_pair, snd_pair, List.length_map, Option.bind_some, nb_same, cond_true, cond_false, decide_true, decide_false, eq_true (show (i : Int) < a.length by omega), if_true, inb_nat hi, inb_nat (show i < b.length by omega), Int.toNat_natCast, rdS hi, rdS (show i < b.length by omega), wrap_succ i (by omega), eqP]
        cases ((a.getD i s0).f0 == (b.getD i s0).f0 && ((a.getD i s0).f1 == (b.getD i s0).f1 && true)) <;> rfl) (fun K => by
        simp only [f21_s58, Tree.run, Bool.cond_decide]
        simp only [Tree.run, lf0, lfs, toInt_int, toBool_bool, toStr_str, xs_list, nil_list, fst_pair, snd_pair, List.length_map, Option.bind_some, nb_same, cond_true, cond_false, decide_true, decide_false, eq_false (show ¬ (a.length : Int) < a.length by omega), if_false])
    rw [show loopT f21_s58 FUEL [LS n a, LS m b, .int .i64 0] = _ from h]
    simp only [sameS, decide_eq_true hl, Bool.not_true, Tree.run, lf0, lfs, toInt_int, toBool_bool, toStr_str, xs_list, nil_list, fst_pair, snd_pair, List.length_map, Option.bind_some, nb_same, cond_true, cond_false, decide_true, decide_false, Bool.true_and]
    cases (List.range a.length).all fun i => (a.getD i s0).f0 == (b.getD i s0).f0 && ((a.getD i s0).f1 == (b.getD i s0).f1 && true) <;> rfl
  · simp only [sameS, decide_eq_false hl, Bool.not_false, Tree.run, lf0, lfs, toInt_int, toBool_bool, toStr_str, xs_list, nil_list, fst_pair, snd_pair, List.length_map, Option.bind_some, nb_same, cond_true, cond_false, decide_true, decide_false, Bool.false_and]
theorem sameS_refl (a : List Sp) : sameS a a = true := by simp [sameS]
def okN (x y : Nd) : Bool := strEq x.nm y.nm && sameS x.ins y.ins
def sameN (a b : List Nd) : Bool := decide (a.length = b.length) && (List.range a.length).all fun i => okN (a.getD i n0) (b.getD i n0)
theorem rsameN_told (n m : Bool) (a b : List Nd) (ha : a.length < 1000000) (hs : ∀ x ∈ a, NdS x) : f20_v [LN n a, LN m b] = some (0, [.bool (sameN a b)]) := by
  simp only [f20_v, f20_t, Tree.run, Bool.cond_decide]
  simp only [Tree.run, lf0, lfs, toInt_int, toBool_bool, toStr_str, xs_list, nil_list, fst_pair, snd_pair, List.length_map, Option.bind_some, nb_same, cond_true, cond_false, decide_true, decide_false, neq_len]
  by_cases hl : a.length = b.length
  · have h := loop_allB (step := f20_s58) (st := fun i => [LN n a, LN m b, I (i : Int)]) (y1 := (1, [])) (z := (0, [.bool false]))
      (ok := fun i => okN (a.getD i n0) (b.getD i n0)) a.length (by omega) (fun i hi K => by
        have hS := rsameS_told (a.getD i n0).ni (b.getD i n0).ni (a.getD i n0).ins (b.getD i n0).ins (at_of hs hi).1
        simp only [f20_s58, Tree.run, Bool.cond_decide]
        simp only [Tree.run, lf0, lfs, toInt_int, toBool_bool, toStr_str, xs_list, nil_list, fst_pair, snd_pair, List.length_map, Option.bind_some, nb_same, cond_true, cond_false, decide_true, decide_false, eq_true (show (i : Int) < a.length by omega), if_true, inb_nat hi, inb_nat (show i < b.length by omega), Int.toNat_natCast, rdN hi, rdN (show i < b.length by omega), wrap_succ i (by omega), hS, okN]
        cases strEq (a.getD i n0).nm (b.getD i n0).nm <;> cases sameS (a.getD i n0).ins (b.getD i n0).ins <;> rfl) (fun K => by
        simp only [f20_s58, Tree.run, Bool.cond_decide]
        simp only [Tree.run, lf0, lfs, toInt_int, toBool_bool, toStr_str, xs_list, nil_list, fst_pair, snd_pair, List.length_map, Option.bind_some, nb_same, cond_true, cond_false, decide_true, decide_false, eq_false (show ¬ (a.length : Int) < a.length by omega), if_false])
    rw [show loopT f20_s58 FUEL [LN n a, LN m b, .int .i64 0] = _ from h]
    simp only [sameN, decide_eq_true hl, Bool.not_true, Tree.run, lf0, lfs, toInt_int, toBool_bool, toStr_str, xs_list, nil_list, fst_pair, snd_pair, List.length_map, Option.bind_some, nb_same, cond_true, cond_false, decide_true, decide_false, Bool.true_and]
    cases (List.range a.length).all fun i => okN (a.getD i n0) (b.getD i n0) <;> rfl
  · simp only [sameN, decide_eq_false hl, Bool.not_false, Tree.run, lf0, lfs, toInt_int, toBool_bool, toStr_str, xs_list, nil_list, fst_pair, snd_pair, List.length_map, Option.bind_some, nb_same, cond_true, cond_false, decide_true, decide_false, Bool.false_and]
theorem rcheckN_told (n : Bool) (l : List Nd) (hl : l.length < 1000000) (hs : ∀ x ∈ l, NdS x) : f39_v [LN n l] = some (0, [.bool (chkN l)]) := by
  have h := loop_allB (step := f39_s26) (st := fun i => [LN n l, I (i : Int)]) (y1 := (1, [LN n l])) (z := (0, [.bool false]))
    (ok := fun i => (fitB (l.getD i n0).nm && (chkS (-1) (l.getD i n0).ins && decide ((l.getD i n0).ins.length ≤ 6))) && (decide (i = 0) || !leS (l.getD i n0).nm (l.getD (i - 1) n0).nm)) l.length (by omega) (fun i hi K => by
      have hx := at_of (d := n0) hs hi
      have hf := rfit_told (l.getD i n0).nm hx.2
      have hc := rcheck_told (l.getD i n0).ni (l.getD i n0).ins hx.1
      simp only [f39_s26, Tree.run, Bool.cond_decide]
      simp only [Tree.run, lf0, lfs, toInt_int, toBool_bool, toStr_str, xs_list, nil_list, fst_pair, snd_pair, List.length_map, Option.bind_some, nb_same, cond_true, cond_false, decide_true, decide_false, eq_true (show (i : Int) < l.length by omega), if_true, inb_nat hi, Int.toNat_natCast, rdN hi, wrap_succ i (by omega), hf, hc]
      cases fitB (l.getD i n0).nm with
      | false => simp only [Bool.not_false, Bool.false_and, Tree.run, lf0, lfs, toInt_int, toBool_bool, toStr_str, xs_list, nil_list, fst_pair, snd_pair, List.length_map, Option.bind_some, nb_same, cond_true, cond_false, decide_true, decide_false]
      | true =>
        cases chkS (-1) (l.getD i n0).ins with
        | false => simp only [Bool.not_false, Bool.not_true, Bool.false_and, Bool.and_false, Tree.run, lf0, lfs, toInt_int, toBool_bool, toStr_str, xs_list, nil_list, fst_pair, snd_pair, List.length_map, Option.bind_some, nb_same, cond_true, cond_false, decide_true, decide_false]
        | true =>
          by_cases c : ((l.getD i n0).ins.length : Int) > 6
          · simp only [eq_true c, if_true, Bool.not_true, Bool.true_and, decide_eq_false (show ¬ (l.getD i n0).ins.length ≤ 6 by omega), Bool.false_and, Tree.run, lf0, lfs, toInt_int, toBool_bool, toStr_str, xs_list, nil_list, fst_pair, snd_pair, List.length_map, Option.bind_some, nb_same, cond_true, cond_false, decide_true, decide_false]
          · have c6 := decide_eq_true (show (l.getD i n0).ins.length ≤ 6 by omega)
            by_cases c4 : i = 0
            · simp only [eq_false c, eq_true c4, eq_false (show ¬ (i : Int) > 0 by omega), if_true, if_false, Bool.not_true, c6, Bool.true_and, decide_true, Bool.true_or, Tree.run, lf0, lfs, toInt_int, toBool_bool, toStr_str, xs_list, nil_list, fst_pair, snd_pair, List.length_map, Option.bind_some, nb_same, cond_true, cond_false, decide_true, decide_false]
            · obtain ⟨j, rfl⟩ : ∃ j, i = j + 1 := ⟨i - 1, by omega⟩
              have hw := wrap_pred j (by omega)
              have hj : j < l.length := by omega
              simp only [eq_false c, eq_false c4, eq_true (show ((j + 1 : Nat) : Int) > 0 by omega), if_true, if_false, Bool.not_true, c6, Bool.true_and, decide_false, Bool.false_or, hw, inb_nat hj, Int.toNat_natCast, rdN hj, Tree.run, lf0, lfs, toInt_int, toBool_bool, toStr_str, xs_list, nil_list, fst_pair, snd_pair, List.length_map, Option.bind_some, nb_same, cond_true, cond_false, decide_true, decide_false, Nat.add_sub_cancel]
              unfold leS
              cases (strLt (l.getD (j + 1) n0).nm (l.getD j n0).nm || strEq (l.getD (j + 1) n0).nm (l.getD j n0).nm) <;> rfl) (fun K => by
      simp only [f39_s26, Tree.run, Bool.cond_decide]
      simp only [Tree.run, lf0, lfs, toInt_int, toBool_bool, toStr_str, xs_list, nil_list, fst_pair, snd_pair, List.length_map, Option.bind_some, nb_same, cond_true, cond_false, decide_true, decide_false, eq_false (show ¬ (l.length : Int) < l.length by omega), if_false])
  rw [all_prev (fun d : Nd => fitB d.nm && (chkS (-1) d.ins && decide (d.ins.length ≤ 6))) (fun b d => !leS d.nm b.nm) n0 l] at h
  have e := goOn_prev (fun d : Nd => d.nm) okNd (fun d : Nd => fitB d.nm && (chkS (-1) d.ins && decide (d.ins.length ≤ 6))) (fun b d => !leS d.nm b.nm) l none .empty
    (fun a ha => by
      simp only [Bool.and_eq_true] at ha
      have hne : strEq a.nm .empty = false := by
        cases hq : strEq a.nm .empty with
        | false => rfl
        | true => have := fit_empty hq; rw [this] at ha; cases ha.1
      simp only [okNd, leS, strLt_empty, hne, ha.1, ha.2.1, ha.2.2]; rfl)
    (fun a ha => by simp only [okNd, Bool.and_eq_true] at ha ⊢; exact ⟨ha.1, ha.2.2.2, ha.2.2.1⟩)
    (fun a ha c hc => by simp only [Bool.and_eq_true] at hc; simp only [okNd, hc.1, hc.2.1, hc.2.2, Bool.and_self, Bool.and_true, Bool.true_and])
    (fun a ha c hc => by simp only [okNd, Bool.and_eq_true] at hc ⊢; exact ⟨hc.1, hc.2.2.2, hc.2.2.1⟩)
  rw [← e] at h
  simp only [f39_v, f39_t, Tree.run, Bool.cond_decide]
  simp only [Tree.run, lf0, lfs, toInt_int, toBool_bool, toStr_str, xs_list, nil_list, fst_pair, snd_pair, List.length_map, Option.bind_some, nb_same, cond_true, cond_false, decide_true, decide_false]
  rw [show loopT f39_s26 FUEL [LN n l, .int .i64 0] = _ from h]
  unfold chkN
  cases goOn okNd (fun _ d => d.nm) .empty l with
  | false => rfl
  | true =>
    simp only [Tree.run, lf0, lfs, toInt_int, toBool_bool, toStr_str, xs_list, nil_list, fst_pair, snd_pair, List.length_map, Option.bind_some, nb_same, cond_true, cond_false, decide_true, decide_false, nb_lt 1 0 (by omega), Bool.true_and]
    by_cases c : l.length ≤ 6
    · rw [decide_eq_true c, decide_eq_true (by omega)]
    · rw [decide_eq_false c, decide_eq_false (by omega)]
theorem vfit_told (v : Int) : f38_v [I v] = some (0, [.bool (decide (0 ≤ v) && decide (v < 1000000000))]) := by
  simp only [f38_v, f38_t, Tree.run, Bool.cond_decide]
  simp only [Tree.run, lf0, lfs, toInt_int, toBool_bool, toStr_str, xs_list, nil_list, fst_pair, snd_pair, List.length_map, Option.bind_some, nb_same, cond_true, cond_false, decide_true, decide_false]
  by_cases c : v ≥ 0
  · simp only [eq_true c, if_true, decide_true, show (0 ≤ v) = True from eq_true (by omega), Bool.true_and]
    rfl
  · simp only [eq_false c, if_false, decide_false, show (0 ≤ v) = False from eq_false (by omega), Bool.false_and]
theorem rcheckM_told (m : Mf) (hm : MfS m) : f17_v [eM m] = some (0, [.bool (chkM m)]) := by
  have hl := hm.2.1
  have h := loop_allB (step := f17_s26) (st := fun i => [I (i : Int), eM m]) (y1 := (1, [eM m])) (z := (0, [.bool false]))
    (ok := fun i => ((decide (0 ≤ (m.rls.getD i rl0).ver) && decide ((m.rls.getD i rl0).ver < 1000000000)) && chkN (m.rls.getD i rl0).nds) && (decide (i = 0) || decide ((m.rls.getD (i - 1) rl0).ver < (m.rls.getD i rl0).ver))) m.rls.length (by omega) (fun i hi K => by
      have hx := at_of (d := rl0) hm.2.2 hi
      have hv := vfit_told (m.rls.getD i rl0).ver
      have hc := rcheckN_told (m.rls.getD i rl0).nn (m.rls.getD i rl0).nds hx.1 hx.2
      simp only [f17_s26, Tree.run, Bool.cond_decide, eM]
      simp only [Tree.run, lf0, lfs, toInt_int, toBool_bool, toStr_str, xs_list, nil_list, fst_pair, snd_pair, List.length_map, Option.bind_some, nb_same, cond_true, cond_false, decide_true, decide_false, eq_true (show (i : Int) < m.rls.length by omega), if_true, inb_nat hi, Int.toNat_natCast, rdR hi, wrap_succ i (by omega), hv, hc, Bool.cond_decide]
      cases (decide (0 ≤ (m.rls.getD i rl0).ver) && decide ((m.rls.getD i rl0).ver < 1000000000)) with
      | false => simp only [Bool.not_false, Bool.false_and, Tree.run, lf0, lfs, toInt_int, toBool_bool, toStr_str, xs_list, nil_list, fst_pair, snd_pair, List.length_map, Option.bind_some, nb_same, cond_true, cond_false, decide_true, decide_false]
      | true =>
        cases chkN (m.rls.getD i rl0).nds with
        | false => simp only [Bool.not_false, Bool.not_true, Bool.false_and, Bool.and_false, Tree.run, lf0, lfs, toInt_int, toBool_bool, toStr_str, xs_list, nil_list, fst_pair, snd_pair, List.length_map, Option.bind_some, nb_same, cond_true, cond_false, decide_true, decide_false]
        | true =>
          by_cases c4 : i = 0
          · simp only [eq_true c4, eq_false (show ¬ (i : Int) > 0 by omega), if_true, if_false, Bool.not_true, Bool.true_and, decide_true, Bool.true_or, Tree.run, lf0, lfs, toInt_int, toBool_bool, toStr_str, xs_list, nil_list, fst_pair, snd_pair, List.length_map, Option.bind_some, nb_same, cond_true, cond_false, decide_true, decide_false]
          · obtain ⟨j, rfl⟩ : ∃ j, i = j + 1 := ⟨i - 1, by omega⟩
            have hw := wrap_pred j (by omega)
            have hj : j < m.rls.length := by omega
            simp only [eq_false c4, eq_true (show ((j + 1 : Nat) : Int) > 0 by omega), if_true, if_false, Bool.not_true, Bool.true_and, decide_false, Bool.false_or, hw, inb_nat hj, Int.toNat_natCast, rdR hj, Tree.run, lf0, lfs, toInt_int, toBool_bool, toStr_str, xs_list, nil_list, fst_pair, snd_pair, List.length_map, Option.bind_some, nb_same, cond_true, cond_false, decide_true, decide_false, Nat.add_sub_cancel]
            by_cases c5 : (m.rls.getD (j + 1) rl0).ver ≤ (m.rls.getD j rl0).ver
            · simp only [eq_true c5, if_true, decide_eq_false (show ¬ (m.rls.getD j rl0).ver < (m.rls.getD (j + 1) rl0).ver by omega), Tree.run, lf0, lfs, toInt_int, toBool_bool, toStr_str, xs_list, nil_list, fst_pair, snd_pair, List.length_map, Option.bind_some, nb_same, cond_true, cond_false, decide_true, decide_false]
            · simp only [eq_false c5, if_false, decide_eq_true (show (m.rls.getD j rl0).ver < (m.rls.getD (j + 1) rl0).ver by omega), Tree.run, lf0, lfs, toInt_int, toBool_bool, toStr_str, xs_list, nil_list, fst_pair, snd_pair, List.length_map, Option.bind_some, nb_same, cond_true, cond_false, decide_true, decide_false]) (fun K => by
      simp only [f17_s26, Tree.run, Bool.cond_decide, eM]
      simp only [Tree.run, lf0, lfs, toInt_int, toBool_bool, toStr_str, xs_list, nil_list, fst_pair, snd_pair, List.length_map, Option.bind_some, nb_same, cond_true, cond_false, decide_true, decide_false, eq_false (show ¬ (m.rls.length : Int) < m.rls.length by omega), if_false, Bool.cond_decide])
  rw [all_prev (fun r : Rl => (decide (0 ≤ r.ver) && decide (r.ver < 1000000000)) && chkN r.nds) (fun b r => decide (b.ver < r.ver)) rl0 m.rls] at h
  have e := goOn_prev (fun r : Rl => r.ver) okRl (fun r : Rl => (decide (0 ≤ r.ver) && decide (r.ver < 1000000000)) && chkN r.nds) (fun b r => decide (b.ver < r.ver)) m.rls none (-1)
    (fun a ha => by
      simp only [Bool.and_eq_true, decide_eq_true_eq] at ha
      simp only [okRl, decide_eq_true (show -1 < a.ver by omega), decide_eq_true ha.1.2, ha.2]; rfl)
    (fun a ha => by simp only [okRl, Bool.and_eq_true, decide_eq_true_eq] at ha ⊢; exact ⟨⟨by omega, ha.2.1⟩, ha.2.2⟩)
    (fun a ha c hc => by simp only [Bool.and_eq_true, decide_eq_true_eq] at hc; simp only [okRl, decide_eq_true hc.1.2, hc.2, Bool.and_self, Bool.and_true])
    (fun a ha c hc => by simp only [okRl, Bool.and_eq_true, decide_eq_true_eq] at ha hc ⊢; exact ⟨⟨by omega, hc.2.1⟩, hc.2.2⟩)
  rw [← e] at h
  have hf := rfit_told m.nm hm.1
  simp only [f17_v, f17_t, Tree.run, Bool.cond_decide]
  simp only [Tree.run, lf0, lfs, toInt_int, toBool_bool, toStr_str, xs_list, nil_list, fst_pair, snd_pair, List.length_map, Option.bind_some, nb_same, cond_true, cond_false, decide_true, decide_false]
  rw [show loopT f17_s26 FUEL [.int .i64 0, eM m] = _ from h]
  unfold chkM
  cases goOn okRl (fun _ r => r.ver) (-1) m.rls with
  | false => rfl
  | true =>
    simp only [Tree.run, lf0, lfs, toInt_int, toBool_bool, toStr_str, xs_list, nil_list, fst_pair, snd_pair, List.length_map, Option.bind_some, nb_same, cond_true, cond_false, decide_true, decide_false, nb_lt 1 0 (by omega), Bool.true_and, eM, hf]
    cases fitB m.nm with
    | false => rfl
    | true =>
      simp only [Tree.run, lf0, lfs, toInt_int, toBool_bool, toStr_str, xs_list, nil_list, fst_pair, snd_pair, List.length_map, Option.bind_some, nb_same, cond_true, cond_false, decide_true, decide_false, Bool.true_and]
      by_cases c : m.rls.length ≤ 8
      · rw [decide_eq_true c, decide_eq_true (by omega)]
      · rw [decide_eq_false c, decide_eq_false (by omega)]
theorem strEq_refl (s : ByteArray) : strEq s s = true := by simp [strEq]
theorem sameN_refl (l : List Nd) : sameN l l = true := by simp [sameN, okN, strEq_refl, sameS_refl]
end Go.Proofs.Ytihenfpnilliiaa.Mn
