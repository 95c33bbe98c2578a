/- Spans, needs and manifests: which may be, which are alike, by the program and by the document. Conditions: none but those each states. -/
import Derived.Test.YtjemihhhkhdbeaaLab
import Derived.Test.YtjemihhhkhdbeaaQHas
set_option linter.unusedVariables false
set_option linter.unusedSimpArgs false
namespace Go.Proofs.Ytjemihhhkhdbeaa.Mn
open Go Go.Eng
abbrev Sp := Sp.S123
structure Nd where
  nm : ByteArray
  ni : Bool
  ins : List Sp
structure Rl where
  ver : Int
  nn : Bool
  nds : List Nd
structure Mf where
  nm : ByteArray
  rn : Bool
  rls : List Rl
abbrev eS := Sp.enc
abbrev LS (n : Bool) (l : List Sp) : P := .list n (l.map eS)
def eN (d : Nd) : P := .pair (.str d.nm) (.pair (LS d.ni d.ins) .unit)
abbrev LN (n : Bool) (l : List Nd) : P := .list n (l.map eN)
def eR (r : Rl) : P := .pair (I r.ver) (.pair (LN r.nn r.nds) .unit)
abbrev LR (n : Bool) (l : List Rl) : P := .list n (l.map eR)
def eM (m : Mf) : P := .pair (.str m.nm) (.pair (LR m.rn m.rls) .unit)
abbrev s0 := Sp.z123
def n0 : Nd := ⟨.empty, true, []⟩
def rl0 : Rl := ⟨0, true, []⟩
theorem rdS {l : List Sp} {i : Nat} (h : i < l.length) : rd (l.map eS) i = .pair (I (l.getD i s0).f0) (.pair (I (l.getD i s0).f1) .unit) := rd_map eS l s0 h
theorem rdN {l : List Nd} {i : Nat} (h : i < l.length) : rd (l.map eN) i = .pair (.str (l.getD i n0).nm) (.pair (LS (l.getD i n0).ni (l.getD i n0).ins) .unit) := rd_map eN l n0 h
theorem rdR {l : List Rl} {i : Nat} (h : i < l.length) : rd (l.map eR) i = .pair (I (l.getD i rl0).ver) (.pair (LN (l.getD i rl0).nn (l.getD i rl0).nds) .unit) := rd_map eR l rl0 h
theorem getD_pre {α : Type} (l : List α) (d : α) (i : Nat) : l.getD i d = l.getD i d := rfl
/-! ### spans -/
def chkS : Int → List Sp → Bool
  | _, [] => true
  | e, s :: t => decide (e < s.f0) && (decide (s.f0 < s.f1) && (decide (s.f1 ≤ 1000000000) && chkS s.f1 t))
theorem and_dec {a b : Prop} [Decidable a] [Decidable b] : (decide a && decide b) = decide (a ∧ b) := by
  by_cases ha : a <;> by_cases hb : b <;> simp [ha, hb]
theorem goOn_chk : ∀ (l : List Sp) (e : Int), goOn (fun e s => decide (e < s.f0) && (decide (s.f0 < s.f1) && decide (s.f1 ≤ 1000000000))) (fun _ s => s.f1) e l = chkS e l
  | [], e => rfl
  | s :: t, e => by simp only [goOn, chkS, goOn_chk t, Bool.and_assoc]
theorem check_told (n : Bool) (l : List Sp) (hl : l.length < 1000000) : f80_v [LS n l] = some (0, [.bool (chkS (-1) l)]) := by
  have h := loop_list (step := f80_s58) l s0 (fun e s => decide (e < s.f0) && (decide (s.f0 < s.f1) && decide (s.f1 ≤ 1000000000))) (fun _ s => s.f1)
    (fun e i => [I e, LS n l, I (l.length : Int), I (i : Int)]) (1, []) (0, [.bool false]) (-1) (by omega) (fun e i hi K => by
      simp only [f80_s58, Tree.run, Bool.cond_decide]
      simp only [Tree.run, lf0, lfs, toInt_int, toBool_bool, toStr_str, xs_list, nil_list, fst_pair, snd_pair, List.length_map, Option.bind_some, nb_same, cond_true, cond_false, decide_true, decide_false, eq_true (show (i : Int) < l.length by omega), if_true, inb_nat hi, Int.toNat_natCast, rdS hi, wrap_succ i (by omega)]
      generalize l.getD i s0 = s
      by_cases c1 : s.f0 ≤ e
      · simp only [eq_true c1, if_true, decide_eq_false (show ¬ e < s.f0 by omega), Bool.false_and, Tree.run, lf0, lfs, toInt_int, toBool_bool, toStr_str, xs_list, nil_list, fst_pair, snd_pair, List.length_map, Option.bind_some, nb_same, cond_true, cond_false, decide_true, decide_false]
      by_cases c2 : s.f0 ≥ s.f1
      · simp only [eq_false c1, eq_true c2, if_true, if_false, decide_eq_false (show ¬ s.f0 < s.f1 by omega), Bool.false_and, Bool.and_false, Bool.false_and, Tree.run, lf0, lfs, toInt_int, toBool_bool, toStr_str, xs_list, nil_list, fst_pair, snd_pair, List.length_map, Option.bind_some, nb_same, cond_true, cond_false, decide_true, decide_false]
      by_cases c3 : s.f1 > 1000000000
      · simp only [eq_false c1, eq_false c2, eq_true c3, if_true, if_false, decide_eq_false (show ¬ s.f1 ≤ 1000000000 by omega), Bool.and_false, Bool.false_and, Tree.run, lf0, lfs, toInt_int, toBool_bool, toStr_str, xs_list, nil_list, fst_pair, snd_pair, List.length_map, Option.bind_some, nb_same, cond_true, cond_false, decide_true, decide_false]
      simp only [eq_false c1, eq_false c2, eq_false c3, if_false, decide_eq_true (show e < s.f0 by omega), decide_eq_true (show s.f0 < s.f1 by omega), decide_eq_true (show s.f1 ≤ 1000000000 by omega), Bool.and_self, Tree.run, lf0, lfs, toInt_int, toBool_bool, toStr_str, xs_list, nil_list, fst_pair, snd_pair, List.length_map, Option.bind_some, nb_same, cond_true, cond_false, decide_true, decide_false]) (fun e K => by
      simp only [f80_s58, Tree.run, Bool.cond_decide]
      simp only [Tree.run, lf0, lfs, toInt_int, toBool_bool, toStr_str, xs_list, nil_list, fst_pair, snd_pair, List.length_map, Option.bind_some, nb_same, cond_true, cond_false, decide_true, decide_false, eq_false (show ¬ (l.length : Int) < l.length by omega), if_false])
  rw [goOn_chk] at h
  simp only [f80_v, f80_t, Tree.run, Bool.cond_decide]
  simp only [Tree.run, lf0, lfs, toInt_int, toBool_bool, toStr_str, xs_list, nil_list, fst_pair, snd_pair, List.length_map, Option.bind_some, nb_same, cond_true, cond_false, decide_true, decide_false]
  rw [show loopT f80_s58 FUEL [.int .i64 (-1), LS n l, .int .i64 (l.length : Int), .int .i64 0] = _ from h]
  cases chkS (-1) l <;> rfl
/-! ### lists that are looked at with what stands ahead -/
def prevAll {α : Type} (p0 : α → Bool) (p1 : α → α → Bool) : Option α → List α → Bool
  | _, [] => true
  | o, a :: t => p0 a && ((match o with | none => true | some b => p1 b a) && prevAll p0 p1 (some a) t)
theorem getD_at {α : Type} {l : List α} {d : α} {i : Nat} (h : i < l.length) : l.getD i d = l[i] := by simp [List.getD_eq_getElem?_getD, h]
theorem all_prev_at {α : Type} (p0 : α → Bool) (p1 : α → α → Bool) (d : α) (l : List α) : ∀ (n i : Nat), i + n = l.length →
    ((List.range' i n).all fun i => p0 (l.getD i d) && (decide (i = 0) || p1 (l.getD (i - 1) d) (l.getD i d))) = prevAll p0 p1 (if i = 0 then none else some (l.getD (i - 1) d)) (l.drop i) := by
  intro n
  induction n with
  | zero =>
    intro i h
    obtain rfl : i = l.length := by omega
    rw [List.drop_length]; rfl
  | succ n ih =>
    intro i h
    have hi : i < l.length := by omega
    rw [List.range'_succ, List.all_cons, ih (i + 1) (by omega), List.drop_eq_getElem_cons hi]
    have e : l.getD i d = l[i] := getD_at hi
    simp only [prevAll, if_neg (show ¬ i + 1 = 0 by omega), Nat.add_sub_cancel, e]
    by_cases h0 : i = 0
    · simp only [h0, if_true, decide_true, Bool.true_or, Bool.and_true, Bool.true_and]
    · simp only [h0, if_false, decide_false, Bool.false_or, Bool.and_assoc]
theorem all_prev {α : Type} (p0 : α → Bool) (p1 : α → α → Bool) (d : α) (l : List α) :
    ((List.range l.length).all fun i => p0 (l.getD i d) && (decide (i = 0) || p1 (l.getD (i - 1) d) (l.getD i d))) = prevAll p0 p1 none l := by
  rw [List.range_eq_range', all_prev_at p0 p1 d l l.length 0 (by omega)]; rfl
theorem goOn_prev {α β : Type} (f : α → β) (ok : β → α → Bool) (p0 : α → Bool) (p1 : α → α → Bool) : ∀ (l : List α) (o : Option α) (b : β),
    (∀ a, p0 a = true → (match o with | none => true | some c => p1 c a) = ok b a) → (∀ a, ok b a = true → p0 a = true) →
    (∀ a, p0 a = true → ∀ c, p0 c = true → p1 a c = ok (f a) c) → (∀ a, p0 a = true → ∀ c, ok (f a) c = true → p0 c = true) → goOn ok (fun _ a => f a) b l = prevAll p0 p1 o l
  | [], _, _, _, _, _, _ => rfl
  | a :: t, o, b, h1, h2, h3, h4 => by
    simp only [goOn, prevAll]
    cases hp : p0 a with
    | false =>
      have : ok b a = false := by
        cases ho : ok b a with
        | false => rfl
        | true => have := h2 a ho; rw [hp] at this; cases this
      rw [this]; rfl
    | true =>
      rw [goOn_prev f ok p0 p1 t (some a) (f a) (fun c hc => h3 a hp c hc) (fun c hc => h4 a hp c hc) h3 h4, ← h1 a hp]
      simp only [Bool.true_and]
/-- The document's check of spans. -/
theorem rcheck_told (n : Bool) (l : List Sp) (hl : l.length < 1000000) : f81_v [LS n l] = some (0, [.bool (chkS (-1) l)]) := by
  have h := loop_allB (step := f81_s26) (st := fun i => [LS n l, I (i : Int)]) (y1 := (1, [])) (z := (0, [.bool false]))
    (ok := fun i => (decide (0 ≤ (l.getD i s0).f0) && (decide ((l.getD i s0).f1 ≤ 1000000000) && decide ((l.getD i s0).f0 < (l.getD i s0).f1))) && (decide (i = 0) || decide ((l.getD (i - 1) s0).f1 < (l.getD i s0).f0))) l.length (by omega) (fun i hi K => by
      simp only [f81_s26, Tree.run, Bool.cond_decide]
      simp only [Tree.run, lf0, lfs, toInt_int, toBool_bool, toStr_str, xs_list, nil_list, fst_pair, snd_pair, List.length_map, Option.bind_some, nb_same, cond_true, cond_false, decide_true, decide_false, eq_true (show (i : Int) < l.length by omega), if_true, inb_nat hi, Int.toNat_natCast, rdS hi, wrap_succ i (by omega)]
      by_cases c1 : (l.getD i s0).f0 < 0
      · simp only [eq_true c1, if_true, decide_eq_false (show ¬ 0 ≤ (l.getD i s0).f0 by omega), Bool.false_and, Tree.run, lf0, lfs, toInt_int, toBool_bool, toStr_str, xs_list, nil_list, fst_pair, snd_pair, List.length_map, Option.bind_some, nb_same, cond_true, cond_false, decide_true, decide_false]
      by_cases c2 : (l.getD i s0).f1 > 1000000000
      · simp only [eq_false c1, eq_true c2, if_true, if_false, decide_eq_false (show ¬ (l.getD i s0).f1 ≤ 1000000000 by omega), Bool.false_and, Bool.and_false, Tree.run, lf0, lfs, toInt_int, toBool_bool, toStr_str, xs_list, nil_list, fst_pair, snd_pair, List.length_map, Option.bind_some, nb_same, cond_true, cond_false, decide_true, decide_false]
      by_cases c3 : (l.getD i s0).f0 ≥ (l.getD i s0).f1
      · simp only [eq_false c1, eq_false c2, eq_true c3, if_true, if_false, decide_eq_false (show ¬ (l.getD i s0).f0 < (l.getD i s0).f1 by omega), Bool.false_and, Bool.and_false, Tree.run, lf0, lfs, toInt_int, toBool_bool, toStr_str, xs_list, nil_list, fst_pair, snd_pair, List.length_map, Option.bind_some, nb_same, cond_true, cond_false, decide_true, decide_false]
      have q1 := decide_eq_true (show 0 ≤ (l.getD i s0).f0 by omega)
      have q2 := decide_eq_true (show (l.getD i s0).f1 ≤ 1000000000 by omega)
      have q3 := decide_eq_true (show (l.getD i s0).f0 < (l.getD i s0).f1 by omega)
      by_cases c4 : i = 0
      · simp only [eq_false c1, eq_false c2, eq_false c3, eq_true c4, eq_false (show ¬ (i : Int) > 0 by omega), if_true, if_false, q1, q2, q3, decide_true, Bool.true_or, Bool.and_self, Tree.run, lf0, lfs, toInt_int, toBool_bool, toStr_str, xs_list, nil_list, fst_pair, snd_pair, List.length_map, Option.bind_some, nb_same, cond_true, cond_false, decide_true, decide_false]
      obtain ⟨j, rfl⟩ : ∃ j, i = j + 1 := ⟨i - 1, by omega⟩
      have hw := wrap_pred j (by omega)
      have hj : j < l.length := by omega
      simp only [eq_false c1, eq_false c2, eq_false c3, eq_false c4, eq_true (show ((j + 1 : Nat) : Int) > 0 by omega), if_true, if_false, q1, q2, q3, decide_false, Bool.false_or, Bool.true_and, Bool.and_self, hw, inb_nat hj, Int.toNat_natCast, rdS hj, Tree.run, lf0, lfs, toInt_int, toBool_bool, toStr_str, xs_list, nil_list, fst_pair, snd_pair, List.length_map, Option.bind_some, nb_same, cond_true, cond_false, decide_true, decide_false, Nat.add_sub_cancel]
      by_cases c5 : (l.getD (j + 1) s0).f0 ≤ (l.getD j s0).f1
      · simp only [eq_true c5, if_true, decide_eq_false (show ¬ (l.getD j s0).f1 < (l.getD (j + 1) s0).f0 by omega), Tree.run, lf0, lfs, toInt_int, toBool_bool, toStr_str, xs_list, nil_list, fst_pair, snd_pair, List.length_map, Option.bind_some, nb_same, cond_true, cond_false, decide_true, decide_false]
      · simp only [eq_false c5, if_false, decide_eq_true (show (l.getD j s0).f1 < (l.getD (j + 1) s0).f0 by omega), Tree.run, lf0, lfs, toInt_int, toBool_bool, toStr_str, xs_list, nil_list, fst_pair, snd_pair, List.length_map, Option.bind_some, nb_same, cond_true, cond_false, decide_true, decide_false]) (fun K => by
      simp only [f81_s26, Tree.run, Bool.cond_decide]
      simp only [Tree.run, lf0, lfs, toInt_int, toBool_bool, toStr_str, xs_list, nil_list, fst_pair, snd_pair, List.length_map, Option.bind_some, nb_same, cond_true, cond_false, decide_true, decide_false, eq_false (show ¬ (l.length : Int) < l.length by omega), if_false])
  rw [all_prev (fun s : Sp => decide (0 ≤ s.f0) && (decide (s.f1 ≤ 1000000000) && decide (s.f0 < s.f1))) (fun b s => decide (b.f1 < s.f0)) s0 l] at h
  have e := goOn_prev (fun s : Sp => s.f1) (fun e s => decide (e < s.f0) && (decide (s.f0 < s.f1) && decide (s.f1 ≤ 1000000000))) (fun s : Sp => decide (0 ≤ s.f0) && (decide (s.f1 ≤ 1000000000) && decide (s.f0 < s.f1))) (fun b s => decide (b.f1 < s.f0)) l none (-1)
    (fun a ha => by simp only [Bool.and_eq_true, decide_eq_true_eq] at ha; simp only [decide_eq_true (show -1 < a.f0 by omega), decide_eq_true ha.2.1, decide_eq_true ha.2.2]; rfl)
    (fun a ha => by simp only [Bool.and_eq_true, decide_eq_true_eq] at ha ⊢; omega)
    (fun a ha c hc => by simp only [Bool.and_eq_true, decide_eq_true_eq] at hc; simp only [decide_eq_true hc.2.1, decide_eq_true hc.2.2, Bool.and_self, Bool.and_true])
    (fun a ha c hc => by simp only [Bool.and_eq_true, decide_eq_true_eq] at ha hc ⊢; omega)
  rw [← e, goOn_chk] at h
  simp only [f81_v, f81_t, Tree.run, Bool.cond_decide]
  simp only [Tree.run, lf0, lfs, toInt_int, toBool_bool, toStr_str, xs_list, nil_list, fst_pair, snd_pair, List.length_map, Option.bind_some, nb_same, cond_true, cond_false, decide_true, decide_false]
  rw [show loopT f81_s26 FUEL [LS n l, .int .i64 0] = _ from h]
  cases chkS (-1) l <;> rfl
/-! ### alike -/
def sameS (a b : List Sp) : Bool := decide (a.length = b.length) && (List.range a.length).all fun i => (a.getD i s0).f0 == (b.getD i s0).f0 && ((a.getD i s0).f1 == (b.getD i s0).f1 && true)
theorem neq_len {α : Type} (a b : List α) : (((a.length : Nat) : Int) != ((b.length : Nat) : Int)) = !decide (a.length = b.length) := by
  by_cases h : a.length = b.length
  · simp [h]
  · simp [h]; omega
theorem bool_if (b : Bool) {x y : Nat × List P} : (if b = true then x else y) = bif b then x else y := by cases b <;> rfl
theorem rsameS_told (n m : Bool) (a b : List Sp) (ha : a.length < 1000000) : f82_v [LS n a, LS m b] = some (0, [.bool (sameS a b)]) := by
  simp only [f82_v, f82_t, Tree.run, Bool.cond_decide]
  simp only [Tree.run, lf0, lfs, toInt_int, toBool_bool, toStr_str, xs_list, nil_list, fst_pair, snd_pair, List.length_map, Option.bind_some, nb_same, cond_true, cond_false, decide_true, decide_false, neq_len]
  by_cases hl : a.length = b.length
  · have h := loop_allB (step := f82_s58) (st := fun i => [LS n a, LS m b, I (i : Int)]) (y1 := (1, [])) (z := (0, [.bool false]))
      (ok := fun i => (a.getD i s0).f0 == (b.getD i s0).f0 && ((a.getD i s0).f1 == (b.getD i s0).f1 && true)) a.length (by omega) (fun i hi K => by
        simp only [f82_s58, Tree.run, Bool.cond_decide]
        simp only [Tree.run, lf0, lfs, toInt_int, toBool_bool, toStr_str, xs_list, nil_list, fst_pair, snd_pair, List.length_map, Option.bind_some, nb_same, cond_true, cond_false, decide_true, decide_false, eq_true (show (i : Int) < a.length by omega), if_true, inb_nat hi, inb_nat (show i < b.length by omega), Int.toNat_natCast, rdS hi, rdS (show i < b.length by omega), wrap_succ i (by omega), eqP]
        cases ((a.getD i s0).f0 == (b.getD i s0).f0 && ((a.getD i s0).f1 == (b.getD i s0).f1 && true)) <;> rfl) (fun K => by
        simp only [f82_s58, Tree.run, Bool.cond_decide]
        simp only [Tree.run, lf0, lfs, toInt_int, toBool_bool, toStr_str, xs_list, nil_list, fst_pair, snd_pair, List.length_map, Option.bind_some, nb_same, cond_true, cond_false, decide_true, decide_false, eq_false (show ¬ (a.length : Int) < a.length by omega), if_false])
    rw [show loopT f82_s58 FUEL [LS n a, LS m b, .int .i64 0] = _ from h]
    simp only [sameS, decide_eq_true hl, Bool.not_true, Tree.run, lf0, lfs, toInt_int, toBool_bool, toStr_str, xs_list, nil_list, fst_pair, snd_pair, List.length_map, Option.bind_some, nb_same, cond_true, cond_false, decide_true, decide_false, Bool.true_and]
    cases (List.range a.length).all fun i => (a.getD i s0).f0 == (b.getD i s0).f0 && ((a.getD i s0).f1 == (b.getD i s0).f1 && true) <;> rfl
  · simp only [sameS, decide_eq_false hl, Bool.not_false, Tree.run, lf0, lfs, toInt_int, toBool_bool, toStr_str, xs_list, nil_list, fst_pair, snd_pair, List.length_map, Option.bind_some, nb_same, cond_true, cond_false, decide_true, decide_false, Bool.false_and]
theorem equalS_told (n m : Bool) (a b : List Sp) (ha : a.length < 1000000) : f159_v [LS n a, LS m b] = some (0, [.bool (sameS a b)]) := by
  simp only [f159_v, f159_t, Tree.run, Bool.cond_decide]
  simp only [Tree.run, lf0, lfs, toInt_int, toBool_bool, toStr_str, xs_list, nil_list, fst_pair, snd_pair, List.length_map, Option.bind_some, nb_same, cond_true, cond_false, decide_true, decide_false, neq_len]
  by_cases hl : a.length = b.length
  · have h := loop_allB (step := f159_s58) (st := fun i => [LS n a, LS m b, I (a.length : Int), I (i : Int)]) (y1 := (1, [])) (z := (0, [.bool false]))
      (ok := fun i => (a.getD i s0).f0 == (b.getD i s0).f0 && ((a.getD i s0).f1 == (b.getD i s0).f1 && true)) a.length (by omega) (fun i hi K => by
        simp only [f159_s58, Tree.run, Bool.cond_decide]
        simp only [Tree.run, lf0, lfs, toInt_int, toBool_bool, toStr_str, xs_list, nil_list, fst_pair, snd_pair, List.length_map, Option.bind_some, nb_same, cond_true, cond_false, decide_true, decide_false, eq_true (show (i : Int) < a.length by omega), if_true, inb_nat hi, inb_nat (show i < b.length by omega), Int.toNat_natCast, rdS hi, rdS (show i < b.length by omega), wrap_succ i (by omega), eqP]
        cases ((a.getD i s0).f0 == (b.getD i s0).f0 && ((a.getD i s0).f1 == (b.getD i s0).f1 && true)) <;> rfl) (fun K => by
        simp only [f159_s58, Tree.run, Bool.cond_decide]
        simp only [Tree.run, lf0, lfs, toInt_int, toBool_bool, toStr_str, xs_list, nil_list, fst_pair, snd_pair, List.length_map, Option.bind_some, nb_same, cond_true, cond_false, decide_true, decide_false, eq_false (show ¬ (a.length : Int) < a.length by omega), if_false])
    rw [show loopT f159_s58 FUEL [LS n a, LS m b, .int .i64 (a.length : Int), .int .i64 0] = _ from h]
    simp only [sameS, decide_eq_true hl, Bool.not_true, Tree.run, lf0, lfs, toInt_int, toBool_bool, toStr_str, xs_list, nil_list, fst_pair, snd_pair, List.length_map, Option.bind_some, nb_same, cond_true, cond_false, decide_true, decide_false, Bool.true_and]
    cases (List.range a.length).all fun i => (a.getD i s0).f0 == (b.getD i s0).f0 && ((a.getD i s0).f1 == (b.getD i s0).f1 && true) <;> rfl
  · simp only [sameS, decide_eq_false hl, Bool.not_false, Tree.run, lf0, lfs, toInt_int, toBool_bool, toStr_str, xs_list, nil_list, fst_pair, snd_pair, List.length_map, Option.bind_some, nb_same, cond_true, cond_false, decide_true, decide_false, Bool.false_and]
theorem sameS_told (n m : Bool) (a b : List Sp) (ha : a.length < 1000000) : f85_v [LS n a, LS m b] = some (0, [.bool (sameS a b)]) := by
  simp only [f85_v, f85_t, Tree.run, Bool.cond_decide]
  simp only [Tree.run, lf0, lfs, toInt_int, toBool_bool, toStr_str, xs_list, nil_list, fst_pair, snd_pair, List.length_map, Option.bind_some, nb_same, cond_true, cond_false, decide_true, decide_false, equalS_told n m a b ha]
theorem sameS_refl (a : List Sp) : sameS a a = true := by simp [sameS]
def okN (x y : Nd) : Bool := strEq x.nm y.nm && sameS x.ins y.ins
def sameN (a b : List Nd) : Bool := decide (a.length = b.length) && (List.range a.length).all fun i => okN (a.getD i n0) (b.getD i n0)
/-- No list in it is too long. -/
def NdS (d : Nd) : Prop := d.ins.length < 1000000 ∧ d.nm.size ≤ 1000000
theorem at_of {α : Type} {p : α → Prop} {l : List α} {d : α} (h : ∀ x ∈ l, p x) {i : Nat} (hi : i < l.length) : p (l.getD i d) := by
  rw [getD_at hi]; exact h _ (List.getElem_mem hi)
theorem rsameN_told (n m : Bool) (a b : List Nd) (ha : a.length < 1000000) (hs : ∀ x ∈ a, NdS x) : f134_v [LN n a, LN m b] = some (0, [.bool (sameN a b)]) := by
  simp only [f134_v, f134_t, Tree.run, Bool.cond_decide]
  simp only [Tree.run, lf0, lfs, toInt_int, toBool_bool, toStr_str, xs_list, nil_list, fst_pair, snd_pair, List.length_map, Option.bind_some, nb_same, cond_true, cond_false, decide_true, decide_false, neq_len]
  by_cases hl : a.length = b.length
  · have h := loop_allB (step := f134_s58) (st := fun i => [LN n a, LN m b, I (i : Int)]) (y1 := (1, [])) (z := (0, [.bool false]))
      (ok := fun i => okN (a.getD i n0) (b.getD i n0)) a.length (by omega) (fun i hi K => by
        have hS := rsameS_told (a.getD i n0).ni (b.getD i n0).ni (a.getD i n0).ins (b.getD i n0).ins (at_of hs hi).1
        simp only [f134_s58, Tree.run, Bool.cond_decide]
        simp only [Tree.run, lf0, lfs, toInt_int, toBool_bool, toStr_str, xs_list, nil_list, fst_pair, snd_pair, List.length_map, Option.bind_some, nb_same, cond_true, cond_false, decide_true, decide_false, eq_true (show (i : Int) < a.length by omega), if_true, inb_nat hi, inb_nat (show i < b.length by omega), Int.toNat_natCast, rdN hi, rdN (show i < b.length by omega), wrap_succ i (by omega), hS, okN]
        cases strEq (a.getD i n0).nm (b.getD i n0).nm <;> cases sameS (a.getD i n0).ins (b.getD i n0).ins <;> rfl) (fun K => by
        simp only [f134_s58, Tree.run, Bool.cond_decide]
        simp only [Tree.run, lf0, lfs, toInt_int, toBool_bool, toStr_str, xs_list, nil_list, fst_pair, snd_pair, List.length_map, Option.bind_some, nb_same, cond_true, cond_false, decide_true, decide_false, eq_false (show ¬ (a.length : Int) < a.length by omega), if_false])
    rw [show loopT f134_s58 FUEL [LN n a, LN m b, .int .i64 0] = _ from h]
    simp only [sameN, decide_eq_true hl, Bool.not_true, Tree.run, lf0, lfs, toInt_int, toBool_bool, toStr_str, xs_list, nil_list, fst_pair, snd_pair, List.length_map, Option.bind_some, nb_same, cond_true, cond_false, decide_true, decide_false, Bool.true_and]
    cases (List.range a.length).all fun i => okN (a.getD i n0) (b.getD i n0) <;> rfl
  · simp only [sameN, decide_eq_false hl, Bool.not_false, Tree.run, lf0, lfs, toInt_int, toBool_bool, toStr_str, xs_list, nil_list, fst_pair, snd_pair, List.length_map, Option.bind_some, nb_same, cond_true, cond_false, decide_true, decide_false, Bool.false_and]
theorem same1N_told (x y : Nd) (hx : NdS x) : f177_v [eN x, eN y] = some (0, [.bool (okN x y)]) := by
  simp only [f177_v, f177_t, Tree.run, Bool.cond_decide, eN]
  simp only [Tree.run, lf0, lfs, toInt_int, toBool_bool, toStr_str, xs_list, nil_list, fst_pair, snd_pair, List.length_map, Option.bind_some, nb_same, cond_true, cond_false, decide_true, decide_false, sameS_told x.ni y.ni x.ins y.ins hx.1, okN]
  cases strEq x.nm y.nm <;> rfl
theorem sameN_told (n m : Bool) (a b : List Nd) (ha : a.length < 1000000) (hs : ∀ x ∈ a, NdS x) : f133_v [LN n a, LN m b] = some (0, [.bool (sameN a b)]) := by
  have key : f176_v [LN n a, LN m b, .unit] = some (0, [.bool (sameN a b)]) := by
    simp only [f176_v, f176_t, Tree.run, Bool.cond_decide]
    simp only [Tree.run, lf0, lfs, toInt_int, toBool_bool, toStr_str, xs_list, nil_list, fst_pair, snd_pair, List.length_map, Option.bind_some, nb_same, cond_true, cond_false, decide_true, decide_false, neq_len]
    by_cases hl : a.length = b.length
    · have h := loop_allB (step := f176_s58) (st := fun i => [LN m b, .unit, LN n a, I (a.length : Int), I (i : Int)]) (y1 := (1, [])) (z := (0, [.bool false]))
        (ok := fun i => okN (a.getD i n0) (b.getD i n0)) a.length (by omega) (fun i hi K => by
          have hS := same1N_told (a.getD i n0) (b.getD i n0) (at_of hs hi)
          simp only [f176_s58, Tree.run, Bool.cond_decide]
          simp only [Tree.run, lf0, lfs, toInt_int, toBool_bool, toStr_str, xs_list, nil_list, fst_pair, snd_pair, List.length_map, Option.bind_some, nb_same, cond_true, cond_false, decide_true, decide_false, eq_true (show (i : Int) < a.length by omega), if_true, inb_nat hi, inb_nat (show i < b.length by omega), Int.toNat_natCast, rd_map eN a n0 hi, rd_map eN b n0 (show i < b.length by omega), wrap_succ i (by omega), hS]
          cases okN (a.getD i n0) (b.getD i n0) <;> rfl) (fun K => by
          simp only [f176_s58, Tree.run, Bool.cond_decide]
          simp only [Tree.run, lf0, lfs, toInt_int, toBool_bool, toStr_str, xs_list, nil_list, fst_pair, snd_pair, List.length_map, Option.bind_some, nb_same, cond_true, cond_false, decide_true, decide_false, eq_false (show ¬ (a.length : Int) < a.length by omega), if_false])
      rw [show loopT f176_s58 FUEL [LN m b, .unit, LN n a, .int .i64 (a.length : Int), .int .i64 0] = _ from h]
      simp only [sameN, decide_eq_true hl, Bool.not_true, Tree.run, lf0, lfs, toInt_int, toBool_bool, toStr_str, xs_list, nil_list, fst_pair, snd_pair, List.length_map, Option.bind_some, nb_same, cond_true, cond_false, decide_true, decide_false, Bool.true_and]
      cases (List.range a.length).all fun i => okN (a.getD i n0) (b.getD i n0) <;> rfl
    · simp only [sameN, decide_eq_false hl, Bool.not_false, Tree.run, lf0, lfs, toInt_int, toBool_bool, toStr_str, xs_list, nil_list, fst_pair, snd_pair, List.length_map, Option.bind_some, nb_same, cond_true, cond_false, decide_true, decide_false, Bool.false_and]
  simp only [f133_v, f133_t, Tree.run, Bool.cond_decide]
  simp only [Tree.run, lf0, lfs, toInt_int, toBool_bool, toStr_str, xs_list, nil_list, fst_pair, snd_pair, List.length_map, Option.bind_some, nb_same, cond_true, cond_false, decide_true, decide_false, key]
def okR (x y : Rl) : Bool := (x.ver == y.ver) && sameN x.nds y.nds
def sameR (a b : List Rl) : Bool := decide (a.length = b.length) && (List.range a.length).all fun i => okR (a.getD i rl0) (b.getD i rl0)
def RlS (r : Rl) : Prop := r.nds.length < 1000000 ∧ ∀ x ∈ r.nds, NdS x
def sameM (a b : Mf) : Bool := strEq a.nm b.nm && sameR a.rls b.rls
def MfS (m : Mf) : Prop := m.nm.size ≤ 1000000 ∧ m.rls.length < 1000000 ∧ ∀ r ∈ m.rls, RlS r
theorem rsameM_told (a b : Mf) (ha : MfS a) : f56_v [eM a, eM b] = some (0, [.bool (sameM a b)]) := by
  simp only [f56_v, f56_t, Tree.run, Bool.cond_decide, eM]
  simp only [Tree.run, lf0, lfs, toInt_int, toBool_bool, toStr_str, xs_list, nil_list, fst_pair, snd_pair, List.length_map, Option.bind_some, nb_same, cond_true, cond_false, decide_true, decide_false, neq_len]
  cases hst : strEq a.nm b.nm with
  | false => simp only [sameM, hst, Bool.not_false, Tree.run, lf0, lfs, toInt_int, toBool_bool, toStr_str, xs_list, nil_list, fst_pair, snd_pair, List.length_map, Option.bind_some, nb_same, cond_true, cond_false, decide_true, decide_false, Bool.false_and]
  | true =>
    by_cases hl : a.rls.length = b.rls.length
    · have h := loop_allB (step := f56_s58) (st := fun i => [I (i : Int), eM a, eM b]) (y1 := (1, [])) (z := (0, [.bool false]))
        (ok := fun i => okR (a.rls.getD i rl0) (b.rls.getD i rl0)) a.rls.length (by have := ha.2.1; omega) (fun i hi K => by
          have h1 := ha.2.1
          have hr := at_of (d := rl0) ha.2.2 hi
          have hS := rsameN_told (a.rls.getD i rl0).nn (b.rls.getD i rl0).nn (a.rls.getD i rl0).nds (b.rls.getD i rl0).nds hr.1 hr.2
          simp only [f56_s58, Tree.run, Bool.cond_decide, eM]
          simp only [Tree.run, lf0, lfs, toInt_int, toBool_bool, toStr_str, xs_list, nil_list, fst_pair, snd_pair, List.length_map, Option.bind_some, nb_same, cond_true, cond_false, decide_true, decide_false, eq_true (show (i : Int) < a.rls.length by omega), if_true, inb_nat hi, inb_nat (show i < b.rls.length by omega), Int.toNat_natCast, rdR hi, rdR (show i < b.rls.length by omega), wrap_succ i (by omega), hS, okR, bne, Bool.cond_decide]
          cases ((a.rls.getD i rl0).ver == (b.rls.getD i rl0).ver) <;> cases sameN (a.rls.getD i rl0).nds (b.rls.getD i rl0).nds <;> rfl) (fun K => by
          simp only [f56_s58, Tree.run, Bool.cond_decide, eM]
          simp only [Tree.run, lf0, lfs, toInt_int, toBool_bool, toStr_str, xs_list, nil_list, fst_pair, snd_pair, List.length_map, Option.bind_some, nb_same, cond_true, cond_false, decide_true, decide_false, eq_false (show ¬ (a.rls.length : Int) < a.rls.length by omega), if_false, Bool.cond_decide])
      rw [show loopT f56_s58 FUEL [.int .i64 0, .pair (.str a.nm) (.pair (LR a.rn a.rls) .unit), .pair (.str b.nm) (.pair (LR b.rn b.rls) .unit)] = _ from h]
      simp only [sameM, hst, sameR, decide_eq_true hl, Bool.not_true, Tree.run, lf0, lfs, toInt_int, toBool_bool, toStr_str, xs_list, nil_list, fst_pair, snd_pair, List.length_map, Option.bind_some, nb_same, cond_true, cond_false, decide_true, decide_false, Bool.true_and]
      cases (List.range a.rls.length).all fun i => okR (a.rls.getD i rl0) (b.rls.getD i rl0) <;> rfl
    · simp only [sameM, hst, sameR, decide_eq_false hl, Bool.not_false, Bool.not_true, Tree.run, lf0, lfs, toInt_int, toBool_bool, toStr_str, xs_list, nil_list, fst_pair, snd_pair, List.length_map, Option.bind_some, nb_same, cond_true, cond_false, decide_true, decide_false, Bool.false_and, Bool.true_and]
theorem same1R_told (x y : Rl) (hx : RlS x) : f132_v [eR x, eR y] = some (0, [.bool (okR x y)]) := by
  simp only [f132_v, f132_t, Tree.run, Bool.cond_decide, eR]
  simp only [Tree.run, lf0, lfs, toInt_int, toBool_bool, toStr_str, xs_list, nil_list, fst_pair, snd_pair, List.length_map, Option.bind_some, nb_same, cond_true, cond_false, decide_true, decide_false, sameN_told x.nn y.nn x.nds y.nds hx.1 hx.2, okR]
  cases (x.ver == y.ver) <;> rfl
theorem sameM_told (a b : Mf) (ha : MfS a) : f55_v [eM a, eM b] = some (0, [.bool (sameM a b)]) := by
  have h1 := ha.2.1
  have key : f131_v [LR a.rn a.rls, LR b.rn b.rls, .unit] = some (0, [.bool (sameR a.rls b.rls)]) := by
    simp only [f131_v, f131_t, Tree.run, Bool.cond_decide]
    simp only [Tree.run, lf0, lfs, toInt_int, toBool_bool, toStr_str, xs_list, nil_list, fst_pair, snd_pair, List.length_map, Option.bind_some, nb_same, cond_true, cond_false, decide_true, decide_false, neq_len]
    by_cases hl : a.rls.length = b.rls.length
    · have h := loop_allB (step := f131_s58) (st := fun i => [LR b.rn b.rls, .unit, LR a.rn a.rls, I (a.rls.length : Int), I (i : Int)]) (y1 := (1, [])) (z := (0, [.bool false]))
        (ok := fun i => okR (a.rls.getD i rl0) (b.rls.getD i rl0)) a.rls.length (by omega) (fun i hi K => by
          have hS := same1R_told (a.rls.getD i rl0) (b.rls.getD i rl0) (at_of ha.2.2 hi)
          simp only [f131_s58, Tree.run, Bool.cond_decide]
          simp only [Tree.run, lf0, lfs, toInt_int, toBool_bool, toStr_str, xs_list, nil_list, fst_pair, snd_pair, List.length_map, Option.bind_some, nb_same, cond_true, cond_false, decide_true, decide_false, eq_true (show (i : Int) < a.rls.length by omega), if_true, inb_nat hi, inb_nat (show i < b.rls.length by omega), Int.toNat_natCast, rd_map eR a.rls rl0 hi, rd_map eR b.rls rl0 (show i < b.rls.length by omega), wrap_succ i (by omega), hS]
          cases okR (a.rls.getD i rl0) (b.rls.getD i rl0) <;> rfl) (fun K => by
          simp only [f131_s58, Tree.run, Bool.cond_decide]
          simp only [Tree.run, lf0, lfs, toInt_int, toBool_bool, toStr_str, xs_list, nil_list, fst_pair, snd_pair, List.length_map, Option.bind_some, nb_same, cond_true, cond_false, decide_true, decide_false, eq_false (show ¬ (a.rls.length : Int) < a.rls.length by omega), if_false])
      rw [show loopT f131_s58 FUEL [LR b.rn b.rls, .unit, LR a.rn a.rls, .int .i64 (a.rls.length : Int), .int .i64 0] = _ from h]
      simp only [sameR, decide_eq_true hl, Bool.not_true, Tree.run, lf0, lfs, toInt_int, toBool_bool, toStr_str, xs_list, nil_list, fst_pair, snd_pair, List.length_map, Option.bind_some, nb_same, cond_true, cond_false, decide_true, decide_false, Bool.true_and]
      cases (List.range a.rls.length).all fun i => okR (a.rls.getD i rl0) (b.rls.getD i rl0) <;> rfl
    · simp only [sameR, decide_eq_false hl, Bool.not_false, Tree.run, lf0, lfs, toInt_int, toBool_bool, toStr_str, xs_list, nil_list, fst_pair, snd_pair, List.length_map, Option.bind_some, nb_same, cond_true, cond_false, decide_true, decide_false, Bool.false_and]
  simp only [f55_v, f55_t, Tree.run, Bool.cond_decide, eM]
  simp only [Tree.run, lf0, lfs, toInt_int, toBool_bool, toStr_str, xs_list, nil_list, fst_pair, snd_pair, List.length_map, Option.bind_some, nb_same, cond_true, cond_false, decide_true, decide_false, key, sameM]
  cases strEq a.nm b.nm <;> rfl
end Go.Proofs.Ytjemihhhkhdbeaa.Mn
