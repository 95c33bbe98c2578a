/- Names: which may be, by the program. Conditions: none but those each states. -/
import Derived.Test.YtihenfpnilliiaaFNw1
import Derived.Test.YtihenfpnilliiaaE4
set_option linter.unusedVariables false
set_option linter.unusedSimpArgs false
namespace Go.Proofs.Ytihenfpnilliiaa.Mn
open Go Go.Eng
abbrev I (n : Int) : P := .int .i64 n
theorem wrap_of {x : Int} (h0 : -9223372036854775808 ≤ x) (h1 : x ≤ 9223372036854775807) : IntKind.i64.wrap x = x := by
  simp [IntKind.wrap, IntKind.bits, IntKind.signed]; omega
theorem wrap_succ (i : Nat) (h : i < 4611686018427387904) : IntKind.i64.wrap ((i : Int) + 1) = ((i + 1 : Nat) : Int) := by rw [wrap_of (by omega) (by omega)]; omega
theorem wrap_pred (i : Nat) (h : i < 4611686018427387904) : IntKind.i64.wrap (((i + 1 : Nat) : Int) - 1) = (i : Int) := by rw [wrap_of (by omega) (by omega)]; omega
theorem wrap_add (i j : Nat) (h : i + j < 4611686018427387904) : IntKind.i64.wrap ((i : Int) + (j : Int)) = ((i + j : Nat) : Int) := by rw [wrap_of (by omega) (by omega)]; omega
theorem inb_nat {i n : Nat} (h : i < n) : inb (i : Int) n = true := by unfold inb; exact decide_eq_true ⟨by omega, by omega⟩
theorem inb_no {i n : Nat} (h : ¬ i < n) : inb (i : Int) n = false := by unfold inb; exact decide_eq_false (by omega)
theorem wrap_byte (s : ByteArray) (i : Int) : IntKind.i64.wrap (byteAt s i) = byteAt s i := by have := byteAt_lt s i; rw [wrap_of (by omega) (by omega)]
theorem beqI (a b : Int) : (a == b) = decide (a = b) := by by_cases h : a = b <;> simp [h]
def kindI (x : Int) : Int := if 97 ≤ x ∧ x ≤ 122 then 0 else if 945 ≤ x ∧ x ≤ 969 then 1 else if 48 ≤ x ∧ x ≤ 57 then 2 else if x = 45 then 3 else 4
theorem kind_told (k : IntKind) (x : Int) : f46_v [.int k x] = some (0, [I (kindI x)]) := by
  simp only [f46_v, f46_t, Tree.run, Bool.cond_decide]
  simp only [Tree.run, lf0, lfs, toInt_int, toBool_bool, toStr_str, xs_list, nil_list, fst_pair, snd_pair, List.length_map, Option.bind_some, nb_same, cond_true, cond_false, decide_true, decide_false, beqI, Bool.cond_decide, kindI]
  repeat' split
  all_goals first | rfl | (exfalso; omega)
theorem kindI_le (x : Int) : 0 ≤ kindI x ∧ kindI x ≤ 4 := by unfold kindI; (repeat' split) <;> omega
abbrev r8 (s : ByteArray) (i : Nat) : Int × Int := run8 (byteAt s i) (byteAt s (i + 1 : Nat)) (byteAt s (i + 2 : Nat)) (byteAt s (i + 3 : Nat)) i s.size
theorem r8_1 (s : ByteArray) (i : Nat) : (r8 s i).1 = ((Utf8.decode s i).1 : Int) := by rw [r8, ← decode_rune]
theorem r8_2 (s : ByteArray) (i : Nat) : (r8 s i).2 = ((Utf8.decode s i).2 : Int) := by rw [r8, ← decode_rune]
theorem r8_len (s : ByteArray) (i : Nat) : 1 ≤ (r8 s i).2 ∧ (r8 s i).2 ≤ 4 := by unfold r8 run8; (repeat' split) <;> simp
theorem r8_rune (s : ByteArray) (i : Nat) : 0 ≤ (r8 s i).1 ∧ (r8 s i).1 ≤ 1114111 * 4 := by
  have h0 := byteAt_lt s i
  have h1 := byteAt_lt s (i + 1 : Nat)
  have h2 := byteAt_lt s (i + 2 : Nat)
  have h3 := byteAt_lt s (i + 3 : Nat)
  unfold r8 run8; (repeat' split) <;> (constructor <;> dsimp only <;> omega)
theorem runeAt_r8 (s : ByteArray) (i : Nat) : runeAt s (i : Int) = (r8 s i).1 := by rw [r8_1]; simp [runeAt]
theorem runeLen_r8 (s : ByteArray) (i : Nat) : runeLen s (i : Int) = (r8 s i).2 := by rw [r8_2]; simp [runeLen]
def wid (s : ByteArray) (i : Nat) : Nat := (Utf8.decode s i).2
def run (s : ByteArray) (i : Nat) : Int := (r8 s i).1
theorem wid_pos (s : ByteArray) (i : Nat) : 1 ≤ wid s i ∧ wid s i ≤ 4 := by have h1 := r8_len s i; have h2 := r8_2 s i; unfold wid; omega
def runesF (s : ByteArray) : Nat → Nat → List Int
  | 0, _ => []
  | f + 1, i => if i < s.size then (r8 s i).1 :: runesF s f (i + wid s i) else []
def runes (s : ByteArray) : List Int := runesF s s.size 0
theorem runesF_size (s : ByteArray) : ∀ f i, s.size ≤ i + f → s.size ≤ i + 4 * (runesF s f i).length
  | 0, i, h => by simp [runesF]; omega
  | f + 1, i, h => by
    have hw := wid_pos s i
    simp only [runesF]
    by_cases hi : i < s.size
    · rw [if_pos hi]
      have := runesF_size s f (i + wid s i) (by omega)
      simp only [List.length_cons]; omega
    · rw [if_neg hi]; simp; omega
theorem runes_size (s : ByteArray) : s.size ≤ 4 * (runes s).length := by have := runesF_size s s.size 0 (by omega); unfold runes; omega
theorem runesF_len (s : ByteArray) : ∀ f i, (runesF s f i).length ≤ f
  | 0, i => by simp [runesF]
  | f + 1, i => by
    simp only [runesF]
    split
    · have := runesF_len s f (i + wid s i); simp; omega
    · simp
theorem wid_r8 (s : ByteArray) (i : Nat) : (r8 s i).2 = (wid s i : Int) := r8_2 s i
def fitL (l : List Int) : Bool := decide (1 ≤ l.length) && decide (l.length ≤ 12) && l.all (fun r => decide (kindI r ≤ 3)) && l.head?.all fun r => decide (kindI r ≤ 1)
def fitB (s : ByteArray) : Bool := fitL (runes s)
def resF : List Int → Nat → Nat × List P
  | [], k => (1, [I k])
  | r :: t, k => if kindI r > 3 ∨ (k = 0 ∧ kindI r > 1) ∨ k = 12 then (0, [.bool false]) else resF t (k + 1)
theorem resF_pos : ∀ (l : List Int) (k : Nat), 1 ≤ k → k ≤ 12 → resF l k = if l.all (fun r => decide (kindI r ≤ 3)) = true ∧ k + l.length ≤ 12 then (1, [I ((k + l.length : Nat) : Int)]) else (0, [.bool false])
  | [], k, h, h2 => by simp [resF]; omega
  | r :: t, k, h, h2 => by
    simp only [resF]
    by_cases hk : kindI r > 3 ∨ (k = 0 ∧ kindI r > 1) ∨ k = 12
    · rw [if_pos hk, if_neg]
      rintro ⟨h3, h4⟩
      simp only [List.all_cons, Bool.and_eq_true, decide_eq_true_eq, List.length_cons] at h3 h4
      omega
    · rw [if_neg hk, resF_pos t (k + 1) (by omega) (by omega)]
      have e : (k + 1 + t.length) = k + (r :: t).length := by simp; omega
      rw [e]
      have hr : decide (kindI r ≤ 3) = true := decide_eq_true (by omega)
      simp only [List.all_cons, hr, Bool.true_and]
theorem resF_zero (l : List Int) : (match resF l 0 with | (0, ls) => some (0, [lf ls 0]) | (1, ls) => some (0, [.bool (decide ((lf ls 0).toInt > 0))]) | _ => none) = some (0, [P.bool (fitL l)]) := by
  cases l with
  | nil => rfl
  | cons r t =>
    have e0 : resF (r :: t) 0 = if kindI r > 3 ∨ (0 = 0 ∧ kindI r > 1) ∨ 0 = 12 then (0, [.bool false]) else resF t (0 + 1) := rfl
    rw [e0]
    by_cases hk : kindI r > 3 ∨ (0 = 0 ∧ kindI r > 1) ∨ 0 = 12
    · rw [if_pos hk]
      have : fitL (r :: t) = false := by
        have hz : decide (kindI r ≤ 1) = false := decide_eq_false (by omega)
        unfold fitL
        simp only [List.head?_cons, Option.all_some, hz, Bool.and_false]
      rw [this]; rfl
    · rw [if_neg hk, resF_pos t 1 (by omega) (by omega)]
      have h1 : decide (kindI r ≤ 1) = true := decide_eq_true (by omega)
      have h3 : decide (kindI r ≤ 3) = true := decide_eq_true (by omega)
      unfold fitL
      simp only [List.head?_cons, Option.all_some, h1, List.all_cons, h3, List.length_cons, Bool.and_true, Bool.true_and]
      by_cases hc : t.all (fun r => decide (kindI r ≤ 3)) = true ∧ 1 + t.length ≤ 12
      · rw [if_pos hc, hc.1]
        show some (0, [P.bool (decide (((1 + t.length : Nat) : Int) > 0))]) = _
        rw [decide_eq_true (show ((1 + t.length : Nat) : Int) > 0 by omega), decide_eq_true (show 1 ≤ t.length + 1 by omega), decide_eq_true (show t.length + 1 ≤ 12 by omega)]; rfl
      · rw [if_neg hc]
        have : (decide (1 ≤ t.length + 1) && decide (t.length + 1 ≤ 12) && t.all fun r => decide (kindI r ≤ 3)) = false := by
          rw [Bool.eq_false_iff]
          intro h
          simp only [Bool.and_eq_true, decide_eq_true_eq] at h
          exact hc ⟨h.2, by omega⟩
        rw [this]; rfl
theorem fit_loop (s : ByteArray) (hs : s.size ≤ 1000000) : ∀ (f i k : Nat), s.size ≤ i + f → k ≤ 12 →
    Lp (f + 1) f30_s58 [I k, .pair (.str s) (I i)] (resF (runesF s f i) k) := by
  intro f
  induction f with
  | zero =>
    intro i k h hk
    refine Lp.done fun K => ?_
    simp only [f30_s58, Tree.run, Bool.cond_decide]
    simp only [Tree.run, lf0, lfs, toInt_int, toBool_bool, toStr_str, xs_list, nil_list, fst_pair, snd_pair, List.length_map, Option.bind_some, nb_same, cond_true, cond_false, decide_true, decide_false, eq_false (show ¬ (i : Int) < s.size by omega), if_false, runesF, resF]
  | succ f ih =>
    intro i k h hk
    have hw := wid_pos s i
    by_cases hi : i < s.size
    · simp only [runesF, if_pos hi, resF]
      have hrl : (i : Int) + runeLen s (i : Int) = ((i + wid s i : Nat) : Int) := by rw [runeLen_r8, wid_r8]; omega
      by_cases g : kindI (r8 s i).1 > 3 ∨ (k = 0 ∧ kindI (r8 s i).1 > 1) ∨ k = 12
      · rw [if_pos g]
        refine Lp.done fun K => ?_
        simp only [f30_s58, Tree.run, Bool.cond_decide]
        simp only [Tree.run, lf0, lfs, toInt_int, toBool_bool, toStr_str, xs_list, nil_list, fst_pair, snd_pair, List.length_map, Option.bind_some, nb_same, cond_true, cond_false, decide_true, decide_false, eq_true (show (i : Int) < s.size by omega), if_true, runeAt_r8, kind_told, beqI, Bool.cond_decide]
        clear ih
        generalize kindI (r8 s i).1 = kd at *
        by_cases a1 : kd > 3
        · first | (exfalso; omega) | simp only [eq_true a1, if_true]
        by_cases a2 : (k : Int) = 0
        · by_cases a3 : kd > 1
          · first | (exfalso; omega) | simp only [eq_false a1, eq_true a2, eq_true a3, if_true, if_false]
          · by_cases a4 : (k : Int) = 12
            · first | (exfalso; omega) | simp only [eq_false a1, eq_true a2, eq_false a3, eq_true a4, if_true, if_false]
            · first | (exfalso; omega) | simp only [eq_false a1, eq_true a2, eq_false a3, eq_false a4, if_true, if_false]
        · by_cases a4 : (k : Int) = 12
          · first | (exfalso; omega) | simp only [eq_false a1, eq_false a2, eq_true a4, if_true, if_false]
          · first | (exfalso; omega) | simp only [eq_false a1, eq_false a2, eq_false a4, if_true, if_false]
      · rw [if_neg g]
        refine Lp.next (ls' := [I ((k + 1 : Nat) : Int), .pair (.str s) (I ((i + wid s i : Nat) : Int))]) (fun K => ?_) (ih (i + wid s i) (k + 1) (by omega) (by omega))
        simp only [f30_s58, Tree.run, Bool.cond_decide]
        simp only [Tree.run, lf0, lfs, toInt_int, toBool_bool, toStr_str, xs_list, nil_list, fst_pair, snd_pair, List.length_map, Option.bind_some, nb_same, cond_true, cond_false, decide_true, decide_false, eq_true (show (i : Int) < s.size by omega), if_true, runeAt_r8, kind_told, beqI, Bool.cond_decide, hrl, wrap_succ k (by omega)]
        clear ih
        generalize kindI (r8 s i).1 = kd at *
        by_cases a1 : kd > 3
        · first | (exfalso; omega) | simp only [eq_true a1, if_true]
        by_cases a2 : (k : Int) = 0
        · by_cases a3 : kd > 1
          · first | (exfalso; omega) | simp only [eq_false a1, eq_true a2, eq_true a3, if_true, if_false]
          · by_cases a4 : (k : Int) = 12
            · first | (exfalso; omega) | simp only [eq_false a1, eq_true a2, eq_false a3, eq_true a4, if_true, if_false]
            · first | (exfalso; omega) | simp only [eq_false a1, eq_true a2, eq_false a3, eq_false a4, if_true, if_false]
        · by_cases a4 : (k : Int) = 12
          · first | (exfalso; omega) | simp only [eq_false a1, eq_false a2, eq_true a4, if_true, if_false]
          · first | (exfalso; omega) | simp only [eq_false a1, eq_false a2, eq_false a4, if_true, if_false]
    · have e : runesF s (f + 1) i = [] := by simp only [runesF, if_neg hi]
      rw [e]
      refine Lp.done fun K => ?_
      simp only [f30_s58, Tree.run, Bool.cond_decide]
      simp only [Tree.run, lf0, lfs, toInt_int, toBool_bool, toStr_str, xs_list, nil_list, fst_pair, snd_pair, List.length_map, Option.bind_some, nb_same, cond_true, cond_false, decide_true, decide_false, eq_false (show ¬ (i : Int) < s.size by omega), if_false, resF]
theorem fit_told (s : ByteArray) (hs : s.size ≤ 1000000) : f30_v [.str s] = some (0, [.bool (fitB s)]) := by
  have h := (fit_loop s hs s.size 0 0 (by omega) (by omega)).fuel (by omega)
  have hz := resF_zero (runes s)
  simp only [f30_v, f30_t, Tree.run, Bool.cond_decide]
  simp only [Tree.run, lf0, lfs, toInt_int, toBool_bool, toStr_str, xs_list, nil_list, fst_pair, snd_pair, List.length_map, Option.bind_some, nb_same, cond_true, cond_false, decide_true, decide_false]
  rw [show loopT f30_s58 FUEL [.int .i64 0, .pair (.str s) (.int .i64 0)] = _ from h]
  unfold fitB
  rw [← hz]
  simp only [Tree.run, lf0, lfs, toInt_int, toBool_bool, toStr_str, xs_list, nil_list, fst_pair, snd_pair, List.length_map, Option.bind_some, nb_same, cond_true, cond_false, decide_true, decide_false]
  unfold runes
  generalize resF (runesF s s.size 0) 0 = y
  obtain ⟨n, ls⟩ := y
  match n with
  | 0 => rfl
  | 1 => rfl
  | n + 2 => rfl
theorem rd_map {α : Type} (f : α → P) (l : List α) (d : α) {i : Nat} (h : i < l.length) : rd (l.map f) i = f (l.getD i d) := by
  simp [rd, List.getD_eq_getElem?_getD, h]
end Go.Proofs.Ytihenfpnilliiaa.Mn
