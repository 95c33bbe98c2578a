/- Turns: Len, List, the example. Conditions: none but those each states. -/
import Derived.Test.YtjemihhhkhdbeaaTv1
set_option linter.unusedVariables false
set_option linter.unusedSimpArgs false
namespace Go.Proofs.Ytjemihhhkhdbeaa.Mn
open Go Go.Eng
/-- How many names the first i queues have. -/
def tot (xs : List P) : Nat → Nat
  | 0 => 0
  | i + 1 => tot xs i + (qu xs i).length
theorem tot_le {xs : List P} {b : Nat} : ∀ i, (∀ j, j < i → (qu xs j).length ≤ b) → tot xs i ≤ i * b
  | 0, _ => by simp [tot]
  | i + 1, h => by
    have h1 := tot_le i fun j hj => h j (by omega)
    have h2 := h i (by omega)
    rw [Nat.succ_mul]; simp only [tot]; omega
theorem Len_told (nb : Bool) (xs : List P) (last : P) (hn : xs.length ≤ 1000) (hb : ∀ j, j < xs.length → (qu xs j).length ≤ 1000) :
    f29_v [.list nb xs, last] = some (0, [I (tot xs xs.length : Nat), .list nb xs, last]) := by
  have lp := loop_scan (step := f29_s234) (st := fun i => [I (tot xs i : Nat), I (xs.length : Int), I (i : Int), last, .list nb xs]) (y1 := (0, [I (tot xs xs.length : Nat), last, .list nb xs])) (bad := fun _ => none) xs.length (by omega) (fun i hi K => by
    have ht := tot_le (xs := xs) (b := 1000) i fun j hj => hb j (by omega)
    have h2 := hb i hi
    have hw := wrap_add (tot xs i) (qu xs i).length (by omega)
    simp only [f29_s234, Tree.run, Bool.cond_decide]
    simp only [Tree.run, lf0, lfs, toInt_int, toBool_bool, toStr_str, xs_list, nil_list, fst_pair, snd_pair, List.length_map, Option.bind_some, nb_same, cond_true, cond_false, decide_true, decide_false, eq_true (show (i : Int) < xs.length by omega), if_true, inb_nat hi, Int.toNat_natCast, hw, wrap_succ i (by omega), tot]) (fun K => by
    simp only [f29_s234, Tree.run, Bool.cond_decide]
    simp only [Tree.run, lf0, lfs, toInt_int, toBool_bool, toStr_str, xs_list, nil_list, fst_pair, snd_pair, List.length_map, Option.bind_some, nb_same, cond_true, cond_false, decide_true, decide_false, eq_false (show ¬ (xs.length : Int) < xs.length by omega), if_false])
  have hn : ((List.range' 0 xs.length).findSome? fun _ => (none : Option (Nat × List P))) = none := by simp
  rw [hn] at lp
  simp only [f29_v, f29_t, Tree.run, Bool.cond_decide]
  simp only [Tree.run, lf0, lfs, toInt_int, toBool_bool, toStr_str, xs_list, nil_list, fst_pair, snd_pair, List.length_map, Option.bind_some, nb_same, cond_true, cond_false, decide_true, decide_false]
  rw [show loopT f29_s234 FUEL [.int .i64 0, .int .i64 (xs.length : Int), .int .i64 0, last, .list nb xs] = _ from lp]
  rfl
theorem tot_zero {xs : List P} : ∀ i, (∀ j, j < i → qu xs j = []) → tot xs i = 0
  | 0, _ => rfl
  | i + 1, h => by
    simp only [tot, tot_zero i fun j hj => h j (by omega), h i (by omega)]; rfl
theorem clone_told (l : P) (hl : l.xs.length ≤ 1000000) (hn : l.isNil = true → l.xs = []) : f113_v [l] = some (0, [.list l.isNil l.xs]) := by
  simp only [f113_v, f113_t, f113_s1, Tree.run, Bool.cond_decide]
  simp only [Tree.run, lf0, lfs, toInt_int, toBool_bool, toStr_str, xs_list, nil_list, fst_pair, snd_pair, List.length_map, Option.bind_some, nb_same, cond_true, cond_false, decide_true, decide_false]
  cases hb : l.isNil with
  | true => simp only [Tree.run, lf0, lfs, toInt_int, toBool_bool, toStr_str, xs_list, nil_list, fst_pair, snd_pair, List.length_map, Option.bind_some, nb_same, cond_true, cond_false, decide_true, decide_false, hn hb]
  | false => simp only [Tree.run, lf0, lfs, toInt_int, toBool_bool, toStr_str, xs_list, nil_list, fst_pair, snd_pair, List.length_map, Option.bind_some, nb_same, cond_true, cond_false, decide_true, decide_false, eq_true (show (0 + l.xs.length) * 16 ≤ 140737488355328 by omega), if_true]
theorem List_told (nb : Bool) (xs : List P) (last : P) (i : Nat) (hi : i < xs.length) (hb : (qu xs i).length ≤ 1000) (hn : (rd xs i).fst.isNil = true → qu xs i = []) :
    f30_v [.list nb xs, last, I (i : Int)] = some (0, [.list (rd xs i).fst.isNil (qu xs i), .list nb xs, last]) := by
  simp only [f30_v, f30_t, f30_s1, Tree.run, Bool.cond_decide]
  simp only [Tree.run, lf0, lfs, toInt_int, toBool_bool, toStr_str, xs_list, nil_list, fst_pair, snd_pair, List.length_map, Option.bind_some, nb_same, cond_true, cond_false, decide_true, decide_false, at_told (.list nb xs) last i hi, nb_ne (show 1 ≠ 0 by omega), Int.toNat_natCast, clone_told (rd xs i).fst (Nat.le_trans hb (by omega)) hn]
theorem List_out (nb : Bool) (xs : List P) (last c : P) (h : ¬ (0 ≤ c.toInt ∧ c.toInt < xs.length)) :
    f30_v [.list nb xs, last, c] = some (0, [.list true [], .list nb xs, last]) := by
  simp only [f30_v, f30_t, f30_s1, Tree.run, Bool.cond_decide]
  simp only [Tree.run, lf0, lfs, toInt_int, toBool_bool, toStr_str, xs_list, nil_list, fst_pair, snd_pair, List.length_map, Option.bind_some, nb_same, cond_true, cond_false, decide_true, decide_false, at_out (.list nb xs) last c h]
theorem Pop_at (nb : Bool) (xs : List P) (l i : Nat) (r p : P) (q : List P) (hn : xs.length ≤ 1000) (hl : l < xs.length) (hi : i < xs.length) (h0 : ∀ j, j < i → qu xs (cyc xs.length l j) = []) (hq : qu xs (cyc xs.length l i) = p :: q) :
    f28_v [.list nb xs, .pair (I (l : Int)) r] = some (0, [I (cyc xs.length l i : Nat), p, .bool true, .list false (putQ xs (cyc xs.length l i) (rd xs (cyc xs.length l i)).fst.isNil q), .pair (I (cyc xs.length l i : Nat)) r]) := by
  rcases Pop_told nb xs l r hn hl with ⟨h1, _⟩ | ⟨i', p', q', h1, h2, h3, h4⟩
  · rw [h1 i hi] at hq; cases hq
  · have : i' = i := by
      rcases Nat.lt_trichotomy i i' with h | h | h
      · rw [h2 i h] at hq; cases hq
      · exact h.symm
      · rw [h0 i' h] at h3; cases h3
    subst this
    rw [hq] at h3; cases h3
    exact h4
theorem ne_str {a b : BA} (h : a.size ≠ b.size ∨ a.data.toList ≠ b.data.toList) : strEq a b = false := by
  cases he : strEq a b with
  | false => rfl
  | true => have := strEq_iff.1 he; subst this; rcases h with h | h <;> exact absurd rfl h
theorem strEq_self (a : BA) : strEq a a = true := strEq_iff.2 rfl
def sA : BA := ⟨#[97]⟩
def sB : BA := ⟨#[98]⟩
def sC : BA := ⟨#[99]⟩
theorem awake35_told : f25_v [] = some (0, [.bool true]) := by
  have e0 := new_told 2 (by omega) (by omega)
  have hq0 : inQ (.str sA) (qu (List.replicate 2 (.pair (.list true []) .unit)) 0) = false := rfl
  obtain ⟨b1, e1⟩ := Push_told false (List.replicate 2 (.pair (.list true []) .unit)) (.pair (I 1) .unit) 0 (.str sA) (by simp) (by simp [qu, rd, P.xs, P.fst])
  have s1 : pushQ (List.replicate 2 (.pair (.list true []) .unit)) 0 (.str sA) = [.pair (.list false [.str sA]) .unit, .pair (.list true []) .unit] := by unfold pushQ; rw [hq0]; rfl
  rw [s1, hq0] at e1
  have hq1 : inQ (.str sB) (qu [.pair (.list false [.str sA]) .unit, .pair (.list true []) .unit] 0) = false := by
    show (strEq sB sA || false) = false
    rw [ne_str (.inr (by decide))]; rfl
  obtain ⟨b2, e2⟩ := Push_told b1 [.pair (.list false [.str sA]) .unit, .pair (.list true []) .unit] (.pair (I 1) .unit) 0 (.str sB) (by simp) (by simp [qu, rd, P.xs, P.fst])
  have s2 : pushQ [.pair (.list false [.str sA]) .unit, .pair (.list true []) .unit] 0 (.str sB) = [.pair (.list false [.str sA, .str sB]) .unit, .pair (.list true []) .unit] := by unfold pushQ; rw [hq1]; rfl
  rw [s2, hq1] at e2
  have hq2 : inQ (.str sC) (qu [.pair (.list false [.str sA, .str sB]) .unit, .pair (.list true []) .unit] 1) = false := rfl
  obtain ⟨b3, e3⟩ := Push_told b2 [.pair (.list false [.str sA, .str sB]) .unit, .pair (.list true []) .unit] (.pair (I 1) .unit) 1 (.str sC) (by simp) (by simp [qu, rd, P.xs, P.fst])
  have s3 : pushQ [.pair (.list false [.str sA, .str sB]) .unit, .pair (.list true []) .unit] 1 (.str sC) = [.pair (.list false [.str sA, .str sB]) .unit, .pair (.list false [.str sC]) .unit] := by unfold pushQ; rw [hq2]; rfl
  rw [s3, hq2] at e3
  have p1 := Pop_at b3 [.pair (.list false [.str sA, .str sB]) .unit, .pair (.list false [.str sC]) .unit] 1 0 .unit (.str sA) [.str sB] (by simp) (by simp) (by simp) (fun j hj => absurd hj (by omega)) rfl
  have p2 := Pop_at false [.pair (.list false [.str sB]) .unit, .pair (.list false [.str sC]) .unit] 0 0 .unit (.str sC) [] (by simp) (by simp) (by simp) (fun j hj => absurd hj (by omega)) rfl
  have p3 := Pop_at false [.pair (.list false [.str sB]) .unit, .pair (.list false []) .unit] 1 0 .unit (.str sB) [] (by simp) (by simp) (by simp) (fun j hj => absurd hj (by omega)) rfl
  simp only [f25_v, f25_t, Tree.run, Bool.cond_decide]
  rw [show f26_v [.int .i64 2] = _ from e0]
  simp only [Tree.run, lf0, lfs, toInt_int, toBool_bool, toStr_str, xs_list, nil_list, fst_pair, snd_pair, List.length_map, Option.bind_some, nb_same, cond_true, cond_false, decide_true, decide_false, nb_ne (show 1 ≠ 0 by omega)]
  rw [show f27_v [.list false (List.replicate 2 (.pair (.list true []) .unit)), .pair (I ((2 - 1 : Nat) : Int)) .unit, .int .i64 0, .str ⟨#[97]⟩] = _ from e1]
  simp only [Tree.run, lf0, lfs, toInt_int, toBool_bool, toStr_str, xs_list, nil_list, fst_pair, snd_pair, List.length_map, Option.bind_some, nb_same, cond_true, cond_false, decide_true, decide_false, Bool.not_false]
  rw [show f27_v [.list b1 [.pair (.list false [.str sA]) .unit, .pair (.list true []) .unit], .pair (I ((2 - 1 : Nat) : Int)) .unit, .int .i64 0, .str ⟨#[98]⟩] = _ from e2]
  simp only [Tree.run, lf0, lfs, toInt_int, toBool_bool, toStr_str, xs_list, nil_list, fst_pair, snd_pair, List.length_map, Option.bind_some, nb_same, cond_true, cond_false, decide_true, decide_false, Bool.not_false]
  rw [show f27_v [.list b2 [.pair (.list false [.str sA, .str sB]) .unit, .pair (.list true []) .unit], .pair (I ((2 - 1 : Nat) : Int)) .unit, .int .i64 1, .str ⟨#[99]⟩] = _ from e3]
  simp only [Tree.run, lf0, lfs, toInt_int, toBool_bool, toStr_str, xs_list, nil_list, fst_pair, snd_pair, List.length_map, Option.bind_some, nb_same, cond_true, cond_false, decide_true, decide_false, Bool.not_false]
  rw [show f28_v [.list b3 [.pair (.list false [.str sA, .str sB]) .unit, .pair (.list false [.str sC]) .unit], .pair (I ((2 - 1 : Nat) : Int)) .unit] = some (0, [I 0, .str sA, .bool true, .list false [.pair (.list false [.str sB]) .unit, .pair (.list false [.str sC]) .unit], .pair (I 0) .unit]) from p1]
  simp only [Tree.run, lf0, lfs, toInt_int, toBool_bool, toStr_str, xs_list, nil_list, fst_pair, snd_pair, List.length_map, Option.bind_some, nb_same, cond_true, cond_false, decide_true, decide_false]
  rw [show f28_v [.list false [.pair (.list false [.str sB]) .unit, .pair (.list false [.str sC]) .unit], .pair (I 0) .unit] = some (0, [I 1, .str sC, .bool true, .list false [.pair (.list false [.str sB]) .unit, .pair (.list false []) .unit], .pair (I 1) .unit]) from p2]
  simp only [Tree.run, lf0, lfs, toInt_int, toBool_bool, toStr_str, xs_list, nil_list, fst_pair, snd_pair, List.length_map, Option.bind_some, nb_same, cond_true, cond_false, decide_true, decide_false]
  rw [show f28_v [.list false [.pair (.list false [.str sB]) .unit, .pair (.list false []) .unit], .pair (I 1) .unit] = some (0, [I 0, .str sB, .bool true, .list false [.pair (.list false []) .unit, .pair (.list false []) .unit], .pair (I 0) .unit]) from p3]
  simp only [Tree.run, lf0, lfs, toInt_int, toBool_bool, toStr_str, xs_list, nil_list, fst_pair, snd_pair, List.length_map, Option.bind_some, nb_same, cond_true, cond_false, decide_true, decide_false, show strEq sA ⟨#[97]⟩ = true from strEq_self _, show strEq sC ⟨#[99]⟩ = true from strEq_self _, show strEq sB ⟨#[98]⟩ = true from strEq_self _]
end Go.Proofs.Ytjemihhhkhdbeaa.Mn
