/- Names: which may be, by the document. Conditions: none but those each states. -/
import Derived.Test.YtjemihhhkhdbeaaFSp4
import Derived.Test.YtjemihhhkhdbeaaE4
set_option linter.unusedVariables false
set_option linter.unusedSimpArgs false
namespace Go.Proofs.Ytjemihhhkhdbeaa.Mn
open Go Go.Eng
abbrev I (n : Int) : P := .int .i64 n
theorem wrap_of {x : Int} (h0 : -9223372036854775808 ≤ x) (h1 : x ≤ 9223372036854775807) : IntKind.i64.wrap x = x := by
  simp [IntKind.wrap, IntKind.bits, IntKind.signed]; omega
theorem wrap_succ (i : Nat) (h : i < 4611686018427387904) : IntKind.i64.wrap ((i : Int) + 1) = ((i + 1 : Nat) : Int) := by rw [wrap_of (by omega) (by omega)]; omega
theorem wrap_pred (i : Nat) (h : i < 4611686018427387904) : IntKind.i64.wrap (((i + 1 : Nat) : Int) - 1) = (i : Int) := by rw [wrap_of (by omega) (by omega)]; omega
theorem wrap_add (i j : Nat) (h : i + j < 4611686018427387904) : IntKind.i64.wrap ((i : Int) + (j : Int)) = ((i + j : Nat) : Int) := by rw [wrap_of (by omega) (by omega)]; omega
theorem inb_nat {i n : Nat} (h : i < n) : inb (i : Int) n = true := by unfold inb; exact decide_eq_true ⟨by omega, by omega⟩
theorem inb_no {i n : Nat} (h : ¬ i < n) : inb (i : Int) n = false := by unfold inb; exact decide_eq_false (by omega)
theorem wrap_byte (s : ByteArray) (i : Int) : IntKind.i64.wrap (byteAt s i) = byteAt s i := by have := byteAt_lt s i; rw [wrap_of (by omega) (by omega)]
theorem beqI (a b : Int) : (a == b) = decide (a = b) := by by_cases h : a = b <;> simp [h]
def kindI (x : Int) : Int := if 97 ≤ x ∧ x ≤ 122 then 0 else if 945 ≤ x ∧ x ≤ 969 then 1 else if 48 ≤ x ∧ x ≤ 57 then 2 else if x = 45 then 3 else 4
theorem rkind_told (k : IntKind) (x : Int) : f175_v [.int k x] = some (0, [I (kindI x)]) := by
  simp only [f175_v, f175_t, Tree.run, Bool.cond_decide]
  simp only [Tree.run, lf0, lfs, toInt_int, toBool_bool, toStr_str, xs_list, nil_list, fst_pair, snd_pair, List.length_map, Option.bind_some, nb_same, cond_true, cond_false, decide_true, decide_false, beqI, Bool.cond_decide, kindI]
  repeat' split
  all_goals first | rfl | (exfalso; omega)
theorem kindI_le (x : Int) : 0 ≤ kindI x ∧ kindI x ≤ 4 := by unfold kindI; (repeat' split) <;> omega
abbrev r8 (s : ByteArray) (i : Nat) : Int × Int := run8 (byteAt s i) (byteAt s (i + 1 : Nat)) (byteAt s (i + 2 : Nat)) (byteAt s (i + 3 : Nat)) i s.size
theorem r8_1 (s : ByteArray) (i : Nat) : (r8 s i).1 = ((Utf8.decode s i).1 : Int) := by rw [r8, ← decode_rune]
theorem r8_2 (s : ByteArray) (i : Nat) : (r8 s i).2 = ((Utf8.decode s i).2 : Int) := by rw [r8, ← decode_rune]
theorem r8_len (s : ByteArray) (i : Nat) : 1 ≤ (r8 s i).2 ∧ (r8 s i).2 ≤ 4 := by unfold r8 run8; (repeat' split) <;> simp
theorem r8_rune (s : ByteArray) (i : Nat) : 0 ≤ (r8 s i).1 ∧ (r8 s i).1 ≤ 1114111 * 4 := by
  have h0 := byteAt_lt s i
  have h1 := byteAt_lt s (i + 1 : Nat)
  have h2 := byteAt_lt s (i + 2 : Nat)
  have h3 := byteAt_lt s (i + 3 : Nat)
  unfold r8 run8; (repeat' split) <;> (constructor <;> dsimp only <;> omega)
def wid (s : ByteArray) (i : Nat) : Nat := (Utf8.decode s i).2
def run (s : ByteArray) (i : Nat) : Int := (r8 s i).1
theorem wid_pos (s : ByteArray) (i : Nat) : 1 ≤ wid s i ∧ wid s i ≤ 4 := by have h1 := r8_len s i; have h2 := r8_2 s i; unfold wid; omega
theorem byte_ge {s : ByteArray} {i k : Nat} : byteAt s ((i : Int) + k) = byteAt s ((i + k : Nat) : Int) := by rw [Int.natCast_add]
theorem wide_told (s : ByteArray) (i : Nat) (hi : i < s.size) (hs : s.size ≤ 1000000000000) (hb : 128 ≤ byteAt s i) :
    f216_v [.str s, I i] = some (0, [I (if (r8 s i).2 = 1 then 0 else (r8 s i).2)]) := by
  have l0 := byteAt_lt s i
  have lp : ∀ n : Nat, 1 ≤ n → i + n ≤ s.size → n ≤ 4 → loopT f216_s2042 FUEL [.str s, I i, I n, I (byteAt s i), I (1 : Int)] = some (((List.range' 0 (n - 1)).findSome? fun j => if byteAt s (i + (j + 1) : Nat) < 128 ∨ byteAt s (i + (j + 1) : Nat) > 191 then some (0, [I 0]) else none).getD (1, [.str s, I i, I n, I (byteAt s i)])) := by
    intro n h1 h2 h4
    refine loop_scan (st := fun j => [.str s, I i, I n, I (byteAt s i), I ((j + 1 : Nat) : Int)]) (n - 1) (by omega) (fun j hj K => ?_) fun K => ?_
    · have hw := wrap_add i (j + 1) (by omega)
      have hlt : ((j + 1 : Nat) : Int) < n := by omega
      simp only [f216_s2042, Tree.run, Bool.cond_decide]
      simp only [Tree.run, lf0, lfs, toInt_int, toBool_bool, toStr_str, xs_list, nil_list, fst_pair, snd_pair, List.length_map, Option.bind_some, nb_same, cond_true, cond_false, decide_true, decide_false, hw, inb_nat (show i + (j + 1) < s.size by omega), eq_true hlt, if_true, wrap_succ (j + 1) (by omega)]
      by_cases g1 : byteAt s (i + (j + 1) : Nat) < 128
      · simp only [eq_true g1, if_true, true_or]
      · by_cases g2 : byteAt s (i + (j + 1) : Nat) > 191
        · simp only [eq_false g1, eq_true g2, if_true, if_false, or_true]
        · simp only [eq_false g1, eq_false g2, if_false, or_false]
    · have hlt : ¬ ((n - 1 + 1 : Nat) : Int) < n := by omega
      simp only [f216_s2042, Tree.run, Bool.cond_decide]
      simp only [Tree.run, lf0, lfs, toInt_int, toBool_bool, toStr_str, xs_list, nil_list, fst_pair, snd_pair, List.length_map, Option.bind_some, nb_same, cond_true, cond_false, decide_true, decide_false, eq_false hlt, if_false]
  have hsub : ∀ n : Nat, n ≤ 4 → (IntKind.i64.wrap ((s.size : Int) - (i : Int)) < (n : Int)) = ¬ (i + n ≤ s.size) := fun n hn => by rw [wrap_of (by omega) (by omega)]; exact propext (by omega)
  have hw1 := wrap_succ i (by omega)
  have hwk : ∀ k : Nat, k ≤ 3 → IntKind.i64.wrap ((i : Int) + (k : Int)) = ((i + k : Nat) : Int) := fun k hk => wrap_add i k (by omega)
  simp only [f216_v, f216_t, Tree.run, Bool.cond_decide]
  simp only [f216_s61, f216_s125, f216_s253, Tree.run, Bool.cond_decide]
  simp only [Tree.run, lf0, lfs, toInt_int, toBool_bool, toStr_str, xs_list, nil_list, fst_pair, snd_pair, List.length_map, Option.bind_some, nb_same, cond_true, cond_false, decide_true, decide_false, inb_nat hi, wrap_byte, beqI, Bool.cond_decide]
  unfold r8 run8
  generalize hc : byteAt s (i : Int) = c at *
  simp only [show ¬ c < 128 by omega, if_false]
  have ls : ∀ (n : Nat) (nI : Int), nI = n → 2 ≤ n → n ≤ 4 → i + n ≤ s.size → ∀ K : Nat × List P → Option (Nat × List P), (loopT f216_s2042 FUEL [.str s, I i, .int .i64 nI, .int .i64 c, .int .i64 1]).bind K =
      if byteAt s (i + 1 : Nat) < 128 ∨ byteAt s (i + 1 : Nat) > 191 then K (0, [I 0]) else if 3 ≤ n ∧ (byteAt s (i + 2 : Nat) < 128 ∨ byteAt s (i + 2 : Nat) > 191) then K (0, [I 0]) else
      if 4 ≤ n ∧ (byteAt s (i + 3 : Nat) < 128 ∨ byteAt s (i + 3 : Nat) > 191) then K (0, [I 0]) else K (1, [.str s, I i, I nI, I c]) := by
    intro n nI hnI h2 h4 hsz K
    subst hnI
    rw [show (loopT f216_s2042 FUEL [.str s, I i, .int .i64 n, .int .i64 c, .int .i64 1]) = _ from lp n (by omega) hsz h4, Option.bind_some]
    have hn : n = 2 ∨ n = 3 ∨ n = 4 := by omega
    rcases hn with rfl | rfl | rfl
    · rw [show List.range' 0 (2 - 1) = [0] from rfl]
      simp only [List.findSome?_cons, List.findSome?_nil, show i + (0 + 1) = i + 1 from rfl]
      by_cases g1 : byteAt s (i + 1 : Nat) < 128 ∨ byteAt s (i + 1 : Nat) > 191
      · simp only [if_pos g1]; rfl
      · simp only [if_neg g1, show ¬ (3 ≤ 2) by omega, show ¬ (4 ≤ 2) by omega, false_and, if_false]; rfl
    · rw [show List.range' 0 (3 - 1) = [0, 1] from rfl]
      simp only [List.findSome?_cons, List.findSome?_nil, show i + (0 + 1) = i + 1 from rfl, show i + (1 + 1) = i + 2 from rfl]
      by_cases g1 : byteAt s (i + 1 : Nat) < 128 ∨ byteAt s (i + 1 : Nat) > 191
      · simp only [if_pos g1]; rfl
      · by_cases g2 : byteAt s (i + 2 : Nat) < 128 ∨ byteAt s (i + 2 : Nat) > 191
        · simp only [if_neg g1, if_pos g2, show (3 ≤ 3) by omega, true_and]; rfl
        · simp only [if_neg g1, if_neg g2, show (3 ≤ 3) by omega, show ¬ (4 ≤ 3) by omega, true_and, false_and, if_false]; rfl
    · rw [show List.range' 0 (4 - 1) = [0, 1, 2] from rfl]
      simp only [List.findSome?_cons, List.findSome?_nil, show i + (0 + 1) = i + 1 from rfl, show i + (1 + 1) = i + 2 from rfl, show i + (2 + 1) = i + 3 from rfl]
      by_cases g1 : byteAt s (i + 1 : Nat) < 128 ∨ byteAt s (i + 1 : Nat) > 191
      · simp only [if_pos g1]; rfl
      · by_cases g2 : byteAt s (i + 2 : Nat) < 128 ∨ byteAt s (i + 2 : Nat) > 191
        · simp only [if_neg g1, if_pos g2, show (3 ≤ 4) by omega, true_and]; rfl
        · by_cases g3 : byteAt s (i + 3 : Nat) < 128 ∨ byteAt s (i + 3 : Nat) > 191
          · simp only [if_neg g1, if_neg g2, if_pos g3, show (3 ≤ 4) by omega, show (4 ≤ 4) by omega, true_and]; rfl
          · simp only [if_neg g1, if_neg g2, if_neg g3, show (3 ≤ 4) by omega, show (4 ≤ 4) by omega, true_and]; rfl
  have ls2 := ls 2 2 rfl (by omega) (by omega)
  have ls3 := ls 3 3 rfl (by omega) (by omega)
  have ls4 := ls 4 4 rfl (by omega) (by omega)
  have hs2 : (IntKind.i64.wrap ((s.size : Int) - (i : Int)) < 2) = ¬ (i + 2 ≤ s.size) := hsub 2 (by omega)
  have hs3 : (IntKind.i64.wrap ((s.size : Int) - (i : Int)) < 3) = ¬ (i + 3 ≤ s.size) := hsub 3 (by omega)
  have hs4 : (IntKind.i64.wrap ((s.size : Int) - (i : Int)) < 4) = ¬ (i + 4 ≤ s.size) := hsub 4 (by omega)
  have hw1 : IntKind.i64.wrap ((i : Int) + 1) = ((i + 1 : Nat) : Int) := hwk 1 (by omega)
  clear ls lp hsub hwk
  by_cases k2 : 194 ≤ c ∧ c ≤ 223
  · simp only [eq_true (show c ≥ 194 by omega), eq_true (show c ≤ 223 by omega), eq_false (show ¬ c ≥ 224 by omega), eq_false (show ¬ c ≥ 240 by omega), eq_false (show ¬ c = 224 by omega), eq_false (show ¬ c = 237 by omega), eq_false (show ¬ c = 240 by omega), eq_false (show ¬ c = 244 by omega), eq_true k2.1, if_true, if_false, and_self, Tree.run, lf0, lfs, toInt_int, toBool_bool, toStr_str, xs_list, nil_list, fst_pair, snd_pair, List.length_map, Option.bind_some, nb_same, cond_true, cond_false, decide_true, decide_false, hs2, nb_lt 1 0 (by omega), show ((2 : Int) = 0) = False by simp]
    by_cases hsz : i + 2 ≤ s.size
    · have hi1 := inb_nat (show i + 1 < s.size by omega)
      simp only [hsz, not_true, if_false, ls2 hsz, Tree.run, lf0, lfs, toInt_int, toBool_bool, toStr_str, xs_list, nil_list, fst_pair, snd_pair, List.length_map, Option.bind_some, nb_same, cond_true, cond_false, decide_true, decide_false, nb_lt 1 0 (by omega), hw1, hi1, show ((2 : Int) = 0) = False by simp, show ¬ (3 ≤ 2) by omega, show ¬ (4 ≤ 2) by omega, false_and, eq_false (show ¬ c = 224 by omega), eq_false (show ¬ c = 237 by omega), eq_false (show ¬ c = 240 by omega), eq_false (show ¬ c = 244 by omega), show i + 1 < s.size by omega, true_and]
      by_cases g : byteAt s (i + 1 : Nat) < 128 ∨ byteAt s (i + 1 : Nat) > 191
      · rw [if_pos g, if_neg (show ¬ (128 ≤ byteAt s (i + 1 : Nat) ∧ byteAt s (i + 1 : Nat) ≤ 191) by omega)]; rfl
      · rw [if_neg g, if_pos (show (128 ≤ byteAt s (i + 1 : Nat) ∧ byteAt s (i + 1 : Nat) ≤ 191) by omega)]; rfl
    · simp only [hsz, not_false_eq_true, if_true, show ¬ i + 1 < s.size by omega, false_and, if_false]
  by_cases k3 : 224 ≤ c ∧ c ≤ 239
  · rw [if_neg k2, if_pos k3]
    simp only [eq_true (show c ≥ 194 by omega), eq_false (show ¬ c ≤ 223 by omega), eq_true (show c ≥ 224 by omega), eq_true k3.2, eq_false (show ¬ c ≥ 240 by omega), eq_false (show ¬ c = 240 by omega), eq_false (show ¬ c = 244 by omega), if_true, if_false, Tree.run, lf0, lfs, toInt_int, toBool_bool, toStr_str, xs_list, nil_list, fst_pair, snd_pair, List.length_map, Option.bind_some, nb_same, cond_true, cond_false, decide_true, decide_false, hs3, nb_lt 1 0 (by omega), show ((3 : Int) = 0) = False by simp]
    by_cases hsz : i + 3 ≤ s.size
    · have hi1 := inb_nat (show i + 1 < s.size by omega)
      simp only [hsz, not_true, if_false, ls3 hsz, Tree.run, lf0, lfs, toInt_int, toBool_bool, toStr_str, xs_list, nil_list, fst_pair, snd_pair, List.length_map, Option.bind_some, nb_same, cond_true, cond_false, decide_true, decide_false, nb_lt 1 0 (by omega), hw1, hi1, show ((3 : Int) = 0) = False by simp, show 3 ≤ 3 by omega, show ¬ (4 ≤ 3) by omega, true_and, false_and, eq_false (show ¬ c = 240 by omega), eq_false (show ¬ c = 244 by omega), show i + 2 < s.size by omega]
      generalize byteAt s (i + 1 : Nat) = b1
      generalize byteAt s (i + 2 : Nat) = b2
      by_cases hA : 128 ≤ b1 ∧ b1 ≤ 191 ∧ 128 ≤ b2 ∧ b2 ≤ 191 ∧ (c = 224 → 160 ≤ b1) ∧ (c = 237 → b1 ≤ 159)
      · rw [if_pos hA]
        (repeat' split) <;> first | rfl | (exfalso; omega)
      · rw [if_neg hA]
        (repeat' split) <;> first | rfl | (exfalso; omega)
    · simp only [hsz, not_false_eq_true, if_true, show ¬ i + 2 < s.size by omega, false_and, if_false]
  by_cases k4 : 240 ≤ c ∧ c ≤ 244
  · rw [if_neg k2, if_neg k3, if_pos k4]
    simp only [eq_true (show c ≥ 194 by omega), eq_false (show ¬ c ≤ 223 by omega), eq_true (show c ≥ 224 by omega), eq_false (show ¬ c ≤ 239 by omega), eq_true (show c ≥ 240 by omega), eq_true k4.2, eq_false (show ¬ c = 224 by omega), eq_false (show ¬ c = 237 by omega), if_true, if_false, Tree.run, lf0, lfs, toInt_int, toBool_bool, toStr_str, xs_list, nil_list, fst_pair, snd_pair, List.length_map, Option.bind_some, nb_same, cond_true, cond_false, decide_true, decide_false, hs4, nb_lt 1 0 (by omega), show ((4 : Int) = 0) = False by simp]
    by_cases hsz : i + 4 ≤ s.size
    · have hi1 := inb_nat (show i + 1 < s.size by omega)
      simp only [hsz, not_true, if_false, ls4 hsz, Tree.run, lf0, lfs, toInt_int, toBool_bool, toStr_str, xs_list, nil_list, fst_pair, snd_pair, List.length_map, Option.bind_some, nb_same, cond_true, cond_false, decide_true, decide_false, nb_lt 1 0 (by omega), hw1, hi1, show ((4 : Int) = 0) = False by simp, show 3 ≤ 4 by omega, show 4 ≤ 4 by omega, true_and, eq_false (show ¬ c = 224 by omega), eq_false (show ¬ c = 237 by omega), show i + 3 < s.size by omega]
      generalize byteAt s (i + 1 : Nat) = b1
      generalize byteAt s (i + 2 : Nat) = b2
      generalize byteAt s (i + 3 : Nat) = b3
      by_cases hA : 128 ≤ b1 ∧ b1 ≤ 191 ∧ 128 ≤ b2 ∧ b2 ≤ 191 ∧ 128 ≤ b3 ∧ b3 ≤ 191 ∧ (c = 240 → 144 ≤ b1) ∧ (c = 244 → b1 ≤ 143)
      · rw [if_pos hA]
        (repeat' split) <;> first | rfl | (exfalso; omega)
      · rw [if_neg hA]
        (repeat' split) <;> first | rfl | (exfalso; omega)
    · simp only [hsz, not_false_eq_true, if_true, show ¬ i + 3 < s.size by omega, false_and, if_false]
  rw [if_neg k2, if_neg k3, if_neg k4]
  by_cases q1 : c ≥ 194
  · simp only [eq_true q1, eq_false (show ¬ c ≤ 223 by omega), eq_true (show c ≥ 224 by omega), eq_false (show ¬ c ≤ 239 by omega), eq_true (show c ≥ 240 by omega), eq_false (show ¬ c ≤ 244 by omega), if_true, if_false, Tree.run, lf0, lfs, toInt_int, toBool_bool, toStr_str, xs_list, nil_list, fst_pair, snd_pair, List.length_map, Option.bind_some, nb_same, cond_true, cond_false, decide_true, decide_false]
  · simp only [eq_false q1, eq_false (show ¬ c ≥ 224 by omega), eq_false (show ¬ c ≥ 240 by omega), if_true, if_false, Tree.run, lf0, lfs, toInt_int, toBool_bool, toStr_str, xs_list, nil_list, fst_pair, snd_pair, List.length_map, Option.bind_some, nb_same, cond_true, cond_false, decide_true, decide_false]
theorem rune_loop (s : ByteArray) (i n : Nat) (x0 : Int) (hs : s.size ≤ 1000000000000) (hn : 1 ≤ n ∧ n ≤ 4) (hi : i + n ≤ s.size) (hx : 0 ≤ x0 ∧ x0 < 64) :
    loopT f194_s2042 FUEL [.str s, I i, I n, I x0, I (1 : Int)] = some (0, [I n, I (if n = 1 then x0 else if n = 2 then x0 * 64 + byteAt s (i + 1 : Nat) % 64 else if n = 3 then (x0 * 64 + byteAt s (i + 1 : Nat) % 64) * 64 + byteAt s (i + 2 : Nat) % 64 else ((x0 * 64 + byteAt s (i + 1 : Nat) % 64) * 64 + byteAt s (i + 2 : Nat) % 64) * 64 + byteAt s (i + 3 : Nat) % 64)]) := by
  let acc : Nat → Int := fun j => Nat.rec x0 (fun k a => a * 64 + byteAt s (i + (k + 1) : Nat) % 64) j
  have hacc : ∀ j, j ≤ 3 → 0 ≤ acc j ∧ acc j < 64 * 64 ^ j := by
    intro j
    induction j with
    | zero => intro _; show 0 ≤ x0 ∧ x0 < 64 * 64 ^ 0; rw [Int.pow_zero]; omega
    | succ j ih =>
      intro hj
      have h := ih (by omega)
      have e : acc (j + 1) = acc j * 64 + byteAt s (i + (j + 1) : Nat) % 64 := rfl
      have hb := byteAt_lt s (i + (j + 1) : Nat)
      rw [e, Int.pow_succ]
      omega
  have main := loop_scan (step := f194_s2042) (st := fun j => [.str s, I i, I n, I (acc j), I ((j + 1 : Nat) : Int)]) (y1 := (0, [I n, I (acc (n - 1))])) (bad := fun _ => none) (n - 1) (by omega) (fun j hj K => by
      have hw := wrap_add i (j + 1) (by omega)
      have hlt : ((j + 1 : Nat) : Int) < n := by omega
      have hb := byteAt_lt s (i + (j + 1) : Nat)
      have ha := hacc j (by omega)
      have h64 : (64 : Int) ^ j ≤ 64 ^ 3 := by
        have : j = 0 ∨ j = 1 ∨ j = 2 := by omega
        rcases this with rfl | rfl | rfl <;> decide
      have hw2 : IntKind.i64.wrap (acc j * 64) = acc j * 64 := wrap_of (by omega) (by omega)
      have hm : (byteAt s (i + (j + 1) : Nat)).tmod 64 = byteAt s (i + (j + 1) : Nat) % 64 := Int.tmod_eq_emod_of_nonneg hb.1
      have hw3 : IntKind.i64.wrap (acc j * 64 + byteAt s (i + (j + 1) : Nat) % 64) = acc (j + 1) := wrap_of (by omega) (by omega)
      simp only [f194_s2042, Tree.run, Bool.cond_decide]
      simp only [Tree.run, lf0, lfs, toInt_int, toBool_bool, toStr_str, xs_list, nil_list, fst_pair, snd_pair, List.length_map, Option.bind_some, nb_same, cond_true, cond_false, decide_true, decide_false, hw, inb_nat (show i + (j + 1) < s.size by omega), eq_true hlt, if_true, wrap_succ (j + 1) (by omega), wrap_byte, hm, hw2, hw3]) (fun K => by
      have hlt : ¬ ((n - 1 + 1 : Nat) : Int) < n := by omega
      simp only [f194_s2042, Tree.run, Bool.cond_decide]
      simp only [Tree.run, lf0, lfs, toInt_int, toBool_bool, toStr_str, xs_list, nil_list, fst_pair, snd_pair, List.length_map, Option.bind_some, nb_same, cond_true, cond_false, decide_true, decide_false, eq_false hlt, if_false])
  have hnone : ((List.range' 0 (n - 1)).findSome? fun _ => (none : Option (Nat × List P))) = none := by simp
  rw [hnone] at main
  refine main.trans ?_
  have : n = 1 ∨ n = 2 ∨ n = 3 ∨ n = 4 := by omega
  rcases this with rfl | rfl | rfl | rfl <;> rfl
theorem rune_told (s : ByteArray) (i : Nat) (hi : i < s.size) (hs : s.size ≤ 1000000000000) : f194_v [.str s, I i] = some (0, [I (r8 s i).1, I (r8 s i).2]) := by
  have hb := byteAt_lt s i
  have hil := inb_nat hi
  have e1 : (byteAt s i).tmod 32 = byteAt s i % 32 := Int.tmod_eq_emod_of_nonneg hb.1
  have e2 : (byteAt s i).tmod 16 = byteAt s i % 16 := Int.tmod_eq_emod_of_nonneg hb.1
  have e3 : (byteAt s i).tmod 8 = byteAt s i % 8 := Int.tmod_eq_emod_of_nonneg hb.1
  by_cases h0 : byteAt s i < 128
  · have e : r8 s i = (byteAt s i, 1) := by unfold r8 run8; rw [if_pos h0]
    simp only [f194_v, f194_t, Tree.run, Bool.cond_decide]
    simp only [Tree.run, lf0, lfs, toInt_int, toBool_bool, toStr_str, xs_list, nil_list, fst_pair, snd_pair, List.length_map, Option.bind_some, nb_same, cond_true, cond_false, decide_true, decide_false, hil, eq_true h0, if_true, wrap_byte, e]
  · have hw := wide_told s i hi hs (by omega)
    have lp := rune_loop s i
    have e : r8 s i = run8 (byteAt s i) (byteAt s (i + 1 : Nat)) (byteAt s (i + 2 : Nat)) (byteAt s (i + 3 : Nat)) i s.size := rfl
    simp only [f194_v, f194_t, Tree.run, Bool.cond_decide]
    simp only [Tree.run, lf0, lfs, toInt_int, toBool_bool, toStr_str, xs_list, nil_list, fst_pair, snd_pair, List.length_map, Option.bind_some, nb_same, cond_true, cond_false, decide_true, decide_false, hil, eq_false h0, if_false, hw, beqI, Bool.cond_decide, wrap_byte]
    unfold run8 at e
    rw [if_neg h0] at e
    generalize r8 s i = z at *
    split at e
    · split at e
      · rename_i g1 g2
        subst e
        have l2 := lp 2 (byteAt s i % 32) hs (by omega) (by omega) (by omega)
        simp only [show ((2 : Int) = 1) = False by simp, show ((2 : Int) = 0) = False by simp, show ((2 : Int) = 3) = False by simp, show ((2 : Int) = 4) = False by simp, if_false, f194_s253, f194_s509, Tree.run, Bool.cond_decide]
        simp only [Tree.run, lf0, lfs, toInt_int, toBool_bool, toStr_str, xs_list, nil_list, fst_pair, snd_pair, List.length_map, Option.bind_some, nb_same, cond_true, cond_false, decide_true, decide_false, show ((2 : Int) = 4) = False by simp, show ((2 : Int) = 3) = False by simp, decide_false, if_false, Bool.false_eq_true, e1]
        rw [show loopT f194_s2042 FUEL [.str s, I i, .int .i64 2, .int .i64 (byteAt s i % 32), .int .i64 1] = _ from l2]
        simp only [Tree.run, lf0, lfs, toInt_int, toBool_bool, toStr_str, xs_list, nil_list, fst_pair, snd_pair, List.length_map, Option.bind_some, nb_same, cond_true, cond_false, decide_true, decide_false]
        rfl
      · subst e; rfl
    · split at e
      · split at e
        · rename_i g1 g2
          subst e
          have l2 := lp 3 (byteAt s i % 16) hs (by omega) (by omega) (by omega)
          simp only [show ((3 : Int) = 1) = False by simp, show ((3 : Int) = 0) = False by simp, show ((3 : Int) = 4) = False by simp, if_false, f194_s253, f194_s509, Tree.run, Bool.cond_decide]
          simp only [Tree.run, lf0, lfs, toInt_int, toBool_bool, toStr_str, xs_list, nil_list, fst_pair, snd_pair, List.length_map, Option.bind_some, nb_same, cond_true, cond_false, decide_true, decide_false, show ((3 : Int) = 4) = False by simp, decide_false, decide_true, if_false, if_true, Bool.false_eq_true, e2, hil, wrap_byte]
          rw [show loopT f194_s2042 FUEL [.str s, I i, .int .i64 3, .int .i64 (byteAt s i % 16), .int .i64 1] = _ from l2]
          simp only [Tree.run, lf0, lfs, toInt_int, toBool_bool, toStr_str, xs_list, nil_list, fst_pair, snd_pair, List.length_map, Option.bind_some, nb_same, cond_true, cond_false, decide_true, decide_false]
          rfl
        · subst e; rfl
      · split at e
        · split at e
          · rename_i g1 g2
            subst e
            have l2 := lp 4 (byteAt s i % 8) hs (by omega) (by omega) (by omega)
            simp only [show ((4 : Int) = 1) = False by simp, show ((4 : Int) = 0) = False by simp, show ((4 : Int) = 3) = False by simp, if_false, f194_s253, f194_s509, Tree.run, Bool.cond_decide]
            simp only [Tree.run, lf0, lfs, toInt_int, toBool_bool, toStr_str, xs_list, nil_list, fst_pair, snd_pair, List.length_map, Option.bind_some, nb_same, cond_true, cond_false, decide_true, decide_false, show ((4 : Int) = 3) = False by simp, decide_false, decide_true, if_false, if_true, Bool.false_eq_true, e3, hil, wrap_byte]
            rw [show loopT f194_s2042 FUEL [.str s, I i, .int .i64 4, .int .i64 (byteAt s i % 8), .int .i64 1] = _ from l2]
            simp only [Tree.run, lf0, lfs, toInt_int, toBool_bool, toStr_str, xs_list, nil_list, fst_pair, snd_pair, List.length_map, Option.bind_some, nb_same, cond_true, cond_false, decide_true, decide_false]
            rfl
          · subst e; rfl
        · subst e; rfl
def runesF (s : ByteArray) : Nat → Nat → List Int
  | 0, _ => []
  | f + 1, i => if i < s.size then (r8 s i).1 :: runesF s f (i + wid s i) else []
def runes (s : ByteArray) : List Int := runesF s s.size 0
theorem runesF_size (s : ByteArray) : ∀ f i, s.size ≤ i + f → s.size ≤ i + 4 * (runesF s f i).length
  | 0, i, h => by simp [runesF]; omega
  | f + 1, i, h => by
    have hw := wid_pos s i
    simp only [runesF]
    by_cases hi : i < s.size
    · rw [if_pos hi]
      have := runesF_size s f (i + wid s i) (by omega)
      simp only [List.length_cons]; omega
    · rw [if_neg hi]; simp; omega
theorem runes_size (s : ByteArray) : s.size ≤ 4 * (runes s).length := by have := runesF_size s s.size 0 (by omega); unfold runes; omega
theorem runesF_len (s : ByteArray) : ∀ f i, (runesF s f i).length ≤ f
  | 0, i => by simp [runesF]
  | f + 1, i => by
    simp only [runesF]
    split
    · have := runesF_len s f (i + wid s i); simp; omega
    · simp
theorem wid_r8 (s : ByteArray) (i : Nat) : (r8 s i).2 = (wid s i : Int) := r8_2 s i
theorem runes_loop (s : ByteArray) (hs : s.size ≤ 1000000) : ∀ (f i : Nat) (b : Bool) (acc : List P), s.size ≤ i + f → acc.length + f ≤ 2000000 →
    Lp (f + 1) f174_s60 [.str s, I i, .list b acc] (0, [.list (b && (runesF s f i).isEmpty) (acc ++ (runesF s f i).map fun r => I r)]) := by
  intro f
  induction f with
  | zero =>
    intro i b acc h ha
    refine Lp.done fun K => ?_
    simp only [f174_s60, Tree.run, Bool.cond_decide]
    simp only [Tree.run, lf0, lfs, toInt_int, toBool_bool, toStr_str, xs_list, nil_list, fst_pair, snd_pair, List.length_map, Option.bind_some, nb_same, cond_true, cond_false, decide_true, decide_false, eq_false (show ¬ (i : Int) < s.size by omega), if_false, runesF, List.map_nil, List.append_nil, List.isEmpty_nil, Bool.and_true]
  | succ f ih =>
    intro i b acc h ha
    have hw := wid_pos s i
    by_cases hi : i < s.size
    · have hr := rune_told s i hi (by omega)
      have hwr := wrap_add i (wid s i) (by omega)
      have h2 := ih (i + wid s i) false (acc ++ [I (r8 s i).1]) (by omega) (by simp; omega)
      simp only [runesF, if_pos hi, List.map_cons, List.isEmpty_cons, Bool.and_false]
      refine Lp.next (ls' := [.str s, I ((i + wid s i : Nat) : Int), .list false (acc ++ [I (r8 s i).1])]) (fun K => ?_) ?_
      · simp only [f174_s60, Tree.run, Bool.cond_decide]
        simp only [Tree.run, lf0, lfs, toInt_int, toBool_bool, toStr_str, xs_list, nil_list, fst_pair, snd_pair, List.length_map, Option.bind_some, nb_same, cond_true, cond_false, decide_true, decide_false, eq_true (show (i : Int) < s.size by omega), if_true, hr, wid_r8, hwr, eq_true (show (acc.length + 1) * 8 ≤ 140737488355328 by omega), Bool.and_false]
      · have e : acc ++ [I (r8 s i).1] ++ (runesF s f (i + wid s i)).map (fun r => I r) = acc ++ I (r8 s i).1 :: (runesF s f (i + wid s i)).map (fun r => I r) := by simp
        rw [e, Bool.false_and] at h2; exact h2
    · have e : runesF s (f + 1) i = [] := by simp only [runesF, if_neg hi]
      rw [e]
      refine Lp.done fun K => ?_
      simp only [f174_s60, Tree.run, Bool.cond_decide]
      simp only [Tree.run, lf0, lfs, toInt_int, toBool_bool, toStr_str, xs_list, nil_list, fst_pair, snd_pair, List.length_map, Option.bind_some, nb_same, cond_true, cond_false, decide_true, decide_false, eq_false (show ¬ (i : Int) < s.size by omega), if_false, List.map_nil, List.append_nil, List.isEmpty_nil, Bool.and_true]
theorem runes_told (s : ByteArray) (hs : s.size ≤ 1000000) : f174_v [.str s] = some (0, [.list (runes s).isEmpty ((runes s).map fun r => I r)]) := by
  have h := (runes_loop s hs s.size 0 true [] (by omega) (by simp; omega)).fuel (by omega)
  rw [Bool.true_and, List.nil_append] at h
  simp only [f174_v, f174_t, Tree.run, Bool.cond_decide]
  simp only [Tree.run, lf0, lfs, toInt_int, toBool_bool, toStr_str, xs_list, nil_list, fst_pair, snd_pair, List.length_map, Option.bind_some, nb_same, cond_true, cond_false, decide_true, decide_false]
  rw [show loopT f174_s60 FUEL [.str s, .int .i64 0, .list true []] = _ from h]
  simp only [Tree.run, lf0, lfs, toInt_int, toBool_bool, toStr_str, xs_list, nil_list, fst_pair, snd_pair, List.length_map, Option.bind_some, nb_same, cond_true, cond_false, decide_true, decide_false]; rfl
def fitL (l : List Int) : Bool := decide (1 ≤ l.length) && decide (l.length ≤ 12) && l.all (fun r => decide (kindI r ≤ 3)) && l.head?.all fun r => decide (kindI r ≤ 1)
def fitB (s : ByteArray) : Bool := fitL (runes s)
theorem rd_map {α : Type} (f : α → P) (l : List α) (d : α) {i : Nat} (h : i < l.length) : rd (l.map f) i = f (l.getD i d) := by
  simp [rd, List.getD_eq_getElem?_getD, h]
theorem rfit_told (s : ByteArray) (hs : s.size ≤ 1000000) : f130_v [.str s] = some (0, [.bool (fitB s)]) := by
  have hrs := runes_size s
  by_cases h100 : (s.size : Int) > 100
  · have : fitB s = false := by
      unfold fitB fitL
      simp only [decide_eq_false (show ¬ (runes s).length ≤ 12 by omega), Bool.and_false, Bool.false_and]
    rw [this]
    simp only [f130_v, f130_t, Tree.run, Bool.cond_decide]
    simp only [Tree.run, lf0, lfs, toInt_int, toBool_bool, toStr_str, xs_list, nil_list, fst_pair, snd_pair, List.length_map, Option.bind_some, nb_same, cond_true, cond_false, decide_true, decide_false, eq_true h100, if_true]
  · have hlen : (runes s).length ≤ s.size := runesF_len s s.size 0
    generalize hl : runes s = l at *
    have lp := loop_all (step := f130_s122) (st := fun i => [I (i : Int), .list l.isEmpty (l.map fun r => I r)]) (y1 := (1, [.list l.isEmpty (l.map fun r => I r)])) (z := (0, [.bool false]))
      (ok := fun i => decide (kindI (l.getD i 0) ≤ 3) && !(decide (i = 0) && decide (kindI (l.getD i 0) > 1))) l.length (by omega) (fun i hi K => by
        have hd := rd_map (fun r => I r) l 0 hi
        have hk := kindI_le (l.getD i 0)
        simp only [f130_s122, Tree.run, Bool.cond_decide]
        simp only [Tree.run, lf0, lfs, toInt_int, toBool_bool, toStr_str, xs_list, nil_list, fst_pair, snd_pair, List.length_map, Option.bind_some, nb_same, cond_true, cond_false, decide_true, decide_false, eq_true (show (i : Int) < l.length by omega), if_true, inb_nat hi, Int.toNat_natCast, hd, rkind_told, beqI, Bool.cond_decide, wrap_succ i (by omega)]
        by_cases c1 : kindI (l.getD i 0) = 4
        · simp only [eq_true c1, if_true, decide_eq_false (show ¬ kindI (l.getD i 0) ≤ 3 by omega), Bool.false_and, Bool.false_eq_true, if_false]
        · simp only [eq_false c1, if_false, decide_eq_true (show kindI (l.getD i 0) ≤ 3 by omega), Bool.true_and]
          by_cases c2 : i = 0
          · by_cases c3 : kindI (l.getD i 0) > 1
            · simp only [eq_true (show (i : Int) = 0 by omega), eq_true c3, eq_true c2, if_true, decide_true, Bool.and_self, Bool.not_true, Bool.false_eq_true, if_false]
            · simp only [eq_true (show (i : Int) = 0 by omega), eq_false c3, eq_true c2, if_true, if_false, decide_true, decide_false, Bool.and_false, Bool.not_false]
          · simp only [eq_false (show ¬ (i : Int) = 0 by omega), eq_false c2, if_true, if_false, decide_false, Bool.false_and, Bool.not_false]) (fun K => by
        simp only [f130_s122, Tree.run, Bool.cond_decide]
        simp only [Tree.run, lf0, lfs, toInt_int, toBool_bool, toStr_str, xs_list, nil_list, fst_pair, snd_pair, List.length_map, Option.bind_some, nb_same, cond_true, cond_false, decide_true, decide_false, eq_false (show ¬ (l.length : Int) < l.length by omega), if_false])
    have hr := runes_told s hs
    rw [hl] at hr
    simp only [f130_v, f130_t, Tree.run, Bool.cond_decide]
    simp only [Tree.run, lf0, lfs, toInt_int, toBool_bool, toStr_str, xs_list, nil_list, fst_pair, snd_pair, List.length_map, Option.bind_some, nb_same, cond_true, cond_false, decide_true, decide_false, eq_false h100, if_false, hr]
    rw [show loopT f130_s122 FUEL [.int .i64 0, .list l.isEmpty (l.map fun r => I r)] = _ from lp]
    unfold fitB fitL
    rw [hl]
    have hall : ((List.range l.length).all fun i => decide (kindI (l.getD i 0) ≤ 3) && !(decide (i = 0) && decide (kindI (l.getD i 0) > 1))) = (l.all (fun r => decide (kindI r ≤ 3)) && l.head?.all fun r => decide (kindI r ≤ 1)) := by
      rw [Bool.eq_iff_iff, List.all_eq_true, Bool.and_eq_true, ← all_getD (fun r => decide (kindI r ≤ 3)) 0 l, List.all_eq_true]
      constructor
      · intro h
        refine ⟨fun i hi => (Bool.and_eq_true _ _ ▸ h i hi).1, ?_⟩
        cases l with
        | nil => rfl
        | cons a t =>
          have := (Bool.and_eq_true _ _ ▸ h 0 (by simp)).2
          simpa using this
      · rintro ⟨h1, h2⟩ i hi
        rw [h1 i hi, Bool.true_and]
        by_cases hz : i = 0
        · subst hz
          cases l with
          | nil => simp at hi
          | cons a t => simpa using h2
        · simp [hz]
    rw [hall]
    cases l with
    | nil => rfl
    | cons a t =>
      simp only [List.head?_cons, Option.all_some]
      by_cases c : ((a :: t).all (fun r => decide (kindI r ≤ 3)) && decide (kindI a ≤ 1)) = true
      · simp only [eq_true c, if_true]
        rw [Bool.and_eq_true] at c
        simp only [Tree.run, lf0, lfs, toInt_int, toBool_bool, toStr_str, xs_list, nil_list, fst_pair, snd_pair, List.length_map, Option.bind_some, nb_same, cond_true, cond_false, decide_true, decide_false, nb_lt 1 0 (by omega), eq_true (show (((a :: t).length : Nat) : Int) ≥ 1 by rw [List.length_cons]; omega), if_true, c.1, c.2, Bool.and_true, decide_eq_true (show 1 ≤ (a :: t).length by simp), Bool.true_and]
        by_cases h12 : (a :: t).length ≤ 12
        · rw [decide_eq_true h12, decide_eq_true (by omega)]
        · rw [decide_eq_false h12, decide_eq_false (by omega)]
      · simp only [eq_false c, if_false]
        have : (decide (1 ≤ (a :: t).length) && decide ((a :: t).length ≤ 12) && (a :: t).all (fun r => decide (kindI r ≤ 3)) && decide (kindI a ≤ 1)) = false := by
          rw [Bool.eq_false_iff]
          intro h
          simp only [Bool.and_eq_true] at h c
          exact c ⟨h.1.2, h.2⟩
        rw [this]
        simp only [Tree.run, lf0, lfs, toInt_int, toBool_bool, toStr_str, xs_list, nil_list, fst_pair, snd_pair, List.length_map, Option.bind_some, nb_same, cond_true, cond_false, decide_true, decide_false]
end Go.Proofs.Ytjemihhhkhdbeaa.Mn
