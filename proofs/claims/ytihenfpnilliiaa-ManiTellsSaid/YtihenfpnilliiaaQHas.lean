/- What span.Has tells. Conditions: none but those each states. -/
import Derived.Test.YtihenfpnilliiaaFMt3
import Derived.Test.YtihenfpnilliiaaE4
import Derived.Test.YtihenfpnilliiaaMSp
set_option linter.unusedVariables false
set_option linter.unusedSimpArgs false
namespace Go.Proofs.Ytihenfpnilliiaa.Sp
open Go Go.Eng
abbrev I (n : Int) : P := .int .i64 n
def enc (s : S123) : P := .pair (I s.f0) (.pair (I s.f1) .unit)
abbrev L (n : Bool) (l : List S123) : P := .list n (l.map enc)
theorem rd_enc {l : List S123} {i : Nat} (h : i < l.length) : rd (l.map enc) i = enc (rd_T123 l (i : Int)) := by
  simp [rd, rd_T123, List.getD_eq_getElem?_getD, h]
theorem rd_nat (l : List S123) (i : Nat) : rd_T123 l (i : Int) = l.getD i z123 := by unfold rd_T123; rw [Int.toNat_natCast]
theorem drop_cons (l : List S123) (i : Nat) (h : i < l.length) : l.drop i = rd_T123 l (i : Int) :: l.drop (i + 1) := by
  rw [rd_nat, List.drop_eq_getElem_cons h, List.getD_eq_getElem?_getD, List.getElem?_eq_getElem h]; rfl
theorem wrap_of {x : Int} (h0 : -9223372036854775808 ≤ x) (h1 : x ≤ 9223372036854775807) : IntKind.i64.wrap x = x := by
  simp [IntKind.wrap, IntKind.bits, IntKind.signed]; omega
theorem wrap_succ (i : Nat) (h : i < 4611686018427387904) : IntKind.i64.wrap ((i : Int) + 1) = ((i + 1 : Nat) : Int) := by rw [wrap_of (by omega) (by omega)]; omega
theorem inb_nat {i n : Nat} (h : i < n) : inb (i : Int) n = true := by unfold inb; exact decide_eq_true ⟨by omega, by omega⟩
theorem chk_len {l : List S123} (h : Chk (-1) l) : (l.length : Int) ≤ 1000000001 := by have := h.length_le (by omega); omega
theorem half (i j : Nat) (h : i + j < 4611686018427387904) : IntKind.i64.wrap ((IntKind.u64.wrap (IntKind.i64.wrap ((i : Int) + j))).fdiv (2 ^ 1)) = (((i + j) / 2 : Nat) : Int) := by
  rw [wrap_of (x := (i : Int) + j) (by omega) (by omega)]
  have : IntKind.u64.wrap ((i : Int) + j) = (i : Int) + j := by simp [IntKind.wrap, IntKind.bits, IntKind.signed]; omega
  rw [this]
  have e : ((i : Int) + j).fdiv (2 ^ 1) = (((i + j) / 2 : Nat) : Int) := by
    rw [Int.fdiv_eq_ediv_of_nonneg _ (by decide)]; omega
  rw [e, wrap_of (by omega) (by omega)]
theorem after1_told (s : S123) (p : Int) : f57_v [enc s, I p] = some (0, [I (if s.f1 ≤ p then -1 else 1)]) := by
  simp only [f57_v, f57_t, Tree.run, lf0, lfs, enc, P.snd, P.fst, P.toInt]
  by_cases h : s.f1 ≤ p <;> simp [h]
theorem bs_told (n : Bool) (l : List S123) (p : Int) (c : P) (hc : Chk (-1) l) : ∀ d i j : Nat, j - i ≤ d → i ≤ cnt l p → cnt l p ≤ j → j ≤ l.length →
    Lp (d + 1) f56_s60 [L n l, I p, c, I (l.length : Int), I i, I j] (0, [L n l, I p, c, I (l.length : Int), I (cnt l p : Int)]) := by
  have hlen := chk_len hc
  intro d
  induction d with
  | zero =>
    intro i j hd h1 h2 h3
    have e : i = cnt l p := by omega
    subst e
    have e' : j = cnt l p := by omega
    subst e'
    refine Lp.done fun K => ?_
    simp [f56_s60, Tree.run, lf0, lfs, P.toInt]
  | succ d ih =>
    intro i j hd h1 h2 h3
    by_cases hij : i < j
    · have hm : (i + j) / 2 < l.length := by omega
      have hlt : (i : Int) < j := by omega
      by_cases hc1 : (i + j) / 2 < cnt l p
      · have := cnt_before l p _ hc1
        refine Lp.next (fun K => ?_) (ih ((i + j) / 2 + 1) j (by omega) (by omega) h2 h3)
        simp only [f56_s60, Tree.run, Bool.cond_decide]
        simp only [Tree.run, lf0, lfs, toInt_int, toBool_bool, toStr_str, xs_list, nil_list, fst_pair, snd_pair, List.length_map, Option.bind_some, nb_same, cond_true, cond_false, decide_true, decide_false, half i j (by omega), inb_nat hm, Int.toNat_natCast, rd_enc hm, after1_told]
        rw [rd_nat, if_pos this, wrap_succ _ (by omega)]
        simp only [hlt, if_true, show ((-1 : Int) < 0) = True by simp]
      · have := cnt_behind (p := p) hc ((i + j) / 2) (by omega) hm
        refine Lp.next (fun K => ?_) (ih i ((i + j) / 2) (by omega) h1 (by omega) (by omega))
        simp only [f56_s60, Tree.run, Bool.cond_decide]
        simp only [Tree.run, lf0, lfs, toInt_int, toBool_bool, toStr_str, xs_list, nil_list, fst_pair, snd_pair, List.length_map, Option.bind_some, nb_same, cond_true, cond_false, decide_true, decide_false, half i j (by omega), inb_nat hm, Int.toNat_natCast, rd_enc hm, after1_told]
        rw [rd_nat, if_neg (show ¬ (l.getD ((i + j) / 2) z123).f1 ≤ p by omega)]
        simp only [hlt, if_true, show ((1 : Int) < 0) = False by simp, if_false]
    · exact (ih i j (by omega) h1 h2 h3).mono (by omega)
theorem after_told (n : Bool) {l : List S123} (p : Int) (hc : Chk (-1) l) : f37_v [L n l, I p] = some (0, [I (cnt l p : Int)]) := by
  have hlen := chk_len hc
  have h := (bs_told n l p .unit hc l.length 0 l.length (by omega) (by omega) (cnt_le l p) (Nat.le_refl _)).fuel (by omega)
  have hb : ∃ b, f56_v [L n l, I p, .unit] = some (0, [I (cnt l p : Int), .bool b]) := by
    have h' : loopT f56_s60 FUEL [L n l, I p, .unit, I (l.length : Int), I (0 : Int), I (l.length : Int)] = some (0, [L n l, I p, .unit, I (l.length : Int), I (cnt l p : Int)]) := h
    simp only [f56_v, f56_t, Tree.run, Bool.cond_decide]
    simp only [Tree.run, lf0, lfs, toInt_int, toBool_bool, toStr_str, xs_list, nil_list, fst_pair, snd_pair, List.length_map, Option.bind_some, nb_same, cond_true, cond_false, decide_true, decide_false, h']
    by_cases hq : cnt l p < l.length
    · simp only [eq_true (show (cnt l p : Int) < l.length by omega), if_true, inb_nat hq, Tree.run, lf0, lfs, toInt_int, toBool_bool, toStr_str, xs_list, nil_list, fst_pair, snd_pair, List.length_map, Option.bind_some, nb_same, cond_true, cond_false, decide_true, decide_false, Int.toNat_natCast, rd_enc hq, after1_told]
      exact ⟨_, rfl⟩
    · simp only [eq_false (show ¬ (cnt l p : Int) < l.length by omega), if_false]
      exact ⟨_, rfl⟩
  obtain ⟨b, hb⟩ := hb
  simp only [f37_v, f37_t, Tree.run, lf0, lfs, hb, Option.bind_some, nb_same, cond_true]
theorem has_told (n : Bool) {l : List S123} (p : Int) (hc : Chk (-1) l) : f15_v [L n l, I p] = some (0, [.bool (mem l p)]) := by
  simp only [f15_v, f15_t, Tree.run, Bool.cond_decide]
  simp only [Tree.run, lf0, lfs, toInt_int, toBool_bool, toStr_str, xs_list, nil_list, fst_pair, snd_pair, List.length_map, Option.bind_some, nb_same, cond_true, cond_false, decide_true, decide_false, after_told n p hc]
  rw [← has_mem hc, cnt_has]
  by_cases hq : cnt l p < l.length
  · simp only [eq_true (show (cnt l p : Int) < l.length by omega), if_true, inb_nat hq, Tree.run, lf0, lfs, toInt_int, toBool_bool, toStr_str, xs_list, nil_list, fst_pair, snd_pair, List.length_map, Option.bind_some, nb_same, cond_true, cond_false, decide_true, decide_false, Int.toNat_natCast, rd_enc hq, enc, if_pos hq, rd_nat]
  · simp only [eq_false (show ¬ (cnt l p : Int) < l.length by omega), if_false, if_neg hq]
end Go.Proofs.Ytihenfpnilliiaa.Sp
