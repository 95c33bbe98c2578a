/- Spans, needs, manifests: which may be, which are too large, clones, the example. Conditions: none but those each states. -/
import Derived.Test.YtihenfpnilliiaaLab
import Derived.Test.YtihenfpnilliiaaQHas
import Derived.Test.YtihenfpnilliiaaE4
set_option linter.unusedVariables false
set_option linter.unusedSimpArgs false
namespace Go.Proofs.Ytihenfpnilliiaa.Mn
open Go Go.Eng
abbrev Sp := Sp.S123
structure Nd where
  nm : ByteArray
  ni : Bool
  ins : List Sp
structure Rl where
  ver : Int
  nn : Bool
  nds : List Nd
structure Mf where
  nm : ByteArray
  rn : Bool
  rls : List Rl
abbrev eS := Sp.enc
abbrev LS (n : Bool) (l : List Sp) : P := .list n (l.map eS)
def eN (d : Nd) : P := .pair (.str d.nm) (.pair (LS d.ni d.ins) .unit)
abbrev LN (n : Bool) (l : List Nd) : P := .list n (l.map eN)
def eR (r : Rl) : P := .pair (I r.ver) (.pair (LN r.nn r.nds) .unit)
abbrev LR (n : Bool) (l : List Rl) : P := .list n (l.map eR)
def eM (m : Mf) : P := .pair (.str m.nm) (.pair (LR m.rn m.rls) .unit)
abbrev s0 := Sp.z123
def n0 : Nd := ⟨.empty, true, []⟩
def rl0 : Rl := ⟨0, true, []⟩
theorem rdS {l : List Sp} {i : Nat} (h : i < l.length) : rd (l.map eS) i = .pair (I (l.getD i s0).f0) (.pair (I (l.getD i s0).f1) .unit) := rd_map eS l s0 h
theorem rdN {l : List Nd} {i : Nat} (h : i < l.length) : rd (l.map eN) i = .pair (.str (l.getD i n0).nm) (.pair (LS (l.getD i n0).ni (l.getD i n0).ins) .unit) := rd_map eN l n0 h
theorem rdR {l : List Rl} {i : Nat} (h : i < l.length) : rd (l.map eR) i = .pair (I (l.getD i rl0).ver) (.pair (LN (l.getD i rl0).nn (l.getD i rl0).nds) .unit) := rd_map eR l rl0 h
def chkS : Int → List Sp → Bool
  | _, [] => true
  | e, s :: t => decide (e < s.f0) && (decide (s.f0 < s.f1) && (decide (s.f1 ≤ 1000000000) && chkS s.f1 t))
theorem and_dec {a b : Prop} [Decidable a] [Decidable b] : (decide a && decide b) = decide (a ∧ b) := by
  by_cases ha : a <;> by_cases hb : b <;> simp [ha, hb]
theorem goOn_chk : ∀ (l : List Sp) (e : Int), goOn (fun e s => decide (e < s.f0) && (decide (s.f0 < s.f1) && decide (s.f1 ≤ 1000000000))) (fun _ s => s.f1) e l = chkS e l
  | [], e => rfl
  | s :: t, e => by simp only [goOn, chkS, goOn_chk t, Bool.and_assoc]
theorem check_told (n : Bool) (l : List Sp) (hl : l.length < 1000000) : f7_v [LS n l] = some (0, [.bool (chkS (-1) l)]) := by
  have h := loop_list (step := f7_s58) l s0 (fun e s => decide (e < s.f0) && (decide (s.f0 < s.f1) && decide (s.f1 ≤ 1000000000))) (fun _ s => s.f1)
    (fun e i => [I e, LS n l, I (l.length : Int), I (i : Int)]) (1, []) (0, [.bool false]) (-1) (by omega) (fun e i hi K => by
      simp only [f7_s58, Tree.run, Bool.cond_decide]
      simp only [Tree.run, lf0, lfs, toInt_int, toBool_bool, toStr_str, xs_list, nil_list, fst_pair, snd_pair, List.length_map, Option.bind_some, nb_same, cond_true, cond_false, decide_true, decide_false, eq_true (show (i : Int) < l.length by omega), if_true, inb_nat hi, Int.toNat_natCast, rdS hi, wrap_succ i (by omega)]
      generalize l.getD i s0 = s
      by_cases c1 : s.f0 ≤ e
      · simp only [eq_true c1, if_true, decide_eq_false (show ¬ e < s.f0 by omega), Bool.false_and, Tree.run, lf0, lfs, toInt_int, toBool_bool, toStr_str, xs_list, nil_list, fst_pair, snd_pair, List.length_map, Option.bind_some, nb_same, cond_true, cond_false, decide_true, decide_false]
      by_cases c2 : s.f0 ≥ s.f1
      · simp only [eq_false c1, eq_true c2, if_true, if_false, decide_eq_false (show ¬ s.f0 < s.f1 by omega), Bool.false_and, Bool.and_false, Bool.false_and, Tree.run, lf0, lfs, toInt_int, toBool_bool, toStr_str, xs_list, nil_list, fst_pair, snd_pair, List.length_map, Option.bind_some, nb_same, cond_true, cond_false, decide_true, decide_false]
      by_cases c3 : s.f1 > 1000000000
      · simp only [eq_false c1, eq_false c2, eq_true c3, if_true, if_false, decide_eq_false (show ¬ s.f1 ≤ 1000000000 by omega), Bool.and_false, Bool.false_and, Tree.run, lf0, lfs, toInt_int, toBool_bool, toStr_str, xs_list, nil_list, fst_pair, snd_pair, List.length_map, Option.bind_some, nb_same, cond_true, cond_false, decide_true, decide_false]
      simp only [eq_false c1, eq_false c2, eq_false c3, if_false, decide_eq_true (show e < s.f0 by omega), decide_eq_true (show s.f0 < s.f1 by omega), decide_eq_true (show s.f1 ≤ 1000000000 by omega), Bool.and_self, Tree.run, lf0, lfs, toInt_int, toBool_bool, toStr_str, xs_list, nil_list, fst_pair, snd_pair, List.length_map, Option.bind_some, nb_same, cond_true, cond_false, decide_true, decide_false]) (fun e K => by
      simp only [f7_s58, Tree.run, Bool.cond_decide]
      simp only [Tree.run, lf0, lfs, toInt_int, toBool_bool, toStr_str, xs_list, nil_list, fst_pair, snd_pair, List.length_map, Option.bind_some, nb_same, cond_true, cond_false, decide_true, decide_false, eq_false (show ¬ (l.length : Int) < l.length by omega), if_false])
  rw [goOn_chk] at h
  simp only [f7_v, f7_t, Tree.run, Bool.cond_decide]
  simp only [Tree.run, lf0, lfs, toInt_int, toBool_bool, toStr_str, xs_list, nil_list, fst_pair, snd_pair, List.length_map, Option.bind_some, nb_same, cond_true, cond_false, decide_true, decide_false]
  rw [show loopT f7_s58 FUEL [.int .i64 (-1), LS n l, .int .i64 (l.length : Int), .int .i64 0] = _ from h]
  cases chkS (-1) l <;> rfl
theorem getD_at {α : Type} {l : List α} {d : α} {i : Nat} (h : i < l.length) : l.getD i d = l[i] := by simp [List.getD_eq_getElem?_getD, h]
theorem neq_len {α : Type} (a b : List α) : (((a.length : Nat) : Int) != ((b.length : Nat) : Int)) = !decide (a.length = b.length) := by
  by_cases h : a.length = b.length
  · simp [h]
  · simp [h]; omega
theorem bool_if (b : Bool) {x y : Nat × List P} : (if b = true then x else y) = bif b then x else y := by cases b <;> rfl
def NdS (d : Nd) : Prop := d.ins.length < 1000000 ∧ d.nm.size ≤ 1000000
theorem at_of {α : Type} {p : α → Prop} {l : List α} {d : α} (h : ∀ x ∈ l, p x) {i : Nat} (hi : i < l.length) : p (l.getD i d) := by
  rw [getD_at hi]; exact h _ (List.getElem_mem hi)
def RlS (r : Rl) : Prop := r.nds.length < 1000000 ∧ ∀ x ∈ r.nds, NdS x
def MfS (m : Mf) : Prop := m.nm.size ≤ 1000000 ∧ m.rls.length < 1000000 ∧ ∀ r ∈ m.rls, RlS r
theorem baList (x : ByteArray) : x.toList = x.data.toList := ByteArray.toList_eq x
theorem strLt_empty (x : ByteArray) : strLt x .empty = false := by
  unfold strLt
  rw [baList .empty]
  show Op.bytesLess x.toList [] = false
  cases x.toList <;> rfl
theorem fit_empty {x : ByteArray} (h : strEq x .empty = true) : fitB x = false := by
  unfold strEq at h
  rw [baList x, baList .empty] at h
  have h : (x.data.toList == []) = true := h
  have : x.size = 0 := by
    have h2 : x.data.toList = [] := by simpa using h
    show x.data.size = 0
    rw [← Array.length_toList, h2]; rfl
  unfold fitB runes
  rw [this]; rfl
def leS (a b : ByteArray) : Bool := strLt a b || strEq a b
def okNd (last : ByteArray) (d : Nd) : Bool := fitB d.nm && (!leS d.nm last && (decide (d.ins.length ≤ 6) && chkS (-1) d.ins))
def chkN (l : List Nd) : Bool := goOn okNd (fun _ d => d.nm) .empty l && decide (l.length ≤ 6)
theorem checkN_told (n : Bool) (l : List Nd) (hl : l.length < 1000000) (hs : ∀ x ∈ l, NdS x) : f29_v [LN n l] = some (0, [.bool (chkN l)]) := by
  have h := loop_list (step := f29_s58) l n0 okNd (fun _ d => d.nm) (fun last i => [LN n l, .str last, LN n l, I (l.length : Int), I (i : Int)]) (1, [LN n l]) (0, [.bool false]) .empty (by omega) (fun last i hi K => by
      have hx := at_of (d := n0) hs hi
      have hf := fit_told (l.getD i n0).nm hx.2
      have hc := check_told (l.getD i n0).ni (l.getD i n0).ins hx.1
      simp only [f29_s58, Tree.run, Bool.cond_decide]
      simp only [Tree.run, lf0, lfs, toInt_int, toBool_bool, toStr_str, xs_list, nil_list, fst_pair, snd_pair, List.length_map, Option.bind_some, nb_same, cond_true, cond_false, decide_true, decide_false, eq_true (show (i : Int) < l.length by omega), if_true, inb_nat hi, Int.toNat_natCast, rdN hi, wrap_succ i (by omega), hf, hc]
      generalize l.getD i n0 = d
      unfold okNd leS
      cases fitB d.nm with
      | false => simp only [Bool.not_false, Bool.false_and, Tree.run, lf0, lfs, toInt_int, toBool_bool, toStr_str, xs_list, nil_list, fst_pair, snd_pair, List.length_map, Option.bind_some, nb_same, cond_true, cond_false, decide_true, decide_false]
      | true =>
        cases (strLt d.nm last || strEq d.nm last) with
        | true => simp only [Bool.not_true, Bool.true_and, Bool.false_and, Tree.run, lf0, lfs, toInt_int, toBool_bool, toStr_str, xs_list, nil_list, fst_pair, snd_pair, List.length_map, Option.bind_some, nb_same, cond_true, cond_false, decide_true, decide_false]
        | false =>
          by_cases c : (d.ins.length : Int) > 6
          · simp only [eq_true c, if_true, Bool.not_true, Bool.not_false, Bool.true_and, decide_eq_false (show ¬ d.ins.length ≤ 6 by omega), Bool.false_and, Tree.run, lf0, lfs, toInt_int, toBool_bool, toStr_str, xs_list, nil_list, fst_pair, snd_pair, List.length_map, Option.bind_some, nb_same, cond_true, cond_false, decide_true, decide_false]
          · simp only [eq_false c, if_false, Bool.not_true, Bool.not_false, Bool.true_and, decide_eq_true (show d.ins.length ≤ 6 by omega), Tree.run, lf0, lfs, toInt_int, toBool_bool, toStr_str, xs_list, nil_list, fst_pair, snd_pair, List.length_map, Option.bind_some, nb_same, cond_true, cond_false, decide_true, decide_false]
            cases chkS (-1) d.ins <;> rfl) (fun last K => by
      simp only [f29_s58, Tree.run, Bool.cond_decide]
      simp only [Tree.run, lf0, lfs, toInt_int, toBool_bool, toStr_str, xs_list, nil_list, fst_pair, snd_pair, List.length_map, Option.bind_some, nb_same, cond_true, cond_false, decide_true, decide_false, eq_false (show ¬ (l.length : Int) < l.length by omega), if_false])
  simp only [f29_v, f29_t, Tree.run, Bool.cond_decide]
  simp only [Tree.run, lf0, lfs, toInt_int, toBool_bool, toStr_str, xs_list, nil_list, fst_pair, snd_pair, List.length_map, Option.bind_some, nb_same, cond_true, cond_false, decide_true, decide_false]
  rw [show loopT f29_s58 FUEL [LN n l, .str .empty, LN n l, .int .i64 (l.length : Int), .int .i64 0] = _ from h]
  unfold chkN
  cases goOn okNd (fun _ d => d.nm) .empty l with
  | false => rfl
  | true =>
    simp only [Tree.run, lf0, lfs, toInt_int, toBool_bool, toStr_str, xs_list, nil_list, fst_pair, snd_pair, List.length_map, Option.bind_some, nb_same, cond_true, cond_false, decide_true, decide_false, nb_lt 1 0 (by omega), Bool.true_and]
    by_cases c : l.length ≤ 6
    · rw [decide_eq_true c, decide_eq_true (by omega)]
    · rw [decide_eq_false c, decide_eq_false (by omega)]
def okRl (last : Int) (r : Rl) : Bool := decide (last < r.ver) && (decide (r.ver < 1000000000) && chkN r.nds)
def chkM (m : Mf) : Bool := goOn okRl (fun _ r => r.ver) (-1) m.rls && (fitB m.nm && decide (m.rls.length ≤ 8))
theorem checkM_told (m : Mf) (hm : MfS m) : f6_v [eM m] = some (0, [.bool (chkM m)]) := by
  have hl := hm.2.1
  have h := loop_list (step := f6_s58) m.rls rl0 okRl (fun _ r => r.ver) (fun last i => [I last, LR m.rn m.rls, I (m.rls.length : Int), I (i : Int), eM m]) (1, [eM m]) (0, [.bool false]) (-1) (by omega) (fun last i hi K => by
      have hx := at_of (d := rl0) hm.2.2 hi
      have hc := checkN_told (m.rls.getD i rl0).nn (m.rls.getD i rl0).nds hx.1 hx.2
      simp only [f6_s58, Tree.run, Bool.cond_decide]
      simp only [Tree.run, lf0, lfs, toInt_int, toBool_bool, toStr_str, xs_list, nil_list, fst_pair, snd_pair, List.length_map, Option.bind_some, nb_same, cond_true, cond_false, decide_true, decide_false, eq_true (show (i : Int) < m.rls.length by omega), if_true, inb_nat hi, Int.toNat_natCast, rdR hi, wrap_succ i (by omega), hc]
      generalize m.rls.getD i rl0 = r
      unfold okRl
      by_cases c1 : r.ver ≤ last
      · simp only [eq_true c1, if_true, decide_eq_false (show ¬ last < r.ver by omega), Bool.false_and, Tree.run, lf0, lfs, toInt_int, toBool_bool, toStr_str, xs_list, nil_list, fst_pair, snd_pair, List.length_map, Option.bind_some, nb_same, cond_true, cond_false, decide_true, decide_false]
      by_cases c2 : r.ver ≥ 1000000000
      · simp only [eq_false c1, eq_true c2, if_true, if_false, decide_eq_true (show last < r.ver by omega), decide_eq_false (show ¬ r.ver < 1000000000 by omega), Bool.false_and, Bool.and_false, Tree.run, lf0, lfs, toInt_int, toBool_bool, toStr_str, xs_list, nil_list, fst_pair, snd_pair, List.length_map, Option.bind_some, nb_same, cond_true, cond_false, decide_true, decide_false]
      simp only [eq_false c1, eq_false c2, if_false, decide_eq_true (show last < r.ver by omega), decide_eq_true (show r.ver < 1000000000 by omega), Bool.true_and, Tree.run, lf0, lfs, toInt_int, toBool_bool, toStr_str, xs_list, nil_list, fst_pair, snd_pair, List.length_map, Option.bind_some, nb_same, cond_true, cond_false, decide_true, decide_false]
      cases chkN r.nds <;> rfl) (fun last K => by
      simp only [f6_s58, Tree.run, Bool.cond_decide]
      simp only [Tree.run, lf0, lfs, toInt_int, toBool_bool, toStr_str, xs_list, nil_list, fst_pair, snd_pair, List.length_map, Option.bind_some, nb_same, cond_true, cond_false, decide_true, decide_false, eq_false (show ¬ (m.rls.length : Int) < m.rls.length by omega), if_false])
  have hf := fit_told m.nm hm.1
  simp only [f6_v, f6_t, Tree.run, Bool.cond_decide]
  simp only [Tree.run, lf0, lfs, toInt_int, toBool_bool, toStr_str, xs_list, nil_list, fst_pair, snd_pair, List.length_map, Option.bind_some, nb_same, cond_true, cond_false, decide_true, decide_false, eM] at h ⊢
  rw [show loopT f6_s58 FUEL [.int .i64 (-1), LR m.rn m.rls, .int .i64 (m.rls.length : Int), .int .i64 0, .pair (.str m.nm) (.pair (LR m.rn m.rls) .unit)] = _ from h]
  unfold chkM
  cases goOn okRl (fun _ r => r.ver) (-1) m.rls with
  | false => rfl
  | true =>
    simp only [Tree.run, lf0, lfs, toInt_int, toBool_bool, toStr_str, xs_list, nil_list, fst_pair, snd_pair, List.length_map, Option.bind_some, nb_same, cond_true, cond_false, decide_true, decide_false, nb_lt 1 0 (by omega), Bool.true_and, hf]
    cases fitB m.nm with
    | false => rfl
    | true =>
      simp only [Tree.run, lf0, lfs, toInt_int, toBool_bool, toStr_str, xs_list, nil_list, fst_pair, snd_pair, List.length_map, Option.bind_some, nb_same, cond_true, cond_false, decide_true, decide_false, Bool.true_and]
      by_cases c : m.rls.length ≤ 8
      · rw [decide_eq_true c, decide_eq_true (by omega)]
      · rw [decide_eq_false c, decide_eq_false (by omega)]
def smN (l : List Nd) : Bool := decide (l.length ≤ 40) && l.all fun d => decide (d.ins.length ≤ 40) && decide (d.nm.size ≤ 100)
theorem largeN_told (n : Bool) (l : List Nd) : f28_v [LN n l] = some (0, [.bool (!smN l)]) := by
  simp only [f28_v, f28_t, Tree.run, Bool.cond_decide]
  simp only [Tree.run, lf0, lfs, toInt_int, toBool_bool, toStr_str, xs_list, nil_list, fst_pair, snd_pair, List.length_map, Option.bind_some, nb_same, cond_true, cond_false, decide_true, decide_false]
  by_cases c : (l.length : Int) > 40
  · simp only [eq_true c, if_true, smN, decide_eq_false (show ¬ l.length ≤ 40 by omega), Bool.false_and, Bool.not_false]
  · have h := loop_allB (step := f28_s58) (st := fun i => [LN n l, I (i : Int)]) (y1 := (1, [])) (z := (0, [.bool true]))
      (ok := fun i => decide ((l.getD i n0).ins.length ≤ 40) && decide ((l.getD i n0).nm.size ≤ 100)) l.length (by omega) (fun i hi K => by
        simp only [f28_s58, Tree.run, Bool.cond_decide]
        simp only [Tree.run, lf0, lfs, toInt_int, toBool_bool, toStr_str, xs_list, nil_list, fst_pair, snd_pair, List.length_map, Option.bind_some, nb_same, cond_true, cond_false, decide_true, decide_false, eq_true (show (i : Int) < l.length by omega), if_true, inb_nat hi, Int.toNat_natCast, rdN hi, wrap_succ i (by omega)]
        generalize l.getD i n0 = d
        by_cases c1 : (d.ins.length : Int) > 40
        · simp only [eq_true c1, if_true, decide_eq_false (show ¬ d.ins.length ≤ 40 by omega), Bool.false_and, Tree.run, lf0, lfs, toInt_int, toBool_bool, toStr_str, xs_list, nil_list, fst_pair, snd_pair, List.length_map, Option.bind_some, nb_same, cond_true, cond_false, decide_true, decide_false]
        by_cases c2 : (d.nm.size : Int) > 100
        · simp only [eq_false c1, eq_true c2, if_true, if_false, decide_eq_false (show ¬ d.nm.size ≤ 100 by omega), Bool.and_false, Tree.run, lf0, lfs, toInt_int, toBool_bool, toStr_str, xs_list, nil_list, fst_pair, snd_pair, List.length_map, Option.bind_some, nb_same, cond_true, cond_false, decide_true, decide_false]
        simp only [eq_false c1, eq_false c2, if_false, decide_eq_true (show d.ins.length ≤ 40 by omega), decide_eq_true (show d.nm.size ≤ 100 by omega), Bool.and_self, Tree.run, lf0, lfs, toInt_int, toBool_bool, toStr_str, xs_list, nil_list, fst_pair, snd_pair, List.length_map, Option.bind_some, nb_same, cond_true, cond_false, decide_true, decide_false]) (fun K => by
        simp only [f28_s58, Tree.run, Bool.cond_decide]
        simp only [Tree.run, lf0, lfs, toInt_int, toBool_bool, toStr_str, xs_list, nil_list, fst_pair, snd_pair, List.length_map, Option.bind_some, nb_same, cond_true, cond_false, decide_true, decide_false, eq_false (show ¬ (l.length : Int) < l.length by omega), if_false])
    rw [all_getD (fun d : Nd => decide (d.ins.length ≤ 40) && decide (d.nm.size ≤ 100)) n0 l] at h
    simp only [eq_false c, if_false]
    rw [show loopT f28_s58 FUEL [LN n l, .int .i64 0] = _ from h]
    simp only [smN, decide_eq_true (show l.length ≤ 40 by omega), Bool.true_and]
    cases l.all (fun d : Nd => decide (d.ins.length ≤ 40) && decide (d.nm.size ≤ 100)) <;> rfl
def smM (m : Mf) : Bool := decide (m.rls.length ≤ 30) && (decide (m.nm.size ≤ 200) && m.rls.all fun r => smN r.nds)
theorem largeM_told (m : Mf) : f5_v [eM m] = some (0, [.bool (!smM m)]) := by
  simp only [f5_v, f5_t, Tree.run, Bool.cond_decide, eM]
  simp only [Tree.run, lf0, lfs, toInt_int, toBool_bool, toStr_str, xs_list, nil_list, fst_pair, snd_pair, List.length_map, Option.bind_some, nb_same, cond_true, cond_false, decide_true, decide_false]
  by_cases c : (m.rls.length : Int) > 30
  · simp only [eq_true c, if_true, smM, decide_eq_false (show ¬ m.rls.length ≤ 30 by omega), Bool.false_and, Bool.not_false, Bool.cond_decide]
  by_cases c2 : (m.nm.size : Int) > 200
  · simp only [eq_false c, eq_true c2, if_true, if_false, smM, decide_eq_false (show ¬ m.nm.size ≤ 200 by omega), Bool.false_and, Bool.and_false, Bool.not_false, Bool.cond_decide]
  have h := loop_allB (step := f5_s58) (st := fun i => [I (i : Int), eM m]) (y1 := (1, [])) (z := (0, [.bool true]))
    (ok := fun i => smN (m.rls.getD i rl0).nds) m.rls.length (by omega) (fun i hi K => by
      simp only [f5_s58, Tree.run, Bool.cond_decide, eM]
      simp only [Tree.run, lf0, lfs, toInt_int, toBool_bool, toStr_str, xs_list, nil_list, fst_pair, snd_pair, List.length_map, Option.bind_some, nb_same, cond_true, cond_false, decide_true, decide_false, eq_true (show (i : Int) < m.rls.length by omega), if_true, inb_nat hi, Int.toNat_natCast, rdR hi, wrap_succ i (by omega), largeN_told, Bool.cond_decide]
      cases smN (m.rls.getD i rl0).nds <;> rfl) (fun K => by
      simp only [f5_s58, Tree.run, Bool.cond_decide, eM]
      simp only [Tree.run, lf0, lfs, toInt_int, toBool_bool, toStr_str, xs_list, nil_list, fst_pair, snd_pair, List.length_map, Option.bind_some, nb_same, cond_true, cond_false, decide_true, decide_false, eq_false (show ¬ (m.rls.length : Int) < m.rls.length by omega), if_false, Bool.cond_decide])
  rw [all_getD (fun r : Rl => smN r.nds) rl0 m.rls] at h
  simp only [eq_false c, eq_false c2, if_false, Bool.cond_decide]
  rw [show loopT f5_s58 FUEL [.int .i64 0, .pair (.str m.nm) (.pair (LR m.rn m.rls) .unit)] = _ from h]
  simp only [smM, decide_eq_true (show m.rls.length ≤ 30 by omega), decide_eq_true (show m.nm.size ≤ 200 by omega), Bool.true_and]
  cases m.rls.all (fun r : Rl => smN r.nds) <;> rfl
theorem smN_s {l : List Nd} (h : smN l = true) : l.length ≤ 40 ∧ ∀ d ∈ l, d.ins.length ≤ 40 ∧ d.nm.size ≤ 100 := by
  simp only [smN, Bool.and_eq_true, decide_eq_true_eq, List.all_eq_true] at h
  exact h
theorem smM_s {m : Mf} (h : smM m = true) : MfS m := by
  simp only [smM, Bool.and_eq_true, decide_eq_true_eq, List.all_eq_true] at h
  refine ⟨by omega, by omega, fun r hr => ?_⟩
  obtain ⟨h1, h2⟩ := smN_s (h.2.2 r hr)
  exact ⟨by omega, fun d hd => by have := h2 d hd; exact ⟨by omega, by omega⟩⟩
def NdW (d : Nd) : Prop := d.ni = true → d.ins = []
theorem cloneS_told (n : Bool) (l : List Sp) (hl : l.length < 1000000) (hn : n = true → l = []) : f55_v [LS n l] = some (0, [LS n l]) := by
  simp only [f55_v, f55_t, f55_s1, Tree.run, Bool.cond_decide]
  simp only [Tree.run, lf0, lfs, toInt_int, toBool_bool, toStr_str, xs_list, nil_list, fst_pair, snd_pair, List.length_map, Option.bind_some, nb_same, cond_true, cond_false, decide_true, decide_false, eq_true (show (0 + l.length) * 16 ≤ 140737488355328 by omega)]
  cases n with
  | true => rw [hn rfl]; rfl
  | false => rfl
theorem cloned_told (r : Rl) (hr : RlS r) (hw : ∀ d ∈ r.nds, NdW d) : f36_v [eR r] = some (0, [I r.ver, LN r.nds.isEmpty r.nds, .unit]) := by
  have h1 := hr.1
  have h := loop_scan (step := f36_s58) (st := fun i => [LN r.nn r.nds, I (r.nds.length : Int), I (i : Int), .pair (I 0) (.pair (.list true []) .unit), I r.ver, .unit, .list (decide (i = 0)) ((r.nds.take i).map eN)])
    (y1 := (0, [.pair (I 0) (.pair (.list true []) .unit), I r.ver, .unit, LN r.nds.isEmpty r.nds])) (bad := fun _ => none) r.nds.length (by omega) (fun i hi K => by
      have hx := at_of (d := n0) hr.2 hi
      have hxw := at_of (d := n0) hw hi
      have hc := cloneS_told (r.nds.getD i n0).ni (r.nds.getD i n0).ins hx.1 hxw
      have ht : (r.nds.take (i + 1)).map eN = (r.nds.take i).map eN ++ [eN (r.nds.getD i n0)] := by
        rw [List.take_succ_eq_append_getElem hi, List.map_append, getD_at hi]; rfl
      have hlen : (List.take i r.nds).length ≤ i := List.length_take_le _ _
      simp only [f36_s58, Tree.run, Bool.cond_decide]
      simp only [Tree.run, lf0, lfs, toInt_int, toBool_bool, toStr_str, xs_list, nil_list, fst_pair, snd_pair, List.length_map, Option.bind_some, nb_same, cond_true, cond_false, decide_true, decide_false, eq_true (show (i : Int) < r.nds.length by omega), if_true, inb_nat hi, Int.toNat_natCast, rdN hi, wrap_succ i (by omega), hc, eq_true (show ((List.take i r.nds).length + 1) * 40 ≤ 140737488355328 by omega), Bool.and_false, eq_false (show ¬ i + 1 = 0 by omega), ht]
      rfl) (fun K => by
      simp only [f36_s58, Tree.run, Bool.cond_decide]
      simp only [Tree.run, lf0, lfs, toInt_int, toBool_bool, toStr_str, xs_list, nil_list, fst_pair, snd_pair, List.length_map, Option.bind_some, nb_same, cond_true, cond_false, decide_true, decide_false, eq_false (show ¬ (r.nds.length : Int) < r.nds.length by omega), if_false, List.take_length]
      cases r.nds <;> rfl)
  have hnone : ((List.range' 0 r.nds.length).findSome? fun _ => (none : Option (Nat × List P))) = none := by simp
  rw [hnone] at h
  simp only [f36_v, f36_t, Tree.run, Bool.cond_decide, eR]
  simp only [Tree.run, lf0, lfs, toInt_int, toBool_bool, toStr_str, xs_list, nil_list, fst_pair, snd_pair, List.length_map, Option.bind_some, nb_same, cond_true, cond_false, decide_true, decide_false]
  rw [show loopT f36_s58 FUEL [LN r.nn r.nds, .int .i64 (r.nds.length : Int), .int .i64 0, .pair (.int .i64 0) (.pair (.list true []) .unit), I r.ver, .unit, .list true []] = _ from h]
  simp only [Tree.run, lf0, lfs, toInt_int, toBool_bool, toStr_str, xs_list, nil_list, fst_pair, snd_pair, List.length_map, Option.bind_some, nb_same, cond_true, cond_false, decide_true, decide_false, Option.getD_none]
def cl (r : Rl) : Rl := ⟨r.ver, r.nds.isEmpty, r.nds⟩
def mf0 : Mf := ⟨⟨#[97]⟩, false, [⟨1000000, true, []⟩, ⟨2000000, true, []⟩]⟩
theorem down0 (hi : Int) (h1 : 2000000 ≤ hi) (h2 : hi ≤ 1000000000) : down13_v [eM mf0, LS false [⟨0, hi⟩]] = some (0, [.list false (if hi = 2000000 then [I 1000000] else [I 2000000, I 1000000])]) := by
  have hc : Sp.Chk (-1) [⟨0, hi⟩] := ⟨by show (-1 : Int) < 0; omega, by show 0 < hi; omega, h2, trivial⟩
  have a1 := Sp.has_told false 1000000 hc
  have a2 := Sp.has_told false 2000000 hc
  have m1 : Sp.mem [⟨0, hi⟩] 1000000 = true := by simp [Sp.mem]; omega
  have m2 : Sp.mem [⟨0, hi⟩] 2000000 = decide (2000000 < hi) := by simp [Sp.mem]
  rw [m1] at a1
  rw [m2] at a2
  show (downR (LS false [⟨0, hi⟩]) [eR ⟨2000000, true, []⟩, eR ⟨1000000, true, []⟩]).map _ = _
  simp only [downR, eR, fst_pair]
  rw [a1, a2]
  by_cases e : hi = 2000000
  · subst e; rfl
  · rw [decide_eq_true (show 2000000 < hi by omega), if_neg e]; rfl
theorem awake_told : f8_v [] = some (0, [.bool true]) := by
  have h1 := down0 2000000 (by omega) (by omega)
  have h2 := down0 1000000000 (by omega) (by omega)
  have h3 := checkM_told mf0 ⟨by decide, by decide, fun r hr => by simp [mf0] at hr; rcases hr with rfl | rfl <;> exact ⟨by decide, fun x hx => by cases hx⟩⟩
  have hck : chkM mf0 = true := by decide
  rw [hck] at h3
  rw [if_pos rfl] at h1
  rw [if_neg (by decide)] at h2
  have hn : f11_v [eM mf0, LS false [⟨0, 2000000⟩]] = some (0, [I 1000000, .bool true]) := by
    simp only [f11_v, f11_t, Tree.run, Bool.cond_decide]
    simp only [lf0, lfs, h1, Tree.run, lf0, lfs, toInt_int, toBool_bool, toStr_str, xs_list, nil_list, fst_pair, snd_pair, List.length_map, Option.bind_some, nb_same, cond_true, cond_false, decide_true, decide_false]
    rfl
  have e0 : P.pair (.str ⟨#[97]⟩) (.pair (.list false [.pair (.int .i64 (1000000 : Int)) (.pair (.list true []) .unit), .pair (.int .i64 (2000000 : Int)) (.pair (.list true []) .unit)]) .unit) = eM mf0 := rfl
  have e1 : ∀ h : Int, P.list false [.pair (.int .i64 (0 : Int)) (.pair (.int .i64 h) .unit)] = LS false [⟨0, h⟩] := fun _ => rfl
  simp only [f8_v, f8_t, Tree.run]
  rw [e0, e1, hn]
  simp only [e1, h2, h3, Tree.run, lf0, lfs, toInt_int, toBool_bool, toStr_str, xs_list, nil_list, fst_pair, snd_pair, List.length_map, Option.bind_some, nb_same, cond_true, cond_false, decide_true, decide_false]
  rfl
theorem cn_nd {l : List P} (h : ∀ x ∈ l, Cn (.pair .str (.pair (.slice (.pair (.int .i64) (.pair (.int .i64) .unit))) .unit)) x) : ∃ ds : List Nd, l = ds.map eN ∧ ∀ d ∈ ds, NdW d := by
  induction l with
  | nil => exact ⟨[], rfl, by simp⟩
  | cons x t ih =>
    obtain ⟨ds, rfl, h2⟩ := ih fun y hy => h y (by simp [hy])
    obtain ⟨a, b, rfl, ⟨s, rfl⟩, c, d, rfl, hc, rfl⟩ := h x (by simp)
    obtain ⟨n, xs, rfl, hz, hx⟩ := hc
    have : ∃ ls : List Sp, xs = ls.map eS := by
      clear hz h
      induction xs with
      | nil => exact ⟨[], rfl⟩
      | cons y u ih2 =>
        obtain ⟨ls, hls⟩ := ih2 fun z hz => hx z (by simp [hz])
        obtain ⟨a, b, rfl, ⟨i, rfl⟩, c, d, rfl, ⟨j, rfl⟩, rfl⟩ := hx y (by simp)
        exact ⟨⟨i, j⟩ :: ls, by rw [hls]; rfl⟩
    obtain ⟨ls, rfl⟩ := this
    refine ⟨⟨s, n, ls⟩ :: ds, rfl, fun d hd => ?_⟩
    rcases List.mem_cons.1 hd with rfl | hd
    · exact fun hn => by simpa using hz hn
    · exact h2 d hd
theorem cn_mf {p : P} (h : Cn (.pair .str (.pair (.slice (.pair (.int .i64) (.pair (.slice (.pair .str (.pair (.slice (.pair (.int .i64) (.pair (.int .i64) .unit))) .unit))) .unit))) .unit)) p) : ∃ m : Mf, p = eM m ∧ ∀ r ∈ m.rls, ∀ d ∈ r.nds, NdW d := by
  obtain ⟨a, b, rfl, ⟨s, rfl⟩, c, d, rfl, hc, rfl⟩ := h
  obtain ⟨n, xs, rfl, hz, hx⟩ := hc
  have : ∃ rs : List Rl, xs = rs.map eR ∧ ∀ r ∈ rs, ∀ d ∈ r.nds, NdW d := by
    clear hz
    induction xs with
    | nil => exact ⟨[], rfl, by simp⟩
    | cons y u ih =>
      obtain ⟨rs, rfl, h2⟩ := ih fun z hz => hx z (by simp [hz])
      obtain ⟨a, b, rfl, ⟨i, rfl⟩, c, d, rfl, hc, rfl⟩ := hx y (by simp)
      obtain ⟨n', ys, rfl, _, hy⟩ := hc
      obtain ⟨ds, rfl, h3⟩ := cn_nd hy
      refine ⟨⟨i, n', ds⟩ :: rs, rfl, fun r hr => ?_⟩
      rcases List.mem_cons.1 hr with rfl | hr
      · exact h3
      · exact h2 r hr
  obtain ⟨rs, rfl, h2⟩ := this
  exact ⟨⟨s, n, rs⟩, rfl, h2⟩
end Go.Proofs.Ytihenfpnilliiaa.Mn
