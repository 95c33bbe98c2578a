/- Sets of spans, as the document has them: Has, Union. Conditions: none but those each states. -/
import Derived.Test.YtihenfpnilliiaaSpAdd
set_option linter.unusedVariables false
set_option linter.unusedSimpArgs false
namespace Go.Proofs.Ytihenfpnilliiaa.Sp
open Go Go.Eng
theorem rhas_lp (n : Bool) (l : List S123) (p : Int) (hl : l.length ≤ 4611686018427387903) : ∀ d i : Nat, l.length - i = d → i ≤ l.length →
    ∃ y, Lp (d + 1) f45_s26 [L n l, I p, I i] y ∧ ((y = (1, []) ∧ mem (l.drop i) p = false) ∨ (y = (0, [.bool (decide (0 ≤ p) && decide (p < 1000000000))]) ∧ mem (l.drop i) p = true)) := by
  intro d
  induction d with
  | zero =>
    intro i hd hi
    rw [List.drop_eq_nil_of_le (by omega), mem_nil]
    refine ⟨(1, []), Lp.done fun K => ?_, .inl ⟨rfl, rfl⟩⟩
    simp only [f45_s26, Tree.run, Bool.cond_decide]
    simp only [Tree.run, lf0, lfs, toInt_int, toBool_bool, toStr_str, xs_list, nil_list, fst_pair, snd_pair, List.length_map, Option.bind_some, nb_same, cond_true, cond_false, decide_true, decide_false, eq_false (show ¬ (i : Int) < l.length by omega), if_false]
  | succ d ih =>
    intro i hd hi
    rw [drop_cons l i (by omega), mem_cons]
    have hil : i < l.length := by omega
    obtain ⟨y, hy, hc⟩ := ih (i + 1) (by omega) (by omega)
    by_cases h1 : (rd_T123 l i).f0 ≤ p
    · by_cases h2 : p < (rd_T123 l i).f1
      · refine ⟨_, Lp.done fun K => ?_, .inr ⟨rfl, by rw [decide_eq_true h1, decide_eq_true h2]; rfl⟩⟩
        simp only [f45_s26, Tree.run, Bool.cond_decide]
        simp only [Tree.run, lf0, lfs, toInt_int, toBool_bool, toStr_str, xs_list, nil_list, fst_pair, snd_pair, List.length_map, Option.bind_some, nb_same, cond_true, cond_false, decide_true, decide_false, eq_true (show (i : Int) < l.length by omega), if_true, inb_nat hil, Int.toNat_natCast, rd_enc hil, enc, eq_true h1, eq_true h2]
        by_cases h3 : p ≥ 0
        · simp only [eq_true h3, if_true, eq_true (show 0 ≤ p from h3), decide_true, Bool.true_and]
          rfl
        · simp only [eq_false h3, if_false, eq_false (show ¬ 0 ≤ p by omega), decide_false, Bool.false_and]
      · rw [decide_eq_false h2, Bool.and_false, Bool.false_or]
        refine ⟨y, Lp.next (fun K => ?_) hy, hc⟩
        simp only [f45_s26, Tree.run, Bool.cond_decide]
        simp only [Tree.run, lf0, lfs, toInt_int, toBool_bool, toStr_str, xs_list, nil_list, fst_pair, snd_pair, List.length_map, Option.bind_some, nb_same, cond_true, cond_false, decide_true, decide_false, eq_true (show (i : Int) < l.length by omega), if_true, inb_nat hil, Int.toNat_natCast, rd_enc hil, enc, eq_true h1, eq_false h2, if_false, wrap_succ i (by omega)]
    · rw [decide_eq_false h1, Bool.false_and, Bool.false_or]
      refine ⟨y, Lp.next (fun K => ?_) hy, hc⟩
      simp only [f45_s26, Tree.run, Bool.cond_decide]
      simp only [Tree.run, lf0, lfs, toInt_int, toBool_bool, toStr_str, xs_list, nil_list, fst_pair, snd_pair, List.length_map, Option.bind_some, nb_same, cond_true, cond_false, decide_true, decide_false, eq_true (show (i : Int) < l.length by omega), if_true, inb_nat hil, Int.toNat_natCast, rd_enc hil, enc, eq_false h1, if_false, wrap_succ i (by omega)]
theorem rhas_told (n : Bool) (l : List S123) (p : Int) (hl : l.length ≤ 4611686018427387903) : f45_v [L n l, I p] = some (0, [.bool (decide (0 ≤ p) && decide (p < 1000000000) && mem l p)]) := by
  obtain ⟨y, hy, hc⟩ := rhas_lp n l p hl l.length 0 (by omega) (by omega)
  have h' : loopT f45_s26 FUEL [L n l, I p, I 0] = some y := hy.fuel (by omega)
  simp only [f45_v, f45_t, Tree.run, Bool.cond_decide]
  simp only [Tree.run, lf0, lfs, toInt_int, toBool_bool, toStr_str, xs_list, nil_list, fst_pair, snd_pair, List.length_map, Option.bind_some, nb_same, cond_true, cond_false, decide_true, decide_false, h']
  rw [List.drop_zero] at hc
  rcases hc with ⟨rfl, hm⟩ | ⟨rfl, hm⟩
  · simp only [nb_lt 1 0 (by decide), Tree.run, lf0, lfs, toInt_int, toBool_bool, toStr_str, xs_list, nil_list, fst_pair, snd_pair, List.length_map, Option.bind_some, nb_same, cond_true, cond_false, decide_true, decide_false, hm, Bool.and_false]
  · simp only [Tree.run, lf0, lfs, toInt_int, toBool_bool, toStr_str, xs_list, nil_list, fst_pair, snd_pair, List.length_map, Option.bind_some, nb_same, cond_true, cond_false, decide_true, decide_false, hm, Bool.and_true]
def insR (p : Int) : List Int → List Int
  | [] => [p]
  | x :: t => if p ≤ x then (if p = x then x :: t else p :: x :: t) else x :: insR p t
def cl (p : Int) : Int := min (max p 0) 1000000000
theorem insR_len (p : Int) (l : List Int) : (insR p l).length ≤ l.length + 1 := by
  induction l with
  | nil => simp [insR]
  | cons x t ih => simp only [insR]; split <;> (try split) <;> simp only [List.length_cons] <;> omega
theorem insR_mem (p : Int) (l : List Int) (x : Int) : x ∈ insR p l ↔ x = p ∨ x ∈ l := by
  induction l with
  | nil => simp [insR]
  | cons y t ih =>
    simp only [insR]
    split
    · split
      · rename_i h; subst h; simp
      · simp
    · simp only [List.mem_cons, ih]
      constructor
      · rintro (h | h | h) <;> simp [h]
      · rintro (h | h | h) <;> simp [h]
theorem insR_sorted (p : Int) (l : List Int) (h : l.Pairwise (· < ·)) : (insR p l).Pairwise (· < ·) := by
  induction l with
  | nil => simp [insR]
  | cons y t ih =>
    have h1 : ∀ x, x ∈ t → y < x := fun x hx => List.rel_of_pairwise_cons h hx
    have h2 := List.Pairwise.of_cons h
    simp only [insR]
    split
    · split
      · exact h
      · refine List.pairwise_cons.2 ⟨fun x hx => ?_, h⟩
        rcases List.mem_cons.1 hx with rfl | hx
        · omega
        · have := h1 x hx; omega
    · refine List.pairwise_cons.2 ⟨fun x hx => ?_, ih h2⟩
      rcases (insR_mem p t x).1 hx with rfl | hx
      · omega
      · exact h1 x hx
def cutS (l : List Int) (s : S123) : List Int := insR (cl s.f1) (insR (cl s.f0) l)
def cutsR (a b : List S123) : List Int := b.foldl cutS (a.foldl cutS [0, 1000000000])
theorem cutS_len (l : List Int) (s : S123) : (cutS l s).length ≤ l.length + 2 := by
  have h1 := insR_len (cl s.f1) (insR (cl s.f0) l)
  have h2 := insR_len (cl s.f0) l
  unfold cutS; omega
theorem fold_len (a : List S123) : ∀ l, (a.foldl cutS l).length ≤ l.length + 2 * a.length := by
  induction a with
  | nil => intro l; simp
  | cons s t ih => intro l; have := ih (cutS l s); have := cutS_len l s; simp only [List.foldl_cons, List.length_cons]; omega
structure Rise (L : List Int) : Prop where
  sorted : L.Pairwise (· < ·)
  zero : 0 ∈ L
  top : 1000000000 ∈ L
  inside : ∀ x, x ∈ L → 0 ≤ x ∧ x ≤ 1000000000
theorem Rise.cut {L : List Int} (h : Rise L) (s : S123) : Rise (cutS L s) ∧ (∀ x, x ∈ L → x ∈ cutS L s) ∧ cl s.f0 ∈ cutS L s ∧ cl s.f1 ∈ cutS L s := by
  refine ⟨⟨insR_sorted _ _ (insR_sorted _ _ h.sorted), ?_, ?_, fun x hx => ?_⟩, fun x hx => ?_, ?_, ?_⟩
  · simp [cutS, insR_mem, h.zero]
  · simp [cutS, insR_mem, h.top]
  · simp only [cutS, insR_mem] at hx
    rcases hx with rfl | rfl | hx
    · unfold cl; omega
    · unfold cl; omega
    · exact h.inside x hx
  · simp [cutS, insR_mem, hx]
  · simp [cutS, insR_mem]
  · simp [cutS, insR_mem]
theorem Rise.fold (a : List S123) : ∀ L, Rise L → Rise (a.foldl cutS L) ∧ (∀ x, x ∈ L → x ∈ a.foldl cutS L) ∧ ∀ s, s ∈ a → cl s.f0 ∈ a.foldl cutS L ∧ cl s.f1 ∈ a.foldl cutS L := by
  induction a with
  | nil => intro L h; exact ⟨h, fun x hx => hx, by simp⟩
  | cons s t ih =>
    intro L h
    obtain ⟨c1, c2, c3, c4⟩ := h.cut s
    obtain ⟨i1, i2, i3⟩ := ih (cutS L s) c1
    refine ⟨i1, fun x hx => i2 x (c2 x hx), fun x hx => ?_⟩
    rcases List.mem_cons.1 hx with rfl | hx
    · exact ⟨i2 _ c3, i2 _ c4⟩
    · exact i3 x hx
theorem cuts_rise (a b : List S123) : Rise (cutsR a b) ∧ (∀ s, s ∈ a → cl s.f0 ∈ cutsR a b ∧ cl s.f1 ∈ cutsR a b) ∧ ∀ s, s ∈ b → cl s.f0 ∈ cutsR a b ∧ cl s.f1 ∈ cutsR a b := by
  have h0 : Rise [0, 1000000000] := ⟨by simp, by simp, by simp, by simp⟩
  obtain ⟨a1, a2, a3⟩ := Rise.fold a _ h0
  obtain ⟨b1, b2, b3⟩ := Rise.fold b _ a1
  exact ⟨b1, fun s hs => ⟨b2 _ (a3 s hs).1, b2 _ (a3 s hs).2⟩, b3⟩
theorem mem_same (l : List S123) (x y : Int) (hxy : y ≤ x) (h : ∀ s, s ∈ l → ¬ (y < s.f0 ∧ s.f0 ≤ x) ∧ ¬ (y < s.f1 ∧ s.f1 ≤ x)) : mem l x = mem l y := by
  induction l with
  | nil => rfl
  | cons s t ih =>
    rw [mem_cons, mem_cons, ih fun s' hs => h s' (by simp [hs])]
    have := h s (by simp)
    congr 1
    rw [Bool.eq_iff_iff]
    simp only [Bool.and_eq_true, decide_eq_true_eq]
    omega
theorem KInv.stepTo {K : Bool → Bool → Bool} {a b out : List S123} {at_ to_ : Int} (h : KInv K a b out at_) (h0 : 0 ≤ at_) (hlt : at_ < to_) (hle : to_ ≤ 1000000000) (same : ∀ x, at_ ≤ x → x < to_ → K (mem a x) (mem b x) = K (mem a at_) (mem b at_)) :
    KInv K a b (if K (mem a at_) (mem b at_) = true then addR out ⟨at_, to_⟩ else out) to_ := by
  split
  · rename_i hk
    have hu : Upto out (S123.mk at_ to_).f0 := h.upto
    refine ⟨(addR_upto hu h0 hlt hle).mono (Int.le_of_lt hlt), fun x hx => ?_, fun x hx hy => ?_⟩
    · rw [addR_mem hu, h.none_ x (by omega)]; simp only [Bool.false_or]; rw [decide_eq_false (p := x < _) (by show ¬ x < to_; omega), Bool.and_false]
    · rw [addR_mem hu]
      by_cases hc : x < at_
      · rw [h.some_ x hx hc, decide_eq_false (p := _ ≤ x) (by show ¬ at_ ≤ x; omega), Bool.false_and, Bool.or_false]
      · rw [h.none_ x (by omega), same x (by omega) hy, hk, decide_eq_true (p := _ ≤ x) (by show at_ ≤ x; omega), decide_eq_true (p := x < _) (by show x < to_; exact hy)]; rfl
  · rename_i hk
    refine ⟨h.upto.mono (Int.le_of_lt hlt), fun x hx => h.none_ x (by omega), fun x hx hy => ?_⟩
    by_cases hc : x < at_
    · exact h.some_ x hx hc
    · rw [h.none_ x (by omega), same x (by omega) hy]; simpa using hk
theorem KInv.lastHi {K : Bool → Bool → Bool} {a b i : List S123} {x : S123} {at_ : Int} (h : KInv K a b (i ++ [x]) at_) : x.f1 ≤ at_ := by
  obtain ⟨c1, c2, c3, c4⟩ := Chk_snoc.1 h.upto.chk
  refine Int.not_lt.1 fun hlt => ?_
  have := h.none_ (x.f1 - 1) (by omega)
  rw [mem_append, mem_one, decide_eq_true (by omega), decide_eq_true (p := _ < x.f1) (by omega)] at this
  simp at this
def Kref (op : Int) : Bool → Bool → Bool := fun x y => if op = 0 then x || y else if op = 1 then x && y else !x
theorem gap_none {L : List Int} (hs : L.Pairwise (· < ·)) (i : Nat) (hi : i + 1 < L.length) (z : Int) (hz : z ∈ L) : ¬ (L.getD i 0 < z ∧ z < L.getD (i + 1) 0) := by
  obtain ⟨j, hj, rfl⟩ := List.mem_iff_getElem.1 hz
  rw [List.getD_eq_getElem?_getD, List.getD_eq_getElem?_getD, List.getElem?_eq_getElem (by omega), List.getElem?_eq_getElem hi]
  simp only [Option.getD_some]
  rintro ⟨h1, h2⟩
  have hp := List.pairwise_iff_getElem.1 hs
  rcases Nat.lt_trichotomy j i with h | h | h
  · have := hp j i hj (by omega) h; omega
  · subst h; omega
  · rcases Nat.lt_or_ge (i + 1) j with h' | h'
    · have := hp (i + 1) j hi hj h'; omega
    · have : j = i + 1 := by omega
      subst this; omega
abbrev LI (n : Bool) (l : List Int) : P := .list n (l.map I)
def rdI (l : List Int) (i : Int) : Int := l.getD i.toNat 0
theorem rdI_nat (l : List Int) (i : Nat) : rdI l (i : Int) = l.getD i 0 := by unfold rdI; rw [Int.toNat_natCast]
theorem dropI_cons (l : List Int) (i : Nat) (h : i < l.length) : l.drop i = rdI l (i : Int) :: l.drop (i + 1) := by
  rw [rdI_nat, List.drop_eq_getElem_cons h, List.getD_eq_getElem?_getD, List.getElem?_eq_getElem h]; rfl
theorem rd_int {l : List Int} {i : Nat} (h : i < l.length) : rd (l.map I) i = I (rdI l (i : Int)) := by
  simp [rd, rdI, List.getD_eq_getElem?_getD, h]
theorem app_int (l : List Int) (x : Int) : l.map I ++ [I x] = (l ++ [x]).map I := by simp
theorem put_lp (n : Bool) (l : List Int) (q : Int) (hl : l.length ≤ 1000000000000) : ∀ d i : Nat, l.length - i = d → i ≤ l.length → ∀ (m : Bool) (out : List Int) (b : Bool), out.length ≤ i + (if b then 1 else 0) →
    ∃ m' b' out', Lp (d + 1) f88_s250 [LI n l, I q, .bool b, I i, LI m out] (0, [I q, .bool b', LI m' out']) ∧ out' ++ (if b' then [] else [q]) = out ++ (if b then l.drop i else insR q (l.drop i)) ∧ out'.length ≤ l.length + 1 := by
  intro d
  induction d with
  | zero =>
    intro i hd hi m out b ho
    rw [List.drop_eq_nil_of_le (by omega)]
    refine ⟨m, b, out, Lp.done fun K => ?_, by cases b <;> simp [insR], by split at ho <;> omega⟩
    simp only [f88_s250, Tree.run, Bool.cond_decide]
    simp only [Tree.run, lf0, lfs, toInt_int, toBool_bool, toStr_str, xs_list, nil_list, fst_pair, snd_pair, List.length_map, Option.bind_some, nb_same, cond_true, cond_false, decide_true, decide_false, eq_false (show ¬ (i : Int) < l.length by omega), if_false]
  | succ d ih =>
    intro i hd hi m out b ho
    rw [dropI_cons l i (by omega)]
    have hil : i < l.length := by omega
    have hol : out.length ≤ i + 1 := by split at ho <;> omega
    have hcap : (out.length + 1) * 8 ≤ 140737488355328 := by omega
    have w1 := wrap_succ i (by omega)
    cases b with
    | true =>
      obtain ⟨m', b', out', h1, h2, h3⟩ := ih (i + 1) (by omega) (by omega) (m && false) (out ++ [rdI l i]) true (by simp at ho ⊢; omega)
      refine ⟨m', b', out', Lp.next (fun K => ?_) h1, by rw [h2]; simp, h3⟩
      simp only [f88_s250, Tree.run, Bool.cond_decide]
      simp only [Tree.run, lf0, lfs, toInt_int, toBool_bool, toStr_str, xs_list, nil_list, fst_pair, snd_pair, List.length_map, Option.bind_some, nb_same, cond_true, cond_false, decide_true, decide_false, eq_true (show (i : Int) < l.length by omega), if_true, Bool.not_true, inb_nat hil, Int.toNat_natCast, rd_int hil, eq_true hcap, w1, app_int]
    | false =>
      simp only [Bool.false_eq_true, if_false, Nat.add_zero] at ho
      by_cases hq : q ≤ rdI l i
      · by_cases he : q = rdI l i
        · obtain ⟨m', b', out', h1, h2, h3⟩ := ih (i + 1) (by omega) (by omega) (m && false) (out ++ [q]) true (by simp; omega)
          refine ⟨m', b', out', Lp.next (fun K => ?_) h1, by rw [h2]; simp [insR, he], h3⟩
          have hb : (q == rdI l i) = true := by simp [he]
          simp only [f88_s250, Tree.run, Bool.cond_decide]
          simp only [Tree.run, lf0, lfs, toInt_int, toBool_bool, toStr_str, xs_list, nil_list, fst_pair, snd_pair, List.length_map, Option.bind_some, nb_same, cond_true, cond_false, decide_true, decide_false, eq_true (show (i : Int) < l.length by omega), if_true, Bool.not_false, inb_nat hil, Int.toNat_natCast, rd_int hil, eq_true hq, eq_true hcap, hb, w1, app_int]
        · obtain ⟨m', b', out', h1, h2, h3⟩ := ih (i + 1) (by omega) (by omega) ((m && false) && false) (out ++ [q] ++ [rdI l i]) true (by simp; omega)
          refine ⟨m', b', out', Lp.next (fun K => ?_) h1, by rw [h2]; simp [insR, he, hq], h3⟩
          have hb : (q == rdI l i) = false := by simp [he]
          have hcap2 : ((out ++ [q]).length + 1) * 8 ≤ 140737488355328 := by simp; omega
          simp only [f88_s250, Tree.run, Bool.cond_decide]
          simp only [Tree.run, lf0, lfs, toInt_int, toBool_bool, toStr_str, xs_list, nil_list, fst_pair, snd_pair, List.length_map, Option.bind_some, nb_same, cond_true, cond_false, decide_true, decide_false, eq_true (show (i : Int) < l.length by omega), if_true, Bool.not_false, inb_nat hil, Int.toNat_natCast, rd_int hil, eq_true hq, eq_true hcap, hb, w1, app_int, eq_true hcap2]
      · obtain ⟨m', b', out', h1, h2, h3⟩ := ih (i + 1) (by omega) (by omega) (m && false) (out ++ [rdI l i]) false (by simp; omega)
        refine ⟨m', b', out', Lp.next (fun K => ?_) h1, by rw [h2]; simp [insR, hq], h3⟩
        simp only [f88_s250, Tree.run, Bool.cond_decide]
        simp only [Tree.run, lf0, lfs, toInt_int, toBool_bool, toStr_str, xs_list, nil_list, fst_pair, snd_pair, List.length_map, Option.bind_some, nb_same, cond_true, cond_false, decide_true, decide_false, eq_true (show (i : Int) < l.length by omega), if_true, Bool.not_false, inb_nat hil, Int.toNat_natCast, rd_int hil, eq_false hq, if_false, eq_true hcap, w1, app_int]
theorem put_told (n : Bool) (l : List Int) (p : Int) (hl : l.length ≤ 1000000000000) : ∃ m, f88_v [LI n l, I p] = some (0, [LI m (insR (cl p) l)]) := by
  obtain ⟨m', b', out', h1, h2, h3⟩ := put_lp n l (cl p) hl l.length 0 (by omega) (by omega) true [] false (by simp)
  have h' : loopT f88_s250 FUEL [LI n l, I (cl p), .bool false, I 0, .list true []] = some (0, [I (cl p), .bool b', LI m' out']) := h1.fuel (by omega)
  have hc : mmx false (mmx true p 0) 1000000000 = cl p := by rw [mmx_max, mmx_min]; rfl
  simp only [List.nil_append, Bool.false_eq_true, if_false, List.drop_zero] at h2
  simp only [f88_v, f88_t, f88_s1, Tree.run, Bool.cond_decide]
  simp only [Tree.run, lf0, lfs, toInt_int, toBool_bool, toStr_str, xs_list, nil_list, fst_pair, snd_pair, List.length_map, Option.bind_some, nb_same, cond_true, cond_false, decide_true, decide_false, hc, h']
  cases b' with
  | true =>
    simp only [if_true, List.append_nil] at h2
    subst h2
    exact ⟨m', by simp only [Bool.not_true, Tree.run, lf0, lfs, toInt_int, toBool_bool, toStr_str, xs_list, nil_list, fst_pair, snd_pair, List.length_map, Option.bind_some, nb_same, cond_true, cond_false, decide_true, decide_false]⟩
  | false =>
    simp only [Bool.false_eq_true, if_false] at h2
    have hcap : (out'.length + 1) * 8 ≤ 140737488355328 := by omega
    exact ⟨m' && false, by simp only [Bool.not_false, Tree.run, lf0, lfs, toInt_int, toBool_bool, toStr_str, xs_list, nil_list, fst_pair, snd_pair, List.length_map, Option.bind_some, nb_same, cond_true, cond_false, decide_true, decide_false, eq_true hcap, if_true, app_int, h2]⟩
theorem cuts1_lp (n : Bool) (b : List S123) (hb : b.length ≤ 100000) : ∀ d i : Nat, b.length - i = d → i ≤ b.length → ∀ (m : Bool) (l : List Int), l.length ≤ 1000000 + 2 * i →
    ∃ m', Lp (d + 1) f66_s122 [L n b, I i, LI m l] (0, [LI m' ((b.drop i).foldl cutS l)]) := by
  intro d
  induction d with
  | zero =>
    intro i hd hi m l hl
    rw [List.drop_eq_nil_of_le (by omega)]
    refine ⟨m, Lp.done fun K => ?_⟩
    simp only [f66_s122, Tree.run, Bool.cond_decide]
    simp only [Tree.run, lf0, lfs, toInt_int, toBool_bool, toStr_str, xs_list, nil_list, fst_pair, snd_pair, List.length_map, Option.bind_some, nb_same, cond_true, cond_false, decide_true, decide_false, eq_false (show ¬ (i : Int) < b.length by omega), if_false, List.foldl_nil]
  | succ d ih =>
    intro i hd hi m l hl
    rw [drop_cons b i (by omega)]
    have hib : i < b.length := by omega
    have l1 := insR_len (cl (rd_T123 b i).f0) l
    have l2 := cutS_len l (rd_T123 b i)
    obtain ⟨m1, h1⟩ := put_told m l (rd_T123 b i).f0 (by omega)
    obtain ⟨m2, h2⟩ := put_told m1 (insR (cl (rd_T123 b i).f0) l) (rd_T123 b i).f1 (by omega)
    obtain ⟨m', h3⟩ := ih (i + 1) (by omega) (by omega) m2 (cutS l (rd_T123 b i)) (by omega)
    refine ⟨m', Lp.next (fun K => ?_) h3⟩
    simp only [f66_s122, Tree.run, Bool.cond_decide]
    simp only [Tree.run, lf0, lfs, toInt_int, toBool_bool, toStr_str, xs_list, nil_list, fst_pair, snd_pair, List.length_map, Option.bind_some, nb_same, cond_true, cond_false, decide_true, decide_false, eq_true (show (i : Int) < b.length by omega), if_true, inb_nat hib, Int.toNat_natCast, rd_enc hib, enc, h1, h2, wrap_succ i (by omega), cutS]
theorem cuts0_lp (n k : Bool) (a b : List S123) (ha : a.length ≤ 100000) : ∀ d i : Nat, a.length - i = d → i ≤ a.length → ∀ (m : Bool) (l : List Int), l.length ≤ 2 + 2 * i →
    ∃ m', Lp (d + 1) f66_s58 [L n a, L k b, I i, LI m l] (0, [L k b, LI m' ((a.drop i).foldl cutS l)]) := by
  intro d
  induction d with
  | zero =>
    intro i hd hi m l hl
    rw [List.drop_eq_nil_of_le (by omega)]
    refine ⟨m, Lp.done fun K => ?_⟩
    simp only [f66_s58, Tree.run, Bool.cond_decide]
    simp only [Tree.run, lf0, lfs, toInt_int, toBool_bool, toStr_str, xs_list, nil_list, fst_pair, snd_pair, List.length_map, Option.bind_some, nb_same, cond_true, cond_false, decide_true, decide_false, eq_false (show ¬ (i : Int) < a.length by omega), if_false, List.foldl_nil]
  | succ d ih =>
    intro i hd hi m l hl
    rw [drop_cons a i (by omega)]
    have hib : i < a.length := by omega
    have l1 := insR_len (cl (rd_T123 a i).f0) l
    have l2 := cutS_len l (rd_T123 a i)
    obtain ⟨m1, h1⟩ := put_told m l (rd_T123 a i).f0 (by omega)
    obtain ⟨m2, h2⟩ := put_told m1 (insR (cl (rd_T123 a i).f0) l) (rd_T123 a i).f1 (by omega)
    obtain ⟨m', h3⟩ := ih (i + 1) (by omega) (by omega) m2 (cutS l (rd_T123 a i)) (by omega)
    refine ⟨m', Lp.next (fun K => ?_) h3⟩
    simp only [f66_s58, Tree.run, Bool.cond_decide]
    simp only [Tree.run, lf0, lfs, toInt_int, toBool_bool, toStr_str, xs_list, nil_list, fst_pair, snd_pair, List.length_map, Option.bind_some, nb_same, cond_true, cond_false, decide_true, decide_false, eq_true (show (i : Int) < a.length by omega), if_true, inb_nat hib, Int.toNat_natCast, rd_enc hib, enc, h1, h2, wrap_succ i (by omega), cutS]
theorem cuts_told (n k : Bool) (a b : List S123) (ha : a.length ≤ 100000) (hb : b.length ≤ 100000) : ∃ m, f66_v [L n a, L k b] = some (0, [LI m (cutsR a b)]) := by
  obtain ⟨m1, h1⟩ := cuts0_lp n k a b ha a.length 0 (by omega) (by omega) false [0, 1000000000] (by simp)
  have hfl := fold_len a [0, 1000000000]
  simp only [List.length_cons, List.length_nil] at hfl
  obtain ⟨m2, h2⟩ := cuts1_lp k b hb b.length 0 (by omega) (by omega) m1 (a.foldl cutS [0, 1000000000]) (by omega)
  have h1' : loopT f66_s58 FUEL [L n a, L k b, I 0, .list false [I 0, I 1000000000]] = some (0, [L k b, LI m1 (a.foldl cutS [0, 1000000000])]) := h1.fuel (by omega)
  have h2' : loopT f66_s122 FUEL [L k b, I 0, LI m1 (a.foldl cutS [0, 1000000000])] = some (0, [LI m2 (b.foldl cutS (a.foldl cutS [0, 1000000000]))]) := h2.fuel (by omega)
  refine ⟨m2, ?_⟩
  simp only [f66_v, f66_t, Tree.run, Bool.cond_decide]
  simp only [Tree.run, lf0, lfs, toInt_int, toBool_bool, toStr_str, xs_list, nil_list, fst_pair, snd_pair, List.length_map, Option.bind_some, nb_same, cond_true, cond_false, decide_true, decide_false, h1', h2']
  rfl
theorem rtold_told (op : Int) (x y : Bool) : f67_v [I op, .bool x, .bool y] = some (0, [.bool (Kref op x y)]) := by
  simp only [f67_v, f67_t, Tree.run, Bool.cond_decide]
  simp only [Tree.run, lf0, lfs, toInt_int, toBool_bool, toStr_str, xs_list, nil_list, fst_pair, snd_pair, List.length_map, Option.bind_some, nb_same, cond_true, cond_false, decide_true, decide_false]
  unfold Kref
  by_cases h0 : op = 0
  · subst h0; cases x <;> cases y <;> rfl
  · have e0 : (op == 0) = false := by simp [h0]
    rw [if_neg h0]
    simp only [e0, Tree.run, lf0, lfs, toInt_int, toBool_bool, toStr_str, xs_list, nil_list, fst_pair, snd_pair, List.length_map, Option.bind_some, nb_same, cond_true, cond_false, decide_true, decide_false]
    by_cases h1 : op = 1
    · subst h1; cases x <;> cases y <;> rfl
    · have e1 : (op == 1) = false := by simp [h1]
      rw [if_neg h1]
      simp only [e1, Tree.run, lf0, lfs, toInt_int, toBool_bool, toStr_str, xs_list, nil_list, fst_pair, snd_pair, List.length_map, Option.bind_some, nb_same, cond_true, cond_false, decide_true, decide_false]
theorem do_told (n k : Bool) (op : Int) (a b : List S123) (ha : a.length ≤ 100000) (hb : b.length ≤ 100000) : ∃ q r, f60_v [I op, L n a, L k b] = some (0, [L q r]) ∧ IsKept (Kref op) a b r := by
  obtain ⟨c, hcut⟩ := cuts_told n k a b ha hb
  obtain ⟨hr, hca, hcb⟩ := cuts_rise a b
  have hlen : (cutsR a b).length ≤ 1000000 := by
    have h1 := fold_len a [0, 1000000000]
    have h2 := fold_len b (a.foldl cutS [0, 1000000000])
    simp only [List.length_cons, List.length_nil] at h1
    unfold cutsR; omega
  generalize hL : cutsR a b = C at hr hca hcb hlen hcut
  have hp := List.pairwise_iff_getElem.1 hr.sorted
  have hne : 0 < C.length := List.length_pos_of_mem hr.zero
  have hfirst : C.getD 0 0 = 0 := by
    obtain ⟨j, hj, h⟩ := List.mem_iff_getElem.1 hr.zero
    rw [List.getD_eq_getElem?_getD, List.getElem?_eq_getElem hne, Option.getD_some]
    have := (hr.inside _ (List.getElem_mem hne)).1
    rcases Nat.eq_zero_or_pos j with h' | h'
    · subst h'; exact h
    · have := hp 0 j hne hj h'; omega
  have hlast : C.getD (C.length - 1) 0 = 1000000000 := by
    obtain ⟨j, hj, h⟩ := List.mem_iff_getElem.1 hr.top
    rw [List.getD_eq_getElem?_getD, List.getElem?_eq_getElem (by omega), Option.getD_some]
    have := (hr.inside _ (List.getElem_mem (show C.length - 1 < C.length by omega))).2
    rcases Nat.lt_or_ge j (C.length - 1) with h' | h'
    · have := hp j (C.length - 1) hj (by omega) h'; omega
    · have : j = C.length - 1 := by omega
      subst this; exact h
  have hin : ∀ i, i < C.length → 0 ≤ C.getD i 0 ∧ C.getD i 0 ≤ 1000000000 := fun i hi => by
    rw [List.getD_eq_getElem?_getD, List.getElem?_eq_getElem hi]; exact hr.inside _ (List.getElem_mem hi)
  have same1 : ∀ (l : List S123), (∀ s, s ∈ l → cl s.f0 ∈ C ∧ cl s.f1 ∈ C) → ∀ i, i + 1 < C.length → ∀ x, C.getD i 0 ≤ x → x < C.getD (i + 1) 0 → mem l x = mem l (C.getD i 0) := fun l hl i hi x hx hy => by
    refine mem_same l x _ hx fun s hs => ?_
    obtain ⟨h1, h2⟩ := hl s hs
    have g1 := gap_none hr.sorted i hi _ h1
    have g2 := gap_none hr.sorted i hi _ h2
    have b1 := hin i (by omega)
    have b2 := hin (i + 1) hi
    unfold cl at g1 g2
    omega
  have loop : ∀ d i : Nat, C.length - 1 - i = d → i + 1 ≤ C.length → ∀ (m : Bool) (out : List S123), out.length ≤ i → KInv (Kref op) a b out (C.getD i 0) →
      ∃ q r, Lp (d + 1) f60_s122 [I op, L n a, L k b, I i, L m out, LI c C] (0, [L q r]) ∧ IsKept (Kref op) a b r := by
    intro d
    induction d with
    | zero =>
      intro i hd hi m out ho hk
      refine ⟨m, out, Lp.done fun K => ?_, hk.done ?_⟩
      · simp only [f60_s122, Tree.run, Bool.cond_decide]
        simp only [Tree.run, lf0, lfs, toInt_int, toBool_bool, toStr_str, xs_list, nil_list, fst_pair, snd_pair, List.length_map, Option.bind_some, nb_same, cond_true, cond_false, decide_true, decide_false, wrap_succ i (by omega), eq_false (show ¬ ((i + 1 : Nat) : Int) < C.length by omega), if_false]
      · rw [show i = C.length - 1 by omega, hlast]; omega
    | succ d ih =>
      intro i hd hi m out ho hk
      have hi1 : i + 1 < C.length := by omega
      have hi0 : i < C.length := by omega
      have b1 := hin i (by omega)
      have b2 := hin (i + 1) hi1
      have hlt : C.getD i 0 < C.getD (i + 1) 0 := by
        rw [List.getD_eq_getElem?_getD, List.getD_eq_getElem?_getD, List.getElem?_eq_getElem (by omega), List.getElem?_eq_getElem hi1]
        exact hp i (i + 1) (by omega) hi1 (by omega)
      have hs := hk.stepTo b1.1 hlt b2.2 fun x hx hy => by rw [same1 a hca i hi1 x hx hy, same1 b hcb i hi1 x hx hy]
      have q1 : C.length - 1 - (i + 1) = d := by omega
      have q2 : i + 1 + 1 ≤ C.length := by omega
      have hda : f45_v [L n a, I (C.getD i 0)] = some (0, [.bool (mem a (C.getD i 0))]) := by
        rw [rhas_told n a _ (by omega), decide_eq_true b1.1, decide_eq_true (by omega)]; rfl
      have hdb : f45_v [L k b, I (C.getD i 0)] = some (0, [.bool (mem b (C.getD i 0))]) := by
        rw [rhas_told k b _ (by omega), decide_eq_true b1.1, decide_eq_true (by omega)]; rfl
      have e1 : rdI C (i : Int) = C.getD i 0 := rdI_nat C i
      have e2 : rdI C ((i + 1 : Nat) : Int) = C.getD (i + 1) 0 := rdI_nat C (i + 1)
      have hcap : (out.length + 1) * 16 ≤ 140737488355328 := by omega
      by_cases hc : Kref op (mem a (C.getD i 0)) (mem b (C.getD i 0)) = true
      · rw [if_pos hc] at hs
        rcases snoc_cases out with rfl | ⟨o, x, rfl⟩
        · obtain ⟨q, r, he, hk'⟩ := ih (i + 1) q1 q2 (m && false) _ (by simp [addR]) hs
          refine ⟨q, r, Lp.next (fun K => ?_) he, hk'⟩
          simp only [f60_s122, Tree.run, Bool.cond_decide]
          simp only [Tree.run, lf0, lfs, toInt_int, toBool_bool, toStr_str, xs_list, nil_list, fst_pair, snd_pair, List.length_map, Option.bind_some, nb_same, cond_true, cond_false, decide_true, decide_false, wrap_succ i (by omega), eq_true (show ((i + 1 : Nat) : Int) < C.length by omega), if_true, inb_nat hi0, Int.toNat_natCast, rd_int hi0, e1, hda, hdb, rtold_told, hc, Bool.not_true, List.length_nil, wrap_of (x := ((0 : Nat) : Int) - 1) (by omega) (by omega), eq_false (show ¬ ((0 : Nat) : Int) - 1 ≥ 0 by omega), if_false, inb_nat hi1, rd_int hi1, e2, eq_true (show (0 + 1) * 16 ≤ 140737488355328 by omega), List.map_nil, List.nil_append]
          rfl
        · have hx := hk.lastHi
          have hl1 : ((o ++ [x]).length : Int) - 1 = (o.length : Int) := by simp
          have hlo : (o ++ [x]).length = o.length + 1 := by simp
          have hlt' : o.length < (o ++ [x]).length := by omega
          have hrd : rd_T123 (o ++ [x]) (o.length : Int) = x := by rw [rd_nat]; simp
          by_cases hxe : x.f1 = C.getD i 0
          · rw [addR_snoc, if_pos (show C.getD i 0 ≤ x.f1 by omega), show max x.f1 (C.getD (i + 1) 0) = C.getD (i + 1) 0 by omega] at hs
            obtain ⟨q, r, he, hk'⟩ := ih (i + 1) q1 q2 m _ (by simp at ho ⊢; omega) hs
            refine ⟨q, r, Lp.next (fun K => ?_) he, hk'⟩
            have hb : (x.f1 == C.getD i 0) = true := beq_iff_eq.2 hxe
            simp only [f60_s122, Tree.run, Bool.cond_decide]
            simp only [Tree.run, lf0, lfs, toInt_int, toBool_bool, toStr_str, xs_list, nil_list, fst_pair, snd_pair, List.length_map, Option.bind_some, nb_same, cond_true, cond_false, decide_true, decide_false, wrap_succ i (by omega), eq_true (show ((i + 1 : Nat) : Int) < C.length by omega), if_true, inb_nat hi0, Int.toNat_natCast, rd_int hi0, e1, hda, hdb, rtold_told, hc, Bool.not_true, hl1, wrap_of (x := (o.length : Int)) (by omega) (by omega), eq_true (show (o.length : Int) ≥ 0 by omega), inb_nat hlt', rd_enc hlt', hrd, enc, hb, inb_nat hi1, rd_int hi1, e2]
            simp only [L, List.map_append, List.map_cons, List.map_nil, enc]
            rw [show o.length = (o.map enc).length by simp, set_last]
          · rw [addR_snoc, if_neg (show ¬ C.getD i 0 ≤ x.f1 by omega)] at hs
            obtain ⟨q, r, he, hk'⟩ := ih (i + 1) q1 q2 (m && false) _ (by simp at ho ⊢; omega) hs
            refine ⟨q, r, Lp.next (fun K => ?_) he, hk'⟩
            have hb : (x.f1 == C.getD i 0) = false := beq_eq_false_iff_ne.2 hxe
            simp only [f60_s122, Tree.run, Bool.cond_decide]
            simp only [Tree.run, lf0, lfs, toInt_int, toBool_bool, toStr_str, xs_list, nil_list, fst_pair, snd_pair, List.length_map, Option.bind_some, nb_same, cond_true, cond_false, decide_true, decide_false, wrap_succ i (by omega), eq_true (show ((i + 1 : Nat) : Int) < C.length by omega), if_true, inb_nat hi0, Int.toNat_natCast, rd_int hi0, e1, hda, hdb, rtold_told, hc, Bool.not_true, hl1, wrap_of (x := (o.length : Int)) (by omega) (by omega), eq_true (show (o.length : Int) ≥ 0 by omega), inb_nat hlt', rd_enc hlt', hrd, enc, hb, inb_nat hi1, rd_int hi1, e2, eq_true hcap]
            simp only [L, List.map_append, List.map_cons, List.map_nil, enc]
      · rw [if_neg hc] at hs
        obtain ⟨q, r, he, hk'⟩ := ih (i + 1) q1 q2 m _ (by omega) hs
        refine ⟨q, r, Lp.next (fun K => ?_) he, hk'⟩
        have hc : Kref op (mem a (C.getD i 0)) (mem b (C.getD i 0)) = false := by simpa using hc
        simp only [f60_s122, Tree.run, Bool.cond_decide]
        simp only [Tree.run, lf0, lfs, toInt_int, toBool_bool, toStr_str, xs_list, nil_list, fst_pair, snd_pair, List.length_map, Option.bind_some, nb_same, cond_true, cond_false, decide_true, decide_false, wrap_succ i (by omega), eq_true (show ((i + 1 : Nat) : Int) < C.length by omega), if_true, inb_nat hi0, Int.toNat_natCast, rd_int hi0, e1, hda, hdb, rtold_told, hc, Bool.not_false]
  obtain ⟨q, r, he, hk⟩ := loop (C.length - 1) 0 rfl (by omega) true [] (by simp) (by rw [hfirst]; exact KInv.start _ _ _)
  refine ⟨q, r, ?_, hk⟩
  have he' : loopT f60_s122 FUEL [I op, L n a, L k b, I 0, .list true [], LI c C] = some (0, [L q r]) := he.fuel (by omega)
  simp only [f60_v, f60_t, Tree.run, Bool.cond_decide]
  simp only [Tree.run, lf0, lfs, toInt_int, toBool_bool, toStr_str, xs_list, nil_list, fst_pair, snd_pair, List.length_map, Option.bind_some, nb_same, cond_true, cond_false, decide_true, decide_false, hcut, he']
theorem runion_told (n m : Bool) (a b : List S123) (ha : a.length ≤ 100000) (hb : b.length ≤ 100000) : ∃ q r, f41_v [L n a, L m b] = some (0, [L q r]) ∧ IsKept KUnion a b r := by
  obtain ⟨q, r, h, hk⟩ := do_told n m 0 a b ha hb
  refine ⟨q, r, ?_, hk⟩
  simp only [f41_v, f41_t, Tree.run, Bool.cond_decide]
  simp only [Tree.run, lf0, lfs, toInt_int, toBool_bool, toStr_str, xs_list, nil_list, fst_pair, snd_pair, List.length_map, Option.bind_some, nb_same, cond_true, cond_false, decide_true, decide_false, h]
end Go.Proofs.Ytihenfpnilliiaa.Sp
