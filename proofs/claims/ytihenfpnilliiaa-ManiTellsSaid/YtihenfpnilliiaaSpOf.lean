/- Sets of spans: what Of tells. Conditions: none but those each states. -/
import Derived.Test.YtihenfpnilliiaaSpAdd
set_option linter.unusedVariables false
set_option linter.unusedSimpArgs false
namespace Go.Proofs.Ytihenfpnilliiaa.Sp
open Go Go.Eng Go.Sort
structure IsSet (f : Int → Bool) (r : List S123) : Prop where
  chk : Chk (-1) r
  mem_ : ∀ p, mem r p = (decide (0 ≤ p) && decide (p < 1000000000) && f p)
theorem IsKept.set {K : Bool → Bool → Bool} {a b r : List S123} (h : IsKept K a b r) : IsSet (fun p => K (mem a p) (mem b p)) r := ⟨h.chk, h.mem_⟩
theorem IsSet.unique {f : Int → Bool} {r r' : List S123} (h : IsSet f r) (h' : IsSet f r') : r = r' := h.chk.canon h'.chk fun p => by rw [h.mem_, h'.mem_]
theorem IsSet.congr {f g : Int → Bool} {r : List S123} (h : IsSet f r) (hfg : ∀ p, 0 ≤ p → p < 1000000000 → f p = g p) : IsSet g r := ⟨h.chk, fun p => by
  rw [h.mem_]
  by_cases h0 : 0 ≤ p
  · by_cases h1 : p < 1000000000
    · rw [hfg p h0 h1]
    · simp [h1]
  · simp [h0]⟩
theorem IsSet.self {a : List S123} (h : Chk (-1) a) : IsSet (mem a) a := ⟨h, fun p => by
  by_cases h0 : 0 ≤ p
  · by_cases h1 : p < 1000000000
    · simp [h0, h1]
    · rw [mem_high h (by omega)]; simp
  · rw [mem_low h (by omega)]; simp⟩
def clampS (s : S123) : S123 := ⟨max s.f0 0, min s.f1 1000000000⟩
def heldR : List S123 → List S123
  | [] => []
  | s :: t => if (clampS s).f0 < (clampS s).f1 then clampS s :: heldR t else heldR t
theorem heldR_mem (l : List S123) (p : Int) : mem (heldR l) p = (decide (0 ≤ p) && decide (p < 1000000000) && mem l p) := by
  induction l with
  | nil => simp [heldR, mem_nil]
  | cons s t ih =>
    simp only [heldR]
    split
    · rename_i hn
      have e1 : (decide ((clampS s).f0 ≤ p) && decide (p < (clampS s).f1)) = true ↔ (max s.f0 0 ≤ p ∧ p < min s.f1 1000000000) := by
        rw [Bool.and_eq_true, decide_eq_true_eq, decide_eq_true_eq]; rfl
      rw [mem_cons, ih, mem_cons, Bool.eq_iff_iff, Bool.or_eq_true, e1]
      simp only [Bool.or_eq_true, Bool.and_eq_true, decide_eq_true_eq]
      constructor
      · rintro (h | h)
        · exact ⟨⟨by omega, by omega⟩, .inl ⟨by omega, by omega⟩⟩
        · exact ⟨h.1, .inr h.2⟩
      · rintro ⟨h, h1 | h2⟩
        · exact .inl ⟨by omega, by omega⟩
        · exact .inr ⟨h, h2⟩
    · rename_i hn
      rw [ih, mem_cons, Bool.eq_iff_iff]
      simp only [clampS] at hn
      simp only [Bool.or_eq_true, Bool.and_eq_true, decide_eq_true_eq]
      constructor
      · rintro ⟨h, h1⟩
        exact ⟨h, .inr h1⟩
      · rintro ⟨h, h1 | h2⟩
        · omega
        · exact ⟨h, h2⟩
def Fit1 (s : S123) : Prop := 0 ≤ s.f0 ∧ s.f0 < s.f1 ∧ s.f1 ≤ 1000000000
theorem heldR_fit (l : List S123) : ∀ s, s ∈ heldR l → Fit1 s := by
  induction l with
  | nil => intro s h; simp [heldR] at h
  | cons a t ih =>
    intro s h
    simp only [heldR] at h
    split at h
    · rename_i hl
      rcases List.mem_cons.1 h with rfl | h
      · unfold Fit1
        simp only [clampS] at hl ⊢
        omega
      · exact ih s h
    · exact ih s h
theorem heldR_len (l : List S123) : (heldR l).length ≤ l.length := by
  induction l with
  | nil => exact Nat.le_refl _
  | cons a t ih => simp only [heldR]; split <;> simp only [List.length_cons] <;> omega
def addAll : List S123 → List S123 → List S123
  | out, [] => out
  | out, s :: t => addAll (addR out s) t
theorem addAll_set : ∀ (l out : List S123) (a : Int), Upto out a → (∀ s, s ∈ l → a ≤ s.f0) → l.Pairwise (fun x y => x.f0 ≤ y.f0) → (∀ s, s ∈ l → Fit1 s) →
    Chk (-1) (addAll out l) ∧ ∀ p, mem (addAll out l) p = (mem out p || mem l p)
  | [], out, a, hu, _, _, _ => ⟨hu.chk, fun p => by simp [addAll, mem_nil]⟩
  | s :: t, out, a, hu, ha, hp, hf => by
    have hs := hf s (by simp)
    have hu' : Upto out s.f0 := hu.mono (ha s (by simp))
    obtain ⟨h1, h2⟩ := addAll_set t (addR out s) s.f0 (addR_upto hu' hs.1 hs.2.1 hs.2.2) (fun x hx => List.rel_of_pairwise_cons hp hx) (List.Pairwise.of_cons hp) (fun x hx => hf x (by simp [hx]))
    exact ⟨h1, fun p => by rw [addAll, h2, addR_mem hu', mem_cons, Bool.or_assoc]⟩
theorem canon_enc (s : S123) : canon (.pair (.int .i64) (.pair (.int .i64) .unit)) (enc s) = enc s := rfl
theorem ltcf_enc (x y : S123) : ltOf sort49_50_cf (enc x) (enc y) = decide (x.f0 < y.f0) := by rw [cf_lt]; rfl
theorem enc_f0 (s : S123) : (enc s).fst.toInt = s.f0 := rfl
theorem sort_told (l : List S123) (hl : l.length < 4611686018427387904) (n : Bool) (c : P) : ∃ r : List S123, sort49_50_v [L n l, c] = some (0, [L n r]) ∧ r.Perm l ∧ r.Pairwise (fun x y => x.f0 ≤ y.f0) := by
  have hs := pdq_sorts (ltOf sort49_50_cf) sort49_50_swo (l.map enc).toArray 0 (l.map enc).toArray.size (Go.Lib.bitLen (l.map enc).length) true true (Nat.zero_le _) (Nat.le_refl _) (Or.inl rfl)
  obtain ⟨⟨h1, _, h2⟩, h3⟩ := hs
  have hsz : (l.map enc).toArray.size = l.length := by simp
  have hper : (sorted sort49_50_cf (l.map enc)).Perm (l.map enc) := by
    unfold sorted
    have hsz2 : (l.map enc).toArray.size = (l.map enc).length := by simp
    rw [hsz2] at h1 h2 
    generalize pdq (ltOf sort49_50_cf) (l.map enc).toArray 0 (l.map enc).length (Lib.bitLen (l.map enc).length) true true = A at h1 h2 ⊢
    rw [Array.extract_eq_self_of_le (by omega), Array.extract_eq_self_of_le (by simp)] at h2
    exact h2
  have hpw : (sorted sort49_50_cf (l.map enc)).Pairwise (fun x y => x.fst.toInt ≤ y.fst.toInt) := by
    unfold sorted
    have hsz2 : (l.map enc).toArray.size = (l.map enc).length := by simp
    rw [hsz2] at h1 h3
    generalize pdq (ltOf sort49_50_cf) (l.map enc).toArray 0 (l.map enc).length (Lib.bitLen (l.map enc).length) true true = A at h1 h3 ⊢
    rw [List.pairwise_iff_getElem]
    intro i j hi hj hij
    simp only [Array.length_toList] at hi hj
    have := h3 i j (Nat.zero_le _) hij (by omega)
    rw [getElem!_pos A j hj, getElem!_pos A i hi, cf_lt] at this
    simpa using this
  have hex : ∃ r : List S123, sorted sort49_50_cf (l.map enc) = r.map enc := by
    generalize sorted sort49_50_cf (l.map enc) = Q at hper
    have hmem : ∀ x ∈ Q, ∃ s, x = enc s := fun x hx => by
      obtain ⟨s, _, rfl⟩ := List.mem_map.1 (hper.mem_iff.1 hx); exact ⟨s, rfl⟩
    clear hper h1 h2 h3
    induction Q with
    | nil => exact ⟨[], rfl⟩
    | cons x t ih =>
      obtain ⟨s, rfl⟩ := hmem x (by simp)
      obtain ⟨r, rfl⟩ := ih fun y hy => hmem y (by simp [hy])
      exact ⟨s :: r, rfl⟩
  obtain ⟨r, hr⟩ := hex
  refine ⟨r, ?_, ?_, ?_⟩
  · show sort49_50_v [.list n (l.map enc), c] = some (0, [.list n (r.map enc)])
    rw [← hr]
    show (if (l.map enc).length < 4611686018427387904 then some (0, [P.list n (sorted sort49_50_cf (l.map enc))]) else none) = _
    rw [if_pos (by simpa using hl)]
  · rw [hr] at hper
    have hg : ∀ l : List S123, (l.map enc).map (fun p : P => (⟨p.fst.toInt, p.snd.fst.toInt⟩ : S123)) = l := fun l => by
      induction l with
      | nil => rfl
      | cons a t ih => rw [List.map_cons, List.map_cons, ih]; rfl
    have := hper.map (fun p : P => (⟨p.fst.toInt, p.snd.fst.toInt⟩ : S123))
    rw [hg, hg] at this
    exact this
  · rw [hr, List.pairwise_map] at hpw; exact hpw
theorem of1_lp (n : Bool) (l : List S123) (hL : l.length ≤ 1000000000000) : ∀ d i : Nat, l.length - i = d → i ≤ l.length → ∀ (m : Bool) (out : List S123), out.length ≤ i →
    ∃ q, Lp (d + 1) f33_s506 [I (l.length : Int), I i, L m out, L n l] (0, [L q (addAll out (l.drop i))]) := by
  intro d
  induction d with
  | zero =>
    intro i hd hi m out ho
    rw [List.drop_eq_nil_of_le (by omega)]
    refine ⟨m, Lp.done fun K => ?_⟩
    simp only [f33_s506, Tree.run, Bool.cond_decide]
    simp only [Tree.run, lf0, lfs, toInt_int, toBool_bool, toStr_str, xs_list, nil_list, fst_pair, snd_pair, List.length_map, Option.bind_some, nb_same, cond_true, cond_false, decide_true, decide_false, eq_false (show ¬ (i : Int) < l.length by omega), if_false, addAll]
  | succ d ih =>
    intro i hd hi m out ho
    have hi' : i < l.length := by omega
    have hlen : (addR out (rd_T123 l i)).length ≤ i + 1 := by
      rcases snoc_cases out with rfl | ⟨o, x, rfl⟩
      · simp [addR]
      · rw [addR_snoc]; split <;> simp at ho ⊢ <;> omega
    obtain ⟨k, hk⟩ := add_told m out (rd_T123 l i) (by omega)
    obtain ⟨q, he⟩ := ih (i + 1) (by omega) (by omega) k (addR out (rd_T123 l i)) hlen
    rw [drop_cons l i hi']
    refine ⟨q, Lp.next (fun K => ?_) he⟩
    simp only [f33_s506, Tree.run, Bool.cond_decide]
    simp only [Tree.run, lf0, lfs, toInt_int, toBool_bool, toStr_str, xs_list, nil_list, fst_pair, snd_pair, List.length_map, Option.bind_some, nb_same, cond_true, cond_false, decide_true, decide_false, eq_true (show (i : Int) < l.length by omega), if_true, inb_nat hi', Int.toNat_natCast, rd_enc hi', hk, wrap_succ i (by omega)]
theorem of_told (n : Bool) (l : List S123) (hl : l.length ≤ 1000000000000) : ∃ q r, f33_v [L n l] = some (0, [L q r]) ∧ IsSet (mem l) r := by
  have loop : ∀ d i : Nat, l.length - i = d → i ≤ l.length → ∀ (m : Bool) (out : List S123), out.length ≤ i → out ++ heldR (l.drop i) = heldR l →
      ∃ q, Lp (d + 1) f33_s58 [L n l, I (l.length : Int), I i, L m out] (0, [L q (heldR l)]) := by
    intro d
    induction d with
    | zero =>
      intro i hd hi m out ho he
      rw [List.drop_eq_nil_of_le (by omega), heldR, List.append_nil] at he
      subst he
      refine ⟨m, Lp.done fun K => ?_⟩
      simp only [f33_s58, Tree.run, Bool.cond_decide]
      simp only [Tree.run, lf0, lfs, toInt_int, toBool_bool, toStr_str, xs_list, nil_list, fst_pair, snd_pair, List.length_map, Option.bind_some, nb_same, cond_true, cond_false, decide_true, decide_false, eq_false (show ¬ (i : Int) < l.length by omega), if_false]
    | succ d ih =>
      intro i hd hi m out ho he
      have hi' : i < l.length := by omega
      rw [drop_cons l i hi'] at he
      simp only [heldR] at he
      by_cases hc : (clampS (rd_T123 l i)).f0 < (clampS (rd_T123 l i)).f1
      · rw [if_pos hc] at he
        obtain ⟨q, h⟩ := ih (i + 1) (by omega) (by omega) (m && false) (out ++ [clampS (rd_T123 l i)]) (by simp; omega) (by rw [← he]; simp)
        refine ⟨q, Lp.next (fun K => ?_) h⟩
        have hc' : max (rd_T123 l i).f0 0 < min (rd_T123 l i).f1 1000000000 := hc
        simp only [f33_s58, Tree.run, Bool.cond_decide]
        simp only [Tree.run, lf0, lfs, toInt_int, toBool_bool, toStr_str, xs_list, nil_list, fst_pair, snd_pair, List.length_map, Option.bind_some, nb_same, cond_true, cond_false, decide_true, decide_false, eq_true (show (i : Int) < l.length by omega), if_true, inb_nat hi', Int.toNat_natCast, rd_enc hi', enc, mmx_max, mmx_min, eq_true hc', wrap_succ i (by omega), eq_true (show (out.length + 1) * 16 ≤ 140737488355328 by omega), clampS]
        simp only [L, List.map_append, List.map_cons, List.map_nil, enc]
      · rw [if_neg hc] at he
        obtain ⟨q, h⟩ := ih (i + 1) (by omega) (by omega) m out (by omega) he
        refine ⟨q, Lp.next (fun K => ?_) h⟩
        have hc' : ¬ max (rd_T123 l i).f0 0 < min (rd_T123 l i).f1 1000000000 := hc
        simp only [f33_s58, Tree.run, Bool.cond_decide]
        simp only [Tree.run, lf0, lfs, toInt_int, toBool_bool, toStr_str, xs_list, nil_list, fst_pair, snd_pair, List.length_map, Option.bind_some, nb_same, cond_true, cond_false, decide_true, decide_false, eq_true (show (i : Int) < l.length by omega), if_true, inb_nat hi', Int.toNat_natCast, rd_enc hi', enc, mmx_max, mmx_min, eq_false hc', if_false, wrap_succ i (by omega)]
  obtain ⟨q, h⟩ := loop l.length 0 rfl (by omega) true [] (by simp) (by simp)
  have h' : loopT f33_s58 FUEL [L n l, I (l.length : Int), I 0, .list true []] = some (0, [L q (heldR l)]) := h.fuel (by omega)
  have hlen := heldR_len l
  obtain ⟨r, hr, hperm, hpair⟩ := sort_told (heldR l) (by omega) q .unit
  have hfit : ∀ s, s ∈ r → Fit1 s := fun s hs => heldR_fit l s (hperm.mem_iff.1 hs)
  obtain ⟨hc, hm⟩ := addAll_set r [] 0 (Upto.nil 0) (fun s hs => (hfit s hs).1) hpair hfit
  have hrl : r.length = (heldR l).length := hperm.length_eq
  obtain ⟨k, he⟩ := of1_lp q r (by omega) r.length 0 rfl (by omega) true [] (by simp)
  have he' : loopT f33_s506 FUEL [I (r.length : Int), I 0, .list true [], L q r] = some (0, [L k (addAll [] r)]) := by
    have := he.fuel (by omega); rw [List.drop_zero] at this; exact this
  refine ⟨k, addAll [] r, ?_, hc, fun p => by rw [hm, mem_nil, Bool.false_or, mem_perm hperm, heldR_mem]⟩
  simp only [f33_v, f33_t, Tree.run, Bool.cond_decide]
  simp only [Tree.run, lf0, lfs, toInt_int, toBool_bool, toStr_str, xs_list, nil_list, fst_pair, snd_pair, List.length_map, Option.bind_some, nb_same, cond_true, cond_false, decide_true, decide_false, h', hr, he']
end Go.Proofs.Ytihenfpnilliiaa.Sp
