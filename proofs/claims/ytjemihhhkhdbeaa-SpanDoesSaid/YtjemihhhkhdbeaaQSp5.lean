/- What the document's own sets of spans tell. Conditions: none but those each states. -/
import Derived.Test.YtjemihhhkhdbeaaQSp4
set_option linter.unusedVariables false
set_option linter.unusedSimpArgs false
namespace Go.Proofs.Ytjemihhhkhdbeaa.Sp
open Go Go.Eng
theorem rtold_told (op : Int) (x y : Bool) : f187_v [I op, .bool x, .bool y] = some (0, [.bool (Kref op x y)]) := by
  simp only [f187_v, f187_t, Tree.run, Bool.cond_decide]
  simp only [Tree.run, lf0, lfs, toInt_int, toBool_bool, toStr_str, xs_list, nil_list, fst_pair, snd_pair, List.length_map, Option.bind_some, nb_same, cond_true, cond_false]
  unfold Kref
  by_cases h0 : op = 0
  · subst h0; cases x <;> cases y <;> rfl
  · have e0 : (op == 0) = false := by simp [h0]
    rw [if_neg h0]
    simp only [e0, Tree.run, lf0, lfs, toInt_int, toBool_bool, toStr_str, xs_list, nil_list, fst_pair, snd_pair, List.length_map, Option.bind_some, nb_same, cond_true, cond_false]
    by_cases h1 : op = 1
    · subst h1; cases x <;> cases y <;> rfl
    · have e1 : (op == 1) = false := by simp [h1]
      rw [if_neg h1]
      simp only [e1, Tree.run, lf0, lfs, toInt_int, toBool_bool, toStr_str, xs_list, nil_list, fst_pair, snd_pair, List.length_map, Option.bind_some, nb_same, cond_true, cond_false]
theorem do_told (n k : Bool) (op : Int) (a b : List S123) (ha : a.length ≤ 100000) (hb : b.length ≤ 100000) : ∃ q r, f158_v [I op, L n a, L k b] = some (0, [L q r]) ∧ IsKept (Kref op) a b r := by
  obtain ⟨c, hcut⟩ := cuts_told n k a b ha hb
  obtain ⟨hr, hca, hcb⟩ := cuts_rise a b
  have hlen : (cutsR a b).length ≤ 1000000 := by
    have h1 := fold_len a [0, 1000000000]
    have h2 := fold_len b (a.foldl cutS [0, 1000000000])
    simp only [List.length_cons, List.length_nil] at h1
    unfold cutsR; omega
  generalize hL : cutsR a b = C at hr hca hcb hlen hcut
  have hp := List.pairwise_iff_getElem.1 hr.sorted
  have hne : 0 < C.length := List.length_pos_of_mem hr.zero
  have hfirst : C.getD 0 0 = 0 := by
    obtain ⟨j, hj, h⟩ := List.mem_iff_getElem.1 hr.zero
    rw [List.getD_eq_getElem?_getD, List.getElem?_eq_getElem hne, Option.getD_some]
    have := (hr.inside _ (List.getElem_mem hne)).1
    rcases Nat.eq_zero_or_pos j with h' | h'
    · subst h'; exact h
    · have := hp 0 j hne hj h'; omega
  have hlast : C.getD (C.length - 1) 0 = 1000000000 := by
    obtain ⟨j, hj, h⟩ := List.mem_iff_getElem.1 hr.top
    rw [List.getD_eq_getElem?_getD, List.getElem?_eq_getElem (by omega), Option.getD_some]
    have := (hr.inside _ (List.getElem_mem (show C.length - 1 < C.length by omega))).2
    rcases Nat.lt_or_ge j (C.length - 1) with h' | h'
    · have := hp j (C.length - 1) hj (by omega) h'; omega
    · have : j = C.length - 1 := by omega
      subst this; exact h
  have hin : ∀ i, i < C.length → 0 ≤ C.getD i 0 ∧ C.getD i 0 ≤ 1000000000 := fun i hi => by
    rw [List.getD_eq_getElem?_getD, List.getElem?_eq_getElem hi]; exact hr.inside _ (List.getElem_mem hi)
  have same1 : ∀ (l : List S123), (∀ s, s ∈ l → cl s.f0 ∈ C ∧ cl s.f1 ∈ C) → ∀ i, i + 1 < C.length → ∀ x, C.getD i 0 ≤ x → x < C.getD (i + 1) 0 → mem l x = mem l (C.getD i 0) := fun l hl i hi x hx hy => by
    refine mem_same l x _ hx fun s hs => ?_
    obtain ⟨h1, h2⟩ := hl s hs
    have g1 := gap_none hr.sorted i hi _ h1
    have g2 := gap_none hr.sorted i hi _ h2
    have b1 := hin i (by omega)
    have b2 := hin (i + 1) hi
    unfold cl at g1 g2
    omega
  have loop : ∀ d i : Nat, C.length - 1 - i = d → i + 1 ≤ C.length → ∀ (m : Bool) (out : List S123), out.length ≤ i → KInv (Kref op) a b out (C.getD i 0) →
      ∃ q r, Lp (d + 1) f158_s122 [I op, L n a, L k b, LI c C, I i, L m out] (0, [L q r]) ∧ IsKept (Kref op) a b r := by
    intro d
    induction d with
    | zero =>
      intro i hd hi m out ho hk
      refine ⟨m, out, Lp.done fun K => ?_, hk.done ?_⟩
      · simp only [f158_s122, Tree.run, Bool.cond_decide]
        simp only [Tree.run, lf0, lfs, toInt_int, toBool_bool, toStr_str, xs_list, nil_list, fst_pair, snd_pair, List.length_map, Option.bind_some, nb_same, cond_true, cond_false, wrap_succ i (by omega), eq_false (show ¬ ((i + 1 : Nat) : Int) < C.length by omega), if_false]
      · rw [show i = C.length - 1 by omega, hlast]; omega
    | succ d ih =>
      intro i hd hi m out ho hk
      have hi1 : i + 1 < C.length := by omega
      have hi0 : i < C.length := by omega
      have b1 := hin i (by omega)
      have b2 := hin (i + 1) hi1
      have hlt : C.getD i 0 < C.getD (i + 1) 0 := by
        rw [List.getD_eq_getElem?_getD, List.getD_eq_getElem?_getD, List.getElem?_eq_getElem (by omega), List.getElem?_eq_getElem hi1]
        exact hp i (i + 1) (by omega) hi1 (by omega)
      have hs := hk.stepTo b1.1 hlt b2.2 fun x hx hy => by rw [same1 a hca i hi1 x hx hy, same1 b hcb i hi1 x hx hy]
      have q1 : C.length - 1 - (i + 1) = d := by omega
      have q2 : i + 1 + 1 ≤ C.length := by omega
      have hda : f93_v [L n a, I (C.getD i 0)] = some (0, [.bool (mem a (C.getD i 0))]) := by
        rw [rhas_told n a _ (by omega), decide_eq_true b1.1, decide_eq_true (by omega)]; rfl
      have hdb : f93_v [L k b, I (C.getD i 0)] = some (0, [.bool (mem b (C.getD i 0))]) := by
        rw [rhas_told k b _ (by omega), decide_eq_true b1.1, decide_eq_true (by omega)]; rfl
      have e1 : rdI C (i : Int) = C.getD i 0 := rdI_nat C i
      have e2 : rdI C ((i + 1 : Nat) : Int) = C.getD (i + 1) 0 := rdI_nat C (i + 1)
      have hcap : (out.length + 1) * 16 ≤ 140737488355328 := by omega
      by_cases hc : Kref op (mem a (C.getD i 0)) (mem b (C.getD i 0)) = true
      · rw [if_pos hc] at hs
        rcases snoc_cases out with rfl | ⟨o, x, rfl⟩
        · obtain ⟨q, r, he, hk'⟩ := ih (i + 1) q1 q2 (m && false) _ (by simp [addR]) hs
          refine ⟨q, r, Lp.next (fun K => ?_) he, hk'⟩
          simp only [f158_s122, Tree.run, Bool.cond_decide]
          simp only [Tree.run, lf0, lfs, toInt_int, toBool_bool, toStr_str, xs_list, nil_list, fst_pair, snd_pair, List.length_map, Option.bind_some, nb_same, cond_true, cond_false, wrap_succ i (by omega), eq_true (show ((i + 1 : Nat) : Int) < C.length by omega), if_true, inb_nat hi0, Int.toNat_natCast, rd_int hi0, e1, hda, hdb, rtold_told, hc, Bool.not_true, List.length_nil, wrap_of (x := ((0 : Nat) : Int) - 1) (by omega) (by omega), eq_false (show ¬ ((0 : Nat) : Int) - 1 ≥ 0 by omega), if_false, inb_nat hi1, rd_int hi1, e2, eq_true (show (0 + 1) * 16 ≤ 140737488355328 by omega), List.map_nil, List.nil_append]
          rfl
        · have hx := hk.lastHi
          have hl1 : ((o ++ [x]).length : Int) - 1 = (o.length : Int) := by simp
          have hlo : (o ++ [x]).length = o.length + 1 := by simp
          have hlt' : o.length < (o ++ [x]).length := by omega
          have hrd : rd_T123 (o ++ [x]) (o.length : Int) = x := by rw [rd_nat]; simp
          by_cases hxe : x.f1 = C.getD i 0
          · rw [addR_snoc, if_pos (show C.getD i 0 ≤ x.f1 by omega), show max x.f1 (C.getD (i + 1) 0) = C.getD (i + 1) 0 by omega] at hs
            obtain ⟨q, r, he, hk'⟩ := ih (i + 1) q1 q2 m _ (by simp at ho ⊢; omega) hs
            refine ⟨q, r, Lp.next (fun K => ?_) he, hk'⟩
            have hb : (x.f1 == C.getD i 0) = true := beq_iff_eq.2 hxe
            simp only [f158_s122, Tree.run, Bool.cond_decide]
            simp only [Tree.run, lf0, lfs, toInt_int, toBool_bool, toStr_str, xs_list, nil_list, fst_pair, snd_pair, List.length_map, Option.bind_some, nb_same, cond_true, cond_false, wrap_succ i (by omega), eq_true (show ((i + 1 : Nat) : Int) < C.length by omega), if_true, inb_nat hi0, Int.toNat_natCast, rd_int hi0, e1, hda, hdb, rtold_told, hc, Bool.not_true, hl1, wrap_of (x := (o.length : Int)) (by omega) (by omega), eq_true (show (o.length : Int) ≥ 0 by omega), inb_nat hlt', rd_enc hlt', hrd, enc, hb, inb_nat hi1, rd_int hi1, e2]
            simp only [L, List.map_append, List.map_cons, List.map_nil, enc]
            rw [show o.length = (o.map enc).length by simp, set_last]
          · rw [addR_snoc, if_neg (show ¬ C.getD i 0 ≤ x.f1 by omega)] at hs
            obtain ⟨q, r, he, hk'⟩ := ih (i + 1) q1 q2 (m && false) _ (by simp at ho ⊢; omega) hs
            refine ⟨q, r, Lp.next (fun K => ?_) he, hk'⟩
            have hb : (x.f1 == C.getD i 0) = false := beq_eq_false_iff_ne.2 hxe
            simp only [f158_s122, Tree.run, Bool.cond_decide]
            simp only [Tree.run, lf0, lfs, toInt_int, toBool_bool, toStr_str, xs_list, nil_list, fst_pair, snd_pair, List.length_map, Option.bind_some, nb_same, cond_true, cond_false, wrap_succ i (by omega), eq_true (show ((i + 1 : Nat) : Int) < C.length by omega), if_true, inb_nat hi0, Int.toNat_natCast, rd_int hi0, e1, hda, hdb, rtold_told, hc, Bool.not_true, hl1, wrap_of (x := (o.length : Int)) (by omega) (by omega), eq_true (show (o.length : Int) ≥ 0 by omega), inb_nat hlt', rd_enc hlt', hrd, enc, hb, inb_nat hi1, rd_int hi1, e2, eq_true hcap]
            simp only [L, List.map_append, List.map_cons, List.map_nil, enc]
      · rw [if_neg hc] at hs
        obtain ⟨q, r, he, hk'⟩ := ih (i + 1) q1 q2 m _ (by omega) hs
        refine ⟨q, r, Lp.next (fun K => ?_) he, hk'⟩
        have hc : Kref op (mem a (C.getD i 0)) (mem b (C.getD i 0)) = false := by simpa using hc
        simp only [f158_s122, Tree.run, Bool.cond_decide]
        simp only [Tree.run, lf0, lfs, toInt_int, toBool_bool, toStr_str, xs_list, nil_list, fst_pair, snd_pair, List.length_map, Option.bind_some, nb_same, cond_true, cond_false, wrap_succ i (by omega), eq_true (show ((i + 1 : Nat) : Int) < C.length by omega), if_true, inb_nat hi0, Int.toNat_natCast, rd_int hi0, e1, hda, hdb, rtold_told, hc, Bool.not_false]
  obtain ⟨q, r, he, hk⟩ := loop (C.length - 1) 0 rfl (by omega) true [] (by simp) (by rw [hfirst]; exact KInv.start _ _ _)
  refine ⟨q, r, ?_, hk⟩
  have he' : loopT f158_s122 FUEL [I op, L n a, L k b, LI c C, I 0, .list true []] = some (0, [L q r]) := he.fuel (by omega)
  simp only [f158_v, f158_t, Tree.run, Bool.cond_decide]
  simp only [Tree.run, lf0, lfs, toInt_int, toBool_bool, toStr_str, xs_list, nil_list, fst_pair, snd_pair, List.length_map, Option.bind_some, nb_same, cond_true, cond_false, hcut, he']
theorem runion_told (n m : Bool) (a b : List S123) (ha : a.length ≤ 100000) (hb : b.length ≤ 100000) : ∃ q r, f95_v [L n a, L m b] = some (0, [L q r]) ∧ IsKept KUnion a b r := by
  obtain ⟨q, r, h, hk⟩ := do_told n m 0 a b ha hb
  refine ⟨q, r, ?_, hk⟩
  simp only [f95_v, f95_t, Tree.run, Bool.cond_decide]
  simp only [Tree.run, lf0, lfs, toInt_int, toBool_bool, toStr_str, xs_list, nil_list, fst_pair, snd_pair, List.length_map, Option.bind_some, nb_same, cond_true, cond_false, h]
theorem rmeet_told (n m : Bool) (a b : List S123) (ha : a.length ≤ 100000) (hb : b.length ≤ 100000) : ∃ q r, f97_v [L n a, L m b] = some (0, [L q r]) ∧ IsKept KMeet a b r := by
  obtain ⟨q, r, h, hk⟩ := do_told n m 1 a b ha hb
  refine ⟨q, r, ?_, hk⟩
  simp only [f97_v, f97_t, Tree.run, Bool.cond_decide]
  simp only [Tree.run, lf0, lfs, toInt_int, toBool_bool, toStr_str, xs_list, nil_list, fst_pair, snd_pair, List.length_map, Option.bind_some, nb_same, cond_true, cond_false, h]
theorem rnot_told (n : Bool) (a : List S123) (ha : a.length ≤ 100000) : ∃ q r, f99_v [L n a] = some (0, [L q r]) ∧ IsKept KNot a [] r := by
  obtain ⟨q, r, h, hk⟩ := do_told n true 2 a [] ha (by simp)
  have h : f158_v [I 2, L n a, .list true []] = some (0, [L q r]) := h
  refine ⟨q, r, ?_, hk⟩
  simp only [f99_v, f99_t, Tree.run, Bool.cond_decide]
  simp only [Tree.run, lf0, lfs, toInt_int, toBool_bool, toStr_str, xs_list, nil_list, fst_pair, snd_pair, List.length_map, Option.bind_some, nb_same, cond_true, cond_false, h]
/-! How many versions a set has. -/
theorem countR_le {l : List S123} : ∀ {e : Int}, Chk e l → -1 ≤ e → 0 ≤ countR l ∧ countR l ≤ 1000000000 := by
  intro e h he
  rw [count_card he h]
  have := card_not (mem l) 1000000000
  have p1 : ∀ (f : Int → Bool) n, 0 ≤ card f n := fun f n => by
    induction n with
    | zero => exact Int.le_refl _
    | succ n ih => simp only [card]; cases f n <;> simp only [b2i] <;> omega
  have h1 := p1 (mem l) 1000000000
  have h2 := p1 (fun x => !mem l x) 1000000000
  omega
theorem Chk.drop {l : List S123} : ∀ {e : Int} (i : Nat), Chk e l → ∃ e', e ≤ e' ∧ Chk e' (l.drop i) := by
  induction l with
  | nil => intro e i h; exact ⟨e, Int.le_refl _, by simpa using h⟩
  | cons s t ih =>
    intro e i h
    cases i with
    | zero => exact ⟨e, Int.le_refl _, h⟩
    | succ i =>
      obtain ⟨h1, h2, h3, h4⟩ := h
      obtain ⟨e', he, hc⟩ := ih i h4
      exact ⟨e', by omega, hc⟩
end Go.Proofs.Ytjemihhhkhdbeaa.Sp
