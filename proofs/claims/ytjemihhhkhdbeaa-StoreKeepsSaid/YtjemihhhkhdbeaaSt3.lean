/- The law StoreKeeps, plainly. Conditions: the arguments have the forms of their types. -/
import Derived.Test.YtjemihhhkhdbeaaSt2
set_option linter.unusedVariables false
set_option linter.unusedSimpArgs false
namespace Go.Proofs.Ytjemihhhkhdbeaa.Mn
open Go Go.Eng
abbrev doSh : Sh := .pair .bool (.pair (.int .i64) (.pair (.slice tmSh) (.pair .bool .unit)))
/-- What is put in, as an item. -/
def itG (d : P) (g : Bool) : P := item d.snd.snd.fst d.snd.fst d.snd.snd.snd.fst g
def Lz (put : List P) (gone : List Bool) : List P := List.zipWith itG put gone
theorem lz_len {put : List P} {gone : List Bool} (h : gone.length = put.length) : (Lz put gone).length = put.length := by simp [Lz, h]
theorem lz_rd {put : List P} {gone : List Bool} (h : gone.length = put.length) {j : Nat} (hj : j < put.length) : rd (Lz put gone) j = itG (rd put j) (gone.getD j false) := by
  have hj2 : j < (Lz put gone).length := by rw [lz_len h]; exact hj
  simp only [rd_getD, List.getD_eq_getElem?_getD, List.getElem?_eq_getElem hj2, List.getElem?_eq_getElem hj, List.getElem?_eq_getElem (show j < gone.length by omega), Option.getD_some]
  simp [Lz]
theorem lz_set {put : List P} {gone : List Bool} (h : gone.length = put.length) {j : Nat} (hj : j < put.length) : (Lz put gone).set j (goneP (rd (Lz put gone) j)) = Lz put (gone.set j true) := by
  rw [lz_rd h hj]
  apply List.ext_getElem
  · simp [Lz]
  · intro k h1 h2
    rw [List.getElem_set]
    simp only [Lz, List.getElem_zipWith, List.getElem_set]
    by_cases e : j = k
    · subst e
      simp only [if_true, rd_getD, List.getD_eq_getElem?_getD, List.getElem?_eq_getElem hj, Option.getD_some]
      rfl
    · simp only [if_neg e]
theorem lz_map (put : List P) : put.map (fun d => itG d false) = Lz put (List.replicate put.length false) := by
  apply List.ext_getElem
  · simp [Lz]
  · intro k h1 h2; simp [Lz]
theorem it_lr (d : P) (g : Bool) : (itG d g).snd.snd.fst = d.snd.snd.snd.fst := rfl
theorem it_gone (d : P) (g : Bool) : (itG d g).snd.snd.snd.fst = .bool g := rfl
theorem over_told (x0 x1 x2 x4 x7 x9 : P) (pb gb lb tb : Bool) (x5 x6 x8 : List P) (n : Nat) (hn : n ≤ 1000) (ts : List P) (ht : ts.length = n) :
    loopT f3_s1047114 FUEL [x0, x1, x2, I 0, x4, .list pb x5, .list gb x6, x7, .list lb x8, x9, .list tb ts] = some (0, [x0, x1, x2, x4, .list pb x5, .list gb x6, .list lb x8, x9]) := by
  obtain ⟨b, h1, lp⟩ := loop_inv (step := f3_s1047114) (β := List P) (fun i b => b.length = n) (fun i b => [x0, x1, x2, I (i : Int), x4, .list pb x5, .list gb x6, x7, .list lb x8, x9, .list tb b])
    (fun b => (0, [x0, x1, x2, x4, .list pb x5, .list gb x6, .list lb x8, x9])) n (by omega) (fun i b hi hb => ⟨b.set i (.pair (.str ⟨#[122, 122]⟩) (rd b i).snd), by rw [List.length_set]; exact hb, fun K => by
      simp only [f3_s1047114, Tree.run, Bool.cond_decide]
      simp only [Tree.run, lf0, lfs, toInt_int, toBool_bool, toStr_str, xs_list, nil_list, fst_pair, snd_pair, List.length_map, Option.bind_some, nb_same, cond_true, cond_false, decide_true, decide_false, eq_true (show (i : Int) < b.length by omega), if_true, inb_nat (show i < b.length by omega), Int.toNat_natCast, wrap_succ i (by omega)]⟩) (fun b hb K => by
      simp only [f3_s1047114, Tree.run, Bool.cond_decide]
      simp only [Tree.run, lf0, lfs, toInt_int, toBool_bool, toStr_str, xs_list, nil_list, fst_pair, snd_pair, List.length_map, Option.bind_some, nb_same, cond_true, cond_false, decide_true, decide_false, eq_false (show ¬ (n : Int) < b.length by omega), if_false]) ts ht
  exact lp
/-- What is put in may be looked at. -/
structure Df (d : P) : Prop where
  sm : Sm d.snd.snd.fst
  cf : Cf d.snd.snd.fst
theorem df_of {l : P} (hl : Cn (.slice doSh) l) (h : l24 l = false) : l.xs.length ≤ 60 ∧ ∀ d ∈ l.xs, Df d := by
  unfold l24 at h
  simp only [Bool.or_eq_false_iff, decide_eq_false_iff_not, List.any_eq_false] at h
  obtain ⟨n, xs, rfl, h1, h2⟩ := hl
  refine ⟨by omega, fun d hd => ⟨l19_sm (by simpa using h.2 d hd), ?_⟩⟩
  obtain ⟨_, _, rfl, _, _, _, rfl, _, c, _, rfl, hc, _⟩ := h2 d hd
  exact cf_of hc
theorem keeps1 (l drops u a0 : P) (hl : l.xs.length ≤ 60) (hd : ∀ d ∈ l.xs, Df d) (ha : Ab 0 a0) :
    ∃ (put : List P) (pb lb : Bool) (a : P), put.length ≤ 60 ∧ (∀ d ∈ put, Df d) ∧
      loopT f3_s250 FUEL [l, drops, I 0, u, .list true [], .list true [], a0] = some (1, [drops, u, .list pb put, .list lb (put.map fun d => itG d false), a]) := by
  obtain ⟨b, ⟨h1, h2, _⟩, lp⟩ := loop_inv (step := f3_s250) (β := List P × Bool × Bool × P) (fun i b => b.1.length ≤ i ∧ (∀ d ∈ b.1, Df d) ∧ Ab (40 * i) b.2.2.2)
    (fun i b => [l, drops, I (i : Int), u, .list b.2.1 b.1, .list b.2.2.1 (b.1.map fun d => itG d false), b.2.2.2]) (fun b => (1, [drops, u, .list b.2.1 b.1, .list b.2.2.1 (b.1.map fun d => itG d false), b.2.2.2])) l.xs.length (by omega) (by
      rintro i ⟨put, pb, lb, a⟩ hi ⟨g1, g2, g3⟩
      simp only at g1 g2 g3
      have hm := rd_in hi
      have hf := hd _ hm
      obtain ⟨b, hb⟩ := check19_told (rd l.xs i).snd.snd.fst hf.sm (fun t ht => (hf.cf.tms t ht).str)
      cases b with
      | false =>
        refine ⟨(put, pb, lb, a), ⟨by show put.length ≤ i + 1; omega, g2, g3.mono (by omega)⟩, fun K => ?_⟩
        simp only [f3_s250, Tree.run, Bool.cond_decide]
        simp only [Tree.run, lf0, lfs, toInt_int, toBool_bool, toStr_str, xs_list, nil_list, fst_pair, snd_pair, List.length_map, Option.bind_some, nb_same, cond_true, cond_false, decide_true, decide_false, eq_true (show (i : Int) < l.xs.length by omega), if_true, inb_nat hi, Int.toNat_natCast, hb, wrap_succ i (by omega)]
      | true =>
        obtain ⟨a', q1, q2⟩ := add_told (.list lb (put.map fun d => itG d false)) a u (rd l.xs i).snd.snd.fst (rd l.xs i).snd.fst (rd l.xs i).snd.snd.snd.fst (40 * i) hf.sm hf.cf (by simp [P.xs]; omega) (by omega) g3
        refine ⟨(put ++ [rd l.xs i], false, false, a'), ⟨by simp; omega, fun d hd' => ?_, by simpa [Nat.mul_add] using q1⟩, fun K => ?_⟩
        · rcases List.mem_append.1 hd' with h | h
          · exact g2 d h
          · rw [List.mem_singleton.1 h]; exact hf
        · have hne : ((put.length : Int) != (put.length : Int)) = false := by simp
          simp only [f3_s250, Tree.run, Bool.cond_decide]
          simp only [Tree.run, lf0, lfs, toInt_int, toBool_bool, toStr_str, xs_list, nil_list, fst_pair, snd_pair, List.length_map, Option.bind_some, nb_same, cond_true, cond_false, decide_true, decide_false, eq_true (show (i : Int) < l.xs.length by omega), if_true, inb_nat hi, Int.toNat_natCast, hb, q2, hne, eq_true (show (put.length + 1) * 48 ≤ 140737488355328 by omega), Bool.and_false, wrap_succ i (by omega), List.map_append, List.map_cons, List.map_nil]
          rfl) (by
      rintro ⟨put, pb, lb, a⟩ _ K
      simp only [f3_s250, Tree.run, Bool.cond_decide]
      simp only [Tree.run, lf0, lfs, toInt_int, toBool_bool, toStr_str, xs_list, nil_list, fst_pair, snd_pair, List.length_map, Option.bind_some, nb_same, cond_true, cond_false, decide_true, decide_false, eq_false (show ¬ (l.xs.length : Int) < l.xs.length by omega), if_false]) ([], true, true, a0) ⟨Nat.le_refl _, (fun d h => by cases h), ha⟩
  obtain ⟨put, pb, lb, a⟩ := b
  exact ⟨put, pb, lb, a, by simp only at h1; omega, h2, lp⟩
theorem keeps2 (drops u a : P) (put : List P) (pb lb : Bool) (hp : put.length ≤ 60) (hdl : drops.xs.length ≤ 60) :
    ∃ gone : List Bool, gone.length = put.length ∧
      loopT f3_s1018 FUEL [drops, I 0, u, .list pb put, .list false ((List.replicate put.length false).map .bool), .list lb (Lz put (List.replicate put.length false)), a] = some (1, [u, .list pb put, .list false (gone.map .bool), .list lb (Lz put gone), a]) := by
  obtain ⟨gone, h1, lp⟩ := loop_inv (step := f3_s1018) (β := List Bool) (fun i g => g.length = put.length) (fun i g => [drops, I (i : Int), u, .list pb put, .list false (g.map .bool), .list lb (Lz put g), a])
    (fun g => (1, [u, .list pb put, .list false (g.map .bool), .list lb (Lz put g), a])) drops.xs.length (by omega) (fun i g hi hg => by
      have hlz := lz_len hg
      have hdr := drop_told (.list lb (Lz put g)) a u (rd drops.xs i) (by simp only [xs_list]; omega)
      simp only [xs_list, nil_list] at hdr
      generalize hz : (rd drops.xs i).toInt = z at hdr
      by_cases c1 : z ≥ 0
      · by_cases c2 : z < (put.length : Int)
        · obtain ⟨j, rfl⟩ : ∃ j : Nat, z = j := ⟨z.toNat, by omega⟩
          have hj : j < put.length := by omega
          have hrd := lz_rd hg hj
          have hgr : rd (g.map P.bool) j = .bool (g.getD j false) := rd_map P.bool g false (by omega)
          have hdB : dropB (Lz put g) (j : Int) = ((rd put j).snd.snd.snd.fst.toBool && !g.getD j false) := by
            unfold dropB
            rw [hlz, decide_eq_true (show 0 ≤ (j : Int) ∧ (j : Int) < put.length by omega), Int.toNat_natCast, hrd, it_lr, it_gone]; rfl
          rw [hdB, Int.toNat_natCast] at hdr
          cases c3 : (rd put j).snd.snd.snd.fst.toBool with
          | false =>
            rw [c3] at hdr
            refine ⟨g, hg, fun K => ?_⟩
            simp only [f3_s1018, Tree.run, Bool.cond_decide]
            simp only [Tree.run, lf0, lfs, toInt_int, toBool_bool, toStr_str, xs_list, nil_list, fst_pair, snd_pair, List.length_map, Option.bind_some, nb_same, cond_true, cond_false, decide_true, decide_false, eq_true (show (i : Int) < drops.xs.length by omega), if_true, inb_nat hi, Int.toNat_natCast, hz, eq_true (show (j : Int) ≥ 0 by omega), eq_true (show (j : Int) < put.length by omega), inb_nat hj, c3, hdr, Bool.false_and, Bool.false_eq_true, if_false, beq_self_eq_true, Bool.not_true, wrap_succ i (by omega)]
          | true =>
            rw [c3, Bool.true_and] at hdr
            cases c4 : g.getD j false with
            | true =>
              rw [c4] at hdr
              refine ⟨g, hg, fun K => ?_⟩
              simp only [f3_s1018, Tree.run, Bool.cond_decide]
              simp only [Tree.run, lf0, lfs, toInt_int, toBool_bool, toStr_str, xs_list, nil_list, fst_pair, snd_pair, List.length_map, Option.bind_some, nb_same, cond_true, cond_false, decide_true, decide_false, eq_true (show (i : Int) < drops.xs.length by omega), if_true, inb_nat hi, Int.toNat_natCast, hz, eq_true (show (j : Int) ≥ 0 by omega), eq_true (show (j : Int) < put.length by omega), inb_nat hj, inb_nat (show j < g.length by omega), c3, hdr, hgr, c4, Bool.not_true, Bool.false_eq_true, if_false, beq_self_eq_true, wrap_succ i (by omega)]
            | false =>
              rw [c4] at hdr
              refine ⟨g.set j true, by rw [List.length_set]; exact hg, fun K => ?_⟩
              have hset := lz_set hg hj
              have hgs : (g.map P.bool).set j (.bool true) = (g.set j true).map P.bool := by rw [List.map_set]
              simp only [f3_s1018, Tree.run, Bool.cond_decide]
              simp only [Tree.run, lf0, lfs, toInt_int, toBool_bool, toStr_str, xs_list, nil_list, fst_pair, snd_pair, List.length_map, Option.bind_some, nb_same, cond_true, cond_false, decide_true, decide_false, eq_true (show (i : Int) < drops.xs.length by omega), if_true, inb_nat hi, Int.toNat_natCast, hz, eq_true (show (j : Int) ≥ 0 by omega), eq_true (show (j : Int) < put.length by omega), inb_nat hj, inb_nat (show j < g.length by omega), c3, hdr, hgr, c4, Bool.not_false, Bool.not_true, beq_self_eq_true, hset, hgs, wrap_succ i (by omega)]
        · have hdB : dropB (Lz put g) z = false := by unfold dropB; rw [hlz, decide_eq_false (by omega)]; rfl
          rw [hdB] at hdr
          refine ⟨g, hg, fun K => ?_⟩
          simp only [f3_s1018, Tree.run, Bool.cond_decide]
          simp only [Tree.run, lf0, lfs, toInt_int, toBool_bool, toStr_str, xs_list, nil_list, fst_pair, snd_pair, List.length_map, Option.bind_some, nb_same, cond_true, cond_false, decide_true, decide_false, eq_true (show (i : Int) < drops.xs.length by omega), if_true, inb_nat hi, Int.toNat_natCast, hz, eq_true c1, eq_false c2, if_false, hdr, Bool.false_eq_true, beq_self_eq_true, Bool.not_true, wrap_succ i (by omega)]
      · have hdB : dropB (Lz put g) z = false := by unfold dropB; rw [hlz, decide_eq_false (by omega)]; rfl
        rw [hdB] at hdr
        refine ⟨g, hg, fun K => ?_⟩
        simp only [f3_s1018, Tree.run, Bool.cond_decide]
        simp only [Tree.run, lf0, lfs, toInt_int, toBool_bool, toStr_str, xs_list, nil_list, fst_pair, snd_pair, List.length_map, Option.bind_some, nb_same, cond_true, cond_false, decide_true, decide_false, eq_true (show (i : Int) < drops.xs.length by omega), if_true, inb_nat hi, Int.toNat_natCast, hz, eq_false c1, if_false, hdr, Bool.false_eq_true, beq_self_eq_true, Bool.not_true, wrap_succ i (by omega)]) (fun g hg K => by
      simp only [f3_s1018, Tree.run, Bool.cond_decide]
      simp only [Tree.run, lf0, lfs, toInt_int, toBool_bool, toStr_str, xs_list, nil_list, fst_pair, snd_pair, List.length_map, Option.bind_some, nb_same, cond_true, cond_false, decide_true, decide_false, eq_false (show ¬ (drops.xs.length : Int) < drops.xs.length by omega), if_false]) (List.replicate put.length false) (by simp)
  exact ⟨gone, h1, lp⟩
theorem keeps3 (u a : P) (put : List P) (gone : List Bool) (pb lb : Bool) (hp : put.length ≤ 60) (hg : gone.length = put.length) (hd : ∀ d ∈ put, Df d) :
    loopT f3_s4090 FUEL [I 0, I 0, u, .list pb put, .list false (gone.map .bool), .list lb (Lz put gone), a] = some (1, [I ((liveF 0 (Lz put gone)).length : Int), u, .list lb (Lz put gone), a]) := by
  have hlz := lz_len hg
  have lp := loop_scan (step := f3_s4090) (st := fun i => [I ((liveF 0 ((Lz put gone).take i)).length : Int), I (i : Int), u, .list pb put, .list false (gone.map .bool), .list lb (Lz put gone), a])
    (y1 := (1, [I ((liveF 0 (Lz put gone)).length : Int), u, .list lb (Lz put gone), a])) (bad := fun _ => none) put.length (by omega) (fun i hi K => by
      have hrd := lz_rd hg hi
      have hf := hd _ (rd_in hi)
      have hgr : rd (gone.map P.bool) i = .bool (gone.getD i false) := rd_map P.bool gone false (by omega)
      have hget := get_told (.list lb (Lz put gone)) a u (rd put i).snd.snd.fst (rd put i).snd.fst (rd put i).snd.snd.snd.fst (gone.getD i false) i (by simp only [xs_list]; omega) (by simp only [xs_list]; omega) hrd hf.sm hf.cf
      simp only [xs_list, nil_list] at hget
      have hsame := same19_told (rd put i).snd.snd.fst.isNil (rd put i).snd.snd.fst hf.sm
      have ht : (Lz put gone).take (i + 1) = (Lz put gone).take i ++ [itG (rd put i) (gone.getD i false)] := by
        rw [← hrd, List.take_succ_eq_append_getElem (by omega), rd_getD, List.getD_eq_getElem?_getD, List.getElem?_eq_getElem (by omega)]; rfl
      have hsn := live_snoc (itG (rd put i) (gone.getD i false)) ((Lz put gone).take i) 0
      rw [← ht, it_gone] at hsn
      have hll := live_len ((Lz put gone).take i) 0
      have hlt : ((Lz put gone).take i).length ≤ i := List.length_take_le _ _
      have hov := fun x2 x7 => over_told (I ((liveF 0 ((Lz put gone).take i)).length : Int)) (I (i : Int)) x2 u x7 a pb false lb (rd put i).snd.snd.fst.isNil put (gone.map P.bool) (Lz put gone) (rd put i).snd.snd.fst.xs.length (by have := hf.sm.len; omega) (rd put i).snd.snd.fst.xs rfl
      have hne : ((rd put i).snd.fst.toInt != (rd put i).snd.fst.toInt) = false := by simp
      simp only [f3_s4090, Tree.run, Bool.cond_decide]
      simp only [Tree.run, lf0, lfs, toInt_int, toBool_bool, toStr_str, xs_list, nil_list, fst_pair, snd_pair, List.length_map, Option.bind_some, nb_same, cond_true, cond_false, decide_true, decide_false, eq_true (show (i : Int) < put.length by omega), if_true, hget]
      rw [show ∀ x2 x7, loopT f3_s1047114 FUEL [I ((liveF 0 ((Lz put gone).take i)).length : Int), I (i : Int), x2, .int .i64 0, u, .list pb put, .list false (gone.map P.bool), x7, .list lb (Lz put gone), a, .list (rd put i).snd.snd.fst.isNil (rd put i).snd.snd.fst.xs] = _ from hov]
      simp only [Tree.run, lf0, lfs, toInt_int, toBool_bool, toStr_str, xs_list, nil_list, fst_pair, snd_pair, List.length_map, Option.bind_some, nb_same, cond_true, cond_false, decide_true, decide_false, hget, Bool.not_true, inb_nat hi, inb_nat (show i < gone.length by omega), Int.toNat_natCast, hsame, hgr, hne, beq_self_eq_true, wrap_succ i (by omega), hsn, wrap_succ (liveF 0 ((Lz put gone).take i)).length (by omega)]
      cases gone.getD i false with
      | true => simp only [Tree.run, lf0, lfs, toInt_int, toBool_bool, toStr_str, xs_list, nil_list, fst_pair, snd_pair, List.length_map, Option.bind_some, nb_same, cond_true, cond_false, decide_true, decide_false, Bool.not_true, if_true, List.append_nil]
      | false => simp only [Tree.run, lf0, lfs, toInt_int, toBool_bool, toStr_str, xs_list, nil_list, fst_pair, snd_pair, List.length_map, Option.bind_some, nb_same, cond_true, cond_false, decide_true, decide_false, Bool.not_false, Bool.false_eq_true, if_false, List.length_append, List.length_singleton]) (fun K => by
      simp only [f3_s4090, Tree.run, Bool.cond_decide]
      simp only [Tree.run, lf0, lfs, toInt_int, toBool_bool, toStr_str, xs_list, nil_list, fst_pair, snd_pair, List.length_map, Option.bind_some, nb_same, cond_true, cond_false, decide_true, decide_false, eq_false (show ¬ (put.length : Int) < put.length by omega), if_false, List.take_of_length_le (Nat.le_of_eq hlz)])
  have hn : ((List.range' 0 put.length).findSome? fun _ => (none : Option (Nat × List P))) = none := by simp
  rw [hn] at lp
  exact lp
end Go.Proofs.Ytjemihhhkhdbeaa.Mn
namespace Go.Proofs.Ytjemihhhkhdbeaa
open Go Go.Eng Mn
theorem storeKeeps_pure {x0 x1 : P} (h0 : Cn (.slice doSh) x0) (h1 : Cn (.slice (.int .i64)) x1) : f3_v [x0, x1] = some (0, [.bool true]) := by
  simp only [f3_v, f3_t, Tree.run, Bool.cond_decide]
  simp only [Tree.run, lf0, lfs, toInt_int, toBool_bool, toStr_str, xs_list, nil_list, fst_pair, snd_pair, List.length_map, Option.bind_some, nb_same, cond_true, cond_false, decide_true, decide_false, large24_told]
  cases hl : l24 x0 with
  | true => simp only [Tree.run, lf0, lfs, toInt_int, toBool_bool, toStr_str, xs_list, nil_list, fst_pair, snd_pair, List.length_map, Option.bind_some, nb_same, cond_true, cond_false, decide_true, decide_false, awake24_told]
  | false =>
    by_cases hd : (x1.xs.length : Int) > 60
    · simp only [Tree.run, lf0, lfs, toInt_int, toBool_bool, toStr_str, xs_list, nil_list, fst_pair, snd_pair, List.length_map, Option.bind_some, nb_same, cond_true, cond_false, decide_true, decide_false, eq_true hd, if_true, awake24_told]
    · obtain ⟨g1, g2⟩ := df_of h0 hl
      obtain ⟨put, pb, lb, a, k1, k2, k3⟩ := keeps1 x0 x1 .unit (.list false []) g1 g2 (fun k => by simp [lookP, P.xs])
      obtain ⟨gone, q1, q2⟩ := keeps2 x1 .unit a put pb lb k1 (by omega)
      have q3 := keeps3 .unit a put gone pb lb k1 q1 k2
      have hrep : (List.replicate ((put.length : Int)).toNat (P.bool false)) = (List.replicate put.length false).map P.bool := by simp
      obtain ⟨bb, lv⟩ := live_told (.list lb (Lz put gone)) a .unit (by simp only [xs_list, lz_len q1]; omega)
      simp only [xs_list, nil_list] at lv
      rw [← lz_map] at q2
      have hbe : (((liveF 0 (Lz put gone)).length : Int) == ((liveF 0 (Lz put gone)).length : Int)) = true := by simp
      simp only [Tree.run, lf0, lfs, toInt_int, toBool_bool, toStr_str, xs_list, nil_list, fst_pair, snd_pair, List.length_map, Option.bind_some, nb_same, cond_true, cond_false, decide_true, decide_false, eq_false hd, if_false, new_told]
      rw [show loopT f3_s250 FUEL [x0, x1, .int .i64 0, .unit, .list true [], .list true [], .list false []] = _ from k3]
      simp only [Tree.run, lf0, lfs, toInt_int, toBool_bool, toStr_str, xs_list, nil_list, fst_pair, snd_pair, List.length_map, Option.bind_some, nb_same, cond_true, cond_false, decide_true, decide_false, nb_lt 1 0 (by omega), hrep, eq_true (show (0 : Int) ≤ put.length ∧ (put.length : Int) ≤ put.length ∧ (put.length : Int) * 1 ≤ 140737488355328 ∧ (put.length : Int) ≤ 140737488355328 by omega), if_true]
      rw [show loopT f3_s1018 FUEL [x1, .int .i64 0, .unit, .list pb put, .list false ((List.replicate put.length false).map P.bool), .list lb (put.map fun d => itG d false), a] = _ from q2]
      simp only [Tree.run, lf0, lfs, toInt_int, toBool_bool, toStr_str, xs_list, nil_list, fst_pair, snd_pair, List.length_map, Option.bind_some, nb_same, cond_true, cond_false, decide_true, decide_false, nb_lt 1 0 (by omega)]
      rw [show loopT f3_s4090 FUEL [.int .i64 0, .int .i64 0, .unit, .list pb put, .list false (gone.map P.bool), .list lb (Lz put gone), a] = _ from q3]
      simp only [Tree.run, lf0, lfs, toInt_int, toBool_bool, toStr_str, xs_list, nil_list, fst_pair, snd_pair, List.length_map, Option.bind_some, nb_same, cond_true, cond_false, decide_true, decide_false, nb_lt 1 0 (by omega), lv, hbe, awake24_told]
end Go.Proofs.Ytjemihhhkhdbeaa
