/- Sets of spans: what add tells. Conditions: none but those each states. -/
import Derived.Test.YtihenfpnilliiaaQHas
set_option linter.unusedVariables false
set_option linter.unusedSimpArgs false
namespace Go.Proofs.Ytihenfpnilliiaa.Sp
open Go Go.Eng
theorem mmx_max (a b : Int) : mmx true a b = max a b := by unfold mmx; simp only [if_true]; split <;> omega
theorem mmx_min (a b : Int) : mmx false a b = min a b := by unfold mmx; simp only [Bool.false_eq_true, if_false]; split <;> omega
theorem set_last {α : Type} (i : List α) (x y : α) : (i ++ [x]).set i.length y = i ++ [y] := by simp
theorem add_told (n : Bool) (l : List S123) (s : S123) (hl : l.length < 8796093022207) : ∃ m, f48_v [L n l, enc s] = some (0, [L m (addR l s)]) := by
  simp only [f48_v, f48_t, f48_s1, Tree.run, Bool.cond_decide]
  simp only [Tree.run, lf0, lfs, toInt_int, toBool_bool, toStr_str, xs_list, nil_list, fst_pair, snd_pair, List.length_map, Option.bind_some, nb_same, cond_true, cond_false, decide_true, decide_false]
  rcases snoc_cases l with rfl | ⟨i, x, rfl⟩
  · refine ⟨n && false, ?_⟩
    simp only [List.length_nil, wrap_of (x := ((0 : Nat) : Int) - 1) (by omega) (by omega), eq_false (show ¬ ((0 : Nat) : Int) - 1 ≥ 0 by omega), if_false, eq_true (show (0 + 1) * 16 ≤ 140737488355328 by omega), if_true, Tree.run, lf0, lfs, toInt_int, toBool_bool, toStr_str, xs_list, nil_list, fst_pair, snd_pair, List.length_map, Option.bind_some, nb_same, cond_true, cond_false, decide_true, decide_false, List.map_nil, List.nil_append]
    rfl
  · have hlen : ((i ++ [x]).length : Int) - 1 = (i.length : Int) := by simp
    have hlt : i.length < (i ++ [x]).length := by simp
    have hl' : i.length + 1 < 8796093022207 := by simpa using hl
    have hrd : rd_T123 (i ++ [x]) (i.length : Int) = x := by rw [rd_nat]; simp
    rw [addR_snoc]
    simp only [hlen, wrap_of (x := (i.length : Int)) (by omega) (by omega), eq_true (show (i.length : Int) ≥ 0 by omega), if_true, inb_nat hlt, Tree.run, lf0, lfs, toInt_int, toBool_bool, toStr_str, xs_list, nil_list, fst_pair, snd_pair, List.length_map, Option.bind_some, nb_same, cond_true, cond_false, decide_true, decide_false, Int.toNat_natCast, rd_enc hlt, hrd, enc, mmx_max]
    by_cases h : s.f0 ≤ x.f1
    · refine ⟨n, ?_⟩
      simp only [eq_true h, if_true, Tree.run, lf0, lfs, toInt_int, toBool_bool, toStr_str, xs_list, nil_list, fst_pair, snd_pair, List.length_map, Option.bind_some, nb_same, cond_true, cond_false, decide_true, decide_false]
      simp only [L, List.map_append, List.map_cons, List.map_nil, enc]
      rw [show i.length = (i.map enc).length by simp, set_last]
    · refine ⟨n && false, ?_⟩
      simp only [eq_false h, if_false, eq_true (show ((i ++ [x]).length + 1) * 16 ≤ 140737488355328 by simp; omega), if_true, Tree.run, lf0, lfs, toInt_int, toBool_bool, toStr_str, xs_list, nil_list, fst_pair, snd_pair, List.length_map, Option.bind_some, nb_same, cond_true, cond_false, decide_true, decide_false]
      simp only [L, List.map_append, List.map_cons, List.map_nil, enc]
def KUnion : Bool → Bool → Bool := fun x y => x || y
def KMeet : Bool → Bool → Bool := fun x y => x && y
theorem countR_le {l : List S123} : ∀ {e : Int}, Chk e l → -1 ≤ e → 0 ≤ countR l ∧ countR l ≤ 1000000000 := by
  intro e h he
  rw [count_card he h]
  have := card_not (mem l) 1000000000
  have p1 : ∀ (f : Int → Bool) n, 0 ≤ card f n := fun f n => by
    induction n with
    | zero => exact Int.le_refl _
    | succ n ih => simp only [card]; cases f n <;> simp only [b2i] <;> omega
  have h1 := p1 (mem l) 1000000000
  have h2 := p1 (fun x => !mem l x) 1000000000
  omega
theorem Chk.drop {l : List S123} : ∀ {e : Int} (i : Nat), Chk e l → ∃ e', e ≤ e' ∧ Chk e' (l.drop i) := by
  induction l with
  | nil => intro e i h; exact ⟨e, Int.le_refl _, by simpa using h⟩
  | cons s t ih =>
    intro e i h
    cases i with
    | zero => exact ⟨e, Int.le_refl _, h⟩
    | succ i =>
      obtain ⟨h1, h2, h3, h4⟩ := h
      obtain ⟨e', he, hc⟩ := ih i h4
      exact ⟨e', by omega, hc⟩
end Go.Proofs.Ytihenfpnilliiaa.Sp
