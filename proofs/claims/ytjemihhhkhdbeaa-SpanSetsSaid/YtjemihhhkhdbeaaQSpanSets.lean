/- The plain statement behind SpanSets: the printed law's function tells true at every input that can be read. Conditions: none beyond the row's own. -/
import Derived.Test.YtjemihhhkhdbeaaPSsx0
import Derived.Test.YtjemihhhkhdbeaaPSsx12
import Derived.Test.YtjemihhhkhdbeaaPSsx13
import Derived.Test.YtjemihhhkhdbeaaLSs
import Derived.Test.YtjemihhhkhdbeaaSSpanSets
namespace Go.Proofs.Ytjemihhhkhdbeaa.spanSets.Pure
open Go.RowKit Go.Proofs.YtjemihhhkhdbeaaW.PrintWords Go.Proofs.YtjemihhhkhdbeaaW.PrintLast Go.Proofs.YtjemihhhkhdbeaaW.PrintMore Go.Proofs.Ytjemihhhkhdbeaa.PSs
set_option linter.unusedVariables false
set_option linter.unusedSimpArgs false
theorem rof_ev (l : List S123) (hl : l.length ≤ 100000) : ∃ r, Ev (fun k => compradorref06_Of.f k l) r ∧ IsSet (mem l) r := by
  obtain ⟨r, hr, hk⟩ := do_ev 0 l [] hl (by simp)
  refine ⟨r, Ev.bind hr (Ev.now _), hk.set.congr fun p _ _ => ?_⟩
  simp [Kref, mem_nil]
theorem j0_true (a b : List S123) (p : Int) : Ev (fun k => compradorlaw06_SpanSets.j0 k a b p true) true :=
  Ev.step (fun k => by rw [compradorlaw06_SpanSets.j0]) (Ev.pos rfl (Ev.bind awake_ev (Ev.now _)))
theorem main_ev (a b : List S123) (p : Int) (h0 : -9223372036854775808 ≤ p) (ha : a.length ≤ 100) (hb : b.length ≤ 100) : Ev (fun k => compradorlaw06_SpanSets.j0 k a b p false) true := by
  obtain ⟨r, hr, rs⟩ := of_ev a (by omega)
  obtain ⟨r', hr', rs'⟩ := rof_ev a (by omega)
  obtain rfl := rs.unique rs'
  have hl := chk_len rs.chk
  have h1 := one_f p h0
  have h2 : compradorref06_One.f p = some (if 0 ≤ p ∧ p < 1000000000 then [⟨p, p + 1⟩] else []) := h1
  have hol : (((if 0 ≤ p ∧ p < 1000000000 then [⟨p, p + 1⟩] else [] : List S123)).length : Int) ≤ 9223372036854775807 := by split <;> simp
  refine Ev.step (fun k => by rw [compradorlaw06_SpanSets.j0]) (Ev.neg (by decide) (Ev.bind (check_ev a (by omega)) (Ev.bind (rcheck_ev a (by omega)) (Ev.pos (beq_self_eq_true _) (Ev.bind hr (Ev.bind hr' (Ev.bind (rsame_ev r r (by omega)) (Ev.pos (sameB_refl r) ?_))))))))
  have hall : ((([⟨0, 1000000000⟩] : List S123)).length : Int) ≤ 9223372036854775807 := by simp only [List.length_cons, List.length_nil]; omega
  refine Ev.bind (same_ev a b (by omega)) (Ev.bind (rsame_ev a b (by omega)) (Ev.pos (beq_self_eq_true _) (Ev.bindc rfl (Ev.bindc rfl (Ev.bind (rsame_ev [⟨0, 1000000000⟩] [⟨0, 1000000000⟩] hall) (Ev.pos (sameB_refl _) ?_))))))
  exact Ev.bindc h1 (Ev.bindc h2 (Ev.bind (rsame_ev _ _ hol) (Ev.pos (sameB_refl _) (Ev.bind awake_ev (Ev.now _)))))
theorem SpanSets : compradorlaw06_SpanSets.PureG := by
  intro a b p _ _ hp
  have hp' := hp.i64
  refine Ev.rounds (r := true) ?_
  refine Ev.congr (fun k => by rw [compradorlaw06_SpanSets.f]) ?_
  by_cases g1 : (a.length : Int) > 100
  · exact Ev.pos g1 (j0_true a b p)
  refine Ev.neg g1 ?_
  by_cases g2 : (b.length : Int) > 100
  · rw [decide_eq_true g2]; exact j0_true a b p
  · rw [decide_eq_false g2]; exact main_ev a b p hp'.1 (by omega) (by omega)
end Go.Proofs.Ytjemihhhkhdbeaa.spanSets.Pure
