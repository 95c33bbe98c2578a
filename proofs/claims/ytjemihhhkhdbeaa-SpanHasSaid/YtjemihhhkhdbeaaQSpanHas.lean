/- The plain statement behind SpanHas: the printed law's function tells true at every input that can be read. Conditions: none beyond the row's own. -/
import Derived.Test.YtjemihhhkhdbeaaPSpx0
import Derived.Test.YtjemihhhkhdbeaaPSpx10
import Derived.Test.YtjemihhhkhdbeaaPSpx12
import Derived.Test.YtjemihhhkhdbeaaPSpx15
import Derived.Test.YtjemihhhkhdbeaaPSpx16
import Derived.Test.YtjemihhhkhdbeaaPSpx19
import Derived.Test.YtjemihhhkhdbeaaPSpx20
import Derived.Test.YtjemihhhkhdbeaaPSpx21
import Derived.Test.YtjemihhhkhdbeaaLSpan
import Derived.Test.YtjemihhhkhdbeaaSSpanHas
namespace Go.Proofs.Ytjemihhhkhdbeaa.spanHas.Pure
open Go.RowKit Go.Proofs.YtjemihhhkhdbeaaW.PrintWords Go.Proofs.YtjemihhhkhdbeaaW.PrintLast Go.Proofs.YtjemihhhkhdbeaaW.PrintMore Go.Proofs.Ytjemihhhkhdbeaa.PSp
set_option linter.unusedVariables false
set_option linter.unusedSimpArgs false
theorem ev_and {α β : Type} {f : Nat → Option α} {g : Nat → Option β} {a : α} {b : β} (h : Ev f a) (h' : Ev g b) : ∃ k, f k = some a ∧ g k = some b := by
  obtain ⟨K, h⟩ := h
  obtain ⟨K', h'⟩ := h'
  exact ⟨max K K', h _ (Nat.le_max_left _ _), h' _ (Nat.le_max_right _ _)⟩
theorem j0_true (a b : List S123) (p : Int) : Ev (fun k => compradorlaw06_SpanHas.j0 k a b p true) true :=
  Ev.step (fun k => by rw [compradorlaw06_SpanHas.j0]) (Ev.pos rfl (Ev.bind awake_ev (Ev.now _)))
theorem main_ev {a b : List S123} {p : Int} (ha : Chk (-1) a) (hb : Chk (-1) b) (h0 : 0 ≤ p) (h1 : p < 1000000000) : Ev (fun k => compradorlaw06_SpanHas.j0 k a b p false) true := by
  have hpp : (decide (0 ≤ p) && decide (p < 1000000000)) = true := by simp [h0, h1]
  obtain ⟨u, hu, us⟩ := union_ev ha hb
  obtain ⟨m, hm, ms⟩ := meet_ev ha hb
  obtain ⟨n, hn, ns⟩ := not_ev ha
  have mu : mem u p = (mem a p || mem b p) := by rw [us.mem_, hpp, Bool.true_and]; rfl
  have mm : mem m p = (mem a p && mem b p) := by rw [ms.mem_, hpp, Bool.true_and]; rfl
  have mn_ : mem n p = !mem a p := by rw [ns.mem_, hpp, Bool.true_and]; rfl
  have c1 : Chk (-1) [(⟨p, p + 1⟩ : S123)] := ⟨by show -1 < p; omega, by show p < p + 1; omega, by show p + 1 ≤ _; omega, trivial⟩
  have ho : span_One.f p = some [⟨p, p + 1⟩] := by rw [one_f p (by omega), if_pos ⟨h0, h1⟩]
  have hw : withinR [⟨p, p + 1⟩] a = mem a p := by
    rw [Bool.eq_iff_iff, withinR_iff ha c1]
    constructor
    · intro h; exact h p (by simp [mem]; omega)
    · intro h q hq
      have : q = p := by simp [mem] at hq; omega
      rw [this]; exact h
  have hc : countR [(⟨p, p + 1⟩ : S123)] = 1 := by simp only [countR]; omega
  refine Ev.step (fun k => by rw [compradorlaw06_SpanHas.j0]) (Ev.neg (by decide) (Ev.bind (has_ev p ha) (Ev.bind (has_ev p hb) (Ev.bindc ho (Ev.bind hu (Ev.bind (has_ev p us.chk) ?_))))))
  have tail : Ev (fun k => (span_Not.f k a).bind fun t219 => ((span_Has.f k t219 p).bind fun t222 => (if (t222 == (!mem a p)) = true then ((span_Within.f k [⟨p, p + 1⟩] a).bind fun t223 => (if (t223 == mem a p) = true then ((span_Count.f k [⟨p, p + 1⟩]).bind fun t224 => (if t224 = 1 then ((compradorlaw06_awake.f k).bind fun t225 => (some t225)) else (some false))) else (some false))) else (some false)))) true :=
    Ev.bind hn (Ev.bind (has_ev p ns.chk) (Ev.pos (by rw [mn_]; simp) (Ev.bind (within_ev c1 ha) (Ev.pos (by rw [hw]; simp) (Ev.bind (count_ev c1) (Ev.pos hc (Ev.bind awake_ev (Ev.now _))))))))
  rw [mu]
  cases hx : mem a p with
  | true =>
    rw [hx] at mm tail
    exact Ev.pos rfl (Ev.pos rfl (Ev.bind hm (Ev.bind (has_ev p ms.chk) (Ev.pos (by rw [mm]; simp) tail))))
  | false =>
    rw [hx] at mm tail
    exact Ev.neg (by decide) (Ev.pos (by simp) (Ev.bind hm (Ev.bind (has_ev p ms.chk) (Ev.pos (by rw [mm]; simp) tail))))
theorem SpanHas : compradorlaw06_SpanHas.PureG := by
  intro a b p ha hb _
  refine Ev.rounds (r := true) ?_
  refine Ev.congr (fun k => by rw [compradorlaw06_SpanHas.f]) ?_
  by_cases g1 : (a.length : Int) > 60
  · exact Ev.pos g1 (j0_true a b p)
  refine Ev.neg g1 ?_
  by_cases g2 : (b.length : Int) > 60
  · exact Ev.pos g2 (j0_true a b p)
  refine Ev.neg g2 (Ev.bind (check_ev a (by omega)) ?_)
  by_cases g3 : chkB (-1) a = true
  · refine Ev.pos g3 (Ev.bind (check_ev b (by omega)) ?_)
    by_cases g4 : chkB (-1) b = true
    · refine Ev.pos g4 ?_
      by_cases g5 : p < 0
      · exact Ev.pos g5 (j0_true a b p)
      · refine Ev.neg g5 ?_
        by_cases g6 : p ≥ 1000000000
        · rw [decide_eq_true g6]; exact j0_true a b p
        · rw [decide_eq_false g6]; exact main_ev (chkB_iff.1 g3) (chkB_iff.1 g4) (by omega) (by omega)
    · exact Ev.neg g4 (j0_true a b p)
  · exact Ev.neg g3 (j0_true a b p)
end Go.Proofs.Ytjemihhhkhdbeaa.spanHas.Pure
