/- The plain statement behind SpanLaws: the printed law's function tells true at every input that can be read. Conditions: none beyond the row's own. -/
import Derived.Test.YtlndfdiigjhhnaaPSlx0
import Derived.Test.YtlndfdiigjhhnaaPSlx2
import Derived.Test.YtlndfdiigjhhnaaPSlx20
import Derived.Test.YtlndfdiigjhhnaaPSlx21
import Derived.Test.YtlndfdiigjhhnaaPSlx23
import Derived.Test.YtlndfdiigjhhnaaLSpanS
import Derived.Test.YtlndfdiigjhhnaaSSpanLaws
namespace Go.Proofs.Ytlndfdiigjhhnaa.spanLaws.Pure
open Go.RowKit Go.Proofs.YtlndfdiigjhhnaaW.PrintWords Go.Proofs.YtlndfdiigjhhnaaW.PrintLast Go.Proofs.YtlndfdiigjhhnaaW.PrintMore Go.Proofs.Ytlndfdiigjhhnaa.PSl
set_option linter.unusedVariables false
set_option linter.unusedSimpArgs false
theorem j0_true (a b : List S70) : Ev (fun k => compradorlaw06_SpanLaws.j0 k a b true) true :=
  Ev.step (fun k => by rw [compradorlaw06_SpanLaws.j0]) (Ev.pos rfl (Ev.bind awake_ev (Ev.now _)))
theorem check_true {a : List S70} (h : Chk (-1) a) : Ev (fun k => span_Check.f k a) true := by
  have := check_ev a (by have := chk_len h; omega)
  rwa [chkB_iff.2 h] at this
theorem same_true {a b : List S70} (h : Chk (-1) a) (hab : a = b) : Ev (fun k => span_Same.f k a b) true := by
  have := same_ev a b (by have := chk_len h; omega)
  rwa [(sameB_iff a b).2 hab] at this
theorem within_true {a b : List S70} (ha : Chk (-1) a) (hb : Chk (-1) b) (h : ∀ p, mem a p = true → mem b p = true) : Ev (fun k => span_Within.f k a b) true := by
  have := within_ev ha hb
  rwa [(withinR_iff hb ha).2 h] at this
theorem card_in (f : Int → Bool) (n : Nat) : card (fun p => decide (0 ≤ p) && decide (p < (n : Int)) && f p) n = card f n := card_congr fun i hi => by
  rw [decide_eq_true (by omega), decide_eq_true (by omega)]; rfl
theorem top_card : ((1000000000 : Nat) : Int) = 1000000000 := rfl
theorem main_ev {a b : List S70} (ha : Chk (-1) a) (hb : Chk (-1) b) : Ev (fun k => compradorlaw06_SpanLaws.j0 k a b false) true := by
  obtain ⟨u, hu, us⟩ := union_ev ha hb
  obtain ⟨m, hm, ms⟩ := meet_ev ha hb
  obtain ⟨na, hna, nas⟩ := not_ev ha
  obtain ⟨nb, hnb, nbs⟩ := not_ev hb
  obtain ⟨nna, hnna, nnas⟩ := not_ev nas.chk
  obtain ⟨nu, hnu, nus⟩ := not_ev us.chk
  obtain ⟨mn_, hmn, mns⟩ := meet_ev nas.chk nbs.chk
  obtain ⟨mab, hmab, mabs⟩ := meet_ev ha nbs.chk
  have e1 : nna = a := nnas.set.unique ((IsSet.self ha).congr fun p h0 h1 => by
    show mem a p = !(mem na p)
    rw [nas.mem_, decide_eq_true h0, decide_eq_true h1]; simp [KNot])
  have e2 : nu = mn_ := nus.set.unique (mns.set.congr fun p h0 h1 => by
    show (mem na p && mem nb p) = !(mem u p)
    rw [nas.mem_, nbs.mem_, us.mem_, decide_eq_true h0, decide_eq_true h1]; simp [KNot, KUnion])
  have e3 : withinR a b = ((mab.length : Int) == 0) := by
    rw [Bool.eq_iff_iff, withinR_iff hb ha]
    constructor
    · intro h
      have : mab = [] := mabs.chk.canon (e := -1) trivial fun p => by
        rw [mabs.mem_, mem_nil]
        show (_ && (mem a p && mem nb p)) = false
        cases hp : mem a p with
        | false => simp
        | true => rw [nbs.mem_]; simp [KNot, h p hp]
      rw [this]; rfl
    · intro h p hp
      have hl : mab = [] := List.eq_nil_of_length_eq_zero (by have := beq_iff_eq.1 h; omega)
      have h0 := ha.lower hp
      have h1 := ha.upper hp
      have := mabs.mem_ p
      rw [hl, mem_nil, decide_eq_true (show (0 : Int) ≤ p by omega), decide_eq_true h1] at this
      have this : (false : Bool) = (true && true && (mem a p && mem nb p)) := this
      rw [hp, nbs.mem_, decide_eq_true (show (0 : Int) ≤ p by omega), decide_eq_true h1] at this
      simpa [KNot] using this
  have c1 : countR u + countR m = countR a + countR b := by
    rw [count_card (e := -1) (by omega) us.chk, count_card (e := -1) (by omega) ms.chk, count_card (e := -1) (by omega) ha, count_card (e := -1) (by omega) hb]
    have h1 := card_in (fun p => mem a p || mem b p) 1000000000
    have h2 := card_in (fun p => mem a p && mem b p) 1000000000
    rw [show (mem u) = fun p => decide (0 ≤ p) && decide (p < ((1000000000 : Nat) : Int)) && (mem a p || mem b p) from funext fun p => us.mem_ p, show (mem m) = fun p => decide (0 ≤ p) && decide (p < ((1000000000 : Nat) : Int)) && (mem a p && mem b p) from funext fun p => ms.mem_ p, h1, h2]
    exact card_both _ _ _
  have c2 : countR a + countR na = 1000000000 := by
    rw [count_card (e := -1) (by omega) ha, count_card (e := -1) (by omega) nas.chk]
    have h1 := card_in (fun p => !mem a p) 1000000000
    rw [show (mem na) = fun p => decide (0 ≤ p) && decide (p < ((1000000000 : Nat) : Int)) && (!mem a p) from funext fun p => nas.mem_ p, h1]
    exact card_not _ _
  have bu := countR_le us.chk (by omega)
  have bm := countR_le ms.chk (by omega)
  have ba := countR_le ha (by omega)
  have bb := countR_le hb (by omega)
  have bn := countR_le nas.chk (by omega)
  have w1 : wrap64 (countR u + countR m) = wrap64 (countR a + countR b) := by rw [c1]
  have w2 : wrap64 (countR a + countR na) = 1000000000 := by rw [c2, wrap_of (by omega) (by omega)]
  refine Ev.step (fun k => by rw [compradorlaw06_SpanLaws.j0]) (Ev.neg (by decide) (Ev.bind hu (Ev.bind hm (Ev.bind (check_true us.chk) (Ev.pos rfl ?_)))))
  refine Ev.bind (check_true ms.chk) (Ev.pos rfl (Ev.bind hna (Ev.bind (check_true nas.chk) (Ev.pos rfl ?_))))
  refine Ev.bind hna (Ev.bind hnna (Ev.bind (same_true nnas.chk e1) ?_))
  refine Ev.step (fun k => by rw [compradorlaw06_SpanLaws.j1]) (Ev.neg (by decide) (Ev.bind hnu (Ev.bind hna (Ev.bind hnb (Ev.bind hmn ?_)))))
  refine Ev.bind (same_true nus.chk e2) (Ev.pos rfl (Ev.bind (within_ev ha hb) (Ev.bind hnb (Ev.bind hmab ?_))))
  rw [e3, bne_self_eq_false]
  refine Ev.step (fun k => by rw [compradorlaw06_SpanLaws.j2]) (Ev.neg (by decide) (Ev.bind (count_ev us.chk) (Ev.bind (count_ev ms.chk) (Ev.bind (count_ev ha) (Ev.bind (count_ev hb) (Ev.pos w1 ?_))))))
  refine Ev.bind (count_ev ha) (Ev.bind hna (Ev.bind (count_ev nas.chk) (Ev.pos w2 ?_)))
  refine Ev.bind (within_true ms.chk ha fun p hp => ?_) (Ev.pos rfl (Ev.bind (within_true ha us.chk fun p hp => ?_) (Ev.pos rfl (Ev.bind awake_ev (Ev.now _)))))
  · rw [ms.mem_] at hp
    have : (mem a p && mem b p) = true := (Bool.and_eq_true _ _ ▸ hp).2
    exact (Bool.and_eq_true _ _ ▸ this).1
  · have h0 := ha.lower hp
    have h1 := ha.upper hp
    rw [us.mem_, decide_eq_true (show (0 : Int) ≤ p by omega), decide_eq_true h1]
    show (true && true && (mem a p || mem b p)) = true
    rw [hp]; rfl
theorem SpanLaws : compradorlaw06_SpanLaws.PureG := by
  intro a b _ _
  refine Ev.rounds (r := true) ?_
  refine Ev.congr (fun k => by rw [compradorlaw06_SpanLaws.f]) ?_
  by_cases g1 : (a.length : Int) > 60
  · exact Ev.pos g1 (j0_true a b)
  refine Ev.neg g1 ?_
  by_cases g2 : (b.length : Int) > 60
  · exact Ev.pos g2 (j0_true a b)
  refine Ev.neg g2 (Ev.bind (check_ev a (by omega)) ?_)
  by_cases g3 : chkB (-1) a = true
  · refine Ev.pos g3 (Ev.bind (check_ev b (by omega)) ?_)
    by_cases g4 : chkB (-1) b = true
    · rw [g4]; exact main_ev (chkB_iff.1 g3) (chkB_iff.1 g4)
    · rw [show chkB (-1) b = false by simpa using g4]; exact j0_true a b
  · exact Ev.neg g3 (j0_true a b)
end Go.Proofs.Ytlndfdiigjhhnaa.spanLaws.Pure
