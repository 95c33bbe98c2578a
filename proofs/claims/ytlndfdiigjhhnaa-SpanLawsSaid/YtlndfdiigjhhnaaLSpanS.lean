/- Plain facts for the proof of a statement of the seat; conditions: none but those each states. -/
import Derived.Test.YtlndfdiigjhhnaaPSlx0
import Derived.Test.YtlndfdiigjhhnaaPSlx19
import Derived.Test.YtlndfdiigjhhnaaPSlx20
import Derived.Test.YtlndfdiigjhhnaaLSpan
namespace Go.Proofs.Ytlndfdiigjhhnaa.PSl
open Go.RowKit Go.Proofs.YtlndfdiigjhhnaaW.PrintWords Go.Proofs.YtlndfdiigjhhnaaW.PrintLast Go.Proofs.YtlndfdiigjhhnaaW.PrintMore
set_option linter.unusedVariables false
set_option linter.unusedSimpArgs false
/-! Lists that are alike. -/
def sameB : List S70 → List S70 → Bool
  | [], [] => true
  | s :: t, s' :: t' => s.f0 == s'.f0 && s.f1 == s'.f1 && sameB t t'
  | _, _ => false
theorem sameB_iff : ∀ a b : List S70, sameB a b = true ↔ a = b
  | [], [] => by simp [sameB]
  | [], s' :: t' => by simp [sameB]
  | s :: t, [] => by simp [sameB]
  | s :: t, s' :: t' => by
    simp only [sameB, Bool.and_eq_true, beq_iff_eq, sameB_iff t t', List.cons.injEq]
    constructor
    · rintro ⟨⟨h1, h2⟩, h3⟩; exact ⟨S70_ext h1 h2, h3⟩
    · rintro ⟨rfl, h⟩; exact ⟨⟨rfl, rfl⟩, h⟩
theorem sameB_refl (a : List S70) : sameB a a = true := (sameB_iff a a).2 rfl
theorem sameB_len {a b : List S70} (h : a.length ≠ b.length) : sameB a b = false := by
  cases hs : sameB a b with
  | false => rfl
  | true => exact absurd (congrArg List.length ((sameB_iff a b).1 hs)) h
theorem equal_ev (a b : List S70) (hl : (a.length : Int) ≤ 9223372036854775807) : Ev (fun k => slices_Equal_api_Span.f k a b) (sameB a b) := by
  refine Ev.congr (fun k => by rw [slices_Equal_api_Span.f]) ?_
  by_cases hne : (a.length : Int) = b.length
  · refine Ev.pos hne ?_
    suffices h : ∀ d i : Nat, a.length - i = d → i ≤ a.length → Ev (fun k => slices_Equal_api_Span.l0 k a b (a.length : Int) i) (sameB (a.drop i) (b.drop i)) from h a.length 0 rfl (by omega)
    intro d
    induction d with
    | zero =>
      intro i hd hi
      rw [List.drop_eq_nil_of_le (by omega), List.drop_eq_nil_of_le (by omega)]
      exact Ev.step (fun k => by rw [slices_Equal_api_Span.l0]) (Ev.neg (by omega) (Ev.const (o := some true) rfl))
    | succ d ih =>
      intro i hd hi
      rw [drop_cons a i (by omega), drop_cons b i (by omega)]
      refine Ev.step (fun k => by rw [slices_Equal_api_Span.l0]) (Ev.pos (by omega) (Ev.pos (by omega) (Ev.pos (by omega) (Ev.pos (by omega) ?_))))
      simp only [sameB]
      cases h0 : ((rd_T70 a i).f0 == (rd_T70 b i).f0) <;> cases h1 : ((rd_T70 a i).f1 == (rd_T70 b i).f1)
      · exact Ev.pos rfl (Ev.const rfl)
      · exact Ev.pos rfl (Ev.const rfl)
      · exact Ev.pos rfl (Ev.const rfl)
      · refine Ev.neg (by decide) ?_
        rw [wrap_of (by omega) (by omega)]
        exact Ev.eq (ih (i + 1) (by omega) (by omega)) (by simp)
  · exact Ev.neg hne (Ev.const (by rw [sameB_len (by omega)]))
theorem same_ev (a b : List S70) (hl : (a.length : Int) ≤ 9223372036854775807) : Ev (fun k => span_Same.f k a b) (sameB a b) := Ev.bind (equal_ev a b hl) (Ev.now _)
end Go.Proofs.Ytlndfdiigjhhnaa.PSl
