-- made by pp.py of this session over the kit's printer
import Derived.Test.YtlndfdiigjhhnaaPSlx0
import Derived.Test.YtlndfdiigjhhnaaPSlx3
namespace Go.Proofs.Ytlndfdiigjhhnaa.PSl
open Go.RowKit Go.Proofs.YtlndfdiigjhhnaaW.PrintWords Go.Proofs.YtlndfdiigjhhnaaW.PrintLast Go.Proofs.YtlndfdiigjhhnaaW.PrintMore
attribute [local go_sem] max2_int min2_int max_two min_two max_three min_three max_four min_four   -- for this text's walks alone
set_option linter.unusedVariables false
set_option linter.unusedSimpArgs false

/-! ### slices_SortFunc_api_Span_span_Of_1: function 71 (by hand) -/
def slices_SortFunc_api_Span_span_Of_1.lt (x y : S70) : Bool := decide (x.f0 < y.f0)
def slices_SortFunc_api_Span_span_Of_1.cf (x y : S70) : Int := if x.f0 < y.f0 then -1 else if x.f0 > y.f0 then 1 else 0
theorem slices_SortFunc_api_Span_span_Of_1.ltOf_cf : Go.Proofs.ltOf slices_SortFunc_api_Span_span_Of_1.cf = slices_SortFunc_api_Span_span_Of_1.lt := by
  funext x y
  unfold Go.Proofs.ltOf slices_SortFunc_api_Span_span_Of_1.cf slices_SortFunc_api_Span_span_Of_1.lt
  by_cases h : x.f0 < y.f0
  · simp [h]
  · by_cases h2 : x.f0 > y.f0 <;> simp [h, h2]
def slices_SortFunc_api_Span_span_Of_1.f (l0 : List (S70)) : Option (List (S70)) :=
  haveI : Inhabited (S70) := ⟨z70⟩
  if l0.length < 4611686018427387904 then some (Go.Sort.pdq slices_SortFunc_api_Span_span_Of_1.lt l0.toArray 0 l0.length (Go.Lib.bitLen l0.length) true true).toList else none
theorem slices_SortFunc_api_Span_span_Of_1.order : Go.Sort.SWO slices_SortFunc_api_Span_span_Of_1.lt where
  irrefl x := by simp [slices_SortFunc_api_Span_span_Of_1.lt]
  trans x y z h1 h2 := by simp [slices_SortFunc_api_Span_span_Of_1.lt] at *; omega
  ntrans x y z h1 h2 := by simp [slices_SortFunc_api_Span_span_Of_1.lt] at *; omega
theorem slices_SortFunc_api_Span_span_Of_1.cmp (x y : S70) (W : World) : Calls Try.prog 72 #[.agg #[.int .i64 x.f0, .int .i64 x.f1], .agg #[.int .i64 y.f0, .int .i64 y.f1]] W fun e w' => e = .returned (.int .i64 (slices_SortFunc_api_Span_span_Of_1.cf x y)) ∧ ∃ q os', w' = Go.Sort.grow (W.drewN q) os' := by
  have hc : cmp_Compare_int.f x.f0 y.f0 = some (slices_SortFunc_api_Span_span_Of_1.cf x y) := by
    unfold cmp_Compare_int.f cmp_isNaN_int.f slices_SortFunc_api_Span_span_Of_1.cf
    by_cases h1 : x.f0 < y.f0
    · simp [h1]
    · by_cases h2 : x.f0 > y.f0 <;> simp [h1, h2]
  go_enter Try.func72, Try.ntmps72
  go_wp2_with (go_at_call 73; refine (cmp_Compare_int.calls _ _ _ _ hc).mono ?_; rintro e w' ⟨rfl, ⟨n, rfl⟩⟩)
  go_ret
  exact ⟨rfl, n, _, by rw [Go.Sort.alloc_eq_grow, Go.Sort.alloc_eq_grow, Go.Sort.grow_grow]; rfl⟩
theorem slices_SortFunc_api_Span_span_Of_1.calls (P0_ : Nat → Prop) (u9000_ : Value) (l0 : List (S70)) (r : List (S70)) (w0 w : World) (hB : Below w0.heap.size w0 w) (ho0 : Kd.R k70 70 w w0.heap.size P0_ u9000_ l0) (h : slices_SortFunc_api_Span_span_Of_1.f l0 = some r) :
    Calls Try.prog 71 #[u9000_, .func (.func 72) #[] #[]] w fun e w' => e = .returned (.tuple #[]) ∧ Kd.R k70 70 w' w0.heap.size (fun k_ => (P0_ k_ ∨ w.heap.size ≤ k_)) u9000_ r ∧ Below w0.heap.size w0 w' ∧ Kept w w' (fun k_ => P0_ k_) := by
  letI : Inhabited (S70) := ⟨z70⟩
  unfold slices_SortFunc_api_Span_span_Of_1.f at h
  split at h
  · rename_i hl
    obtain rfl := Option.some.inj h
    have hcon := Go.Proofs.YtlndfdiigjhhnaaSortKit.sort_own (P := Try.prog) Try.sortSpan 2 (fun _ => by kernel_rfl) (fun _ => by kernel_rfl) (d := k70) (enc := fun x => [.int .i64 x.f0, .int .i64 x.f1]) ⟨⟨fun h => k70_openM h, fun h => h ▸ k70_mkM _ _ _ _⟩⟩ rfl (fun _ => rfl)
      (fun x v hv => by simp at hv; rcases hv with rfl | rfl <;> rfl) slices_SortFunc_api_Span_span_Of_1.cf (slices_SortFunc_api_Span_span_Of_1.ltOf_cf ▸ slices_SortFunc_api_Span_span_Of_1.order) 72 (enters_of Try.func72 (by kernel_rfl) rfl) (fun _ _ _ _ _ _ _ _ x y => slices_SortFunc_api_Span_span_Of_1.cmp x y _) 70 P0_ u9000_ l0 w0 w hB ho0 hl
    rw [slices_SortFunc_api_Span_span_Of_1.ltOf_cf] at hcon
    exact hcon
  · cases h

end Go.Proofs.Ytlndfdiigjhhnaa.PSl
