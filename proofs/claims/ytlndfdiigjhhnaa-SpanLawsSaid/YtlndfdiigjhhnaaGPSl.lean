-- made by pp.py of this session over the kit's printer
import Derived.Test.YtlndfdiigjhhnaaPSlx0
import Derived.Test.YtlndfdiigjhhnaaOpn
namespace Go.Proofs.Ytlndfdiigjhhnaa.PSl
open Go.RowKit Go.Proofs.YtlndfdiigjhhnaaW.PrintWords Go.Proofs.YtlndfdiigjhhnaaW.PrintLast Go.Proofs.YtlndfdiigjhhnaaW.PrintMore
def g70 (x : S70) : Prop := Go.Proofs.YtlndfdiigjhhnaaOpn.InK .i64 x.f0 ∧ Go.Proofs.YtlndfdiigjhhnaaOpn.InK .i64 x.f1
theorem opn70 : Go.Proofs.YtlndfdiigjhhnaaOpn.Opn Try.prog 70 k70 g70 := by
  have o0 := (Go.Proofs.YtlndfdiigjhhnaaOpn.opn_int (P := Try.prog) (t := 3) (k := .i64) Try.underlying3 (by kernel_rfl))
  have o1 := (Go.Proofs.YtlndfdiigjhhnaaOpn.opn_int (P := Try.prog) (t := 3) (k := .i64) Try.underlying3 (by kernel_rfl))
  exact Go.Proofs.YtlndfdiigjhhnaaOpn.opn_struct Try.underlying70 (fun x : S70 => (x.f0, x.f1)) (fun p => (⟨p.1, p.2⟩ : S70)) (fun _ => rfl) rfl (by kernel_rfl) (Go.Proofs.YtlndfdiigjhhnaaOpn.flds_pair rfl o0 (Go.Proofs.YtlndfdiigjhhnaaOpn.flds_last rfl o1)) (fun _ h => h)
end Go.Proofs.Ytlndfdiigjhhnaa.PSl
