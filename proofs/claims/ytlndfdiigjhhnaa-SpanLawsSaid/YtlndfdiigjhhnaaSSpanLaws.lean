-- made by pp.py of this session over the kit's printer
import Derived.Test.YtlndfdiigjhhnaaGPSl
import Derived.Test.YtlndfdiigjhhnaaPSlx23
namespace Go.Proofs.Ytlndfdiigjhhnaa.PSl
open Go.RowKit Go.Proofs.YtlndfdiigjhhnaaW.PrintWords Go.Proofs.YtlndfdiigjhhnaaW.PrintLast Go.Proofs.YtlndfdiigjhhnaaW.PrintMore
def compradorlaw06_SpanLaws.PureG : Prop := ∀ (l0 : List (S70)) (l1 : List (S70)), Go.Proofs.YtlndfdiigjhhnaaOpn.All g70 l0 → Go.Proofs.YtlndfdiigjhhnaaOpn.All g70 l1 → ∃ k, compradorlaw06_SpanLaws.f k l0 l1 = some true
end Go.Proofs.Ytlndfdiigjhhnaa.PSl
