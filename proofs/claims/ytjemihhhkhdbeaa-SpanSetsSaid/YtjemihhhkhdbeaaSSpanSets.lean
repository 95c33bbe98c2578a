-- made by pp.py of this session over the kit's printer
import Derived.Test.YtjemihhhkhdbeaaGPSs
import Derived.Test.YtjemihhhkhdbeaaPSsx13
namespace Go.Proofs.Ytjemihhhkhdbeaa.PSs
open Go.RowKit Go.Proofs.YtjemihhhkhdbeaaW.PrintWords Go.Proofs.YtjemihhhkhdbeaaW.PrintLast Go.Proofs.YtjemihhhkhdbeaaW.PrintMore
def compradorlaw06_SpanSets.PureG : Prop := ∀ (l0 : List (S123)) (l1 : List (S123)) (a2 : Int), Go.Proofs.YtjemihhhkhdbeaaOpn.All g123 l0 → Go.Proofs.YtjemihhhkhdbeaaOpn.All g123 l1 → Go.Proofs.YtjemihhhkhdbeaaOpn.InK .i64 a2 → ∃ k, compradorlaw06_SpanSets.f k l0 l1 a2 = some true
end Go.Proofs.Ytjemihhhkhdbeaa.PSs
