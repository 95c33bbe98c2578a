-- made by pp.py of this session over the kit's printer
import Derived.Test.YtjemihhhkhdbeaaPSsx0
import Derived.Test.YtjemihhhkhdbeaaOpn
namespace Go.Proofs.Ytjemihhhkhdbeaa.PSs
open Go.RowKit Go.Proofs.YtjemihhhkhdbeaaW.PrintWords Go.Proofs.YtjemihhhkhdbeaaW.PrintLast Go.Proofs.YtjemihhhkhdbeaaW.PrintMore
def g123 (x : S123) : Prop := Go.Proofs.YtjemihhhkhdbeaaOpn.InK .i64 x.f0 ∧ Go.Proofs.YtjemihhhkhdbeaaOpn.InK .i64 x.f1
theorem opn123 : Go.Proofs.YtjemihhhkhdbeaaOpn.Opn Try.prog 123 k123 g123 := by
  have o0 := (Go.Proofs.YtjemihhhkhdbeaaOpn.opn_int (P := Try.prog) (t := 3) (k := .i64) Try.underlying3 (by kernel_rfl))
  have o1 := (Go.Proofs.YtjemihhhkhdbeaaOpn.opn_int (P := Try.prog) (t := 3) (k := .i64) Try.underlying3 (by kernel_rfl))
  exact Go.Proofs.YtjemihhhkhdbeaaOpn.opn_struct Try.underlying123 (fun x : S123 => (x.f0, x.f1)) (fun p => (⟨p.1, p.2⟩ : S123)) (fun _ => rfl) rfl (by kernel_rfl) (Go.Proofs.YtjemihhhkhdbeaaOpn.flds_pair rfl o0 (Go.Proofs.YtjemihhhkhdbeaaOpn.flds_last rfl o1)) (fun _ h => h)
end Go.Proofs.Ytjemihhhkhdbeaa.PSs
