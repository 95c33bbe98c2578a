/- The sorts as entries. Conditions: none. -/
import Derived.Test.YtjemihhhkhdbeaaE4
import Derived.Test.YtjemihhhkhdbeaaFDoh
import Derived.KernelRfl
open Go Go.Eng Go.Proofs
set_option pp.deepTerms true
set_option linter.unusedVariables false
namespace Go.Proofs.Ytjemihhhkhdbeaa
noncomputable def sort155_156_v (ps : List P) : Option (Nat × List P) := sortVal sort155_156_cf ps
noncomputable def sort155_156_e : EntD := ⟨155, [.own (.pair (.int .i64) (.pair (.int .i64) .unit)), .fn 156 (.imm .unit)], sort155_156_v, [sortRes (.pair (.int .i64) (.pair (.int .i64) .unit)) 156]⟩
theorem sort155_156_ok : OkEnt Try.prog sort155_156_e := sort_ent sort155_156_lay rfl rfl (by decide) (fun _ => by kernel_rfl) (fun _ => by kernel_rfl) sort155_156_swo Try.call156 rfl Try.call155 f156_ok rfl (fun _ _ _ => rfl) sort155_156_told
end Go.Proofs.Ytjemihhhkhdbeaa
