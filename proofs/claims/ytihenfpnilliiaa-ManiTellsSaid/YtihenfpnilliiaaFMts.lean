/- The sorts as entries. Conditions: none. -/
import Derived.Test.YtihenfpnilliiaaE4
import Derived.Test.YtihenfpnilliiaaFMth
import Derived.KernelRfl
open Go Go.Eng Go.Proofs
set_option pp.deepTerms true
set_option linter.unusedVariables false
namespace Go.Proofs.Ytihenfpnilliiaa
noncomputable def sort49_50_v (ps : List P) : Option (Nat × List P) := sortVal sort49_50_cf ps
noncomputable def sort49_50_e : EntD := ⟨49, [.own (.pair (.int .i64) (.pair (.int .i64) .unit)), .fn 50 (.imm .unit)], sort49_50_v, [sortRes (.pair (.int .i64) (.pair (.int .i64) .unit)) 50]⟩
theorem sort49_50_ok : OkEnt Try.prog sort49_50_e := (sort_ent sort49_50_lay rfl rfl (by decide) (fun _ => by kernel_rfl) (fun _ => by kernel_rfl) sort49_50_swo Try.call50 rfl Try.call49 f50_okT rfl (fun _ _ _ => rfl) sort49_50_told).weak
end Go.Proofs.Ytihenfpnilliiaa
