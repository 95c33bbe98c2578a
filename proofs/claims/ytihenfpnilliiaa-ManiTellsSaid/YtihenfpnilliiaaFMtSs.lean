/- The library's sort of strings as an entry. Conditions: none. -/
import Derived.Test.YtihenfpnilliiaaFMtDn
import Derived.Test.YtihenfpnilliiaaShelfStr
import Derived.Test.YtihenfpnilliiaaE4
set_option linter.unusedVariables false
namespace Go.Proofs.Ytihenfpnilliiaa
open Go Go.Eng
noncomputable def sortstr43_v (ps : List P) : Option (Nat × List P) := sortValS ps
noncomputable def sortstr43_e : EntD := ⟨43, [.own .str], sortstr43_v, [sortResS]⟩
theorem sortstr43_ok : OkEnt Try.prog sortstr43_e := (sortS_ent Try.sortStr rfl Try.call43).weak
end Go.Proofs.Ytihenfpnilliiaa
