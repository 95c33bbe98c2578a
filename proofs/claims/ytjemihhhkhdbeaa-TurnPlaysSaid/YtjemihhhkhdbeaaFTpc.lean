/- The comparisons of sorts: what each tells. Conditions: none. -/
import Derived.Test.YtjemihhhkhdbeaaE4
import Derived.Test.YtjemihhhkhdbeaaProg
import Derived.KernelRfl
open Go Go.Eng Go.Proofs
set_option pp.deepTerms true
set_option linter.unusedVariables false
namespace Go.Proofs.Ytjemihhhkhdbeaa
end Go.Proofs.Ytjemihhhkhdbeaa
