/-
  No cell of these rows narrows 'for every input' (looked for: loops, veiled, ifaces, maps, wideKeys, modest, calm, conditions, laid).
  DERIVED. THE GIVEN ROWS OF THIS SEAT. 12 by the template 'for every input the law returns true; each argument reads behind the call as it read before'; 0 by the template 'total and deterministic' (their statements: YtjemihhhkhdbeaaTotals.lean).
  GIVEN WITH THE SEED: the statements are not yours to turn. If you find one false, say at which input.
  Laid BY PROGRAM, IN A SANDBOX (cutbox-rows.mjs): the forced cells as the released guide's own fill.sh prints them over the translation b4906dd6d07c2fdd… (all of the seat's roots in one cut). By AI agents, Wed Nov 11 2026. No macro, syntax, notation, axiom, sorry.
-/
import Derived.Test.YtjemihhhkhdbeaaChecked
import GoSem.Claim
import GoSem.ClaimJoined
import GoSem.ClaimMapViews
import Derived.JoinedTies
import Derived.KernelRfl
namespace Go.Proofs.Ytjemihhhkhdbeaa
/- THE CELL 'sum', in the pinned program and in every row, IS THE sha256 OF THE DUMP (.gsa) THAT YtjemihhhkhdbeaaProg.lean LOADS. Nothing in Lean hashes anything: it is a label: what it is worth is what the hold of that sum in a sandbox is worth. -/
noncomputable def Try.pinned : Pinned := { name := "ytjemihhhkhdbeaa", sum := "b4906dd6d07c2fdd183fc0d01042ab2ac70b12fbec19de30b0ecb8f9d6c2cb5f", checked := Try.checked }
namespace Rows
def none {H : Type} : Left H := { results := [], args := [] }

/-- 'compradorlaw24.StoreKeeps': WHATEVER THE INPUT: true; the input reads as it did. -/
def storeKeepsSpec : ChangeSpec := { name := "storeKeeps", fn := fun _ => fun
  | [d1, d2] => { results := [.lit (.bool true)], args := [d1, d2] }
  | _ => none }
def storeKeepsRow : OpenClaim := { program := "ytjemihhhkhdbeaa", sum := "b4906dd6d07c2fdd183fc0d01042ab2ac70b12fbec19de30b0ecb8f9d6c2cb5f", func := "comprador/compradorlaw24.StoreKeeps", spec := "storeKeeps", apart := false }
def StoreKeepsSaid : Prop := storeKeepsRow.holds Try.pinned (OpenSpec.ofChange storeKeepsSpec)

/-- ITS FALSE NEIGHBOUR: 'it returns false'. Refute it at one input. -/
def storeKeepsWrong : ChangeSpec := { name := "storeKeeps", fn := fun _ => fun
  | [d1, d2] => { results := [.lit (.bool false)], args := [d1, d2] }
  | _ => none }
def StoreKeepsWrongFalsely : Prop := storeKeepsRow.holds Try.pinned (OpenSpec.ofChange storeKeepsWrong)

/-- 'compradorlaw35.TurnFair': WHATEVER THE INPUT: true; the input reads as it did. -/
def turnFairSpec : ChangeSpec := { name := "turnFair", fn := fun _ => fun
  | [d1, d2] => { results := [.lit (.bool true)], args := [d1, d2] }
  | _ => none }
def turnFairRow : OpenClaim := { program := "ytjemihhhkhdbeaa", sum := "b4906dd6d07c2fdd183fc0d01042ab2ac70b12fbec19de30b0ecb8f9d6c2cb5f", func := "comprador/compradorlaw35.TurnFair", spec := "turnFair", apart := false }
def TurnFairSaid : Prop := turnFairRow.holds Try.pinned (OpenSpec.ofChange turnFairSpec)

/-- ITS FALSE NEIGHBOUR: 'it returns false'. Refute it at one input. -/
def turnFairWrong : ChangeSpec := { name := "turnFair", fn := fun _ => fun
  | [d1, d2] => { results := [.lit (.bool false)], args := [d1, d2] }
  | _ => none }
def TurnFairWrongFalsely : Prop := turnFairRow.holds Try.pinned (OpenSpec.ofChange turnFairWrong)

/-- 'compradorlaw24.StorePlays': WHATEVER THE INPUT: true; the input reads as it did. -/
def storePlaysSpec : ChangeSpec := { name := "storePlays", fn := fun _ => fun
  | [d1, d2] => { results := [.lit (.bool true)], args := [d1, d2] }
  | _ => none }
def storePlaysRow : OpenClaim := { program := "ytjemihhhkhdbeaa", sum := "b4906dd6d07c2fdd183fc0d01042ab2ac70b12fbec19de30b0ecb8f9d6c2cb5f", func := "comprador/compradorlaw24.StorePlays", spec := "storePlays", unfollowed := true, recurses := true, apart := false }
def StorePlaysSaid : Prop := storePlaysRow.holds Try.pinned (OpenSpec.ofChange storePlaysSpec)

/-- ITS FALSE NEIGHBOUR: 'it returns false'. Refute it at one input. -/
def storePlaysWrong : ChangeSpec := { name := "storePlays", fn := fun _ => fun
  | [d1, d2] => { results := [.lit (.bool false)], args := [d1, d2] }
  | _ => none }
def StorePlaysWrongFalsely : Prop := storePlaysRow.holds Try.pinned (OpenSpec.ofChange storePlaysWrong)

/-- 'compradorlaw35.TurnPlays': WHATEVER THE INPUT: true; the input reads as it did. -/
def turnPlaysSpec : ChangeSpec := { name := "turnPlays", fn := fun _ => fun
  | [d1, d2] => { results := [.lit (.bool true)], args := [d1, d2] }
  | _ => none }
def turnPlaysRow : OpenClaim := { program := "ytjemihhhkhdbeaa", sum := "b4906dd6d07c2fdd183fc0d01042ab2ac70b12fbec19de30b0ecb8f9d6c2cb5f", func := "comprador/compradorlaw35.TurnPlays", spec := "turnPlays", unfollowed := true, recurses := true, apart := false }
def TurnPlaysSaid : Prop := turnPlaysRow.holds Try.pinned (OpenSpec.ofChange turnPlaysSpec)

/-- ITS FALSE NEIGHBOUR: 'it returns false'. Refute it at one input. -/
def turnPlaysWrong : ChangeSpec := { name := "turnPlays", fn := fun _ => fun
  | [d1, d2] => { results := [.lit (.bool false)], args := [d1, d2] }
  | _ => none }
def TurnPlaysWrongFalsely : Prop := turnPlaysRow.holds Try.pinned (OpenSpec.ofChange turnPlaysWrong)

/-- 'compradorlaw09.ManiChecks': WHATEVER THE INPUT: true; the input reads as it did. -/
def maniChecksSpec : ChangeSpec := { name := "maniChecks", fn := fun _ => fun
  | [d1, d2] => { results := [.lit (.bool true)], args := [d1, d2] }
  | _ => none }
def maniChecksRow : OpenClaim := { program := "ytjemihhhkhdbeaa", sum := "b4906dd6d07c2fdd183fc0d01042ab2ac70b12fbec19de30b0ecb8f9d6c2cb5f", func := "comprador/compradorlaw09.ManiChecks", spec := "maniChecks", unfollowed := true, recurses := true, apart := false }
def ManiChecksSaid : Prop := maniChecksRow.holds Try.pinned (OpenSpec.ofChange maniChecksSpec)

/-- ITS FALSE NEIGHBOUR: 'it returns false'. Refute it at one input. -/
def maniChecksWrong : ChangeSpec := { name := "maniChecks", fn := fun _ => fun
  | [d1, d2] => { results := [.lit (.bool false)], args := [d1, d2] }
  | _ => none }
def ManiChecksWrongFalsely : Prop := maniChecksRow.holds Try.pinned (OpenSpec.ofChange maniChecksWrong)

/-- 'compradorlaw28.SiftTells': WHATEVER THE INPUT: true; the input reads as it did. -/
def siftTellsSpec : ChangeSpec := { name := "siftTells", fn := fun _ => fun
  | [d1, d2] => { results := [.lit (.bool true)], args := [d1, d2] }
  | _ => none }
def siftTellsRow : OpenClaim := { program := "ytjemihhhkhdbeaa", sum := "b4906dd6d07c2fdd183fc0d01042ab2ac70b12fbec19de30b0ecb8f9d6c2cb5f", func := "comprador/compradorlaw28.SiftTells", spec := "siftTells", unfollowed := true, recurses := true, apart := false }
def SiftTellsSaid : Prop := siftTellsRow.holds Try.pinned (OpenSpec.ofChange siftTellsSpec)

/-- ITS FALSE NEIGHBOUR: 'it returns false'. Refute it at one input. -/
def siftTellsWrong : ChangeSpec := { name := "siftTells", fn := fun _ => fun
  | [d1, d2] => { results := [.lit (.bool false)], args := [d1, d2] }
  | _ => none }
def SiftTellsWrongFalsely : Prop := siftTellsRow.holds Try.pinned (OpenSpec.ofChange siftTellsWrong)

/-- 'compradorlaw28.SiftKeeps': WHATEVER THE INPUT: true; the input reads as it did. -/
def siftKeepsSpec : ChangeSpec := { name := "siftKeeps", fn := fun _ => fun
  | [d1, d2, d3] => { results := [.lit (.bool true)], args := [d1, d2, d3] }
  | _ => none }
def siftKeepsRow : OpenClaim := { program := "ytjemihhhkhdbeaa", sum := "b4906dd6d07c2fdd183fc0d01042ab2ac70b12fbec19de30b0ecb8f9d6c2cb5f", func := "comprador/compradorlaw28.SiftKeeps", spec := "siftKeeps", unfollowed := true, recurses := true, apart := false }
def SiftKeepsSaid : Prop := siftKeepsRow.holds Try.pinned (OpenSpec.ofChange siftKeepsSpec)

/-- ITS FALSE NEIGHBOUR: 'it returns false'. Refute it at one input. -/
def siftKeepsWrong : ChangeSpec := { name := "siftKeeps", fn := fun _ => fun
  | [d1, d2, d3] => { results := [.lit (.bool false)], args := [d1, d2, d3] }
  | _ => none }
def SiftKeepsWrongFalsely : Prop := siftKeepsRow.holds Try.pinned (OpenSpec.ofChange siftKeepsWrong)

/-- 'compradorlaw40.TableKeeps': WHATEVER THE INPUT: true; the input reads as it did. -/
def tableKeepsSpec : ChangeSpec := { name := "tableKeeps", fn := fun _ => fun
  | [d1, d2] => { results := [.lit (.bool true)], args := [d1, d2] }
  | _ => none }
def tableKeepsRow : OpenClaim := { program := "ytjemihhhkhdbeaa", sum := "b4906dd6d07c2fdd183fc0d01042ab2ac70b12fbec19de30b0ecb8f9d6c2cb5f", func := "comprador/compradorlaw40.TableKeeps", spec := "tableKeeps", unfollowed := true, recurses := true, apart := false }
def TableKeepsSaid : Prop := tableKeepsRow.holds Try.pinned (OpenSpec.ofChange tableKeepsSpec)

/-- ITS FALSE NEIGHBOUR: 'it returns false'. Refute it at one input. -/
def tableKeepsWrong : ChangeSpec := { name := "tableKeeps", fn := fun _ => fun
  | [d1, d2] => { results := [.lit (.bool false)], args := [d1, d2] }
  | _ => none }
def TableKeepsWrongFalsely : Prop := tableKeepsRow.holds Try.pinned (OpenSpec.ofChange tableKeepsWrong)

/-- 'compradorlaw40.TablePlays': WHATEVER THE INPUT: true; the input reads as it did. -/
def tablePlaysSpec : ChangeSpec := { name := "tablePlays", fn := fun _ => fun
  | [d1, d2, d3] => { results := [.lit (.bool true)], args := [d1, d2, d3] }
  | _ => none }
def tablePlaysRow : OpenClaim := { program := "ytjemihhhkhdbeaa", sum := "b4906dd6d07c2fdd183fc0d01042ab2ac70b12fbec19de30b0ecb8f9d6c2cb5f", func := "comprador/compradorlaw40.TablePlays", spec := "tablePlays", unfollowed := true, recurses := true, apart := false }
def TablePlaysSaid : Prop := tablePlaysRow.holds Try.pinned (OpenSpec.ofChange tablePlaysSpec)

/-- ITS FALSE NEIGHBOUR: 'it returns false'. Refute it at one input. -/
def tablePlaysWrong : ChangeSpec := { name := "tablePlays", fn := fun _ => fun
  | [d1, d2, d3] => { results := [.lit (.bool false)], args := [d1, d2, d3] }
  | _ => none }
def TablePlaysWrongFalsely : Prop := tablePlaysRow.holds Try.pinned (OpenSpec.ofChange tablePlaysWrong)

/-- 'compradorlaw06.SpanSets': WHATEVER THE INPUT: true; the input reads as it did. -/
def spanSetsSpec : ChangeSpec := { name := "spanSets", fn := fun _ => fun
  | [d1, d2, d3] => { results := [.lit (.bool true)], args := [d1, d2, d3] }
  | _ => none }
def spanSetsRow : OpenClaim := { program := "ytjemihhhkhdbeaa", sum := "b4906dd6d07c2fdd183fc0d01042ab2ac70b12fbec19de30b0ecb8f9d6c2cb5f", func := "comprador/compradorlaw06.SpanSets", spec := "spanSets", unfollowed := true, recurses := true, apart := false }
def SpanSetsSaid : Prop := spanSetsRow.holds Try.pinned (OpenSpec.ofChange spanSetsSpec)

/-- ITS FALSE NEIGHBOUR: 'it returns false'. Refute it at one input. -/
def spanSetsWrong : ChangeSpec := { name := "spanSets", fn := fun _ => fun
  | [d1, d2, d3] => { results := [.lit (.bool false)], args := [d1, d2, d3] }
  | _ => none }
def SpanSetsWrongFalsely : Prop := spanSetsRow.holds Try.pinned (OpenSpec.ofChange spanSetsWrong)

/-- 'compradorlaw06.SpanDoes': WHATEVER THE INPUT: true; the input reads as it did. -/
def spanDoesSpec : ChangeSpec := { name := "spanDoes", fn := fun _ => fun
  | [d1, d2, d3] => { results := [.lit (.bool true)], args := [d1, d2, d3] }
  | _ => none }
def spanDoesRow : OpenClaim := { program := "ytjemihhhkhdbeaa", sum := "b4906dd6d07c2fdd183fc0d01042ab2ac70b12fbec19de30b0ecb8f9d6c2cb5f", func := "comprador/compradorlaw06.SpanDoes", spec := "spanDoes", unfollowed := true, recurses := true, apart := false }
def SpanDoesSaid : Prop := spanDoesRow.holds Try.pinned (OpenSpec.ofChange spanDoesSpec)

/-- ITS FALSE NEIGHBOUR: 'it returns false'. Refute it at one input. -/
def spanDoesWrong : ChangeSpec := { name := "spanDoes", fn := fun _ => fun
  | [d1, d2, d3] => { results := [.lit (.bool false)], args := [d1, d2, d3] }
  | _ => none }
def SpanDoesWrongFalsely : Prop := spanDoesRow.holds Try.pinned (OpenSpec.ofChange spanDoesWrong)

/-- 'compradorlaw06.SpanHas': WHATEVER THE INPUT: true; the input reads as it did. -/
def spanHasSpec : ChangeSpec := { name := "spanHas", fn := fun _ => fun
  | [d1, d2, d3] => { results := [.lit (.bool true)], args := [d1, d2, d3] }
  | _ => none }
def spanHasRow : OpenClaim := { program := "ytjemihhhkhdbeaa", sum := "b4906dd6d07c2fdd183fc0d01042ab2ac70b12fbec19de30b0ecb8f9d6c2cb5f", func := "comprador/compradorlaw06.SpanHas", spec := "spanHas", unfollowed := true, recurses := true, apart := false }
def SpanHasSaid : Prop := spanHasRow.holds Try.pinned (OpenSpec.ofChange spanHasSpec)

/-- ITS FALSE NEIGHBOUR: 'it returns false'. Refute it at one input. -/
def spanHasWrong : ChangeSpec := { name := "spanHas", fn := fun _ => fun
  | [d1, d2, d3] => { results := [.lit (.bool false)], args := [d1, d2, d3] }
  | _ => none }
def SpanHasWrongFalsely : Prop := spanHasRow.holds Try.pinned (OpenSpec.ofChange spanHasWrong)

/- THE SECOND FORM. 'bulk': how many values and letters a reading holds, each counted each time it is reached (what is shared counts as often as it is met; a slice's spare places count too). A statement '..UptoSaid' is the law's where the arguments, and the package variables that the reading takes, are together of bulk at most 1048576: NARROWER than '..Said'. Prove '..Said' where nothing that the law and all that it calls make is longer than what came in: it says more and counts as full. Else prove '..UptoSaid'. A law counts once. -/
mutual
def uptoBulk {H : Type} : DataW H → Nat
  | .lit (.string bytes) => bytes.length + 1
  | .lit _ => 1
  | .nil => 1
  | .ptr d => uptoBulk d + 1
  | .slice elems spare => uptoBulkAll elems + uptoBulkAll spare + 1
  | .agg parts => uptoBulkAll parts + 1
  | .iface _ d => uptoBulk d + 1
  | .map entries => uptoBulkEntries entries + 1
  | .held _ => 1
def uptoBulkAll {H : Type} : List (DataW H) → Nat
  | [] => 0
  | d :: r => uptoBulk d + uptoBulkAll r
def uptoBulkEntries {H : Type} : List (Lit × DataW H) → Nat
  | [] => 0
  | x :: r => uptoBulkEntry x + uptoBulkEntries r
def uptoBulkEntry {H : Type} : Lit × DataW H → Nat
  | (.string bytes, d) => bytes.length + uptoBulk d + 1
  | (_, d) => uptoBulk d + 1
 end
def uptoSmall : (H : Type) → List (DataW H) → Bool := fun _ ds => decide (uptoBulkAll ds ≤ 1048576)
def OpenSpec.upto (s : _root_.Go.ChangeSpec) : _root_.Go.OpenSpec := { _root_.Go.OpenSpec.ofChange s with cond := some uptoSmall }

/-- 'compradorlaw24.StoreKeeps', WHERE WHAT IT READS IS OF BULK AT MOST 1048576: true; the input reads as it did. -/
def storeKeepsUptoRow : OpenClaim := { program := "ytjemihhhkhdbeaa", sum := "b4906dd6d07c2fdd183fc0d01042ab2ac70b12fbec19de30b0ecb8f9d6c2cb5f", func := "comprador/compradorlaw24.StoreKeeps", spec := "storeKeeps", apart := false, narrowed := true }
def StoreKeepsUptoSaid : Prop := storeKeepsUptoRow.holds Try.pinned (OpenSpec.upto storeKeepsSpec)

/-- 'compradorlaw35.TurnFair', WHERE WHAT IT READS IS OF BULK AT MOST 1048576: true; the input reads as it did. -/
def turnFairUptoRow : OpenClaim := { program := "ytjemihhhkhdbeaa", sum := "b4906dd6d07c2fdd183fc0d01042ab2ac70b12fbec19de30b0ecb8f9d6c2cb5f", func := "comprador/compradorlaw35.TurnFair", spec := "turnFair", apart := false, narrowed := true }
def TurnFairUptoSaid : Prop := turnFairUptoRow.holds Try.pinned (OpenSpec.upto turnFairSpec)

/-- 'compradorlaw24.StorePlays', WHERE WHAT IT READS IS OF BULK AT MOST 1048576: true; the input reads as it did. -/
def storePlaysUptoRow : OpenClaim := { program := "ytjemihhhkhdbeaa", sum := "b4906dd6d07c2fdd183fc0d01042ab2ac70b12fbec19de30b0ecb8f9d6c2cb5f", func := "comprador/compradorlaw24.StorePlays", spec := "storePlays", unfollowed := true, recurses := true, apart := false, narrowed := true }
def StorePlaysUptoSaid : Prop := storePlaysUptoRow.holds Try.pinned (OpenSpec.upto storePlaysSpec)

/-- 'compradorlaw35.TurnPlays', WHERE WHAT IT READS IS OF BULK AT MOST 1048576: true; the input reads as it did. -/
def turnPlaysUptoRow : OpenClaim := { program := "ytjemihhhkhdbeaa", sum := "b4906dd6d07c2fdd183fc0d01042ab2ac70b12fbec19de30b0ecb8f9d6c2cb5f", func := "comprador/compradorlaw35.TurnPlays", spec := "turnPlays", unfollowed := true, recurses := true, apart := false, narrowed := true }
def TurnPlaysUptoSaid : Prop := turnPlaysUptoRow.holds Try.pinned (OpenSpec.upto turnPlaysSpec)

/-- 'compradorlaw09.ManiChecks', WHERE WHAT IT READS IS OF BULK AT MOST 1048576: true; the input reads as it did. -/
def maniChecksUptoRow : OpenClaim := { program := "ytjemihhhkhdbeaa", sum := "b4906dd6d07c2fdd183fc0d01042ab2ac70b12fbec19de30b0ecb8f9d6c2cb5f", func := "comprador/compradorlaw09.ManiChecks", spec := "maniChecks", unfollowed := true, recurses := true, apart := false, narrowed := true }
def ManiChecksUptoSaid : Prop := maniChecksUptoRow.holds Try.pinned (OpenSpec.upto maniChecksSpec)

/-- 'compradorlaw28.SiftTells', WHERE WHAT IT READS IS OF BULK AT MOST 1048576: true; the input reads as it did. -/
def siftTellsUptoRow : OpenClaim := { program := "ytjemihhhkhdbeaa", sum := "b4906dd6d07c2fdd183fc0d01042ab2ac70b12fbec19de30b0ecb8f9d6c2cb5f", func := "comprador/compradorlaw28.SiftTells", spec := "siftTells", unfollowed := true, recurses := true, apart := false, narrowed := true }
def SiftTellsUptoSaid : Prop := siftTellsUptoRow.holds Try.pinned (OpenSpec.upto siftTellsSpec)

/-- 'compradorlaw28.SiftKeeps', WHERE WHAT IT READS IS OF BULK AT MOST 1048576: true; the input reads as it did. -/
def siftKeepsUptoRow : OpenClaim := { program := "ytjemihhhkhdbeaa", sum := "b4906dd6d07c2fdd183fc0d01042ab2ac70b12fbec19de30b0ecb8f9d6c2cb5f", func := "comprador/compradorlaw28.SiftKeeps", spec := "siftKeeps", unfollowed := true, recurses := true, apart := false, narrowed := true }
def SiftKeepsUptoSaid : Prop := siftKeepsUptoRow.holds Try.pinned (OpenSpec.upto siftKeepsSpec)

/-- 'compradorlaw40.TableKeeps', WHERE WHAT IT READS IS OF BULK AT MOST 1048576: true; the input reads as it did. -/
def tableKeepsUptoRow : OpenClaim := { program := "ytjemihhhkhdbeaa", sum := "b4906dd6d07c2fdd183fc0d01042ab2ac70b12fbec19de30b0ecb8f9d6c2cb5f", func := "comprador/compradorlaw40.TableKeeps", spec := "tableKeeps", unfollowed := true, recurses := true, apart := false, narrowed := true }
def TableKeepsUptoSaid : Prop := tableKeepsUptoRow.holds Try.pinned (OpenSpec.upto tableKeepsSpec)

/-- 'compradorlaw40.TablePlays', WHERE WHAT IT READS IS OF BULK AT MOST 1048576: true; the input reads as it did. -/
def tablePlaysUptoRow : OpenClaim := { program := "ytjemihhhkhdbeaa", sum := "b4906dd6d07c2fdd183fc0d01042ab2ac70b12fbec19de30b0ecb8f9d6c2cb5f", func := "comprador/compradorlaw40.TablePlays", spec := "tablePlays", unfollowed := true, recurses := true, apart := false, narrowed := true }
def TablePlaysUptoSaid : Prop := tablePlaysUptoRow.holds Try.pinned (OpenSpec.upto tablePlaysSpec)

/-- 'compradorlaw06.SpanSets', WHERE WHAT IT READS IS OF BULK AT MOST 1048576: true; the input reads as it did. -/
def spanSetsUptoRow : OpenClaim := { program := "ytjemihhhkhdbeaa", sum := "b4906dd6d07c2fdd183fc0d01042ab2ac70b12fbec19de30b0ecb8f9d6c2cb5f", func := "comprador/compradorlaw06.SpanSets", spec := "spanSets", unfollowed := true, recurses := true, apart := false, narrowed := true }
def SpanSetsUptoSaid : Prop := spanSetsUptoRow.holds Try.pinned (OpenSpec.upto spanSetsSpec)

/-- 'compradorlaw06.SpanDoes', WHERE WHAT IT READS IS OF BULK AT MOST 1048576: true; the input reads as it did. -/
def spanDoesUptoRow : OpenClaim := { program := "ytjemihhhkhdbeaa", sum := "b4906dd6d07c2fdd183fc0d01042ab2ac70b12fbec19de30b0ecb8f9d6c2cb5f", func := "comprador/compradorlaw06.SpanDoes", spec := "spanDoes", unfollowed := true, recurses := true, apart := false, narrowed := true }
def SpanDoesUptoSaid : Prop := spanDoesUptoRow.holds Try.pinned (OpenSpec.upto spanDoesSpec)

/-- 'compradorlaw06.SpanHas', WHERE WHAT IT READS IS OF BULK AT MOST 1048576: true; the input reads as it did. -/
def spanHasUptoRow : OpenClaim := { program := "ytjemihhhkhdbeaa", sum := "b4906dd6d07c2fdd183fc0d01042ab2ac70b12fbec19de30b0ecb8f9d6c2cb5f", func := "comprador/compradorlaw06.SpanHas", spec := "spanHas", unfollowed := true, recurses := true, apart := false, narrowed := true }
def SpanHasUptoSaid : Prop := spanHasUptoRow.holds Try.pinned (OpenSpec.upto spanHasSpec)

end Rows
end Go.Proofs.Ytjemihhhkhdbeaa
