/-
  No cell of these rows narrows 'for every input' (looked for: loops, veiled, ifaces, maps, wideKeys, modest, calm, conditions, laid).
  DERIVED. THE GIVEN ROWS OF THIS SEAT. 4 by the template 'for every input the law returns true; each argument reads behind the call as it read before'; 0 by the template 'total and deterministic' (their statements: YtlndfdiigjhhnaaTotals.lean).
  GIVEN WITH THE SEED: the statements are not yours to turn. If you find one false, say at which input.
  Laid BY PROGRAM, IN A SANDBOX (cutbox-rows.mjs): the forced cells as the released guide's own fill.sh prints them over the translation 87a5d80bcccecdca… (all of the seat's roots in one cut). By AI agents, Wed Nov 11 2026. No macro, syntax, notation, axiom, sorry.
-/
import Derived.Test.YtlndfdiigjhhnaaChecked
import GoSem.Claim
import GoSem.ClaimJoined
import GoSem.ClaimMapViews
import Derived.JoinedTies
import Derived.KernelRfl
namespace Go.Proofs.Ytlndfdiigjhhnaa
/- THE CELL 'sum', in the pinned program and in every row, IS THE sha256 OF THE DUMP (.gsa) THAT YtlndfdiigjhhnaaProg.lean LOADS. Nothing in Lean hashes anything: it is a label: what it is worth is what the hold of that sum in a sandbox is worth. -/
noncomputable def Try.pinned : Pinned := { name := "ytlndfdiigjhhnaa", sum := "87a5d80bcccecdca5e8a6b5a8a4e56ed9ff2c01584cd4ea377717c310ab07126", checked := Try.checked }
namespace Rows
def none {H : Type} : Left H := { results := [], args := [] }

/-- 'compradorlaw06.SpanLaws': WHATEVER THE INPUT: true; the input reads as it did. -/
def spanLawsSpec : ChangeSpec := { name := "spanLaws", fn := fun _ => fun
  | [d1, d2] => { results := [.lit (.bool true)], args := [d1, d2] }
  | _ => none }
def spanLawsRow : OpenClaim := { program := "ytlndfdiigjhhnaa", sum := "87a5d80bcccecdca5e8a6b5a8a4e56ed9ff2c01584cd4ea377717c310ab07126", func := "comprador/compradorlaw06.SpanLaws", spec := "spanLaws", unfollowed := true, recurses := true, apart := false }
def SpanLawsSaid : Prop := spanLawsRow.holds Try.pinned (OpenSpec.ofChange spanLawsSpec)

/-- ITS FALSE NEIGHBOUR: 'it returns false'. Refute it at one input. -/
def spanLawsWrong : ChangeSpec := { name := "spanLaws", fn := fun _ => fun
  | [d1, d2] => { results := [.lit (.bool false)], args := [d1, d2] }
  | _ => none }
def SpanLawsWrongFalsely : Prop := spanLawsRow.holds Try.pinned (OpenSpec.ofChange spanLawsWrong)

/-- 'compradorlaw09.ManiNewest': WHATEVER THE INPUT: true; the input reads as it did. -/
def maniNewestSpec : ChangeSpec := { name := "maniNewest", fn := fun _ => fun
  | [d1, d2] => { results := [.lit (.bool true)], args := [d1, d2] }
  | _ => none }
def maniNewestRow : OpenClaim := { program := "ytlndfdiigjhhnaa", sum := "87a5d80bcccecdca5e8a6b5a8a4e56ed9ff2c01584cd4ea377717c310ab07126", func := "comprador/compradorlaw09.ManiNewest", spec := "maniNewest", unfollowed := true, recurses := true, apart := false }
def ManiNewestSaid : Prop := maniNewestRow.holds Try.pinned (OpenSpec.ofChange maniNewestSpec)

/-- ITS FALSE NEIGHBOUR: 'it returns false'. Refute it at one input. -/
def maniNewestWrong : ChangeSpec := { name := "maniNewest", fn := fun _ => fun
  | [d1, d2] => { results := [.lit (.bool false)], args := [d1, d2] }
  | _ => none }
def ManiNewestWrongFalsely : Prop := maniNewestRow.holds Try.pinned (OpenSpec.ofChange maniNewestWrong)

/-- 'compradorlaw09.ManiTells': WHATEVER THE INPUT: true; the input reads as it did. -/
def maniTellsSpec : ChangeSpec := { name := "maniTells", fn := fun _ => fun
  | [d1, d2, d3] => { results := [.lit (.bool true)], args := [d1, d2, d3] }
  | _ => none }
def maniTellsRow : OpenClaim := { program := "ytlndfdiigjhhnaa", sum := "87a5d80bcccecdca5e8a6b5a8a4e56ed9ff2c01584cd4ea377717c310ab07126", func := "comprador/compradorlaw09.ManiTells", spec := "maniTells", unfollowed := true, recurses := true, apart := false }
def ManiTellsSaid : Prop := maniTellsRow.holds Try.pinned (OpenSpec.ofChange maniTellsSpec)

/-- ITS FALSE NEIGHBOUR: 'it returns false'. Refute it at one input. -/
def maniTellsWrong : ChangeSpec := { name := "maniTells", fn := fun _ => fun
  | [d1, d2, d3] => { results := [.lit (.bool false)], args := [d1, d2, d3] }
  | _ => none }
def ManiTellsWrongFalsely : Prop := maniTellsRow.holds Try.pinned (OpenSpec.ofChange maniTellsWrong)

/-- 'compradorlaw49.LotMay': WHATEVER THE INPUT: true; the input reads as it did. -/
def lotMaySpec : ChangeSpec := { name := "lotMay", fn := fun _ => fun
  | [d1, d2] => { results := [.lit (.bool true)], args := [d1, d2] }
  | _ => none }
def lotMayRow : OpenClaim := { program := "ytlndfdiigjhhnaa", sum := "87a5d80bcccecdca5e8a6b5a8a4e56ed9ff2c01584cd4ea377717c310ab07126", func := "comprador/compradorlaw49.LotMay", spec := "lotMay", unfollowed := true, recurses := true, apart := false }
def LotMaySaid : Prop := lotMayRow.holds Try.pinned (OpenSpec.ofChange lotMaySpec)

/-- ITS FALSE NEIGHBOUR: 'it returns false'. Refute it at one input. -/
def lotMayWrong : ChangeSpec := { name := "lotMay", fn := fun _ => fun
  | [d1, d2] => { results := [.lit (.bool false)], args := [d1, d2] }
  | _ => none }
def LotMayWrongFalsely : Prop := lotMayRow.holds Try.pinned (OpenSpec.ofChange lotMayWrong)

/- THE SECOND FORM. 'bulk': how many values and letters a reading holds, each counted each time it is reached (what is shared counts as often as it is met; a slice's spare places count too). A statement '..UptoSaid' is the law's where the arguments, and the package variables that the reading takes, are together of bulk at most 1048576: NARROWER than '..Said'. Prove '..Said' where nothing that the law and all that it calls make is longer than what came in: it says more and counts as full. Else prove '..UptoSaid'. A law counts once. -/
mutual
def uptoBulk {H : Type} : DataW H → Nat
  | .lit (.string bytes) => bytes.length + 1
  | .lit _ => 1
  | .nil => 1
  | .ptr d => uptoBulk d + 1
  | .slice elems spare => uptoBulkAll elems + uptoBulkAll spare + 1
  | .agg parts => uptoBulkAll parts + 1
  | .iface _ d => uptoBulk d + 1
  | .map entries => uptoBulkEntries entries + 1
  | .held _ => 1
def uptoBulkAll {H : Type} : List (DataW H) → Nat
  | [] => 0
  | d :: r => uptoBulk d + uptoBulkAll r
def uptoBulkEntries {H : Type} : List (Lit × DataW H) → Nat
  | [] => 0
  | x :: r => uptoBulkEntry x + uptoBulkEntries r
def uptoBulkEntry {H : Type} : Lit × DataW H → Nat
  | (.string bytes, d) => bytes.length + uptoBulk d + 1
  | (_, d) => uptoBulk d + 1
 end
def uptoSmall : (H : Type) → List (DataW H) → Bool := fun _ ds => decide (uptoBulkAll ds ≤ 1048576)
def OpenSpec.upto (s : _root_.Go.ChangeSpec) : _root_.Go.OpenSpec := { _root_.Go.OpenSpec.ofChange s with cond := some uptoSmall }

/-- 'compradorlaw06.SpanLaws', WHERE WHAT IT READS IS OF BULK AT MOST 1048576: true; the input reads as it did. -/
def spanLawsUptoRow : OpenClaim := { program := "ytlndfdiigjhhnaa", sum := "87a5d80bcccecdca5e8a6b5a8a4e56ed9ff2c01584cd4ea377717c310ab07126", func := "comprador/compradorlaw06.SpanLaws", spec := "spanLaws", unfollowed := true, recurses := true, apart := false, narrowed := true }
def SpanLawsUptoSaid : Prop := spanLawsUptoRow.holds Try.pinned (OpenSpec.upto spanLawsSpec)

/-- 'compradorlaw09.ManiNewest', WHERE WHAT IT READS IS OF BULK AT MOST 1048576: true; the input reads as it did. -/
def maniNewestUptoRow : OpenClaim := { program := "ytlndfdiigjhhnaa", sum := "87a5d80bcccecdca5e8a6b5a8a4e56ed9ff2c01584cd4ea377717c310ab07126", func := "comprador/compradorlaw09.ManiNewest", spec := "maniNewest", unfollowed := true, recurses := true, apart := false, narrowed := true }
def ManiNewestUptoSaid : Prop := maniNewestUptoRow.holds Try.pinned (OpenSpec.upto maniNewestSpec)

/-- 'compradorlaw09.ManiTells', WHERE WHAT IT READS IS OF BULK AT MOST 1048576: true; the input reads as it did. -/
def maniTellsUptoRow : OpenClaim := { program := "ytlndfdiigjhhnaa", sum := "87a5d80bcccecdca5e8a6b5a8a4e56ed9ff2c01584cd4ea377717c310ab07126", func := "comprador/compradorlaw09.ManiTells", spec := "maniTells", unfollowed := true, recurses := true, apart := false, narrowed := true }
def ManiTellsUptoSaid : Prop := maniTellsUptoRow.holds Try.pinned (OpenSpec.upto maniTellsSpec)

/-- 'compradorlaw49.LotMay', WHERE WHAT IT READS IS OF BULK AT MOST 1048576: true; the input reads as it did. -/
def lotMayUptoRow : OpenClaim := { program := "ytlndfdiigjhhnaa", sum := "87a5d80bcccecdca5e8a6b5a8a4e56ed9ff2c01584cd4ea377717c310ab07126", func := "comprador/compradorlaw49.LotMay", spec := "lotMay", unfollowed := true, recurses := true, apart := false, narrowed := true }
def LotMayUptoSaid : Prop := lotMayUptoRow.holds Try.pinned (OpenSpec.upto lotMaySpec)

end Rows
end Go.Proofs.Ytlndfdiigjhhnaa
