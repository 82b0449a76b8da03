/-
  No cell of these rows narrows 'for every input' (looked for: loops, veiled, ifaces, maps, wideKeys, modest, calm, conditions, laid).
  DERIVED. THE GIVEN ROWS OF THIS SEAT. 11 by the template 'for every input the law returns true; each argument reads behind the call as it read before'; 0 by the template 'total and deterministic' (their statements: YtdimoehnkagghaaTotals.lean).
  GIVEN WITH THE SEED: the statements are not yours to turn. If you find one false, say at which input.
  Laid BY PROGRAM, IN A SANDBOX (cutbox-rows.mjs): the forced cells as the released guide's own fill.sh prints them over the translation 896be7f550100204… (all of the seat's roots in one cut). By AI agents, Wed Nov 11 2026. No macro, syntax, notation, axiom, sorry.
-/
import Derived.Test.YtdimoehnkagghaaChecked
import GoSem.Claim
import GoSem.ClaimJoined
import GoSem.ClaimMapViews
import Derived.JoinedTies
import Derived.KernelRfl
namespace Go.Proofs.Ytdimoehnkagghaa
/- THE CELL 'sum', in the pinned program and in every row, IS THE sha256 OF THE DUMP (.gsa) THAT YtdimoehnkagghaaProg.lean LOADS. Nothing in Lean hashes anything: it is a label: what it is worth is what the hold of that sum in a sandbox is worth. -/
noncomputable def Try.pinned : Pinned := { name := "ytdimoehnkagghaa", sum := "896be7f5501002044e0803e0b8031abafb21c6f80ccb73ea9148e91d5960f5c7", checked := Try.checked }
namespace Rows
def none {H : Type} : Left H := { results := [], args := [] }

/-- 'mandrellaw10.RightChains': WHATEVER THE INPUT: true; the input reads as it did. -/
def rightChainsSpec : ChangeSpec := { name := "rightChains", fn := fun _ => fun
  | [d1, d2, d3, d4] => { results := [.lit (.bool true)], args := [d1, d2, d3, d4] }
  | _ => none }
def rightChainsRow : OpenClaim := { program := "ytdimoehnkagghaa", sum := "896be7f5501002044e0803e0b8031abafb21c6f80ccb73ea9148e91d5960f5c7", func := "mandrel/mandrellaw10.RightChains", spec := "rightChains", unfollowed := true, recurses := true, apart := false }
def RightChainsSaid : Prop := rightChainsRow.holds Try.pinned (OpenSpec.ofChange rightChainsSpec)

/-- ITS FALSE NEIGHBOUR: 'it returns false'. Refute it at one input. -/
def rightChainsWrong : ChangeSpec := { name := "rightChains", fn := fun _ => fun
  | [d1, d2, d3, d4] => { results := [.lit (.bool false)], args := [d1, d2, d3, d4] }
  | _ => none }
def RightChainsWrongFalsely : Prop := rightChainsRow.holds Try.pinned (OpenSpec.ofChange rightChainsWrong)

/-- 'mandrellaw10.RightDecides': WHATEVER THE INPUT: true; the input reads as it did. -/
def rightDecidesSpec : ChangeSpec := { name := "rightDecides", fn := fun _ => fun
  | [d] => { results := [.lit (.bool true)], args := [d] }
  | _ => none }
def rightDecidesRow : OpenClaim := { program := "ytdimoehnkagghaa", sum := "896be7f5501002044e0803e0b8031abafb21c6f80ccb73ea9148e91d5960f5c7", func := "mandrel/mandrellaw10.RightDecides", spec := "rightDecides", unfollowed := true, recurses := true, apart := false }
def RightDecidesSaid : Prop := rightDecidesRow.holds Try.pinned (OpenSpec.ofChange rightDecidesSpec)

/-- ITS FALSE NEIGHBOUR: 'it returns false'. Refute it at one input. -/
def rightDecidesWrong : ChangeSpec := { name := "rightDecides", fn := fun _ => fun
  | [d] => { results := [.lit (.bool false)], args := [d] }
  | _ => none }
def RightDecidesWrongFalsely : Prop := rightDecidesRow.holds Try.pinned (OpenSpec.ofChange rightDecidesWrong)

/-- 'mandrellaw10.RightFewest': WHATEVER THE INPUT: true; the input reads as it did. -/
def rightFewestSpec : ChangeSpec := { name := "rightFewest", fn := fun _ => fun
  | [d] => { results := [.lit (.bool true)], args := [d] }
  | _ => none }
def rightFewestRow : OpenClaim := { program := "ytdimoehnkagghaa", sum := "896be7f5501002044e0803e0b8031abafb21c6f80ccb73ea9148e91d5960f5c7", func := "mandrel/mandrellaw10.RightFewest", spec := "rightFewest", unfollowed := true, recurses := true, apart := false }
def RightFewestSaid : Prop := rightFewestRow.holds Try.pinned (OpenSpec.ofChange rightFewestSpec)

/-- ITS FALSE NEIGHBOUR: 'it returns false'. Refute it at one input. -/
def rightFewestWrong : ChangeSpec := { name := "rightFewest", fn := fun _ => fun
  | [d] => { results := [.lit (.bool false)], args := [d] }
  | _ => none }
def RightFewestWrongFalsely : Prop := rightFewestRow.holds Try.pinned (OpenSpec.ofChange rightFewestWrong)

/-- 'mandrellaw10.RightConflicts': WHATEVER THE INPUT: true; the input reads as it did. -/
def rightConflictsSpec : ChangeSpec := { name := "rightConflicts", fn := fun _ => fun
  | [d1, d2] => { results := [.lit (.bool true)], args := [d1, d2] }
  | _ => none }
def rightConflictsRow : OpenClaim := { program := "ytdimoehnkagghaa", sum := "896be7f5501002044e0803e0b8031abafb21c6f80ccb73ea9148e91d5960f5c7", func := "mandrel/mandrellaw10.RightConflicts", spec := "rightConflicts", unfollowed := true, recurses := true, apart := false }
def RightConflictsSaid : Prop := rightConflictsRow.holds Try.pinned (OpenSpec.ofChange rightConflictsSpec)

/-- ITS FALSE NEIGHBOUR: 'it returns false'. Refute it at one input. -/
def rightConflictsWrong : ChangeSpec := { name := "rightConflicts", fn := fun _ => fun
  | [d1, d2] => { results := [.lit (.bool false)], args := [d1, d2] }
  | _ => none }
def RightConflictsWrongFalsely : Prop := rightConflictsRow.holds Try.pinned (OpenSpec.ofChange rightConflictsWrong)

/-- 'mandrellaw10.RightKept': WHATEVER THE INPUT: true; the input reads as it did. -/
def rightKeptSpec : ChangeSpec := { name := "rightKept", fn := fun _ => fun
  | [d1, d2, d3, d4, d5] => { results := [.lit (.bool true)], args := [d1, d2, d3, d4, d5] }
  | _ => none }
def rightKeptRow : OpenClaim := { program := "ytdimoehnkagghaa", sum := "896be7f5501002044e0803e0b8031abafb21c6f80ccb73ea9148e91d5960f5c7", func := "mandrel/mandrellaw10.RightKept", spec := "rightKept", unfollowed := true, recurses := true, apart := false }
def RightKeptSaid : Prop := rightKeptRow.holds Try.pinned (OpenSpec.ofChange rightKeptSpec)

/-- ITS FALSE NEIGHBOUR: 'it returns false'. Refute it at one input. -/
def rightKeptWrong : ChangeSpec := { name := "rightKept", fn := fun _ => fun
  | [d1, d2, d3, d4, d5] => { results := [.lit (.bool false)], args := [d1, d2, d3, d4, d5] }
  | _ => none }
def RightKeptWrongFalsely : Prop := rightKeptRow.holds Try.pinned (OpenSpec.ofChange rightKeptWrong)

/-- 'mandrellaw10.RightNamed': WHATEVER THE INPUT: true; the input reads as it did. -/
def rightNamedSpec : ChangeSpec := { name := "rightNamed", fn := fun _ => fun
  | [d1, d2] => { results := [.lit (.bool true)], args := [d1, d2] }
  | _ => none }
def rightNamedRow : OpenClaim := { program := "ytdimoehnkagghaa", sum := "896be7f5501002044e0803e0b8031abafb21c6f80ccb73ea9148e91d5960f5c7", func := "mandrel/mandrellaw10.RightNamed", spec := "rightNamed", unfollowed := true, recurses := true, apart := false }
def RightNamedSaid : Prop := rightNamedRow.holds Try.pinned (OpenSpec.ofChange rightNamedSpec)

/-- ITS FALSE NEIGHBOUR: 'it returns false'. Refute it at one input. -/
def rightNamedWrong : ChangeSpec := { name := "rightNamed", fn := fun _ => fun
  | [d1, d2] => { results := [.lit (.bool false)], args := [d1, d2] }
  | _ => none }
def RightNamedWrongFalsely : Prop := rightNamedRow.holds Try.pinned (OpenSpec.ofChange rightNamedWrong)

/-- 'mandrellaw10.RightProved': WHATEVER THE INPUT: true; the input reads as it did. -/
def rightProvedSpec : ChangeSpec := { name := "rightProved", fn := fun _ => fun
  | [d1, d2, d3] => { results := [.lit (.bool true)], args := [d1, d2, d3] }
  | _ => none }
def rightProvedRow : OpenClaim := { program := "ytdimoehnkagghaa", sum := "896be7f5501002044e0803e0b8031abafb21c6f80ccb73ea9148e91d5960f5c7", func := "mandrel/mandrellaw10.RightProved", spec := "rightProved", unfollowed := true, recurses := true, apart := false }
def RightProvedSaid : Prop := rightProvedRow.holds Try.pinned (OpenSpec.ofChange rightProvedSpec)

/-- ITS FALSE NEIGHBOUR: 'it returns false'. Refute it at one input. -/
def rightProvedWrong : ChangeSpec := { name := "rightProved", fn := fun _ => fun
  | [d1, d2, d3] => { results := [.lit (.bool false)], args := [d1, d2, d3] }
  | _ => none }
def RightProvedWrongFalsely : Prop := rightProvedRow.holds Try.pinned (OpenSpec.ofChange rightProvedWrong)

/-- 'mandrellaw10.RightLess': WHATEVER THE INPUT: true; the input reads as it did. -/
def rightLessSpec : ChangeSpec := { name := "rightLess", fn := fun _ => fun
  | [d1, d2, d3, d4, d5] => { results := [.lit (.bool true)], args := [d1, d2, d3, d4, d5] }
  | _ => none }
def rightLessRow : OpenClaim := { program := "ytdimoehnkagghaa", sum := "896be7f5501002044e0803e0b8031abafb21c6f80ccb73ea9148e91d5960f5c7", func := "mandrel/mandrellaw10.RightLess", spec := "rightLess", unfollowed := true, recurses := true, apart := false }
def RightLessSaid : Prop := rightLessRow.holds Try.pinned (OpenSpec.ofChange rightLessSpec)

/-- ITS FALSE NEIGHBOUR: 'it returns false'. Refute it at one input. -/
def rightLessWrong : ChangeSpec := { name := "rightLess", fn := fun _ => fun
  | [d1, d2, d3, d4, d5] => { results := [.lit (.bool false)], args := [d1, d2, d3, d4, d5] }
  | _ => none }
def RightLessWrongFalsely : Prop := rightLessRow.holds Try.pinned (OpenSpec.ofChange rightLessWrong)

/-- 'mandrellaw10.RightOrdered': WHATEVER THE INPUT: true; the input reads as it did. -/
def rightOrderedSpec : ChangeSpec := { name := "rightOrdered", fn := fun _ => fun
  | [d1, d2, d3, d4, d5] => { results := [.lit (.bool true)], args := [d1, d2, d3, d4, d5] }
  | _ => none }
def rightOrderedRow : OpenClaim := { program := "ytdimoehnkagghaa", sum := "896be7f5501002044e0803e0b8031abafb21c6f80ccb73ea9148e91d5960f5c7", func := "mandrel/mandrellaw10.RightOrdered", spec := "rightOrdered", unfollowed := true, recurses := true, apart := false }
def RightOrderedSaid : Prop := rightOrderedRow.holds Try.pinned (OpenSpec.ofChange rightOrderedSpec)

/-- ITS FALSE NEIGHBOUR: 'it returns false'. Refute it at one input. -/
def rightOrderedWrong : ChangeSpec := { name := "rightOrdered", fn := fun _ => fun
  | [d1, d2, d3, d4, d5] => { results := [.lit (.bool false)], args := [d1, d2, d3, d4, d5] }
  | _ => none }
def RightOrderedWrongFalsely : Prop := rightOrderedRow.holds Try.pinned (OpenSpec.ofChange rightOrderedWrong)

/-- 'mandrellaw10.RightKnown': WHATEVER THE INPUT: true; the input reads as it did. -/
def rightKnownSpec : ChangeSpec := { name := "rightKnown", fn := fun _ => fun
  | [] => { results := [.lit (.bool true)], args := [] }
  | _ => none }
def rightKnownRow : OpenClaim := { program := "ytdimoehnkagghaa", sum := "896be7f5501002044e0803e0b8031abafb21c6f80ccb73ea9148e91d5960f5c7", func := "mandrel/mandrellaw10.RightKnown", spec := "rightKnown", unfollowed := true, recurses := true, apart := false }
def RightKnownSaid : Prop := rightKnownRow.holds Try.pinned (OpenSpec.ofChange rightKnownSpec)

/-- ITS FALSE NEIGHBOUR: 'it returns false'. Refute it at one input. -/
def rightKnownWrong : ChangeSpec := { name := "rightKnown", fn := fun _ => fun
  | [] => { results := [.lit (.bool false)], args := [] }
  | _ => none }
def RightKnownWrongFalsely : Prop := rightKnownRow.holds Try.pinned (OpenSpec.ofChange rightKnownWrong)

/-- 'mandrellaw10.RightBooks': WHATEVER THE INPUT: true; the input reads as it did. -/
def rightBooksSpec : ChangeSpec := { name := "rightBooks", fn := fun _ => fun
  | [d1, d2] => { results := [.lit (.bool true)], args := [d1, d2] }
  | _ => none }
def rightBooksRow : OpenClaim := { program := "ytdimoehnkagghaa", sum := "896be7f5501002044e0803e0b8031abafb21c6f80ccb73ea9148e91d5960f5c7", func := "mandrel/mandrellaw10.RightBooks", spec := "rightBooks", unfollowed := true, recurses := true, apart := false }
def RightBooksSaid : Prop := rightBooksRow.holds Try.pinned (OpenSpec.ofChange rightBooksSpec)

/-- ITS FALSE NEIGHBOUR: 'it returns false'. Refute it at one input. -/
def rightBooksWrong : ChangeSpec := { name := "rightBooks", fn := fun _ => fun
  | [d1, d2] => { results := [.lit (.bool false)], args := [d1, d2] }
  | _ => none }
def RightBooksWrongFalsely : Prop := rightBooksRow.holds Try.pinned (OpenSpec.ofChange rightBooksWrong)

/- THE SECOND FORM. 'bulk': how many values and letters a reading holds, each counted each time it is reached (what is shared counts as often as it is met; a slice's spare places count too). A statement '..UptoSaid' is the law's where the arguments, and the package variables that the reading takes, are together of bulk at most 1048576: NARROWER than '..Said'. Prove '..Said' where nothing that the law and all that it calls make is longer than what came in: it says more and counts as full. Else prove '..UptoSaid'. A law counts once. -/
mutual
def uptoBulk {H : Type} : DataW H → Nat
  | .lit (.string bytes) => bytes.length + 1
  | .lit _ => 1
  | .nil => 1
  | .ptr d => uptoBulk d + 1
  | .slice elems spare => uptoBulkAll elems + uptoBulkAll spare + 1
  | .agg parts => uptoBulkAll parts + 1
  | .iface _ d => uptoBulk d + 1
  | .map entries => uptoBulkEntries entries + 1
  | .held _ => 1
def uptoBulkAll {H : Type} : List (DataW H) → Nat
  | [] => 0
  | d :: r => uptoBulk d + uptoBulkAll r
def uptoBulkEntries {H : Type} : List (Lit × DataW H) → Nat
  | [] => 0
  | x :: r => uptoBulkEntry x + uptoBulkEntries r
def uptoBulkEntry {H : Type} : Lit × DataW H → Nat
  | (.string bytes, d) => bytes.length + uptoBulk d + 1
  | (_, d) => uptoBulk d + 1
 end
def uptoSmall : (H : Type) → List (DataW H) → Bool := fun _ ds => decide (uptoBulkAll ds ≤ 1048576)
def OpenSpec.upto (s : _root_.Go.ChangeSpec) : _root_.Go.OpenSpec := { _root_.Go.OpenSpec.ofChange s with cond := some uptoSmall }

/-- 'mandrellaw10.RightChains', WHERE WHAT IT READS IS OF BULK AT MOST 1048576: true; the input reads as it did. -/
def rightChainsUptoRow : OpenClaim := { program := "ytdimoehnkagghaa", sum := "896be7f5501002044e0803e0b8031abafb21c6f80ccb73ea9148e91d5960f5c7", func := "mandrel/mandrellaw10.RightChains", spec := "rightChains", unfollowed := true, recurses := true, apart := false, narrowed := true }
def RightChainsUptoSaid : Prop := rightChainsUptoRow.holds Try.pinned (OpenSpec.upto rightChainsSpec)

/-- 'mandrellaw10.RightDecides', WHERE WHAT IT READS IS OF BULK AT MOST 1048576: true; the input reads as it did. -/
def rightDecidesUptoRow : OpenClaim := { program := "ytdimoehnkagghaa", sum := "896be7f5501002044e0803e0b8031abafb21c6f80ccb73ea9148e91d5960f5c7", func := "mandrel/mandrellaw10.RightDecides", spec := "rightDecides", unfollowed := true, recurses := true, apart := false, narrowed := true }
def RightDecidesUptoSaid : Prop := rightDecidesUptoRow.holds Try.pinned (OpenSpec.upto rightDecidesSpec)

/-- 'mandrellaw10.RightFewest', WHERE WHAT IT READS IS OF BULK AT MOST 1048576: true; the input reads as it did. -/
def rightFewestUptoRow : OpenClaim := { program := "ytdimoehnkagghaa", sum := "896be7f5501002044e0803e0b8031abafb21c6f80ccb73ea9148e91d5960f5c7", func := "mandrel/mandrellaw10.RightFewest", spec := "rightFewest", unfollowed := true, recurses := true, apart := false, narrowed := true }
def RightFewestUptoSaid : Prop := rightFewestUptoRow.holds Try.pinned (OpenSpec.upto rightFewestSpec)

/-- 'mandrellaw10.RightConflicts', WHERE WHAT IT READS IS OF BULK AT MOST 1048576: true; the input reads as it did. -/
def rightConflictsUptoRow : OpenClaim := { program := "ytdimoehnkagghaa", sum := "896be7f5501002044e0803e0b8031abafb21c6f80ccb73ea9148e91d5960f5c7", func := "mandrel/mandrellaw10.RightConflicts", spec := "rightConflicts", unfollowed := true, recurses := true, apart := false, narrowed := true }
def RightConflictsUptoSaid : Prop := rightConflictsUptoRow.holds Try.pinned (OpenSpec.upto rightConflictsSpec)

/-- 'mandrellaw10.RightKept', WHERE WHAT IT READS IS OF BULK AT MOST 1048576: true; the input reads as it did. -/
def rightKeptUptoRow : OpenClaim := { program := "ytdimoehnkagghaa", sum := "896be7f5501002044e0803e0b8031abafb21c6f80ccb73ea9148e91d5960f5c7", func := "mandrel/mandrellaw10.RightKept", spec := "rightKept", unfollowed := true, recurses := true, apart := false, narrowed := true }
def RightKeptUptoSaid : Prop := rightKeptUptoRow.holds Try.pinned (OpenSpec.upto rightKeptSpec)

/-- 'mandrellaw10.RightNamed', WHERE WHAT IT READS IS OF BULK AT MOST 1048576: true; the input reads as it did. -/
def rightNamedUptoRow : OpenClaim := { program := "ytdimoehnkagghaa", sum := "896be7f5501002044e0803e0b8031abafb21c6f80ccb73ea9148e91d5960f5c7", func := "mandrel/mandrellaw10.RightNamed", spec := "rightNamed", unfollowed := true, recurses := true, apart := false, narrowed := true }
def RightNamedUptoSaid : Prop := rightNamedUptoRow.holds Try.pinned (OpenSpec.upto rightNamedSpec)

/-- 'mandrellaw10.RightProved', WHERE WHAT IT READS IS OF BULK AT MOST 1048576: true; the input reads as it did. -/
def rightProvedUptoRow : OpenClaim := { program := "ytdimoehnkagghaa", sum := "896be7f5501002044e0803e0b8031abafb21c6f80ccb73ea9148e91d5960f5c7", func := "mandrel/mandrellaw10.RightProved", spec := "rightProved", unfollowed := true, recurses := true, apart := false, narrowed := true }
def RightProvedUptoSaid : Prop := rightProvedUptoRow.holds Try.pinned (OpenSpec.upto rightProvedSpec)

/-- 'mandrellaw10.RightLess', WHERE WHAT IT READS IS OF BULK AT MOST 1048576: true; the input reads as it did. -/
def rightLessUptoRow : OpenClaim := { program := "ytdimoehnkagghaa", sum := "896be7f5501002044e0803e0b8031abafb21c6f80ccb73ea9148e91d5960f5c7", func := "mandrel/mandrellaw10.RightLess", spec := "rightLess", unfollowed := true, recurses := true, apart := false, narrowed := true }
def RightLessUptoSaid : Prop := rightLessUptoRow.holds Try.pinned (OpenSpec.upto rightLessSpec)

/-- 'mandrellaw10.RightOrdered', WHERE WHAT IT READS IS OF BULK AT MOST 1048576: true; the input reads as it did. -/
def rightOrderedUptoRow : OpenClaim := { program := "ytdimoehnkagghaa", sum := "896be7f5501002044e0803e0b8031abafb21c6f80ccb73ea9148e91d5960f5c7", func := "mandrel/mandrellaw10.RightOrdered", spec := "rightOrdered", unfollowed := true, recurses := true, apart := false, narrowed := true }
def RightOrderedUptoSaid : Prop := rightOrderedUptoRow.holds Try.pinned (OpenSpec.upto rightOrderedSpec)

/-- 'mandrellaw10.RightKnown', WHERE WHAT IT READS IS OF BULK AT MOST 1048576: true; the input reads as it did. -/
def rightKnownUptoRow : OpenClaim := { program := "ytdimoehnkagghaa", sum := "896be7f5501002044e0803e0b8031abafb21c6f80ccb73ea9148e91d5960f5c7", func := "mandrel/mandrellaw10.RightKnown", spec := "rightKnown", unfollowed := true, recurses := true, apart := false, narrowed := true }
def RightKnownUptoSaid : Prop := rightKnownUptoRow.holds Try.pinned (OpenSpec.upto rightKnownSpec)

/-- 'mandrellaw10.RightBooks', WHERE WHAT IT READS IS OF BULK AT MOST 1048576: true; the input reads as it did. -/
def rightBooksUptoRow : OpenClaim := { program := "ytdimoehnkagghaa", sum := "896be7f5501002044e0803e0b8031abafb21c6f80ccb73ea9148e91d5960f5c7", func := "mandrel/mandrellaw10.RightBooks", spec := "rightBooks", unfollowed := true, recurses := true, apart := false, narrowed := true }
def RightBooksUptoSaid : Prop := rightBooksUptoRow.holds Try.pinned (OpenSpec.upto rightBooksSpec)

end Rows
end Go.Proofs.Ytdimoehnkagghaa
