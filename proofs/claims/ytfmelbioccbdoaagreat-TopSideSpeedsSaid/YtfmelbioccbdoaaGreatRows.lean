/-
  No cell of these rows narrows 'for every input' (looked for: loops, veiled, ifaces, maps, wideKeys, modest, calm, conditions, laid).
  DERIVED. THE GIVEN ROWS OF THIS SEAT. 11 by the template 'for every input the law returns true; each argument reads behind the call as it read before'; 0 by the template 'total and deterministic' (their statements: YtfmelbioccbdoaaGreatTotals.lean).
  GIVEN WITH THE SEED: the statements are not yours to turn. If you find one false, say at which input.
  Laid BY PROGRAM, IN A SANDBOX (cutbox-rows.mjs): the forced cells as the released guide's own fill.sh prints them over the translation 31cf3e4a143202b6… (all of the seat's roots in one cut). By AI agents, Wed Nov 11 2026. No macro, syntax, notation, axiom, sorry.
-/
import Derived.Test.YtfmelbioccbdoaaGreatChecked
import GoSem.Claim
import GoSem.ClaimJoined
import GoSem.ClaimMapViews
import Derived.JoinedTies
import Derived.KernelRfl
namespace Go.Proofs.YtfmelbioccbdoaaGreat
/- THE CELL 'sum', in the pinned program and in every row, IS THE sha256 OF THE DUMP (.gsa) THAT YtfmelbioccbdoaaGreatProg.lean LOADS. Nothing in Lean hashes anything: it is a label: what it is worth is what the hold of that sum in a sandbox is worth. -/
noncomputable def Tryz.pinned : Pinned := { name := "ytfmelbioccbdoaagreat", sum := "31cf3e4a143202b620bd1f517f5954dc26db0221e3fe387ca2daf41a0a119adc", checked := Tryz.checked }
namespace Rows
def none {H : Type} : Left H := { results := [], args := [] }

/-- 'mandreltop.TopSungSteps': WHATEVER THE INPUT: true; the input reads as it did. -/
def topSungStepsSpec : ChangeSpec := { name := "topSungSteps", fn := fun _ => fun
  | [d1, d2, d3] => { results := [.lit (.bool true)], args := [d1, d2, d3] }
  | _ => none }
def topSungStepsRow : OpenClaim := { program := "ytfmelbioccbdoaagreat", sum := "31cf3e4a143202b620bd1f517f5954dc26db0221e3fe387ca2daf41a0a119adc", func := "mandrel/mandreltop.TopSungSteps", spec := "topSungSteps", unfollowed := true, recurses := true, plainKeys := false, apart := false }
def TopSungStepsSaid : Prop := topSungStepsRow.holds Tryz.pinned (OpenSpec.ofChange topSungStepsSpec)

/-- ITS FALSE NEIGHBOUR: 'it returns false'. Refute it at one input. -/
def topSungStepsWrong : ChangeSpec := { name := "topSungSteps", fn := fun _ => fun
  | [d1, d2, d3] => { results := [.lit (.bool false)], args := [d1, d2, d3] }
  | _ => none }
def TopSungStepsWrongFalsely : Prop := topSungStepsRow.holds Tryz.pinned (OpenSpec.ofChange topSungStepsWrong)

/-- 'mandreltop.TopJoinedDepths': WHATEVER THE INPUT: true; the input reads as it did. -/
def topJoinedDepthsSpec : ChangeSpec := { name := "topJoinedDepths", fn := fun _ => fun
  | [d1, d2] => { results := [.lit (.bool true)], args := [d1, d2] }
  | _ => none }
def topJoinedDepthsRow : OpenClaim := { program := "ytfmelbioccbdoaagreat", sum := "31cf3e4a143202b620bd1f517f5954dc26db0221e3fe387ca2daf41a0a119adc", func := "mandrel/mandreltop.TopJoinedDepths", spec := "topJoinedDepths", unfollowed := true, recurses := true, plainKeys := false, apart := false }
def TopJoinedDepthsSaid : Prop := topJoinedDepthsRow.holds Tryz.pinned (OpenSpec.ofChange topJoinedDepthsSpec)

/-- ITS FALSE NEIGHBOUR: 'it returns false'. Refute it at one input. -/
def topJoinedDepthsWrong : ChangeSpec := { name := "topJoinedDepths", fn := fun _ => fun
  | [d1, d2] => { results := [.lit (.bool false)], args := [d1, d2] }
  | _ => none }
def TopJoinedDepthsWrongFalsely : Prop := topJoinedDepthsRow.holds Tryz.pinned (OpenSpec.ofChange topJoinedDepthsWrong)

/-- 'mandreltop.TopSharedEnds': WHATEVER THE INPUT: true; the input reads as it did. -/
def topSharedEndsSpec : ChangeSpec := { name := "topSharedEnds", fn := fun _ => fun
  | [d1, d2] => { results := [.lit (.bool true)], args := [d1, d2] }
  | _ => none }
def topSharedEndsRow : OpenClaim := { program := "ytfmelbioccbdoaagreat", sum := "31cf3e4a143202b620bd1f517f5954dc26db0221e3fe387ca2daf41a0a119adc", func := "mandrel/mandreltop.TopSharedEnds", spec := "topSharedEnds", unfollowed := true, recurses := true, plainKeys := false, apart := false }
def TopSharedEndsSaid : Prop := topSharedEndsRow.holds Tryz.pinned (OpenSpec.ofChange topSharedEndsSpec)

/-- ITS FALSE NEIGHBOUR: 'it returns false'. Refute it at one input. -/
def topSharedEndsWrong : ChangeSpec := { name := "topSharedEnds", fn := fun _ => fun
  | [d1, d2] => { results := [.lit (.bool false)], args := [d1, d2] }
  | _ => none }
def TopSharedEndsWrongFalsely : Prop := topSharedEndsRow.holds Tryz.pinned (OpenSpec.ofChange topSharedEndsWrong)

/-- 'mandreltop.TopSharedWords': WHATEVER THE INPUT: true; the input reads as it did. -/
def topSharedWordsSpec : ChangeSpec := { name := "topSharedWords", fn := fun _ => fun
  | [d1, d2, d3, d4] => { results := [.lit (.bool true)], args := [d1, d2, d3, d4] }
  | _ => none }
def topSharedWordsRow : OpenClaim := { program := "ytfmelbioccbdoaagreat", sum := "31cf3e4a143202b620bd1f517f5954dc26db0221e3fe387ca2daf41a0a119adc", func := "mandrel/mandreltop.TopSharedWords", spec := "topSharedWords", unfollowed := true, recurses := true, plainKeys := false, apart := false }
def TopSharedWordsSaid : Prop := topSharedWordsRow.holds Tryz.pinned (OpenSpec.ofChange topSharedWordsSpec)

/-- ITS FALSE NEIGHBOUR: 'it returns false'. Refute it at one input. -/
def topSharedWordsWrong : ChangeSpec := { name := "topSharedWords", fn := fun _ => fun
  | [d1, d2, d3, d4] => { results := [.lit (.bool false)], args := [d1, d2, d3, d4] }
  | _ => none }
def TopSharedWordsWrongFalsely : Prop := topSharedWordsRow.holds Tryz.pinned (OpenSpec.ofChange topSharedWordsWrong)

/-- 'mandreltop.TopLeastLevels': WHATEVER THE INPUT: true; the input reads as it did. -/
def topLeastLevelsSpec : ChangeSpec := { name := "topLeastLevels", fn := fun _ => fun
  | [d1, d2, d3, d4] => { results := [.lit (.bool true)], args := [d1, d2, d3, d4] }
  | _ => none }
def topLeastLevelsRow : OpenClaim := { program := "ytfmelbioccbdoaagreat", sum := "31cf3e4a143202b620bd1f517f5954dc26db0221e3fe387ca2daf41a0a119adc", func := "mandrel/mandreltop.TopLeastLevels", spec := "topLeastLevels", unfollowed := true, recurses := true, plainKeys := false, apart := false }
def TopLeastLevelsSaid : Prop := topLeastLevelsRow.holds Tryz.pinned (OpenSpec.ofChange topLeastLevelsSpec)

/-- ITS FALSE NEIGHBOUR: 'it returns false'. Refute it at one input. -/
def topLeastLevelsWrong : ChangeSpec := { name := "topLeastLevels", fn := fun _ => fun
  | [d1, d2, d3, d4] => { results := [.lit (.bool false)], args := [d1, d2, d3, d4] }
  | _ => none }
def TopLeastLevelsWrongFalsely : Prop := topLeastLevelsRow.holds Tryz.pinned (OpenSpec.ofChange topLeastLevelsWrong)

/-- 'mandreltop.TopHeardLists': WHATEVER THE INPUT: true; the input reads as it did. -/
def topHeardListsSpec : ChangeSpec := { name := "topHeardLists", fn := fun _ => fun
  | [d1, d2, d3] => { results := [.lit (.bool true)], args := [d1, d2, d3] }
  | _ => none }
def topHeardListsRow : OpenClaim := { program := "ytfmelbioccbdoaagreat", sum := "31cf3e4a143202b620bd1f517f5954dc26db0221e3fe387ca2daf41a0a119adc", func := "mandrel/mandreltop.TopHeardLists", spec := "topHeardLists", unfollowed := true, recurses := true, plainKeys := false, apart := false }
def TopHeardListsSaid : Prop := topHeardListsRow.holds Tryz.pinned (OpenSpec.ofChange topHeardListsSpec)

/-- ITS FALSE NEIGHBOUR: 'it returns false'. Refute it at one input. -/
def topHeardListsWrong : ChangeSpec := { name := "topHeardLists", fn := fun _ => fun
  | [d1, d2, d3] => { results := [.lit (.bool false)], args := [d1, d2, d3] }
  | _ => none }
def TopHeardListsWrongFalsely : Prop := topHeardListsRow.holds Tryz.pinned (OpenSpec.ofChange topHeardListsWrong)

/-- 'mandreltop.TopStepLists': WHATEVER THE INPUT: true; the input reads as it did. -/
def topStepListsSpec : ChangeSpec := { name := "topStepLists", fn := fun _ => fun
  | [d] => { results := [.lit (.bool true)], args := [d] }
  | _ => none }
def topStepListsRow : OpenClaim := { program := "ytfmelbioccbdoaagreat", sum := "31cf3e4a143202b620bd1f517f5954dc26db0221e3fe387ca2daf41a0a119adc", func := "mandrel/mandreltop.TopStepLists", spec := "topStepLists", unfollowed := true, recurses := true, plainKeys := false, apart := false }
def TopStepListsSaid : Prop := topStepListsRow.holds Tryz.pinned (OpenSpec.ofChange topStepListsSpec)

/-- ITS FALSE NEIGHBOUR: 'it returns false'. Refute it at one input. -/
def topStepListsWrong : ChangeSpec := { name := "topStepLists", fn := fun _ => fun
  | [d] => { results := [.lit (.bool false)], args := [d] }
  | _ => none }
def TopStepListsWrongFalsely : Prop := topStepListsRow.holds Tryz.pinned (OpenSpec.ofChange topStepListsWrong)

/-- 'mandreltop.TopPieceLists': WHATEVER THE INPUT: true; the input reads as it did. -/
def topPieceListsSpec : ChangeSpec := { name := "topPieceLists", fn := fun _ => fun
  | [d1, d2] => { results := [.lit (.bool true)], args := [d1, d2] }
  | _ => none }
def topPieceListsRow : OpenClaim := { program := "ytfmelbioccbdoaagreat", sum := "31cf3e4a143202b620bd1f517f5954dc26db0221e3fe387ca2daf41a0a119adc", func := "mandrel/mandreltop.TopPieceLists", spec := "topPieceLists", unfollowed := true, recurses := true, plainKeys := false, apart := false }
def TopPieceListsSaid : Prop := topPieceListsRow.holds Tryz.pinned (OpenSpec.ofChange topPieceListsSpec)

/-- ITS FALSE NEIGHBOUR: 'it returns false'. Refute it at one input. -/
def topPieceListsWrong : ChangeSpec := { name := "topPieceLists", fn := fun _ => fun
  | [d1, d2] => { results := [.lit (.bool false)], args := [d1, d2] }
  | _ => none }
def TopPieceListsWrongFalsely : Prop := topPieceListsRow.holds Tryz.pinned (OpenSpec.ofChange topPieceListsWrong)

/-- 'mandreltop.TopJoinedWords': WHATEVER THE INPUT: true; the input reads as it did. -/
def topJoinedWordsSpec : ChangeSpec := { name := "topJoinedWords", fn := fun _ => fun
  | [d1, d2, d3] => { results := [.lit (.bool true)], args := [d1, d2, d3] }
  | _ => none }
def topJoinedWordsRow : OpenClaim := { program := "ytfmelbioccbdoaagreat", sum := "31cf3e4a143202b620bd1f517f5954dc26db0221e3fe387ca2daf41a0a119adc", func := "mandrel/mandreltop.TopJoinedWords", spec := "topJoinedWords", unfollowed := true, recurses := true, plainKeys := false, apart := false }
def TopJoinedWordsSaid : Prop := topJoinedWordsRow.holds Tryz.pinned (OpenSpec.ofChange topJoinedWordsSpec)

/-- ITS FALSE NEIGHBOUR: 'it returns false'. Refute it at one input. -/
def topJoinedWordsWrong : ChangeSpec := { name := "topJoinedWords", fn := fun _ => fun
  | [d1, d2, d3] => { results := [.lit (.bool false)], args := [d1, d2, d3] }
  | _ => none }
def TopJoinedWordsWrongFalsely : Prop := topJoinedWordsRow.holds Tryz.pinned (OpenSpec.ofChange topJoinedWordsWrong)

/-- 'mandreltop.TopSideSpeeds': WHATEVER THE INPUT: true; the input reads as it did. -/
def topSideSpeedsSpec : ChangeSpec := { name := "topSideSpeeds", fn := fun _ => fun
  | [d] => { results := [.lit (.bool true)], args := [d] }
  | _ => none }
def topSideSpeedsRow : OpenClaim := { program := "ytfmelbioccbdoaagreat", sum := "31cf3e4a143202b620bd1f517f5954dc26db0221e3fe387ca2daf41a0a119adc", func := "mandrel/mandreltop.TopSideSpeeds", spec := "topSideSpeeds", unfollowed := true, recurses := true, plainKeys := false, apart := false }
def TopSideSpeedsSaid : Prop := topSideSpeedsRow.holds Tryz.pinned (OpenSpec.ofChange topSideSpeedsSpec)

/-- ITS FALSE NEIGHBOUR: 'it returns false'. Refute it at one input. -/
def topSideSpeedsWrong : ChangeSpec := { name := "topSideSpeeds", fn := fun _ => fun
  | [d] => { results := [.lit (.bool false)], args := [d] }
  | _ => none }
def TopSideSpeedsWrongFalsely : Prop := topSideSpeedsRow.holds Tryz.pinned (OpenSpec.ofChange topSideSpeedsWrong)

/-- 'mandreltop.TopGroupedTones': WHATEVER THE INPUT: true; the input reads as it did. -/
def topGroupedTonesSpec : ChangeSpec := { name := "topGroupedTones", fn := fun _ => fun
  | [d1, d2, d3] => { results := [.lit (.bool true)], args := [d1, d2, d3] }
  | _ => none }
def topGroupedTonesRow : OpenClaim := { program := "ytfmelbioccbdoaagreat", sum := "31cf3e4a143202b620bd1f517f5954dc26db0221e3fe387ca2daf41a0a119adc", func := "mandrel/mandreltop.TopGroupedTones", spec := "topGroupedTones", unfollowed := true, recurses := true, plainKeys := false, apart := false }
def TopGroupedTonesSaid : Prop := topGroupedTonesRow.holds Tryz.pinned (OpenSpec.ofChange topGroupedTonesSpec)

/-- ITS FALSE NEIGHBOUR: 'it returns false'. Refute it at one input. -/
def topGroupedTonesWrong : ChangeSpec := { name := "topGroupedTones", fn := fun _ => fun
  | [d1, d2, d3] => { results := [.lit (.bool false)], args := [d1, d2, d3] }
  | _ => none }
def TopGroupedTonesWrongFalsely : Prop := topGroupedTonesRow.holds Tryz.pinned (OpenSpec.ofChange topGroupedTonesWrong)

/- THE SECOND FORM. 'bulk': how many values and letters a reading holds, each counted each time it is reached (what is shared counts as often as it is met; a slice's spare places count too). A statement '..UptoSaid' is the law's where the arguments, and the package variables that the reading takes, are together of bulk at most 1048576: NARROWER than '..Said'. Prove '..Said' where nothing that the law and all that it calls make is longer than what came in: it says more and counts as full. Else prove '..UptoSaid'. A law counts once. -/
mutual
def uptoBulk {H : Type} : DataW H → Nat
  | .lit (.string bytes) => bytes.length + 1
  | .lit _ => 1
  | .nil => 1
  | .ptr d => uptoBulk d + 1
  | .slice elems spare => uptoBulkAll elems + uptoBulkAll spare + 1
  | .agg parts => uptoBulkAll parts + 1
  | .iface _ d => uptoBulk d + 1
  | .map entries => uptoBulkEntries entries + 1
  | .held _ => 1
def uptoBulkAll {H : Type} : List (DataW H) → Nat
  | [] => 0
  | d :: r => uptoBulk d + uptoBulkAll r
def uptoBulkEntries {H : Type} : List (Lit × DataW H) → Nat
  | [] => 0
  | x :: r => uptoBulkEntry x + uptoBulkEntries r
def uptoBulkEntry {H : Type} : Lit × DataW H → Nat
  | (.string bytes, d) => bytes.length + uptoBulk d + 1
  | (_, d) => uptoBulk d + 1
 end
def uptoSmall : (H : Type) → List (DataW H) → Bool := fun _ ds => decide (uptoBulkAll ds ≤ 1048576)
def OpenSpec.upto (s : _root_.Go.ChangeSpec) : _root_.Go.OpenSpec := { _root_.Go.OpenSpec.ofChange s with cond := some uptoSmall }

/-- 'mandreltop.TopSungSteps', WHERE WHAT IT READS IS OF BULK AT MOST 1048576: true; the input reads as it did. -/
def topSungStepsUptoRow : OpenClaim := { program := "ytfmelbioccbdoaagreat", sum := "31cf3e4a143202b620bd1f517f5954dc26db0221e3fe387ca2daf41a0a119adc", func := "mandrel/mandreltop.TopSungSteps", spec := "topSungSteps", unfollowed := true, recurses := true, plainKeys := false, apart := false, narrowed := true }
def TopSungStepsUptoSaid : Prop := topSungStepsUptoRow.holds Tryz.pinned (OpenSpec.upto topSungStepsSpec)

/-- 'mandreltop.TopJoinedDepths', WHERE WHAT IT READS IS OF BULK AT MOST 1048576: true; the input reads as it did. -/
def topJoinedDepthsUptoRow : OpenClaim := { program := "ytfmelbioccbdoaagreat", sum := "31cf3e4a143202b620bd1f517f5954dc26db0221e3fe387ca2daf41a0a119adc", func := "mandrel/mandreltop.TopJoinedDepths", spec := "topJoinedDepths", unfollowed := true, recurses := true, plainKeys := false, apart := false, narrowed := true }
def TopJoinedDepthsUptoSaid : Prop := topJoinedDepthsUptoRow.holds Tryz.pinned (OpenSpec.upto topJoinedDepthsSpec)

/-- 'mandreltop.TopSharedEnds', WHERE WHAT IT READS IS OF BULK AT MOST 1048576: true; the input reads as it did. -/
def topSharedEndsUptoRow : OpenClaim := { program := "ytfmelbioccbdoaagreat", sum := "31cf3e4a143202b620bd1f517f5954dc26db0221e3fe387ca2daf41a0a119adc", func := "mandrel/mandreltop.TopSharedEnds", spec := "topSharedEnds", unfollowed := true, recurses := true, plainKeys := false, apart := false, narrowed := true }
def TopSharedEndsUptoSaid : Prop := topSharedEndsUptoRow.holds Tryz.pinned (OpenSpec.upto topSharedEndsSpec)

/-- 'mandreltop.TopSharedWords', WHERE WHAT IT READS IS OF BULK AT MOST 1048576: true; the input reads as it did. -/
def topSharedWordsUptoRow : OpenClaim := { program := "ytfmelbioccbdoaagreat", sum := "31cf3e4a143202b620bd1f517f5954dc26db0221e3fe387ca2daf41a0a119adc", func := "mandrel/mandreltop.TopSharedWords", spec := "topSharedWords", unfollowed := true, recurses := true, plainKeys := false, apart := false, narrowed := true }
def TopSharedWordsUptoSaid : Prop := topSharedWordsUptoRow.holds Tryz.pinned (OpenSpec.upto topSharedWordsSpec)

/-- 'mandreltop.TopLeastLevels', WHERE WHAT IT READS IS OF BULK AT MOST 1048576: true; the input reads as it did. -/
def topLeastLevelsUptoRow : OpenClaim := { program := "ytfmelbioccbdoaagreat", sum := "31cf3e4a143202b620bd1f517f5954dc26db0221e3fe387ca2daf41a0a119adc", func := "mandrel/mandreltop.TopLeastLevels", spec := "topLeastLevels", unfollowed := true, recurses := true, plainKeys := false, apart := false, narrowed := true }
def TopLeastLevelsUptoSaid : Prop := topLeastLevelsUptoRow.holds Tryz.pinned (OpenSpec.upto topLeastLevelsSpec)

/-- 'mandreltop.TopHeardLists', WHERE WHAT IT READS IS OF BULK AT MOST 1048576: true; the input reads as it did. -/
def topHeardListsUptoRow : OpenClaim := { program := "ytfmelbioccbdoaagreat", sum := "31cf3e4a143202b620bd1f517f5954dc26db0221e3fe387ca2daf41a0a119adc", func := "mandrel/mandreltop.TopHeardLists", spec := "topHeardLists", unfollowed := true, recurses := true, plainKeys := false, apart := false, narrowed := true }
def TopHeardListsUptoSaid : Prop := topHeardListsUptoRow.holds Tryz.pinned (OpenSpec.upto topHeardListsSpec)

/-- 'mandreltop.TopStepLists', WHERE WHAT IT READS IS OF BULK AT MOST 1048576: true; the input reads as it did. -/
def topStepListsUptoRow : OpenClaim := { program := "ytfmelbioccbdoaagreat", sum := "31cf3e4a143202b620bd1f517f5954dc26db0221e3fe387ca2daf41a0a119adc", func := "mandrel/mandreltop.TopStepLists", spec := "topStepLists", unfollowed := true, recurses := true, plainKeys := false, apart := false, narrowed := true }
def TopStepListsUptoSaid : Prop := topStepListsUptoRow.holds Tryz.pinned (OpenSpec.upto topStepListsSpec)

/-- 'mandreltop.TopPieceLists', WHERE WHAT IT READS IS OF BULK AT MOST 1048576: true; the input reads as it did. -/
def topPieceListsUptoRow : OpenClaim := { program := "ytfmelbioccbdoaagreat", sum := "31cf3e4a143202b620bd1f517f5954dc26db0221e3fe387ca2daf41a0a119adc", func := "mandrel/mandreltop.TopPieceLists", spec := "topPieceLists", unfollowed := true, recurses := true, plainKeys := false, apart := false, narrowed := true }
def TopPieceListsUptoSaid : Prop := topPieceListsUptoRow.holds Tryz.pinned (OpenSpec.upto topPieceListsSpec)

/-- 'mandreltop.TopJoinedWords', WHERE WHAT IT READS IS OF BULK AT MOST 1048576: true; the input reads as it did. -/
def topJoinedWordsUptoRow : OpenClaim := { program := "ytfmelbioccbdoaagreat", sum := "31cf3e4a143202b620bd1f517f5954dc26db0221e3fe387ca2daf41a0a119adc", func := "mandrel/mandreltop.TopJoinedWords", spec := "topJoinedWords", unfollowed := true, recurses := true, plainKeys := false, apart := false, narrowed := true }
def TopJoinedWordsUptoSaid : Prop := topJoinedWordsUptoRow.holds Tryz.pinned (OpenSpec.upto topJoinedWordsSpec)

/-- 'mandreltop.TopSideSpeeds', WHERE WHAT IT READS IS OF BULK AT MOST 1048576: true; the input reads as it did. -/
def topSideSpeedsUptoRow : OpenClaim := { program := "ytfmelbioccbdoaagreat", sum := "31cf3e4a143202b620bd1f517f5954dc26db0221e3fe387ca2daf41a0a119adc", func := "mandrel/mandreltop.TopSideSpeeds", spec := "topSideSpeeds", unfollowed := true, recurses := true, plainKeys := false, apart := false, narrowed := true }
def TopSideSpeedsUptoSaid : Prop := topSideSpeedsUptoRow.holds Tryz.pinned (OpenSpec.upto topSideSpeedsSpec)

/-- 'mandreltop.TopGroupedTones', WHERE WHAT IT READS IS OF BULK AT MOST 1048576: true; the input reads as it did. -/
def topGroupedTonesUptoRow : OpenClaim := { program := "ytfmelbioccbdoaagreat", sum := "31cf3e4a143202b620bd1f517f5954dc26db0221e3fe387ca2daf41a0a119adc", func := "mandrel/mandreltop.TopGroupedTones", spec := "topGroupedTones", unfollowed := true, recurses := true, plainKeys := false, apart := false, narrowed := true }
def TopGroupedTonesUptoSaid : Prop := topGroupedTonesUptoRow.holds Tryz.pinned (OpenSpec.upto topGroupedTonesSpec)

end Rows
end Go.Proofs.YtfmelbioccbdoaaGreat
