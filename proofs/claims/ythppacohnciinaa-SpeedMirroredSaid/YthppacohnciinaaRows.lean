/-
  No cell of these rows narrows 'for every input' (looked for: loops, veiled, ifaces, maps, wideKeys, modest, calm, conditions, laid).
  DERIVED. THE GIVEN ROWS OF THIS SEAT. 11 by the template 'for every input the law returns true; each argument reads behind the call as it read before'; 0 by the template 'total and deterministic' (their statements: YthppacohnciinaaTotals.lean).
  GIVEN WITH THE SEED: the statements are not yours to turn. If you find one false, say at which input.
  Laid BY PROGRAM, IN A SANDBOX (cutbox-rows.mjs): the forced cells as the released guide's own fill.sh prints them over the translation 0af23743e0af7c29… (all of the seat's roots in one cut). By AI agents, Wed Nov 11 2026. No macro, syntax, notation, axiom, sorry.
-/
import Derived.Test.YthppacohnciinaaChecked
import GoSem.Claim
import GoSem.ClaimJoined
import GoSem.ClaimMapViews
import Derived.JoinedTies
import Derived.KernelRfl
namespace Go.Proofs.Ythppacohnciinaa
/- THE CELL 'sum', in the pinned program and in every row, IS THE sha256 OF THE DUMP (.gsa) THAT YthppacohnciinaaProg.lean LOADS. Nothing in Lean hashes anything: it is a label: what it is worth is what the hold of that sum in a sandbox is worth. -/
noncomputable def Try.pinned : Pinned := { name := "ythppacohnciinaa", sum := "0af23743e0af7c29575ec6108dfeed38e8c5959e5ac520189bb18e1803601146", checked := Try.checked }
namespace Rows
def none {H : Type} : Left H := { results := [], args := [] }

/-- 'mandrellaw01.SpeedSpans': WHATEVER THE INPUT: true; the input reads as it did. -/
def speedSpansSpec : ChangeSpec := { name := "speedSpans", fn := fun _ => fun
  | [d1, d2, d3, d4, d5] => { results := [.lit (.bool true)], args := [d1, d2, d3, d4, d5] }
  | _ => none }
def speedSpansRow : OpenClaim := { program := "ythppacohnciinaa", sum := "0af23743e0af7c29575ec6108dfeed38e8c5959e5ac520189bb18e1803601146", func := "mandrel/mandrellaw01.SpeedSpans", spec := "speedSpans", unfollowed := true, recurses := true, apart := false }
def SpeedSpansSaid : Prop := speedSpansRow.holds Try.pinned (OpenSpec.ofChange speedSpansSpec)

/-- ITS FALSE NEIGHBOUR: 'it returns false'. Refute it at one input. -/
def speedSpansWrong : ChangeSpec := { name := "speedSpans", fn := fun _ => fun
  | [d1, d2, d3, d4, d5] => { results := [.lit (.bool false)], args := [d1, d2, d3, d4, d5] }
  | _ => none }
def SpeedSpansWrongFalsely : Prop := speedSpansRow.holds Try.pinned (OpenSpec.ofChange speedSpansWrong)

/-- 'mandrellaw01.SpeedPipes': WHATEVER THE INPUT: true; the input reads as it did. -/
def speedPipesSpec : ChangeSpec := { name := "speedPipes", fn := fun _ => fun
  | [d1, d2, d3, d4, d5] => { results := [.lit (.bool true)], args := [d1, d2, d3, d4, d5] }
  | _ => none }
def speedPipesRow : OpenClaim := { program := "ythppacohnciinaa", sum := "0af23743e0af7c29575ec6108dfeed38e8c5959e5ac520189bb18e1803601146", func := "mandrel/mandrellaw01.SpeedPipes", spec := "speedPipes", unfollowed := true, recurses := true, apart := false }
def SpeedPipesSaid : Prop := speedPipesRow.holds Try.pinned (OpenSpec.ofChange speedPipesSpec)

/-- ITS FALSE NEIGHBOUR: 'it returns false'. Refute it at one input. -/
def speedPipesWrong : ChangeSpec := { name := "speedPipes", fn := fun _ => fun
  | [d1, d2, d3, d4, d5] => { results := [.lit (.bool false)], args := [d1, d2, d3, d4, d5] }
  | _ => none }
def SpeedPipesWrongFalsely : Prop := speedPipesRow.holds Try.pinned (OpenSpec.ofChange speedPipesWrong)

/-- 'mandrellaw01.SpeedHeld': WHATEVER THE INPUT: true; the input reads as it did. -/
def speedHeldSpec : ChangeSpec := { name := "speedHeld", fn := fun _ => fun
  | [d1, d2, d3, d4] => { results := [.lit (.bool true)], args := [d1, d2, d3, d4] }
  | _ => none }
def speedHeldRow : OpenClaim := { program := "ythppacohnciinaa", sum := "0af23743e0af7c29575ec6108dfeed38e8c5959e5ac520189bb18e1803601146", func := "mandrel/mandrellaw01.SpeedHeld", spec := "speedHeld", unfollowed := true, recurses := true, apart := false }
def SpeedHeldSaid : Prop := speedHeldRow.holds Try.pinned (OpenSpec.ofChange speedHeldSpec)

/-- ITS FALSE NEIGHBOUR: 'it returns false'. Refute it at one input. -/
def speedHeldWrong : ChangeSpec := { name := "speedHeld", fn := fun _ => fun
  | [d1, d2, d3, d4] => { results := [.lit (.bool false)], args := [d1, d2, d3, d4] }
  | _ => none }
def SpeedHeldWrongFalsely : Prop := speedHeldRow.holds Try.pinned (OpenSpec.ofChange speedHeldWrong)

/-- 'mandrellaw01.SpeedNarrower': WHATEVER THE INPUT: true; the input reads as it did. -/
def speedNarrowerSpec : ChangeSpec := { name := "speedNarrower", fn := fun _ => fun
  | [d1, d2, d3, d4] => { results := [.lit (.bool true)], args := [d1, d2, d3, d4] }
  | _ => none }
def speedNarrowerRow : OpenClaim := { program := "ythppacohnciinaa", sum := "0af23743e0af7c29575ec6108dfeed38e8c5959e5ac520189bb18e1803601146", func := "mandrel/mandrellaw01.SpeedNarrower", spec := "speedNarrower", unfollowed := true, recurses := true, apart := false }
def SpeedNarrowerSaid : Prop := speedNarrowerRow.holds Try.pinned (OpenSpec.ofChange speedNarrowerSpec)

/-- ITS FALSE NEIGHBOUR: 'it returns false'. Refute it at one input. -/
def speedNarrowerWrong : ChangeSpec := { name := "speedNarrower", fn := fun _ => fun
  | [d1, d2, d3, d4] => { results := [.lit (.bool false)], args := [d1, d2, d3, d4] }
  | _ => none }
def SpeedNarrowerWrongFalsely : Prop := speedNarrowerRow.holds Try.pinned (OpenSpec.ofChange speedNarrowerWrong)

/-- 'mandrellaw01.SpeedMirrored': WHATEVER THE INPUT: true; the input reads as it did. -/
def speedMirroredSpec : ChangeSpec := { name := "speedMirrored", fn := fun _ => fun
  | [d1, d2, d3] => { results := [.lit (.bool true)], args := [d1, d2, d3] }
  | _ => none }
def speedMirroredRow : OpenClaim := { program := "ythppacohnciinaa", sum := "0af23743e0af7c29575ec6108dfeed38e8c5959e5ac520189bb18e1803601146", func := "mandrel/mandrellaw01.SpeedMirrored", spec := "speedMirrored", unfollowed := true, recurses := true, apart := false }
def SpeedMirroredSaid : Prop := speedMirroredRow.holds Try.pinned (OpenSpec.ofChange speedMirroredSpec)

/-- ITS FALSE NEIGHBOUR: 'it returns false'. Refute it at one input. -/
def speedMirroredWrong : ChangeSpec := { name := "speedMirrored", fn := fun _ => fun
  | [d1, d2, d3] => { results := [.lit (.bool false)], args := [d1, d2, d3] }
  | _ => none }
def SpeedMirroredWrongFalsely : Prop := speedMirroredRow.holds Try.pinned (OpenSpec.ofChange speedMirroredWrong)

/-- 'mandrellaw01.SpeedHeard': WHATEVER THE INPUT: true; the input reads as it did. -/
def speedHeardSpec : ChangeSpec := { name := "speedHeard", fn := fun _ => fun
  | [d1, d2, d3, d4] => { results := [.lit (.bool true)], args := [d1, d2, d3, d4] }
  | _ => none }
def speedHeardRow : OpenClaim := { program := "ythppacohnciinaa", sum := "0af23743e0af7c29575ec6108dfeed38e8c5959e5ac520189bb18e1803601146", func := "mandrel/mandrellaw01.SpeedHeard", spec := "speedHeard", unfollowed := true, recurses := true, apart := false }
def SpeedHeardSaid : Prop := speedHeardRow.holds Try.pinned (OpenSpec.ofChange speedHeardSpec)

/-- ITS FALSE NEIGHBOUR: 'it returns false'. Refute it at one input. -/
def speedHeardWrong : ChangeSpec := { name := "speedHeard", fn := fun _ => fun
  | [d1, d2, d3, d4] => { results := [.lit (.bool false)], args := [d1, d2, d3, d4] }
  | _ => none }
def SpeedHeardWrongFalsely : Prop := speedHeardRow.holds Try.pinned (OpenSpec.ofChange speedHeardWrong)

/-- 'mandrellaw01.SpeedSheets': WHATEVER THE INPUT: true; the input reads as it did. -/
def speedSheetsSpec : ChangeSpec := { name := "speedSheets", fn := fun _ => fun
  | [d1, d2] => { results := [.lit (.bool true)], args := [d1, d2] }
  | _ => none }
def speedSheetsRow : OpenClaim := { program := "ythppacohnciinaa", sum := "0af23743e0af7c29575ec6108dfeed38e8c5959e5ac520189bb18e1803601146", func := "mandrel/mandrellaw01.SpeedSheets", spec := "speedSheets", unfollowed := true, recurses := true, apart := false }
def SpeedSheetsSaid : Prop := speedSheetsRow.holds Try.pinned (OpenSpec.ofChange speedSheetsSpec)

/-- ITS FALSE NEIGHBOUR: 'it returns false'. Refute it at one input. -/
def speedSheetsWrong : ChangeSpec := { name := "speedSheets", fn := fun _ => fun
  | [d1, d2] => { results := [.lit (.bool false)], args := [d1, d2] }
  | _ => none }
def SpeedSheetsWrongFalsely : Prop := speedSheetsRow.holds Try.pinned (OpenSpec.ofChange speedSheetsWrong)

/-- 'mandrellaw01.SpeedEither': WHATEVER THE INPUT: true; the input reads as it did. -/
def speedEitherSpec : ChangeSpec := { name := "speedEither", fn := fun _ => fun
  | [d1, d2, d3] => { results := [.lit (.bool true)], args := [d1, d2, d3] }
  | _ => none }
def speedEitherRow : OpenClaim := { program := "ythppacohnciinaa", sum := "0af23743e0af7c29575ec6108dfeed38e8c5959e5ac520189bb18e1803601146", func := "mandrel/mandrellaw01.SpeedEither", spec := "speedEither", unfollowed := true, recurses := true, apart := false }
def SpeedEitherSaid : Prop := speedEitherRow.holds Try.pinned (OpenSpec.ofChange speedEitherSpec)

/-- ITS FALSE NEIGHBOUR: 'it returns false'. Refute it at one input. -/
def speedEitherWrong : ChangeSpec := { name := "speedEither", fn := fun _ => fun
  | [d1, d2, d3] => { results := [.lit (.bool false)], args := [d1, d2, d3] }
  | _ => none }
def SpeedEitherWrongFalsely : Prop := speedEitherRow.holds Try.pinned (OpenSpec.ofChange speedEitherWrong)

/-- 'mandrellaw01.SpeedKnown': WHATEVER THE INPUT: true; the input reads as it did. -/
def speedKnownSpec : ChangeSpec := { name := "speedKnown", fn := fun _ => fun
  | [] => { results := [.lit (.bool true)], args := [] }
  | _ => none }
def speedKnownRow : OpenClaim := { program := "ythppacohnciinaa", sum := "0af23743e0af7c29575ec6108dfeed38e8c5959e5ac520189bb18e1803601146", func := "mandrel/mandrellaw01.SpeedKnown", spec := "speedKnown", unfollowed := true, recurses := true, apart := false }
def SpeedKnownSaid : Prop := speedKnownRow.holds Try.pinned (OpenSpec.ofChange speedKnownSpec)

/-- ITS FALSE NEIGHBOUR: 'it returns false'. Refute it at one input. -/
def speedKnownWrong : ChangeSpec := { name := "speedKnown", fn := fun _ => fun
  | [] => { results := [.lit (.bool false)], args := [] }
  | _ => none }
def SpeedKnownWrongFalsely : Prop := speedKnownRow.holds Try.pinned (OpenSpec.ofChange speedKnownWrong)

/-- 'mandrellaw01.SpeedWays': WHATEVER THE INPUT: true; the input reads as it did. -/
def speedWaysSpec : ChangeSpec := { name := "speedWays", fn := fun _ => fun
  | [d1, d2, d3, d4] => { results := [.lit (.bool true)], args := [d1, d2, d3, d4] }
  | _ => none }
def speedWaysRow : OpenClaim := { program := "ythppacohnciinaa", sum := "0af23743e0af7c29575ec6108dfeed38e8c5959e5ac520189bb18e1803601146", func := "mandrel/mandrellaw01.SpeedWays", spec := "speedWays", unfollowed := true, recurses := true, apart := false }
def SpeedWaysSaid : Prop := speedWaysRow.holds Try.pinned (OpenSpec.ofChange speedWaysSpec)

/-- ITS FALSE NEIGHBOUR: 'it returns false'. Refute it at one input. -/
def speedWaysWrong : ChangeSpec := { name := "speedWays", fn := fun _ => fun
  | [d1, d2, d3, d4] => { results := [.lit (.bool false)], args := [d1, d2, d3, d4] }
  | _ => none }
def SpeedWaysWrongFalsely : Prop := speedWaysRow.holds Try.pinned (OpenSpec.ofChange speedWaysWrong)

/-- 'mandrellaw01.SpeedProofs': WHATEVER THE INPUT: true; the input reads as it did. -/
def speedProofsSpec : ChangeSpec := { name := "speedProofs", fn := fun _ => fun
  | [d1, d2, d3, d4] => { results := [.lit (.bool true)], args := [d1, d2, d3, d4] }
  | _ => none }
def speedProofsRow : OpenClaim := { program := "ythppacohnciinaa", sum := "0af23743e0af7c29575ec6108dfeed38e8c5959e5ac520189bb18e1803601146", func := "mandrel/mandrellaw01.SpeedProofs", spec := "speedProofs", unfollowed := true, recurses := true, apart := false }
def SpeedProofsSaid : Prop := speedProofsRow.holds Try.pinned (OpenSpec.ofChange speedProofsSpec)

/-- ITS FALSE NEIGHBOUR: 'it returns false'. Refute it at one input. -/
def speedProofsWrong : ChangeSpec := { name := "speedProofs", fn := fun _ => fun
  | [d1, d2, d3, d4] => { results := [.lit (.bool false)], args := [d1, d2, d3, d4] }
  | _ => none }
def SpeedProofsWrongFalsely : Prop := speedProofsRow.holds Try.pinned (OpenSpec.ofChange speedProofsWrong)

/- THE SECOND FORM. 'bulk': how many values and letters a reading holds, each counted each time it is reached (what is shared counts as often as it is met; a slice's spare places count too). A statement '..UptoSaid' is the law's where the arguments, and the package variables that the reading takes, are together of bulk at most 1048576: NARROWER than '..Said'. Prove '..Said' where nothing that the law and all that it calls make is longer than what came in: it says more and counts as full. Else prove '..UptoSaid'. A law counts once. -/
mutual
def uptoBulk {H : Type} : DataW H → Nat
  | .lit (.string bytes) => bytes.length + 1
  | .lit _ => 1
  | .nil => 1
  | .ptr d => uptoBulk d + 1
  | .slice elems spare => uptoBulkAll elems + uptoBulkAll spare + 1
  | .agg parts => uptoBulkAll parts + 1
  | .iface _ d => uptoBulk d + 1
  | .map entries => uptoBulkEntries entries + 1
  | .held _ => 1
def uptoBulkAll {H : Type} : List (DataW H) → Nat
  | [] => 0
  | d :: r => uptoBulk d + uptoBulkAll r
def uptoBulkEntries {H : Type} : List (Lit × DataW H) → Nat
  | [] => 0
  | x :: r => uptoBulkEntry x + uptoBulkEntries r
def uptoBulkEntry {H : Type} : Lit × DataW H → Nat
  | (.string bytes, d) => bytes.length + uptoBulk d + 1
  | (_, d) => uptoBulk d + 1
 end
def uptoSmall : (H : Type) → List (DataW H) → Bool := fun _ ds => decide (uptoBulkAll ds ≤ 1048576)
def OpenSpec.upto (s : _root_.Go.ChangeSpec) : _root_.Go.OpenSpec := { _root_.Go.OpenSpec.ofChange s with cond := some uptoSmall }

/-- 'mandrellaw01.SpeedSpans', WHERE WHAT IT READS IS OF BULK AT MOST 1048576: true; the input reads as it did. -/
def speedSpansUptoRow : OpenClaim := { program := "ythppacohnciinaa", sum := "0af23743e0af7c29575ec6108dfeed38e8c5959e5ac520189bb18e1803601146", func := "mandrel/mandrellaw01.SpeedSpans", spec := "speedSpans", unfollowed := true, recurses := true, apart := false, narrowed := true }
def SpeedSpansUptoSaid : Prop := speedSpansUptoRow.holds Try.pinned (OpenSpec.upto speedSpansSpec)

/-- 'mandrellaw01.SpeedPipes', WHERE WHAT IT READS IS OF BULK AT MOST 1048576: true; the input reads as it did. -/
def speedPipesUptoRow : OpenClaim := { program := "ythppacohnciinaa", sum := "0af23743e0af7c29575ec6108dfeed38e8c5959e5ac520189bb18e1803601146", func := "mandrel/mandrellaw01.SpeedPipes", spec := "speedPipes", unfollowed := true, recurses := true, apart := false, narrowed := true }
def SpeedPipesUptoSaid : Prop := speedPipesUptoRow.holds Try.pinned (OpenSpec.upto speedPipesSpec)

/-- 'mandrellaw01.SpeedHeld', WHERE WHAT IT READS IS OF BULK AT MOST 1048576: true; the input reads as it did. -/
def speedHeldUptoRow : OpenClaim := { program := "ythppacohnciinaa", sum := "0af23743e0af7c29575ec6108dfeed38e8c5959e5ac520189bb18e1803601146", func := "mandrel/mandrellaw01.SpeedHeld", spec := "speedHeld", unfollowed := true, recurses := true, apart := false, narrowed := true }
def SpeedHeldUptoSaid : Prop := speedHeldUptoRow.holds Try.pinned (OpenSpec.upto speedHeldSpec)

/-- 'mandrellaw01.SpeedNarrower', WHERE WHAT IT READS IS OF BULK AT MOST 1048576: true; the input reads as it did. -/
def speedNarrowerUptoRow : OpenClaim := { program := "ythppacohnciinaa", sum := "0af23743e0af7c29575ec6108dfeed38e8c5959e5ac520189bb18e1803601146", func := "mandrel/mandrellaw01.SpeedNarrower", spec := "speedNarrower", unfollowed := true, recurses := true, apart := false, narrowed := true }
def SpeedNarrowerUptoSaid : Prop := speedNarrowerUptoRow.holds Try.pinned (OpenSpec.upto speedNarrowerSpec)

/-- 'mandrellaw01.SpeedMirrored', WHERE WHAT IT READS IS OF BULK AT MOST 1048576: true; the input reads as it did. -/
def speedMirroredUptoRow : OpenClaim := { program := "ythppacohnciinaa", sum := "0af23743e0af7c29575ec6108dfeed38e8c5959e5ac520189bb18e1803601146", func := "mandrel/mandrellaw01.SpeedMirrored", spec := "speedMirrored", unfollowed := true, recurses := true, apart := false, narrowed := true }
def SpeedMirroredUptoSaid : Prop := speedMirroredUptoRow.holds Try.pinned (OpenSpec.upto speedMirroredSpec)

/-- 'mandrellaw01.SpeedHeard', WHERE WHAT IT READS IS OF BULK AT MOST 1048576: true; the input reads as it did. -/
def speedHeardUptoRow : OpenClaim := { program := "ythppacohnciinaa", sum := "0af23743e0af7c29575ec6108dfeed38e8c5959e5ac520189bb18e1803601146", func := "mandrel/mandrellaw01.SpeedHeard", spec := "speedHeard", unfollowed := true, recurses := true, apart := false, narrowed := true }
def SpeedHeardUptoSaid : Prop := speedHeardUptoRow.holds Try.pinned (OpenSpec.upto speedHeardSpec)

/-- 'mandrellaw01.SpeedSheets', WHERE WHAT IT READS IS OF BULK AT MOST 1048576: true; the input reads as it did. -/
def speedSheetsUptoRow : OpenClaim := { program := "ythppacohnciinaa", sum := "0af23743e0af7c29575ec6108dfeed38e8c5959e5ac520189bb18e1803601146", func := "mandrel/mandrellaw01.SpeedSheets", spec := "speedSheets", unfollowed := true, recurses := true, apart := false, narrowed := true }
def SpeedSheetsUptoSaid : Prop := speedSheetsUptoRow.holds Try.pinned (OpenSpec.upto speedSheetsSpec)

/-- 'mandrellaw01.SpeedEither', WHERE WHAT IT READS IS OF BULK AT MOST 1048576: true; the input reads as it did. -/
def speedEitherUptoRow : OpenClaim := { program := "ythppacohnciinaa", sum := "0af23743e0af7c29575ec6108dfeed38e8c5959e5ac520189bb18e1803601146", func := "mandrel/mandrellaw01.SpeedEither", spec := "speedEither", unfollowed := true, recurses := true, apart := false, narrowed := true }
def SpeedEitherUptoSaid : Prop := speedEitherUptoRow.holds Try.pinned (OpenSpec.upto speedEitherSpec)

/-- 'mandrellaw01.SpeedKnown', WHERE WHAT IT READS IS OF BULK AT MOST 1048576: true; the input reads as it did. -/
def speedKnownUptoRow : OpenClaim := { program := "ythppacohnciinaa", sum := "0af23743e0af7c29575ec6108dfeed38e8c5959e5ac520189bb18e1803601146", func := "mandrel/mandrellaw01.SpeedKnown", spec := "speedKnown", unfollowed := true, recurses := true, apart := false, narrowed := true }
def SpeedKnownUptoSaid : Prop := speedKnownUptoRow.holds Try.pinned (OpenSpec.upto speedKnownSpec)

/-- 'mandrellaw01.SpeedWays', WHERE WHAT IT READS IS OF BULK AT MOST 1048576: true; the input reads as it did. -/
def speedWaysUptoRow : OpenClaim := { program := "ythppacohnciinaa", sum := "0af23743e0af7c29575ec6108dfeed38e8c5959e5ac520189bb18e1803601146", func := "mandrel/mandrellaw01.SpeedWays", spec := "speedWays", unfollowed := true, recurses := true, apart := false, narrowed := true }
def SpeedWaysUptoSaid : Prop := speedWaysUptoRow.holds Try.pinned (OpenSpec.upto speedWaysSpec)

/-- 'mandrellaw01.SpeedProofs', WHERE WHAT IT READS IS OF BULK AT MOST 1048576: true; the input reads as it did. -/
def speedProofsUptoRow : OpenClaim := { program := "ythppacohnciinaa", sum := "0af23743e0af7c29575ec6108dfeed38e8c5959e5ac520189bb18e1803601146", func := "mandrel/mandrellaw01.SpeedProofs", spec := "speedProofs", unfollowed := true, recurses := true, apart := false, narrowed := true }
def SpeedProofsUptoSaid : Prop := speedProofsUptoRow.holds Try.pinned (OpenSpec.upto speedProofsSpec)

end Rows
end Go.Proofs.Ythppacohnciinaa
