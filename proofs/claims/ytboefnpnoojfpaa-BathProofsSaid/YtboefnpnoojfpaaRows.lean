/-
  No cell of these rows narrows 'for every input' (looked for: loops, veiled, ifaces, maps, wideKeys, modest, calm, conditions, laid).
  DERIVED. THE GIVEN ROWS OF THIS SEAT. 9 by the template 'for every input the law returns true; each argument reads behind the call as it read before'; 0 by the template 'total and deterministic' (their statements: YtboefnpnoojfpaaTotals.lean).
  GIVEN WITH THE SEED: the statements are not yours to turn. If you find one false, say at which input.
  Laid BY PROGRAM, IN A SANDBOX (cutbox-rows.mjs): the forced cells as the released guide's own fill.sh prints them over the translation 037180c38aad7818… (all of the seat's roots in one cut). By AI agents, Wed Nov 11 2026. No macro, syntax, notation, axiom, sorry.
-/
import Derived.Test.YtboefnpnoojfpaaChecked
import GoSem.Claim
import GoSem.ClaimJoined
import GoSem.ClaimMapViews
import Derived.JoinedTies
import Derived.KernelRfl
namespace Go.Proofs.Ytboefnpnoojfpaa
/- THE CELL 'sum', in the pinned program and in every row, IS THE sha256 OF THE DUMP (.gsa) THAT YtboefnpnoojfpaaProg.lean LOADS. Nothing in Lean hashes anything: it is a label: what it is worth is what the hold of that sum in a sandbox is worth. -/
noncomputable def Try.pinned : Pinned := { name := "ytboefnpnoojfpaa", sum := "037180c38aad78183634a0c79d425d2288a19d7045ea1b4e0b705e50ba5c883a", checked := Try.checked }
namespace Rows
def none {H : Type} : Left H := { results := [], args := [] }

/-- 'mandrellaw11.BathBaths': WHATEVER THE INPUT: true; the input reads as it did. -/
def bathBathsSpec : ChangeSpec := { name := "bathBaths", fn := fun _ => fun
  | [d1, d2, d3] => { results := [.lit (.bool true)], args := [d1, d2, d3] }
  | _ => none }
def bathBathsRow : OpenClaim := { program := "ytboefnpnoojfpaa", sum := "037180c38aad78183634a0c79d425d2288a19d7045ea1b4e0b705e50ba5c883a", func := "mandrel/mandrellaw11.BathBaths", spec := "bathBaths", unfollowed := true, recurses := true, plainKeys := false, apart := false }
def BathBathsSaid : Prop := bathBathsRow.holds Try.pinned (OpenSpec.ofChange bathBathsSpec)

/-- ITS FALSE NEIGHBOUR: 'it returns false'. Refute it at one input. -/
def bathBathsWrong : ChangeSpec := { name := "bathBaths", fn := fun _ => fun
  | [d1, d2, d3] => { results := [.lit (.bool false)], args := [d1, d2, d3] }
  | _ => none }
def BathBathsWrongFalsely : Prop := bathBathsRow.holds Try.pinned (OpenSpec.ofChange bathBathsWrong)

/-- 'mandrellaw11.BathReaches': WHATEVER THE INPUT: true; the input reads as it did. -/
def bathReachesSpec : ChangeSpec := { name := "bathReaches", fn := fun _ => fun
  | [d1, d2, d3, d4] => { results := [.lit (.bool true)], args := [d1, d2, d3, d4] }
  | _ => none }
def bathReachesRow : OpenClaim := { program := "ytboefnpnoojfpaa", sum := "037180c38aad78183634a0c79d425d2288a19d7045ea1b4e0b705e50ba5c883a", func := "mandrel/mandrellaw11.BathReaches", spec := "bathReaches", unfollowed := true, recurses := true, plainKeys := false, apart := false }
def BathReachesSaid : Prop := bathReachesRow.holds Try.pinned (OpenSpec.ofChange bathReachesSpec)

/-- ITS FALSE NEIGHBOUR: 'it returns false'. Refute it at one input. -/
def bathReachesWrong : ChangeSpec := { name := "bathReaches", fn := fun _ => fun
  | [d1, d2, d3, d4] => { results := [.lit (.bool false)], args := [d1, d2, d3, d4] }
  | _ => none }
def BathReachesWrongFalsely : Prop := bathReachesRow.holds Try.pinned (OpenSpec.ofChange bathReachesWrong)

/-- 'mandrellaw11.BathReached': WHATEVER THE INPUT: true; the input reads as it did. -/
def bathReachedSpec : ChangeSpec := { name := "bathReached", fn := fun _ => fun
  | [d1, d2, d3, d4, d5, d6] => { results := [.lit (.bool true)], args := [d1, d2, d3, d4, d5, d6] }
  | _ => none }
def bathReachedRow : OpenClaim := { program := "ytboefnpnoojfpaa", sum := "037180c38aad78183634a0c79d425d2288a19d7045ea1b4e0b705e50ba5c883a", func := "mandrel/mandrellaw11.BathReached", spec := "bathReached", unfollowed := true, recurses := true, plainKeys := false, apart := false }
def BathReachedSaid : Prop := bathReachedRow.holds Try.pinned (OpenSpec.ofChange bathReachedSpec)

/-- ITS FALSE NEIGHBOUR: 'it returns false'. Refute it at one input. -/
def bathReachedWrong : ChangeSpec := { name := "bathReached", fn := fun _ => fun
  | [d1, d2, d3, d4, d5, d6] => { results := [.lit (.bool false)], args := [d1, d2, d3, d4, d5, d6] }
  | _ => none }
def BathReachedWrongFalsely : Prop := bathReachedRow.holds Try.pinned (OpenSpec.ofChange bathReachedWrong)

/-- 'mandrellaw11.BathBack': WHATEVER THE INPUT: true; the input reads as it did. -/
def bathBackSpec : ChangeSpec := { name := "bathBack", fn := fun _ => fun
  | [d1, d2, d3, d4, d5] => { results := [.lit (.bool true)], args := [d1, d2, d3, d4, d5] }
  | _ => none }
def bathBackRow : OpenClaim := { program := "ytboefnpnoojfpaa", sum := "037180c38aad78183634a0c79d425d2288a19d7045ea1b4e0b705e50ba5c883a", func := "mandrel/mandrellaw11.BathBack", spec := "bathBack", unfollowed := true, recurses := true, plainKeys := false, apart := false }
def BathBackSaid : Prop := bathBackRow.holds Try.pinned (OpenSpec.ofChange bathBackSpec)

/-- ITS FALSE NEIGHBOUR: 'it returns false'. Refute it at one input. -/
def bathBackWrong : ChangeSpec := { name := "bathBack", fn := fun _ => fun
  | [d1, d2, d3, d4, d5] => { results := [.lit (.bool false)], args := [d1, d2, d3, d4, d5] }
  | _ => none }
def BathBackWrongFalsely : Prop := bathBackRow.holds Try.pinned (OpenSpec.ofChange bathBackWrong)

/-- 'mandrellaw11.BathOver': WHATEVER THE INPUT: true; the input reads as it did. -/
def bathOverSpec : ChangeSpec := { name := "bathOver", fn := fun _ => fun
  | [d1, d2, d3, d4, d5, d6] => { results := [.lit (.bool true)], args := [d1, d2, d3, d4, d5, d6] }
  | _ => none }
def bathOverRow : OpenClaim := { program := "ytboefnpnoojfpaa", sum := "037180c38aad78183634a0c79d425d2288a19d7045ea1b4e0b705e50ba5c883a", func := "mandrel/mandrellaw11.BathOver", spec := "bathOver", unfollowed := true, recurses := true, plainKeys := false, apart := false }
def BathOverSaid : Prop := bathOverRow.holds Try.pinned (OpenSpec.ofChange bathOverSpec)

/-- ITS FALSE NEIGHBOUR: 'it returns false'. Refute it at one input. -/
def bathOverWrong : ChangeSpec := { name := "bathOver", fn := fun _ => fun
  | [d1, d2, d3, d4, d5, d6] => { results := [.lit (.bool false)], args := [d1, d2, d3, d4, d5, d6] }
  | _ => none }
def BathOverWrongFalsely : Prop := bathOverRow.holds Try.pinned (OpenSpec.ofChange bathOverWrong)

/-- 'mandrellaw11.BathMost': WHATEVER THE INPUT: true; the input reads as it did. -/
def bathMostSpec : ChangeSpec := { name := "bathMost", fn := fun _ => fun
  | [d1, d2, d3, d4] => { results := [.lit (.bool true)], args := [d1, d2, d3, d4] }
  | _ => none }
def bathMostRow : OpenClaim := { program := "ytboefnpnoojfpaa", sum := "037180c38aad78183634a0c79d425d2288a19d7045ea1b4e0b705e50ba5c883a", func := "mandrel/mandrellaw11.BathMost", spec := "bathMost", unfollowed := true, recurses := true, plainKeys := false, apart := false }
def BathMostSaid : Prop := bathMostRow.holds Try.pinned (OpenSpec.ofChange bathMostSpec)

/-- ITS FALSE NEIGHBOUR: 'it returns false'. Refute it at one input. -/
def bathMostWrong : ChangeSpec := { name := "bathMost", fn := fun _ => fun
  | [d1, d2, d3, d4] => { results := [.lit (.bool false)], args := [d1, d2, d3, d4] }
  | _ => none }
def BathMostWrongFalsely : Prop := bathMostRow.holds Try.pinned (OpenSpec.ofChange bathMostWrong)

/-- 'mandrellaw11.BathProofs': WHATEVER THE INPUT: true; the input reads as it did. -/
def bathProofsSpec : ChangeSpec := { name := "bathProofs", fn := fun _ => fun
  | [d1, d2, d3, d4, d5] => { results := [.lit (.bool true)], args := [d1, d2, d3, d4, d5] }
  | _ => none }
def bathProofsRow : OpenClaim := { program := "ytboefnpnoojfpaa", sum := "037180c38aad78183634a0c79d425d2288a19d7045ea1b4e0b705e50ba5c883a", func := "mandrel/mandrellaw11.BathProofs", spec := "bathProofs", unfollowed := true, recurses := true, plainKeys := false, apart := false }
def BathProofsSaid : Prop := bathProofsRow.holds Try.pinned (OpenSpec.ofChange bathProofsSpec)

/-- ITS FALSE NEIGHBOUR: 'it returns false'. Refute it at one input. -/
def bathProofsWrong : ChangeSpec := { name := "bathProofs", fn := fun _ => fun
  | [d1, d2, d3, d4, d5] => { results := [.lit (.bool false)], args := [d1, d2, d3, d4, d5] }
  | _ => none }
def BathProofsWrongFalsely : Prop := bathProofsRow.holds Try.pinned (OpenSpec.ofChange bathProofsWrong)

/-- 'mandrellaw11.BathEither': WHATEVER THE INPUT: true; the input reads as it did. -/
def bathEitherSpec : ChangeSpec := { name := "bathEither", fn := fun _ => fun
  | [d1, d2, d3, d4, d5, d6] => { results := [.lit (.bool true)], args := [d1, d2, d3, d4, d5, d6] }
  | _ => none }
def bathEitherRow : OpenClaim := { program := "ytboefnpnoojfpaa", sum := "037180c38aad78183634a0c79d425d2288a19d7045ea1b4e0b705e50ba5c883a", func := "mandrel/mandrellaw11.BathEither", spec := "bathEither", unfollowed := true, recurses := true, plainKeys := false, apart := false }
def BathEitherSaid : Prop := bathEitherRow.holds Try.pinned (OpenSpec.ofChange bathEitherSpec)

/-- ITS FALSE NEIGHBOUR: 'it returns false'. Refute it at one input. -/
def bathEitherWrong : ChangeSpec := { name := "bathEither", fn := fun _ => fun
  | [d1, d2, d3, d4, d5, d6] => { results := [.lit (.bool false)], args := [d1, d2, d3, d4, d5, d6] }
  | _ => none }
def BathEitherWrongFalsely : Prop := bathEitherRow.holds Try.pinned (OpenSpec.ofChange bathEitherWrong)

/-- 'mandrellaw11.BathKnown': WHATEVER THE INPUT: true; the input reads as it did. -/
def bathKnownSpec : ChangeSpec := { name := "bathKnown", fn := fun _ => fun
  | [] => { results := [.lit (.bool true)], args := [] }
  | _ => none }
def bathKnownRow : OpenClaim := { program := "ytboefnpnoojfpaa", sum := "037180c38aad78183634a0c79d425d2288a19d7045ea1b4e0b705e50ba5c883a", func := "mandrel/mandrellaw11.BathKnown", spec := "bathKnown", unfollowed := true, recurses := true, plainKeys := false, apart := false }
def BathKnownSaid : Prop := bathKnownRow.holds Try.pinned (OpenSpec.ofChange bathKnownSpec)

/-- ITS FALSE NEIGHBOUR: 'it returns false'. Refute it at one input. -/
def bathKnownWrong : ChangeSpec := { name := "bathKnown", fn := fun _ => fun
  | [] => { results := [.lit (.bool false)], args := [] }
  | _ => none }
def BathKnownWrongFalsely : Prop := bathKnownRow.holds Try.pinned (OpenSpec.ofChange bathKnownWrong)

/- THE SECOND FORM. 'bulk': how many values and letters a reading holds, each counted each time it is reached (what is shared counts as often as it is met; a slice's spare places count too). A statement '..UptoSaid' is the law's where the arguments, and the package variables that the reading takes, are together of bulk at most 1048576: NARROWER than '..Said'. Prove '..Said' where nothing that the law and all that it calls make is longer than what came in: it says more and counts as full. Else prove '..UptoSaid'. A law counts once. -/
mutual
def uptoBulk {H : Type} : DataW H → Nat
  | .lit (.string bytes) => bytes.length + 1
  | .lit _ => 1
  | .nil => 1
  | .ptr d => uptoBulk d + 1
  | .slice elems spare => uptoBulkAll elems + uptoBulkAll spare + 1
  | .agg parts => uptoBulkAll parts + 1
  | .iface _ d => uptoBulk d + 1
  | .map entries => uptoBulkEntries entries + 1
  | .held _ => 1
def uptoBulkAll {H : Type} : List (DataW H) → Nat
  | [] => 0
  | d :: r => uptoBulk d + uptoBulkAll r
def uptoBulkEntries {H : Type} : List (Lit × DataW H) → Nat
  | [] => 0
  | x :: r => uptoBulkEntry x + uptoBulkEntries r
def uptoBulkEntry {H : Type} : Lit × DataW H → Nat
  | (.string bytes, d) => bytes.length + uptoBulk d + 1
  | (_, d) => uptoBulk d + 1
 end
def uptoSmall : (H : Type) → List (DataW H) → Bool := fun _ ds => decide (uptoBulkAll ds ≤ 1048576)
def OpenSpec.upto (s : _root_.Go.ChangeSpec) : _root_.Go.OpenSpec := { _root_.Go.OpenSpec.ofChange s with cond := some uptoSmall }

/-- 'mandrellaw11.BathBaths', WHERE WHAT IT READS IS OF BULK AT MOST 1048576: true; the input reads as it did. -/
def bathBathsUptoRow : OpenClaim := { program := "ytboefnpnoojfpaa", sum := "037180c38aad78183634a0c79d425d2288a19d7045ea1b4e0b705e50ba5c883a", func := "mandrel/mandrellaw11.BathBaths", spec := "bathBaths", unfollowed := true, recurses := true, plainKeys := false, apart := false, narrowed := true }
def BathBathsUptoSaid : Prop := bathBathsUptoRow.holds Try.pinned (OpenSpec.upto bathBathsSpec)

/-- 'mandrellaw11.BathReaches', WHERE WHAT IT READS IS OF BULK AT MOST 1048576: true; the input reads as it did. -/
def bathReachesUptoRow : OpenClaim := { program := "ytboefnpnoojfpaa", sum := "037180c38aad78183634a0c79d425d2288a19d7045ea1b4e0b705e50ba5c883a", func := "mandrel/mandrellaw11.BathReaches", spec := "bathReaches", unfollowed := true, recurses := true, plainKeys := false, apart := false, narrowed := true }
def BathReachesUptoSaid : Prop := bathReachesUptoRow.holds Try.pinned (OpenSpec.upto bathReachesSpec)

/-- 'mandrellaw11.BathReached', WHERE WHAT IT READS IS OF BULK AT MOST 1048576: true; the input reads as it did. -/
def bathReachedUptoRow : OpenClaim := { program := "ytboefnpnoojfpaa", sum := "037180c38aad78183634a0c79d425d2288a19d7045ea1b4e0b705e50ba5c883a", func := "mandrel/mandrellaw11.BathReached", spec := "bathReached", unfollowed := true, recurses := true, plainKeys := false, apart := false, narrowed := true }
def BathReachedUptoSaid : Prop := bathReachedUptoRow.holds Try.pinned (OpenSpec.upto bathReachedSpec)

/-- 'mandrellaw11.BathBack', WHERE WHAT IT READS IS OF BULK AT MOST 1048576: true; the input reads as it did. -/
def bathBackUptoRow : OpenClaim := { program := "ytboefnpnoojfpaa", sum := "037180c38aad78183634a0c79d425d2288a19d7045ea1b4e0b705e50ba5c883a", func := "mandrel/mandrellaw11.BathBack", spec := "bathBack", unfollowed := true, recurses := true, plainKeys := false, apart := false, narrowed := true }
def BathBackUptoSaid : Prop := bathBackUptoRow.holds Try.pinned (OpenSpec.upto bathBackSpec)

/-- 'mandrellaw11.BathOver', WHERE WHAT IT READS IS OF BULK AT MOST 1048576: true; the input reads as it did. -/
def bathOverUptoRow : OpenClaim := { program := "ytboefnpnoojfpaa", sum := "037180c38aad78183634a0c79d425d2288a19d7045ea1b4e0b705e50ba5c883a", func := "mandrel/mandrellaw11.BathOver", spec := "bathOver", unfollowed := true, recurses := true, plainKeys := false, apart := false, narrowed := true }
def BathOverUptoSaid : Prop := bathOverUptoRow.holds Try.pinned (OpenSpec.upto bathOverSpec)

/-- 'mandrellaw11.BathMost', WHERE WHAT IT READS IS OF BULK AT MOST 1048576: true; the input reads as it did. -/
def bathMostUptoRow : OpenClaim := { program := "ytboefnpnoojfpaa", sum := "037180c38aad78183634a0c79d425d2288a19d7045ea1b4e0b705e50ba5c883a", func := "mandrel/mandrellaw11.BathMost", spec := "bathMost", unfollowed := true, recurses := true, plainKeys := false, apart := false, narrowed := true }
def BathMostUptoSaid : Prop := bathMostUptoRow.holds Try.pinned (OpenSpec.upto bathMostSpec)

/-- 'mandrellaw11.BathProofs', WHERE WHAT IT READS IS OF BULK AT MOST 1048576: true; the input reads as it did. -/
def bathProofsUptoRow : OpenClaim := { program := "ytboefnpnoojfpaa", sum := "037180c38aad78183634a0c79d425d2288a19d7045ea1b4e0b705e50ba5c883a", func := "mandrel/mandrellaw11.BathProofs", spec := "bathProofs", unfollowed := true, recurses := true, plainKeys := false, apart := false, narrowed := true }
def BathProofsUptoSaid : Prop := bathProofsUptoRow.holds Try.pinned (OpenSpec.upto bathProofsSpec)

/-- 'mandrellaw11.BathEither', WHERE WHAT IT READS IS OF BULK AT MOST 1048576: true; the input reads as it did. -/
def bathEitherUptoRow : OpenClaim := { program := "ytboefnpnoojfpaa", sum := "037180c38aad78183634a0c79d425d2288a19d7045ea1b4e0b705e50ba5c883a", func := "mandrel/mandrellaw11.BathEither", spec := "bathEither", unfollowed := true, recurses := true, plainKeys := false, apart := false, narrowed := true }
def BathEitherUptoSaid : Prop := bathEitherUptoRow.holds Try.pinned (OpenSpec.upto bathEitherSpec)

/-- 'mandrellaw11.BathKnown', WHERE WHAT IT READS IS OF BULK AT MOST 1048576: true; the input reads as it did. -/
def bathKnownUptoRow : OpenClaim := { program := "ytboefnpnoojfpaa", sum := "037180c38aad78183634a0c79d425d2288a19d7045ea1b4e0b705e50ba5c883a", func := "mandrel/mandrellaw11.BathKnown", spec := "bathKnown", unfollowed := true, recurses := true, plainKeys := false, apart := false, narrowed := true }
def BathKnownUptoSaid : Prop := bathKnownUptoRow.holds Try.pinned (OpenSpec.upto bathKnownSpec)

end Rows
end Go.Proofs.Ytboefnpnoojfpaa
