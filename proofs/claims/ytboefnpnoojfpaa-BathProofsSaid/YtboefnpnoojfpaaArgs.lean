/-
  How the types of the laws' arguments read. No condition: facts about the program's types.
-/
import Derived.Test.YtboefnpnoojfpaaFacts
import Derived.Test.YtboefnpnoojfpaaShut
namespace Go.Proofs.Ytboefnpnoojfpaa
open Go Go.Md Go.RowKit
abbrev RgL {α : Type} (R : α → Prop) (l : List α) : Prop := (∀ x ∈ l, R x) ∧ l.length ≤ maxLen
theorem ot2 : OpT Try.prog 2 Int I64 := OpT.int Try.underlying2 (by kernel_rfl)
theorem ot3 : OpT Try.prog 3 Int I64 := OpT.int Try.underlying3 (by kernel_rfl)
theorem ot5 : OpT Try.prog 5 (KI .u8) (fun x => (Lit.int .u8 x.v).wf = true) := OpT.ki Try.underlying5 (by kernel_rfl)
theorem ot47 : OpT Try.prog 47 (List (KI .u8)) (RgL fun x => (Lit.int .u8 x.v).wf = true) := OpT.sl Try.underlying47 (by kernel_rfl) rfl ot5
def RgI (l : List Int) : Prop := RgL I64 l
theorem ot22 : OpT Try.prog 22 (List Int) RgI := OpT.sl Try.underlying22 (by kernel_rfl) rfl ot2
theorem ot26 : OpT Try.prog 26 (List Int) RgI := OpT.sl Try.underlying26 (by kernel_rfl) rfl ot3
def RgM (x : List Int × List Int) : Prop := RgI x.1 ∧ RgI x.2
theorem ot57 : OpT Try.prog 57 (List Int × List Int) RgM := OpT.st Try.underlying57 (by kernel_rfl) (OpF.cons (R := RgI) (S := RgI) rfl ot22 (OpF.one rfl ot22))
theorem ot23 : OpT Try.prog 23 (List (List Int × List Int)) (RgL RgM) := OpT.sl Try.underlying23 (by kernel_rfl) rfl ot57
theorem ot25 : OpT Try.prog 25 (List Int × List (List Int × List Int)) (fun x => RgI x.1 ∧ RgL RgM x.2) := OpT.st Try.underlying25 (by kernel_rfl) (OpF.cons (R := RgI) (S := RgL RgM) rfl ot22 (OpF.one rfl ot23))
theorem ot62 : OpT Try.prog 62 (List Int × Int) (fun x => RgI x.1 ∧ I64 x.2) := OpT.st Try.underlying62 (by kernel_rfl) (OpF.cons (R := RgI) (S := I64) rfl ot22 (OpF.one rfl ot2))
end Go.Proofs.Ytboefnpnoojfpaa
