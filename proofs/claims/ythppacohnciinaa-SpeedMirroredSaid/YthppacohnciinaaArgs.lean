/-
  How the types of the laws' arguments read. No condition: facts about the program's types.
-/
import Derived.Test.YthppacohnciinaaFacts
import Derived.Test.YthppacohnciinaaShut
namespace Go.Proofs.Ythppacohnciinaa
open Go Go.Md Go.RowKit
theorem ot2 : OpT Try.prog 2 Int I64 := OpT.int Try.underlying2 (by kernel_rfl)
theorem ot3 : OpT Try.prog 3 Int I64 := OpT.int Try.underlying3 (by kernel_rfl)
theorem ot28 : OpT Try.prog 28 (Int × Int) (fun x => I64 x.1 ∧ I64 x.2) := OpT.st Try.underlying28 (by kernel_rfl) (OpF.cons rfl ot2 (OpF.one rfl ot2))
def RgRule (x : Int × Int × Int) : Prop := I64 x.1 ∧ I64 x.2.1 ∧ I64 x.2.2
def RgRules (l : List (Int × Int × Int)) : Prop := (∀ x ∈ l, RgRule x) ∧ l.length ≤ maxLen
theorem ot56 : OpT Try.prog 56 (Int × Int × Int) RgRule := OpT.st Try.underlying56 (by kernel_rfl) (OpF.cons rfl ot3 (OpF.cons rfl ot3 (OpF.one rfl ot2)))
theorem ot22 : OpT Try.prog 22 (List (Int × Int × Int)) RgRules := OpT.sl Try.underlying22 (by kernel_rfl) rfl ot56
theorem ot24 : OpT Try.prog 24 (Int × List (Int × Int × Int)) (fun x => I64 x.1 ∧ RgRules x.2) := OpT.st Try.underlying24 (by kernel_rfl) (OpF.cons (R := I64) (S := RgRules) rfl ot3 (OpF.one rfl ot22))
theorem ot32 : OpT Try.prog 32 (List Int) (fun l => (∀ x ∈ l, I64 x) ∧ l.length ≤ maxLen) := OpT.sl Try.underlying32 (by kernel_rfl) rfl ot2
theorem ot36 : OpT Try.prog 36 (List Int) (fun l => (∀ x ∈ l, I64 x) ∧ l.length ≤ maxLen) := OpT.sl Try.underlying36 (by kernel_rfl) rfl ot3
end Go.Proofs.Ythppacohnciinaa
