/-
  How the types of the laws' arguments read. No condition: facts about the program's types.
-/
import Derived.Test.YtdimoehnkagghaaFacts
import Derived.Test.YtdimoehnkagghaaShut
namespace Go.Proofs.Ytdimoehnkagghaa
open Go Go.Md Go.RowKit
abbrev RgL {α : Type} (R : α → Prop) (l : List α) : Prop := (∀ x ∈ l, R x) ∧ l.length ≤ maxLen
theorem ot3 : OpT Try.prog 3 Int I64 := OpT.int Try.underlying3 (by kernel_rfl)
theorem ot4 : OpT Try.prog 4 Bool (fun _ => True) := OpT.bool Try.underlying4 (by kernel_rfl)
theorem ot5 : OpT Try.prog 5 (KI .u8) (fun x => (Lit.int .u8 x.v).wf = true) := OpT.ki Try.underlying5 (by kernel_rfl)
theorem ot46 : OpT Try.prog 46 (KI .u16) (fun x => (Lit.int .u16 x.v).wf = true) := OpT.ki Try.underlying46 (by kernel_rfl)
theorem ot47 : OpT Try.prog 47 (List (KI .u8)) (RgL fun x => (Lit.int .u8 x.v).wf = true) := OpT.sl Try.underlying47 (by kernel_rfl) rfl ot5
theorem ot58 : OpT Try.prog 58 (List (KI .u16)) (RgL fun x => (Lit.int .u16 x.v).wf = true) := OpT.sl Try.underlying58 (by kernel_rfl) rfl ot46
def RgI (l : List Int) : Prop := RgL I64 l
theorem ot22 : OpT Try.prog 22 (List Int) RgI := OpT.sl Try.underlying22 (by kernel_rfl) rfl ot3
def RgM (l : List (List Int)) : Prop := RgL RgI l
theorem ot24 : OpT Try.prog 24 (List (List Int)) RgM := OpT.sl Try.underlying24 (by kernel_rfl) rfl ot22
def RgU (x : List Int × Int) : Prop := RgI x.1 ∧ I64 x.2
theorem ot54 : OpT Try.prog 54 (List Int × Int) RgU := OpT.st Try.underlying54 (by kernel_rfl) (OpF.cons (R := RgI) (S := I64) rfl ot22 (OpF.one rfl ot3))
def RgUs (l : List (List Int × Int)) : Prop := RgL RgU l
theorem ot23 : OpT Try.prog 23 (List (List Int × Int)) RgUs := OpT.sl Try.underlying23 (by kernel_rfl) rfl ot54
def RgS (x : Bool × Int) : Prop := True ∧ I64 x.2
theorem ot52 : OpT Try.prog 52 (Bool × Int) RgS := OpT.st Try.underlying52 (by kernel_rfl) (OpF.cons (R := fun _ => True) (S := I64) rfl ot4 (OpF.one rfl ot3))
theorem ot27 : OpT Try.prog 27 (List (Bool × Int)) (RgL RgS) := OpT.sl Try.underlying27 (by kernel_rfl) rfl ot52
def Rg3 (x : List (List Int × Int) × List (List Int)) : Prop := RgUs x.1 ∧ RgM x.2
def Rg2 (x : List (List Int × Int) × List (List Int × Int) × List (List Int)) : Prop := RgUs x.1 ∧ Rg3 x.2
def Rg1 (x : List Int × List (List Int × Int) × List (List Int × Int) × List (List Int)) : Prop := RgI x.1 ∧ Rg2 x.2
def RgB (x : Int × List Int × List (List Int × Int) × List (List Int × Int) × List (List Int)) : Prop := I64 x.1 ∧ Rg1 x.2
theorem ot26 : OpT Try.prog 26 (Int × List Int × List (List Int × Int) × List (List Int × Int) × List (List Int)) RgB := OpT.st Try.underlying26 (by kernel_rfl)
  (OpF.cons (R := I64) (S := Rg1) rfl ot3 (OpF.cons (R := RgI) (S := Rg2) rfl ot22 (OpF.cons (R := RgUs) (S := Rg3) rfl ot23 (OpF.cons (R := RgUs) (S := RgM) rfl ot23 (OpF.one rfl ot24)))))
end Go.Proofs.Ytdimoehnkagghaa
