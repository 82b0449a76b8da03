/-
  The layer works on its own book. No condition: the pure functions evaluate.
-/
import Derived.Test.YtdimoehnkagghaaPureD
import Derived.KernelRfl
namespace Go.Proofs.Ytdimoehnkagghaa
open Go Go.Md Go.RowKit
/-- Rounds enough for each law. -/
abbrev FF : Nat := 4000000000
theorem works : law10_Works FF = some true := by kernel_rfl
theorem ffok : 2000000000 < FF := by decide
end Go.Proofs.Ytdimoehnkagghaa
