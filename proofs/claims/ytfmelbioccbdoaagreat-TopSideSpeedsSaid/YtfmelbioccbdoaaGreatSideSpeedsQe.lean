/-
  Part 5 of 14 of what the last text stands on: lemmas about the model, pure functions, walks, laws in plain Lean; each part's own head says its condition. Merged by a program of our own.
-/
import Derived.Test.YtfmelbioccbdoaaGreatSideSpeedsQd
import Derived.KernelRfl
import Derived.Test.YtfmelbioccbdoaaGreatProg
set_option maxHeartbeats 0
set_option linter.all false
section
namespace Go.Proofs.YtfmelbioccbdoaaGreat
open Go Go.Md Go.Md.Cf Go.RowKit Go.Proofs
theorem ASk:ADd Tryz.prog 100000 86 0 ⟨[],[]⟩ (.bool true)=true:=by kernel_rfl
theorem ASl(w:World):Calls Tryz.prog 86 #[] w fun e w'=>e=.returned (.bool true)/\Below w.heap.size w w':=Chain.calls okP (v:=.bool true) (.fin ASk) w
theorem ASm:ADd Tryz.prog 100000 88 0 ⟨[],[]⟩ (.bool true)=true:=by kernel_rfl
theorem ASn(w:World):Calls Tryz.prog 88 #[] w fun e w'=>e=.returned (.bool true)/\Below w.heap.size w w':=Chain.calls okP (v:=.bool true) (.fin ASm) w
end Go.Proofs.YtfmelbioccbdoaaGreat
end
