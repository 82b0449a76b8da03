/-
  Part 9 of 14 of what the last text stands on: lemmas about the model, pure functions, walks, laws in plain Lean; each part's own head says its condition. Merged by a program of our own.
-/
import Derived.Test.YtfmelbioccbdoaaGreatSideSpeedsQh
import Derived.KernelRfl
import Derived.Test.YtfmelbioccbdoaaGreatProg
set_option maxHeartbeats 0
set_option linter.all false
section
namespace Go.Proofs.YtfmelbioccbdoaaGreat
open Go Go.Md Go.Md.Cf Go.RowKit Go.Proofs
noncomputable def AM9:Cf.Lit:=⟨[(0,.bool false),(1,.pointer (some ⟨0,0,none⟩)),(2,.int .i64 0),(3,.slice (some ⟨1,0,none⟩) 3 3),(4,.int .i64 0),(6,.int .i64 0),(7,.int .i64 3),(8,.int .i64 0)],[.cells [.int .i64 3,.int .i64 3,.slice (some ⟨2,0,none⟩) 5 5,.slice none 0 0] 110 0,.cells [.int .i64 1,.int .i64 2,.int .i64 4] 3 1,.cells [.int .i64 0,.int .i64 0,.int .i64 0,.int .i64 1,.int .i64 1,.int .i64 0,.int .i64 2,.int .i64 1,.int .i64 2,.int .i64 2] 112 0]⟩
noncomputable def ANA:Cf.Lit:=⟨[(0,.bool false),(1,.pointer (some ⟨0,0,none⟩)),(2,.int .i64 0),(3,.slice (some ⟨1,0,none⟩) 3 3),(4,.int .i64 0),(6,.int .i64 0),(7,.int .i64 3),(8,.int .i64 0),(9,.slice (some ⟨2,0,none⟩) 5 5),(10,.int .i64 0),(11,.slice (some ⟨3,0,none⟩) 4 4),(12,.int .i64 0),(13,.slice (some ⟨4,0,none⟩) 3 3),(14,.int .i64 0)],[.cells [.int .i64 3,.int .i64 3,.slice (some ⟨5,0,none⟩) 5 5,.slice none 0 0] 110 0,.cells [.int .i64 1,.int .i64 2,.int .i64 4] 3 1,.cells [.int .i64 0,.int .i64 2,.int .i64 2,.int .i64 0,.int .i64 2] 3 1,.cells [.int .i64 1,.int .i64 1,.int .i64 1,.int .i64 1] 3 1,.cells [.int .i64 2,.int .i64 0,.int .i64 2] 3 0,.cells [.int .i64 0,.int .i64 0,.int .i64 0,.int .i64 1,.int .i64 1,.int .i64 0,.int .i64 2,.int .i64 1,.int .i64 2,.int .i64 2] 112 0]⟩
noncomputable def ANB:Cf.Lit:=⟨[(0,.bool false),(1,.pointer (some ⟨0,0,none⟩)),(2,.int .i64 0),(3,.slice (some ⟨1,0,none⟩) 3 3),(4,.int .i64 0),(6,.int .i64 0),(7,.int .i64 3),(8,.int .i64 0),(9,.slice (some ⟨2,0,none⟩) 5 5),(10,.int .i64 0),(11,.slice (some ⟨3,0,none⟩) 4 4),(12,.int .i64 0),(13,.slice (some ⟨4,0,none⟩) 3 3),(14,.int .i64 0),(15,.int .i64 0),(16,.int .i64 2),(17,.int .i64 0)],[.cells [.int .i64 3,.int .i64 3,.slice (some ⟨5,0,none⟩) 5 5,.slice none 0 0] 110 0,.cells [.int .i64 1,.int .i64 2,.int .i64 4] 3 1,.cells [.int .i64 0,.int .i64 2,.int .i64 2,.int .i64 0,.int .i64 2] 3 1,.cells [.int .i64 1,.int .i64 1,.int .i64 1,.int .i64 1] 3 1,.cells [.int .i64 2,.int .i64 0,.int .i64 2] 3 0,.cells [.int .i64 0,.int .i64 0,.int .i64 0,.int .i64 1,.int .i64 1,.int .i64 0,.int .i64 2,.int .i64 1,.int .i64 2,.int .i64 2] 112 0]⟩
theorem AQ2:AA8 Tryz.prog 100000 135 0 6 ⟨[],[]⟩ [7,246,6] AM9=true:=by kernel_rfl
theorem AQ3:AA8 Tryz.prog 100000 135 6 3 AM9 [0,1,818,1324,1878,2] ANA=true:=by kernel_rfl
theorem AQ4:AA8 Tryz.prog 100000 135 9 1 ANA [0,1,2,3,4,5] ANB=true:=by kernel_rfl
theorem AQ5:ADd Tryz.prog 100000 135 10 ANB (.bool true)=true:=by kernel_rfl
theorem AQ6(w:World):Calls Tryz.prog 135 #[] w fun e w'=>e=.returned (.bool true)/\Below w.heap.size w w':=Chain.calls okP (v:=.bool true) (.step AQ2 (.step AQ3 (.step AQ4 (.fin AQ5)))) w
end Go.Proofs.YtfmelbioccbdoaaGreat
end
