/-
  Part 10 of 14 of what the last text stands on: lemmas about the model, pure functions, walks, laws in plain Lean; each part's own head says its condition. Merged by a program of our own.
-/
import Derived.Test.YtfmelbioccbdoaaGreatSideSpeedsQi
set_option maxHeartbeats 0
set_option linter.all false
section
namespace Go.Proofs.YtfmelbioccbdoaaGreat
open Go Go.Md Go.RowKit
theorem AOO{f:FuncId}(h:∀w,Calls Tryz.prog f #[] w fun e w'=>e=.returned (.bool true)/\Below w.heap.size w w'){w0:World}{r:Bool}(hr:some true=some r):
  Calls Tryz.prog f [].toArray w0 (IA fun v w'=>v=.bool r/\Ext w0 w'):=by
 cases hr;exact(h w0).mono fun e w' h=>⟨_,h.1,rfl,h.2⟩
def AFt(_:Nat):Option Bool:=some true
theorem ASw{w0:World}{F:Nat}{r:Bool}(hF:AFt F=some r):Calls Tryz.prog 135 [].toArray w0 (IA fun v w'=>v=.bool r/\Ext w0 w'):=AOO AQ6 hF
end Go.Proofs.YtfmelbioccbdoaaGreat
end
