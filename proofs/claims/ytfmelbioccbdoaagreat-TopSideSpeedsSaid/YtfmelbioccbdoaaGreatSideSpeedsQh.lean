/-
  Part 8 of 14 of what the last text stands on: lemmas about the model, pure functions, walks, laws in plain Lean; each part's own head says its condition. Merged by a program of our own.
-/
import Derived.Test.YtfmelbioccbdoaaGreatSideSpeedsQg
set_option maxHeartbeats 0
set_option linter.all false
section
namespace Go.Proofs.YtfmelbioccbdoaaGreat
open Go Go.Md Go.RowKit
theorem AGN{f:FuncId}(h:∀w,Calls Tryz.prog f #[] w fun e w'=>e=.returned (.bool true)/\Below w.heap.size w w'){w0:World}{r:Bool}(hr:some true=some r):
  Calls Tryz.prog f [].toArray w0 (IA fun v w'=>v=.bool r/\Ext w0 w'):=by
 cases hr;exact(h w0).mono fun e w' h=>⟨_,h.1,rfl,h.2⟩
def AFp(_:Nat):Option Bool:=some true
theorem AUB{w0:World}{F:Nat}{r:Bool}(hF:AFp F=some r):Calls Tryz.prog 86 [].toArray w0 (IA fun v w'=>v=.bool r/\Ext w0 w'):=AGN ASl hF
def AFq(_:Nat):Option Bool:=some true
theorem AUC{w0:World}{F:Nat}{r:Bool}(hF:AFq F=some r):Calls Tryz.prog 87 [].toArray w0 (IA fun v w'=>v=.bool r/\Ext w0 w'):=AGN ASu hF
def AFr(_:Nat):Option Bool:=some true
theorem AUD{w0:World}{F:Nat}{r:Bool}(hF:AFr F=some r):Calls Tryz.prog 88 [].toArray w0 (IA fun v w'=>v=.bool r/\Ext w0 w'):=AGN ASn hF
def AFs(_:Nat):Option Bool:=some true
theorem ASv{w0:World}{F:Nat}{r:Bool}(hF:AFs F=some r):Calls Tryz.prog 116 [].toArray w0 (IA fun v w'=>v=.bool r/\Ext w0 w'):=AGN AQ1 hF
def AEd(F:Nat):Option Bool:=
 (AFp F)>>=fun x1=>
 (gd x1 (AFq F) false)>>=fun x2=>
 (gd (x1&&x2) (AFr F) false)>>=fun x3=>
 some ((x1&&x2)&&x3)
def AEe(F:Nat):Option Bool:=
 (AEd F)>>=fun x1=>
 (gd x1 (AFs F) false)>>=fun x2=>
 some (x1&&x2)
end Go.Proofs.YtfmelbioccbdoaaGreat
end
