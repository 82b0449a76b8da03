/-
  Part 7 of 13 of what the last text stands on: lemmas about the model, pure functions, walks, laws in plain Lean; each part's own head says its condition. Merged by a program of our own.
-/
import Derived.Test.YtfmelbioccbdoaaGreatGroupedTonesQf
set_option maxHeartbeats 0
set_option linter.all false
section
namespace Go.Proofs.YtfmelbioccbdoaaGreat
open Go Go.Md Go.RowKit
theorem AEl{f:FuncId}(h:∀w,Calls Tryz.prog f #[] w fun e w'=>e=.returned (.bool true)/\Below w.heap.size w w'){w0:World}{r:Bool}(hr:some true=some r):
  Calls Tryz.prog f [].toArray w0 (aZ fun v w'=>v=.bool r/\Ext w0 w'):=by
 cases hr;exact(h w0).mono fun e w' h=>⟨_,h.1,rfl,h.2⟩
def AEI(_:Nat):Option Bool:=some true
theorem ARi{w0:World}{F:Nat}{r:Bool}(hF:AEI F=some r):Calls Tryz.prog 86 [].toArray w0 (aZ fun v w'=>v=.bool r/\Ext w0 w'):=AEl AQR hF
def AEJ(_:Nat):Option Bool:=some true
theorem ARj{w0:World}{F:Nat}{r:Bool}(hF:AEJ F=some r):Calls Tryz.prog 87 [].toArray w0 (aZ fun v w'=>v=.bool r/\Ext w0 w'):=AEl AQa hF
def AEK(_:Nat):Option Bool:=some true
theorem ARk{w0:World}{F:Nat}{r:Bool}(hF:AEK F=some r):Calls Tryz.prog 88 [].toArray w0 (aZ fun v w'=>v=.bool r/\Ext w0 w'):=AEl AQT hF
def AEL(_:Nat):Option Bool:=some true
theorem AQb{w0:World}{F:Nat}{r:Bool}(hF:AEL F=some r):Calls Tryz.prog 116 [].toArray w0 (aZ fun v w'=>v=.bool r/\Ext w0 w'):=AEl AOt hF
def ADE(F:Nat):Option Bool:=
 (AEI F)>>=fun x1=>
 (gd x1 (AEJ F) false)>>=fun x2=>
 (gd (x1&&x2) (AEK F) false)>>=fun x3=>
 some ((x1&&x2)&&x3)
def ADF(F:Nat):Option Bool:=
 (ADE F)>>=fun x1=>
 (gd x1 (AEL F) false)>>=fun x2=>
 some (x1&&x2)
end Go.Proofs.YtfmelbioccbdoaaGreat
end
