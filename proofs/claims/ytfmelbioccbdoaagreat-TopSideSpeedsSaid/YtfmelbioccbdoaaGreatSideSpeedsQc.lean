/-
  Part 3 of 14 of what the last text stands on: lemmas about the model, pure functions, walks, laws in plain Lean; each part's own head says its condition. Merged by a program of our own.
-/
import Derived.Test.YtfmelbioccbdoaaGreatSideSpeedsQb
import Derived.OrdersIn
import Derived.RangeFuncLeaves
import Derived.WalkKit
import Derived.Deep.AppendSrc
import Derived.RangeFuncNested
import Derived.Maps.RangeRun
set_option maxHeartbeats 0
set_option linter.all false
section
namespace Go.Md.Cf
open Go Go.RowKit
section
section
variable {P:Program}{w0:W0}{E:En}
theorem MW{α β:Type}(s:Sem α)(k:α->Sem β)(A:AH):Jr P (s>>=k) A=match Jr P s A with
  |some (v,A')=>Jr P (k v) A'
  |none=>none:=by
 show Jr P (s.bind k) A=_
 induction s generalizing A with
 |pure a=>rfl
 |load m a k' ih=>simp only[Sem.bind,Jr];cases A.load a<;>simp[ih]
 |store m a v k' ih=>simp only[Sem.bind,Jr];cases A.store a v<;>simp[ih]
 |new o k' ih=>simp only[Sem.bind,Jr];cases AO.ofObj o<;>simp[ih]
 |shape r k' ih=>rfl
 |freeze a n k' ih=>rfl
 |frozen a k' ih=>rfl
 |getObj r k' ih=>
  simp only[Sem.bind,Jr];cases YA A.t r with
  |none=>rfl
  |some o=>simp only[];cases o.toObj<;>simp[ih]
 |setObj r o k' ih=>
  simp only[Sem.bind,Jr];split<;>simp[ih]
 |choose q k' ih=>simp only[Sem.bind,Jr];cases q.forced<;>simp[ih]
 |sys c k' ih=>rfl
 |program k' ih=>simp only[Sem.bind,Jr];exact ih _ _
 |mark m k' ih=>simp only[Sem.bind,Jr];exact ih _
 |halt h=>rfl
def Sim(P:Program)(w0:W0){α β:Type}(R:En->α->β->Prop)(E:En)(s:Sem α)(s':Sem β):Prop:=
 ∀(E1:En)(A:AH)(w:World),En.le E E1->HR w0 E1 A w->∀(v:α)(A':AH),Jr P s A=some (v,A')->
  ∃(E':En)(v':β)(w':World),En.le E1 E'/\s'.run P w=.ok v' w'/\R E' v v'/\HR w0 E' A' w'
variable {α β γ δ:Type}
theorem Sim.pure{R:En->α->β->Prop}{v:α}{v':β}(h:∀E',En.le E E'->R E' v v'):Sim P w0 R E (Pure.pure v) (Pure.pure v'):=by
 intro E1 A w hE hH u A' hu;cases(show some (v,A)=some (u,A')from hu);exact⟨E1,v',w,En.le_rfl,rfl,h _ hE,hH⟩
theorem IB{s:Sem α}{k:α->Sem β}{w w':World}{v:α}(h:s.run P w=.ok v w'):(s>>=k).run P w=(k v).run P w':=by
 rw[Sem.run_bind,h];rfl
theorem Sim.bind{R:En->α->β->Prop}{R':En->γ->δ->Prop}{s:Sem α}{s':Sem β}{k:α->Sem γ}{k':β->Sem δ}(h:Sim P w0 R E s s')
  (hk:∀(E':En)(v:α)(v':β),En.le E E'->R E' v v'->Sim P w0 R' E' (k v) (k' v')):Sim P w0 R' E (s>>=k) (s'>>=k'):=by
 intro E1 A w hE hH u A' hu;rw[MW]at hu;cases hs:Jr P s A with
 |none=>rw[hs]at hu;cases hu
 |some r=>
  obtain⟨v,A1⟩:=r;rw[hs]at hu;obtain⟨E2,v',w1,h1,h2,h3,h4⟩:=h E1 A w hE hH v A1 hs;obtain⟨E3,u',w2,h5,h6,h7,h8⟩:=hk E2 v v' (hE.trans h1) h3 E2 A1 w1 En.le_rfl h4 u A' hu;exact⟨E3,u',w2,h1.trans h5,(IB h2).trans h6,h7,h8⟩
theorem Sim.mono{R R':En->α->β->Prop}{s:Sem α}{s':Sem β}(h:Sim P w0 R E s s')(hR:∀E' v v',En.le E E'->R E' v v'->R' E' v v'):Sim P w0 R' E s s':=by
 intro E1 A w hE hH u A' hu;obtain⟨E2,v',w1,h1,h2,h3,h4⟩:=h E1 A w hE hH u A' hu;exact⟨E2,v',w1,h1,h2,hR _ _ _ (hE.trans h1) h3,h4⟩
theorem Sim.halt{R:En->α->β->Prop}{h:Halt}{s':Sem β}:Sim P w0 R E (.halt h) s':=by
 intro E1 A w hE hH u A' hu;cases hu
theorem Sim.ext{R:En->α->β->Prop}{s:Sem α}{s':Sem β}{E':En}(hE:En.le E E')(h:Sim P w0 R E s s'):Sim P w0 R E' s s':=
 fun E1 A w h1=>h E1 A w (hE.trans h1)
theorem Sim.program{R:En->α->β->Prop}{k:Program->Sem α}{k':Program->Sem β}(h:Sim P w0 R E (k P) (k' P)):Sim P w0 R E (.program k) (.program k'):=h
theorem Sim.prog:Sim P w0 (fun _ v v'=>v=P/\v'=P) E (Go.program) (Go.program):=Sim.program (Sim.pure fun _ _=>⟨rfl,rfl⟩)
theorem AKb{w:World}{b:Nat}{c:Array Value}{e:TypeId}(h:w.heap[b]?=some (.cells c e (0,0)))(o:Nat)(s:Option Nat):w.frozen? ⟨b,o,s⟩=false:=by
 simp[World.frozen?,h]
theorem Sim.load{a a':Addr}(ha:VR E (.pointer (some a)) (.pointer (some a'))):Sim P w0 VR E (Go.load a) (Go.load a'):=by
 intro E1 A w hE hH v A' hu;simp only[Go.load,Jr]at hu;cases hl:A.load a with
 |none=>rw[hl]at hu;cases hu
 |some u=>
  rw[hl]at hu;cases hu;cases ha with| @ptr _ _ g h1 h2 h3=>
  obtain⟨b,o,s⟩:=a;obtain⟨b',o',s'⟩:=a';dsimp only at h1 h2 h3;cases s with|some q=>cases hl|none=>
  subst h1 h2;unfold AH.load at hl;simp only at hl;split at hl
  ·rename_i cs e g' hg
   obtain⟨p,l,t,h5,h0,h6,_⟩:=hH.obj _ _ _ _ hg (EP hE h3);obtain⟨v',h7,h8⟩:=h6.get hl;refine⟨E1,v',w,En.le_rfl,?_,h8,hH⟩;have hc:w.cell? ⟨b',o+g.2.1,none⟩=some v':=by
    simp only[World.cell?,h5];simp;rw[List.getElem?_append_right (by omega),h0,Nat.add_sub_cancel,List.getElem?_append_left (List.getElem?_eq_some_iff.1 h7).1];exact h7
   simp[Go.load,Sem.run,hc]
  ·cases hl
theorem Sim.store{a a':Addr}{v v':Value}(ha:VR E (.pointer (some a)) (.pointer (some a')))(hv:VR E v v'):Sim P w0 (fun _ _ _=>True) E (Go.store a v) (Go.store a' v'):=by
 intro E1 A w hE hH u A' hu;simp only[Go.store,Jr]at hu;cases hl:A.store a v with
 |none=>rw[hl]at hu;cases hu
 |some A1=>
  rw[hl]at hu;cases hu;cases ha with| @ptr _ _ gg h1 h2 h3=>
  obtain⟨b,o,s⟩:=a;obtain⟨b',o',s'⟩:=a';dsimp only at h1 h2 h3;cases s with|some q=>cases v<;>cases hl|none=>
  subst h1 h2;have hv1:∀c,v≠.agg c:=fun c e=>by subst e;cases hl
  have hv2:∀c,v≠.tuple c:=fun c e=>by subst e;cases hl
  have hw1:∀c,v'≠.agg c:=fun c e=>by subst e;cases hv;exact hv1 _ rfl
  have hw2:∀c,v'≠.tuple c:=fun c e=>by subst e;cases hv;exact hv2 _ rfl
  unfold AH.store at hl;split at hl
  ·exact absurd rfl (hv1 _)
  ·exact absurd rfl (hv2 _)
  simp only at hl;split at hl
  ·rename_i cs e g hg
   split at hl
   ·rename_i cs' hs
    cases hl;have h4':=EP hE h3;obtain⟨p,l,t,h5,h0,h6,h7,h8⟩:=hH.obj _ _ _ _ hg h4';obtain⟨h9,h10⟩:=h6.set (hv.mono hE) hs;have hlt:o<l.length:=by rw[h6.length];exact h10
    have hset:(p++l++t).set (o+gg.2.1) v'=p++l.set o v'++t:=by
     rw[List.append_assoc,List.set_append_right _ _ (by omega),h0,Nat.add_sub_cancel,List.set_append_left _ _ hlt,List.append_assoc]
    obtain⟨x,hx⟩:∃x,w.cell? ⟨b',o+gg.2.1,none⟩=some x:=by
     refine⟨l[o],?_⟩;simp only[World.cell?,h5];simp;rw[List.getElem?_append_right (by omega),h0,Nat.add_sub_cancel,List.getElem?_append_left hlt];exact List.getElem?_eq_getElem hlt
    refine⟨E1,(),w.setCell ⟨b',o+gg.2.1,none⟩ v',En.le_rfl,?_,trivial,?_⟩
    ·cases v'<;>first|exact absurd rfl (hw1 _)|exact absurd rfl (hw2 _)|simp[Go.store,Sem.run,hx,AKb h5]
    ·refine hH.put hg rfl h4' ⟨p,l.set o v',t,?_,h0,h9,h7,by rw[<-h8.1];simp,h8.2⟩ (World.size_setCell ..) (fun k hk=>?_) rfl rfl rfl
     ·simp only[World.setCell,Array.getElem?_modify,if_true,h5]
      rw[<-hset];simp
     ·simp only[World.setCell,Array.getElem?_modify]
      rw[if_neg (fun e=>hk e.symm)]
   ·cases hl
  ·cases hl
theorem ABp(w:World)(o:Obj):(w.alloc o).heap[w.heap.size]?=some o:=by show(w.heap.push o)[w.heap.size]?=_;simp
theorem Sim.newCells{c c':Array Value}{e:TypeId}(h:VRs E c.toList c'.toList):Sim P w0 (fun E r r'=>∃n,E r=some (r',0,0,n)) E (Go.newObj (.cells c e)) (Go.newObj (.cells c' e)):=by
 intro E1 A w hE hH u A' hu;simp only[Go.newObj,Jr,AO.ofObj]at hu;cases hu;refine⟨_,w.heap.size,_,En.le_put hH.fresh,rfl,?_,hH.push (g:=(0,0,c'.size)) ?_⟩
 ·exact⟨_,En.put_same⟩
 ·refine⟨[],c'.toList,[],?_,rfl,h.mono (hE.trans (En.le_put hH.fresh)),rfl,by simp,fun _=>⟨rfl,rfl⟩⟩
  rw[ABp];simp
theorem Sim.newMap:Sim P w0 (fun E r r'=>∃g,E r=some (r',g)) E (Go.newObj (.map #[] 0)) (Go.newObj (.map #[] 0)):=by
 intro E1 A w hE hH u A' hu;simp only[Go.newObj,Jr,AO.ofObj]at hu;cases hu;refine⟨_,w.heap.size,_,En.le_put hH.fresh,rfl,⟨(0,0,0),?_⟩,hH.push (g:=(0,0,0)) ?_⟩
 ·exact En.put_same
 ·exact⟨#[],ABp _ _,.nil⟩
inductive ObR(E:En):Obj->Obj->Prop
 |map {es es':Array MapEntry} {c:Nat} (h:ERs E es.toList es'.toList):ObR E (.map es c) (.map es' c)
theorem Sim.getObj{r r':Nat}{g:Nat×Nat×Nat}(h:E r=some (r',g)):Sim P w0 ObR E (Go.getObj r) (Go.getObj r'):=by
 intro E1 A w hE hH u A' hu;simp only[Go.getObj,Jr]at hu;cases hg:YA A.t r with
 |none=>rw[hg]at hu;cases hu
 |some o=>
  rw[hg]at hu;have h5:=hH.obj _ _ _ _ hg (EP hE h);cases o<;>try (cases hu;done)
  case map es c=>
   cases hu;obtain⟨es',h6,h7⟩:=h5;exact⟨E1,.map es' c,w,En.le_rfl,by simp[Go.getObj,Sem.run,h6],.map (by simpa using h7),hH⟩
theorem Sim.setMap{r r':Nat}{g:Nat×Nat×Nat}(h:E r=some (r',g)){es es':Array MapEntry}{c:Nat}(he:ERs E es.toList es'.toList):
  Sim P w0 (fun _ _ _=>True) E (Go.setObj r (.map es c)) (Go.setObj r' (.map es' c)):=by
 intro E1 A w hE hH u A' hu;simp only[Go.setObj,Jr,AO.ofObj]at hu;cases hg:YA A.t r with
 |none=>rw[hg]at hu;cases hu
 |some o=>
  rw[hg]at hu;cases o<;>try (cases hu;done)
  cases hu;have h4':=EP hE h;obtain⟨es2,h5,_⟩:=hH.obj _ _ _ _ hg h4';have hlt:=(hH.base _ _ _ h4').2;refine⟨E1,(),{w with heap:=w.heap.setIfInBounds r' (.map es' c)},En.le_rfl,by simp[Go.setObj,Sem.run,h5],trivial,?_⟩;refine hH.put hg rfl h4' ⟨es',?_,he.mono hE⟩ (by simp) (fun k hk=>?_) rfl rfl rfl
  ·simp[hlt]
  ·simp[Array.getElem?_setIfInBounds];exact fun e=>absurd e.symm hk
theorem AGj{α:Type}{s:Sem α}{v:α}(h:ADw P s=some v)(w:World):s.run P w=.ok v w:=by
 induction s<;>simp only[ADw]at h<;>try (cases h;done)
 case pure a=>cases h;rfl
 case choose q k ih=>
  cases hf:q.forced<;>rw[hf]at h
  ·cases h
  ·simp only[Sem.run,hf,if_true];exact ih _ h
 case program k ih=>exact ih _ h
 case mark m k ih=>exact ih h
end
end
section
section
variable {P:Program}{w0:W0}{E:En}{α β:Type}
def Q(P:Program)(s:Sem α):Prop:=∀(A:AH)(v:α)(A':AH),Jr P s A=some (v,A')->A'=A/\∀w,s.run P w=.ok v w
theorem Q.pure{v:α}:Q P (Pure.pure v:Sem α):=fun A u A' h=>by cases(show some (v,A)=some (u,A')from h);exact⟨rfl,fun _=>rfl⟩
theorem Q.halt{h:Halt}:Q P (Sem.halt h:Sem α):=fun A u A' h=>by cases h
theorem Q.bind{s:Sem α}{k:α->Sem β}(h:Q P s)(hk:∀v,Q P (k v)):Q P (s>>=k):=fun A u A' hu=>by
 rw[MW]at hu;cases hs:Jr P s A with
 |none=>rw[hs]at hu;cases hu
 |some r=>
  obtain⟨v,A1⟩:=r;rw[hs]at hu;obtain⟨rfl,h2⟩:=h _ _ _ hs;obtain⟨rfl,h3⟩:=hk _ _ _ _ hu;exact⟨rfl,fun w=>(IB (h2 w)).trans (h3 w)⟩
theorem Q.prog:Q P Go.program:=fun A u A' h=>by cases(show some (P,A)=some (u,A')from h);exact⟨rfl,fun _=>rfl⟩
theorem Q.choose{q:Question}:Q P (Go.choose q):=fun A u A' h=>by
 unfold Go.choose at h⊢;simp only[Jr]at h;cases hf:q.forced<;>rw[hf]at h
 ·cases h
 ·cases h
  exact⟨rfl,fun _=>by simp[Sem.run,hf]⟩
theorem Q.mark{m:Mark}:Q P (Go.mark m):=fun A u A' h=>by cases(show some ((),A)=some (u,A')from h);exact⟨rfl,fun _=>rfl⟩
theorem Q.sim{s:Sem α}(h:Q P s):Sim P w0 (fun _ v v'=>v'=v) E s s:=fun E1 A w hE hH v A' hu=>by
 obtain⟨rfl,h2⟩:=h _ _ _ hu;exact⟨E1,v,w,En.le_rfl,h2 w,rfl,hH⟩
theorem Q.info{t:TypeId}:Q P (typeInfo t):=by
 unfold typeInfo;refine Q.bind Q.prog fun p=>?_;split
 ·exact Q.pure
 ·exact Q.halt
theorem Q.und{t:TypeId}:Q P (underlying t):=by
 unfold underlying;refine Q.bind Q.prog fun p=>?_;split
 ·exact Q.pure
 ·exact Q.halt
theorem Q.size{t:TypeId}:Q P (sizeOf t):=by unfold sizeOf;exact Q.bind Q.info fun _=>Q.pure
theorem Q.isAgg{t:TypeId}:Q P (isAgg t):=by
 unfold Go.isAgg;refine Q.bind Q.und fun d=>?_;split<;>exact Q.pure
theorem Q.int{v:Value}:Q P (asIntOf v):=by unfold asIntOf;split<;>first|exact Q.pure|exact Q.halt
theorem Q.asInt{v:Value}:Q P (Go.asInt v):=by unfold Go.asInt;exact Q.bind Q.int fun _=>Q.pure
theorem Q.bounds{x y:Int}{s:Bool}{c:BoundsCode}:Q P (runtimePanic (.bounds x y s c):Sem α):=by unfold runtimePanic;exact Q.bind Q.prog fun _=>Q.halt
theorem Q.error{m:String}:Q P (runtimePanic (.error m):Sem α):=by unfold runtimePanic;exact Q.bind Q.prog fun _=>Q.halt
theorem Q.plain{m:String}:Q P (runtimePanic (.plain m):Sem α):=by unfold runtimePanic;exact Q.bind Q.prog fun _=>Q.halt
theorem Q.bpanic{k:IntKind}{x y:Int}{c:BoundsCode}:Q P (boundsPanic k x y c:Sem α):=by
 unfold boundsPanic;dsimp only;split
 ·exact Q.bind (Q.bind (k:=fun n=>Pure.pure (n==1)) Q.choose fun _=>Q.pure) fun _=>Q.bounds
 ·exact Q.bind Q.pure fun _=>Q.bounds
def Zf(P:Program):Prop:=∀t i z,P.info? t=some i->i.zero=some z->ABT z=true
theorem AIJ{t:TypeId}{A A':AH}{i:TypeInfo}(h:Jr P (typeInfo t) A=some (i,A')):P.info? t=some i:=by
 unfold typeInfo at h;rw[MW]at h;simp only[Go.program,Jr]at h;split at h
 ·rename_i j hj
  cases(show some (j,A)=some (i,A')from h);exact hj
 ·cases h
theorem Sim.zero(hZ:Zf P){t:TypeId}:Sim P w0 (fun _ v v'=>v'=v/\ABT v=true) E (zeroValue t) (zeroValue t):=by
 intro E1 A w hE hH v A' hu;have hq:Q P (zeroValue t):=by
  unfold zeroValue;refine Q.bind Q.info fun i=>?_;split
  ·exact Q.pure
  ·exact Q.halt
 obtain⟨rfl,h2⟩:=hq _ _ _ hu;refine⟨E1,v,w,En.le_rfl,h2 w,⟨rfl,?_⟩,hH⟩;unfold zeroValue at hu;rw[MW]at hu;cases hi:Jr P (typeInfo t) A' with
 |none=>rw[hi]at hu;cases hu
 |some r=>
  obtain⟨i,A2⟩:=r;rw[hi]at hu;simp only at hu;split at hu
  ·rename_i z hz
   cases(show some (z,A2)=some (v,A')from hu);exact hZ _ _ _ (AIJ hi) hz
  ·cases hu
theorem VR.padd{a a':Addr}(h:VR E (.pointer (some a)) (.pointer (some a')))(n:Nat):VR E (.pointer (some (a.add n))) (.pointer (some (a'.add n))):=by
 cases h with|ptr h1 h2 h3=>
 unfold Addr.add;split
 ·exact .ptr h1 h2 h3
 ·exact .ptr (by simp[h1];omega) rfl h3
theorem Sim.loadCellsFrom{a a':Addr}(n:Nat):∀{E:En}(_:VR E (.pointer (some a)) (.pointer (some a')))(i:Nat){c c':Array Value},VRs E c.toList c'.toList->
  Sim P w0 (fun E c c'=>VRs E c.toList c'.toList) E (Go.loadCellsFrom a i n c) (Go.loadCellsFrom a' i n c'):=by
 induction n with
 |zero=>exact fun h i c c' hc=>Sim.pure fun E' hE=>hc.mono hE
 |succ n ih=>
  intro E h i c c' hc;unfold Go.loadCellsFrom;refine Sim.bind (Sim.load (h.padd i)) fun E' v v' hE hv=>ih (h.mono hE) (i+1) ?_;simp only[Array.toList_push];exact(hc.mono hE).append (.cons hv .nil)
theorem Sim.loadCells{a a':Addr}(h:VR E (.pointer (some a)) (.pointer (some a')))(n:Nat):Sim P w0 (fun E c c'=>VRs E c.toList c'.toList) E (Go.loadCells a n) (Go.loadCells a' n):=
 Sim.loadCellsFrom n h 0 .nil
theorem Sim.storeCells{a a':Addr}:∀{E:En}(_:VR E (.pointer (some a)) (.pointer (some a'))){l l':List Value}(_:VRs E l l')(i:Nat),
  Sim P w0 (fun _ _ _=>True) E (Go.storeCells a l i) (Go.storeCells a' l' i):=by
 intro E h l
 induction l generalizing E with
 |nil=>intro l' hl i;cases hl;exact Sim.pure fun _ _=>trivial
 |cons x l ih=>
  intro l' hl i;cases hl with|cons hx hl=>
  unfold Go.storeCells;exact Sim.bind (Sim.store (h.padd i) hx) fun E' _ _ hE _=>ih (h.mono hE) (hl.mono hE) (i+1)
theorem Sim.loadVar{a a':Addr}(h:VR E (.pointer (some a)) (.pointer (some a'))){t:TypeId}:Sim P w0 VR E (Go.loadVar t a) (Go.loadVar t a'):=by
 unfold Go.loadVar;refine Sim.bind Q.isAgg.sim fun E' b b' hE e=>?_;subst e;split
 ·refine Sim.bind Q.size.sim fun E' b b' hE' e=>?_
  subst e;exact Sim.bind (Sim.loadCells (h.mono (hE.trans hE')) _) fun E' c c' _ hc=>Sim.pure fun _ hE=>.agg (hc.mono hE)
 ·exact Sim.load (h.mono hE)
theorem Sim.storeVar{a a':Addr}(h:VR E (.pointer (some a)) (.pointer (some a'))){t:TypeId}{v v':Value}(hv:VR E v v'):Sim P w0 (fun _ _ _=>True) E (Go.storeVar t a v) (Go.storeVar t a' v'):=by
 unfold Go.storeVar;refine Sim.bind Q.size.sim fun E' b b' hE e=>?_;subst e;have hs:v'.cells.size=v.cells.size:=by have:=hv.cells.length;simpa using this
 rw[hs];split
 ·exact Sim.bind (R:=fun _ _ _=>True) Sim.halt fun _ _ _ _ _=>Sim.storeCells (h.mono (hE.trans (by assumption))) (hv.cells.mono (hE.trans (by assumption))) 0
 ·exact Sim.storeCells (h.mono hE) (hv.cells.mono hE) 0
theorem Sim.newRow{c c':Array Value}{e:TypeId}(h:VRs E c.toList c'.toList):Sim P w0 (fun E a a'=>VR E (.pointer (some a)) (.pointer (some a'))/\a.off=0) E (Go.newRow e c) (Go.newRow e c'):=by
 unfold Go.newRow;exact Sim.bind (Sim.newCells h) fun E' r r' _⟨n,hg⟩=>Sim.pure fun _ hE=>⟨.ptr (g:=(0,0,n)) rfl rfl (EP hE hg),rfl⟩
theorem Sim.newVar{v v':Value}{e:TypeId}(h:VR E v v'):Sim P w0 (fun E a a'=>VR E (.pointer (some a)) (.pointer (some a'))/\a.off=0) E (Go.newVar e v) (Go.newVar e v'):=Sim.newRow h.cells
theorem Sim.part{c c':Array Value}(h:VRs E c.toList c'.toList){t:TypeId}{o:Nat}:Sim P w0 VR E (Go.part t c o) (Go.part t c' o):=by
 unfold Go.part;refine Sim.bind Q.isAgg.sim fun E' b b' hE e=>?_;subst e;split
 ·refine Sim.bind Q.size.sim fun E' n n' hE' e=>?_
  subst e;refine Sim.pure fun E2 hE2=>.agg ?_;simp only[Array.toList_extract,List.extract_eq_take_drop];exact((h.mono (hE.trans (hE'.trans hE2))).drop _).take _
 ·split
  ·rename_i v hv
   obtain⟨v',h1,h2⟩:=h.get (i:=o) (v:=v) (by simpa using hv);rw[show c'[o]?=some v' by simpa using h1];exact Sim.pure fun E2 hE2=>h2.mono (hE.trans hE2)
  ·exact Sim.halt
end
end
section
section
variable {P:Program}{w0:W0}{E:En}{α β:Type}
def NR(E:En):Next->Next->Prop
 |.value v,.value v'=>VR E v v'
 |.skip,.skip=>True
 |_,_=>False
theorem Sim.value{s s':Sem Value}(h:Sim P w0 VR E s s'):Sim P w0 NR E (do Pure.pure (Next.value (<-s))) (do Pure.pure (Next.value (<-s'))):=
 Sim.bind h fun _ _ _ _ hv=>Sim.pure fun _ hE=>hv.mono hE
theorem Sim.unit{s s':Sem Unit}(h:Sim P w0 (fun _ _ _=>True) E s s'):Sim P w0 NR E (do s;Pure.pure Next.skip) (do s';Pure.pure Next.skip):=
 Sim.bind h fun _ _ _ _ _=>Sim.pure fun _ _=>trivial
theorem Sim.sure{v v':Value}(h:VR E v v'):Sim P w0 (fun E a a'=>VR E (.pointer (some a)) (.pointer (some a'))) E (Instr.sureAddr v) (Instr.sureAddr v'):=by
 unfold Instr.sureAddr;cases h<;>try exact Sim.halt
 case ptr h1 h2 h3=>exact Sim.pure fun E' hE=>(VR.ptr h1 h2 h3).mono hE
theorem AN4{v v':Value}(h:VR E v v'):asIntOf v'=asIntOf v\/∃a,v=.pointer (some a):=by
 cases h<;>first|exact .inl rfl|exact .inr ⟨_,rfl⟩
theorem Sim.int{v v':Value}(h:VR E v v'):Sim P w0 (fun _ n n'=>n'=n) E (asIntOf v) (asIntOf v'):=by
 rcases AN4 h with e|⟨a,rfl⟩
 ·rw[e];exact Q.int.sim
 ·exact Sim.halt
theorem Sim.asInt{v v':Value}(h:VR E v v'):Sim P w0 (fun _ n n'=>n'=n) E (Go.asInt v) (Go.asInt v'):=by
 unfold Go.asInt;exact Sim.bind (Sim.int h) fun _ _ _ _ e=>Sim.pure fun _ _=>by rw[e]
theorem Sim.loadAt{v v':Value}(h:VR E v v'){t:TypeId}:Sim P w0 VR E (Instr.loadAt t v) (Instr.loadAt t v'):=by
 unfold Instr.loadAt;exact Sim.bind (Sim.sure h) fun _ _ _ _ ha=>Sim.loadVar ha
theorem Sim.storeAt{v v' x x':Value}(h:VR E v v')(hx:VR E x x'){t:TypeId}:Sim P w0 (fun _ _ _=>True) E (Instr.storeAt t v x) (Instr.storeAt t v' x'):=by
 unfold Instr.storeAt;exact Sim.bind (Sim.sure h) fun _ _ _ hE ha=>Sim.storeVar ha (hx.mono hE)
theorem Sim.alloc(hZ:Zf P){t:TypeId}:Sim P w0 VR E (Instr.alloc t true (.tuple #[])) (Instr.alloc t true (.tuple #[])):=by
 unfold Instr.alloc;refine Sim.bind (Sim.zero hZ) fun E' z z' hE hz=>?_;obtain⟨rfl,hz⟩:=hz;exact Sim.bind (Sim.newVar (ABV hz)) fun _ _ _ _ ha=>Sim.pure fun _ hE=>ha.1.mono hE
theorem Sim.nope{R:En->α->β->Prop}{s:Sem α}{s':Sem β}(h:∀A,Jr P s A=none):Sim P w0 R E s s':=fun E1 A w _ _ v A' hu=>by rw[h]at hu;cases hu
theorem AJw{x y:Int}{s:Bool}{c:BoundsCode}(A:AH):Jr P (runtimePanic (.bounds x y s c):Sem α) A=none:=by unfold runtimePanic;rw[MW];rfl
theorem AJx{k:IntKind}{x y:Int}{c:BoundsCode}(A:AH):Jr P (boundsPanic k x y c:Sem α) A=none:=by
 unfold boundsPanic;dsimp only;split<;>rw[MW]<;>split<;>first|exact AJw _|rfl
theorem Sim.bpanic{R:En->α->β->Prop}{k:IntKind}{x y:Int}{c:BoundsCode}{s':Sem β}:Sim P w0 R E (boundsPanic k x y c:Sem α) s':=Sim.nope AJx
theorem AJy{a:Addr}(h:a.spot=none)(A:AH):Jr P (byteOf a) A=none:=by
 unfold byteOf;rw[h]
 rfl
theorem AJz{a:Addr}{c b:Nat}(A:AH):Jr P (partAt a c b) A=none:=by
 unfold partAt;rw[MW];cases h:Jr P (byteOf a) A with
 |none=>rfl
 |some r=>
  simp only;rw[MW,AJy rfl]
theorem Sim.fieldAt{v v':Value}(h:VR E v v'){t:TypeId}{f:Nat}:Sim P w0 VR E (Instr.fieldAt t v f) (Instr.fieldAt t v' f):=by
 unfold Instr.fieldAt;refine Sim.bind Q.und.sim fun E' d d' hE e=>?_;subst e;split
 ·split
  ·refine Sim.bind (Sim.sure (h.mono hE)) fun E2 a a' hE2 ha=>?_
   refine Sim.bind (R:=fun E a a'=>VR E (.pointer (some a)) (.pointer (some a'))) ?_ fun _ _ _ _ ha=>Sim.pure fun _ hE=>ha.mono hE;unfold fieldPlace;refine Sim.bind Q.size.sim fun E3 n n' hE3 e=>?_;subst e;split
   ·intro E1 A w _ _ u A' hu
    rw[AJz]at hu;cases hu
   ·exact Sim.pure fun _ hE=>(ha.mono (hE3.trans hE)).padd _
  ·exact Sim.halt
 ·exact Sim.halt
theorem Sim.indexAt{v v' i i':Value}(h:VR E v v')(hi:VR E i i'){t:TypeId}:Sim P w0 VR E (Instr.indexAt t v i) (Instr.indexAt t v' i'):=by
 unfold Instr.indexAt;refine Sim.bind (Sim.int hi) fun E1 n n' hE1 e=>?_;subst e;obtain⟨k,i⟩:=n';refine Sim.bind Q.und.sim fun E2 d d' hE2 e=>?_;subst e;have h2:=h.mono (hE1.trans hE2);dsimp only;cases d'<;>try exact Sim.halt
 case array len elem=>
  refine Sim.bind (Sim.sure h2) fun E3 a a' hE3 ha=>?_;refine Sim.bind (R:=fun _ x y=>x=(some a,len,elem)/\y=(some a',len,elem)) (Sim.pure fun _ _=>⟨rfl,rfl⟩) ?_;rintro E4 _ _ hE4⟨rfl,rfl⟩;refine Sim.bind Q.und.sim fun E5 d d' hE5 e=>?_;subst e;dsimp only;split
  ·refine Sim.bind Q.size.sim fun E6 n n' hE6 e=>?_
   subst e;exact Sim.pure fun _ hE=>(ha.mono (hE4.trans (hE5.trans (hE6.trans hE)))).padd _
  ·split<;>split<;>first|exact Sim.halt|exact Sim.bpanic
 case slice elem=>
  cases h2<;>try exact Sim.halt
  case nils l c=>
   refine Sim.bind (R:=fun _ x y=>x=(none,l,elem)/\y=(none,l,elem)) (Sim.pure fun _ _=>⟨rfl,rfl⟩) ?_;rintro E4 _ _ hE4⟨rfl,rfl⟩;refine Sim.bind Q.und.sim fun E5 d d' hE5 e=>?_;exact Sim.bpanic
  case sl0 a a' g c' h3 h5 h2=>
   refine Sim.bind (R:=fun _ x y=>x=(some a,0,elem)/\y=(some a',0,elem)) (Sim.pure fun _ _=>⟨rfl,rfl⟩) ?_;rintro E4 _ _ hE4⟨rfl,rfl⟩;refine Sim.bind Q.und.sim fun E5 d d' hE5 e=>?_;subst e;dsimp only;split
   ·rename_i hh
    exact absurd hh (by rintro⟨h1,h2⟩;simp at h2;omega)
   ·split<;>split<;>first|exact Sim.halt|exact Sim.bpanic
  case sl a a' g len c c' h1 h2 h3 h4 h5 h6=>
   refine Sim.bind (R:=fun _ x y=>x=(some a,len,elem)/\y=(some a',len,elem)) (Sim.pure fun _ _=>⟨rfl,rfl⟩) ?_;rintro E4 _ _ hE4⟨rfl,rfl⟩;have ha:VR E4 (.pointer (some a)) (.pointer (some a')):=.ptr h1 h2 (EP hE4 h3);refine Sim.bind Q.und.sim fun E5 d d' hE5 e=>?_;subst e;dsimp only;split
   ·refine Sim.bind Q.size.sim fun E6 n n' hE6 e=>?_
    subst e;exact Sim.pure fun _ hE=>(ha.mono (hE5.trans (hE6.trans hE))).padd _
   ·split<;>split<;>first|exact Sim.halt|exact Sim.bpanic
end
end
section
section
variable {P:Program}{w0:W0}{E:En}{α β:Type}
theorem Sim.field{v v':Value}(h:VR E v v'){t:TypeId}{f:Nat}:Sim P w0 VR E (Instr.field t v f) (Instr.field t v' f):=by
 unfold Instr.field;refine Sim.bind Q.und.sim fun E1 d d' hE1 e=>?_;subst e;split
 ·split
  ·refine Sim.bind (R:=fun E(c c':Array Value)=>VRs E c.toList c'.toList) ?_ fun _ _ _ _ hc=>Sim.part hc
   unfold asAgg;cases h<;>try exact Sim.halt
   case agg hc=>exact Sim.pure fun _ hE=>hc.mono (hE1.trans hE)
  ·exact Sim.halt
 ·exact Sim.halt
theorem Sim.index{v v' i i':Value}(h:VR E v v')(hi:VR E i i'){t:TypeId}:Sim P w0 VR E (Instr.index t v i) (Instr.index t v' i'):=by
 unfold Instr.index;refine Sim.bind (Sim.int hi) fun E1 n n' hE1 e=>?_;subst e;refine Sim.bind Q.und.sim fun E2 d d' hE2 e=>?_;subst e;have h2:=h.mono (hE1.trans hE2);cases d'<;>try exact Sim.halt
 case array len elem=>
  cases h2<;>try exact Sim.halt
  case agg hc=>
   dsimp only;split
   ·refine Sim.bind Q.size.sim fun E3 n n' hE3 e=>?_
    subst e;exact Sim.part (hc.mono hE3)
   ·exact Sim.bpanic
 case string=>
  cases h2<;>try exact Sim.halt
  case string s=>
   dsimp only;split
   ·exact Sim.pure fun _ _=>.int _ _
   ·exact Sim.bpanic
theorem Sim.extract{v v':Value}(h:VR E v v'){i:Nat}:Sim P w0 VR E (Instr.extract v i) (Instr.extract v' i):=by
 unfold Instr.extract;cases h<;>try exact Sim.halt
 case tuple c c' hc=>
  dsimp only;split
  ·rename_i x hx
   obtain⟨x',h1,h2⟩:=hc.get (i:=i) (v:=x) (by simpa using hx);rw[show c'[i]?=some x' by simpa using h1];exact Sim.pure fun _ hE=>h2.mono hE
  ·exact Sim.halt
theorem AT6{c c':Array Value}(h:VRs E c.toList c'.toList){v v':Value}(hv:VR E v v')(i:Nat):VRs E (c.setIfInBounds i v).toList (c'.setIfInBounds i v').toList:=by
 simp only[Array.toList_setIfInBounds];generalize c.toList=l at h;generalize c'.toList=l' at h
 induction l generalizing l' i with
 |nil=>cases h;exact .nil
 |cons x l ih=>
  cases h with|cons h t=>
  cases i with
  |zero=>exact .cons hv t
  |succ i=>exact .cons h (ih _ _ t)
theorem AN5{l l':List Value}(hl:VRs E l l')(off:Nat):∀(j:Nat){c c':Array Value},VRs E c.toList c'.toList->
  VRs E ((l.zipIdx j).foldl (fun cs(p:Value×Nat)=>cs.setIfInBounds (off+p.2) p.1) c).toList ((l'.zipIdx j).foldl (fun cs(p:Value×Nat)=>cs.setIfInBounds (off+p.2) p.1) c').toList:=by
 induction l generalizing l' with
 |nil=>intro j c c' h;cases hl;exact h
 |cons x l ih=>
  intro j c c' h;cases hl with|cons hx hl=>
  simp only[List.zipIdx_cons,List.foldl_cons];exact ih hl (j+1) (AT6 h hx _)
inductive PRs(E:En):List (Nat×Value)->List (Nat×Value)->Prop
 |nil:PRs E [] []
 |cons {i:Nat} {v v':Value} {l l':List (Nat×Value)} (h:VR E v v') (t:PRs E l l'):PRs E ((i,v)::l) ((i,v')::l')
theorem PRs.mono{E':En}(hE:En.le E E'){l l':List (Nat×Value)}(h:PRs E l l'):PRs E' l l':=by
 induction l generalizing l' with
 |nil=>cases h;exact .nil
 |cons x l ih=>cases h with|cons h t=>exact .cons (h.mono hE) (ih t)
theorem AGM{place:Nat->Option (Nat×Nat)}{l l':List (Nat×Value)}(hl:PRs E l l'):∀{c c' r:Array Value},VRs E c.toList c'.toList->Instr.fill place c l=some r->
  ∃r',Instr.fill place c' l'=some r'/\VRs E r.toList r'.toList:=by
 induction l generalizing l' with
 |nil=>intro c c' r h hr;cases hl;cases hr;exact⟨c',rfl,h⟩
 |cons x l ih=>
  intro c c' r h hr;cases hl with| @cons i v v' _ _ hx hl=>
  simp only[Instr.fill]at hr⊢;split at hr
  ·cases hr
  ·rename_i off size hp
   have h1:v'.cells.size=v.cells.size:=by simpa using hx.cells.length
   have h2:c'.size=c.size:=by simpa using h.length
   rw[h1,h2];split at hr
   ·cases hr
   ·rename_i hn
    rw[if_neg hn];refine ih hl ?_ hr;have:=AN5 hx.cells off 0 h;simp only[<-Array.foldl_toList,Array.toList_zipIdx];exact this
theorem Q.mapM{γ:Type}{f:γ->Sem β}(l:List γ)(h:∀x,Q P (f x)):Q P (l.mapM f):=by
 induction l with
 |nil=>exact Q.pure
 |cons x l ih=>rw[List.mapM_cons];exact Q.bind (h x) fun _=>Q.bind ih fun _=>Q.pure
theorem Sim.build(hZ:Zf P){t:TypeId}{l l':Array (Nat×Value)}(h:PRs E l.toList l'.toList):Sim P w0 VR E (Instr.build t l) (Instr.build t l'):=by
 unfold Instr.build;refine Sim.bind (Sim.zero hZ) fun E1 z z' hE1 hz=>?_;obtain⟨rfl,hz⟩:=hz;refine Sim.bind Q.und.sim fun E2 d d' hE2 e=>?_;subst e;have hzz:∀E:En,VRs E z'.cells.toList z'.cells.toList:=fun E=>(ABV hz).cells;split
 ·rename_i fields
  refine Sim.bind (R:=fun _ p p'=>p'=p) (Q.sim ?_) fun E3 p p' hE3 e=>?_
  ·rw[Array.mapM_eq_mapM_toList]
   exact Q.bind (s:=fields.toList.mapM _) (k:=fun l=>Pure.pure l.toArray) (Q.mapM _ fun f=>Q.bind Q.size fun _=>Q.pure) fun _=>Q.pure
  subst e;split
  ·rename_i r hr
   obtain⟨r',h1,h2⟩:=AGM (h.mono (hE1.trans (hE2.trans hE3))) (hzz _) hr;rw[h1];exact Sim.pure fun _ hE=>.agg (h2.mono hE)
  ·exact Sim.halt
 ·refine Sim.bind Q.size.sim fun E3 n n' hE3 e=>?_
  subst e;split
  ·rename_i r hr
   obtain⟨r',h1,h2⟩:=AGM (h.mono (hE1.trans (hE2.trans hE3))) (hzz _) hr;rw[h1];exact Sim.pure fun _ hE=>.agg (h2.mono hE)
  ·exact Sim.halt
 ·exact Sim.halt
theorem ALc{z:Value}(hz:ABT z=true){n:Nat}{E:En}:VRs E ((Array.range n).map (z.cells[·% z.cells.size]!)).toList ((Array.range n).map (z.cells[·% z.cells.size]!)).toList:=by
 simp only[Array.toList_map];refine VRs.map fun x _=>?_;have h:=(ABV (E:=E) hz).cells;rcases Nat.lt_or_ge (x % z.cells.size) z.cells.size with hlt|hge
 ·obtain⟨v',h1,h2⟩:=h.get (i:=x % z.cells.size) (v:=z.cells[x % z.cells.size]) (by simp[hlt])
  have e:v'=z.cells[x % z.cells.size]:=by simpa[hlt]using h1.symm
  rw[getElem!_pos z.cells _ hlt];rw[e]at h2;exact h2
 ·rw[getElem!_neg z.cells _ (by omega)]
  exact VR.bool _
theorem Sim.buildSlice(hZ:Zf P){t:TypeId}{n:Nat}{l l':Array (Nat×Value)}(h:PRs E l.toList l'.toList):Sim P w0 VR E (Instr.buildSlice t n l) (Instr.buildSlice t n l'):=by
 unfold Instr.buildSlice;refine Sim.bind Q.und.sim fun E1 d d' hE1 e=>?_;subst e;split
 ·refine Sim.bind Q.size.sim fun E2 s s' hE2 e=>?_
  subst e;dsimp only;split
  ·exact Sim.nope fun A=>by rw[MW];rfl
  ·split
   ·rename_i hn
    refine Sim.bind (R:=fun _ x y=>x=#[]/\y=#[]) (Sim.pure fun _ _=>⟨rfl,rfl⟩) ?_;rintro E3 _ _ hE3⟨rfl,rfl⟩;split
    ·rename_i r hr
     obtain⟨r',h1,h2⟩:=AGM (h.mono (hE1.trans (hE2.trans hE3))) (AFG (by rw[hn];simp)) hr;rw[h1];exact Sim.bind (Sim.newRow h2) fun E4 a a' hE4 ha=>Sim.pure fun E5 hE5=>by
      cases ha.1 with|ptr q1 q2 q3=>exact .sl q1 q2 (EP hE5 q3) (Nat.le_refl _) (.inl rfl) (Nat.le_refl _)
    ·exact Sim.halt
   ·refine Sim.bind (Sim.zero hZ) fun E3 z z' hE3 hz=>?_
    obtain⟨rfl,hz⟩:=hz;refine Sim.bind (R:=fun _ x y=>x=z'.cells/\y=z'.cells) (Sim.pure fun _ _=>⟨rfl,rfl⟩) ?_;rintro E4 _ _ hE4⟨rfl,rfl⟩;split
    ·rename_i r hr
     obtain⟨r',h1,h2⟩:=AGM (h.mono (hE1.trans (hE2.trans (hE3.trans hE4)))) (ALc hz) hr;rw[h1];exact Sim.bind (Sim.newRow h2) fun E4 a a' hE4 ha=>Sim.pure fun E5 hE5=>by
      cases ha.1 with|ptr q1 q2 q3=>exact .sl q1 q2 (EP hE5 q3) (Nat.le_refl _) (.inl rfl) (Nat.le_refl _)
    ·exact Sim.halt
 ·exact Sim.halt
end
end
section
section
variable {P:Program}{w0:W0}{E:En}{α β:Type}
inductive OV(E:En):Option Value->Option Value->Prop
 |none:OV E none none
 |some {v v':Value} (h:VR E v v'):OV E (some v) (some v')
theorem OV.mono{E':En}(hE:En.le E E'){v v':Option Value}(h:OV E v v'):OV E' v v':=by
 cases h with
 |none=>exact .none
 |some h=>exact .some (h.mono hE)
theorem VR.asSlice{a a':Addr}(h:VR E (.pointer (some a)) (.pointer (some a'))){x y z:Nat}(hy:y<=z)(n:Nat):
  VR E (.slice (some (if z=x then a else a.add (x*n))) (y-x) (z-x)) (.slice (some (if z=x then a' else a'.add (x*n))) (y-x) (z-x)):=by
 split
 ·cases h with|ptr h1 h2 h3=>exact .sl h1 h2 h3 (Nat.le_refl _) (.inl rfl) (by omega)
 ·cases h.padd (x*n)with|ptr h1 h2 h3=>exact .sl h1 h2 h3 (Nat.le_refl _) (.inl rfl) (by omega)
theorem vJ{s:Sem α}{k:α->Sem β}{A:AH}(h:Jr P s A=none):Jr P (s>>=k) A=none:=by rw[MW,h]
theorem Sim.bound{v v':Value}(h:VR E v v'){y y':Nat}(hy:y<=y'){c:BoundsCode}:Sim P w0 (fun _ n n'=>n'=n/\n<=y) E (Instr.sliceBound v y c) (Instr.sliceBound v' y' c):=by
 unfold Instr.sliceBound;refine Sim.bind (Sim.int h) fun E1 n n' _ e=>?_;subst e;obtain⟨k,i⟩:=n';dsimp only;split
 ·rename_i hi
  rw[if_pos ⟨hi.1,by omega⟩];exact Sim.pure fun _ _=>⟨rfl,by omega⟩
 ·exact Sim.bpanic
theorem Sim.bounds{b:Bool}{len cap cap':Nat}(hc:cap<=cap'){lo lo' hi hi' mx mx':Option Value}(h1:OV E lo lo')(h2:OV E hi hi')(h3:OV E mx mx'):
  Sim P w0 (fun _(x y:Nat×Nat×Nat)=>y.1=x.1/\y.2.1=x.2.1/\x.2.2<=y.2.2/\(y.2.2=x.2.2\/(x.2.2=cap/\y.2.2=cap'))/\x.1<=x.2.1/\(len<=cap->x.2.1<=x.2.2)/\x.2.2<=cap) E (Instr.sliceBounds b len cap lo hi mx) (Instr.sliceBounds b len cap' lo' hi' mx'):=by
 unfold Instr.sliceBounds;dsimp only;cases h3 with
 |none=>
  refine Sim.bind (R:=fun _ x y=>x=cap/\y=cap') (Sim.pure fun _ _=>⟨rfl,rfl⟩) ?_;rintro E1 _ _ hE1⟨rfl,rfl⟩;cases h2 with
  |none=>
   refine Sim.bind (R:=fun _ x y=>x=len/\y=len) (Sim.pure fun _ _=>⟨rfl,rfl⟩) ?_;rintro E2 _ _ hE2⟨rfl,rfl⟩;cases h1 with
   |none=>exact Sim.bind (R:=fun _ x y=>x=0/\y=0) (Sim.pure fun _ _=>⟨rfl,rfl⟩) fun E3 a b _⟨e1,e2⟩=>by subst e1 e2;exact Sim.pure fun _ _=>⟨rfl,rfl,hc,.inr ⟨rfl,rfl⟩,by first|exact Nat.zero_le _|assumption,fun h=>h,Nat.le_refl _⟩
   |some h=>exact Sim.bind (Sim.bound (h.mono (hE1.trans hE2)) (Nat.le_refl _)) fun E3 a b _⟨e1,hlo⟩=>by subst e1;exact Sim.pure fun _ _=>⟨rfl,rfl,hc,.inr ⟨rfl,rfl⟩,by first|exact Nat.zero_le _|assumption,fun h=>h,Nat.le_refl _⟩
  |some hh=>
   refine Sim.bind (Sim.bound (hh.mono hE1) hc) ?_;rintro E2 y _ hE2⟨rfl,hle⟩;cases h1 with
   |none=>exact Sim.bind (R:=fun _ x y=>x=0/\y=0) (Sim.pure fun _ _=>⟨rfl,rfl⟩) fun E3 a b _⟨e1,e2⟩=>by subst e1 e2;exact Sim.pure fun _ _=>⟨rfl,rfl,hc,.inr ⟨rfl,rfl⟩,by first|exact Nat.zero_le _|assumption,fun _=>hle,by first|exact Nat.le_refl _|assumption⟩
   |some h=>exact Sim.bind (Sim.bound (h.mono (hE1.trans hE2)) (Nat.le_refl _)) fun E3 a b _⟨e1,hlo⟩=>by subst e1;exact Sim.pure fun _ _=>⟨rfl,rfl,hc,.inr ⟨rfl,rfl⟩,by first|exact Nat.zero_le _|assumption,fun _=>hle,by first|exact Nat.le_refl _|assumption⟩
 |some hm=>
  refine Sim.bind (Sim.bound hm hc) ?_;rintro E1 m _ hE1⟨rfl,hmc⟩;cases h2 with
  |none=>exact Sim.nope fun A=>vJ rfl
  |some hh=>
   refine Sim.bind (Sim.bound (hh.mono hE1) (Nat.le_refl _)) ?_;rintro E2 y _ hE2⟨rfl,hle⟩;cases h1 with
   |none=>exact Sim.bind (R:=fun _ x y=>x=0/\y=0) (Sim.pure fun _ _=>⟨rfl,rfl⟩) fun E3 a b _⟨e1,e2⟩=>by subst e1 e2;exact Sim.pure fun _ _=>⟨rfl,rfl,Nat.le_refl _,.inl rfl,by first|exact Nat.zero_le _|assumption,fun _=>hle,by first|exact Nat.le_refl _|assumption⟩
   |some h=>exact Sim.bind (Sim.bound (h.mono (hE1.trans hE2)) (Nat.le_refl _)) fun E3 a b _⟨e1,hlo⟩=>by subst e1;exact Sim.pure fun _ _=>⟨rfl,rfl,Nat.le_refl _,.inl rfl,by first|exact Nat.zero_le _|assumption,fun _=>hle,by first|exact Nat.le_refl _|assumption⟩
theorem APk(a:Addr)(n:Nat):(a.add n).off=a.off+n:=by
 unfold Addr.add;split
 ·rename_i h;rw[h];rfl
 ·rfl
theorem AN6{a:Addr}(h:a.spot=none)(n:Nat):(a.add n).spot=none:=by
 unfold Addr.add;split
 ·exact h
 ·rfl
theorem AFi(a:Addr)(n:Nat):(a.add n).block=a.block:=by unfold Addr.add;split<;>rfl
theorem APl{x c g o Z:Nat}(h:x<=c)(k:o+c*g<=Z):o+x*g+(c-x)*g<=Z:=by
 have:x*g+(c-x)*g=c*g:=by rw[<-Nat.add_mul,Nat.add_sub_cancel' h]
 omega
theorem Sim.undC{t:TypeId}:Sim P w0 (fun _ d d'=>d'=d/\P.underlying t=some d) E (underlying t) (underlying t):=by
 intro E1 A w hE hH v A' hu;obtain⟨e1,e2⟩:=Q.und _ _ _ hu;subst e1;refine⟨E1,v,w,En.le_rfl,e2 w,⟨rfl,?_⟩,hH⟩;unfold underlying at hu;rw[MW]at hu;simp only[Go.program,Jr]at hu;split at hu
 ·rename_i d hd
  cases(show some (d,A')=some (v,A')from hu);exact hd
 ·cases hu
theorem Sim.sizeC{t:TypeId}:Sim P w0 (fun _ n n'=>n'=n/\n=P.cellsOf t) E (sizeOf t) (sizeOf t):=by
 intro E1 A w hE hH v A' hu;obtain⟨e1,e2⟩:=Q.size _ _ _ hu;subst e1;refine⟨E1,v,w,En.le_rfl,e2 w,⟨rfl,?_⟩,hH⟩;unfold sizeOf at hu;rw[MW]at hu;cases hi:Jr P (typeInfo t) A' with
 |none=>rw[hi]at hu;cases hu
 |some r=>
  obtain⟨i,A2⟩:=r;rw[hi]at hu;have h1:=AIJ hi;cases(show some (i.size,A2)=some (v,A')from hu);simp[Program.cellsOf,h1]
def AHv(P:Program)(E:En)(t:TypeId)(v:Value):Prop:=∀a len cap x,v=.slice (some a) len cap->E a.block=some x->x.2.1=0\/∀e,P.underlying t=some (.slice e)->P.cellsOf e=x.2.1
theorem Sim.slice{v v':Value}(h:VR E v v'){t:TypeId}(hsz:AHv P E t v){lo lo' hi hi' mx mx':Option Value}(h1:OV E lo lo')(h2:OV E hi hi')(h3:OV E mx mx'):
  Sim P w0 VR E (Instr.slice t v lo hi mx) (Instr.slice t v' lo' hi' mx'):=by
 unfold Instr.slice;refine Sim.bind Sim.undC fun E1 d d' hE1 e=>?_;obtain⟨e,hud⟩:=e;subst e;have hv:=h.mono hE1;have k1:OV E1 lo lo':=by cases h1 with|none=>exact .none|some h=>exact .some (h.mono hE1)
 have k2:OV E1 hi hi':=by cases h2 with|none=>exact .none|some h=>exact .some (h.mono hE1)
 have k3:OV E1 mx mx':=by cases h3 with|none=>exact .none|some h=>exact .some (h.mono hE1)
 cases d'<;>try exact Sim.halt
 case string=>
  cases hv<;>try exact Sim.halt
  case string s=>
   cases k3 with
   |some h=>exact Sim.nope fun A=>vJ rfl
   |none=>
    refine Sim.bind (Sim.bounds (Nat.le_refl s.size) k1 k2 .none) ?_;rintro E2⟨x,y,z⟩⟨x',y',z'⟩ hE2⟨e1,e2,e3,e4,e5,e6,e7⟩;dsimp only at e1 e2;subst e1 e2;exact Sim.pure fun _ _=>.string _
 case pointer arr=>
  refine Sim.bind (R:=fun E a a'=>VR E (.pointer (some a)) (.pointer (some a'))) ?_ fun E2 a a' hE2 ha=>?_
  ·unfold asAddr
   cases hv<;>try exact Sim.halt
   case nilp=>exact Sim.nope fun A=>rfl
   case ptr q1 q2 q3=>exact Sim.pure fun _ hE=>.ptr q1 q2 (EP hE q3)
  ·refine Sim.bind Q.und.sim fun E3 d d' hE3 e=>?_
   subst e;split
   ·rename_i n elem
    refine Sim.bind (Sim.bounds (Nat.le_refl n) (k1.mono (hE2.trans hE3)) (k2.mono (hE2.trans hE3)) (k3.mono (hE2.trans hE3))) ?_;rintro E4⟨x,y,z⟩⟨x',y',z'⟩ hE4⟨e1,e2,e3,e4,e5,e6,e7⟩;dsimp only at e1 e2 e3 e4 e5 e6 e7;subst e1 e2;have:z'=z:=by omega
    subst this;refine Sim.bind Q.size.sim fun E5 n n' hE5 e=>?_;subst e;refine Sim.pure fun E6 hE6=>?_;exact(ha.mono (hE3.trans (hE4.trans (hE5.trans hE6)))).asSlice (e6 (Nat.le_refl _)) _
   ·exact Sim.halt
 case slice elem=>
  cases hv<;>try exact Sim.halt
  case nils l c=>
   refine Sim.bind (Sim.bounds (Nat.le_refl c) k1 k2 k3) ?_;rintro E2⟨x,y,z⟩⟨x',y',z'⟩ hE2⟨e1,e2,e3,e4,e5,e6,e7⟩;dsimp only at e1 e2 e3 e4 e5 e6 e7;subst e1 e2;have:z'=z:=by omega
   subst this;refine Sim.bind Q.size.sim fun E3 n n' hE3 e=>?_;subst e;exact Sim.pure fun _ _=>by split<;>exact .nils _ _
  case sl0 a a' g c' q3 q5 q2=>
   refine Sim.bind (Sim.bounds (Nat.zero_le c') k1 k2 k3) ?_;rintro E2⟨x,y,z⟩⟨x',y',z'⟩ hE2⟨e1,e2,e3,e4,e5,e6,e7⟩;dsimp only at e1 e2 e3 e4 e5 e6 e7;subst e1 e2;have h6:=e6 (Nat.le_refl _);have hz:z=0:=by omega
   have hy:y'=0:=by omega
   have hx:x'=0:=by omega
   subst hz hy hx;refine Sim.bind Q.size.sim fun E3 n n' hE3 e=>?_;subst e;refine Sim.pure fun E4 hE4=>?_;have e9:(if z'=0 then some a' else Option.map (fun x=>x.add (0*n')) (some a'))=some a':=by
    split
    ·rfl
    ·simp[Addr.add]
   rw[if_pos rfl,e9];refine .sl0 (EP (hE2.trans (hE3.trans hE4)) q3) ?_ q2;rcases e4 with e4|⟨_,e4⟩
   ·exact .inl (by omega)
   ·rw[e4];simpa using q5
  case sl a a' g len c c' q1 q2 q3 q4 q5 q6=>
   refine Sim.bind (Sim.bounds q4 k1 k2 k3) ?_;rintro E2⟨x,y,z⟩⟨x',y',z'⟩ hE2⟨e1,e2,e3,e4,e5,e6,e7⟩;dsimp only at e1 e2 e3 e4 e5 e6 e7;subst e1 e2;have h6:=e6 q6;refine Sim.bind Sim.sizeC fun E3 n n' hE3 e=>?_;obtain⟨e,hn⟩:=e;subst e;refine Sim.pure fun E4 hE4=>?_;have hs:g.1=0\/n'=g.1:=by
    have key:∀g2,E a.block=some (a'.block,g2)->g.1=0\/n'=g.1:=by
     intro g2 r3;have hg:=EP hE1 r3;rw[q3]at hg;cases hg;rcases hsz _ _ _ _ rfl r3 with h9|h9
     ·exact .inl h9
     ·exact .inr (by rw[hn];exact h9 _ hud)
    cases h with
    |sl r1 r2 r3 r4 r5 r6=>exact key _ r3
    |sl0 r3 r5 r2=>exact key _ r3
   have fit:z'=z\/(g.1≠0/\(a'.add (x'*n')).off+(z'-x')*g.1<=g.2.2):=by
    rcases e4 with e4|⟨e4,e8⟩
    ·exact .inl e4
    ·rcases q5 with q5|⟨q5,q7⟩
     ·exact .inl (by omega)
     ·refine .inr ⟨q5,?_⟩
      rw[APk,hs.resolve_left q5,e8];exact APl (by omega) q7
   have hp:VR E4 (.pointer (some a)) (.pointer (some a')):=.ptr q1 q2 (EP (hE2.trans (hE3.trans hE4)) q3);by_cases h7:z=x'
   ·rw[if_pos h7]
    by_cases h8:z'=x'
    ·rw[if_pos h8]
     exact .sl q1 q2 (EP (hE2.trans (hE3.trans hE4)) q3) (by omega) (.inl (by omega)) (by omega)
    ·rw[if_neg h8]
     have hlen:y'-x'=0:=by omega
     have hcap:z-x'=0:=by omega
     rw[hlen,hcap];exact .sl0 (by rw[AFi];exact EP (hE2.trans (hE3.trans hE4)) q3) (.inr (fit.resolve_left (by omega))) (fun hs=>AN6 (q2.trans hs) _)
   ·rw[if_neg h7,if_neg (by omega)]
    cases hp.padd (x'*n')with| @ptr _ _ g2 r1 r2 r3=>
    have:g2=g:=by
     have h9:=EP (hE2.trans (hE3.trans hE4)) q3;rw[AFi,AFi,h9]at r3;cases r3;rfl
    subst this;refine .sl r1 r2 r3 (by omega) ?_ (by omega);rcases fit with fit|fit
    ·exact .inl (by omega)
    ·exact .inr fit
theorem Sim.sliceAt{v v':Value}(h:VR E v v'){t:TypeId}(hsz:AHv P E t v){lo lo' hi hi' mx mx':Option Value}(h1:OV E lo lo')(h2:OV E hi hi')(h3:OV E mx mx'):
  Sim P w0 VR E (Instr.sliceAt t v lo hi mx) (Instr.sliceAt t v' lo' hi' mx'):=by
 unfold Instr.sliceAt;have hsz1:∀{E1:En},En.le E E1->AHv P E1 t v:=by
  intro E1 hE1 a len cap x e hx;subst e;cases h with
  |sl r1 r2 r3 r4 r5 r6=>have:=EP hE1 r3;rw[this]at hx;cases hx;exact hsz _ _ _ _ rfl r3
  |sl0 r3 r5 r2=>have:=EP hE1 r3;rw[this]at hx;cases hx;exact hsz _ _ _ _ rfl r3
 refine Sim.bind Q.und.sim fun E1 d d' hE1 e=>?_;subst e;split
 ·rename_i n elem
  refine Sim.bind (Sim.sure (h.mono hE1)) fun E2 a a' hE2 ha=>?_;refine Sim.bind (Sim.bounds (Nat.le_refl n) (h1.mono (hE1.trans hE2)) (h2.mono (hE1.trans hE2)) (h3.mono (hE1.trans hE2))) ?_;rintro E4⟨x,y,z⟩⟨x',y',z'⟩ hE4⟨e1,e2,e3,e4,e5,e6,e7⟩;dsimp only at e1 e2 e3 e4 e5 e6 e7;subst e1 e2;have:z'=z:=by omega
  subst this;refine Sim.bind Q.size.sim fun E5 n n' hE5 e=>?_;subst e;refine Sim.pure fun E6 hE6=>?_;exact(ha.mono (hE4.trans (hE5.trans hE6))).asSlice (e6 (Nat.le_refl _)) _
 ·exact Sim.slice (h.mono hE1) (hsz1 hE1) (h1.mono hE1) (h2.mono hE1) (h3.mono hE1)
theorem AHE{m:String}(A:AH):Jr P (runtimePanic (.error m):Sem α) A=none:=by unfold runtimePanic;rw[MW];rfl
theorem AHF{m:String}(A:AH):Jr P (runtimePanic (.plain m):Sem α) A=none:=by unfold runtimePanic;rw[MW];rfl
theorem Q.room{n:Nat}:Q P (askRoom n):=by
 unfold askRoom;split
 ·exact Q.mark
 ·exact Q.pure
theorem Sim.makeSlice(hZ:Zf P){t:TypeId}{l l' c c':Value}(hl:VR E l l')(hc:VR E c c'):Sim P w0 VR E (Instr.makeSlice t l c) (Instr.makeSlice t l' c'):=by
 unfold Instr.makeSlice;refine Sim.bind Q.und.sim fun E1 d d' hE1 e=>?_;subst e;split
 ·refine Sim.bind (Sim.asInt (hl.mono hE1)) fun E2 x x' hE2 e=>?_
  subst e;refine Sim.bind (Sim.asInt (hc.mono (hE1.trans hE2))) fun E3 y y' hE3 e=>?_;subst e;refine Sim.bind Q.info.sim fun E4 i i' hE4 e=>?_;subst e;dsimp only;split
  ·split
   ·exact Sim.nope fun A=>vJ (AHE _)
   ·split
    ·exact Sim.nope fun A=>vJ (AHE _)
    ·exact Sim.nope fun A=>vJ rfl
  ·rename_i hneg
   simp only[Bool.or_eq_true,decide_eq_true_eq,not_or]at hneg;have hle:(IntKind.i64.wrap x').toNat<=(IntKind.i64.wrap y').toNat:=by omega
   refine Sim.bind Q.room.sim fun E5 _ _ hE5 _=>?_;refine Sim.bind Q.size.sim fun E6 n n' hE6 e=>?_;subst e;split
   ·rename_i hn
    refine Sim.bind (R:=fun _ x y=>x=#[]/\y=#[]) (Sim.pure fun _ _=>⟨rfl,rfl⟩) ?_;rintro E7 _ _ hE7⟨rfl,rfl⟩;exact Sim.bind (Sim.newRow (AFG (by rw[hn];simp))) fun E8 a a' hE8 ha=>Sim.pure fun E9 hE9=>by
     cases ha.1 with|ptr q1 q2 q3=>exact .sl q1 q2 (EP hE9 q3) (Nat.le_refl _) (.inl rfl) hle
   ·refine Sim.bind (Sim.zero hZ) fun E7 z z' hE7 hz=>?_
    obtain⟨rfl,hz⟩:=hz;refine Sim.bind (R:=fun _ x y=>x=z'.cells/\y=z'.cells) (Sim.pure fun _ _=>⟨rfl,rfl⟩) ?_;rintro E8 _ _ hE8⟨rfl,rfl⟩;exact Sim.bind (Sim.newRow (ALc hz)) fun E8 a a' hE8 ha=>Sim.pure fun E9 hE9=>by
     cases ha.1 with|ptr q1 q2 q3=>exact .sl q1 q2 (EP hE9 q3) (Nat.le_refl _) (.inl rfl) hle
 ·exact Sim.halt
theorem Sim.makeMap{t:TypeId}{r r':Option Value}(h:OV E r r'):Sim P w0 VR E (Instr.makeMap t r) (Instr.makeMap t r'):=by
 unfold Instr.makeMap;cases h with
 |none=>exact Sim.bind Sim.newMap fun E1 r r' hE1⟨g,hg⟩=>Sim.pure fun _ hE=>.map (EP hE hg)
 |some h=>
  refine Sim.bind Q.und.sim fun E1 d d' hE1 e=>?_;subst e;dsimp only;split
  ·refine Sim.bind (Sim.asInt (h.mono hE1)) fun E2 x x' hE2 e=>?_
   exact Sim.bind Sim.newMap fun E1 r r' hE1⟨g,hg⟩=>Sim.pure fun _ hE=>.map (EP hE hg)
  ·exact Sim.nope fun A=>vJ rfl
theorem ERs.length{l l':List MapEntry}(h:ERs E l l'):l'.length=l.length:=by
 induction l generalizing l' with
 |nil=>cases h;rfl
 |cons x l ih=>cases h with|cons h t=>simp[ih t]
theorem ERs.get{l l':List MapEntry}(h:ERs E l l'){i:Nat}{e:MapEntry}(hv:l[i]?=some e):∃e',l'[i]?=some e'/\ER E e e':=by
 induction l generalizing l' i with
 |nil=>simp at hv
 |cons x l ih=>
  cases h with|cons h t=>
  cases i with
  |zero=>simp at hv;subst hv;exact⟨_,rfl,h⟩
  |succ i=>exact ih t (by simpa using hv)
theorem ERs.append{l l' m m':List MapEntry}(h:ERs E l l')(k:ERs E m m'):ERs E (l++m) (l'++m'):=by
 induction l generalizing l' with
 |nil=>cases h;exact k
 |cons x l ih=>cases h with|cons h t=>exact .cons h (ih t)
theorem ERs.modify{l l':List MapEntry}(h:ERs E l l'){f f':MapEntry->MapEntry}(hf:∀e e',ER E e e'->ER E (f e) (f' e'))(i:Nat):ERs E (l.modify i f) (l'.modify i f'):=by
 induction l generalizing l' i with
 |nil=>cases h;simp;exact .nil
 |cons x l ih=>
  cases h with|cons h t=>
  cases i with
  |zero=>exact .cons (hf _ _ h) t
  |succ i=>exact .cons h (ih t i)
theorem ERs.erase{l l':List MapEntry}(h:ERs E l l')(i:Nat):ERs E (l.eraseIdx i) (l'.eraseIdx i):=by
 induction l generalizing l' i with
 |nil=>cases h;simp;exact .nil
 |cons x l ih=>
  cases h with|cons h t=>
  cases i with
  |zero=>exact t
  |succ i=>exact .cons h (ih t i)
def FR(E:En):Option (Nat×Value)->Option (Nat×Value)->Prop
 |none,none=>True
 |some x,some y=>y.1=x.1/\VR E x.2 y.2
 |_,_=>False
theorem ALd{d:TypeDesc}{k:Value}{l l':List MapEntry}(h:ERs E l l'):∀(i:Nat),(Instr.findNow d k l i=none/\Instr.findNow d k l' i=none)\/∃r r',Instr.findNow d k l i=some r/\Instr.findNow d k l' i=some r'/\FR E r r':=by
 induction l generalizing l' with
 |nil=>intro i;cases h;exact .inr ⟨none,none,rfl,rfl,trivial⟩
 |cons x l ih=>
  intro i;cases h with|cons h t=>
  simp only[Instr.findNow,h.key];split
  ·exact .inr ⟨_,_,rfl,rfl,rfl,h.val⟩
  ·exact ih t _
  ·exact .inl ⟨rfl,rfl⟩
end
end
section
section
variable {P:Program}{w0:W0}{E:En}{α β:Type}
theorem Q.nope{s:Sem α}(h:∀A,Jr P s A=none):Q P s:=fun A v A' hu=>by rw[h]at hu;cases hu
theorem Q.forList{γ δ:Type}{f:γ->δ->Sem (ForInStep δ)}(h:∀x y,Q P (f x y))(l:List γ):∀b,Q P (forIn l b f):=by
 induction l with
 |nil=>intro b;simp only[List.forIn_nil];exact Q.pure
 |cons x l ih=>
  intro b;rw[List.forIn_cons];refine Q.bind (h _ _) fun r=>?_;cases r with
  |done b=>exact Q.pure
  |yield b=>exact ih b
theorem Q.forArray{γ δ:Type}{f:γ->δ->Sem (ForInStep δ)}(h:∀x y,Q P (f x y))(l:Array γ)(b:δ):Q P (forIn l b f):=by
 rw[<-Array.forIn_toList];exact Q.forList h _ _
theorem Q.forRange{δ:Type}{f:Nat->δ->Sem (ForInStep δ)}(h:∀x y,Q P (f x y))(n:Nat)(b:δ):Q P (forIn [0:n] b f):=by
 rw[Std.Legacy.Range.forIn_eq_forIn_range'];exact Q.forList h _ _
theorem Q.part{c:Array Value}{t:TypeId}{o:Nat}:Q P (Go.part t c o):=by
 unfold Go.part;refine Q.bind Q.isAgg fun b=>?_;split
 ·exact Q.bind Q.size fun _=>Q.pure
 ·split
  ·exact Q.pure
  ·exact Q.halt
theorem Q.shape{r:Nat}:Q P (Go.shape r):=Q.nope fun _=>rfl
theorem Q.frozen{a:Addr}:Q P (Go.frozen a):=Q.nope fun _=>rfl
theorem Q.behind{a:Addr}:Q P (behindNumber a):=by
 unfold behindNumber numberAt;exact Q.nope fun A=>by rw[MW,MW];rfl
theorem Q.same{a b:Addr}:Q P (sameAddr a b):=by
 unfold sameAddr;split
 ·exact Q.pure
 ·exact Q.nope fun A=>by rw[MW];rfl
theorem Q.typeStr{t:TypeId}:Q P (typeStr t):=by
 unfold Go.typeStr;refine Q.bind Q.info fun _=>?_;dsimp only;split
 ·exact Q.halt
 ·exact Q.pure
theorem Q.equalIn:∀(d:Nat){t:TypeId}{x y:Value},Q P (Op.equalIn d t x y)
 |0,_,_,_=>Q.halt
 |d+1,t,x,y=>by
  unfold Op.equalIn;refine Q.bind Q.und fun u=>?_;split
  all_goals first|exact Q.pure|exact Q.halt|(split<;>first|exact Q.pure|exact Q.halt;done)|skip
  ·exact Q.bind Q.behind fun _=>Q.nope fun A=>by rw[MW];rfl
  ·refine Q.bind Q.size fun n=>?_
   split
   ·exact Q.same
   ·split
    ·exact Q.pure
    ·exact Q.bind Q.choose fun _=>Q.pure
  ·unfold samePointer
   split
   ·exact Q.same
   ·exact Q.pure
  ·split
   ·exact Q.pure
   ·refine Q.bind Q.info fun i=>?_
    split
    ·refine Q.bind Q.prog fun _=>Q.bind Q.prog fun _=>?_
     dsimp only;split
     ·exact Q.bind Q.halt fun _=>Q.bind Q.typeStr fun _=>Q.error
     ·exact Q.bind Q.typeStr fun _=>Q.error
    ·exact Q.equalIn d
  ·refine Q.bind Q.prog fun _=>?_
   dsimp only;have loop:∀(fs:Array Field)(xs ys:Array Value)(b:Option Bool×Unit),Q P (forIn fs b fun f _=>
      if f.name ≠ "_" then do
       let u<-Go.part f.type xs f.offset
       let v<-Go.part f.type ys f.offset
       let r<-Op.equalIn d f.type u v
       if(!r)=true then Pure.pure (ForInStep.done (some false,()))else Pure.pure (ForInStep.yield (none,()))
      else Pure.pure (ForInStep.yield (none,()))):=fun fs xs ys b=>Q.forArray (fun f _=>by
    split
    ·refine Q.bind Q.part fun _=>Q.bind Q.part fun _=>Q.bind (Q.equalIn d) fun _=>?_
     split<;>exact Q.pure
    ·exact Q.pure) _ _
   split
   ·exact Q.bind Q.halt fun _=>Q.bind (loop _ _ _ _) fun r=>by split<;>exact Q.pure
   ·exact Q.bind (loop _ _ _ _) fun r=>by split<;>exact Q.pure
  ·refine Q.bind Q.size fun n=>?_
   refine Q.bind (Q.forRange (fun i _=>?_) _ _) fun r=>by dsimp only;split<;>exact Q.pure
   refine Q.bind Q.part fun _=>Q.bind Q.part fun _=>Q.bind (Q.equalIn d) fun _=>?_;split<;>exact Q.pure
theorem Q.equal{t:TypeId}{x y:Value}:Q P (Op.equal t x y):=Q.equalIn _
theorem Q.checkKey{b:Bool}:∀(d:Nat){t:TypeId}{x:Value},Q P (Instr.checkKey b d t x)
 |0,_,_=>Q.halt
 |d+1,t,x=>by
  unfold Instr.checkKey;refine Q.bind Q.und fun u=>?_;split
  all_goals first|exact Q.pure|exact Q.halt|skip
  ·refine Q.bind Q.info fun _=>?_
   dsimp only;split
   ·split
    ·exact Q.bind (Q.nope fun A=>by unfold runtimePanic;rw[MW];rfl) fun _=>Q.bind Q.typeStr fun _=>Q.bind Q.error fun _=>Q.checkKey d
    ·exact Q.bind Q.typeStr fun _=>Q.bind Q.error fun _=>Q.checkKey d
   ·exact Q.checkKey d
  ·refine Q.bind (Q.forRange (fun _ _=>?_) _ _) fun _=>Q.pure
   exact Q.bind Q.size fun _=>Q.bind Q.part fun _=>Q.bind (Q.checkKey d) fun _=>Q.pure
  ·refine Q.bind (Q.forArray (fun _ _=>?_) _ _) fun _=>Q.pure
   split
   ·exact Q.bind Q.part fun _=>Q.bind (Q.checkKey d) fun _=>Q.pure
   ·exact Q.pure
theorem Sim.findKey{t:TypeId}{k:Value}{l l':List MapEntry}(h:ERs E l l'):Sim P w0 FR E (Instr.findKey t k l) (Instr.findKey t k l'):=by
 unfold Instr.findKey;refine Sim.bind Q.und.sim fun E1 d d' hE1 e=>?_;subst e;have hh:=h.mono hE1;rcases ALd (d:=d') (k:=k) hh 0 with⟨h1,h2⟩|⟨r,r',h1,h2,h3⟩
 ·rw[h1,h2]
  dsimp only;have:∀(E:En)(l l':List MapEntry)(i:Nat),ERs E l l'->Sim P w0 FR E (Instr.findAsking t k l i) (Instr.findAsking t k l' i):=by
   intro E l
   induction l generalizing E with
   |nil=>intro l' i h;cases h;exact Sim.pure fun _ _=>trivial
   |cons x l ih=>
    intro l' i h;cases h with|cons h t=>
    unfold Instr.findAsking;rw[h.key];refine Sim.bind Q.equal.sim fun E1 d d' hE1 e=>?_;subst e;split
    ·exact Sim.pure fun _ hE=>⟨rfl,(h.val.mono hE1).mono hE⟩
    ·exact ih _ _ _ (t.mono hE1)
  exact this _ _ _ _ hh
 ·rw[h1,h2]
  exact Sim.pure fun _ hE=>by
   cases r<;>cases r'<;>first|exact h3.elim|trivial|exact⟨h3.1,h3.2.mono hE⟩
theorem Q.keyStays{x y:Value}:Q P (Instr.keyThatStays x y):=by
 unfold Instr.keyThatStays;split
 ·exact Q.pure
 ·exact Q.bind Q.choose fun _=>Q.pure
theorem Sim.lookup(hZ:Zf P){v v':Value}(h:VR E v v'){k:Value}{t:TypeId}{c:Bool}:Sim P w0 VR E (Instr.lookup t v k c) (Instr.lookup t v' k c):=by
 unfold Instr.lookup;refine Sim.bind Q.und.sim fun E1 d d' hE1 e=>?_;subst e;split
 ·rename_i key elem
  dsimp only;have hv:=h.mono hE1;clear h;cases hv<;>try exact Sim.nope fun A=>vJ rfl
  case' nilm=>refine Sim.bind (R:=fun E(es es':Array MapEntry)=>ERs E es.toList es'.toList) (Sim.pure fun _ _=>.nil) ?_
  case' map r r' g hr=>
   refine Sim.bind (Sim.getObj hr) fun E2 o o' hE2 ho=>?_;cases ho<;>try exact Sim.nope fun A=>vJ rfl
   rename_i hm;refine Sim.bind (R:=fun E(es es':Array MapEntry)=>ERs E es.toList es'.toList) (Sim.pure fun _ hE=>hm.mono hE) ?_
  all_goals
   intro E2 es es' hE2 hes;have he:es'.isEmpty=es.isEmpty:=by
    have:=hes.length;simp only[Array.length_toList]at this;unfold Array.isEmpty;rw[this]
   rw[he];refine Sim.bind (Q.checkKey _).sim fun E3 _ _ hE3 _=>?_;refine Sim.bind (Sim.findKey (hes.mono hE3)) fun E4 r r' hE4 hr=>?_;cases r<;>cases r'<;>try exact hr.elim
   ·refine Sim.bind (Sim.zero hZ) fun E5 z z' hE5 hz=>?_
    obtain⟨rfl,hz⟩:=hz;refine Sim.bind (R:=fun E(x y:Value×Bool)=>VR E x.1 y.1/\y.2=x.2) (Sim.pure fun _ _=>⟨ABV hz,rfl⟩) ?_;rintro E5⟨x,y⟩⟨x',y'⟩ hE5⟨h1,h2⟩;dsimp only at h1 h2;subst h2;refine Sim.pure fun _ hE=>?_;split
    ·exact .tuple (.cons (h1.mono hE) (.cons (.bool _) .nil))
    ·exact h1.mono hE
   ·refine Sim.bind (R:=fun E(x y:Value×Bool)=>VR E x.1 y.1/\y.2=x.2) (Sim.pure fun _ hE=>⟨hr.2.mono hE,rfl⟩) ?_
    rintro E5⟨x,y⟩⟨x',y'⟩ hE5⟨h1,h2⟩;dsimp only at h1 h2;subst h2;refine Sim.pure fun _ hE=>?_;split
    ·exact .tuple (.cons (h1.mono hE) (.cons (.bool _) .nil))
    ·exact h1.mono hE
 ·exact Sim.halt
theorem Sim.mapUpdate{v v' x x':Value}(h:VR E v v')(hx:VR E x x'){k:Value}{t:TypeId}:Sim P w0 (fun _ _ _=>True) E (Instr.mapUpdate t v k x) (Instr.mapUpdate t v' k x'):=by
 unfold Instr.mapUpdate;refine Sim.bind Q.und.sim fun E1 d d' hE1 e=>?_;subst e;split
 ·rename_i key elem
  cases h<;>try exact Sim.halt
  case nilm=>exact Sim.nope fun A=>AHF _
  case map r r' g hr=>
   refine Sim.bind (Sim.getObj (EP hE1 hr)) fun E2 o o' hE2 ho=>?_;cases ho<;>try exact Sim.halt
   case map es es' c hm=>
    dsimp only;refine Sim.bind (Q.checkKey _).sim fun E3 _ _ hE3 _=>?_;refine Sim.bind (Sim.findKey (hm.mono hE3)) fun E4 f f' hE4 hf=>?_;have hr4:=EP (hE1.trans (hE2.trans (hE3.trans hE4))) hr;cases f<;>cases f'<;>try exact hf.elim
    ·refine Sim.setMap hr4 ?_
     simp only[Array.toList_push];exact(hm.mono (hE3.trans hE4)).append (.cons ⟨rfl,rfl,hx.mono (hE1.trans (hE2.trans (hE3.trans hE4)))⟩ .nil)
    ·rename_i p q
     obtain⟨i,u⟩:=p;obtain⟨i',u'⟩:=q;obtain⟨h1,h2⟩:=hf;dsimp only at h1 h2⊢;subst h1;have hk:((es'[i']?).map (·.key)).getD k=((es[i']?).map (·.key)).getD k:=by
      cases he:es[i']? with
      |none=>
       have:es'[i']?=none:=by
        have:=hm.length;simp only[Array.getElem?_eq_none_iff,Array.length_toList]at*
        omega
       rw[this]
      |some e=>
       obtain⟨e',q1,q2⟩:=hm.get (i:=i') (e:=e) (by simpa using he);rw[show es'[i']?=some e' by simpa using q1];simp[q2.key]
     rw[hk];refine Sim.bind Q.keyStays.sim fun E5 k1 k2 hE5 e=>?_;subst e;refine Sim.setMap (EP hE5 hr4) ?_;simp only[Array.toList_modify];refine(hm.mono (hE3.trans (hE4.trans hE5))).modify ?_ _;exact fun e e' h=>⟨rfl,h.born,hx.mono (hE1.trans (hE2.trans (hE3.trans (hE4.trans hE5))))⟩
 ·exact Sim.halt
theorem ASg{es es':Array MapEntry}(hm:ERs E es.toList es'.toList)(i:Nat)(k:Value):((es'[i]?).map (·.key)).getD k=((es[i]?).map (·.key)).getD k:=by
 cases he:es[i]? with
 |none=>
  have:es'[i]?=none:=by
   have:=hm.length;simp only[Array.getElem?_eq_none_iff,Array.length_toList]at*
   omega
  rw[this]
 |some e=>
  obtain⟨e',q1,q2⟩:=hm.get (i:=i) (e:=e) (by simpa using he);rw[show es'[i]?=some e' by simpa using q1];simp[q2.key]
theorem AQl{es es':Array MapEntry}(hm:ERs E es.toList es'.toList)(i:Nat):((es'[i]?).map (fun e=>(e.born:Int))).getD 0=((es[i]?).map (fun e=>(e.born:Int))).getD 0:=by
 cases he:es[i]? with
 |none=>
  have:es'[i]?=none:=by
   have:=hm.length;simp only[Array.getElem?_eq_none_iff,Array.length_toList]at*
   omega
  rw[this]
 |some e=>
  obtain⟨e',q1,q2⟩:=hm.get (i:=i) (e:=e) (by simpa using he);rw[show es'[i]?=some e' by simpa using q1];simp[q2.born]
theorem Sim.mapEntry(hZ:Zf P){v v':Value}(h:VR E v v'){k:Value}{t:TypeId}:Sim P w0 VR E (Instr.mapEntry t v k) (Instr.mapEntry t v' k):=by
 unfold Instr.mapEntry;refine Sim.bind Q.und.sim fun E1 d d' hE1 e=>?_;subst e;split
 ·rename_i key elem
  cases h<;>try exact Sim.halt
  case nilm=>exact Sim.nope fun A=>AHF _
  case map r r' g hr=>
   refine Sim.bind (Sim.getObj (EP hE1 hr)) fun E2 o o' hE2 ho=>?_;cases ho<;>try exact Sim.halt
   case map es es' c hm=>
    dsimp only;refine Sim.bind (Q.checkKey _).sim fun E3 _ _ hE3 _=>?_;refine Sim.bind (Sim.findKey (hm.mono hE3)) fun E4 f f' hE4 hf=>?_;have hr4:=EP (hE1.trans (hE2.trans (hE3.trans hE4))) hr;cases f<;>cases f'<;>try exact hf.elim
    ·refine Sim.bind (Sim.zero hZ) fun E5 z z' hE5 hz=>?_
     obtain⟨rfl,hz⟩:=hz;refine Sim.bind (Sim.setMap (EP hE5 hr4) ?_) fun E6 _ _ _ _=>Sim.pure fun _ _=>.tuple (.cons (ABV hz) (.cons (.int _ _) .nil));simp only[Array.toList_push];exact(hm.mono (hE3.trans (hE4.trans hE5))).append (.cons ⟨rfl,rfl,ABV hz⟩ .nil)
    ·rename_i p q
     obtain⟨i,u⟩:=p;obtain⟨i',u'⟩:=q;obtain⟨h1,h2⟩:=hf;dsimp only at h1 h2⊢;subst h1;rw[ASg hm,AQl hm];refine Sim.bind Q.keyStays.sim fun E5 k1 k2 hE5 e=>?_;subst e;refine Sim.bind (Sim.setMap (EP hE5 hr4) ?_) fun E6 _ _ hE6 _=>Sim.pure fun _ hE=>.tuple (.cons (h2.mono (hE5.trans (hE6.trans hE))) (.cons (.int _ _) .nil));simp only[Array.toList_modify];refine(hm.mono (hE3.trans (hE4.trans hE5))).modify ?_ _;exact fun e e' h=>⟨rfl,h.born,h.val⟩
 ·exact Sim.halt
theorem ERs.findIdx{p:Nat->Bool}{l l':List MapEntry}(h:ERs E l l'):l'.findIdx? (fun e=>p e.born)=l.findIdx? (fun e=>p e.born):=by
 induction l generalizing l' with
 |nil=>cases h;rfl
 |cons x l ih=>cases h with|cons h t=>simp only[List.findIdx?_cons,h.born,ih t]
theorem Sim.entryStore{v v' x x' s s':Value}(h:VR E v v')(hs:VR E s s')(hx:VR E x x'){t:TypeId}:Sim P w0 (fun _ _ _=>True) E (Instr.entryStore t v s x) (Instr.entryStore t v' s' x'):=by
 unfold Instr.entryStore;cases h<;>try exact Sim.halt
 case map r r' g hr=>
  refine Sim.bind (Sim.getObj hr) fun E2 o o' hE2 ho=>?_;cases ho<;>try exact Sim.halt
  case map es es' c hm=>
   dsimp only;refine Sim.bind (Sim.asInt (hs.mono hE2)) fun E3 n n' hE3 e=>?_;subst e;have hi:es'.findIdx? (fun e=>(e.born:Int)==n')=es.findIdx? (fun e=>(e.born:Int)==n'):=by
    have:=ERs.findIdx (p:=fun b=>(b:Int)==n') hm;obtain⟨l⟩:=es;obtain⟨l'⟩:=es';simpa using this
   rw[hi];split
   ·refine Sim.setMap (EP (hE2.trans hE3) hr) ?_
    simp only[Array.toList_modify];refine(hm.mono hE3).modify ?_ _;exact fun e e' h=>⟨h.key,h.born,hx.mono (hE2.trans hE3)⟩
   ·exact Sim.halt
end
end
section
section
variable {P:Program}{w0:W0}{E:En}{α β:Type}
theorem ABz{l l':Array Value}(h:VRs E l.toList l'.toList)(i:Nat):(l[i]?=none/\l'[i]?=none)\/∃v v',l[i]?=some v/\l'[i]?=some v'/\VR E v v':=by
 cases hv:l[i]? with
 |none=>
  refine .inl ⟨rfl,?_⟩;have:=h.length;simp only[Array.getElem?_eq_none_iff,Array.length_toList]at*
  omega
 |some v=>
  obtain⟨v',h1,h2⟩:=h.get (i:=i) (v:=v) (by simpa using hv);exact .inr ⟨v,v',rfl,by simpa using h1,h2⟩
theorem Sim.len{tys:Array TypeId}{t:TypeId}{l l':Array Value}(h:VRs E l.toList l'.toList):Sim P w0 VR E (Builtin.len_ tys t l) (Builtin.len_ tys t l'):=by
 unfold Builtin.len_;rcases ABz h 0 with⟨h1,h2⟩|⟨v,v',h1,h2,hv⟩
 ·rw[h1];cases(tys[0]?:Option TypeId)<;>exact Sim.halt
 ·rw[h1,h2]
  cases(tys[0]?:Option TypeId)with
  |none=>exact Sim.halt
  |some t0=>
   refine Sim.bind Q.und.sim fun E1 d d' hE1 e=>?_;subst e;have hv1:=hv.mono hE1;cases d'<;>try exact Sim.halt
   case array n e=>exact Sim.pure fun _ _=>.int _ _
   case pointer arr=>
    refine Sim.bind Q.und.sim fun E2 d d' hE2 e=>?_;subst e;split
    ·exact Sim.pure fun _ _=>.int _ _
    ·exact Sim.halt
   case string=>cases hv1<;>first|exact Sim.halt|exact Sim.pure fun _ _=>.int _ _
   case slice e=>cases hv1<;>first|exact Sim.halt|exact Sim.pure fun _ _=>.int _ _
   case chan=>cases hv1<;>first|exact Sim.halt|exact Sim.pure fun _ _=>.int _ _
   case map=>
    cases hv1<;>first|exact Sim.halt|exact Sim.pure fun _ _=>.int _ _|skip
    case map r r' g hr=>
     refine Sim.bind (Sim.getObj hr) fun E2 o o' hE2 ho=>?_;cases ho<;>try exact Sim.halt
     case map es es' c hm=>
      have hl:es'.size=es.size:=by simpa using hm.length
      exact Sim.pure fun _ _=>by rw[hl];exact .int _ _
def AQm:Value->Option Nat
 |.slice _ n _=>some n
 |_=>none
theorem Sim.first{v v':Value}(h:VR E v v'){s n:Nat}(hn:∀m,AQm v=some m->n<=m):Sim P w0 (fun E c c'=>VRs E c.toList c'.toList/\(n=0->c.toList=[])) E (Builtin.firstCells s n v) (Builtin.firstCells s n v'):=by
 unfold Builtin.firstCells;have key:∀{a a':Addr},VR E (.pointer (some a)) (.pointer (some a'))->Sim P w0 (fun E c c'=>VRs E c.toList c'.toList/\(n=0->c.toList=[])) E (Go.loadCells a (n*s)) (Go.loadCells a' (n*s)):=by
  intro a a' ha;by_cases h0:n=0
  ·subst h0
   rw[Nat.zero_mul];exact Sim.pure fun _ _=>⟨.nil,fun _=>rfl⟩
  ·exact(Sim.loadCells ha _).mono fun _ _ _ _ hc=>⟨hc,fun h=>absurd h h0⟩
 cases h<;>try exact Sim.halt
 case string s'=>exact Sim.pure fun _ _=>⟨AFG (List.all_eq_true.2 fun x hx=>by simp at hx;have:=List.mem_of_mem_take hx;simp at this;obtain⟨b,_,rfl⟩:=this;rfl),fun h=>by subst h;simp⟩
 case nils l c=>exact Sim.pure fun _ _=>⟨.nil,fun _=>rfl⟩
 case sl h1 h2 h3 h4 h5 h6=>exact key (.ptr h1 h2 h3)
 case sl0 h3 h5 h2=>
  have:n=0:=Nat.le_zero.1 (hn 0 rfl);subst this;rw[Nat.zero_mul];exact Sim.pure fun _ _=>⟨.nil,fun _=>rfl⟩
theorem Sim.lenOf{v v':Value}(h:VR E v v'):Sim P w0 (fun _ n n'=>n'=n/\(∀m,AQm v=some m->n=m)) E (Builtin.lenOf v) (Builtin.lenOf v'):=by
 unfold Builtin.lenOf;cases h<;>first|exact Sim.halt|exact Sim.pure fun _ _=>⟨rfl,fun m hm=>by cases hm;rfl⟩|exact Sim.pure fun _ _=>⟨rfl,fun m hm=>by cases hm⟩
theorem Sim.copy{tys:Array TypeId}{t:TypeId}{l l':Array Value}(h:VRs E l.toList l'.toList):Sim P w0 VR E (Builtin.copy_ tys t l) (Builtin.copy_ tys t l'):=by
 unfold Builtin.copy_;rcases ABz h 0 with⟨h1,h2⟩|⟨v,v',h1,h2,hv⟩
 ·rw[h1];cases(tys[0]?:Option TypeId)<;>exact Sim.halt
 rcases ABz h 1 with⟨h3,h4⟩|⟨u,u',h3,h4,hu⟩
 ·rw[h1,h3];cases(tys[0]?:Option TypeId)<;>exact Sim.halt
 rw[h1,h2,h3,h4];cases(tys[0]?:Option TypeId)with
 |none=>exact Sim.halt
 |some t0=>
  refine Sim.bind Q.und.sim fun E1 d d' hE1 e=>?_;subst e;have hv1:=hv.mono hE1;have hu1:=hu.mono hE1;cases d'<;>try exact Sim.halt
  case slice e=>
   cases hv1<;>try exact Sim.halt
   all_goals
    refine Sim.bind (Sim.lenOf hu1) ?_;rintro E2 n n' hE2⟨rfl,hn⟩;refine Sim.bind Q.size.sim fun E3 s s' hE3 e=>?_;subst e;refine Sim.bind (Sim.first (hu1.mono (hE2.trans hE3)) fun m hm=>by have:=hn m hm;subst this;exact Nat.min_le_left _ _) fun E4 c c' hE4 hc=>?_
   case nils=>exact Sim.pure fun _ _=>.int _ _
   case sl k1 k2 k3 k4 k5 k6=>exact Sim.bind (Sim.storeCells (.ptr k1 k2 (EP (hE2.trans (hE3.trans hE4)) k3)) hc.1 0) fun _ _ _ _ _=>Sim.pure fun _ _=>.int _ _
   case sl0 k1 k2 k3=>
    have h0:c.toList=[]:=hc.2 (Nat.min_eq_right (Nat.zero_le _));have h0':c'.toList=[]:=by have:=hc.1.length;rw[h0]at this;exact List.length_eq_zero_iff.1 this
    rw[h0,h0'];exact Sim.bind (R:=fun _ _ _=>True) (Sim.pure fun _ _=>trivial) fun _ _ _ _ _=>Sim.pure fun _ _=>.int _ _
theorem Sim.clear(hZ:Zf P){tys:Array TypeId}{t:TypeId}{l l':Array Value}(h:VRs E l.toList l'.toList):Sim P w0 VR E (Builtin.clear_ tys t l) (Builtin.clear_ tys t l'):=by
 unfold Builtin.clear_
 try dsimp only
 rcases ABz h 0 with⟨h1,h2⟩|⟨v,v',h1,h2,hv⟩
 ·rw[h1];cases(tys[0]?:Option TypeId)<;>exact Sim.halt
 rw[h1,h2];cases(tys[0]?:Option TypeId)with
 |none=>exact Sim.halt
 |some t0=>
  refine Sim.bind Q.und.sim fun E1 d d' hE1 e=>?_;subst e;have hv1:=hv.mono hE1;have dn:∀{E:En},Sim P w0 VR E (Pure.pure (Value.tuple #[])) (Pure.pure (Value.tuple #[])):=Sim.pure fun _ _=>.tuple .nil;cases hv1<;>try (cases d'<;>exact Sim.nope fun A=>vJ rfl)
  case nilm=>cases d'<;>exact dn
  case nils=>cases d'<;>exact dn
  case sl0=>cases d'<;>exact dn
  case map r r' g hr=>
   have key:Sim P w0 VR E1 (do
     match<-Go.getObj r with
     |Obj.map _ c=>do Go.setObj r (Obj.map #[] c);Pure.pure (Value.tuple #[])
     | _ => do stuck (α := Unit) "clear: map expected"; Pure.pure (Value.tuple #[])) (do
     match<-Go.getObj r' with
     |Obj.map _ c=>do Go.setObj r' (Obj.map #[] c);Pure.pure (Value.tuple #[])
     | _ => do stuck (α := Unit) "clear: map expected"; Pure.pure (Value.tuple #[])) := by
    refine Sim.bind (Sim.getObj hr) fun E2 o o' hE2 ho=>?_;cases ho<;>try exact Sim.nope fun A=>vJ rfl
    exact Sim.bind (Sim.setMap (EP hE2 hr) .nil) fun _ _ _ _ _=>Sim.pure fun _ _=>.tuple .nil
   cases d'<;>exact key
  case sl a a' g n c c' k1 k2 k3 k4 k5 k6=>
   cases n with
   |zero=>cases d'<;>exact dn
   |succ n=>
    cases d'<;>try exact Sim.nope fun A=>vJ rfl
    case slice e=>
     refine Sim.bind (Sim.zero hZ) fun E2 z z' hE2 hz=>?_;obtain⟨rfl,hz⟩:=hz;exact Sim.bind (Sim.storeCells (.ptr k1 k2 (EP hE2 k3)) (ALc hz) 0) fun _ _ _ _ _=>Sim.pure fun _ _=>.tuple .nil
theorem Sim.delete{tys:Array TypeId}{t:TypeId}{l l':Array Value}(h:VRs E l.toList l'.toList)(hk:∀k,l[1]?=some k->vS k=true):Sim P w0 VR E (Builtin.delete_ tys t l) (Builtin.delete_ tys t l'):=by
 unfold Builtin.delete_
 try dsimp only
 rcases ABz h 0 with⟨h1,h2⟩|⟨v,v',h1,h2,hv⟩
 ·rw[h1];cases(tys[0]?:Option TypeId)<;>exact Sim.halt
 rcases ABz h 1 with⟨h3,h4⟩|⟨u,u',h3,h4,hu⟩
 ·rw[h1,h3];cases(tys[0]?:Option TypeId)<;>exact Sim.halt
 have hku:=zO (hk _ h3) hu;subst hku;rw[h1,h2,h3,h4];cases(tys[0]?:Option TypeId)with
 |none=>exact Sim.halt
 |some t0=>
  refine Sim.bind Q.und.sim fun E1 d d' hE1 e=>?_;subst e;have hv1:=hv.mono hE1;cases d'<;>try exact Sim.halt
  case map key elem=>
   cases hv1<;>try exact Sim.nope fun A=>vJ rfl
   case nilm=>exact Sim.bind (Q.checkKey _).sim fun _ _ _ _ _=>Sim.pure fun _ _=>.tuple .nil
   case map r r' g hr=>
    refine Sim.bind (Sim.getObj hr) fun E2 o o' hE2 ho=>?_;cases ho<;>try exact Sim.nope fun A=>vJ rfl
    case map es es' c hm=>
     have he:es'.isEmpty=es.isEmpty:=by
      have:=hm.length;simp only[Array.length_toList]at this;unfold Array.isEmpty;rw[this]
     dsimp only;rw[he];refine Sim.bind (Q.checkKey _).sim fun E3 _ _ hE3 _=>?_;refine Sim.bind (Sim.findKey (hm.mono hE3)) fun E4 f f' hE4 hf=>?_;have hr4:=EP (hE2.trans (hE3.trans hE4)) hr;cases f<;>cases f'<;>try exact hf.elim
     ·exact Sim.bind (Sim.setMap hr4 (hm.mono (hE3.trans hE4))) fun _ _ _ _ _=>Sim.pure fun _ _=>.tuple .nil
     ·rename_i p q
      obtain⟨i,x⟩:=p;obtain⟨i',x'⟩:=q;obtain⟨q1,q2⟩:=hf;dsimp only at q1 q2⊢;subst q1;refine Sim.bind (Sim.setMap hr4 ?_) fun _ _ _ _ _=>Sim.pure fun _ _=>.tuple .nil;simp only[Array.eraseIdxIfInBounds];have hs:es'.size=es.size:=by simpa using hm.length
      split
      ·rw[dif_pos (by omega)]
       simp only[Array.toList_eraseIdx];exact(hm.mono (hE3.trans hE4)).erase _
      ·rw[dif_neg (by omega)]
       exact hm.mono (hE3.trans hE4)
end
end
section
section
variable {P:Program}{w0:W0}{E:En}{α β:Type}
def AD2(P:Program)(w0:W0)(E:En)(o:Oper)(ρ':Operand->Value)(w:World)(v:Value)(A':AH):Prop:=
 ∃(E':En)(v':Value)(w':World),((execOp ρ' o).run P w=.ok (.value v') w'\/((execOp ρ' o).run P w=.ok .skip w'/\v'=undef))/\En.le E E'/\VR E' v v'/\HR w0 E' A' w'
theorem AMf{o:Oper}{ρ ρ':Operand->Value}{A A':AH}{w:World}{v:Value}(h:Sim P w0 NR E (execOp ρ o) (execOp ρ' o))(hH:HR w0 E A w)(hg:gen P o A ρ=.ok v A'):AD2 P w0 E o ρ' w v A':=by
 unfold gen at hg;cases hr:Jr P (execOp ρ o) A with
 |none=>rw[hr]at hg;cases hg
 |some r=>
  obtain⟨n,A1⟩:=r;rw[hr]at hg;obtain⟨E',n',w',h1,h2,h3,h4⟩:=h E A w En.le_rfl hH n A1 hr;cases n<;>cases n'<;>try exact h3.elim
  all_goals first|(cases hg;done)|skip
  ·rename_i u u'
   cases hg;exact⟨E',u',w',.inl h2,h1,h3,h4⟩
  ·cases hg
   exact⟨E',undef,w',.inr ⟨h2,rfl⟩,h1,.tuple .nil,h4⟩
theorem AHG{α:Type}{s:Sem α}{A:AH}{v:α}(h:AC7 P s A=some v):Jr P s A=some (v,A):=by
 induction s with
 |pure a=>cases h;rfl
 |load m a k ih=>
  simp only[AC7,Jr]at h⊢;cases hl:A.load a with
  |none=>rw[hl]at h;cases h
  |some u=>rw[hl]at h;exact ih u h
 |getObj r k ih=>
  simp only[AC7,Jr]at h⊢;cases hg:YA A.t r with
  |none=>rw[hg]at h;cases h
  |some o=>
   rw[hg]at h;dsimp only at h⊢;cases ho:o.toObj with
   |none=>rw[ho]at h;cases h
   |some o'=>rw[ho]at h;exact ih o' h
 |choose q k ih=>
  simp only[AC7,Jr]at h⊢;cases hq:q.forced with
  |true=>rw[hq]at h;exact ih 0 h
  |false=>rw[hq]at h;cases h
 |program k ih=>exact ih P h
 |mark m k ih=>exact ih h
 |store m a v k ih=>cases h
 |new o k ih=>cases h
 |shape r k ih=>cases h
 |freeze a n k ih=>cases h
 |frozen a k ih=>cases h
 |setObj r o k ih=>cases h
 |sys c k ih=>cases h
 |halt h'=>cases h
theorem AJI{o:Oper}{ρ:Operand->Value}{A A':AH}{v:Value}(h:ALS P o A ρ=.ok v A'):gen P o A ρ=.ok v A'/\A'=A:=by
 unfold ALS at h;split at h
 ·rename_i u hu
  cases h;unfold gen;rw[AHG hu];exact⟨rfl,rfl⟩
 ·rename_i hu
  cases h;unfold gen;rw[AHG hu];exact⟨rfl,rfl⟩
 ·cases h
 ·cases h
theorem AJJ{ρ ρ':Operand->Value}{l:List (Nat×Operand)}(h:∀x∈l.map (·.2),VR E (ρ x) (ρ' x)):PRs E (l.map fun p=>(p.1,ρ p.2)) (l.map fun p=>(p.1,ρ' p.2)):=by
 induction l with
 |nil=>exact .nil
 |cons x l ih=>exact .cons (h _ (by simp)) (ih fun y hy=>h y (by simp only[List.map_cons,List.mem_cons];exact .inr hy))
theorem AHH{ρ ρ':Operand->Value}{x:Option Operand}(h:∀y∈x.toArray.toList,VR E (ρ y) (ρ' y)):OV E (x.map ρ) (x.map ρ'):=by
 cases x with
 |none=>exact .none
 |some y=>exact .some (h y (by simp))
theorem ASh(hZ:Zf P){o:Oper}{ρ ρ':Operand->Value}(hk:AEJ o.op=2)(hρ:∀x∈o.op.operands.toList,VR E (ρ x) (ρ' x))(hkey:AG3 ρ o.op=true)
  (hsl:∀t x lo hi mx,o.op=.slice t x lo hi mx->AHv P E t (ρ x)):Sim P w0 NR E (execOp ρ o) (execOp ρ' o):=by
 obtain⟨dst,op,ty,pos,af,gd⟩:=o;dsimp only at hk hρ hkey;cases op
 case build t parts=>
  refine Sim.value (Sim.build hZ ?_);simp only[Array.toList_map];exact AJJ fun x hx=>hρ x (by simpa[Op.operands]using hx)
 case buildSlice t n parts=>
  refine Sim.value (Sim.buildSlice hZ ?_);simp only[Array.toList_map];exact AJJ fun x hx=>hρ x (by simpa[Op.operands]using hx)
 case makeMap t r=>exact Sim.value (Sim.makeMap (AHH fun y hy=>hρ y (by simpa[Op.operands]using hy)))
 case makeSlice t l c=>exact Sim.value (Sim.makeSlice hZ (hρ l (by simp[Op.operands])) (hρ c (by simp[Op.operands])))
 case makeFunc f a b=>
  cases f<;>try (cases hk;done)
  refine Sim.value (Sim.pure fun E' hE=>(VR.func _ ?_ ?_).mono hE)<;>
  ·simp only[Array.toList_map]
   exact VRs.map fun x hx=>hρ x (by simp only[Op.operands,Array.toList_append,List.mem_append];first|exact .inl hx|exact .inr hx)
 case slice t x lo hi mx=>
  exact Sim.value (Sim.sliceAt (hρ x (by simp[Op.operands])) (hsl _ _ _ _ _ rfl) (AHH fun y hy=>hρ y (by simp[Op.operands]at*;simp[hy])) (AHH fun y hy=>hρ y (by simp[Op.operands]at*;simp[hy]))
   (AHH fun y hy=>hρ y (by simp[Op.operands]at*;simp[hy])))
 case field t x i=>exact Sim.value (Sim.field (hρ x (by simp[Op.operands])))
 case index t x i=>exact Sim.value (Sim.index (hρ x (by simp[Op.operands])) (hρ i (by simp[Op.operands])))
 case lookup t x k c=>
  have e:=zO (E:=E) hkey (hρ k (by simp[Op.operands]));unfold execOp;dsimp only;rw[e];exact Sim.value (Sim.lookup hZ (hρ x (by simp[Op.operands])))
 case mapUpdate t m k x=>
  have e:=zO (E:=E) hkey (hρ k (by simp[Op.operands]));unfold execOp;dsimp only;rw[e];exact Sim.unit (Sim.mapUpdate (hρ m (by simp[Op.operands])) (hρ x (by simp[Op.operands])))
 case insert t m k x=>
  have e:=zO (E:=E) hkey (hρ k (by simp[Op.operands]));unfold execOp;dsimp only;rw[e];exact Sim.unit (Sim.mapUpdate (hρ m (by simp[Op.operands])) (hρ x (by simp[Op.operands])))
 case mapEntry t m k=>
  have e:=zO (E:=E) hkey (hρ k (by simp[Op.operands]));unfold execOp;dsimp only;rw[e];exact Sim.value (Sim.mapEntry hZ (hρ m (by simp[Op.operands])))
 case entryStore t m s x=>exact Sim.unit (Sim.entryStore (hρ m (by simp[Op.operands])) (hρ s (by simp[Op.operands])) (hρ x (by simp[Op.operands])))
 case store t a x=>exact Sim.unit (Sim.storeAt (hρ a (by simp[Op.operands])) (hρ x (by simp[Op.operands])))
 case call c=>
  obtain⟨callee,args,tys⟩:=c;cases callee<;>try (cases hk;done)
  case builtin b=>
   have ha:VRs E (args.map ρ).toList (args.map ρ').toList:=by
    simp only[Array.toList_map];exact VRs.map fun x hx=>hρ x (by simp only[Op.operands,Call.operands,Array.toList_append,List.mem_append];exact .inr hx)
   cases b<;>try (cases hk;done)
   case len=>exact Sim.value (Sim.len ha)
   case clear=>exact Sim.value (Sim.clear hZ ha)
   case copy=>exact Sim.value (Sim.copy ha)
   case delete=>
    refine Sim.value (Sim.delete ha fun k hk=>?_);simp only[AG3]at hkey;rw[Array.getElem?_map]at hk;cases ho:(args[1]?:Option Operand)with
    |none=>rw[ho]at hk;cases hk
    |some x=>rw[ho]at hk hkey;cases hk;exact hkey
 all_goals cases hk
end
end
section
section
variable {P:Program}{w0:W0}{E:En}{α β:Type}
theorem KN{γ δ:Type}{b:Bx γ}{d r:δ}{k:γ->δ}(h:b.ap d k=r)(hd:d≠r):∃f,b=.mk f/\k f=r:=by
 cases b with
 |mk f=>exact⟨f,rfl,h⟩
 |no=>exact absurd h hd
theorem yV{x:Operand}{X:OK}{T:TP}{v:Value}{a:Act}(h:AB7 x=.mk X)(hv:X T=.mk v)(hT:TR E T a.tmps):VR E v (a.eval x):=by
 cases x with
 |tmp t=>
  simp only[AB7]at h;split at h
  ·rename_i hb
   cases h;obtain⟨v',h1,h2⟩:=hT t v (by simpa[Nat.blt_eq]using hb) hv;simp only[Act.eval,Array.getD_eq_getD_getElem?,h1];exact h2
  ·cases h
 |const c=>
  simp only[AB7]at h;split at h
  ·rename_i hf
   cases h;cases hv;exact zN hf
  ·cases h
 |global g=>cases h
 |func f=>cases h;cases hv;exact .func f .nil .nil
theorem AJ0{x:Operand}{X:OK}{T:TP}{v:Value}(h:AB7 x=.mk X)(hv:X T=.mk v):ABH x T=v:=by
 unfold ABH;rw[h];show OVal.rec (motive:=fun _=>Value) undef (fun v=>v) (X T)=v;rw[hv]
theorem vW{x:Operand}{T:TP}{s:String}{n:Nat}{k:Value->V}{v:Value}{A:AH}{a:Act}(h:X1 x T (.no s n) k=.ok v A)(hT:TR E T a.tmps):∃u,VR E u (a.eval x)/\k u=.ok v A:=by
 unfold X1 at h;obtain⟨X,h1,h2⟩:=KN h (by intro e;cases e);cases hX:X T with
 |no=>rw[hX]at h2;cases h2
 |mk u=>rw[hX]at h2;exact⟨u,yV h1 hX hT,h2⟩
theorem ALe{x:Operand}{l:List Operand}{T:TP}{vs:List Value}{X:TP->Option (List Value)}(h:ABw (x::l)=.mk X)(hv:X T=some vs):
  ∃Y v L us,AB7 x=.mk Y/\Y T=.mk v/\ABw l=.mk L/\L T=some us/\vs=v::us:=by
 simp only[ABw]at h;cases h;obtain⟨Y,h1,h2⟩:=KN hv (by intro e;cases e);cases hY:Y T with
 |no=>rw[hY]at h2;cases h2
 |mk u=>
  rw[hY]at h2;obtain⟨L,h3,h4⟩:=KN h2 (by intro e;cases e);cases hL:L T with
  |none=>rw[hL]at h4;cases h4
  |some us=>rw[hL]at h4;cases h4;exact⟨Y,u,L,us,h1,hY,h3,hL,rfl⟩
theorem AEY{l:List Operand}{T:TP}{a:Act}(hT:TR E T a.tmps):∀{vs:List Value}{X:TP->Option (List Value)},ABw l=.mk X->X T=some vs->
  VRs E vs (l.map a.eval)/\vs=l.map (fun x=>ABH x T)/\∀x∈l,VR E (ABH x T) (a.eval x):=by
 induction l with
 |nil=>intro vs X h hv;simp only[ABw]at h;cases h;cases hv;exact⟨.nil,rfl,by simp⟩
 |cons x l ih=>
  intro vs X h hv;obtain⟨Y,v,L,us,h1,h2,h3,h4,rfl⟩:=ALe h hv;obtain⟨i1,i2,i3⟩:=ih h3 h4;have hd:=AJ0 h1 h2;refine⟨.cons (yV h1 h2 hT) i1,by rw[List.map_cons,hd,i2],fun y hy=>?_⟩;rcases List.mem_cons.1 hy with rfl|hy
  ·rw[hd];exact yV h1 h2 hT
  ·exact i3 y hy
def OpS(P:Program)(w0:W0)(K:OpK)(o:Oper):Prop:=
 ∀(ca:vK)(rd:aZ)(E:En)(T:TP)(A:AH)(a:Act)(w:World)(v:Value)(A':AH),TR E T a.tmps->HR w0 E A w->K ca rd T A=.ok v A'->AD2 P w0 E o a.eval w v A'
theorem AJ1{ρ ρ':Operand->Value}{o:Oper}(hk:AEJ o.op=1)(h:∀x∈o.op.operands.toList,ρ' x=ρ x):execOp ρ' o=execOp ρ o:=by
 obtain⟨dst,op,ty,pos,af,gd⟩:=o;dsimp only at hk h;cases op
 case binOp b t x y t'=>
  have h1:=h x (by simp[Op.operands]);have h2:=h y (by simp[Op.operands]);unfold execOp;dsimp only;rw[h1,h2]
 case unOp b t x=>
  have h1:=h x (by simp[Op.operands]);unfold execOp;dsimp only;rw[h1]
 case convert b t x=>
  have h1:=h x (by simp[Op.operands]);unfold execOp;dsimp only;rw[h1]
 case pick x y z=>
  have h1:=h x (by simp[Op.operands]);have h2:=h y (by simp[Op.operands]);have h3:=h z (by simp[Op.operands]);unfold execOp;dsimp only;rw[h1,h2,h3]
 case call c=>
  obtain⟨callee,args,tys⟩:=c;cases callee<;>try (cases hk;done)
  case builtin b=>
   have ha:args.map ρ'=args.map ρ:=Array.map_congr_left fun x hx=>h x (by simp only[Op.operands,Call.operands,Array.toList_append,List.mem_append];exact .inr (by simpa using hx));unfold execOp resolve;dsimp only;rw[ha]
 case makeFunc f x y=>cases f<;>cases hk
 all_goals cases hk
theorem AGW(hZ:Zf P){o:Oper}{K:OpK}(h:ADx P o=.mk K)(ca:vK)(rd:aZ)(E:En)(T:TP)(A:AH)(a:Act)(w:World)(v:Value)(A':AH)(hT:TR E T a.tmps)(hH:HR w0 E A w)(hK:K ca rd T A=.ok v A')
  (hsl:∀t x lo hi mx,o.op=.slice t x lo hi mx->AHv P E t (ABH x T)):AD2 P w0 E o a.eval w v A':=by
 unfold ADx at h;split at h
 ·cases h
 ·rename_i hk
  cases h;obtain⟨X,h1,h2⟩:=KN hK (by intro e;cases e);cases hX:X T with
  |none=>rw[hX]at h2;cases h2
  |some vs=>
   rw[hX]at h2;dsimp only at h2;split at h2
   ·rename_i hf
    obtain⟨_,e,hv⟩:=AEY hT h1 hX;have hs:execOp a.eval o=execOp (fun x=>ABH x T) o:=AJ1 hk fun x hx=>by
     refine zO (E:=E) ?_ (hv x hx);rw[List.all_eq_true]at hf;exact hf _ (by rw[e];exact List.mem_map_of_mem hx)
    unfold ANt at h2;split at h2
    ·rename_i u hq
     split at h2
     ·rename_i hfu
      cases h2;refine⟨E,_,w,.inl ?_,En.le_rfl,zN hfu,hH⟩;rw[hs];exact AGj hq w
     ·cases h2
    ·cases h2
   ·cases h2
 ·rename_i hk0 hk1
  have hk:AEJ o.op=2:=by
   have hle:AEJ o.op<=2:=by unfold AEJ;split<;>(try split)<;>omega
   have a0:AEJ o.op≠0:=hk0;have a1:AEJ o.op≠1:=hk1;omega
  have fin:∀{f:Oper->AH->(Operand->Value)->V}(_:f o A (fun x=>ABH x T)=.ok v A'->gen P o A (fun x=>ABH x T)=.ok v A'),
    ((ABw o.op.operands.toList).ap (.no "opnds" 0) fun X => match X T with
     |some _=>match AG3 (fun x=>ABH x T) o.op with
      |true=>f o A (fun x=>ABH x T)
      |false=>.no o.pos 4
     | none => .no "undef" 2 : V) = .ok v A' → AD2 P w0 E o a.eval w v A' := by
   intro f hf hK;obtain⟨X,h1,h2⟩:=KN hK (by intro e;cases e);cases hX:X T with
   |none=>rw[hX]at h2;cases h2
   |some vs=>
    rw[hX]at h2;dsimp only at h2;split at h2
    ·rename_i hkey
     obtain⟨_,e,hv⟩:=AEY hT h1 hX;exact AMf (ASh hZ hk hv hkey hsl) hH (hf h2)
    ·cases h2
  split at h
  ·cases h
   exact fin (f:=gen P) id hK
  ·cases h
   exact fin (f:=ALS P) (fun e=>(AJI e).1) hK
theorem ADb(hZ:Zf P){o:Oper}{K:OpK}(h:ADx P o=.mk K)(hns:∀t x lo hi mx,o.op≠.slice t x lo hi mx):OpS P w0 K o:=fun ca rd E T A a w v A' hT hH hK=>
 AGW hZ h ca rd E T A a w v A' hT hH hK fun t x lo hi mx e=>absurd e (hns t x lo hi mx)
end
end
section
section
variable {P:Program}{w0:W0}{E:En}{α β:Type}
theorem AHI(a b:Int):ile a b=decide (a<=b):=by
 rw[Bool.eq_iff_iff,decide_eq_true_eq];cases a with
 |ofNat m=>cases b with
  |ofNat n=>show Nat.ble m n=true↔_;rw[Nat.ble_eq];simp only[Int.ofNat_eq_natCast];omega
  |negSucc n=>show false=true↔_;simp only[Int.ofNat_eq_natCast,Bool.false_eq_true,false_iff];omega
 |negSucc m=>cases b with
  |ofNat n=>show true=true↔_;simp only[Int.ofNat_eq_natCast,true_iff];omega
  |negSucc n=>show Nat.ble n m=true↔_;rw[Nat.ble_eq];omega
theorem AEt(a b:Int):ieq a b=decide (a=b):=by
 rw[Bool.eq_iff_iff,decide_eq_true_eq];cases a with
 |ofNat m=>cases b with
  |ofNat n=>show Nat.beq m n=true↔_;rw[Nat.beq_eq];simp only[Int.ofNat_eq_natCast];omega
  |negSucc n=>show false=true↔_;simp only[Int.ofNat_eq_natCast,Bool.false_eq_true,false_iff];omega
 |negSucc m=>cases b with
  |ofNat n=>show false=true↔_;simp only[Int.ofNat_eq_natCast,Bool.false_eq_true,false_iff];omega
  |negSucc n=>show Nat.beq m n=true↔_;rw[Nat.beq_eq];omega
theorem AHJ{n:Int}(h:AO3 n=true):IntKind.i64.wrap n=n:=by
 have h2:-9223372036854775808<=n/\n<9223372036854775808:=by
  cases n with
  |ofNat m=>have:Nat.blt m 9223372036854775808=true:=h;rw[Nat.blt_eq]at this;simp only[Int.ofNat_eq_natCast];omega
  |negSucc m=>have:Nat.blt m 9223372036854775808=true:=h;rw[Nat.blt_eq]at this;omega
 simp only[IntKind.wrap,IntKind.bits,IntKind.signed,Bool.true_and];split<;>rename_i h3<;>simp only[decide_eq_true_eq,ge_iff_le]at h3<;>omega
theorem xR{o:Oper}{ρ':Operand->Value}{w:World}{v v':Value}{A:AH}(h:(execOp ρ' o).run P w=.ok (.value v') w)(hv:VR E v v')(hH:HR w0 E A w):AD2 P w0 E o ρ' w v A:=
 ⟨E,v',w,.inl h,En.le_rfl,hv,hH⟩
theorem AIK{f:Int->Int->Int}{a b v:Value}(h:AHr f a b=some v):∃m n,a=.int .i64 m/\b=.int .i64 n/\v=.int .i64 (IntKind.i64.wrap (f m n)):=by
 unfold AHr at h;split at h
 ·split at h
  ·dsimp only at h
   split at h
   ·rename_i hi
    cases h;exact⟨_,_,rfl,rfl,by rw[AHJ hi]⟩
   ·cases h
  ·cases h
 ·cases h
theorem AIL{f:Int->Int->Bool}{a b v:Value}(h:AFD f a b=some v):∃m n,a=.int .i64 m/\b=.int .i64 n/\v=.bool (f m n):=by
 unfold AFD at h;split at h
 ·split at h
  ·cases h;exact⟨_,_,rfl,rfl,rfl⟩
  ·cases h
 ·cases h
theorem AGX(hZ:Zf P){o:Oper}{x y:Operand}{f:Value->Value->Option Value}{K:OpK}(h:AAN P o x y f=.mk K)
  (hf:∀(ρ':Operand->Value)(a b v:Value)(w:World),f a b=some v->VR (fun _=>none) a (ρ' x)->VR (fun _=>none) b (ρ' y)->(execOp ρ' o).run P w=.ok (.value v) w/\vS v=true/\vS a=true/\vS b=true)
  (hf1:∀a b v,f a b=some v->vS a=true/\vS b=true) (hns:∀t x lo hi mx,o.op≠.slice t x lo hi mx):OpS P w0 K o:=by
 intro ca rd E T A a w v A' hT hH hK;unfold AAN at h;cases h;obtain⟨X,h1,h2⟩:=KN hK (by intro e;cases e);cases hX:X T with
 |no=>rw[hX]at h2;cases h2
 |mk u=>
  rw[hX]at h2;obtain⟨Y,h3,h4⟩:=KN h2 (by intro e;cases e);cases hY:Y T with
  |no=>rw[hY]at h4;cases h4
  |mk s=>
   rw[hY]at h4;dsimp only at h4;cases hfu:f u s with
   |none=>
    rw[hfu]at h4;obtain⟨K,h5,h6⟩:=KN h4 (by intro e;cases e);exact ADb hZ h5 hns ca rd E T A a w v A' hT hH h6
   |some r=>
    rw[hfu]at h4;cases h4;obtain⟨q1,q2⟩:=hf1 _ _ _ hfu;have e1:=zO q1 (yV h1 hX hT);have e2:=zO q2 (yV h3 hY hT);obtain⟨k1,k2,_,_⟩:=hf a.eval u s v w hfu (by rw[e1];exact zN q1) (by rw[e2];exact zN q2);exact xR k1 (zN k2) hH
theorem AJK(hZ:Zf P){o:Oper}{x y:Operand}{f:Value->Value->Option Value}{K:OpK}(h:AAN P o x y f=.mk K)
  (hf:∀(E:En)(ρ':Operand->Value)(a b v:Value)(w:World),f a b=some v->VR E a (ρ' x)->VR E b (ρ' y)->(execOp ρ' o).run P w=.ok (.value v) w/\vS v=true)
  (hns:∀t x lo hi mx,o.op≠.slice t x lo hi mx):OpS P w0 K o:=by
 intro ca rd E T A a w v A' hT hH hK;unfold AAN at h;cases h;obtain⟨X,h1,h2⟩:=KN hK (by intro e;cases e);cases hX:X T with
 |no=>rw[hX]at h2;cases h2
 |mk u=>
  rw[hX]at h2;obtain⟨Y,h3,h4⟩:=KN h2 (by intro e;cases e);cases hY:Y T with
  |no=>rw[hY]at h4;cases h4
  |mk s=>
   rw[hY]at h4;dsimp only at h4;cases hfu:f u s with
   |none=>
    rw[hfu]at h4;obtain⟨K,h5,h6⟩:=KN h4 (by intro e;cases e);exact ADb hZ h5 hns ca rd E T A a w v A' hT hH h6
   |some r=>
    rw[hfu]at h4;cases h4;obtain⟨k1,k2⟩:=hf E a.eval u s v w hfu (yV h1 hX hT) (yV h3 hY hT);exact xR k1 (zN k2) hH
theorem APm{t:TypeId}{el:TypeId}(hu:P.underlying t=some (.slice el)){e:Bool}{a b a' b' v:Value}{w:World}(h:nil2 e a b=some v)(ha:VR E a a')(hb:VR E b b'):
  ∃r:Bool,v=.bool (bif e then r else !r)/\(Op.equal t a' b').run P w=.ok r w/\∀(op:BinOp)(x y:Operand),(eqGuard op t x y a' b').run P w=.ok () w:=by
 have un:∀w:World,(underlying t).run P w=.ok (.slice el) w:=fun w=>(Q.und _ _ _ (show Jr P (underlying t) (⟨0,.lf⟩:AH)=some (_,⟨0,.lf⟩) by
  unfold underlying;rw[MW];simp only[Go.program,Jr];rw[hu]
  rfl)).2 w
 have gd:∀(op:BinOp)(x y:Operand)(p q:Option Addr)(i j k l:Nat),(eqGuard op t x y (.slice p i j) (.slice q k l)).run P w=.ok () w:=by
  intro op x y p q i j k l;unfold eqGuard;cases op<;>simp<;>rfl
 unfold nil2 at h;split at h
 ·split at h
  ·cases h
   cases hb;cases ha<;>exact⟨false,by cases e<;>rfl,by unfold Op.equal Op.maxDepth;unfold Op.equalIn;rw[IB (un w)];rfl,fun _ _ _=>gd ..⟩
  ·cases h
 ·split at h
  ·cases h
   cases ha;cases hb<;>exact⟨false,by cases e<;>rfl,by unfold Op.equal Op.maxDepth;unfold Op.equalIn;rw[IB (un w)];rfl,fun _ _ _=>gd ..⟩
  ·cases h
   cases ha;cases hb;exact⟨true,by cases e<;>rfl,by unfold Op.equal Op.maxDepth;unfold Op.equalIn;rw[IB (un w)];rfl,fun _ _ _=>gd ..⟩
  ·cases h
 ·cases h
theorem ALf{e:Bool}{a b a' b' v:Value}(h:nil2 e a b=some v)(ha:VR E a a')(hb:VR E b b'):∃p i j q k l,a'=.slice p i j/\b'=.slice q k l:=by
 unfold nil2 at h;split at h
 ·split at h
  ·cases hb
   cases ha<;>exact⟨_,_,_,_,_,_,rfl,rfl⟩
  ·cases h
 ·split at h
  ·cases ha
   cases hb<;>exact⟨_,_,_,_,_,_,rfl,rfl⟩
  ·cases ha
   cases hb;exact⟨_,_,_,_,_,_,rfl,rfl⟩
  ·cases h
 ·cases h
theorem AIM(hZ:Zf P){e:Bool}{dst:Option Tmp}{t yt:TypeId}{x y:Operand}{ty:TypeId}{pos:String}{af:Array Edge}{gd:Option (Nat×Bool)}{K:OpK}{el:TypeId}(hu:P.underlying t=some (.slice el))
  (h:AAN P ⟨dst,.binOp (bif e then .eql else .neq) t x y yt,ty,pos,af,gd⟩ x y (nil2 e)=.mk K):OpS P w0 K ⟨dst,.binOp (bif e then .eql else .neq) t x y yt,ty,pos,af,gd⟩:=by
 refine AJK hZ h (fun E ρ' a b v w hv ha hb=>?_) (fun _ _ _ _ _ e=>by cases e);obtain⟨r,rfl,h1,h2⟩:=APm hu hv ha hb;refine⟨?_,rfl⟩;have hb:(binOp (bif e then .eql else .neq) t (ρ' x) (ρ' y)).run P w=.ok (.bool (bif e then r else !r)) w:=by
  obtain⟨p,i,j,q,k,l,e1,e2⟩:=ALf hv ha hb;rw[e1,e2]at h1⊢;cases e
  ·exact(IB h1).trans rfl
  ·exact(IB h1).trans rfl
 have hg:=h2 (bif e then .eql else .neq) x y;unfold execOp;dsimp only;rw[IB ((IB hg).trans hb)]
 rfl
theorem AEZ(hZ:Zf P){o:Oper}{x y:Operand}{f:Int->Int->Int}{K:OpK}(h:AAN P o x y (AHr f)=.mk K)
  (hf:∀(ρ':Operand->Value)(m n:Int)(w:World),ρ' x=.int .i64 m->ρ' y=.int .i64 n->(execOp ρ' o).run P w=.ok (.value (.int .i64 (IntKind.i64.wrap (f m n)))) w) (hns:∀t x lo hi mx,o.op≠.slice t x lo hi mx:=by intro _ _ _ _ _ e;cases e):OpS P w0 K o:=
 AGX hZ h (fun ρ' a b v w hv ha hb=>by
  obtain⟨m,n,rfl,rfl,rfl⟩:=AIK hv;refine⟨hf ρ' m n w ?_ ?_,rfl,rfl,rfl⟩
  ·generalize ρ' x=z at ha;cases ha;rfl
  ·generalize ρ' y=z at hb;cases hb;rfl) (fun a b v hv=>by obtain⟨m,n,rfl,rfl,rfl⟩:=AIK hv;exact⟨rfl,rfl⟩) hns
theorem ACH(hZ:Zf P){o:Oper}{x y:Operand}{f:Int->Int->Bool}{K:OpK}(h:AAN P o x y (AFD f)=.mk K)
  (hf:∀(ρ':Operand->Value)(m n:Int)(w:World),ρ' x=.int .i64 m->ρ' y=.int .i64 n->(execOp ρ' o).run P w=.ok (.value (.bool (f m n))) w) (hns:∀t x lo hi mx,o.op≠.slice t x lo hi mx:=by intro _ _ _ _ _ e;cases e):OpS P w0 K o:=
 AGX hZ h (fun ρ' a b v w hv ha hb=>by
  obtain⟨m,n,rfl,rfl,rfl⟩:=AIL hv;refine⟨hf ρ' m n w ?_ ?_,rfl,rfl,rfl⟩
  ·generalize ρ' x=z at ha;cases ha;rfl
  ·generalize ρ' y=z at hb;cases hb;rfl) (fun a b v hv=>by obtain⟨m,n,rfl,rfl,rfl⟩:=AIL hv;exact⟨rfl,rfl⟩) hns
theorem AMg{t:TypeId}{a a':Addr}{A:AH}{w:World}{o:Oper}{ρ':Operand->Value}{x:Operand}{v:Value}(ho:o.op=.load t x)(hx:ρ' x=.pointer (some a'))(ha:VR E (.pointer (some a)) (.pointer (some a')))(hH:HR w0 E A w)
  (hl:∃A',Jr P (Go.loadVar t a) A=some (v,A')/\A'=A):AD2 P w0 E o ρ' w v A:=by
 obtain⟨A',hl,rfl⟩:=hl;obtain⟨E',v',w',h1,h2,h3,h4⟩:=Sim.loadVar ha E A' w En.le_rfl hH v A' hl;refine⟨E',v',w',.inl ?_,h1,h3,h4⟩;obtain⟨dst,op,ty,pos,af,gd⟩:=o;dsimp only at ho;subst ho;show(do let z<-Instr.loadAt t (ρ' x);Pure.pure (Next.value z):Sem Next).run P w=_;unfold Instr.loadAt;rw[hx];exact IB ((IB (s:=(Pure.pure a':Sem Addr)) rfl).trans h2)
theorem AHK{t:TypeId}{A:AH}(h:P.underlying t≠none):Jr P (isAgg t) A=some (AFg P t,A):=by
 unfold isAgg underlying;rw[MW,MW];simp only[Go.program,Jr];cases hu:P.underlying t with
 |none=>exact absurd hu h
 |some d=>cases d<;>simp[AFg,hu]<;>rfl
theorem AIN{t:TypeId}{A:AH}{i:TypeInfo}(h:P.info? t=some i):Jr P (sizeOf t) A=some (P.cellsOf t,A):=by
 unfold sizeOf typeInfo;rw[MW,MW];simp only[Go.program,Jr];rw[h];simp[Program.cellsOf,h]
 rfl
theorem AJL{t:TypeId}{d:TypeDesc}(h:P.underlying t=some d):∃i,P.info? t=some i:=by
 unfold Program.underlying at h;split at h
 ·exact⟨_,by assumption⟩
 ·exact⟨_,by assumption⟩
 ·cases h
end
end
section
section
variable {P:Program}{w0:W0}{E:En}{α β:Type}
theorem AFH{t:TypeId}{n:Nat}(h:P.cellsOf t=n+1):∃i,P.info? t=some i/\i.size=n+1:=by
 unfold Program.cellsOf at h;cases hi:P.info? t with
 |none=>rw[hi]at h;cases h
 |some i=>rw[hi]at h;exact⟨i,rfl,h⟩
theorem AFI{t:TypeId}{i:TypeInfo}{w:World}(h:P.info? t=some i):(sizeOf t).run P w=.ok (P.cellsOf t) w:=by
 exact(Q.size _ _ _ (AIN (A:=⟨0,.lf⟩) h)).2 w
theorem AHw{b o:Nat}(n:Nat):(⟨b,o,none⟩:Addr).add n=⟨b,o+n,none⟩:=by
 unfold Addr.add;split
 ·rename_i h;rw[h];rfl
 ·rfl
theorem ALg{A:AH}{b o:Nat}{cs:List Value}{e:TypeId}{g:Nat}(hb:YA A.t b=some (.cells cs e g))(n:Nat):∀(i:Nat)(acc:Array Value),((cs.drop (o+i)).take n).length=n->
  Jr P (Go.loadCellsFrom ⟨b,o,none⟩ i n acc) A=some ((acc.toList++(cs.drop (o+i)).take n).toArray,A):=by
 induction n with
 |zero=>intro i acc _;unfold Go.loadCellsFrom;show some (acc,A)=_;simp
 |succ n ih=>
  intro i acc h;unfold Go.loadCellsFrom;have hlt:o+i<cs.length:=by simp at h;omega
  rw[MW,AHw];have hl:Jr P (Go.load ⟨b,o+i,none⟩) A=some (cs[o+i],A):=by
   simp only[Go.load,Jr,AH.load,hb,List.getElem?_eq_getElem hlt]
  rw[hl];dsimp only;rw[ih (i+1) _ (by simp at h⊢;omega)]
  congr 2
  rw[List.drop_eq_getElem_cons hlt];simp[Nat.add_assoc]
theorem AHL{A:AH}{a:Addr}{n:Nat}{v:Value}(h:ABU A a n=some v):∃c,v=.agg c/\Jr P (Go.loadCells a n) A=some (c,A):=by
 obtain⟨b,o,s⟩:=a;cases s with
 |some s=>cases h
 |none=>
  unfold ABU at h;dsimp only at h;split at h
  ·rename_i cs e g hb
   split at h
   ·rename_i hl
    cases h;refine⟨_,rfl,?_⟩;have:=ALg (P:=P) (o:=o) hb n 0 #[] (by simpa using Nat.eq_of_beq_eq_true hl);simpa[Go.loadCells]using this
   ·cases h
  ·cases h
theorem AHM{t:TypeId}(hu:P.underlying t≠none){A:AH}{a:Addr}{v:Value}(h:(match AFg P t with|true=>ABU A a (P.cellsOf t)|false=>A.load a)=some v):∃A',Jr P (Go.loadVar t a) A=some (v,A')/\A'=A:=by
 refine⟨A,?_,rfl⟩;unfold Go.loadVar;rw[MW,AHK hu];dsimp only;cases hg:AFg P t with
 |true=>
  rw[hg]at h;obtain⟨c,rfl,hc⟩:=AHL (P:=P) h;obtain⟨d,hd⟩:=Option.ne_none_iff_exists'.1 hu;obtain⟨i,hi⟩:=AJL hd;rw[if_pos rfl,MW,AIN hi];dsimp only;rw[MW,hc]
  rfl
 |false=>
  rw[hg]at h;dsimp only at h;simp only[Bool.false_eq_true,if_false,Go.load,Jr,h]
theorem ADm{a:Addr}{z:Value}(h:VR E (.pointer (some a)) z):∃a',z=.pointer (some a'):=by cases h;exact⟨_,rfl⟩
theorem AHx{t:TypeId}{d:TypeDesc}{w:World}(h:P.underlying t=some d):(underlying t).run P w=.ok d w:=by
 have:Jr P (underlying t) (⟨0,.lf⟩:AH)=some (d,⟨0,.lf⟩):=by
  unfold underlying;rw[MW];simp only[Go.program,Jr];rw[h]
  rfl
 exact(Q.und _ _ _ this).2 w
theorem AJM{I:OK}{sz len:Nat}{a:Addr}{T:TP}{A A':AH}{v:Value}{i:Operand}{act:Act}(h:ixK I sz a len T A=.ok v A')(hI:AB7 i=.mk I)(hT:TR E T act.tmps):
  ∃k b o n,a=⟨b,o,none⟩/\act.eval i=.int k (Int.ofNat n)/\n<len/\v=.pointer (some ⟨b,o+n*sz,none⟩)/\A'=A:=by
 unfold ixK at h;split at h
 ·rename_i k n hi
  split at h
  ·rename_i hlt
   split at h
   ·cases h
    have:=yV hI hi hT;generalize act.eval i=z at this;cases this;exact⟨k,_,_,n,rfl,rfl,by simpa[Nat.blt_eq]using hlt,rfl,rfl⟩
   ·cases h
  ·cases h
 ·cases h
theorem AHN{m n:Int}:(!decide (n<=m))=decide (m<n):=by
 rw[<-decide_not];exact decide_eq_decide.2 Int.not_le
theorem AJN{o:Oper}{ρ':Operand->Value}{w:World}{A:AH}{t:TypeId}{c:List Value}{c':Array Value}(h:(execOp ρ' o).run P w=.ok (.value (.pointer (some ⟨w.heap.size,0,none⟩))) (w.alloc (.cells c' t (0,0))))
  (hc:VRs E c c'.toList) (hH:HR w0 E A w):AD2 P w0 E o ρ' w (.pointer (some ⟨A.next,0,none⟩)) (A.push (.cells c t 0)):=by
 refine⟨_,_,_,.inl h,En.le_put hH.fresh,.ptr (g:=(0,0,c'.size)) rfl rfl En.put_same,hH.push ⟨[],c'.toList,[],?_,rfl,hc.mono (En.le_put hH.fresh),rfl,by simp,fun _=>⟨rfl,rfl⟩⟩⟩;rw[ABp];simp
def AJO:Op->Bool
 |.call {callee:=.value _,..}=>false
 |_=>true
theorem AJ2(hZ:Zf P){o:Oper}{K:OpK}(h:AG4 P o=.mk K)(hc:AJO o.op=true)(hns:∀t x lo hi mx,o.op≠.slice t x lo hi mx):OpS P w0 K o:=by
 obtain⟨dst,op,ty,pos,af,gd⟩:=o;unfold AG4 at h;dsimp only at h hc hns;split at h
 case h_1 x=>
  cases h;intro ca rd E T A a w v A' hT hH hK;obtain⟨u,hu,hk⟩:=vW hK hT;cases hk;exact xR rfl hu hH
 case h_2 x=>
  cases h;intro ca rd E T A a w v A' hT hH hK;obtain⟨u,hu,hk⟩:=vW hK hT;cases hk;exact xR rfl hu hH
 case h_3=>exact AEZ hZ h fun ρ' m n w hx hy=>by simp[execOp,hx,hy,eqGuard,Go.binOp,Op.intArith]
 case h_4=>exact AEZ hZ h fun ρ' m n w hx hy=>by simp[execOp,hx,hy,eqGuard,Go.binOp,Op.intArith];rfl
 case h_5=>exact AEZ hZ h fun ρ' m n w hx hy=>by simp[execOp,hx,hy,eqGuard,Go.binOp,Op.intArith]
 case h_6=>exact ACH hZ h fun ρ' m n w hx hy=>by rw[AHI,AHN];simp[execOp,hx,hy,eqGuard,Go.binOp,Op.intCmp]
 case h_7=>exact ACH hZ h fun ρ' m n w hx hy=>by rw[AHI];simp[execOp,hx,hy,eqGuard,Go.binOp,Op.intCmp]
 case h_8=>exact ACH hZ h fun ρ' m n w hx hy=>by rw[AHI,AHN];simp[execOp,hx,hy,eqGuard,Go.binOp,Op.intCmp]
 case h_9=>exact ACH hZ h fun ρ' m n w hx hy=>by rw[AHI];simp[execOp,hx,hy,eqGuard,Go.binOp,Op.intCmp]
 case h_10=>
  split at h
  ·rename_i hu
   exact AIM hZ (e:=true) hu h
  ·exact ACH hZ h fun ρ' m n w hx hy=>by rw[AEt];simp[execOp,hx,hy,eqGuard,Go.binOp,Op.intCmp];rfl
 case h_11=>
  split at h
  ·rename_i hu
   exact AIM hZ (e:=false) hu h
  ·exact ACH hZ h fun ρ' m n w hx hy=>by rw[AEt];simp[execOp,hx,hy,eqGuard,Go.binOp,Op.intCmp];rfl
 case h_12 c x y=>
  cases h;intro ca rd E T A a w v A' hT hH hK;obtain⟨u,hu,hk⟩:=vW hK hT;split at hk
  ·obtain⟨u2,hu2,hk⟩:=vW hk hT
   cases hk;refine xR ?_ hu2 hH;generalize hz:a.eval c=z at hu;cases hu;simp[execOp,hz]
   rfl
  ·obtain⟨u2,hu2,hk⟩:=vW hk hT
   cases hk;refine xR ?_ hu2 hH;generalize hz:a.eval c=z at hu;cases hu;simp[execOp,hz]
   rfl
  ·cases hk
 case h_13 x=>
  cases h;intro ca rd E T A a w v A' hT hH hK;obtain⟨u,hu,hk⟩:=vW hK hT;split at hk
  ·cases hk
   obtain⟨a',ha⟩:=ADm hu;rw[ha]at hu;refine xR (v':=.pointer (some a')) ?_ hu hH;simp[execOp,ha]
  ·cases hk
 case h_14 t x=>
  split at h
  ·cases h
  ·rename_i d hd
   have hun:P.underlying t≠none:=by rw[hd];exact fun e=>by cases e
   have key:∀(ca:vK)(rd:aZ)(E:En)(T:TP)(A:AH)(a:Act)(w:World)(u v:Value)(A':AH)(a0:Addr),HR w0 E A w->VR E u (a.eval x)->u=.pointer (some a0)->
     (match AFg P t with|true=>ABU A a0 (P.cellsOf t)|false=>A.load a0)=some v->A'=A->AD2 P w0 E ⟨dst,.load t x,ty,pos,af,gd⟩ a.eval w v A':=by
    intro ca rd E T A a w u v A' a0 hH hu e hl e2;subst e e2;obtain⟨a',ha⟩:=ADm hu;rw[ha]at hu;exact AMg rfl ha hu hH (AHM hun hl)
   split at h
   ·rename_i hg
    split at h
    ·cases h
    ·rename_i n hn
     cases h;intro ca rd E T A a w v A' hT hH hK;obtain⟨u,hu,hk⟩:=vW hK hT;split at hk
     ·rename_i a0
      unfold ret1 at hk;split at hk
      ·rename_i v' hv
       cases hk;exact key ca rd E T A a w _ v A a0 hH hu rfl (by rw[hg,hn];exact hv) rfl
      ·cases hk
     ·cases hk
   ·rename_i hg
    cases h;intro ca rd E T A a w v A' hT hH hK;obtain⟨u,hu,hk⟩:=vW hK hT;split at hk
    ·rename_i a0
     unfold ret1 at hk;split at hk
     ·rename_i v' hv
      cases hk;exact key ca rd E T A a w _ v A a0 hH hu rfl (by rw[hg];exact hv) rfl
     ·cases hk
    ·cases hk
 case h_15 t x i=>
  split at h
  ·rename_i e he
   split at h
   ·cases h
   ·rename_i sz hsz
    cases h;intro ca rd E T A a w v A' hT hH hK;obtain⟨u,hu,hk⟩:=vW hK hT;split at hk
    ·rename_i a0 len cap
     obtain⟨I,h1,h2⟩:=KN hk (by intro e;cases e);obtain⟨k,b,o,n,rfl,hi,hlt,rfl,rfl⟩:=AJM h2 h1 hT;obtain⟨inf,hinf,_⟩:=AFH hsz;generalize hz:a.eval x=z at hu;cases hu with
     |sl0=>omega
     | @sl _ a' g _ _ c' q1 q2 q3 q4 q5 q6=>
      refine xR (v':=.pointer (some (a'.add (n*(sz+1))))) ?_ ?_ hH
      ·simp[execOp,hz,hi,Instr.indexAt,asIntOf,AHx he,hlt,AFI hinf,hsz]
      ·have:=(VR.ptr q1 q2 q3:VR E (.pointer (some ⟨b,o,none⟩)) (.pointer (some a'))).padd (n*(sz+1))
       rwa [AHw]at this
    ·cases hk
  ·rename_i n0 e he
   split at h
   ·cases h
   ·rename_i sz hsz
    cases h;intro ca rd E T A a w v A' hT hH hK;obtain⟨u,hu,hk⟩:=vW hK hT;split at hk
    ·rename_i a0
     obtain⟨I,h1,h2⟩:=KN hk (by intro e;cases e);obtain⟨k,b,o,n,rfl,hi,hlt,rfl,rfl⟩:=AJM h2 h1 hT;obtain⟨inf,hinf,_⟩:=AFH hsz;obtain⟨a',hz⟩:=ADm hu;rw[hz]at hu;refine xR (v':=.pointer (some (a'.add (n*(sz+1))))) ?_ ?_ hH
     ·simp[execOp,hz,hi,Instr.indexAt,asIntOf,Instr.sureAddr,AHx he,hlt,AFI hinf,hsz]
     ·have:=hu.padd (n*(sz+1))
      rwa [AHw]at this
    ·cases hk
  ·cases h
 case h_16 t x f=>
  split at h
  ·rename_i fs hfs
   split at h
   ·rename_i fd hfd
    split at h
    ·cases h
    ·rename_i hne
     have hcz:P.cellsOf fd.type≠0:=fun e=>hne e;obtain⟨m,hm⟩:=Nat.exists_eq_succ_of_ne_zero hcz;obtain⟨inf,hinf,_⟩:=AFH hm;have run:∀(ρ':Operand->Value)(a':Addr)(w:World),ρ' x=.pointer (some a')->(execOp ρ' ⟨dst,.fieldAddr t x f,ty,pos,af,gd⟩).run P w=.ok (.value (.pointer (some (a'.add fd.offset)))) w:=by
      intro ρ' a' w hz;simp[execOp,hz,Instr.fieldAt,Instr.sureAddr,AHx hfs,hfd,fieldPlace,AFI hinf,hcz]
     split at h
     ·rename_i h0
      cases h;intro ca rd E T A a w v A' hT hH hK;obtain⟨u,hu,hk⟩:=vW hK hT;split at hk
      ·cases hk
       obtain⟨a',hz⟩:=ADm hu;rw[hz]at hu;refine xR (run _ a' w hz) ?_ hH;have:=hu.padd 0;rw[h0];exact hu.padd 0
      ·cases hk
     ·rename_i off hoff
      cases h;intro ca rd E T A a w v A' hT hH hK;obtain⟨u,hu,hk⟩:=vW hK hT;split at hk
      ·rename_i b o
       cases hk;obtain⟨a',hz⟩:=ADm hu;rw[hz]at hu;refine xR (run _ a' w hz) ?_ hH;rw[hoff];have:=hu.padd (off+1);rwa [AHw]at this
      ·cases hk
   ·cases h
  ·cases h
 case h_17 t=>
  split at h
  ·rename_i z hz
   cases h;intro ca rd E T A a w v A' hT hH hK;cases A with|mk n tr=>
   cases hK;cases hi:P.info? t with
   |none=>rw[hi]at hz;cases hz
   |some inf=>
    rw[hi]at hz;have hz':inf.zero=some z:=hz;refine AJN (A:=⟨n,tr⟩) (c':=z.cells) ?_ (ABV (hZ _ _ _ hi hz')).cells hH;have hzr:(zeroValue t).run P w=.ok z w:=by
     unfold zeroValue typeInfo;rw[Sem.run_bind,Sem.run_bind];show Result.andThen (Result.andThen (Go.program.run P w) _) _=_;simp only[Go.program,Sem.run,Result.andThen];rw[hi];show(match inf.zero with|some v=>(Pure.pure v:Sem Value)|none=>unsupported _).run P w=_;rw[hz']
     rfl
    show(do let z<-Instr.alloc t true (.tuple #[]);Pure.pure (Next.value z):Sem Next).run P w=_;unfold Instr.alloc;exact IB ((IB hzr).trans rfl)
  ·cases h
 case h_18 t x=>
  cases h;intro ca rd E T A a w v A' hT hH hK;obtain⟨u,hu,hk⟩:=vW hK hT;cases A with|mk n tr=>
  cases hk;exact AJN (A:=⟨n,tr⟩) (c':=(a.eval x).cells) rfl hu.cells hH
 case h_19 x i=>
  cases h;intro ca rd E T A a w v A' hT hH hK;obtain⟨u,hu,hk⟩:=vW hK hT;split at hk
  ·rename_i vs
   unfold ret1 at hk;split at hk
   ·rename_i v' hv
    cases hk;generalize hz:a.eval x=z at hu;cases hu with| @tuple _ c' hc=>
    obtain⟨v2,q1,q2⟩:=hc.get hv;refine xR (v':=v2) ?_ q2 hH;have:c'[i]?=some v2:=by simpa using q1
    simp[execOp,hz,Instr.extract,this]
   ·cases hk
  ·cases hk
 case h_20=>cases hc
 case h_21=>cases hc
 case h_22=>exact ADb hZ h hns
end
end
section
section
variable {P:Program}{w0:W0}{E:En}{α β:Type}
theorem AHO{A:AH}{a:Addr}{k:Nat}{c:Array Value}(h:ABU A a k=some (.agg c)):c.size=k:=by
 obtain⟨b,o,s⟩:=a;cases s with
 |some s=>cases h
 |none=>
  unfold ABU at h;dsimp only at h;split at h
  ·split at h
   ·rename_i hl
    cases h;have:=Nat.eq_of_beq_eq_true hl;simpa using this
   ·cases h
  ·cases h
theorem AHP{A:AH}{a a':Addr}{k:Nat}{c:Array Value}{w:World}(h:ABU A a k=some (.agg c))(ha:VR E (.pointer (some a)) (.pointer (some a')))(hH:HR w0 E A w):
  ∃(E1:En)(c':Array Value)(w1:World),(Go.loadCells a' k).run P w=.ok c' w1/\En.le E E1/\VRs E1 c.toList c'.toList/\HR w0 E1 A w1:=by
 obtain⟨c0,e,hc⟩:=AHL (P:=P) h;cases e;obtain⟨E1,c',w1,h1,h2,h3,h4⟩:=Sim.loadCells ha k E A w En.le_rfl hH _ _ hc;exact⟨E1,c',w1,h2,h1,h3,h4⟩
theorem AFj{xb:Option Addr}{n m xc:Nat}{new:Array Value}{A:AH}{x':Value}{w:World}(h:ADy A xb n (Nat.mul n m)=some (.agg new))(hx:VR E (.slice xb n xc) x')(hH:HR w0 E A w):
  ∃(E1:En)(c':Array Value)(w1:World),(Builtin.firstCells m n x').run P w=.ok c' w1/\En.le E E1/\VRs E1 new.toList c'.toList/\HR w0 E1 A w1/\new.size=n*m/\Builtin.lenOf x'=Pure.pure n:=by
 unfold ADy at h;split at h
 ·rename_i a
  have hs:new.size=n*m:=AHO h;cases hx with
  |sl q1 q2 q3 q4 q5 q6=>
   obtain⟨E1,c',w1,h1,h2,h3,h4⟩:=AHP (P:=P) h (.ptr q1 q2 q3) hH;exact⟨E1,c',w1,h1,h2,h3,h4,hs,rfl⟩
  |sl0 q3 q5 q2=>
   rw[Nat.zero_mul]at hs;have:new=#[]:=Array.eq_empty_of_size_eq_zero hs;subst this;refine⟨E,#[],w,?_,En.le_rfl,.nil,hH,by simp,rfl⟩;unfold Builtin.firstCells;rw[Nat.zero_mul]
   rfl
 ·split at h
  ·rename_i hn
   cases h;have hn:=Nat.eq_of_beq_eq_true hn;subst hn;cases hx;exact⟨E,#[],w,rfl,En.le_rfl,.nil,hH,by simp,rfl⟩
  ·cases h
theorem AEa{a:Addr}(n:Nat):∀{i:Nat}{acc c:Array Value}{w w1:World},(Go.loadCellsFrom a i n acc).run P w=.ok c w1->w1=w:=by
 induction n with
 |zero=>intro i acc c w w1 h;cases h;rfl
 |succ n ih=>
  intro i acc c w w1 h;unfold Go.loadCellsFrom at h;rw[Sem.run_bind]at h;have hl:∀r,(Go.load (a.add i)).run P w=r->(∃v,r=.ok v w)\/∃h,r=.halt h w:=by
   intro r hr;subst hr;unfold Go.load;simp only[Sem.run];split
   ·exact .inl ⟨_,rfl⟩
   ·split
    ·exact .inl ⟨_,rfl⟩
    ·exact .inr ⟨_,rfl⟩
  rcases hl _ rfl with⟨v,hv⟩|⟨x,hv⟩
  ·rw[hv]at h;exact ih h
  ·rw[hv]at h;cases h
theorem AEb{m n:Nat}{x:Value}{c:Array Value}{w w1:World}(h:(Builtin.firstCells m n x).run P w=.ok c w1):w1=w:=by
 unfold Builtin.firstCells at h;split at h
 ·exact AEa _ h
 ·cases h;rfl
 ·cases h;rfl
 ·cases h
section
variable {t tx ty e e2:TypeId}{i:TypeInfo}{base:Option Addr}{sLen sCap n:Nat}{x:Value}{c olds:Array Value}{w w2:World}
theorem AFJ(ht:P.underlying t=some (.slice e))(hk:P.underlying tx=some (.slice e2))(hi:P.info? e=some i)(hl:Builtin.lenOf x=Pure.pure n)(hroom:sLen+n<=sCap)
  (hc:(Builtin.firstCells i.size n x).run P w=.ok c w) (hst:(match base with|some a=>Go.storeCells (a.add (sLen*i.size)) c.toList|none=>Pure.pure ()).run P w=.ok () w2):
  (Builtin.append_ #[t,tx] ty #[.slice base sLen sCap,x]).run P w=.ok (.slice base (sLen+n) sCap) w2:=by
 cases base with
 |none=>cases hst;simp[Builtin.append_,run_underlying ht,run_underlying hk,sizeOf,typeInfo,hi,hl,hroom,hc]
 |some a=>simp[Builtin.append_,run_underlying ht,run_underlying hk,sizeOf,typeInfo,hi,hl,hroom,hc,hst]
theorem grow_run{z:Value}(ht:P.underlying t=some (.slice e))(hk:P.underlying tx=some (.slice e2))(hi:P.info? e=some i)(hz:i.zero=some z)(hl:Builtin.lenOf x=Pure.pure n)(hg:sCap<sLen+n)
  (hold:(Builtin.firstCells i.size sLen (.slice base sLen sCap)).run P w.drew=.ok olds w.drew) (hc:(Builtin.firstCells i.size n x).run P w.drew=.ok c w.drew)
  (h20:sLen+n<1048576) (hb:i.bytes<1048576) (hb0:0<i.bytes):
  (Builtin.append_ #[t,tx] ty #[.slice base sLen sCap,x]).run P w=
   .ok (.slice (some ⟨w.heap.size,0,none⟩) (sLen+n) (grownCap w (sLen+n) sCap e))
    (w.drew.alloc (.cells (olds++c++Builtin.zeroCells z.cells (grownCap w (sLen+n) sCap e-(sLen+n))) e)):=by
 have hn:¬(sLen+n<=sCap):=by omega
 have h63':¬(9223372036854775807<((sLen:Int)+(n:Int))):=by omega
 have hfit:Builtin.nextslicecap (sLen+n) sCap*i.bytes<=281474976710656:=growslice_fits hg (Nat.le_trans (Nat.mul_le_mul (Nat.le_of_lt h20) (Nat.le_of_lt hb)) (by omega));have h48':¬(281474976710656<Builtin.nextslicecap (sLen+n) sCap*i.bytes):=by omega
 simp[Builtin.append_,run_underlying ht,run_underlying hk,sizeOf,typeInfo,zeroValue,hi,hz,hl,hn,h63',h48',Question.forced,hc,hold,newRow,grownCap]
end
end
end
section
section
variable {P:Program}{w0:W0}{E:En}{α β:Type}
theorem AQn{v v':Value}(h:VR E v v')(ho:one v=true):(∀c,v'≠.agg c)/\∀c,v'≠.tuple c:=by
 constructor<;>intro c e<;>subst e<;>cases h<;>cases ho
theorem AJ3{L vs:List Value}{o i:Nat}{v:Value}(h:o+i<L.length):
  (L.set (o+i) v).take (o+(i+1))++vs++(L.set (o+i) v).drop (o+(i+1)+vs.length)=L.take (o+i)++(v::vs)++L.drop (o+i+(v::vs).length):=by
 have e0:o+(i+1)=(o+i)+1:=by omega
 rw[e0];generalize o+i=k at*
 have e1:(L.set k v).take (k+1)=L.take k++[v]:=by
  rw[List.take_succ_eq_append_getElem (by simpa using h)];simp[List.take_set_of_le]
 have e2:(L.set k v).drop (k+1+vs.length)=L.drop (k+(v::vs).length):=by
  rw[List.drop_set_of_lt (by omega)];simp only[List.length_cons]
  congr 1
  omega
 rw[e1,e2];simp
theorem ALh{b:Nat}{e:TypeId}(vs:List Value):∀(o i:Nat)(L:List Value)(w:World),w.heap[b]?=some (.cells L.toArray e (0,0))->(∀u∈vs,(∀c,u≠.agg c)/\∀c,u≠.tuple c)->o+i+vs.length<=L.length->
  ∃w2,(Go.storeCells ⟨b,o,none⟩ vs i).run P w=.ok () w2/\w2.heap[b]?=some (.cells (L.take (o+i)++vs++L.drop (o+i+vs.length)).toArray e (0,0))/\w2.heap.size=w.heap.size/\(∀k,k≠b->w2.heap[k]?=w.heap[k]?)/\
   w2.os=w.os/\w2.tape=w.tape/\w2.output=w.output:=by
 induction vs with
 |nil=>intro o i L w hb _ _;exact⟨w,rfl,by simpa using hb,rfl,fun _ _=>rfl,rfl,rfl,rfl⟩
 |cons v vs ih=>
  intro o i L w hb h1 hl;simp only[List.length_cons]at hl;have hlt:o+i<L.length:=by omega
  obtain⟨n1,n2⟩:=h1 v (by simp);have hc:w.cell? ⟨b,o+i,none⟩=some L[o+i]:=by
   simp only[World.cell?,hb];simp[hlt]
  have hst:(Go.store ⟨b,o+i,none⟩ v).run P w=.ok () (w.setCell ⟨b,o+i,none⟩ v):=by
   cases v<;>first|exact absurd rfl (n1 _)|exact absurd rfl (n2 _)|simp[Go.store,Sem.run,hc,AKb hb]
  have hb2:(w.setCell ⟨b,o+i,none⟩ v).heap[b]?=some (.cells (L.set (o+i) v).toArray e (0,0)):=by
   simp only[World.setCell,Array.getElem?_modify,if_true,hb];simp
  obtain⟨w2,k1,k2,k3,k4,k5,k6,k7⟩:=ih o (i+1) (L.set (o+i) v) _ hb2 (fun u hu=>h1 u (by simp[hu])) (by simp;omega);refine⟨w2,?_,?_,by rw[k3,World.size_setCell],fun k hk=>(k4 k hk).trans ?_,k5,k6,k7⟩
  ·unfold Go.storeCells
   rw[AHw];exact(IB hst).trans k1
  ·rw[k2]
   rw[AJ3 hlt]
  ·simp only[World.setCell,Array.getElem?_modify]
   rw[if_neg (fun e=>hk e.symm)]
theorem HR.kill{A:AH}{w:World}(h:HR w0 E A w)(b:Nat):HR w0 E (A.put b .dead) w:=by
 refine⟨h.ext,h.len,h.base,?_,?_,h.hole⟩
 ·intro c x c' g hc hE
  rcases AAy hc with⟨rfl,rfl⟩|⟨_,hc⟩
  ·trivial
  ·exact h.obj _ _ _ _ hc hE
 ·intro c d x y c' g1 g2 hc hd hx hy h4 h5
  rcases AAy hc with⟨rfl,rfl⟩|⟨_,hc⟩
  ·cases hx
  ·rcases AAy hd with⟨rfl,rfl⟩|⟨_,hd⟩
   ·cases hy
   ·exact h.inj _ _ _ _ _ _ _ hc hd hx hy h4 h5
theorem HR.again{A:AH}{w w2:World}(h:HR w0 E A w){b b':Nat}{g g2:Nat×Nat×Nat}{p o:AO}(hb:YA A.t b=some p)(hp:p.alive=true)(hE:E b=some (b',g))
  (ho:OR (E.put A.next (b',g2)) g2 w2 b' o) (hs:w2.heap.size=w.heap.size) (hoth:∀k,k≠b'->w2.heap[k]?=w.heap[k]?) (h1:w2.os=w.os) (h2:w2.tape=w.tape) (h3:w2.output=w.output):
  HR w0 (E.put A.next (b',g2)) ((A.put b .dead).push o) w2:=by
 have hle:En.le E (E.put A.next (b',g2)):=En.le_put h.fresh;have hbb:=h.base _ _ _ hE;have old:∀{c x},c≠A.next->E.put A.next (b',g2) c=some x->E c=some x:=fun hc hx=>by unfold En.put at hx;rwa [if_neg hc]at hx
 have gt:∀{c x},YA ((A.put b .dead).push o).t c=some x->(c=A.next/\x=o)\/(c=b/\x=.dead)\/(c≠A.next/\c≠b/\YA A.t c=some x):=by
  intro c x hc;rcases AAy hc with⟨e1,e2⟩|⟨n1,hc⟩
  ·exact .inl ⟨e1,e2⟩
  ·rcases AAy hc with⟨e1,e2⟩|⟨n2,hc⟩
   ·exact .inr (.inl ⟨e1,e2⟩)
   ·exact .inr (.inr ⟨n1,n2,hc⟩)
 refine⟨⟨h1.trans h.ext.os,h2.trans h.ext.tape,h3.trans h.ext.output,by rw[hs];exact h.ext.size,fun k hk=>(hoth k (by omega)).trans (h.ext.block k hk)⟩,?_,?_,?_,?_,?_⟩
 ·intro c x hc
  by_cases e:c=A.next
  ·rw[e];exact Nat.lt_succ_self _
  ·exact Nat.lt_succ_of_lt (h.len _ _ (old e hc))
 ·intro c c' g' hc
  rw[hs];by_cases e:c=A.next
  ·subst e;rw[En.put_same]at hc;cases hc;exact hbb
  ·exact h.base _ _ _ (old e hc)
 ·intro c x c' g' hc hEc
  rcases gt hc with⟨rfl,rfl⟩|⟨rfl,rfl⟩|⟨n1,n2,hc⟩
  ·rw[En.put_same]at hEc;cases hEc;exact ho
  ·trivial
  ·have hE2:=old n1 hEc
   refine((h.obj _ _ _ _ hc hE2).mono hle).same fun hal=>hoth _ fun e=>n2 ?_;rw[e]at hE2;exact h.inj _ _ _ _ _ _ _ hc hb hal hp hE2 hE
 ·intro c d x y c' g3 g4 hc hd hx hy h4 h5
  rcases gt hc with⟨e1,e2⟩|⟨e1,e2⟩|⟨n1,n2,hc2⟩
  ·rcases gt hd with⟨e3,e4⟩|⟨e3,e4⟩|⟨n3,n4,hd2⟩
   ·rw[e1,e3]
   ·rw[e4]at hy;cases hy
   ·rw[e1,En.put_same]at h4;cases h4
    exact absurd (h.inj _ _ _ _ _ _ _ hd2 hb hy hp (old n3 h5) hE) n4
  ·rw[e2]at hx;cases hx
  ·rcases gt hd with⟨e3,e4⟩|⟨e3,e4⟩|⟨n3,n4,hd2⟩
   ·rw[e3,En.put_same]at h5;cases h5
    exact absurd (h.inj _ _ _ _ _ _ _ hc2 hb hx hp (old n1 h4) hE) n2
   ·rw[e4]at hy;cases hy
   ·exact h.inj _ _ _ _ _ _ _ hc2 hd2 hx hy (old n1 h4) (old n3 h5)
 ·intro c hc
  obtain⟨h8,h9⟩:=h.hole c hc;refine⟨Nat.lt_succ_of_lt h8,?_⟩;unfold En.put;rw[if_neg (by omega)];exact h9
def AJP(P:Program)(w0:W0)(E:En)(t tx ty:TypeId)(s' x':Value)(w:World)(v:Value)(A':AH):Prop:=
 ∃(E':En)(v':Value)(w':World),(Builtin.append_ #[t,tx] ty #[s',x']).run P w=.ok v' w'/\En.le E E'/\VR E' v v'/\HR w0 E' A' w'
section
variable {t tx ty e e2:TypeId}{i:TypeInfo}{z:Value}{base xb:Option Addr}{sLen sCap n xc:Nat}{s' x':Value}{new:Array Value}{A A':AH}{v:Value}{w:World}
theorem ALi(ht:P.underlying t=some (.slice e))(hk:P.underlying tx=some (.slice e2))(hi:P.info? e=some i)(hs:VR E (.slice base sLen sCap) s')(hx:VR E (.slice xb n xc) x')(hH:HR w0 E A w)
  (hn:ADy A xb n (Nat.mul n i.size)=some (.agg new)) (hroom:sLen+n<=sCap) (h:ANv P i.size base sLen n sCap new.toList A=.ok v A'):AJP P w0 E t tx ty s' x' w v A':=by
 obtain⟨E1,c,w1,h1,h2,h3,h4,h5,h6⟩:=AFj (P:=P) hn hx hH;have:=AEb h1;subst this;unfold ANv at h;cases hs with
 |nils l cc=>
  cases h;exact⟨E1,_,w1,AFJ ht hk hi h6 hroom h1 rfl,h2,.nils _ _,h4⟩
 | @sl a a' g _ _ c' q1 q2 q3 q4 q5 q6=>
  dsimp only at h;split at h
  ·rename_i u A2 ha
   cases h;obtain⟨E2,u',w2,k1,k2,_,k4⟩:=Sim.storeCells ((VR.ptr q1 q2 (EP h2 q3)).padd (Nat.mul sLen i.size)) h3 0 E1 A w1 En.le_rfl h4 _ _ ha;exact⟨E2,_,w2,AFJ (base:=some a') ht hk hi h6 (by omega) h1 k2,h2.trans k1,.sl q1 q2 (EP (h2.trans k1) q3) q4 q5 hroom,k4⟩
  ·cases h
 | @sl0 a a' g c' q3 q5 q2=>
  dsimp only at h;have hn0:n=0:=by omega
  subst hn0;rw[Nat.zero_mul]at h5;have e1:new=#[]:=Array.eq_empty_of_size_eq_zero h5;subst e1;have e2:c=#[]:=Array.eq_empty_of_size_eq_zero (by have:=h3.length;simpa using this);subst e2;cases h;exact⟨E1,_,w1,AFJ (base:=some a') ht hk hi h6 (Nat.zero_le _) h1 rfl,h2,.sl0 (EP h2 q3) q5 q2,h4⟩
end
end
end
section
section
variable {P:Program}{w0:W0}{E:En}
variable {t tx ty e e2:TypeId}{i:TypeInfo}{z:Value}{base xb:Option Addr}{sLen sCap n xc:Nat}{s' x':Value}{new:Array Value}{A A' B:AH}{v:Value}{w:World}
theorem AMh(z:Array Value)(k:Nat):(Builtin.zeroCells z k).size=k*z.size:=by simp[Builtin.zeroCells]
theorem AD3(ht:P.underlying t=some (.slice e))(hk:P.underlying tx=some (.slice e2))(hi:P.info? e=some i)(hz:i.zero=some z)(hzs:z.cells.size=i.size)(h0:0<i.size)(hb:i.bytes<1048576)(hb0:0<i.bytes)
  (h20:sLen+n<1048576) (hx:VR E (.slice xb n xc) x') (hn:ADy A xb n (Nat.mul n i.size)=some (.agg new)) {base':Option Addr} {cap':Nat} (hs:s'=.slice base' sLen cap') (hcap:cap'<sLen+n) {old:List Value}
  (hold:∃(E1:En)(olds:Array Value),(Builtin.firstCells i.size sLen s').run P w.drew=.ok olds w.drew/\En.le E E1/\VRs E1 old olds.toList/\HR w0 E1 A w.drew) (hol:old.length=sLen*i.size)
  (hB:B=A\/∃b,B=A.put b .dead):AJP P w0 E t tx ty s' x' w (.slice (some ⟨A.next,0,none⟩) (sLen+n) (sLen+n)) (B.push (.cells (old++new.toList) e i.size)):=by
 obtain⟨E1,olds,h1,h2,h3,h4⟩:=hold;obtain⟨E2,c,w1,k1,k2,k3,k4,k5,k6⟩:=AFj (P:=P) hn (hx.mono h2) h4;have:=AEb k1;subst this;subst hs;have hrun:=grow_run (ty:=ty) ht hk hi hz k6 hcap h1 k1 h20 hb hb0;have hge:sLen+n<=grownCap w (sLen+n) cap' e:=grownCap_ge w (sLen+n) cap' e;have hBn:B.next=A.next:=by rcases hB with rfl|⟨b,rfl⟩<;>rfl
 have hHB:HR w0 E2 B w.drew:=by
  rcases hB with rfl|⟨b,rfl⟩
  ·exact k4
  ·exact k4.kill b
 have hcs:c.size=n*i.size:=by have:=k3.length;simp only[Array.length_toList]at this;omega
 have hos:olds.size=sLen*i.size:=by have:=h3.length;simp only[Array.length_toList]at this;omega
 generalize hgc:grownCap w (sLen+n) cap' e=gc at*
 have hZ:(olds++c++Builtin.zeroCells z.cells (gc-(sLen+n))).size=gc*i.size:=by
  rw[Array.size_append,Array.size_append,AMh,hzs,hos,hcs,<-Nat.add_mul,<-Nat.add_mul,Nat.add_sub_cancel' hge]
 have hfr:E2 B.next=none:=hHB.fresh;refine⟨E2.put B.next (w.heap.size,i.size,0,gc*i.size),_,_,hrun,h2.trans (k2.trans (En.le_put hfr)),?_,hHB.push (g:=(i.size,0,gc*i.size)) ⟨[],olds.toList++c.toList,(Builtin.zeroCells z.cells (gc-(sLen+n))).toList,?_,rfl,?_,rfl,?_,?_⟩⟩
 ·rw[<-hBn]
  exact .sl (g:=(i.size,0,gc*i.size)) rfl rfl En.put_same hge (.inr ⟨by omega,by simp⟩) (Nat.le_refl _)
 ·show((w.drew).heap.push _)[w.drew.heap.size]?=_
  simp only[Array.getElem?_push_size,Option.some.injEq,Obj.cells.injEq,and_true];apply Array.ext';simp
 ·exact((h3.mono k2).append k3).mono (En.le_put hfr)
 ·rw[<-hZ];simp
 ·intro e0;dsimp only at e0;omega
theorem ALj{A:AH}{a:Addr}{k:Nat}{c:Value}(h:ABU A a k=some c):a.spot=none:=by
 obtain⟨b,o,s⟩:=a;cases s with
 |some s=>cases h
 |none=>rfl
theorem ALk{A:AH}{a:Addr}{k:Nat}{c:Array Value}{cs:List Value}{e:TypeId}{g:Nat}(h:ABU A a k=some (.agg c))(hb:YA A.t a.block=some (.cells cs e g)):
  c.toList=(cs.drop a.off).take k/\((cs.drop a.off).take k).length=k:=by
 obtain⟨b,o,s⟩:=a;cases s with
 |some s=>cases h
 |none=>
  unfold ABU at h;dsimp only at h hb;rw[hb]at h;dsimp only at h;split at h
  ·rename_i hl
   cases h;exact⟨rfl,Nat.eq_of_beq_eq_true hl⟩
  ·cases h
theorem AIO(ht:P.underlying t=some (.slice e))(hk:P.underlying tx=some (.slice e2))(hi:P.info? e=some i)(h0:0<i.size)(hx:VR E (.slice xb n xc) x')(hH:HR w0 E A w)
  (hn:ADy A xb n (Nat.mul n i.size)=some (.agg new)) {a a':Addr} {g:Nat×Nat×Nat} {c':Nat} {cs old:List Value} (hs:s'=.slice (some a') sLen c') (hg:g.1=i.size) (hEa:E a.block=some (a'.block,g))
  (hA:YA A.t a.block=some (.cells cs e i.size)) (hsp:a'.spot=none) (hfit:a'.off+c'*i.size<=g.2.2) (hroom:sLen+n<=c') (hone:new.toList.all one=true)
  (hold:∀p l t:List Value,p.length=g.2.1->VRs E cs l->(p++l++t).length=g.2.2->VRs E old (((p++l++t).drop a'.off).take (sLen*i.size))):
  AJP P w0 E t tx ty s' x' w (.slice (some ⟨A.next,0,none⟩) (sLen+n) (sLen+n)) ((A.put a.block .dead).push (.cells (old++new.toList) e i.size)):=by
 obtain⟨p,l,t3,hheap,hp,hvr,hgr,hlen,hz0⟩:=hH.obj _ _ _ _ hA hEa;obtain⟨E1,c,w1,k1,k2,k3,k4,k5,k6⟩:=AFj (P:=P) hn hx hH;have:=AEb k1;subst this;subst hs;have hcs:c.toList.length=n*i.size:=by have:=k3.length;simp only[Array.length_toList]at this⊢;omega
 have hmul:sLen*i.size+n*i.size<=c'*i.size:=by rw[<-Nat.add_mul];exact Nat.mul_le_mul_right _ hroom
 obtain⟨b',off',sp⟩:=a';dsimp only at hsp hfit hEa;subst hsp;obtain⟨w2,q1,q2,q3,q4,q5,q6,q7⟩:=ALh (P:=P) c.toList (off'+sLen*i.size) 0 (p++l++t3) w1 hheap (fun u hu=>by
  obtain⟨j,hj⟩:=List.mem_iff_getElem?.1 hu;have hlt:j<new.toList.length:=by rw[<-k3.length];exact(List.getElem?_eq_some_iff.1 hj).1
  obtain⟨u',r1,r2⟩:=k3.get (List.getElem?_eq_getElem hlt);rw[hj]at r1;cases r1;exact AQn r2 (List.all_eq_true.1 hone _ (List.getElem_mem hlt))) (by rw[hcs];omega)
 have hlen2:off'<=(p++l++t3).length:=by omega
 have hVo:=hold p l t3 hp hvr hlen;refine⟨E1.put A.next (b',i.size,off',g.2.2),.slice (some ⟨b',off',none⟩) (sLen+n) c',w2,AFJ (base:=some ⟨b',off',none⟩) ht hk hi k6 hroom k1 (by show(Go.storeCells ((⟨b',off',none⟩:Addr).add (sLen*i.size)) c.toList).run P w1=_;rw[AHw];exact q1),k2.trans (En.le_put k4.fresh),?_,?_⟩
 ·exact .sl (g:=(i.size,off',g.2.2)) (by simp) rfl En.put_same hroom (.inr ⟨by omega,hfit⟩) (Nat.le_refl _)
 ·refine k4.again hA rfl (EP k2 hEa) ⟨(p++l++t3).take off',((p++l++t3).drop off').take (sLen*i.size)++c.toList,(p++l++t3).drop (off'+sLen*i.size+0+c.toList.length),?_,?_,?_,rfl,?_,?_⟩ q3 q4 q5 q6 q7
  ·rw[q2,Nat.add_zero,List.take_add]
   congr 3
   simp only[List.append_assoc]
  ·simp only[List.length_take];omega
  ·exact((hVo.mono k2).append k3).mono (En.le_put k4.fresh)
  ·dsimp only
   rw[<-hlen];simp only[List.length_append,List.length_take,List.length_drop,hcs]at hlen hlen2⊢;omega
  ·intro e0;dsimp only at e0;omega
theorem ALl(ht:P.underlying t=some (.slice e))(hk:P.underlying tx=some (.slice e2))(hi:P.info? e=some i)(hz:i.zero=some z)(hzs:z.cells.size=i.size)(h0:0<i.size)(hb:i.bytes<1048576)(hb0:0<i.bytes)
  (h20:sLen+n<1048576) (hs:VR E (.slice base sLen sCap) s') (hx:VR E (.slice xb n xc) x') (hH:HR w0 E A w) (hn:ADy A xb n (Nat.mul n i.size)=some (.agg new)) (hno:¬sLen+n<=sCap)
  (h:ANu e i.size base sLen n new.toList A=.ok v A'):AJP P w0 E t tx ty s' x' w v A':=by
 have fw:∀{a a':Addr}{k:Nat}{c:Array Value},ABU A a k=some (.agg c)->VR E (.pointer (some a)) (.pointer (some a'))->∃(E1:En)(olds:Array Value),(Go.loadCells a' k).run P w.drew=.ok olds w.drew/\En.le E E1/\VRs E1 c.toList olds.toList/\HR w0 E1 A w.drew:=by
  intro a a' k c hl ha;obtain⟨E1,olds,w1,q1,q2,q3,q4⟩:=AHP (P:=P) hl ha hH.drew;have:=AEa _ q1;subst this;exact⟨E1,olds,q1,q2,q3,q4⟩
 unfold ANu at h;split at h
 ·split at h
  ·rename_i he
   have he:=Nat.eq_of_beq_eq_true he;subst he;cases h;cases hs with|nils _ cc=>
   have:=AD3 (old:=[]) (base':=none) (cap':=sCap) ht hk hi hz hzs h0 hb hb0 h20 hx hn rfl (by omega) ⟨E,#[],rfl,En.le_rfl,.nil,hH.drew⟩ (by simp) (.inl rfl) (ty:=ty);simpa using this
  ·cases h
 ·rename_i a
  split at h
  ·rename_i old hl
   have hol:old.toList.length=sLen*i.size:=by simpa using AHO hl
   have hsp:=ALj hl;split at h
   ·rename_i cs e0 hA
    cases h;cases hs with
    | @sl _ a' g _ _ c' q1 q2 q3 q4 q5 q6=>
     obtain⟨p,l,t3,hheap,hp,hvr,hgr,hlen,hz0⟩:=hH.obj _ _ _ _ hA q3;have hc:c'=sCap:=by rcases q5 with q5|⟨q5,_⟩;exact q5;exact absurd hgr.symm q5
     exact AD3 (base':=some a') ht hk hi hz hzs h0 hb hb0 h20 hx hn rfl (by omega) (fw hl (.ptr q1 q2 q3)) hol (.inl rfl)
    | @sl0 _ a' g c' q3 q5 q2=>
     obtain⟨p,l,t3,hheap,hp,hvr,hgr,hlen,hz0⟩:=hH.obj _ _ _ _ hA q3;have hc:c'=0:=by rcases q5 with q5|⟨q5,_⟩;exact q5;exact absurd hgr.symm q5
     have ho:old.toList=[]:=List.length_eq_zero_iff.1 (by rw[hol,Nat.zero_mul]);rw[ho];exact AD3 (old:=[]) (base':=some a') ht hk hi hz hzs h0 hb hb0 h20 hx hn rfl (by omega) ⟨E,#[],by unfold Builtin.firstCells;rw[Nat.zero_mul];rfl,En.le_rfl,.nil,hH.drew⟩ (by simp) (.inl rfl)
   ·rename_i cs e0 k hA
    split at h
    ·rename_i hchk
     simp only[Bool.and_eq_true]at hchk;obtain⟨⟨hm,he0⟩,hone⟩:=hchk;have hm:=Nat.eq_of_beq_eq_true hm;have he0:=Nat.eq_of_beq_eq_true he0;subst he0;rw[show k.succ=i.size from hm]at hA;cases h;have hnx:((A.put a.block .dead)).next=A.next:=rfl;cases hs with
     | @sl _ a' g _ _ c' q1 q2 q3 q4 q5 q6=>
      by_cases hroom:sLen+n<=c'
      ·obtain⟨q7,q8⟩:=q5.resolve_left (by omega)
       obtain⟨p,l,t3,hheap,hp,hvr,hgr,hlen,hz0⟩:=hH.obj _ _ _ _ hA q3;obtain⟨o1,o2⟩:=ALk hl hA;refine AIO ht hk hi h0 hx hH hn rfl hgr.symm q3 hA (by rw[q2];exact hsp) (by rw[hgr];exact q8) hroom hone fun p l t3 hp hv hl=>?_;rw[o1];have hll:=hv.length;simp only[List.length_take,List.length_drop]at o2;have:((p++l++t3).drop a'.off).take (sLen*i.size)=(l.drop a.off).take (sLen*i.size):=by
        simp only[Nat.mul_eq]at o2;by_cases h00:sLen*i.size=0
        ·rw[h00];simp
        ·rw[q1,<-hp,List.append_assoc,Nat.add_comm a.off,<-List.drop_drop,List.drop_left,List.drop_append_of_le_length (by omega),List.take_append_of_le_length (by simp only[List.length_drop];omega)]
       rw[this];exact(hv.drop _).take _
      ·exact AD3 (base':=some a') ht hk hi hz hzs h0 hb hb0 h20 hx hn rfl (by omega) (fw hl (.ptr q1 q2 q3)) hol (.inr ⟨_,rfl⟩)
     | @sl0 _ a' g c' q3 q5 q2=>
      have ho:old.toList=[]:=List.length_eq_zero_iff.1 (by rw[hol,Nat.zero_mul]);rw[ho];by_cases hroom:0+n<=c'
      ·obtain⟨q7,q8⟩:=q5.resolve_left (by omega)
       obtain⟨p,l,t3,hheap,hp,hvr,hgr,hlen,hz0⟩:=hH.obj _ _ _ _ hA q3;refine AIO (old:=[]) ht hk hi h0 hx hH hn rfl hgr.symm q3 hA (q2 hsp) (by rw[hgr];exact q8) hroom hone fun p l t3 hp hv hl=>?_;rw[Nat.zero_mul];exact .nil
      ·exact AD3 (old:=[]) (base':=some a') ht hk hi hz hzs h0 hb hb0 h20 hx hn rfl (by omega) ⟨E,#[],by unfold Builtin.firstCells;rw[Nat.zero_mul];rfl,En.le_rfl,.nil,hH.drew⟩ (by simp) (.inr ⟨_,rfl⟩)
    ·cases h
   ·cases h
  ·cases h
end
end
section
section
variable {P:Program}{w0:W0}{E:En}
theorem ALm{st xt:TypeId}{e:TypeId}{m:Nat}(h:ALT P st xt=some (e,m)):∃e2 i z,P.underlying st=some (.slice e)/\P.underlying xt=some (.slice e2)/\P.info? e=some i/\i.zero=some z/\z.cells.size=i.size/\0<i.size/\i.bytes<1048576/\0<i.bytes/\m=i.size:=by
 unfold ALT at h;split at h
 ·rename_i el hst
  split at h
  ·rename_i e2 hxt
   split at h
   ·rename_i i hi
    split at h
    ·rename_i z hz
     split at h
     ·rename_i hc
      cases h;simp only[Bool.and_eq_true,Nat.blt_eq]at hc;exact⟨e2,i,z,hst,hxt,hi,hz,Nat.eq_of_beq_eq_true hc.1.1.1,hc.1.1.2,hc.2,hc.1.2,rfl⟩
     ·cases h
    ·cases h
   ·cases h
  ·cases h
 ·cases h
theorem ALn{t:TypeId}{v:Value}{A:AH}{w:World}(h:AHs P t v A=true)(hH:HR w0 E A w):AHv P E t v:=by
 intro a len cap x e hx;subst e;unfold AHs at h;dsimp only at h;split at h
 ·rename_i cs ee hA
  obtain⟨p,l,t3,hheap,hp,hvr,hgr,_⟩:=hH.obj _ _ _ _ hA hx;exact .inl hgr.symm
 ·rename_i cs ee k hA
  obtain⟨p,l,t3,hheap,hp,hvr,hgr,_⟩:=hH.obj _ _ _ _ hA hx;split at h
  ·rename_i el hu
   refine .inr fun e2 he2=>?_;rw[hu]at he2;cases he2;rw[Nat.eq_of_beq_eq_true h];exact hgr
  ·cases h
 ·cases h
theorem ALo{α:Type}{l:Array α}{x y:α}(h:l.toList=[x,y]):l=#[x,y]:=Array.ext' h
theorem ALp{α:Type}{l:Array α}{x:α}(h:l.toList=[x]):l=#[x]:=Array.ext' h
theorem AJ4{st xt e:TypeId}{z:List Value}{m:Nat}(h:AI8 P st xt=some (e,z,m)):∃k i u,P.underlying st=some (.slice e)/\P.underlying xt=some (.int k)/\P.info? e=some i/\i.zero=some u/\z=u.cells.toList/\m=1/\i.size=1/\u.cells.size=1/\0<i.bytes/\i.bytes<1048576:=by
 unfold AI8 at h;split at h
 ·rename_i el hst
  split at h
  ·rename_i k hxt
   split at h
   ·rename_i i hi
    split at h
    ·rename_i u hz
     split at h
     ·rename_i hc
      cases h;simp only[Bool.and_eq_true,Nat.blt_eq,Nat.beq_eq]at hc;exact⟨k,i,u,hst,hxt,hi,hz,rfl,hc.1.1.2,hc.1.1.2,by omega,hc.1.2,hc.2⟩
     ·cases h
    ·cases h
   ·cases h
  ·cases h
 ·cases h
theorem AQo{u:Value}:∀n:Nat,rep [u] n=List.replicate n u:=by
 intro n
 induction n with
 |zero=>rfl
 |succ n ih=>rw[rep,ih];rfl
theorem AMi{c:Array Value}{u:Value}(hc:c=#[u])(n:Nat):(Builtin.zeroCells c n).toList=List.replicate n u:=by
 subst hc;unfold Builtin.zeroCells;simp only[List.size_toArray,List.length_cons,List.length_nil,Nat.zero_add,Nat.mul_one,Array.toList_map,Array.toList_range];refine List.ext_getElem (by simp) fun i h1 h2=>?_;simp[Nat.mod_one]
theorem AN7{t tx ty e:TypeId}{k:IntKind}{i:TypeInfo}{z:Value}{w:World}{n:Nat}(ht:P.underlying t=some (.slice e))(hk:P.underlying tx=some (.int k))(hi:P.info? e=some i)(hz:i.zero=some z)(hs:i.size=1)(hb0:0<i.bytes)(hb:i.bytes<1048576)(hn:n+1<1048577):
  (Builtin.append_ #[t,tx] ty #[.slice none 0 0,.int .i64 (Int.ofNat (n+1))]).run P w=
   .ok (.slice (some ⟨w.heap.size,0,none⟩) (n+1) (grownCap w (n+1) 0 e)) (w.drew.alloc (.cells (Builtin.zeroCells z.cells (n+1)++Builtin.zeroCells z.cells (grownCap w (n+1) 0 e-(n+1))) e)):=by
 have hw:IntKind.i64.wrap (Int.ofNat (n+1))=Int.ofNat (n+1):=AHJ (by show Nat.blt (n+1) 9223372036854775808=true;rw[Nat.blt_eq];omega);have hmul:(n+1)*i.bytes<=1048577*1048576:=Nat.mul_le_mul (Nat.le_of_lt hn) (Nat.le_of_lt hb);have h1:¬((281474976710656:Int)<(Int.ofNat (n+1))*(i.bytes:Int)):=by
  rw[show(Int.ofNat (n+1))*(i.bytes:Int)=(((n+1)*i.bytes:Nat):Int) by simp];omega
 have h0:¬(Int.ofNat (n+1)<0):=by simp;omega
 have hne:¬(n+1)*i.size=0:=by rw[hs];omega
 have h63':¬(9223372036854775807<((n:Int)+1)):=by omega
 have hfit:Builtin.nextslicecap (n+1) 0*i.bytes<=281474976710656:=growslice_fits (by omega) (Nat.le_trans hmul (by omega));have h48':¬(281474976710656<Builtin.nextslicecap (n+1) 0*i.bytes):=by omega
 have hsz:¬(n+1=0\/i.size=0):=by omega
 simp only[Int.ofNat_eq_natCast,Int.natCast_add,Int.natCast_one]at hw h0 h1⊢;have k1:¬((n:Int)+1<=0):=by omega
 have k2:max ((n:Int)+1) 0=(n:Int)+1:=by omega
 have k3:((n:Int)+1).toNat=n+1:=by omega
 have k4:¬((n:Int)+1<0):=by omega
 simp[Builtin.append_,run_underlying ht,run_underlying hk,sizeOf,typeInfo,zeroValue,hi,hz,hw,k1,k2,k3,k4,h1,hs,h63',h48',Question.forced,newRow,grownCap,asInt,asIntOf,Builtin.firstCells]
theorem AJ5(hZ:Zf P){dst:Option Tmp}{ty:TypeId}{pos:String}{af:Array Edge}{gd:Option (Nat×Bool)}{K:OpK}{x y:Operand}{st xt:TypeId}(h:ALV P x y st xt=.mk K):OpS P w0 K ⟨dst,.call {callee:=.builtin .append,args:=#[x,y],argTypes:=#[st,xt]},ty,pos,af,gd⟩:=by
 unfold ALV at h;split at h
 ·rename_i e z m hok
  cases h;obtain⟨k,i,u,hst,hxt,hi,hz,rfl,rfl,hs,hus,hb0,hb⟩:=AJ4 hok;intro ca rd E T A a w v A' hT hH hK;obtain⟨s,hsv,hK⟩:=vW hK hT;obtain⟨q,hq,hK⟩:=vW hK hT;unfold AO4 at hK;split at hK
  ·split at hK
   ·rename_i n
    split at hK
    ·rename_i hlt
     rw[Nat.blt_eq]at hlt;cases hK;generalize hza:a.eval x=za at hsv;generalize hzb:a.eval y=zb at hq;cases hsv;cases hq;have hrun:=AN7 (ty:=ty) (w:=w) hst hxt hi hz hs hb0 hb (n:=n) (by omega);obtain⟨c,hc⟩:∃c,u.cells=#[c]:=by
      refine⟨u.cells[0],?_⟩;apply Array.ext
      ·simp[hus]
      ·intro j h1 h2;simp at h2;subst h2;rfl
     have hge:n+1<=grownCap w (n+1) 0 e:=grownCap_ge w (n+1) 0 e;have hfl:VR (fun _=>none) c c:=by
      have:=(ABV (E:=fun _=>none) (hZ _ _ _ hi hz)).cells;rw[hc]at this;cases this with|cons h _=>exact h
     have hfl:∀E:En,VR E c c:=fun E=>hfl.mono (fun _ _ h=>by cases h);generalize hgc:grownCap w (n+1) 0 e=gc at*
     have hHd:=hH.drew;refine⟨E.put A.next (w.heap.size,1,0,gc),.slice (some ⟨w.heap.size,0,none⟩) (n+1) gc,w.drew.alloc (.cells (Builtin.zeroCells u.cells (n+1)++Builtin.zeroCells u.cells (gc-(n+1))) e),.inl ?_,En.le_put hH.fresh,?_,hHd.push (g:=(1,0,gc)) ⟨[],List.replicate (n+1) c,List.replicate (gc-(n+1)) c,?_,rfl,?_,rfl,?_,?_⟩⟩
     ·simp only[execOp,resolve,invoke,Go.builtin,List.map_toArray,List.map_cons,List.map_nil,hza,hzb]
      exact(IB hrun).trans rfl
     ·exact .sl (g:=(1,0,gc)) rfl rfl En.put_same hge (.inr ⟨by simp,by simp⟩) (Nat.le_refl _)
     ·show((w.drew).heap.push _)[w.drew.heap.size]?=_
      simp only[Array.getElem?_push_size,Option.some.injEq,Obj.cells.injEq,and_true];apply Array.ext';simp only[Array.toList_append,AMi hc,List.nil_append]
     ·rw[hc,AQo]
      exact VRs.replicate (hfl _) _
     ·simp;omega
     ·intro e0;cases e0
    ·cases hK
   ·cases hK
  ·cases hK
 ·cases h
theorem ALq{dst:Option Tmp}{ty:TypeId}{pos:String}{af:Array Edge}{gd:Option (Nat×Bool)}{K:OpK}{x:Operand}{t:TypeId}(h:ANx P x t=.mk K):OpS P w0 K ⟨dst,.call {callee:=.builtin .cap,args:=#[x],argTypes:=#[t]},ty,pos,af,gd⟩:=by
 unfold ANx at h;split at h
 ·rename_i el hu
  cases h;intro ca rd E T A a w v A' hT hH hK;obtain⟨s,hs,hK⟩:=vW hK hT;generalize hz:a.eval x=z at hs;have run:∀(b':Option Addr)(l' c':Nat),z=.slice b' l' c'->AD2 P w0 E ⟨dst,.call {callee:=.builtin .cap,args:=#[x],argTypes:=#[t]},ty,pos,af,gd⟩ a.eval w (.int .i64 (Int.ofNat c')) A:=by
   intro b' l' c' e;subst e;refine xR (v':=.int .i64 c') ?_ (.int _ _) hH;simp[execOp,resolve,invoke,Go.builtin,hz,Builtin.cap_,run_underlying hu,goInt]
  split at hK
  ·cases hK
   cases hs;exact run _ _ _ rfl
  ·rename_i ad l n
   split at hK
   ·rename_i cs e hA
    cases hK;cases hs with
    | @sl _ a' g _ _ c' q1 q2 q3 q4 q5 q6=>
     obtain⟨p,l',t3,_,_,_,hgr,_⟩:=hH.obj _ _ _ _ hA q3;rcases q5 with q5|⟨q5,_⟩
     ·subst q5;exact run _ _ _ rfl
     ·exact absurd hgr.symm q5
    | @sl0 _ a' g c' q3 q5 q2=>
     obtain⟨p,l',t3,_,_,_,hgr,_⟩:=hH.obj _ _ _ _ hA q3;rcases q5 with q5|⟨q5,_⟩
     ·subst q5;exact run _ _ _ rfl
     ·exact absurd hgr.symm q5
   ·cases hK
  ·cases hK
 ·cases h
section
variable {dst:Option Tmp}{ty:TypeId}{pos:String}{af:Array Edge}{gd:Option (Nat×Bool)}{K:OpK}
theorem ALr{x y:Operand}{st xt:TypeId}(h:ANw P x y st xt=.mk K):OpS P w0 K ⟨dst,.call {callee:=.builtin .append,args:=#[x,y],argTypes:=#[st,xt]},ty,pos,af,gd⟩:=by
 unfold ANw at h;split at h
 ·rename_i e m hok
  cases h;obtain⟨e2,i,z,hst,hxt,hi,hz,hzs,h0,hb,hb0,rfl⟩:=ALm hok;intro ca rd E T A a w v A' hT hH hK;obtain⟨s,hs,hK⟩:=vW hK hT;obtain⟨u,hu,hK⟩:=vW hK hT;have key:AJP P w0 E st xt ty (a.eval x) (a.eval y) w v A':=by
   unfold AKX at hK;split at hK
   ·split at hK
    ·split at hK
     ·cases hK
     ·rename_i hlt
      rw[Nat.blt_eq]at hlt;split at hK
      ·rename_i new hn
       split at hK
       ·rename_i hr
        exact ALi hst hxt hi hs hu hH hn (by simpa[Nat.ble_eq]using hr) hK
       ·rename_i hr
        exact ALl hst hxt hi hz hzs h0 hb hb0 hlt hs hu hH hn (fun hle=>by rw[Nat.ble_eq_true_of_le hle]at hr;cases hr) hK
      ·cases hK
    ·cases hK
   ·cases hK
  obtain⟨E',v',w',k1,k2,k3,k4⟩:=key;refine⟨E',v',w',.inl ?_,k2,k3,k4⟩;simp[execOp,resolve,invoke,Go.builtin,k1]
 ·cases h
theorem AJQ(hZ:Zf P){t:TypeId}{x:Operand}{lo hi mx:Option Operand}(h:AG5 P ⟨dst,.slice t x lo hi mx,ty,pos,af,gd⟩ t x=.mk K):OpS P w0 K ⟨dst,.slice t x lo hi mx,ty,pos,af,gd⟩:=by
 unfold AG5 Bx.ap at h;cases hg:ADx P ⟨dst,.slice t x lo hi mx,ty,pos,af,gd⟩with
 |no=>rw[hg]at h;cases h
 |mk K0=>
  rw[hg]at h;cases h;intro ca rd E T A a w v A' hT hH hK;dsimp only at hK;split at hK
  ·rename_i hok
   refine AGW hZ hg ca rd E T A a w v A' hT hH hK fun t' x' lo' hi' mx' e=>?_;cases e;exact ALn hok hH
  ·cases hK
theorem ALs(hZ:Zf P){x:Operand}{t:TypeId}(h:ALU P ⟨dst,.call {callee:=.builtin .len,args:=#[x],argTypes:=#[t]},ty,pos,af,gd⟩ x t=.mk K):
  OpS P w0 K ⟨dst,.call {callee:=.builtin .len,args:=#[x],argTypes:=#[t]},ty,pos,af,gd⟩:=by
 unfold ALU at h;split at h
 ·rename_i el hu
  cases h;intro ca rd E T A a w v A' hT hH hK;obtain⟨s,hs,hK⟩:=vW hK hT;split at hK
  ·rename_i b n c
   cases hK;generalize hz:a.eval x=z at hs;have run:∀(b':Option Addr)(c':Nat),z=.slice b' n c'->AD2 P w0 E ⟨dst,.call {callee:=.builtin .len,args:=#[x],argTypes:=#[t]},ty,pos,af,gd⟩ a.eval w (.int .i64 (Int.ofNat n)) A:=by
    intro b' c' e;subst e;refine xR (v':=.int .i64 n) ?_ (.int _ _) hH;simp[execOp,resolve,invoke,Go.builtin,hz,Builtin.len_,run_underlying hu,goInt]
   cases hs<;>exact run _ _ rfl
  ·cases hK
 ·exact ADb hZ h (fun _ _ _ _ _ e=>by cases e)
theorem AJR(hZ:Zf P){o:Oper}(h:AA3 P o=.mk K)(hc:AJO o.op=true):OpS P w0 K o:=by
 obtain⟨dst,op,ty,pos,af,gd⟩:=o;unfold AA3 at h;dsimp only at h hc;split at h
 case h_1 args tys=>
  split at h
  ·rename_i x y hl
   split at h
   ·rename_i st xt hl2
    rw[ALo hl,ALo hl2];split at h
    ·exact AJ5 hZ h
    ·exact ALr h
   ·cases h
  ·cases h
 case h_2 args tys=>
  split at h
  ·rename_i x hl
   split at h
   ·rename_i t hl2
    rw[ALp hl,ALp hl2];exact ALq h
   ·cases h
  ·cases h
 case h_3 t x lo hi mx=>exact AJQ hZ h
 case h_4 args tys=>
  split at h
  ·rename_i x hl
   split at h
   ·rename_i t hl2
    rw[ALp hl,ALp hl2]at h⊢;exact ALs hZ h
   ·cases h
  ·cases h
 case h_5 h1 h2 h3 h4=>exact AJ2 hZ h hc fun t x lo hi mx e=>h3 t x lo hi mx e
end
end
end
section
section
variable {P:Program}{w0:W0}{E:En}
structure OkP(P:Program):Prop where
 zero:Zf P
 mixed:P.follows .mixedOrders=true
 name : ∀ (f : FuncId) (fn : Func), P.funcs[f]? = some fn → (fn.name == "runtime.NumGoroutine") = false
def Fw(ro:Option Nat):Fence:={Fence.wide with round:=ro}
def AGk(w0:W0)(E:En)(v:Value)(A':AH):Ending->World->Prop:=fun e w'=>∃(E':En)(v':Value),e=.returned v'/\En.le E E'/\VR E' v v'/\HR w0 E' A' w'
def CaS(P:Program)(w0:W0)(ca:vK):Prop:=∀(E:En)(f:FuncId)(args:List Value)(A:AH)(v:Value)(A':AH)(args':Array Value)(w:World)(m:Nat),ca f args A=.ok v A'->VRs E args args'.toList->HR w0 E A w->
 (callFunc f args').run P w=.ok (.enter f args') w/\CallsIn Fence.wide m P f args' w (AGk w0 E v A')
def RdS(P:Program)(w0:W0)(rd:aZ):Prop:=∀(E:En)(l l':Nat)(g:Nat×Nat×Nat)(xs:List Value)(A:AH)(v:Value)(A':AH)(xs':Array Value)(w:World)(m:Nat),rd l xs A=.ok v A'->E l=some (l',g)->VRs E xs xs'.toList->HR w0 E A w->
 ∃(f:FuncId)(tmps:Array Value)(assign body:Code),(Instr.yield l' xs').run P w=.ok (.round l' f tmps assign body) w/\RoundIn Fence.wide m P l' f tmps assign body w (AGk w0 E v A')
theorem AMj{o:Oper}{a:Act}{w:World}{v:Value}{A':AH}{ro:Option Nat}{n:Nat}{next:Act->World->Prop}{Q:Exit->Act->World->Prop}(h:AD2 P w0 E o a.eval w v A')
  (hn:∀(E':En)(v':Value)(w':World),En.le E E'->VR E' v v'->HR w0 E' A' w'->next (a.put o.dst v') w'):o.uponIn (Fw ro) n P a next Q ((execOp a.eval o).run P w):=by
 obtain⟨E',v',w',h1,h2,h3,h4⟩:=h;rcases h1 with h1|⟨h1,h5⟩
 ·rw[h1];exact hn E' v' w' h2 h3 h4
 ·rw[h1];subst h5;exact hn E' undef w' h2 h3 h4
theorem AIP{o:Oper}{a:Act}{w:World}{v:Value}{A':AH}{ro:Option Nat}{n:Nat}{next:Act->World->Prop}{Q:Exit->Act->World->Prop}{f:FuncId}{args':Array Value}
  (h1:(execOp a.eval o).run P w=.ok (.enter f args') w) (h2:∀m,CallsIn Fence.wide m P f args' w (AGk w0 E v A'))
  (hn:∀(E':En)(v':Value)(w':World),En.le E E'->VR E' v v'->HR w0 E' A' w'->next (a.put o.dst v') w'):o.uponIn (Fw ro) n P a next Q ((execOp a.eval o).run P w):=by
 rw[h1];refine⟨fun(h:false=true)=>(nomatch h),?_⟩;refine CallsIn.mono (h2 (n-1)) fun e w' he=>?_;obtain⟨E',v',rfl,k1,k2,k3⟩:=he;exact hn E' v' w' k1 k2 k3
theorem ALt{o:Oper}{a:Act}{w:World}{v:Value}{A':AH}{ro:Option Nat}{n:Nat}{next:Act->World->Prop}{Q:Exit->Act->World->Prop}{l:Nat}{f:FuncId}{tmps:Array Value}{assign body:Code}
  (h1:(execOp a.eval o).run P w=.ok (.round l f tmps assign body) w) (h2:∀m,RoundIn Fence.wide m P l f tmps assign body w (AGk w0 E v A'))
  (hn:∀(E':En)(v':Value)(w':World),En.le E E'->VR E' v v'->HR w0 E' A' w'->next (a.put o.dst v') w'):o.uponIn (Fw ro) n P a next Q ((execOp a.eval o).run P w):=by
 rw[h1];refine⟨fun(h:false=true)=>(nomatch h),?_⟩;refine RoundIn.mono (h2 (n-1)) fun e w' he=>?_;obtain⟨E',v',rfl,k1,k2,k3⟩:=he;exact hn E' v' w' k1 k2 k3
theorem AEL(hP:OkP P){o:Oper}{K:OpK}(h:AA3 P o=.mk K){ca:vK}{rd:aZ}(hca:CaS P w0 ca)(hrd:RdS P w0 rd){T:TP}{A:AH}{a:Act}{w:World}{v:Value}{A':AH}(hT:TR E T a.tmps)(hH:HR w0 E A w)
  (hK:K ca rd T A=.ok v A') {ro:Option Nat} {n:Nat} {next:Act->World->Prop} {Q:Exit->Act->World->Prop}
  (hn:∀(E':En)(v':Value)(w':World),En.le E E'->VR E' v v'->HR w0 E' A' w'->next (a.put o.dst v') w'):o.uponIn (Fw ro) n P a next Q ((execOp a.eval o).run P w):=by
 cases hc:AJO o.op with
 |true=>exact AMj (AJR hP.zero h hc ca rd E T A a w v A' hT hH hK) hn
 |false=>
  obtain⟨dst,op,ty,pos,af,gd⟩:=o;dsimp only at hc;cases op<;>try (cases hc;done)
  rename_i c;obtain⟨callee,args,tys⟩:=c;cases callee<;>try (cases hc;done)
  rename_i g;have key:∀(vs:List Value)(X:TP->Option (List Value)),ABw args.toList=.mk X->X T=some vs->VRs E vs (args.map a.eval).toList:=by
   intro vs X h1 h2;simp only[Array.toList_map];exact(AEY hT h1 h2).1
  cases g with
  |func f=>
   change Bx.mk _=Bx.mk K at h;cases h;obtain⟨X,h1,h2⟩:=KN hK (by intro e;cases e);cases hX:X T with
   |none=>rw[hX]at h2;cases h2
   |some vs=>
    rw[hX]at h2;have hv:=key vs X h1 hX;have hcf:=fun m=>hca E f vs A v A' (args.map a.eval) w m h2 hv hH;refine AIP (f:=f) (args':=args.map a.eval) ?_ (fun m=>(hcf m).2) hn;have h3:=(hcf 0).1;simp[execOp,resolve,Deferred.ofValue,invoke,Act.eval];simpa using h3
  |_=>
   change Bx.mk _=Bx.mk K at h;cases h;obtain⟨X,h1,h2⟩:=KN hK (by intro e;cases e);cases hX:X T with
   |none=>rw[hX]at h2;cases h2
   |some vs=>
    rw[hX]at h2;have hv:=key vs X h1 hX;obtain⟨u,hu,h3⟩:=vW h2 hT;split at h3
    ·rename_i f first cap
     generalize hz:a.eval _=z at hu;cases hu with| @func _ _ first' _ cap' q1 q2=>
     have hargs:VRs E (first.toList++vs++cap.toList) (first'++args.map a.eval++cap').toList:=by
      simp only[Array.toList_append];exact(q1.append hv).append q2
     have hcf:=fun m=>hca E f _ A v A' _ w m h3 hargs hH;refine AIP (f:=f) (args':=first'++args.map a.eval++cap') ?_ (fun m=>(hcf m).2) hn;have h4:=(hcf 0).1;simp[execOp,resolve,Deferred.ofValue,invoke,hz];simpa using h4
    ·rename_i l first cap
     generalize hz:a.eval _=z at hu;cases hu with| @yield _ l' g _ first' _ cap' q0 q1 q2=>
     have hargs:VRs E (first.toList++vs) (first'++args.map a.eval).toList:=by
      simp only[Array.toList_append];exact q1.append hv
     have hrf:=fun m=>hrd E l l' g _ A v A' _ w m h3 q0 hargs hH;obtain⟨f0,t0,as0,b0,hy,_⟩:=hrf 0;refine ALt (l:=l') (f:=f0) (tmps:=t0) (assign:=as0) (body:=b0) ?_ (fun m=>?_) hn
     ·simp[execOp,resolve,Deferred.ofValue,invoke,hz]
      simpa using hy
     ·obtain⟨f1,t1,as1,b1,hy1,hr1⟩:=hrf m
      rw[hy]at hy1;cases hy1;exact hr1
    ·cases h3
end
end
section
section
variable {P:Program}{w0:W0}{E:En}
theorem ABW{nt:Nat}{dst:Option Tmp}{D:Value->TP->TP}(h:AAi nt dst=.mk D){T:TP}{a:Act}{v v':Value}(hs:nt<=a.tmps.size)(hT:TR E T a.tmps)(hv:VR E v v'):TR E (D v T) (a.put dst v').tmps/\nt<=(a.put dst v').tmps.size/\(a.put dst v').defers=a.defers:=by
 cases dst with
 |none=>cases h;exact⟨hT,hs,rfl⟩
 |some d=>
  simp only[AAi]at h;split at h
  ·rename_i hb
   cases h;simp only[Bool.and_eq_true,Nat.blt_eq]at hb;have hds:=Nat.lt_of_lt_of_le hb.1 hs;refine⟨fun t u ht hu=>?_,by simpa[Act.put]using hs,rfl⟩;rw[zk]at hu;split at hu
   ·rename_i he
    have:=ABO ht hb.2 he;subst this;cases hu;exact⟨v',by simp[Act.put,hds],hv⟩
   ·rename_i hne
    obtain⟨u',h1,h2⟩:=hT t u ht hu;refine⟨u',?_,h2⟩;have:t≠d:=fun e=>hne (by rw[e]);simp[Act.put,Array.getElem?_setIfInBounds,Ne.symm this,h1]
  ·cases h
theorem noDefer{o:Oper}{K:OpK}(h:AA3 P o=.mk K):∀c,o.op≠.defer c:=by
 intro c e;obtain⟨dst,op,ty,pos,af,gd⟩:=o;dsimp only at e;subst e;cases h
theorem AMk(hP:OkP P){nt:Nat}{ops:Array Oper}:∀(l:List Oper){K:ALW},ABx P nt ops l=.mk K->∀{ca:vK}{rd:aZ},CaS P w0 ca->RdS P w0 rd->
  ∀{E:En}{f:FuncId}{r:Option Nat}{T:TP}{m:List Nat}{A:AH}{a:Act}{w:World}{x:Ax}{s':St},nt<=a.tmps.size->TR E T a.tmps->HR w0 E A w->K ca rd f r T m A=.ok x s'->
  ∀{ro:Option Nat}{n:Nat}{Q:Exit->Act->World->Prop},
   (∀(E':En)(T':TP)(a':Act)(w':World)(A':AH),En.le E E'->nt<=a'.tmps.size->TR E' T' a'.tmps->HR w0 E' A' w'->a'.defers=a.defers->x=.normal->s'=⟨f,r,T',m,A'⟩->Q .normal a' w')->
   wpListIn (Fw ro) n P ops Q l a w:=by
 intro l
 induction l with
 |nil=>
  intro K h ca rd hca hrd E f r T m A a w x s' hs hT hH hK ro n Q hQ;cases h;cases hK;exact hQ E T a w A En.le_rfl hs hT hH rfl rfl rfl
 |cons o l ih=>
  intro K h ca rd hca hrd E f r T m A a w x s' hs hT hH hK ro n Q hQ;have run:Region.wanted o (yielded ops a.tmps)=true->AIt nt o.dst (AA3 P o) (ABx P nt ops l) ca rd f r T m A=R.ok x s'->wpListIn (Fw ro) n P ops Q (o::l) a w:=by
   intro hw h1;unfold AIt at h1;obtain⟨K0,h0,h1⟩:=KN h1 (by intro e;cases e);unfold wpListIn;rw[if_pos hw];refine⟨fun _ _=>trivial,?_⟩;rw[Oper.semAt_eq _ _ _ (noDefer h0)];cases hk:K0 ca rd T A with
   |no s q=>rw[hk]at h1;cases h1
   |ok v A1=>
    rw[hk]at h1;obtain⟨L,h2,h3⟩:=KN h1 (by intro e;cases e);obtain⟨D,h4,h5⟩:=KN h3 (by intro e;cases e);refine AEL hP h0 hca hrd hT hH hk fun E' v' w' k1 k2 k3=>?_;obtain⟨p1,p2,p3⟩:=ABW h4 hs (hT.mono k1) k2;exact ih h2 hca hrd p2 p1 k3 h5 fun E2 T2 a2 w2 A2 q1 q2 q3 q4 q5 q6 q7=>hQ E2 T2 a2 w2 A2 (k1.trans q1) q2 q3 q4 (q5.trans p3) q6 q7
  have skip:¬Region.wanted o (yielded ops a.tmps)=true->AIs nt o.dst (ABx P nt ops l) ca rd f r T m A=R.ok x s'->wpListIn (Fw ro) n P ops Q (o::l) a w:=by
   intro hw hK;unfold AIs at hK;unfold wpListIn;rw[if_neg hw];refine⟨fun _ _=>trivial,?_⟩;obtain⟨L,h2,h3⟩:=KN hK (by intro e;cases e);obtain⟨D,h4,h5⟩:=KN h3 (by intro e;cases e);obtain⟨p1,p2,p3⟩:=ABW h4 hs hT (.tuple .nil:VR E undef undef);exact ih h2 hca hrd p2 p1 hH h5 fun E2 T2 a2 w2 A2 q1 q2 q3 q4 q5 q6 q7=>hQ E2 T2 a2 w2 A2 q1 q2 q3 q4 (q5.trans p3) q6 q7
  simp only[ABx]at h;split at h
  ·rename_i hg
   cases h;exact run (by unfold Region.wanted;rw[hg]) hK
  ·rename_i j want hg
   split at h
   ·cases h
   ·rename_i d hd
    cases h;have hd2:(ops[j]?).bind (·.dst)=some d/\d<65535:=by
     unfold AMY at hd;split at hd
     ·rename_i d0 h0
      split at hd
      ·rename_i hb
       cases hd;exact⟨h0,by simpa[Nat.blt_eq]using hb⟩
      ·cases hd
     ·cases hd
    dsimp only at hK;split at hK
    ·rename_i b hb
     obtain⟨u,hu,hv⟩:=hT d _ hd2.2 hb;cases hv;have hy:yielded ops a.tmps j=some b:=by
      unfold yielded;rw[hd2.1];show(match a.tmps[d]? with|some (.bool b)=>some b|_=>none)=some b;rw[hu]
     split at hK
     ·rename_i hbw
      refine run ?_ hK;unfold Region.wanted;rw[hg];dsimp only;rw[hy,eq_of_beq hbw];simp
     ·rename_i hbw
      refine skip ?_ hK;unfold Region.wanted;rw[hg];dsimp only;rw[hy];intro e;have:=eq_of_beq e;cases this;simp at hbw
    ·rename_i c hb
     obtain⟨u,hu,hv⟩:=hT d _ hd2.2 hb;cases hv;have hy:yielded ops a.tmps j=none:=by
      unfold yielded;rw[hd2.1];show(match a.tmps[d]? with|some (.bool b)=>some b|_=>none)=none;rw[hu]
     refine skip ?_ hK;unfold Region.wanted;rw[hg];dsimp only;rw[hy];intro e;have:=eq_of_beq e;cases this
    ·cases hK
end
end
section
section
variable {P:Program}{w0:W0}{E:En}
inductive DM(E:En):List Nat->List Deferred->Prop
 |nil:DM E [] []
 |cons {b b':Nat} {g:Nat×Nat×Nat} {bs:List Nat} {ds:List Deferred} (h:E b=some (b',g)) (t:DM E bs ds):DM E (b::bs) ({target:=.collected b',args:=#[]}::ds)
theorem DM.mono{E':En}(h:En.le E E'){bs:List Nat}{ds:List Deferred}(k:DM E bs ds):DM E' bs ds:=by
 induction k with
 |nil=>exact .nil
 |cons h1 _ ih=>exact .cons (EP h h1) ih
def RO(E:En):Option Nat->Option Nat->Prop
 |none,none=>True
 |some l,some l'=>∃g,E l=some (l',g)
 |_,_=>False
theorem RO.mono{E':En}(h:En.le E E'){a b:Option Nat}(k:RO E a b):RO E' a b:=by
 cases a<;>cases b<;>first|exact k|(obtain⟨g,hg⟩:=k;exact⟨g,EP h hg⟩)
structure SR(w0:W0)(nt:Nat)(E:En)(s:St)(a:Act)(w:World)(ro:Option Nat):Prop where
 size:nt<=a.tmps.size
 tmps:TR E s.T a.tmps
 heap:HR w0 E s.A w
 defers:DM E s.marks a.defers
 round:RO E s.rd ro
def ExR:Ax->Exit->Prop
 |.normal,.normal=>True
 |.exit i,.exit j=>j=i
 |.ret,.ret=>True
 |_,_=>False
def PostC(w0:W0)(nt:Nat)(E:En)(s:St)(x:Ax)(s':St)(ro:Option Nat):Exit->Act->World->Prop:=fun e a' w'=>∃E',En.le E E'/\ExR x e/\SR w0 nt E' s' a' w' ro/\s'.rd=s.rd
theorem PostC.normal{nt:Nat}{s s':St}{ro:Option Nat}{e:Exit}{a:Act}{w:World}(h:PostC w0 nt E s .normal s' ro e a w):e=.normal:=by
 obtain⟨_,_,h,_⟩:=h;cases e<;>first|rfl|exact h.elim
def CS(P:Program)(w0:W0)(nt:Nat)(K:CK)(c:Code):Prop:=
 ∀(ca:vK)(rd:aZ)(n:Nat),(∀w,CaS P w ca)->(∀w,RdS P w rd)->∀(E:En)(s:St)(a:Act)(w:World)(x:Ax)(s':St)(ro:Option Nat)(m:Nat),SR w0 nt E s a w ro->K ca rd n s=.ok x s'->
  c.wpIn (Fw ro) m P (PostC w0 nt E s x s' ro) a w
theorem AHQ{F:Fence}{n:Nat}{Q:Exit->Act->World->Prop}{c:Code}(I:Nat->Act->World->Prop)(round:∀m a w,I m a w->c.wpIn F n P (Exit.then (fun a' w'=>∃m',m'<m/\I m' a' w') Q) a w):
  ∀(m:Nat){a:Act}{w:World},I m a w->(Code.loop c).wpIn F n P Q a w:=by
 intro m a w h0 b k cs hro hb hr;have key:∀j a w,I j a w->∃e a' w',Q e a' w'/\ArrivesIn (Machine.fenced P F) P (lone (b.atR a (.code c::.inLoop c::k)) cs w) b k cs e a' w':=by
  intro j
  induction j using Nat.strongRecOn with
  |_ j ih=>
   intro a w hI;obtain⟨e,a₁,w₁,hq,harr⟩:=round j a w hI b (.inLoop c::k) cs hro hb hr;cases e with
   |normal=>
    obtain⟨m',hlt,hI₁⟩:=hq;obtain⟨e₂,a₂,w₂,hq₂,harr₂⟩:=ih m' hlt a₁ w₁ hI₁;exact⟨e₂,a₂,w₂,hq₂,.of_steps (StepsIn.trans harr (.one (fenced_calm hb hr rfl) stepR_inLoop)) harr₂⟩
   |exit id=>exact⟨_,a₁,w₁,hq,.pass (x:=.inLoop c) rfl (fun _ _=>.inl (by simp)) harr⟩
   |goto l=>exact⟨_,a₁,w₁,hq,.pass (x:=.inLoop c) rfl (fun _ _=>.inl (by simp)) harr⟩
   |ret=>exact⟨_,a₁,w₁,hq,.pass (x:=.inLoop c) rfl (fun _ _=>.inl (by simp)) harr⟩
   |panic ch=>exact⟨_,a₁,w₁,hq,.pass (x:=.inLoop c) rfl (fun _ _=>.inl (by simp)) harr⟩
   |outgrown=>exact⟨_,a₁,w₁,hq,.pass (x:=.inLoop c) rfl (fun _ _=>.inl (by simp)) harr⟩
 obtain⟨e,a',w',hq,harr⟩:=key m a w h0;exact⟨e,a',w',hq,.of_steps (.one (fenced_calm hb hr rfl) stepR_loop) harr⟩
theorem ALu{nt:Nat}{X:CK}{b:Code}(hX:CS P w0 nt X b):CS P w0 nt (fun ca rd n s=>AHB X ca rd n s) (.loop b):=by
 intro ca rd n hca hrd E s a w x s' ro m hS hK;refine AHQ (fun k a1 w1=>∃(E1:En)(s1:St),En.le E E1/\SR w0 nt E1 s1 a1 w1 ro/\s1.rd=s.rd/\AHB X ca rd k s1=.ok x s') ?_ n ⟨E,s,En.le_rfl,hS,rfl,hK⟩;rintro k a1 w1⟨E1,s1,h1,h2,h3,h4⟩;cases k with
 |zero=>cases h4
 |succ k=>
  simp only[AHB]at h4;cases hx:X ca rd k s1 with
  |no q r=>rw[hx]at h4;cases h4
  |ok y s2=>
   rw[hx]at h4;refine wpIn_mono (hX ca rd k hca hrd E1 s1 a1 w1 y s2 ro m h2 hx) fun e a2 w2 he=>?_;obtain⟨E2,q1,q2,q3,q4⟩:=he;cases y with
   |normal=>
    cases e<;>try exact q2.elim
    exact⟨k,Nat.lt_succ_self _,E2,s2,h1.trans q1,q3,q4.trans h3,h4⟩
   |exit j=>
    cases h4;cases e<;>try exact q2.elim
    exact⟨E2,h1.trans q1,q2,q3,q4.trans h3⟩
   |ret=>
    cases h4;cases e<;>try exact q2.elim
    exact⟨E2,h1.trans q1,q2,q3,q4.trans h3⟩
end
end
section
section
variable {P:Program}{w0:W0}{E:En}
theorem AGZ{w:World}{b:Nat}{o:Obj}:(w.putObj b o).heap.size=w.heap.size/\(∀k,k≠b->(w.putObj b o).heap[k]?=w.heap[k]?):=by
 refine⟨by simp[World.putObj],fun k hk=>?_⟩;simp only[World.putObj,Array.getElem?_setIfInBounds];rw[if_neg (fun e=>hk e.symm)]
theorem HR.turn{A:AH}{w:World}(h:HR w0 E A w){l l':Nat}{g:Nat×Nat×Nat}{r:AL}(hl:YA A.t l=some (.loop r))(hE:E l=some (l',g))(st:LoopState)(pe:Option Code):
  ∃r',w.heap[l']?=some (.loop r')/\LR E r r'/\HR w0 E (A.put l (.loop {r with state:=st,pending:=pe})) (w.putObj l' (.loop {r' with state:=st,pending:=pe})):=by
 obtain⟨r',h1,h2⟩:=h.obj _ _ _ _ hl hE;have hlt:=(h.base _ _ _ hE).2;obtain⟨k1,k2⟩:=AGZ (w:=w) (b:=l') (o:=.loop {r' with state:=st,pending:=pe});refine⟨r',h1,h2,h.put hl rfl hE ⟨_,World.putObj_heap_same hlt,?_⟩ k1 k2 rfl rfl rfl⟩;exact⟨rfl,rfl,h2.size,h2.pok,h2.tmps,h2.params,h2.assign,h2.body,h2.defers⟩
theorem AJS{nt:Nat}{s s':St}{x:Ax}{A:AH}{l l':Nat}{g:Nat×Nat×Nat}{w:World}{a:Act}{ro:Option Nat}{m:Nat}{E0:En}{s0:St}(h:rangeB l s A=.ok x s')(hE:E l=some (l',g))(hH:HR w0 E A w)(hle:En.le E0 E)
  (h1:nt<=a.tmps.size) (h2:TR E s.T a.tmps) (h3:DM E s.marks a.defers) (h4:RO E s.rd ro) (h5:s.rd=s0.rd):
  ∃jump w4,(Instr.endLoop l').run P w=.ok jump w4/\(match jump with|none=>PostC w0 nt E0 s0 x s' ro .normal a w4|some c=>c.wpIn (Fw ro) m P (PostC w0 nt E0 s0 x s' ro) a w4):=by
 unfold rangeB at h;split at h
 ·rename_i r hr
  have key:r.state≠.busy->∀pe,r.pending=pe->∃w4,(Instr.endLoop l').run P w=.ok pe w4/\HR w0 E (A.put l (.loop {r with state:=.exhausted})) w4:=by
   intro hb pe hp;obtain⟨r',k1,k2,k3⟩:=hH.turn hr hE .exhausted r.pending;refine⟨_,?_,k3⟩;rw[run_endLoop k1 (by rw[k2.state];exact hb),k2.pending,hp]
  split at h
  ·cases h
  ·rename_i hb
   have hb:r.state≠.busy:=hb;split at h<;>rename_i hp
   ·cases h
    obtain⟨w4,k1,k2⟩:=key hb none hp;exact⟨none,w4,k1,E,hle,trivial,⟨h1,h2,k2,h3,h4⟩,h5⟩
   ·cases h
    obtain⟨w4,k1,k2⟩:=key hb (some .ret) hp;exact⟨some .ret,w4,k1,wpIn_ret ⟨E,hle,trivial,⟨h1,h2,k2,h3,h4⟩,h5⟩⟩
   ·cases h
    obtain⟨w4,k1,k2⟩:=key hb _ hp;exact⟨some (.exit _),w4,k1,wpIn_exit ⟨E,hle,rfl,⟨h1,h2,k2,h3,h4⟩,h5⟩⟩
   ·cases h
 ·cases h
theorem AFl{nt:Nat}{ps:Array Tmp}{assign body:Code}{ca:vK}(hca:CaS P w0 ca){h:FuncId}{first cap:List Value}{first' cap':Array Value}{d d':Nat}{gd:Nat×Nat×Nat}{s s' s0:St}{x:Ax}{E0:En}{a:Act}{w1:World}{fn:FuncId}{ro:Option Nat}{m:Nat}
  (hps:∀t∈ps.toList,t<nt/\t<65535) (hK:AHC nt ps assign body ca h first cap d s=.ok x s') (hf:VRs E first first'.toList) (hc:VRs E cap cap'.toList) (hd:E d=some (d',gd)) (hH:HR w0 E s.A w1) (hle:En.le E0 E)
  (h1:nt<=a.tmps.size) (h2:TR E s.T a.tmps) (h3:DM E s.marks a.defers) (h4:RO E s.rd ro) (h5:s.rd=s0.rd):
  (callFunc h (first'++#[Value.func (.yield w1.heap.size) #[] #[]]++cap')).run P (w1.alloc (.loop {state:=.ready,pending:=none,fn,tmps:=a.tmps,params:=ps,assign,body,defers:=d'}))=
   .ok (.enter h (first'++#[Value.func (.yield w1.heap.size) #[] #[]]++cap')) (w1.alloc (.loop {state:=.ready,pending:=none,fn,tmps:=a.tmps,params:=ps,assign,body,defers:=d'}))/\
  CallsIn (Fw ro) (m-1) P h (first'++#[Value.func (.yield w1.heap.size) #[] #[]]++cap') (w1.alloc (.loop {state:=.ready,pending:=none,fn,tmps:=a.tmps,params:=ps,assign,body,defers:=d'}))
   (rangePost (Fw ro) m P w1.heap.size (PostC w0 nt E0 s0 x s' ro) a):=by
 unfold AHC at hK;split at hK
 ·cases hK
 ·rename_i v A hk
  have hle2:En.le E (E.put s.A.next (w1.heap.size,(0,0,0))):=En.le_put hH.fresh;have hH2:=hH.push (o:=.loop {state:=.ready,pending:=none,nt,tmps:=s.T,params:=ps.toList,assign,body,defers:=d}) (o':=.loop {state:=.ready,pending:=none,fn,tmps:=a.tmps,params:=ps,assign,body,defers:=d'}) (g:=(0,0,0))
   ⟨_,ABp _ _,rfl,rfl,h1,hps,h2.mono hle2,rfl,rfl,rfl,gd,EP hle2 hd⟩
  have hargs:VRs (E.put s.A.next (w1.heap.size,(0,0,0))) (first++Value.func (.yield s.A.next) #[] #[]::cap) (first'++#[Value.func (.yield w1.heap.size) #[] #[]]++cap').toList:=by
   have:(first'++#[Value.func (.yield w1.heap.size) #[] #[]]++cap').toList=first'.toList++(Value.func (.yield w1.heap.size) #[] #[]::cap'.toList):=by simp
   rw[this];exact(hf.mono hle2).append (.cons (.yield En.put_same .nil .nil) (hc.mono hle2))
  have hcf:=hca _ _ _ _ _ _ _ _ (m-1) hk hargs hH2;refine⟨hcf.1,CallsIn.mono hcf.2 fun e w3 he=>?_⟩;obtain⟨E3,v',rfl,k1,k2,k3⟩:=he;have hl:=hle2.trans k1;exact AJS hK (EP k1 En.put_same) k3 (hle.trans hl) h1 (h2.mono hl) (h3.mono hl) (h4.mono hl) h5
theorem AJ6{nt:Nat}{g:Operand}{ps:Array Tmp}{assign body:Code}:CS P w0 nt (fun ca _ _ s=>AJD nt g ps assign body ca s) (.rangeFunc g ps assign body):=by
 intro ca rd n hca hrd E s a w x s' ro m hS hK;dsimp only at hK;unfold AJD at hK;split at hK
 ·cases hK
 ·rename_i hps
  have hps:∀t∈ps.toList,t<nt/\t<65535:=fun t ht=>by
   have:=List.all_eq_true.1 hps t ht;simpa[Nat.blt_eq]using this
  obtain⟨G,hG,hK⟩:=KN hK (by intro e;cases e);split at hK
  ·rename_i h first cap hg
   have hv:=yV hG hg hS.tmps;generalize hz:a.eval g=z at hv;cases hv with| @func _ _ first' _ cap' q1 q2=>
   have res:∀(l:Nat)(w1:World),(resolve a.eval (rangeCall g l) 0).run P w1=.ok {target:=.fn (.func h) cap',args:=first'++#[Value.func (.yield l) #[] #[]]} w1:=by
    intro l w1;unfold resolve rangeCall;dsimp only;rw[hz];simp[Deferred.ofValue,Act.eval]
   split at hK
   ·rename_i l hrd0
    split at hK
    ·rename_i r hr
     cases ro with
     |none=>have:=hS.round;rw[hrd0]at this;exact this.elim
     |some l'=>
      have hro:=hS.round;rw[hrd0]at hro;obtain⟨gl,hgl⟩:=hro;obtain⟨r',k1,k2⟩:=hS.heap.obj _ _ _ _ hr hgl;obtain⟨gd,hgd⟩:=k2.defers;refine wpIn_rangeFunc fun fn _=>?_;have hc:=AFl (fn:=fn) (ro:=some l') (m:=m) (a:=a) (hca _) hps hK q1 q2 hgd hS.heap En.le_rfl hS.size hS.tmps hS.defers hS.round rfl;refine⟨w.heap.size,[],_,_,_,h,first'++#[Value.func (.yield w.heap.size) #[] #[]]++cap',_,run_enterLoop_inner k1 _ _ _ _ _,res _ _,fun _ _=>trivial,?_,fun(h:false=true)=>(nomatch h),hc.2⟩;simpa[invoke]using hc.1
    ·cases hK
   ·rename_i hrd0
    cases ro with
    |some l'=>have:=hS.round;rw[hrd0]at this;exact this.elim
    |none=>
     have hle:En.le E (E.put s.A.next (w.heap.size,(0,0,0))):=En.le_put hS.heap.fresh;have hH2:=hS.heap.push (o:=.defer false) (o':=.deferred (some [])) (g:=(0,0,0)) (ABp _ _);refine wpIn_rangeFunc fun fn _=>?_;have hc:=AFl (fn:=fn) (ro:=none) (m:=m) (s0:=s) (a:={a with defers:={target:=.collected w.heap.size,args:=#[]}::a.defers}) (hca _) hps hK (q1.mono hle) (q2.mono hle) En.put_same hH2 hle hS.size (hS.tmps.mono hle) (.cons En.put_same (hS.defers.mono hle)) (by rw[hrd0];trivial) rfl;refine⟨(w.alloc (.deferred (some []))).heap.size,[{target:=.collected w.heap.size,args:=#[]}],(w.alloc (.deferred (some []))).alloc (.loop {state:=.ready,pending:=none,fn,tmps:=a.tmps,params:=ps,assign,body,defers:=w.heap.size}),_,(w.alloc (.deferred (some []))).alloc (.loop {state:=.ready,pending:=none,fn,tmps:=a.tmps,params:=ps,assign,body,defers:=w.heap.size}),h,first'++#[Value.func (.yield (w.alloc (.deferred (some []))).heap.size) #[] #[]]++cap',_,?_,res _ _,fun _ _=>trivial,?_,fun(h:false=true)=>(nomatch h),hc.2⟩
     ·rw[World.size_alloc];exact run_enterLoop_outer _ _ _ _ _
     ·simpa[invoke]using hc.1
  ·cases hK
end
end
section
section
variable {P:Program}{w0:W0}{E:En}
theorem AA5{x:Operand}{T:TP}{s:String}{n:Nat}{k:Value->V}{v:Value}{A:AH}(h:X1 x T (.no s n) k=.ok v A):∃u,k u=.ok v A:=by
 unfold X1 at h;obtain⟨X,h1,h2⟩:=KN h (by intro e;cases e);cases hX:X T with
 |no=>rw[hX]at h2;cases h2
 |mk u=>rw[hX]at h2;exact⟨u,h2⟩
def ALv(K:OpK):Prop:=∀(ca:vK)(rd:aZ)(T:TP)(A:AH)(v:Value)(A':AH),K ca rd T A=.ok v A'->A'=A
theorem AEM{o:Oper}{K:OpK}(h:ADx P o=.mk K)(hc:AEI o.op=false):ALv K:=by
 intro ca rd T A v A' hK;unfold ADx at h;split at h
 ·cases h
 ·cases h
  obtain⟨X,h1,h2⟩:=KN hK (by intro e;cases e);cases hX:X T with
  |none=>rw[hX]at h2;cases h2
  |some vs=>
   rw[hX]at h2;dsimp only at h2;split at h2
   ·unfold ANt at h2
    split at h2
    ·split at h2
     ·cases h2;rfl
     ·cases h2
    ·cases h2
   ·cases h2
 ·rw[hc]at h
  cases h;obtain⟨X,h1,h2⟩:=KN hK (by intro e;cases e);cases hX:X T with
  |none=>rw[hX]at h2;cases h2
  |some vs=>
   rw[hX]at h2;dsimp only at h2;split at h2
   ·exact(AJI h2).2
   ·cases h2
theorem AAj{o:Oper}{x y:Operand}{f:Value->Value->Option Value}{K:OpK}(h:AAN P o x y f=.mk K)(hc:AEI o.op=false):ALv K:=by
 intro ca rd T A v A' hK;unfold AAN at h;cases h;obtain⟨X,h1,h2⟩:=KN hK (by intro e;cases e);cases hX:X T with
 |no=>rw[hX]at h2;cases h2
 |mk u=>
  rw[hX]at h2;obtain⟨Y,h3,h4⟩:=KN h2 (by intro e;cases e);cases hY:Y T with
  |no=>rw[hY]at h4;cases h4
  |mk s=>
   rw[hY]at h4;dsimp only at h4;cases hfu:f u s with
   |none=>
    rw[hfu]at h4;obtain⟨K,h5,h6⟩:=KN h4 (by intro e;cases e);exact AEM h5 hc ca rd T A v A' h6
   |some r=>rw[hfu]at h4;cases h4;rfl
theorem AJT{I:OK}{sz len:Nat}{a:Addr}{T:TP}{A A':AH}{v:Value}(h:ixK I sz a len T A=.ok v A'):A'=A:=by
 unfold ixK at h;split at h
 ·split at h
  ·split at h
   ·cases h;rfl
   ·cases h
  ·cases h
 ·cases h
theorem AFm{A A':AH}{r:Option Value}{v:Value}(h:ret1 A r=.ok v A'):A'=A:=by
 unfold ret1 at h;split at h<;>cases h
 rfl
theorem ALw{o:Oper}{K:OpK}(h:AG4 P o=.mk K)(hc:AEI o.op=false):ALv K:=by
 obtain⟨dst,op,ty,pos,af,gd⟩:=o;unfold AG4 at h;dsimp only at h hc;split at h
 case h_1=>cases h;intro ca rd T A v A' hK;obtain⟨u,hu⟩:=AA5 hK;cases hu;rfl
 case h_2=>cases h;intro ca rd T A v A' hK;obtain⟨u,hu⟩:=AA5 hK;cases hu;rfl
 case h_3=>exact AAj h hc
 case h_4=>exact AAj h hc
 case h_5=>exact AAj h hc
 case h_6=>exact AAj h hc
 case h_7=>exact AAj h hc
 case h_8=>exact AAj h hc
 case h_9=>exact AAj h hc
 case h_10=>split at h<;>exact AAj h hc
 case h_11=>split at h<;>exact AAj h hc
 case h_12=>
  cases h;intro ca rd T A v A' hK;obtain⟨u,hu⟩:=AA5 hK;split at hu
  ·obtain⟨_,hu⟩:=AA5 hu;cases hu;rfl
  ·obtain⟨_,hu⟩:=AA5 hu;cases hu;rfl
  ·cases hu
 case h_13=>
  cases h;intro ca rd T A v A' hK;obtain⟨u,hu⟩:=AA5 hK;split at hu<;>cases hu
  rfl
 case h_14=>
  split at h
  ·cases h
  ·split at h
   ·split at h
    ·cases h
    ·cases h
     intro ca rd T A v A' hK;obtain⟨u,hu⟩:=AA5 hK;split at hu
     ·exact AFm hu
     ·cases hu
   ·cases h
    intro ca rd T A v A' hK;obtain⟨u,hu⟩:=AA5 hK;split at hu
    ·exact AFm hu
    ·cases hu
 case h_15=>
  split at h
  ·split at h
   ·cases h
   ·cases h
    intro ca rd T A v A' hK;obtain⟨u,hu⟩:=AA5 hK;split at hu
    ·obtain⟨I,h1,h2⟩:=KN hu (by intro e;cases e)
     exact AJT h2
    ·cases hu
  ·split at h
   ·cases h
   ·cases h
    intro ca rd T A v A' hK;obtain⟨u,hu⟩:=AA5 hK;split at hu
    ·obtain⟨I,h1,h2⟩:=KN hu (by intro e;cases e)
     exact AJT h2
    ·cases hu
  ·cases h
 case h_16=>
  split at h
  ·split at h
   ·split at h
    ·cases h
    ·split at h
     ·cases h
      intro ca rd T A v A' hK;obtain⟨u,hu⟩:=AA5 hK;split at hu<;>cases hu
      rfl
     ·cases h
      intro ca rd T A v A' hK;obtain⟨u,hu⟩:=AA5 hK;split at hu<;>cases hu
      rfl
   ·cases h
  ·cases h
 case h_17=>cases hc
 case h_18=>cases hc
 case h_19=>
  cases h;intro ca rd T A v A' hK;obtain⟨u,hu⟩:=AA5 hK;split at hu
  ·exact AFm hu
  ·cases hu
 case h_20=>cases hc
 case h_21=>cases hc
 case h_22=>exact AEM h hc
theorem AJ7{o:Oper}{K:OpK}(h:AA3 P o=.mk K)(hc:AEI o.op=false):ALv K:=by
 obtain⟨dst,op,ty,pos,af,gd⟩:=o;unfold AA3 at h;dsimp only at h hc;split at h
 case h_1=>cases hc
 case h_2=>cases hc
 case h_3=>
  unfold AG5 Bx.ap at h;cases hg:ADx P ⟨dst,_,ty,pos,af,gd⟩with
  |no=>rw[hg]at h;cases h
  |mk K0=>
   rw[hg]at h;cases h;intro ca rd T A v A' hK;dsimp only at hK;split at hK
   ·exact AEM hg hc ca rd T A v A' hK
   ·cases hK
 case h_4=>
  split at h
  ·split at h
   ·unfold ALU at h
    split at h
    ·cases h
     intro ca rd T A v A' hK;obtain⟨u,hu⟩:=AA5 hK;split at hu<;>cases hu
     rfl
    ·exact AEM h hc
   ·cases h
  ·cases h
 case h_5=>exact ALw h hc
theorem AHy(l m:List Value):eqV.eqVs l m=true->l=m:=by
 fun_induction eqV.eqVs l m<;>(try simp_all[AEt])<;>(intros;simp_all)
theorem AJU{a b:Value}:eqV a b=true->a=b:=by
 unfold eqV;split<;>intro h<;>(try simp only[Bool.and_eq_true,Nat.beq_eq,AEt,decide_eq_true_eq,beq_iff_eq]at h)<;>(try (simp_all;done))
 all_goals first
  |(have:=AHy _ _ h;exact congrArg _ (Array.toList_inj.1 this))
  |(obtain⟨⟨h1,h2⟩,h3⟩:=h;rw[h1,Array.toList_inj.1 (AHy _ _ h2),Array.toList_inj.1 (AHy _ _ h3)])
  |cases h
theorem AQq:∀(l m:List Value),eqL l m=true->l=m:=by
 intro l m
 fun_induction eqL l m<;>(try simp_all[AEt])<;>(intros;simp_all)
end
end
section
section
variable {P:Program}{nt:Nat}{ops:List Oper}{ca:vK}{rd:aZ}
def Pre(ops:List Oper)(L:Nat->Prop)(k:Nat):Prop:=∀o,ops[k]?=some o->∀e∈o.after.toList,Region.binds .any e=true->L e.on
theorem AN8{acc:List Nat}{i:Nat}:∀(es:List Edge)(m:Nat),(es.foldl (fun m e=>match Region.binds .any e with|true=>Nat.lor m (Nat.lor (Nat.shiftLeft 1 e.on) ((acc[e.on]?).getD 0))|false=>m) m).testBit i=true->
  m.testBit i=true\/∃e∈es,Region.binds .any e=true/\(e.on=i\/((acc[e.on]?).getD 0).testBit i=true):=by
 intro es
 induction es with
 |nil=>intro m h;exact .inl h
 |cons e es ih=>
  intro m h;simp only[List.foldl_cons]at h;rcases ih _ h with h|⟨e',h1,h2⟩
  ·cases hb:Region.binds .any e with
   |false=>rw[hb]at h;exact .inl h
   |true=>
    rw[hb]at h;dsimp only at h;change(m|||(1<<<e.on|||(acc[e.on]?).getD 0)).testBit i=true at h;rw[Nat.testBit_or,Nat.testBit_or,Bool.or_eq_true,Bool.or_eq_true]at h;rcases h with h|h|h
    ·exact .inl h
    ·refine .inr ⟨e,by simp,hb,.inl ?_⟩
     rw[Nat.one_shiftLeft,Nat.testBit_two_pow]at h;simpa using h
    ·exact .inr ⟨e,by simp,hb,.inr h⟩
  ·exact .inr ⟨e',by simp[h1],h2⟩
theorem AJ8{L:Nat->Prop}(hL:∀k,L k->Pre ops L k):∀(l:List Oper)(acc:List Nat),(∀k,l[k]?=ops[acc.length+k]?)->(∀k m,acc[k]?=some m->∀i,m.testBit i=true->Pre ops L k->L i)->
  ∀k m,(yP l acc)[k]?=some m->∀i,m.testBit i=true->Pre ops L k->L i:=by
 intro l
 induction l with
 |nil=>intro acc _ h k m hm i hi hk;exact h k m hm i hi hk
 |cons o l ih=>
  intro acc hl h;unfold yP;refine ih _ (fun k=>?_) fun k m hm i hi hk=>?_
  ·have:=hl (k+1)
   simp only[List.getElem?_cons_succ]at this;rw[this];simp[Nat.add_assoc,Nat.add_comm 1]
  ·rw[List.getElem?_append]at hm
   split at hm
   ·exact h k m hm i hi hk
   ·rename_i hge
    have hk0:k-acc.length=0:=by
     cases hz:k-acc.length with
     |zero=>rfl
     |succ z=>rw[hz]at hm;cases hm
    have hkk:k=acc.length:=by omega
    rw[hk0]at hm;cases hm;rcases AN8 _ _ hi with h0|⟨e,h1,h2,h3⟩
    ·simp at h0
    ·have ho:ops[k]?=some o:=by have:=hl 0;rw[hkk];simpa using this.symm
     have hle:=hk o ho e h1 h2;rcases h3 with rfl|h3
     ·exact hle
     ·cases ha:acc[e.on]? with
      |none=>rw[ha]at h3;simp at h3
      |some m'=>rw[ha]at h3;exact h e.on m' ha i h3 (hL _ hle)
theorem AAk{L:Nat->Prop}(hL:∀k,L k->Pre ops L k){k i:Nat}(h:(AAZ (yP ops []) k).testBit i=true)(hk:Pre ops L k):L i:=by
 unfold AAZ at h;cases hm:(yP ops [])[k]? with
 |none=>rw[hm]at h;simp at h
 |some m=>rw[hm]at h;exact AJ8 hL ops [] (by simp) (by simp) k m hm i h hk
structure TLr(ops:List Oper)(val:Nat->Value)(S:Nat->Prop)(T0 T:TP):Prop where
 out:∀j o x,ops[j]?=some o->S j->o.dst=some x->x<65535->xw (way 16 x) T=.mk (val j)
 old:∀x,x<65535->(∀j o,ops[j]?=some o->S j->o.dst≠some x)->xw (way 16 x) T=xw (way 16 x) T0
def AJV(ops:List Oper):Prop:=∀(j k:Nat)(o o':Oper)(x:Tmp),ops[j]?=some o->ops[k]?=some o'->o.dst=some x->o'.dst=some x->j=k
theorem TLr.put{T0 T:TP}{val:Nat->Value}{S:Nat->Prop}(h:TLr ops val S T0 T)(hU:AJV ops){i:Nat}{o:Oper}(ho:ops[i]?=some o){D:Value->TP->TP}(hD:AAi nt o.dst=.mk D)(v:Value){val':Nat->Value}(hv:val' i=v)(hvo:∀j,j≠i->S j->val' j=val j)
  {S':Nat->Prop} (hS:∀k,S' k↔(S k\/k=i)):TLr ops val' S' T0 (D v T):=by
 cases hd:o.dst with
 |none=>
  rw[hd]at hD;cases hD;refine⟨fun j o' x h1 h2 h3 h4=>?_,fun x hx h1=>?_⟩
  ·by_cases e:j=i
   ·subst e;rw[ho]at h1;cases h1;rw[hd]at h3;cases h3
   ·have:=(hS j).1 h2
    have hj:S j:=this.resolve_right e;rw[hvo j e hj];exact h.out j o' x h1 hj h3 h4
  ·exact h.old x hx fun j o' h2 h3=>h1 j o' h2 ((hS j).2 (.inl h3))
 |some d=>
  rw[hd]at hD;simp only[AAi]at hD;split at hD
  ·rename_i hb
   cases hD;simp only[Bool.and_eq_true,Nat.blt_eq]at hb;refine⟨fun j o' x h1 h2 h3 h4=>?_,fun x hx h1=>?_⟩
   ·rw[zk]
    by_cases e:j=i
    ·subst e
     rw[ho]at h1;cases h1;rw[hd]at h3;cases h3;rw[if_pos rfl,hv]
    ·have hne:x≠d:=fun ex=>e (hU j i o' o d h1 ho (ex▸h3) hd)
     rw[if_neg (fun ew=>hne (ABO h4 hb.2 ew))];have hj:S j:=((hS j).1 h2).resolve_right e;rw[hvo j e hj];exact h.out j o' x h1 hj h3 h4
   ·rw[zk]
    have hne:x≠d:=fun ex=>h1 i o ho ((hS i).2 (.inr rfl)) (ex▸hd);rw[if_neg (fun ew=>hne (ABO hx hb.2 ew))];exact h.old x hx fun j o' h2 h3=>h1 j o' h2 ((hS j).2 (.inl h3))
  ·cases hD
def uj(l:List Pl):Nat:=(l.filter (·.act)).length
theorem AN9{α:Type}(f:Nat->α){t lo r:Nat}(h1:lo<=r)(h2:r<t):f r∈(((List.range t).reverse.map f).take (t-lo)):=by
 rw[List.mem_iff_getElem?];refine⟨t-1-r,?_⟩;rw[List.getElem?_take_of_lt (by omega),List.getElem?_map,List.getElem?_reverse (by simp;omega)];simp;rw[List.getElem?_range (by omega)];simp
 congr 1
 omega
structure PlF(P:Program)(nt:Nat)(ops:List Oper)(ca:vK)(rd:aZ)(T0:TP)(val:Nat->Value)(As:Nat->AH)(m:Nat)(p:Pl)(s:Nat)(S:Nat->Prop):Prop where
 ex:∃Tp w,TLr ops val S T0 Tp/\AIu ops p.o Tp=some w/\(∃D,AAi nt p.o.dst=.mk D)/\(w=false->val p.j=undef/\(p.act=true->As (s+1)=As s))/\
  (w=true->∃K,AA3 P p.o=.mk K/\(p.act=true->K ca rd (ACY (ADC p.o.op.operands.toList) Tp) (As s)=.ok (val p.j) (As (s+1)))/\
   (p.act=false->∀r,p.lo<=r->r<=p.hi->r<=m->∃A',K ca rd (ACY (ADC p.o.op.operands.toList) Tp) (As r)=.ok (val p.j) A'))
def Ag(P:Program)(ca:vK)(rd:aZ)(p:Pend)(A:AH):Prop:=∀K,AA3 P p.o=.mk K->∃A',K ca rd p.T A=.ok p.v A'
def StF(A:AH)(q:Fresh):Prop:=YA A.t q.b=some (.cells q.cs q.e 0)
theorem AJW{p:Pend}{A:AH}(h:again P ca rd p A=true):Ag P ca rd p A:=by
 intro K hK;unfold again at h;rw[hK]at h;change(match K ca rd p.T A with|.ok v _=>eqV v p.v|.no _ _=>false)=true at h;split at h
 ·rename_i v A' hv
  rw[AJU h]at hv;exact⟨A',hv⟩
 ·cases h
theorem AIQ{A:AH}{q:Fresh}(h:AG7 A q=true):StF A q:=by
 unfold AG7 at h;unfold StF;split at h
 ·rename_i cs e hg
  simp only[Bool.and_eq_true,Nat.beq_eq]at h;rw[hg,h.1,AQq _ _ h.2]
 ·cases h
def GoR(P:Program)(nt:Nat)(ops:List Oper)(ca:vK)(rd:aZ)(T0:TP)(fr:List Fresh)(l:List Pl)(t:Nat)(A:AH)(ps:List Pend)(val0:Nat->Value)(As0:Nat->AH)(Tf:TP)(Af:AH):Prop:=
  ∃(val:Nat->Value)(As:Nat->AH),(∀j,j∉l.map Pl.j->val j=val0 j)/\(∀s,s<t->As s=As0 s)/\As t=A/\As (t+uj l)=Af/\TLr ops val (fun _=>True) T0 Tf/\
   (∀l1 p l2,l=l1++p::l2->PlF P nt ops ca rd T0 val As (t+uj l) p (t+uj l1) (fun k=>k∉(p::l2).map Pl.j))/\
   (∀q∈ps,∀s,t<=s->s<=t+uj l->s<=q.hi->Ag P ca rd q (As s))/\
   (∀q∈fr,∀s,t<=s->s<=t+uj l->s<=q.hi->StF (As s) q)
theorem AOB{T0:TP}(hU:AJV ops){fr:List Fresh}:∀(l:List Pl)(t:Nat)(T:TP)(A:AH)(hs:List AH)(ps:List Pend)(val0:Nat->Value)(As0:Nat->AH)(Tf:TP)(Af:AH),(l.map Pl.j).Nodup->(∀p∈l,ops[p.j]?=some p.o)->
  TLr ops val0 (fun k=>k∉l.map Pl.j) T0 T->hs=(List.range t).reverse.map As0->(∀q∈ps,t<=q.hi->Ag P ca rd q A)->(∀q∈fr,t<=q.hi->StF A q)->goD P nt ops ca rd fr l t T A hs ps=some (Tf,Af)->
  GoR P nt ops ca rd T0 fr l t A ps val0 As0 Tf Af:=by
 intro l
 induction l with
 |nil=>
  intro t T A hs ps val0 As0 Tf Af _ _ hT hhs hps hfr h;simp only[goD]at h;cases h;refine⟨val0,fun s=>if s=t then A else As0 s,fun _ _=>rfl,fun s hs=>if_neg (by omega),if_pos rfl,if_pos rfl,⟨fun j o x h1 _ h3 h4=>hT.out j o x h1 (by simp) h3 h4,fun x hx h1=>hT.old x hx fun j o h2 _=>h1 j o h2 trivial⟩,?_,?_,?_⟩
  ·intro l1 p l2 e;cases l1<;>cases e
  ·intro q hq s h1 h2 h3
   have e:s=t:=by simp[uj]at h2;omega
   subst e;dsimp only;rw[if_pos rfl];exact hps q hq h3
  ·intro q hq s h1 h2 h3
   have e:s=t:=by simp[uj]at h2;omega
   subst e;dsimp only;rw[if_pos rfl];exact hfr q hq h3
 |cons p l ih=>
  intro t T A hs ps val0 As0 Tf Af hnd hop hT hhs hps hfr h;simp only[List.map_cons,List.nodup_cons]at hnd;have hpo:=hop p (by simp);simp only[goD]at h;cases hw:AIu ops p.o T with
  |none=>rw[hw]at h;cases h
  |some w=>
   rw[hw]at h;dsimp only at h;obtain⟨D,hD,h⟩:=KN h (by intro e;cases e);have hT':∀v,TLr ops (fun j=>if j=p.j then v else val0 j) (fun k=>k∉l.map Pl.j) T0 (D v T):=fun v=>
    hT.put hU hpo hD v (if_pos rfl) (fun j hj _=>if_neg hj) fun k=>by
     simp only[List.map_cons,List.mem_cons,not_or];constructor
     ·intro hk
      by_cases e:k=p.j
      ·exact .inr e
      ·exact .inl ⟨e,hk⟩
     ·rintro(h|rfl)
      ·exact h.2
      ·exact hnd.1
   have hop':∀q∈l,ops[q.j]?=some q.o:=fun q hq=>hop q (by simp[hq]);have hrange:A::hs=(List.range (t+1)).reverse.map (fun s=>if s=t then A else As0 s):=by
    rw[List.range_succ,List.reverse_append,hhs];simp only[List.reverse_cons,List.reverse_nil,List.nil_append,List.cons_append,List.map_cons,if_true,List.cons.injEq,true_and];exact List.map_congr_left fun s hs=>(if_neg (by
        have:s<t:=by simpa using hs
        omega)).symm
   have fin:∀(v:Value)(val:Nat->Value)(As:Nat->AH)(d:Nat),(d=if p.act then 1 else 0)->(∀j,j∉l.map Pl.j->val j=if j=p.j then v else val0 j)->
     (∀l1 q l2,l=l1++q::l2->PlF P nt ops ca rd T0 val As (t+d+uj l) q (t+d+uj l1) (fun k=>k∉(q::l2).map Pl.j))->
     PlF P nt ops ca rd T0 val As (t+uj (p::l)) p t (fun k=>k∉(p::l).map Pl.j)->
     (∀j,j∉(p::l).map Pl.j->val j=val0 j)/\
     (∀l1 q l2,p::l=l1++q::l2->PlF P nt ops ca rd T0 val As (t+uj (p::l)) q (t+uj l1) (fun k=>k∉(q::l2).map Pl.j)):=by
    intro v val As d hd hval hpl hp;refine⟨fun j hj=>?_,fun l1 q l2 e=>?_⟩
    ·simp only[List.map_cons,List.mem_cons,not_or]at hj
     rw[hval j hj.2,if_neg hj.1]
    ·cases l1 with
     |nil=>cases e;simpa[uj]using hp
     |cons q1 l1=>
      simp only[List.cons_append,List.cons.injEq]at e;obtain⟨rfl,rfl⟩:=e;have:=hpl l1 q l2 rfl;have hn:t+d+uj (l1++q::l2)=t+uj (p::(l1++q::l2)):=by
       rw[hd];unfold uj;rw[List.filter_cons];split<;>simp<;>omega
      rw[hn]at this;have e2:t+d+uj l1=t+uj (p::l1):=by
       rw[hd];unfold uj;rw[List.filter_cons];split<;>simp<;>omega
      rw[e2]at this;exact this
   have hvalT:∀(v:Value)(val:Nat->Value),(∀j,j∉l.map Pl.j->val j=if j=p.j then v else val0 j)->TLr ops val (fun k=>k∉(p::l).map Pl.j) T0 T:=by
    intro v val hval;refine⟨fun j o x h1 h2 h3 h4=>?_,hT.old⟩;rw[hT.out j o x h1 h2 h3 h4];have h2':=h2;simp only[List.map_cons,List.mem_cons,not_or]at h2';rw[hval j h2'.2,if_neg h2'.1]
   have hvalp:∀(v:Value)(val:Nat->Value),(∀j,j∉l.map Pl.j->val j=if j=p.j then v else val0 j)->val p.j=v:=fun v val hval=>by rw[hval _ hnd.1,if_pos rfl]
   have act:∀(v:Value)(A':AH),p.act=true->(∀q∈ps,t+1<=q.hi->Ag P ca rd q A')->(∀q∈fr,t+1<=q.hi->StF A' q)->goD P nt ops ca rd fr l (t+1) (D v T) A' (A::hs) ps=some (Tf,Af)->
     (∀(val:Nat->Value)(As:Nat->AH),val p.j=v->TLr ops val (fun k=>k∉(p::l).map Pl.j) T0 T->As t=A->As (t+1)=A'->PlF P nt ops ca rd T0 val As (t+uj (p::l)) p t (fun k=>k∉(p::l).map Pl.j))->GoR P nt ops ca rd T0 fr (p::l) t A ps val0 As0 Tf Af:=by
    intro v A' hact k1 k2 hg hpl;obtain⟨val,As,i1,i2,i3,i4,i5,i6,i7,i8⟩:=ih (t+1) (D v T) A' (A::hs) ps _ (fun s=>if s=t then A else As0 s) Tf Af hnd.2 hop' (hT' v) hrange k1 k2 hg;have e0:As t=A:=(i2 t (by omega)).trans (if_pos rfl);have hn:t+1+uj l=t+uj (p::l):=by unfold uj;rw[List.filter_cons,hact];simp;omega
    obtain⟨f1,f3⟩:=fin v val As 1 (by rw[hact];rfl) i1 i6 (hpl val As (hvalp v val i1) (hvalT v val i1) e0 i3);exact⟨val,As,f1,fun s hs=>(i2 s (by omega)).trans (if_neg (by omega)),e0,by rw[<-hn];exact i4,i5,f3,fun q hq s h1 h2 h3=>by
      by_cases e:s=t
      ·rw[e,e0];exact hps q hq (by omega)
      ·exact i7 q hq s (by omega) (by omega) h3,fun q hq s h1 h2 h3=>by
      by_cases e:s=t
      ·rw[e,e0];exact hfr q hq (by omega)
      ·exact i8 q hq s (by omega) (by omega) h3⟩
   have calm:∀(v:Value)(ps':List Pend),p.act=false->(∀q∈ps,q∈ps')->(∀q∈ps',t<=q.hi->Ag P ca rd q A)->goD P nt ops ca rd fr l t (D v T) A hs ps'=some (Tf,Af)->
     (∀(val:Nat->Value)(As:Nat->AH),val p.j=v->TLr ops val (fun k=>k∉(p::l).map Pl.j) T0 T->(∀s,s<t->As s=As0 s)->As t=A->(∀q∈ps',∀s,t<=s->s<=t+uj (p::l)->s<=q.hi->Ag P ca rd q (As s))->PlF P nt ops ca rd T0 val As (t+uj (p::l)) p t (fun k=>k∉(p::l).map Pl.j))->GoR P nt ops ca rd T0 fr (p::l) t A ps val0 As0 Tf Af:=by
    intro v ps' hact hsub k1 hg hpl;obtain⟨val,As,i1,i2,i3,i4,i5,i6,i7,i8⟩:=ih t (D v T) A hs ps' _ As0 Tf Af hnd.2 hop' (hT' v) hhs k1 hfr hg;have hn:t+uj l=t+uj (p::l):=by unfold uj;rw[List.filter_cons,hact];simp
    rw[hn]at i4 i7 i8;obtain⟨f1,f3⟩:=fin v val As 0 (by rw[hact];rfl) i1 i6 (hpl val As (hvalp v val i1) (hvalT v val i1) i2 i3 i7);exact⟨val,As,f1,i2,i3,i4,i5,f3,fun q hq=>i7 q (hsub q hq),i8⟩
   cases w with
   |false=>
    dsimp only at h;cases hact:p.act with
    |true=>
     rw[hact]at h;exact act undef A hact (fun q hq h1=>hps q hq (by omega)) (fun q hq h1=>hfr q hq (by omega)) h fun val As h1 h2 h3 h4=>
      ⟨T,false,h2,hw,⟨D,hD⟩,fun _=>⟨h1,fun _=>h4.trans h3.symm⟩,(fun e=>by cases e)⟩
    |false=>
     rw[hact]at h;exact calm undef ps hact (fun _ h=>h) hps h fun val As h1 h2 h3 h4 h5=>
      ⟨T,false,h2,hw,⟨D,hD⟩,fun _=>⟨h1,fun e=>by rw[hact]at e;cases e⟩,(fun e=>by cases e)⟩
   |true=>
    dsimp only at h;obtain⟨K,hK,h⟩:=KN h (by intro e;cases e);split at h
    ·cases h
    ·rename_i v A' hk
     cases hact:p.act with
     |true=>
      rw[hact]at h;dsimp only at h;split at h
      ·rename_i hb
       simp only[Bool.and_eq_true,List.all_eq_true,Bool.or_eq_true,Nat.blt_eq]at hb;exact act v A' hact (fun q hq h1=>(hb.1 q hq).elim (fun h2=>by omega) AJW) (fun q hq h1=>(hb.2 q hq).elim (fun h2=>by omega) AIQ) h fun val As h1 h2 h3 h4=>
        ⟨T,true,h2,hw,⟨D,hD⟩,(fun e=>by cases e),fun _=>⟨K,hK,fun _=>by rw[h1,h3,h4];exact hk,fun e=>by rw[hact]at e;cases e⟩⟩
      ·cases h
     |false=>
      rw[hact]at h;dsimp only at h;split at h
      ·rename_i hb
       simp only[List.all_eq_true]at hb;have hnew:Ag P ca rd ⟨p.o,ACY (ADC p.o.op.operands.toList) T,v,p.hi⟩ A:=fun K' hK'=>by
        rw[hK]at hK';cases hK';exact⟨A',hk⟩
       refine calm v _ hact (fun q hq=>List.mem_cons_of_mem _ hq) (fun q hq h1=>?_) h fun val As h1 h2 h3 h4 h5=>
        ⟨T,true,h2,hw,⟨D,hD⟩,(fun e=>by cases e),fun _=>⟨K,hK,(fun e=>by rw[hact]at e;cases e),fun _ r r1 r2 r3=>?_⟩⟩
       ·rcases List.mem_cons.1 hq with rfl|hq
        ·exact hnew
        ·exact hps q hq h1
       ·rw[h1]
        by_cases hr:r<t
        ·rw[h3 r hr]
         have:=hb _ (by rw[hhs];exact AN9 As0 r1 hr);exact AJW this K hK
        ·exact h5 _ List.mem_cons_self r (by omega) r3 r2 K hK
      ·cases h
end
end
section
section
variable {P:Program}{nt:Nat}{ops:List Oper}{ca:vK}{rd:aZ}
theorem AMl{T:TP}{x:Nat}(hx:x<65535){v:Value}:∀{l:List Nat},xw (way 16 x) (ACY l T)=.mk v->x∈l/\xw (way 16 x) T=.mk v:=by
 intro l
 induction l with
 |nil=>intro h;rw[ACY,AAp]at h;cases h
 |cons y l ih=>
  intro h;unfold ACY at h;split at h
  ·rename_i hy
   rw[Nat.blt_eq]at hy;split at h
   ·rename_i u hu
    rw[zk]at h;split at h
    ·rename_i he
     have:=ABO hx hy he;subst this;cases h;exact⟨by simp,hu⟩
    ·obtain⟨h1,h2⟩:=ih h
     exact⟨by simp[h1],h2⟩
   ·obtain⟨h1,h2⟩:=ih h
    exact⟨by simp[h1],h2⟩
  ·obtain⟨h1,h2⟩:=ih h
   exact⟨by simp[h1],h2⟩
theorem ACZ{j:Nat}{o:Oper}:(j,o)∈ADz ops↔ops[j]?=some o:=by
 unfold ADz;rw[List.mem_iff_getElem?];constructor
 ·rintro⟨i,hi⟩
  rw[List.getElem?_zip_eq_some]at hi;obtain⟨h1,h2⟩:=hi;rw[List.getElem?_range (by
   have:=(List.getElem?_eq_some_iff.1 h1).1;simpa using this)]at h1
  cases h1;exact h2
 ·intro h
  refine⟨j,?_⟩;rw[List.getElem?_zip_eq_some];exact⟨List.getElem?_range (List.getElem?_eq_some_iff.1 h).1,h⟩
theorem AHR:(ADz ops).map (·.1)=List.range ops.length:=by
 unfold ADz;rw[List.map_fst_zip (by simp)]
theorem ACD{j:Nat}{o:Oper}:(j,o)∈zo ops↔ops[j]?=some o/\yE o=false:=by
 unfold zo;rw[List.mem_filter,ACZ];simp
theorem AB0{j:Nat}{o:Oper}:(j,o)∈ACu ops↔ops[j]?=some o/\yE o=true:=by
 unfold ACu;rw[List.mem_filter,ACZ]
theorem AEc:((zo ops).map (·.1)).Pairwise (·<·):=by
 have:((zo ops).map (·.1)).Sublist (List.range ops.length):=by
  rw[<-AHR (ops:=ops)];exact(List.filter_sublist).map _
 exact List.pairwise_lt_range.sublist this
theorem AJX:((ACu ops).map (·.1)).Nodup:=by
 have:((ACu ops).map (·.1)).Sublist (List.range ops.length):=by
  rw[<-AHR (ops:=ops)];exact(List.filter_sublist).map _
 exact List.nodup_range.sublist this
theorem ACE:(yx ops).map Pl.j=(zo ops).map (·.1):=by
 unfold yx;simp
theorem AFK{p:Pl}(h:p∈yx ops):ops[p.j]?=some p.o/\yE p.o=false/\p.act=AEI p.o.op/\p.lo=((AAa (zo ops)).filter fun a=>(AAZ (yP ops []) p.j).testBit a).length/\p.hi=AFE (yP ops []) p.j (AAa (zo ops)) 0:=by
 unfold yx at h;simp only[List.mem_map]at h;obtain⟨⟨j,o⟩,h1,rfl⟩:=h;obtain⟨h2,h3⟩:=ACD.1 h1;exact⟨h2,h3,rfl,rfl,rfl⟩
theorem AEN:((yx ops).filter (·.act)).map Pl.j=AAa (zo ops):=by
 unfold yx AAa;simp only[List.filter_map,List.map_map]
 rfl
structure OkDs(ops:List Oper):Prop where
 chain:AA4 (yP ops []) (AAa (zo ops))=true
 after:∀j o,ops[j]?=some o->∀e∈o.after.toList,Region.binds .any e=true->e.on<j
 guard:∀(j:Nat)(o:Oper)(g:Nat)(w:Bool),ops[j]?=some o->o.guard=some (g,w)->(∃d,(ops[g]?).bind (·.dst)=some d)/\(AAZ (yP ops []) j).testBit g=true
 uniq:AJV ops
 looks:∀(j:Nat)(o:Oper)(x:Tmp)(k:Nat)(q:Oper),ops[j]?=some o->o.dst=some x->ops[k]?=some q->x∈looks ops q->k=j\/(AAZ (yP ops []) k).testBit j=true\/(AAZ (yP ops []) j).testBit k=true
theorem AMm(h:okD ops=true):OkDs ops:=by
 unfold okD at h;simp only[Bool.and_eq_true,List.all_eq_true]at h;obtain⟨hc,hp⟩:=h;have key:∀j o,ops[j]?=some o->_:=fun j o ho=>hp (j,o) (ACZ.2 ho);refine⟨hc,fun j o ho e he hb=>?_,fun j o g w ho hg=>?_,fun j k o o' x ho ho' hd hd'=>?_,fun j o x k q ho hd hq hx=>?_⟩
 ·have:=(key j o ho).1.1 e he
  rw[hb]at this;simpa[Nat.blt_eq]using this
 ·have:=(key j o ho).1.2
  rw[hg]at this;simp only[Bool.and_eq_true,Option.isSome_iff_exists]at this;exact this
 ·have:=(key j o ho).2
  rw[hd]at this;simp only[List.all_eq_true]at this;have h2:=this (k,o') (ACZ.2 ho');simp only[Bool.or_eq_true,Nat.beq_eq,Bool.and_eq_true]at h2;rcases h2 with h2|h2
  ·exact h2.symm
  ·simp[hd']at h2
 ·have:=(key j o ho).2
  rw[hd]at this;simp only[List.all_eq_true]at this;have h2:=this (k,q) (ACZ.2 hq);simp only[Bool.or_eq_true,Nat.beq_eq,Bool.and_eq_true,Bool.not_eq_true',List.contains_eq_mem,decide_eq_false_iff_not]at h2;rcases h2 with h2|⟨_,h2⟩
  ·exact .inl h2
  ·rcases h2 with(h2|h2)|h2
   ·exact absurd hx h2
   ·exact .inr (.inl h2)
   ·exact .inr (.inr h2)
theorem OkDs.low(h:OkDs ops){k i:Nat}{o:Oper}(ho:ops[k]?=some o)(hb:(AAZ (yP ops []) k).testBit i=true):i<k:=by
 refine AAk (L:=fun i=>i<k) (fun j hj o' ho' e he hbd=>Nat.lt_trans (h.after j o' ho' e he hbd) hj) hb ?_;intro o' ho' e he hbd;exact h.after k o' ho' e he hbd
theorem ALx{j:Nat}{o:Oper}(ho:ops[j]?=some o)(ha:yE o=true)(i:Nat):(AAZ (yP ops []) j).testBit i=false:=by
 cases hb:(AAZ (yP ops []) j).testBit i with
 |false=>rfl
 |true=>
  refine(AAk (ops:=ops) (L:=fun _=>False) (fun _ h=>h.elim) hb ?_:False).elim;intro o' ho' e he;rw[ho]at ho';cases ho';unfold yE at ha;split at ha
  ·simp only[Bool.and_eq_true,List.isEmpty_iff]at ha
   rw[ha.1]at he;cases he
  ·cases ha
theorem AOC{o:Oper}(ha:yE o=true):(∃t,o.op=.alloc t)/\o.guard=none:=by
 unfold yE at ha;split at ha
 ·rename_i t ht
  simp only[Bool.and_eq_true,Option.isNone_iff_eq_none]at ha;exact⟨⟨t,ht⟩,ha.2⟩
 ·cases ha
section
variable {L:Nat->Bool}
def ADE(ops:List Oper)(L:Nat->Bool):Prop:=∀k,L k=true->Pre ops (fun i=>L i=true) k
theorem AHS(hL:ADE ops L):∀(az:List Nat)(a:Nat),AA4 (yP ops []) (a::az)=true->L a=false->(a::az).filter L=[]:=by
 intro az
 induction az with
 |nil=>intro a _ h;simp[h]
 |cons b az ih=>
  intro a hc ha;simp only[AA4,Bool.and_eq_true]at hc;have hb:L b=false:=by
   cases hb:L b with
   |false=>rfl
   |true=>
    have:=AAk (L:=fun i=>L i=true) hL hc.1 (hL b hb);rw[ha]at this;cases this
  rw[List.filter_cons,ha];exact ih b hc.2 hb
theorem AMn(hL:ADE ops L){i:Nat}(hi:L i=false):∀(az:List Nat)(n:Nat),AA4 (yP ops []) az=true->(az.filter L).length+n<=AFE (yP ops []) i az n:=by
 intro az
 induction az with
 |nil=>intro n _;simp[AFE]
 |cons a az ih=>
  intro n hc;unfold AFE;split
  ·rename_i hb
   have ha:L a=false:=by
    cases ha:L a with
    |false=>rfl
    |true=>
     have:=AAk (L:=fun i=>L i=true) hL hb (hL a ha);rw[hi]at this;cases this
   rw[AHS hL az a hc ha];simp
  ·have hc':AA4 (yP ops []) az=true:=by
    cases az with
    |nil=>rfl
    |cons b az=>simp only[AA4,Bool.and_eq_true]at hc;exact hc.2
   have:=ih (n+1) hc';rw[List.filter_cons];split
   ·simp only[List.length_cons];omega
   ·omega
theorem AQs{i:Nat}(hL:ADE ops L)(hi:Pre ops (fun k=>L k=true) i)(az:List Nat):(az.filter fun a=>(AAZ (yP ops []) i).testBit a).length<=(az.filter L).length:=by
 rw[<-List.countP_eq_length_filter,<-List.countP_eq_length_filter];exact List.countP_mono_left fun a _ h=>AAk (L:=fun i=>L i=true) hL h hi
theorem AMo(hL:ADE ops L):∀(l1:List Nat)(a:Nat)(l2:List Nat),AA4 (yP ops []) (l1++a::l2)=true->Pre ops (fun k=>L k=true) a->l1.filter L=l1:=by
 intro l1
 induction l1 with
 |nil=>intro a l2 _ _;rfl
 |cons b l1 ih=>
  intro a l2 hc ha;cases l1 with
  |nil=>
   simp only[List.cons_append,List.nil_append,AA4,Bool.and_eq_true]at hc;have:=AAk (L:=fun i=>L i=true) hL hc.1 ha;simp[this]
  |cons c l1=>
   simp only[List.cons_append,AA4,Bool.and_eq_true]at hc;have h1:=ih a l2 hc.2 ha;have hcL:L c=true:=by
    have:=List.filter_eq_self.1 h1 c (by simp);exact this
   have:=AAk (L:=fun i=>L i=true) hL hc.1 (hL c hcL);rw[List.filter_cons,this,if_pos rfl,h1]
theorem ALy:∀(l1 l2:List Nat),AA4 (yP ops []) (l1++l2)=true->AA4 (yP ops []) l2=true:=by
 intro l1
 induction l1 with
 |nil=>intro l2 h;exact h
 |cons b l1 ih=>
  intro l2 h;refine ih l2 ?_;cases hz:l1++l2 with
  |nil=>rfl
  |cons c l=>
   rw[List.cons_append,hz]at h;simp only[AA4,Bool.and_eq_true]at h;exact h.2
end
theorem AMp{T0:TP}(hU:AJV ops){ms az:List Nat}:∀(l:List (Nat×Oper))(T:TP)(A:AH)(val0:Nat->Value)(S:Nat->Prop)(T':TP)(A':AH)(fs:List Fresh),(l.map (·.1)).Nodup->(∀p∈l,ops[p.1]?=some p.2/\¬S p.1)->TLr ops val0 S T0 T->AJA P nt ms az l T A=some (T',A',fs)->
  ∃(val:Nat->Value)(bid:Nat->Nat),(∀j,j∉l.map (·.1)->val j=val0 j)/\TLr ops val (fun k=>S k\/k∈l.map (·.1)) T0 T'/\A.next<=A'.next/\(∀b x,YA A'.t b=some x->b<A.next->YA A.t b=some x)/\
   (∀p∈l,∃t z,p.2.op=.alloc t/\(P.info? t).bind (·.zero)=some z/\(∃D,AAi nt p.2.dst=.mk D)/\val p.1=.pointer (some ⟨bid p.1,0,none⟩)/\A.next<=bid p.1/\bid p.1<A'.next/\(⟨bid p.1,t,z.cells.toList,AFE ms p.1 az 0⟩:Fresh)∈fs)/\
   (∀p∈l,∀q∈l,bid p.1=bid q.1->p.1=q.1):=by
 intro l
 induction l with
 |nil=>
  intro T A val0 S T' A' fs _ _ hT h;simp only[AJA]at h;cases h;exact⟨val0,fun _=>0,fun _ _=>rfl,⟨fun j o x h1 h2=>hT.out j o x h1 (h2.resolve_right (by simp)),fun x hx h1=>hT.old x hx fun j o h2 h3=>h1 j o h2 (.inl h3)⟩,Nat.le_refl _,fun _ _ h _=>h,by simp,by simp⟩
 |cons p l ih=>
  obtain⟨j,o⟩:=p;intro T A val0 S T' A' fs hnd hop hT h;simp only[List.map_cons,List.nodup_cons]at hnd;obtain⟨ho,hS⟩:=hop (j,o) (by simp);dsimp only at ho hS hnd;simp only[AJA]at h;split at h
  ·rename_i t ht
   split at h
   ·rename_i z hz
    obtain⟨D,hD,h⟩:=KN h (by intro e;cases e);split at h
    ·rename_i T1 A1 fs1 h1
     cases h;have hT1:TLr ops (fun k=>if k=j then .pointer (some ⟨A.next,0,none⟩)else val0 k) (fun k=>S k\/k=j) T0 (D (.pointer (some ⟨A.next,0,none⟩)) T):=
      hT.put hU ho hD _ (if_pos rfl) (fun k hk _=>if_neg hk) fun k=>Iff.rfl
     have hop2:∀p∈l,ops[p.1]?=some p.2/\¬(S p.1\/p.1=j):=fun p hp=>⟨(hop p (by simp[hp])).1,fun h=>h.elim (hop p (by simp[hp])).2 fun e=>hnd.1 (e▸List.mem_map_of_mem (f:=(·.1)) hp)⟩;obtain⟨val,bid,i1,i2,i3,i4,i5,i6⟩:=ih _ _ _ _ _ _ _ hnd.2 hop2 hT1 h1;have hnx:(A.push (.cells z.cells.toList t 0)).next=A.next+1:=by cases A;rfl
     rw[hnx]at i3 i4 i5;have hne:∀p∈l,p.1≠j:=fun p hp e=>hnd.1 (e▸List.mem_map_of_mem (f:=(·.1)) hp);refine⟨val,fun k=>if k=j then A.next else bid k,fun k hk=>?_,⟨fun k o' x h2 h3=>i2.out k o' x h2 ?_,fun x hx h2=>i2.old x hx fun k o' h3 h4=>h2 k o' h3 ?_⟩,by omega,fun b x hb hlt=>?_,fun p hp=>?_,fun p hp q hq he=>?_⟩
     ·simp only[List.map_cons,List.mem_cons,not_or]at hk
      rw[i1 k hk.2,if_neg hk.1]
     ·simp only[List.map_cons,List.mem_cons]at h3
      rcases h3 with h3|h3|h3
      ·exact .inl (.inl h3)
      ·exact .inl (.inr h3)
      ·exact .inr h3
     ·simp only[List.map_cons,List.mem_cons]
      rcases h4 with(h4|h4)|h4
      ·exact .inl h4
      ·exact .inr (.inl h4)
      ·exact .inr (.inr h4)
     ·have:=i4 b x hb (by omega)
      cases A with|mk n tr=>
      rcases AAy this with⟨e,_⟩|⟨_,h2⟩
      ·dsimp only at hlt;omega
      ·exact h2
     ·rcases List.mem_cons.1 hp with rfl|hp
      ·refine⟨t,z,ht,hz,⟨D,hD⟩,?_,?_,?_,?_⟩
       ·dsimp only;rw[i1 j hnd.1,if_pos rfl,if_pos rfl]
       ·dsimp only;rw[if_pos rfl];exact Nat.le_refl _
       ·dsimp only;rw[if_pos rfl];omega
       ·dsimp only;rw[if_pos rfl];simp
      ·obtain⟨t',z',k1,k2,k3,k4,k5,k6,k7⟩:=i5 p hp
       refine⟨t',z',k1,k2,k3,?_,?_,?_,?_⟩
       ·dsimp only;rw[if_neg (hne p hp)];exact k4
       ·dsimp only;rw[if_neg (hne p hp)];omega
       ·dsimp only;rw[if_neg (hne p hp)];exact k6
       ·dsimp only;rw[if_neg (hne p hp)];exact List.mem_cons_of_mem _ k7
     ·dsimp only at he
      rcases List.mem_cons.1 hp with rfl|hp<;>rcases List.mem_cons.1 hq with rfl|hq
      ·rfl
      ·rw[if_pos rfl,if_neg (hne q hq)]at he
       obtain⟨_,_,_,_,_,_,k5,_⟩:=i5 q hq;omega
      ·rw[if_pos rfl,if_neg (hne p hp)]at he
       obtain⟨_,_,_,_,_,_,k5,_⟩:=i5 p hp;omega
      ·rw[if_neg (hne p hp),if_neg (hne q hq)]at he
       exact i6 p hp q hq he
    ·cases h
   ·cases h
  ·cases h
end
end
section
section
variable {P:Program}{w0:W0}{nt:Nat}{ca:vK}{rd:aZ}
structure Reg(P:Program)(nt:Nat)(ops:List Oper)(ca:vK)(rd:aZ)(T0:TP)(A0:AH)(Tf:TP)(Af:AH)(val:Nat->Value)(bid:Nat->Nat)(As:Nat->AH):Prop where
 ok:OkDs ops
 fin:TLr ops val (fun _=>True) T0 Tf
 last:As (uj (yx ops))=Af
 pl:∀l1 p l2,yx ops=l1++p::l2->PlF P nt ops ca rd T0 val As (uj (yx ops)) p (uj l1) (fun k=>k∉(p::l2).map Pl.j)
 al:∀j o,ops[j]?=some o->yE o=true->∃t z,o.op=.alloc t/\(P.info? t).bind (·.zero)=some z/\(∃D,AAi nt o.dst=.mk D)/\val j=.pointer (some ⟨bid j,0,none⟩)/\A0.next<=bid j/\bid j<(As 0).next/\
  ∀s,s<=uj (yx ops)->s<=AFE (yP ops []) j (AAa (zo ops)) 0->YA (As s).t (bid j)=some (.cells z.cells.toList t 0)
 inj:∀j k o o',ops[j]?=some o->ops[k]?=some o'->yE o=true->yE o'=true->bid j=bid k->j=k
 next:A0.next<=(As 0).next
 old:∀b x,YA (As 0).t b=some x->b<A0.next->YA A0.t b=some x
theorem AMq{ops:List Oper}{L:vK->aZ->TP->AH->Option (TP×AH)}(h:ALX P nt ops=.mk L){T0:TP}{A0:AH}{Tf:TP}{Af:AH}(hL:L ca rd T0 A0=some (Tf,Af)):∃val bid As,Reg P nt ops ca rd T0 A0 Tf Af val bid As:=by
 unfold ALX at h;split at h
 ·cases h
 ·rename_i hok
  cases h;have hO:=AMm hok;dsimp only at hL;split at hL
  ·rename_i T1 A1 fs h1
   split at hL
   ·rename_i hst
    obtain⟨val1,bid,i1,i2,i3,i4,i5,i6⟩:=AMp hO.uniq (ACu ops) T0 A0 (fun _=>undef) (fun _=>False) T1 A1 fs AJX (fun p hp=>⟨(AB0.1 hp).1,id⟩) ⟨fun _ _ _ _ h=>h.elim,fun _ _ _=>rfl⟩ h1;have hT1:TLr ops val1 (fun k=>k∉(yx ops).map Pl.j) T0 T1:=by
     refine⟨fun j o x hj hS hd hx=>i2.out j o x hj ?_ hd hx,fun x hx hn=>i2.old x hx fun j o hj hS=>hn j o hj ?_⟩
     ·refine .inr ?_
      rw[ACE]at hS;cases ha:yE o with
      |true=>exact List.mem_map_of_mem (f:=(·.1)) (AB0.2 ⟨hj,ha⟩)
      |false=>exact absurd (List.mem_map_of_mem (f:=(·.1)) (ACD.2 ⟨hj,ha⟩)) hS
     ·rw[ACE]
      intro hc;obtain⟨⟨k,q⟩,h2,h3⟩:=List.mem_map.1 (hS.resolve_left id);obtain⟨⟨k',q'⟩,h4,h5⟩:=List.mem_map.1 hc;dsimp only at h3 h5;subst h3 h5;obtain⟨h6,h7⟩:=AB0.1 h2;obtain⟨h8,h9⟩:=ACD.1 h4;rw[h6]at h8;cases h8;rw[h7]at h9;cases h9
    have hnd:((yx ops).map Pl.j).Nodup:=by rw[ACE];exact AEc.imp Nat.ne_of_lt
    have hfr:∀q∈fs,0<=q.hi->StF A1 q:=fun q hq _=>AIQ (List.all_eq_true.1 hst q hq);obtain⟨val,As,j1,_,j3,j4,j5,j6,_,j8⟩:=AOB hO.uniq (yx ops) 0 T1 A1 [] [] val1 (fun _=>A1) Tf Af hnd (fun p hp=>(AFK hp).1) hT1 rfl (by simp) hfr hL;simp only[Nat.zero_add]at j4 j6 j8;refine⟨val,bid,As,hO,j5,j4,j6,fun j o hj ha=>?_,fun j k o o' hj hk ha hb he=>i6 _ (AB0.2 ⟨hj,ha⟩) _ (AB0.2 ⟨hk,hb⟩) he,by rw[j3];exact i3,by rw[j3];exact i4⟩;obtain⟨t,z,k1,k2,k3,k4,k5,k6,k7⟩:=i5 (j,o) (AB0.2 ⟨hj,ha⟩);refine⟨t,z,k1,k2,k3,?_,k5,by rw[j3];exact k6,fun s hs1 hs2=>j8 _ k7 s (Nat.zero_le _) hs1 hs2⟩;rw[j1 j ?_,k4];rw[ACE];intro hc;obtain⟨⟨k',q'⟩,h4,h5⟩:=List.mem_map.1 hc;dsimp only at h5;subst h5;obtain⟨h8,h9⟩:=ACD.1 h4;rw[hj]at h8;cases h8;rw[ha]at h9;cases h9
   ·cases hL
  ·cases hL
def Hol(w0:W0)(ops:List Oper)(bid:Nat->Nat)(L:Nat->Bool):W0:=⟨w0.w,fun b=>w0.H b\/∃j o,ops[j]?=some o/\yE o=true/\L j=false/\b=bid j⟩
def cnt(ops:List Oper)(L:Nat->Bool):Nat:=((AAa (zo ops)).filter L).length
structure Inv(P:Program)(w0:W0)(nt:Nat)(ops:List Oper)(T0:TP)(a0:Act)(E0:En)(val:Nat->Value)(bid:Nat->Nat)(As:Nat->AH)(L:Nat->Bool)(E:En)(a:Act)(w:World):Prop where
 size:nt<=a.tmps.size
 defers:a.defers=a0.defers
 le:En.le E0 E
 heap:HR (Hol w0 ops bid L) E (As (cnt ops L)) w
 out:∀j o x,ops[j]?=some o->L j=true->o.dst=some x->∃v',a.tmps[x]?=some v'/\VR E (val j) v'
 old:∀x v,x<65535->(∀j o,ops[j]?=some o->L j=true->o.dst≠some x)->xw (way 16 x) T0=.mk v->∃v',a.tmps[x]?=some v'/\VR E v v'
variable {ops:List Oper}{T0:TP}{a0:Act}{E0 E:En}{val:Nat->Value}{bid:Nat->Nat}{As:Nat->AH}{L:Nat->Bool}{a:Act}{w:World}
theorem Inv.put(h:Inv P w0 nt ops T0 a0 E0 val bid As L E a w)(hU:AJV ops){i:Nat}{o:Oper}(ho:ops[i]?=some o)(hi:L i=false){D:Value->TP->TP}(hD:AAi nt o.dst=.mk D){E':En}(hE:En.le E E'){v':Value}{w':World}(hv:VR E' (val i) v')
  {L':Nat->Bool} (hL':∀k,L' k=(L k||k==i)) (hh:HR (Hol w0 ops bid L') E' (As (cnt ops L')) w'):Inv P w0 nt ops T0 a0 E0 val bid As L' E' (a.put o.dst v') w':=by
 cases hd:o.dst with
 |none=>
  refine⟨h.size,h.defers,h.le.trans hE,hh,fun j q x hj hl hq=>?_,fun x v hx hn hg=>?_⟩
  ·rw[hL']at hl
   simp only[Bool.or_eq_true,beq_iff_eq]at hl;rcases hl with hl|rfl
   ·obtain⟨u,h1,h2⟩:=h.out j q x hj hl hq
    exact⟨u,h1,h2.mono hE⟩
   ·rw[ho]at hj;cases hj;rw[hd]at hq;cases hq
  ·obtain⟨u,h1,h2⟩:=h.old x v hx (fun j q hj hl=>hn j q hj (by rw[hL',hl];rfl)) hg
   exact⟨u,h1,h2.mono hE⟩
 |some d=>
  rw[hd]at hD;simp only[AAi]at hD;split at hD
  ·rename_i hb
   simp only[Bool.and_eq_true,Nat.blt_eq]at hb;have hds:=Nat.lt_of_lt_of_le hb.1 h.size;have other:∀{x:Tmp}{u:Value},x≠d->a.tmps[x]?=some u->(a.put (some d) v').tmps[x]?=some u:=by
    intro x u hx hu;simp[Act.put,Array.getElem?_setIfInBounds,Ne.symm hx,hu]
   refine⟨by simpa[Act.put]using h.size,h.defers,h.le.trans hE,hh,fun j q x hj hl hq=>?_,fun x v hx hn hg=>?_⟩
   ·rw[hL']at hl
    simp only[Bool.or_eq_true,beq_iff_eq]at hl;by_cases e:j=i
    ·subst e
     rw[ho]at hj;cases hj;rw[hd]at hq;cases hq;exact⟨v',by simp[Act.put,hds],hv⟩
    ·obtain⟨u,h1,h2⟩:=h.out j q x hj (hl.resolve_right e) hq
     exact⟨u,other (fun ex=>e (hU j i q o d hj ho (ex▸hq) hd)) h1,h2.mono hE⟩
   ·obtain⟨u,h1,h2⟩:=h.old x v hx (fun j q hj hl=>hn j q hj (by rw[hL',hl];rfl)) hg
    exact⟨u,other (fun ex=>hn i o ho (by rw[hL'];simp) (ex▸hd)) h1,h2.mono hE⟩
  ·cases hD
theorem HR.late{H H':Nat->Prop}{wr:World}{E:En}{A:AH}{w:World}(h:HR ⟨wr,H⟩ E A w){b:Nat}(hb:H b)(hH:∀c,H' c->H c/\c≠b){o:AO}(hA:YA A.t b=some o){o':Obj}{g:Nat×Nat×Nat}
  (ho:OR (E.put b (w.heap.size,g)) g (w.alloc o') w.heap.size o):HR ⟨wr,H'⟩ (E.put b (w.heap.size,g)) A (w.alloc o'):=by
 obtain⟨hlt,hEb⟩:=h.hole b hb;have hp:En.le E (E.put b (w.heap.size,g)):=En.le_put hEb;have old:∀{c x},c≠b->E.put b (w.heap.size,g) c=some x->E c=some x:=fun hc hx=>by unfold En.put at hx;rwa [if_neg hc]at hx
 refine⟨h.ext.alloc h.ext.size o',?_,?_,?_,?_,?_⟩
 ·intro c x hc
  by_cases e:c=b
  ·rw[e];exact hlt
  ·exact h.len _ _ (old e hc)
 ·intro c c' g' hc
  by_cases e:c=b
  ·subst e;rw[En.put_same]at hc;cases hc;simp;exact h.ext.size
  ·have:wr.heap.size<=c'/\c'<w.heap.size:=h.base _ _ _ (old e hc)
   simp;omega
 ·intro c x c' g' hc hE
  by_cases e:c=b
  ·subst e
   rw[hA]at hc;cases hc;rw[En.put_same]at hE;cases hE;exact ho
  ·have hE:=old e hE
   refine((h.obj _ _ _ _ hc hE).mono hp).same fun _=>?_;have:=(h.base _ _ _ hE).2;simp only[World.alloc,Array.getElem?_push];rw[if_neg (by omega)]
 ·intro c d x y b' g1 g2 hc hd hx hy h1 h2
  by_cases e1:c=b
  ·by_cases e2:d=b
   ·rw[e1,e2]
   ·subst e1;rw[En.put_same]at h1;cases h1;have:=(h.base _ _ _ (old e2 h2)).2;omega
  ·by_cases e2:d=b
   ·subst e2;rw[En.put_same]at h2;cases h2;have:=(h.base _ _ _ (old e1 h1)).2;omega
   ·exact h.inj _ _ _ _ _ _ _ hc hd hx hy (old e1 h1) (old e2 h2)
 ·intro c hc
  obtain⟨h1,h2⟩:=hH c hc;obtain⟨h3,h4⟩:=h.hole c h1;refine⟨h3,?_⟩;unfold En.put;rw[if_neg h2];exact h4
theorem HR.less{H H':Nat->Prop}{wr:World}{E:En}{A:AH}{w:World}(h:HR ⟨wr,H⟩ E A w)(hH:∀c,H' c->H c):HR ⟨wr,H'⟩ E A w:=⟨h.ext,h.len,h.base,h.obj,h.inj,fun b hb=>h.hole b (hH b hb)⟩
theorem AMr{ρ:Operand->Value}{w:World}{t:TypeId}{z:Value}{dst:Option Tmp}{ty:TypeId}{pos:String}{af:Array Edge}{gd:Option (Nat×Bool)}(hz:(P.info? t).bind (·.zero)=some z):
  (execOp ρ ⟨dst,.alloc t,ty,pos,af,gd⟩).run P w=.ok (.value (.pointer (some ⟨w.heap.size,0,none⟩))) (w.alloc (.cells z.cells t (0,0))):=by
 cases hi:P.info? t with
 |none=>rw[hi]at hz;cases hz
 |some inf=>
  rw[hi]at hz;have hz':inf.zero=some z:=hz;have hzr:(zeroValue t).run P w=.ok z w:=by
   unfold zeroValue typeInfo;rw[Sem.run_bind,Sem.run_bind];show Result.andThen (Result.andThen (Go.program.run P w) _) _=_;simp only[Go.program,Sem.run,Result.andThen];rw[hi];show(match inf.zero with|some v=>(Pure.pure v:Sem Value)|none=>unsupported _).run P w=_;rw[hz']
   rfl
  show(do let z<-Instr.alloc t true (.tuple #[]);Pure.pure (Next.value z):Sem Next).run P w=_;unfold Instr.alloc;exact IB ((IB hzr).trans rfl)
theorem Inv.reads(h:Inv P w0 nt ops T0 a0 E0 val bid As L E a w)(hO:OkDs ops)(hL:ADE ops L){i:Nat}{o:Oper}(ho:ops[i]?=some o)(hi:L i=false)(hp:Pre ops (fun k=>L k=true) i){S:Nat->Prop}(hS1:¬S i)(hS2:∀k q,ops[k]?=some q->k<i->S k)(hS3:∀k q,ops[k]?=some q->yE q=false->i<k->¬S k)
  {Tp:TP} (hT:TLr ops val S T0 Tp) {x:Nat} (hx:x<65535) (hxl:x∈looks ops o) {v:Value} (hv:xw (way 16 x) Tp=.mk v):∃v',a.tmps[x]?=some v'/\VR E v v':=by
 by_cases hw:∃(k:Nat)(q:Oper),ops[k]?=some q/\q.dst=some x
 ·obtain⟨k,q,hk,hq⟩:=hw
  have only:∀(j:Nat)(o':Oper),ops[j]?=some o'->o'.dst=some x->j=k:=fun j o' hj hd=>hO.uniq j k o' q x hj hk hd hq;have fresh:¬S k->L k=false->∃v',a.tmps[x]?=some v'/\VR E v v':=by
   intro h1 h2;refine h.old x v hx (fun j o' hj hl hd=>?_) ?_
   ·rw[only j o' hj hd,h2]at hl;cases hl
   ·rw[<-hT.old x hx fun j o' hj hs hd=>h1 (only j o' hj hd▸hs)]
    exact hv
  rcases hO.looks k q x i o hk hq ho hxl with e|hb|hb
  ·subst e;exact fresh hS1 hi
  ·have hlt:=hO.low ho hb
   have hLk:L k=true:=AAk (L:=fun i=>L i=true) hL hb hp;have:=hT.out k q x hk (hS2 k q hk hlt) hq hx;rw[hv]at this;cases this;exact h.out k q x hk hLk hq
  ·have hlt:=hO.low hk hb
   have hna:yE q=false:=by
    cases ha:yE q with
    |false=>rfl
    |true=>rw[ALx hk ha]at hb;cases hb
   have hLk:L k=false:=by
    cases hk2:L k with
    |false=>rfl
    |true=>
     have:=AAk (L:=fun i=>L i=true) hL hb (hL k hk2);rw[hi]at this;cases this
   exact fresh (hS3 k q hk hna hlt) hLk
 ·have hn:∀(j:Nat)(o':Oper),ops[j]?=some o'->o'.dst≠some x:=fun j o' hj hd=>hw ⟨j,o',hj,hd⟩
  refine h.old x v hx (fun j o' hj _=>hn j o' hj) ?_;rw[<-hT.old x hx fun j o' hj _=>hn j o' hj];exact hv
end
end
section
section
variable {P:Program}{w0:W0}{nt:Nat}{ca:vK}{rd:aZ}
theorem AMs{α:Type}{p q:α->Bool}:∀{l:List α},(∀x∈l,q x=true->p x=true)->(∃x∈l,p x=true/\q x=false)->l.countP q<l.countP p:=by
 intro l
 induction l with
 |nil=>rintro _⟨x,hx,_⟩;cases hx
 |cons y l ih=>
  rintro h⟨x,hx,h1,h2⟩;have hm:l.countP q<=l.countP p:=List.countP_mono_left fun z hz=>h z (by simp[hz]);rw[List.countP_cons,List.countP_cons];rcases List.mem_cons.1 hx with rfl|hx
  ·rw[h1,h2];simp;omega
  ·have:=ih (fun z hz=>h z (by simp[hz])) ⟨x,hx,h1,h2⟩
   have hy:=h y (by simp);cases hq:q y with
   |false=>cases p y<;>simp<;>omega
   |true=>rw[hy hq];simp;omega
variable {opsA:Array Oper}{T0:TP}{A0:AH}{Tf:TP}{Af:AH}{a0:Act}{E0:En}{val:Nat->Value}{bid:Nat->Nat}{As:Nat->AH}
def Ls(listed:Array Bool):Nat->Bool:=fun i=>listed.getD i false
theorem AQt{listed:Array Bool}{i:Nat}(hi:i<listed.size)(k:Nat):Ls (listed.setIfInBounds i true) k=(Ls listed k||k==i):=by
 unfold Ls;simp only[Array.getD_eq_getD_getElem?,Array.getElem?_setIfInBounds];by_cases e:i=k
 ·subst e;simp[hi]
 ·simp[e]
  exact fun h=>absurd h.symm e
theorem AMt{ops:List Oper}{L:Nat->Bool}:cnt ops L<=uj (yx ops):=by
 unfold cnt uj;rw[<-AEN,List.filter_map,List.length_map];exact List.length_filter_le _ _
theorem APn{ops:List Oper}{L:Nat->Bool}(h:∀i,i<ops.length->L i=true):cnt ops L=uj (yx ops):=by
 unfold cnt uj;rw[<-AEN,List.filter_eq_self.2 fun a ha=>?_,List.length_map];obtain⟨p,h1,rfl⟩:=List.mem_map.1 ha;have:=(AFK (List.mem_filter.1 h1).1).1;exact h _ (List.getElem?_eq_some_iff.1 this).1
theorem AJY{ops:List Oper}{L L':Nat->Bool}{i:Nat}(hL:∀k,L' k=(L k||k==i))(hi:i∉AAa (zo ops)):cnt ops L'=cnt ops L:=by
 unfold cnt
 congr 1
 refine List.filter_congr fun a ha=>?_;rw[hL];have:(a==i)=false:=by simp;exact fun e=>hi (e▸ha)
 rw[this,Bool.or_false]
theorem APo{ops:List Oper}(hO:OkDs ops){L L':Nat->Bool}{i:Nat}(hL:∀k,L' k=(L k||k==i))(hc:ADE ops L)(hi:L i=false)(hp:Pre ops (fun k=>L k=true) i){l1 l2:List Nat}(hl:AAa (zo ops)=l1++i::l2):
  cnt ops L=l1.length/\cnt ops L'=l1.length+1:=by
 have hch:=hO.chain;rw[hl]at hch;have h1:=AMo hc l1 i l2 hch hp;have h2:=AHS hc l2 i (ALy l1 (i::l2) hch) hi;have h3:l2.filter L=[]:=by rw[List.filter_cons,hi]at h2;simpa using h2
 have hs:(AAa (zo ops)).Pairwise (·<·):=by
  unfold AAa;exact AEc.sublist ((List.filter_sublist).map _)
 rw[hl]at hs;have hn2:∀a∈l2,(a==i)=false:=fun a ha=>by
  have:=(List.pairwise_cons.1 (List.pairwise_append.1 hs).2.1).1 a ha;simp;omega
 have hn1:∀a∈l1,(a==i)=false:=fun a ha=>by
  have:=(List.pairwise_append.1 hs).2.2 a ha i (by simp);simp;omega
 unfold cnt;rw[hl,List.filter_append,List.filter_append,h1,h2];refine⟨by simp,?_⟩;have e1:l1.filter L'=l1:=by
  rw[List.filter_congr (q:=L) fun a ha=>by rw[hL,hn1 a ha,Bool.or_false]];exact h1
 have e2:(i::l2).filter L'=[i]:=by
  rw[List.filter_cons,hL i];simp only[beq_self_eq_true,Bool.or_true,if_true];rw[List.filter_congr (q:=L) fun a ha=>by rw[hL,hn2 a ha,Bool.or_false],h3]
 rw[e1,e2];simp
theorem AOD(hP:OkP P)(hca:∀w,CaS P w ca)(hrd:∀w,RdS P w rd)(R:Reg P nt opsA.toList ca rd T0 A0 Tf Af val bid As)(hH0:∀c,w0.H c->c<A0.next){L L':Nat->Bool}{i:Nat}(hL':∀k,L' k=(L k||k==i)){E:En}{a:Act}{w:World}
  (hc:ADE opsA.toList L) (hI:Inv P w0 nt opsA.toList T0 a0 E0 val bid As L E a w) {o:Oper} (ho:opsA[i]?=some o) (hi:L i=false) (hp:Pre opsA.toList (fun k=>L k=true) i) {ro:Option Nat} {n:Nat} {Q:Exit->Act->World->Prop} {K:Act->World->Prop}
  (hK:∀(E':En)(a':Act)(w':World),Inv P w0 nt opsA.toList T0 a0 E0 val bid As L' E' a' w'->K a' w'):wpOpIn (Fw ro) n P opsA Q i K a w:=by
 have hO:=R.ok;have hol:opsA.toList[i]?=some o:=by rw[Array.getElem?_toList];exact ho
 unfold wpOpIn;simp only[ho];cases ha:yE o with
 |true=>
  obtain⟨t,z,h1,h2,⟨D,hD⟩,h4,h5,h6,h7⟩:=R.al i o hol ha;have hg:=(AOC ha).2;have hw:Region.wanted o (yielded opsA a.tmps)=true:=by unfold Region.wanted;rw[hg]
  rw[if_pos hw];refine⟨fun _ _=>trivial,?_⟩;rw[Oper.semAt_eq _ _ _ (fun c e=>by rw[h1]at e;cases e)];have hrun:(execOp a.eval o).run P w=.ok (.value (.pointer (some ⟨w.heap.size,0,none⟩))) (w.alloc (.cells z.cells t (0,0))):=by
   obtain⟨dst,op,ty,pos,af,gd⟩:=o;dsimp only at h1;subst h1;exact AMr h2
  rw[hrun];have hcnt:cnt opsA.toList L'=cnt opsA.toList L:=AJY hL' fun hm=>by
   unfold AAa at hm;obtain⟨⟨j,q⟩,k1,k2⟩:=List.mem_map.1 hm;dsimp only at k2;subst k2;obtain⟨k3,k4⟩:=ACD.1 (List.mem_filter.1 k1).1;rw[hol]at k3;cases k3;rw[ha]at k4;cases k4
  have hget:=h7 (cnt opsA.toList L) AMt (by have:=AMn hc hi _ 0 hO.chain;simpa[cnt]using this);have hb:(Hol w0 opsA.toList bid L).H (bid i):=.inr ⟨i,o,hol,ha,hi,rfl⟩;have hEb:=(hI.heap.hole _ hb).2;have hz1:∃inf,P.info? t=some inf/\inf.zero=some z:=by
   cases hin:P.info? t with
   |none=>rw[hin]at h2;cases h2
   |some inf=>rw[hin]at h2;exact⟨inf,rfl,h2⟩
  obtain⟨inf,hz2,hz3⟩:=hz1;have hheap:HR (Hol w0 opsA.toList bid L') (E.put (bid i) (w.heap.size,0,0,z.cells.size)) (As (cnt opsA.toList L')) (w.alloc (.cells z.cells t (0,0))):=by
   rw[hcnt];refine HR.late (H:=(Hol w0 opsA.toList bid L).H) hI.heap hb (fun c hcH=>?_) hget (g:=(0,0,z.cells.size)) ?_
   ·rcases hcH with hcH|⟨j,q,k1,k2,k3,k4⟩
    ·exact⟨.inl hcH,fun e=>by have:=hH0 c hcH;omega⟩
    ·rw[hL']at k3
     simp only[Bool.or_eq_false_iff,beq_eq_false_iff_ne]at k3;exact⟨.inr ⟨j,q,k1,k2,k3.1,k4⟩,fun e=>k3.2 (R.inj j i q o k1 hol k2 ha (k4▸e))⟩
   ·exact⟨[],z.cells.toList,[],by rw[ABp];simp,rfl,(ABV (hP.zero _ _ _ hz2 hz3)).cells,rfl,by simp,fun _=>⟨rfl,rfl⟩⟩
  exact hK _ _ _ (hI.put hO.uniq hol hi hD (En.le_put hEb) (by rw[h4];exact .ptr (g:=(0,0,z.cells.size)) rfl rfl En.put_same) hL' hheap)
 |false=>
  obtain⟨p,hpm,hpj⟩:∃p∈yx opsA.toList,p.j=i:=by
   have:i∈(yx opsA.toList).map Pl.j:=by rw[ACE];exact List.mem_map_of_mem (f:=(·.1)) (ACD.2 ⟨hol,ha⟩)
   obtain⟨p,h1,h2⟩:=List.mem_map.1 this;exact⟨p,h1,h2⟩
  subst hpj;obtain⟨q1,q2,q3,q4,q5⟩:=AFK hpm;rw[hol]at q1;have q1:o=p.o:=Option.some.inj q1;subst q1;obtain⟨l1,l2,hl⟩:=List.append_of_mem hpm;obtain⟨Tp,wb,e1,e2,⟨D,e3⟩,e4,e5⟩:=(R.pl l1 p l2 hl).ex;have hsort:((yx opsA.toList).map Pl.j).Pairwise (·<·):=by rw[ACE];exact AEc
  rw[hl,List.map_append,List.map_cons]at hsort;have s1:∀k∈l2.map Pl.j,p.j<k:=(List.pairwise_cons.1 (List.pairwise_append.1 hsort).2.1).1;have s2:∀k∈l1.map Pl.j,k<p.j:=fun k hk=>(List.pairwise_append.1 hsort).2.2 k hk p.j (by simp);have hS1:¬(p.j∉(p::l2).map Pl.j):=by simp
  have hS2:∀k q,opsA.toList[k]?=some q->k<p.j->k∉(p::l2).map Pl.j:=by
   intro k q _ hk hm;rw[List.map_cons,List.mem_cons]at hm;rcases hm with hm|hm
   ·omega
   ·have:=s1 k hm;omega
  have hS3:∀k q,opsA.toList[k]?=some q->yE q=false->p.j<k->¬(k∉(p::l2).map Pl.j):=by
   intro k q hk hq hlt hm;have:k∈(yx opsA.toList).map Pl.j:=by rw[ACE];exact List.mem_map_of_mem (f:=(·.1)) (ACD.2 ⟨hk,hq⟩)
   rw[hl,List.map_append,List.mem_append]at this;rcases this with this|this
   ·have:=s2 k this;omega
   ·exact hm this
  have reads:∀{x:Nat},x<65535->x∈looks opsA.toList p.o->∀{v:Value},xw (way 16 x) Tp=.mk v->∃v',a.tmps[x]?=some v'/\VR E v v':=fun hx hxl _ hv=>
   hI.reads hO hc hol hi hp hS1 hS2 hS3 e1 hx hxl hv
  have hwant:Region.wanted p.o (yielded opsA a.tmps)=wb:=by
   unfold AIu at e2;unfold Region.wanted;split at e2
   ·rename_i hg
    rw[hg];cases e2
    rfl
   ·rename_i g want hg
    rw[hg];dsimp only;split at e2
    ·rename_i d hd
     split at e2
     ·rename_i hd2
      rw[Nat.blt_eq]at hd2;have hdA:(opsA[g]?).bind (·.dst)=some d:=by rw[<-Array.getElem?_toList];exact hd
      have hlk:d∈looks opsA.toList p.o:=by
       unfold looks;rw[hg];dsimp only;rw[hd];simp
      have hy:∀{u:Value},a.tmps[d]?=some u->yielded opsA a.tmps g=(match u with|.bool b=>some b|_=>none):=by
       intro u hu;unfold yielded;rw[hdA];show(match a.tmps[d]? with|some (.bool b)=>some b|_=>none)=_;rw[hu];cases u<;>rfl
      split at e2
      ·rename_i b hb
       cases e2;obtain⟨u,h1,h2⟩:=reads hd2 hlk hb;cases h2;rw[hy h1]
       rfl
      ·rename_i c hb
       cases e2;obtain⟨u,h1,h2⟩:=reads hd2 hlk hb;cases h2;rw[hy h1]
       rfl
      ·cases e2
     ·cases e2
    ·cases e2
  have hstage:p.act=true->cnt opsA.toList L=uj l1/\cnt opsA.toList L'=uj l1+1:=by
   intro hact;have hla:AAa (zo opsA.toList)=(l1.filter (·.act)).map Pl.j++p.j::(l2.filter (·.act)).map Pl.j:=by
    rw[<-AEN,hl,List.filter_append,List.filter_cons,hact,if_pos rfl,List.map_append,List.map_cons]
   have:=APo hO hL' hc hi hp hla;unfold uj;simpa using this
  have hcalm:p.act=false->cnt opsA.toList L'=cnt opsA.toList L:=by
   intro hact;refine AJY hL' fun hm=>?_;rw[<-AEN]at hm;obtain⟨p',k1,k2⟩:=List.mem_map.1 hm;obtain⟨k3,k4⟩:=List.mem_filter.1 k1;have k5:=(AFK k3);have k6:=k5.1;rw[k2,hol]at k6;have k6:=Option.some.inj k6;rw[k5.2.2.1,<-k6,<-q3,hact]at k4;cases k4
  have hless:∀{E':En}{A':AH}{w':World},HR (Hol w0 opsA.toList bid L) E' A' w'->HR (Hol w0 opsA.toList bid L') E' A' w':=by
   intro E' A' w' h;refine HR.less (H:=(Hol w0 opsA.toList bid L).H) h fun c hcH=>?_;rcases hcH with hcH|⟨j,q,k1,k2,k3,k4⟩
   ·exact .inl hcH
   ·rw[hL']at k3
    simp only[Bool.or_eq_false_iff]at k3;exact .inr ⟨j,q,k1,k2,k3.1,k4⟩
  rw[hwant];cases wb with
  |false=>
   rw[if_neg (by simp)];obtain⟨f1,f2⟩:=e4 rfl;refine⟨fun _ _=>trivial,hK _ _ _ (hI.put hO.uniq hol hi e3 En.le_rfl (by rw[f1];exact .tuple .nil) hL' (hless ?_))⟩;cases hact:p.act with
   |true=>
    obtain⟨g1,g2⟩:=hstage hact;rw[g2,f2 hact,<-g1];exact hI.heap
   |false=>rw[hcalm hact];exact hI.heap
  |true=>
   rw[if_pos rfl];obtain⟨K0,f1,f2,f3⟩:=e5 rfl;refine⟨fun _ _=>trivial,?_⟩;rw[Oper.semAt_eq _ _ _ (noDefer f1)];have hT:TR E (ACY (ADC p.o.op.operands.toList) Tp) a.tmps:=by
    intro x v hx hg;obtain⟨g1,g2⟩:=AMl hx hg;exact reads hx (by unfold looks;simp[g1]) g2
   cases hact:p.act with
   |true=>
    obtain⟨g1,g2⟩:=hstage hact;have hk:=f2 hact;rw[<-g1]at hk;refine AEL hP f1 (hca _) (hrd _) hT hI.heap hk fun E' v' w' k1 k2 k3=>?_;refine hK _ _ _ (hI.put hO.uniq hol hi e3 k1 k2 hL' (hless ?_));rw[g2,<-g1];exact k3
   |false=>
    obtain⟨A',hk⟩:=f3 hact (cnt opsA.toList L) (by rw[q4];exact AQs hc hp _) (by rw[q5];have:=AMn hc hi _ 0 hO.chain;simpa[cnt]using this) AMt;have hA:=AJ7 f1 (by rw[<-q3];exact hact) _ _ _ _ _ _ hk;subst hA;refine AEL hP f1 (hca _) (hrd _) hT hI.heap hk fun E' v' w' k1 k2 k3=>?_;refine hK _ _ _ (hI.put hO.uniq hol hi e3 k1 k2 hL' (hless ?_));rw[hcalm hact];exact k3
theorem AMu(hP:OkP P)(hca:∀w,CaS P w ca)(hrd:∀w,RdS P w rd)(R:Reg P nt opsA.toList ca rd T0 A0 Tf Af val bid As)(hH0:∀c,w0.H c->c<A0.next){ro:Option Nat}{n:Nat}{Q:Exit->Act->World->Prop}
  (hQ:∀(E':En)(a':Act)(w':World),En.le E0 E'->nt<=a'.tmps.size->TR E' Tf a'.tmps->HR w0 E' Af w'->a'.defers=a0.defers->Q .normal a' w'):
  ∀(fuel:Nat)(listed:Array Bool)(E:En)(a:Act)(w:World),listed.size=opsA.size->(List.range opsA.size).countP (fun i=>!Ls listed i)<=fuel->ADE opsA.toList (Ls listed)->Inv P w0 nt opsA.toList T0 a0 E0 val bid As (Ls listed) E a w->
   wpAnyIn (Fw ro) n P .any opsA Q fuel listed a w:=by
 have hO:=R.ok;have notyet:∀{listed:Array Bool}{i:Nat},listed.size=opsA.size->i<opsA.size->Ls listed i=false->listed.getD i true=false:=by
  intro listed i hs hi h;unfold Ls at h;rw[<-hs]at hi;simp only[Array.getD_eq_getD_getElem?,Array.getElem?_eq_getElem hi,Option.getD_some]at h⊢;exact h
 have fin:∀(listed:Array Bool)(E:En)(a:Act)(w:World),(∀i,i<opsA.size->Ls listed i=true)->Inv P w0 nt opsA.toList T0 a0 E0 val bid As (Ls listed) E a w->Q .normal a w:=by
  intro listed E a w hall hI;refine hQ E a w hI.le hI.size (fun x v hx hv=>?_) ?_ hI.defers
  ·by_cases hw:∃(k:Nat)(q:Oper),opsA.toList[k]?=some q/\q.dst=some x
   ·obtain⟨k,q,hk,hq⟩:=hw
    have:=R.fin.out k q x hk trivial hq hx;rw[hv]at this;cases this;exact hI.out k q x hk (hall k (by simpa using(List.getElem?_eq_some_iff.1 hk).1)) hq
   ·have hn:∀(j:Nat)(o':Oper),opsA.toList[j]?=some o'->o'.dst≠some x:=fun j o' hj hd=>hw ⟨j,o',hj,hd⟩
    refine hI.old x v hx (fun j o' hj _=>hn j o' hj) ?_;rw[<-R.fin.old x hx fun j o' hj _=>hn j o' hj];exact hv
  ·have:=hI.heap
   rw[APn (fun i hi=>hall i (by simpa using hi)),R.last]at this;exact HR.less (H:=(Hol w0 opsA.toList bid (Ls listed)).H) this fun c hc=>.inl hc
 have stuck:∀(listed:Array Bool),listed.size=opsA.size->Region.ready .any opsA listed=[]->∀i,i<opsA.size->Ls listed i=true:=by
  intro listed hs hr i
  induction i using Nat.strongRecOn with
  |_ i ih=>
   intro hi;cases hl:Ls listed i with
   |true=>rfl
   |false=>
    exfalso;have hmem:i∈Region.ready .any opsA listed:=by
     rw[mem_ready];refine⟨notyet hs hi hl,opsA[i],Array.getElem?_eq_getElem hi,fun e he hb=>?_⟩;have:=hO.after i opsA[i] (by rw[Array.getElem?_toList];exact Array.getElem?_eq_getElem hi) e (by simpa using he) hb;exact ih e.on this (by omega)
    rw[hr]at hmem;cases hmem
 intro fuel
 induction fuel with
 |zero=>
  intro listed E a w hs hf hc hI;have hall:∀i,i<opsA.size->Ls listed i=true:=by
   intro i hi;have h0:=List.countP_eq_zero.1 (Nat.le_zero.1 hf) i (by simpa using hi);simpa using h0
  refine⟨?_,fin listed E a w hall hI⟩;cases hr:Region.ready .any opsA listed with
  |nil=>rfl
  |cons j l=>
   have hj:j∈Region.ready .any opsA listed:=by rw[hr];simp
   rw[mem_ready]at hj;obtain⟨h1,o,h2,_⟩:=hj;have hlt:=(Array.getElem?_eq_some_iff.1 h2).1;have h3:=hall j hlt;unfold Ls at h3;rw[<-hs]at hlt;simp only[Array.getD_eq_getD_getElem?,Array.getElem?_eq_getElem hlt,Option.getD_some]at h1 h3;rw[h1]at h3;cases h3
 |succ fuel ih=>
  intro listed E a w hs hf hc hI;refine⟨fun hr=>fin listed E a w (stuck listed hs hr) hI,fun i hi=>?_⟩;rw[mem_ready]at hi;obtain⟨h1,o,h2,h3⟩:=hi;have hlt:=(Array.getElem?_eq_some_iff.1 h2).1;have hlt2:i<listed.size:=by rw[hs];exact hlt
  have hLi:Ls listed i=false:=by
   unfold Ls;simp only[Array.getD_eq_getD_getElem?,Array.getElem?_eq_getElem hlt2,Option.getD_some]at h1⊢;exact h1
  have hpre:Pre opsA.toList (fun k=>Ls listed k=true) i:=by
   intro o' ho' e he hb;rw[Array.getElem?_toList,h2]at ho';cases ho';exact h3 e (by simpa using he) hb
  have hset:=AQt hlt2;refine AOD hP hca hrd R hH0 hset hc hI h2 hLi hpre fun E' a' w' hI'=>ih _ E' a' w' (by simpa using hs) ?_ ?_ hI'
  ·have:=AMs (p:=fun k=>!Ls listed k) (q:=fun k=>!Ls (listed.setIfInBounds i true) k) (l:=List.range opsA.size) (fun k _ hk=>by
    rw[hset]at hk;simp only[Bool.not_eq_true',Bool.or_eq_false_iff]at hk⊢;exact hk.1) ⟨i,by simpa using hlt,by simp[hLi],by simp[hset]⟩
   omega
  ·intro k hk o' ho' e he hb
   rw[hset]at hk;simp only[Bool.or_eq_true,beq_iff_eq]at hk;show Ls _ e.on=true;rw[hset];rcases hk with hk|rfl
   ·rw[show Ls listed e.on=true from hc k hk o' ho' e he hb];rfl
   ·rw[show Ls listed e.on=true from hpre o' ho' e he hb];rfl
theorem AJ9(hP:OkP P){L:vK->aZ->TP->AH->Option (TP×AH)}(h:ALX P nt opsA.toList=.mk L)(hca:∀w,CaS P w ca)(hrd:∀w,RdS P w rd)(hL:L ca rd T0 A0=some (Tf,Af)){a:Act}{w:World}(hs:nt<=a.tmps.size)(hT:TR E0 T0 a.tmps)(hH:HR w0 E0 A0 w)
  {ro:Option Nat} {n id:Nat} {Q:Exit->Act->World->Prop} (hQ:∀(E':En)(a':Act)(w':World),En.le E0 E'->nt<=a'.tmps.size->TR E' Tf a'.tmps->HR w0 E' Af w'->a'.defers=a.defers->Q .normal a' w'):
  (Code.region id opsA true).wpIn (Fw ro) n P Q a w:=by
 obtain⟨val,bid,As,R⟩:=AMq h hL;have hLs0:∀i,Ls (Array.replicate opsA.size false) i=false:=by
  intro i;unfold Ls;simp only[Array.getD_eq_getD_getElem?,Array.getElem?_replicate];split<;>rfl
 refine wpIn_region_any hP.mixed (AMu hP hca hrd R (fun c hc=>(hH.hole c hc).1) hQ opsA.size _ E0 a _ (by simp) ?_ (fun k hk=>by rw[hLs0]at hk;cases hk) ?_)
 ·exact Nat.le_trans List.countP_le_length (by simp)
 ·refine⟨hs,rfl,En.le_rfl,?_,(fun j o x _ hl=>by rw[hLs0]at hl;cases hl),fun x v hx _ hv=>hT x v hx hv⟩
  have hc0:cnt opsA.toList (Ls (Array.replicate opsA.size false))=0:=by
   unfold cnt;rw[List.filter_eq_nil_iff.2 fun i _=>by rw[hLs0];simp]
   rfl
  rw[hc0];have h1:=hH.drew;refine⟨h1.ext,fun b x hb=>Nat.lt_of_lt_of_le (h1.len b x hb) R.next,h1.base,fun b x b' g hb hE=>h1.obj b x b' g (R.old b x hb (h1.len _ _ hE)) hE,fun b c x y b' g1 g2 hb hc hx hy e1 e2=>h1.inj b c x y b' g1 g2 (R.old b x hb (h1.len _ _ e1)) (R.old c y hc (h1.len _ _ e2)) hx hy e1 e2,fun b hb=>?_⟩;rcases hb with hb|⟨j,o,k1,k2,_,rfl⟩
  ·obtain⟨g1,g2⟩:=h1.hole b hb
   exact⟨Nat.lt_of_lt_of_le g1 R.next,g2⟩
  ·obtain⟨_,_,_,_,_,_,g5,g6,_⟩:=R.al j o k1 k2
   refine⟨g6,?_⟩;cases hE:E0 (bid j)with
   |none=>rfl
   |some x=>have:=h1.len _ _ hE;omega
end
end
section
section
variable {P:Program}{E:En}
theorem AOE{v:Value}(h:AG8 v=true):VR E v v:=by
 unfold AG8 at h;split at h
 ·exact .tuple (AII h)
 ·exact zN h
theorem AOF{v v':Value}(h:AG8 v=true)(k:VR E v v'):v'=v:=by
 unfold AG8 at h;split at h
 ·cases k with|tuple k=>exact congrArg Value.tuple (Array.toList_inj.1 (AMd h k))
 ·exact zO h k
theorem AMv{T:TP}{x:Nat}(hx:x<65535){v:Value}:∀{l:List Nat},xw (way 16 x) (seenF l T)=.mk v->xw (way 16 x) T=.mk v/\ALZ v=true:=by
 intro l
 induction l with
 |nil=>intro h;change xw _ .lf=_ at h;rw[AAp]at h;cases h
 |cons y l ih=>
  intro h;simp only[seenF]at h;split at h
  ·rename_i hy
   have hy:y<65535:=by simpa[Nat.blt_eq]using hy
   split at h
   ·rename_i u hu
    split at h
    ·rename_i hf
     rw[zk]at h;split at h
     ·rename_i e
      have:=ABO hx hy e;subst this;cases h;exact⟨hu,hf⟩
     ·exact ih h
    ·exact ih h
   ·exact ih h
  ·exact ih h
def E2(b r:Nat)(g:Nat×Nat×Nat)(EL:En):En:=fun k=>if k=0 then some (b,g)else if k=1 then some (r,(0,0,0))else EL k
theorem APp{b r:Nat}{g:Nat×Nat×Nat}{EL:En}{v v':Value}(h:ALZ v=true)(k:VR (E2 b r g EL) v v'):VR EL v v':=by
 unfold ALZ at h;split at h
 ·rename_i c o
  rw[Nat.blt_eq]at h;cases k with|ptr h1 h2 h3=>
  refine .ptr h1 h2 ?_;dsimp only[E2]at h3;rw[if_neg (by omega),if_neg (by omega)]at h3;exact h3
 ·rw[AOF h k]
  exact AOE h
theorem TR.seenF{b r:Nat}{g:Nat×Nat×Nat}{EL:En}{T:TP}{tm:Array Value}(h:TR (E2 b r g EL) T tm)(l:List Nat):TR EL (seenF l T) tm:=fun t v ht hv=>by
 obtain⟨h1,h2⟩:=AMv ht hv;obtain⟨v',h3,h4⟩:=h t v ht h1;exact⟨v',h3,APp h2 h4⟩
abbrev WL(w:World):W0:=⟨w,fun b=>b<2⟩
theorem HR.bare(w:World):HR (WL w) (fun _=>none) A2 w:=
 ⟨Below.refl _ _,(fun _ _ h=>by cases h),(fun _ _ _ h=>by cases h),(fun _ _ _ _ _ h=>by cases h),(fun _ _ _ _ _ _ _ _ _ _ _ h=>by cases h),(fun _ h=>⟨h,rfl⟩)⟩
theorem ASi{b r:Nat}{g:Nat×Nat×Nat}{wl w:World}{EL:En}{A:AH}(h:HR (WL wl) EL A w):En.le EL (E2 b r g EL):=fun k x hk=>by
 have h0:=(h.hole 0 (show 0<2 by omega)).2;have h1:=(h.hole 1 (show 1<2 by omega)).2;unfold E2;split
 ·rename_i e;subst e;rw[h0]at hk;cases hk
 ·split
  ·rename_i e;subst e;rw[h1]at hk;cases hk
  ·exact hk
theorem APq{b r:Nat}{g:Nat×Nat×Nat}{EL EL':En}(h:En.le EL EL'):En.le (E2 b r g EL) (E2 b r g EL'):=fun k x hk=>by
 unfold E2 at hk⊢;split
 ·rename_i e;rw[if_pos e]at hk;exact hk
 ·rename_i e
  rw[if_neg e]at hk;split
  ·rename_i e;rw[if_pos e]at hk;exact hk
  ·rename_i e;rw[if_neg e]at hk;exact h _ _ hk
theorem ALz(hP:OkP P){o:Oper}{T:TP}{A A':AH}{v:Value}(h:AJB P o T A=some (v,A')){b r:Nat}{g:Nat×Nat×Nat}{EL:En}{a:Act}{wl w:World}(hT:TR (E2 b r g EL) T a.tmps)(hH:HR (WL wl) EL A w){ro:Option Nat}{n:Nat}{next:Act->World->Prop}{Q:Exit->Act->World->Prop}
  (hn:∀EL' v' w',En.le EL EL'->VR (E2 b r g EL') v v'->HR (WL wl) EL' A' w'->next (a.put o.dst v') w'):o.uponIn (Fw ro) n P a next Q ((execOp a.eval o).run P w)/\∀c,o.op≠.defer c:=by
 unfold AJB at h;obtain⟨K,hK,h⟩:=KN h (by intro e;cases e);split at h
 ·rename_i v0 A0 hk
  cases h;refine⟨AEL hP hK (w0:=WL wl) (E:=EL) (fun _ _ _ _ _ _ _ _ _ h=>by cases h) (fun _ _ _ _ _ _ _ _ _ _ _ h=>by cases h) (hT.seenF _) hH hk fun E' v' w' k1 k2 k3=>?_,noDefer hK⟩;exact hn E' v' w' k1 (k2.mono (ASi k3)) k3
 ·cases h
theorem ACw{x:Operand}{T:TP}{v:Value}{a:Act}(h:X0 x T=some v)(hT:TR E T a.tmps):VR E v (a.eval x):=by
 unfold X0 at h;obtain⟨X,hX,h⟩:=KN h (by intro e;cases e);cases hx:X T with
 |no=>rw[hx]at h;cases h
 |mk u=>rw[hx]at h;cases h;exact yV hX hx hT
structure RM(ws:World)(b r c:Nat)(es:List MapEntry)(sn:Array Nat)(w:World):Prop where
 os:w.os=ws.os
 tape:w.tape=ws.tape
 output:w.output=ws.output
 size:ws.heap.size<=w.heap.size
 low:b<ws.heap.size/\ws.heap.size<=r
 oth:∀k,k<ws.heap.size->k≠b->w.heap[k]?=ws.heap[k]?
 it:w.heap[r]?=some (.mapIter (some b) c sn c)
 mp:w.heap[b]?=some (.map es.toArray c)
theorem RM.below{ws w w':World}{b r c:Nat}{es:List MapEntry}{sn:Array Nat}(h:RM ws b r c es sn w)(k:Below w.heap.size w w'):RM ws b r c es sn w':=
 have hr:=(Array.getElem?_eq_some_iff.1 h.it).1;have hb:=(Array.getElem?_eq_some_iff.1 h.mp).1
 ⟨k.os.trans h.os,k.tape.trans h.tape,k.output.trans h.output,Nat.le_trans h.size k.size,h.low,fun i hi hb=>(k.block i (Nat.lt_of_lt_of_le hi h.size)).trans (h.oth i hi hb),(k.block r hr).trans h.it,(k.block b hb).trans h.mp⟩
theorem RM.drew{ws w:World}{b r c:Nat}{es:List MapEntry}{sn:Array Nat}(h:RM ws b r c es sn w):RM ws b r c es sn w.drew:=⟨h.os,h.tape,h.output,h.size,h.low,h.oth,h.it,h.mp⟩
theorem RM.turn{ws w:World}{b r c:Nat}{es:List MapEntry}{sn:Array Nat}(h:RM ws b r c es sn w)(sn':Array Nat):RM ws b r c es sn' (ChangeMaps.setBlock w r (.mapIter (some b) c sn' c)):=by
 have hr:=(Array.getElem?_eq_some_iff.1 h.it).1;have hne:r≠b:=by have:=h.low;omega
 refine⟨h.os,h.tape,h.output,by simpa[ChangeMaps.setBlock]using h.size,h.low,fun i hi hb=>?_,by simp[ChangeMaps.setBlock,hr],?_⟩
 ·have:=h.low
  simp only[ChangeMaps.setBlock];rw[Array.getElem?_setIfInBounds_ne (by omega)];exact h.oth i hi hb
 ·simp only[ChangeMaps.setBlock]
  rw[Array.getElem?_setIfInBounds_ne hne];exact h.mp
theorem RM.strike{ws w:World}{b r c:Nat}{es:List MapEntry}{sn:Array Nat}(h:RM ws b r c es sn w)(es':List MapEntry):RM ws b r c es' sn (ChangeMaps.setBlock w b (.map es'.toArray c)):=by
 have hb:=(Array.getElem?_eq_some_iff.1 h.mp).1;have hne:b≠r:=by have:=h.low;omega
 refine⟨h.os,h.tape,h.output,by simpa[ChangeMaps.setBlock]using h.size,h.low,fun i hi hib=>?_,?_,by simp[ChangeMaps.setBlock,hb]⟩
 ·simp only[ChangeMaps.setBlock]
  rw[Array.getElem?_setIfInBounds_ne (Ne.symm hib)];exact h.oth i hi hib
 ·simp only[ChangeMaps.setBlock]
  rw[Array.getElem?_setIfInBounds_ne hne];exact h.it
theorem AFn:∀{l:List Nat},AHA l=true->l.Nodup
 |[],_=>.nil
 |a::l,h=>by
  simp only[AHA,Bool.and_eq_true,List.all_eq_true,Bool.not_eq_true']at h;exact List.nodup_cons.2 ⟨fun hm=>by have:=h.1 a hm;simp at this,AFn h.2⟩
structure Ks(P:Program)(tk:TypeId)(es:List MapEntry)(c:Nat):Prop where
 st:∃fs,P.underlying tk=some (.struct fs)
 nd:(es.map (·.born)).Nodup
 lt:∀e∈es,e.born<c
 fk:∀e∈es,vS e.key=true
 fv:∀e∈es,vS e.val=true
 ck:∀e∈es,∃u,ADw P (Instr.checkKey false 10000 tk e.key)=some u
 eq:∀e∈es,∀e'∈es,ADw P (Op.equal tk e.key e'.key)=some (Nat.beq e.born e'.born)
theorem AKA{tk:TypeId}{es:List MapEntry}{c:Nat}(h:ALa P tk es c=true):Ks P tk es c:=by
 unfold ALa at h;split at h
 ·rename_i fs hfs
  simp only[Bool.and_eq_true,List.all_eq_true]at h;obtain⟨h1,h2⟩:=h;refine⟨⟨fs,hfs⟩,AFn h1,fun e he=>by simpa[Nat.blt_eq]using(h2 e he).1.1.1.1,fun e he=>(h2 e he).1.1.1.2,fun e he=>(h2 e he).1.1.2,fun e he=>?_,fun e he e' he'=>?_⟩
  ·have:=(h2 e he).1.2
   split at this
   ·rename_i u hu;exact⟨u,hu⟩
   ·cases this
  ·have:=(h2 e he).2 e' he'
   split at this
   ·rename_i u hu;rw[hu,eq_of_beq this]
   ·cases this
 ·cases h
theorem AOH{tk:TypeId}{e:MapEntry}{w:World}:∀(l:List MapEntry)(i:Nat),(∀x∈l,ADw P (Op.equal tk e.key x.key)=some (Nat.beq e.born x.born))->e∈l->(l.map (·.born)).Nodup->
  ∃j v,(Instr.findAsking tk e.key l i).run P w=.ok (some (i+j,v)) w/\l.eraseIdx j=l.filter (fun x=>x.born !=e.born):=by
 intro l
 induction l with
 |nil=>intro i _ h;cases h
 |cons x l ih=>
  intro i hq he hn;have hx:=hq x (by simp);simp only[Instr.findAsking,Sem.run_bind];rw[AGj hx];simp only[List.map_cons,List.nodup_cons]at hn;by_cases hb:e.born=x.born
  ·refine⟨0,x.val,?_,?_⟩
   ·rw[hb]
    simp[Result.andThen]
   ·have:(x::l).filter (fun y=>y.born !=e.born)=l:=by
     rw[List.filter_cons_of_neg (by simp[hb])];refine List.filter_eq_self.2 fun y hy=>?_;have:y.born≠x.born:=fun e=>hn.1 (List.mem_map.2 ⟨y,hy,e⟩);simpa[hb]using this
    rw[this]
    rfl
  ·have hbf:Nat.beq e.born x.born=false:=Bool.eq_false_iff.2 fun h=>hb (Nat.eq_of_beq_eq_true h)
   have hel:e∈l:=by
    rcases List.mem_cons.1 he with rfl|h
    ·exact absurd rfl hb
    ·exact h
   obtain⟨j,v,h1,h2⟩:=ih (i+1) (fun y hy=>hq y (by simp[hy])) hel hn.2;refine⟨j+1,v,?_,?_⟩
   ·rw[hbf]
    simp only[Result.andThen,Bool.false_eq_true,if_false];rw[h1,show i+1+j=i+(j+1) by omega]
   ·rw[List.filter_cons_of_pos (by simpa using Ne.symm hb),<-h2]
    rfl
theorem AL0{tk t t' ty te:TypeId}(ht:P.underlying t=some (.map tk te)){es l:List MapEntry}{c:Nat}(hK:Ks P tk es c)(hl:l.Sublist es){e:MapEntry}(he:e∈l){ws w:World}{b r:Nat}{sn:Array Nat}(h:RM ws b r c l sn w):
  ∃w',(Builtin.delete_ #[t,t'] ty #[.map (some b),e.key]).run P w=.ok (.tuple #[]) w'/\RM ws b r c (l.filter (fun x=>x.born !=e.born)) sn w':=by
 obtain⟨u,hu⟩:=hK.ck e (hl.subset he);obtain⟨fs,hfs⟩:=hK.st;obtain⟨j,v,h1,h2⟩:=AOH (P:=P) (tk:=tk) (e:=e) (w:=w) l 0 (fun x hx=>hK.eq e (hl.subset he) x (hl.subset hx)) he (hK.nd.sublist (hl.map _));have hne:l.toArray.isEmpty=false:=by
  cases l with
  |nil=>cases he
  |cons x l=>simp
 have hfn:Instr.findNow (.struct fs) e.key l 0=none:=by
  cases l with
  |nil=>cases he
  |cons x l=>simp[Instr.findNow,Instr.sameNow]
 refine⟨_,?_,h.strike _⟩;have hg:=h.mp;simp only[Builtin.delete_,List.getElem?_toArray,List.getElem?_cons_zero,List.getElem?_cons_succ];simp[run_underlying ht,MapKept.run_getObj_map hg,AGj hu,hne,Instr.findKey,run_underlying hfs,hfn,h1,MapKept.run_setObj_map _ hg,Result.andThen,ChangeMaps.setBlock,h2]
end
end
section
section
variable {P:Program}
theorem AT8{b r:Nat}{g:Nat×Nat×Nat}{EL:En}{v:Value}(h:VR (E2 b r g EL) (.map (some 0)) v):v=.map (some b):=by
 cases h with|map h=>simp[E2]at h;rw[h.1]
theorem AT9{b r:Nat}{g:Nat×Nat×Nat}{EL:En}{v:Value}(h:VR (E2 b r g EL) (.pointer (some ⟨1,0,none⟩)) v):v=.pointer (some ⟨r,0,none⟩):=by
 cases h with| @ptr _ a' g' h1 h2 h3=>
 obtain⟨bb,o,s⟩:=a';simp[E2]at h3;dsimp only at h1 h2;obtain⟨h4,h5⟩:=h3;subst h4 h5 h2;simp at h1;rw[h1]
theorem AA6{a:Act}{d:Option Tmp}{v:Value}{t:Nat}(h:d≠some t):(a.put d v).tmps[t]?=a.tmps[t]?:=by
 cases d with
 |none=>rfl
 |some d=>
  simp only[Act.put];rw[Array.getElem?_setIfInBounds_ne (fun e=>h (by rw[e]))]
theorem AMw{e:MapEntry}{tk:TypeId}{args:List Operand}{ts:List TypeId}{T:TP}(h:ANy P e tk args ts T=true):∃x y t t' te,args=[x,y]/\ts=[t,t']/\P.underlying t=some (.map tk te)/\X0 x T=some (.map (some 0))/\X0 y T=some e.key:=by
 unfold ANy at h;split at h
 ·rename_i x y
  split at h
  ·rename_i t t'
   split at h
   ·rename_i k te ht
    split at h
    ·rename_i hk
     have hk:=Nat.eq_of_beq_eq_true hk;subst hk;split at h
     ·rename_i hx
      split at h
      ·rename_i u hy
       rw[AJU h]at hy;exact⟨x,y,t,t',te,rfl,rfl,ht,hx,hy⟩
      ·cases h
     ·cases h
    ·cases h
   ·cases h
  ·cases h
 ·cases h
section
variable {es l:List MapEntry}{tk:TypeId}{c b r nt:Nat}{g:Nat×Nat×Nat}{ws wl:World}{sn:Array Nat}{e:MapEntry}{ops:Array Oper}{ro:Option Nat}{n:Nat}
def RH(b r:Nat)(g:Nat×Nat×Nat)(wl:World)(T:TP)(A:AH)(a:Act)(w:World):Prop:=∃EL,HR (WL wl) EL A w/\TR (E2 b r g EL) T a.tmps
def RP(nt b r c:Nat)(g:Nat×Nat×Nat)(ws wl:World)(l:List MapEntry)(sn:Array Nat)(e:MapEntry)(a:Act)(ds:List Nat)(T':TP)(A':AH)(d:Bool)(a':Act)(w':World):Prop:=
 nt<=a'.tmps.size/\(d=false->RH b r g wl T' A' a' w')/\a'.defers=a.defers/\(∀t,t∉ds->a'.tmps[t]?=a.tmps[t]?)/\RM ws b r c (bif d then l.filter (fun x=>x.born !=e.born)else l) (sn.push e.born) w'
theorem AL1(hP:OkP P)(hK:Ks P tk es c)(hl:l.Sublist es)(he:e∈l)(hM:RM ws b r c l (sn.push e.born) wl):∀(os:List Oper)(T:TP)(A:AH)(T':TP)(A':AH)(d:Bool)(a:Act)(w:World),AGh P nt e tk os T A=some (T',A',d)->nt<=a.tmps.size->RH b r g wl T A a w->
  ∀{Q:Exit->Act->World->Prop},(∀a' w',RP nt b r c g ws wl l sn e a (ACv os) T' A' d a' w'->Q .normal a' w')->wpListIn (Fw ro) n P ops Q os a w:=by
 intro os
 induction os with
 |nil=>
  intro T A T' A' d a w h hs hR Q hQ;cases h;obtain⟨EL,hH,hT⟩:=hR;exact hQ a w ⟨hs,fun _=>⟨EL,hH,hT⟩,rfl,fun _ _=>rfl,hM.below hH.ext⟩
 |cons o os ih=>
  intro T A T' A' d a w h hs hR Q hQ;obtain⟨EL,hH,hT⟩:=hR;have hMw:=hM.below hH.ext;simp only[AGh]at h;split at h
  ·cases h
  ·rename_i hg
   obtain⟨D,hD,h⟩:=KN h (by intro e;cases e);have hw:Region.wanted o (yielded ops a.tmps)=true:=by unfold Region.wanted;rw[hg]
   unfold wpListIn;rw[if_pos hw];refine⟨fun _ _=>trivial,?_⟩;have next:∀{v v':Value}{w':World}{A1:AH}{EL':En},AGh P nt e tk os (D v T) A1=some (T',A',d)->En.le EL EL'->VR (E2 b r g EL') v v'->HR (WL wl) EL' A1 w'->wpListIn (Fw ro) n P ops Q os (a.put o.dst v') w':=by
    intro v v' w' A1 EL' h1 hle hv hH';obtain⟨p1,p2,p3⟩:=ABW hD hs (hT.mono (APq hle)) hv;refine ih _ A1 T' A' d _ w' h1 p2 ⟨EL',hH',p1⟩ fun a' w2 hp=>hQ a' w2 ?_;obtain⟨q1,q2,q3,q4,q5⟩:=hp;refine⟨q1,q2,q3.trans p3,fun t ht=>?_,q5⟩;have h1:t∉ACv os:=fun hm=>ht (by
     unfold ACv at hm⊢;rw[List.filterMap_cons];split
     ·exact hm
     ·exact List.mem_cons_of_mem _ hm)
    have h2:o.dst≠some t:=fun e=>ht (by
     unfold ACv;rw[List.filterMap_cons,e];exact List.mem_cons_self)
    exact(q4 t h1).trans (AA6 h2)
   split at h
   ·rename_i x hop;split at h
    ·rename_i hx
     have hv:=AT9 (ACw hx hT);have hent:(Instr.entry (.pointer (some ⟨r,0,none⟩))).run P w=.ok (.tuple #[e.key,e.val]) w:=run_entry_at w r b c sn l.toArray c e hMw.it hMw.mp (by simpa using he) (by simpa using hK.nd.sublist (hl.map _));have hnd:∀c,o.op≠.defer c:=by rw[hop];intro c e;cases e
     rw[Oper.semAt_eq _ _ _ hnd];have hrun:(execOp a.eval o).run P w=.ok (.value (.tuple #[e.key,e.val])) w:=by
      unfold execOp;rw[hop];simp[hv,hent]
     rw[hrun];refine next h En.le_rfl (.tuple (.cons (zN (hK.fk e (hl.subset he))) (.cons (zN (hK.fv e (hl.subset he))) .nil))) hH
    ·cases h
   ·rename_i x hop;split at h
    ·rename_i v hx
     have hnd:∀c,o.op≠.defer c:=by rw[hop];intro c e;cases e
     rw[Oper.semAt_eq _ _ _ hnd];have hrun:(execOp a.eval o).run P w=.ok (.value (a.eval x)) w:=by
      unfold execOp;rw[hop];simp
     rw[hrun];exact next h En.le_rfl (ACw hx hT) hH
    ·cases h
   ·rename_i args tys hop;split at h
    ·split at h
     ·rename_i hd
      cases h;obtain⟨x,y,t,t',te,h1,h2,h3,h4,h5⟩:=AMw hd;have k1:=AT8 (ACw h4 hT);have k2:=zO (hK.fk e (hl.subset he)) (ACw h5 hT);obtain⟨w',k3,k4⟩:=AL0 (t':=t') (ty:=o.type) h3 hK hl he hMw;have hnd:∀c,o.op≠.defer c:=by rw[hop];intro c e;cases e
      rw[Oper.semAt_eq _ _ _ hnd];have hrun:(execOp a.eval o).run P w=.ok (.value (.tuple #[])) w':=by
       unfold execOp;rw[hop,ALo h1,ALo h2];simp[resolve,invoke,Go.builtin,k1,k2,k3]
      rw[hrun];obtain⟨p1,p2,p3⟩:=ABW hD hs hT (.tuple .nil:VR (E2 b r g EL) (.tuple #[]) (.tuple #[]));refine hQ _ w' ⟨p2,fun h=>(by cases h),p3,fun t ht=>AA6 fun e=>ht ?_,k4⟩;unfold ACv;rw[List.filterMap_cons,e];exact List.mem_cons_self
     ·cases h
    ·cases h
   ·split at h
    ·rename_i v A1 hp
     have hpl:=ALz hP hp hT hH (ro:=ro) (n:=n) (next:=wpListIn (Fw ro) n P ops Q os) (Q:=Q) fun EL' v' w' k1 k2 k3=>next h k1 k2 k3
     rw[Oper.semAt_eq _ _ _ hpl.2];exact hpl.1
    ·cases h
theorem AKB(hP:OkP P)(hK:Ks P tk es c)(hl:l.Sublist es)(he:e∈l)(hM:RM ws b r c l (sn.push e.born) wl):∀(q:Code)(T:TP)(A:AH)(T':TP)(A':AH)(d:Bool)(a:Act)(w:World),AC8 P nt e tk q T A=some (T',A',d)->nt<=a.tmps.size->RH b r g wl T A a w->
  q.wpIn (Fw ro) n P (fun x a' w'=>x=.normal/\RP nt b r c g ws wl l sn e a (ACv (ABy q)) T' A' d a' w') a w:=by
 intro q
 induction q with
 |skip=>
  intro T A T' A' d a w h hs hR;cases h;obtain⟨EL,hH,hT⟩:=hR;exact wpIn_skip ⟨rfl,hs,fun _=>⟨EL,hH,hT⟩,rfl,fun _ _=>rfl,hM.below hH.ext⟩
 |region id ops draw=>
  intro T A T' A' d a w h hs hR;cases draw with
  |true=>cases h
  |false=>exact wpIn_region_list (AL1 hP hK hl he hM _ T A T' A' d a w h hs hR fun a' w' hp=>⟨rfl,hp⟩)
 |seq p q ihp ihq=>
  intro T A T' A' d a w h hs hR;simp only[AC8]at h;split at h
  ·rename_i T1 A1 h1
   refine wpIn_seq (wpIn_mono (ihp T A T1 A1 false a w h1 hs hR) fun x a1 w1 hx=>?_);obtain⟨rfl,q1,q2,q3,q4,q5⟩:=hx;refine wpIn_mono (ihq T1 A1 T' A' d a1 w1 h q1 (q2 rfl)) fun x a2 w2 hx=>?_;obtain⟨rfl,p1,p2,p3,p4,p5⟩:=hx;refine⟨rfl,p1,p2,p3.trans q3,fun t ht=>?_,p5⟩;simp only[ABy,ACv,List.filterMap_append,List.mem_append,not_or]at ht;exact(p4 t ht.2).trans (q4 t ht.1)
  ·cases h
 |cond x p q ihp ihq=>
  intro T A T' A' d a w h hs hR;have hR':=hR;obtain⟨EL,hH,hT⟩:=hR';simp only[AC8]at h;split at h
  ·rename_i hx
   have hv:=ACw hx hT;generalize hz:a.eval x=z at hv;cases hv;refine wpIn_cond_true hz (wpIn_mono (ihp T A T' A' d a w h hs hR) fun x a2 w2 hx=>?_);obtain⟨rfl,p1,p2,p3,p4,p5⟩:=hx;refine⟨rfl,p1,p2,p3,fun t ht=>?_,p5⟩;simp only[ABy,ACv,List.filterMap_append,List.filterMap_cons,List.mem_append,not_or]at ht;exact p4 t ht.1
  ·rename_i hx
   have hv:=ACw hx hT;generalize hz:a.eval x=z at hv;cases hv;refine wpIn_cond_false hz (wpIn_mono (ihq T A T' A' d a w h hs hR) fun x a2 w2 hx=>?_);obtain⟨rfl,p1,p2,p3,p4,p5⟩:=hx;refine⟨rfl,p1,p2,p3,fun t ht=>?_,p5⟩;simp only[ABy,ACv,List.filterMap_append,List.filterMap_cons,List.mem_append,not_or]at ht;exact p4 t ht.2
  ·cases h
 |_=>intro T A T' A' d a w h;cases h
end
end
end
end Go.Md.Cf
end
