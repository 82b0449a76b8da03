/-
  Part 3 of 13 of what the last text stands on: lemmas about the model, pure functions, walks, laws in plain Lean; each part's own head says its condition. Merged by a program of our own.
-/
import Derived.Test.YtfmelbioccbdoaaGreatGroupedTonesQb
import Derived.OrdersIn
import Derived.RangeFuncLeaves
import Derived.WalkKit
import Derived.Deep.AppendSrc
import Derived.RangeFuncNested
import Derived.Maps.RangeRun
import Derived.KernelRfl
import Derived.Test.YtfmelbioccbdoaaGreatProg
set_option maxHeartbeats 0
set_option linter.all false
section
namespace Go.Md.Cf
open Go Go.RowKit
section
section
variable {P:Program}{w0:W0}{E:En}{α β:Type}
def ACm(P:Program)(w0:W0)(E:En)(o:Oper)(ρ':Operand->Value)(w:World)(v:Value)(A':AH):Prop:=
 ∃(E':En)(v':Value)(w':World),((execOp ρ' o).run P w=.ok (.value v') w'\/((execOp ρ' o).run P w=.ok .skip w'/\v'=undef))/\En.le E E'/\VR E' v v'/\HR w0 E' A' w'
theorem AKy{o:Oper}{ρ ρ':Operand->Value}{A A':AH}{w:World}{v:Value}(h:Sim P w0 NR E (execOp ρ o) (execOp ρ' o))(hH:HR w0 E A w)(hg:gen P o A ρ=.ok v A'):ACm P w0 E o ρ' w v A':=by
 unfold gen at hg;cases hr:Nk P (execOp ρ o) A with
 |none=>rw[hr]at hg;cases hg
 |some r=>
  obtain⟨n,A1⟩:=r;rw[hr]at hg;obtain⟨E',n',w',h1,h2,h3,h4⟩:=h E A w En.le_rfl hH n A1 hr;cases n<;>cases n'<;>try exact h3.elim
  all_goals first|(cases hg;done)|skip
  ·rename_i u u'
   cases hg;exact⟨E',u',w',.inl h2,h1,h3,h4⟩
  ·cases hg
   exact⟨E',undef,w',.inr ⟨h2,rfl⟩,h1,.tuple .nil,h4⟩
theorem AFd{α:Type}{s:Sem α}{A:AH}{v:α}(h:AB4 P s A=some v):Nk P s A=some (v,A):=by
 induction s with
 |pure a=>cases h;rfl
 |load m a k ih=>
  simp only[AB4,Nk]at h⊢;cases hl:A.load a with
  |none=>rw[hl]at h;cases h
  |some u=>rw[hl]at h;exact ih u h
 |getObj r k ih=>
  simp only[AB4,Nk]at h⊢;cases hg:kE A.t r with
  |none=>rw[hg]at h;cases h
  |some o=>
   rw[hg]at h;dsimp only at h⊢;cases ho:o.toObj with
   |none=>rw[ho]at h;cases h
   |some o'=>rw[ho]at h;exact ih o' h
 |choose q k ih=>
  simp only[AB4,Nk]at h⊢;cases hq:q.forced with
  |true=>rw[hq]at h;exact ih 0 h
  |false=>rw[hq]at h;cases h
 |program k ih=>exact ih P h
 |mark m k ih=>exact ih h
 |store m a v k ih=>cases h
 |new o k ih=>cases h
 |shape r k ih=>cases h
 |freeze a n k ih=>cases h
 |frozen a k ih=>cases h
 |setObj r o k ih=>cases h
 |sys c k ih=>cases h
 |halt h'=>cases h
theorem AHk{o:Oper}{ρ:Operand->Value}{A A':AH}{v:Value}(h:AJg P o A ρ=.ok v A'):gen P o A ρ=.ok v A'/\A'=A:=by
 unfold AJg at h;split at h
 ·rename_i u hu
  cases h;unfold gen;rw[AFd hu];exact⟨rfl,rfl⟩
 ·rename_i hu
  cases h;unfold gen;rw[AFd hu];exact⟨rfl,rfl⟩
 ·cases h
 ·cases h
theorem AHl{ρ ρ':Operand->Value}{l:List (Nat×Operand)}(h:∀x∈l.map (·.2),VR E (ρ x) (ρ' x)):PRs E (l.map fun p=>(p.1,ρ p.2)) (l.map fun p=>(p.1,ρ' p.2)):=by
 induction l with
 |nil=>exact .nil
 |cons x l ih=>exact .cons (h _ (by simp)) (ih fun y hy=>h y (by simp only[List.map_cons,List.mem_cons];exact .inr hy))
theorem AFe{ρ ρ':Operand->Value}{x:Option Operand}(h:∀y∈x.toArray.toList,VR E (ρ y) (ρ' y)):OV E (x.map ρ) (x.map ρ'):=by
 cases x with
 |none=>exact .none
 |some y=>exact .some (h y (by simp))
theorem AQN(hZ:Zf P){o:Oper}{ρ ρ':Operand->Value}(hk:AC0 o.op=2)(hρ:∀x∈o.op.operands.toList,VR E (ρ x) (ρ' x))(hkey:AFQ ρ o.op=true)
  (hsl:∀t x lo hi mx,o.op=.slice t x lo hi mx->AGE P E t (ρ x)):Sim P w0 NR E (execOp ρ o) (execOp ρ' o):=by
 obtain⟨dst,op,ty,pos,af,gd⟩:=o;dsimp only at hk hρ hkey;cases op
 case build t parts=>
  refine Sim.value (Sim.build hZ ?_);simp only[Array.toList_map];exact AHl fun x hx=>hρ x (by simpa[Op.operands]using hx)
 case buildSlice t n parts=>
  refine Sim.value (Sim.buildSlice hZ ?_);simp only[Array.toList_map];exact AHl fun x hx=>hρ x (by simpa[Op.operands]using hx)
 case makeMap t r=>exact Sim.value (Sim.makeMap (AFe fun y hy=>hρ y (by simpa[Op.operands]using hy)))
 case makeSlice t l c=>exact Sim.value (Sim.makeSlice hZ (hρ l (by simp[Op.operands])) (hρ c (by simp[Op.operands])))
 case makeFunc f a b=>
  cases f<;>try (cases hk;done)
  refine Sim.value (Sim.pure fun E' hE=>(VR.func _ ?_ ?_).mono hE)<;>
  ·simp only[Array.toList_map]
   exact VRs.map fun x hx=>hρ x (by simp only[Op.operands,Array.toList_append,List.mem_append];first|exact .inl hx|exact .inr hx)
 case slice t x lo hi mx=>
  exact Sim.value (Sim.sliceAt (hρ x (by simp[Op.operands])) (hsl _ _ _ _ _ rfl) (AFe fun y hy=>hρ y (by simp[Op.operands]at*;simp[hy])) (AFe fun y hy=>hρ y (by simp[Op.operands]at*;simp[hy]))
   (AFe fun y hy=>hρ y (by simp[Op.operands]at*;simp[hy])))
 case field t x i=>exact Sim.value (Sim.field (hρ x (by simp[Op.operands])))
 case index t x i=>exact Sim.value (Sim.index (hρ x (by simp[Op.operands])) (hρ i (by simp[Op.operands])))
 case lookup t x k c=>
  have e:=yg (E:=E) hkey (hρ k (by simp[Op.operands]));unfold execOp;dsimp only;rw[e];exact Sim.value (Sim.lookup hZ (hρ x (by simp[Op.operands])))
 case mapUpdate t m k x=>
  have e:=yg (E:=E) hkey (hρ k (by simp[Op.operands]));unfold execOp;dsimp only;rw[e];exact Sim.unit (Sim.mapUpdate (hρ m (by simp[Op.operands])) (hρ x (by simp[Op.operands])))
 case insert t m k x=>
  have e:=yg (E:=E) hkey (hρ k (by simp[Op.operands]));unfold execOp;dsimp only;rw[e];exact Sim.unit (Sim.mapUpdate (hρ m (by simp[Op.operands])) (hρ x (by simp[Op.operands])))
 case mapEntry t m k=>
  have e:=yg (E:=E) hkey (hρ k (by simp[Op.operands]));unfold execOp;dsimp only;rw[e];exact Sim.value (Sim.mapEntry hZ (hρ m (by simp[Op.operands])))
 case entryStore t m s x=>exact Sim.unit (Sim.entryStore (hρ m (by simp[Op.operands])) (hρ s (by simp[Op.operands])) (hρ x (by simp[Op.operands])))
 case store t a x=>exact Sim.unit (Sim.storeAt (hρ a (by simp[Op.operands])) (hρ x (by simp[Op.operands])))
 case call c=>
  obtain⟨callee,args,tys⟩:=c;cases callee<;>try (cases hk;done)
  case builtin b=>
   have ha:VRs E (args.map ρ).toList (args.map ρ').toList:=by
    simp only[Array.toList_map];exact VRs.map fun x hx=>hρ x (by simp only[Op.operands,Call.operands,Array.toList_append,List.mem_append];exact .inr hx)
   cases b<;>try (cases hk;done)
   case len=>exact Sim.value (Sim.len ha)
   case clear=>exact Sim.value (Sim.clear hZ ha)
   case copy=>exact Sim.value (Sim.copy ha)
   case delete=>
    refine Sim.value (Sim.delete ha fun k hk=>?_);simp only[AFQ]at hkey;rw[Array.getElem?_map]at hk;cases ho:(args[1]?:Option Operand)with
    |none=>rw[ho]at hk;cases hk
    |some x=>rw[ho]at hk hkey;cases hk;exact hkey
 all_goals cases hk
end
end
section
section
variable {P:Program}{w0:W0}{E:En}{α β:Type}
theorem Oc{γ δ:Type}{b:Bx γ}{d r:δ}{k:γ->δ}(h:b.ap d k=r)(hd:d≠r):∃f,b=.mk f/\k f=r:=by
 cases b with
 |mk f=>exact⟨f,rfl,h⟩
 |no=>exact absurd h hd
theorem yN{x:Operand}{X:OK}{T:TP}{v:Value}{a:Act}(h:ABS x=.mk X)(hv:X T=.mk v)(hT:TR E T a.tmps):VR E v (a.eval x):=by
 cases x with
 |tmp t=>
  simp only[ABS]at h;split at h
  ·rename_i hb
   cases h;obtain⟨v',h1,h2⟩:=hT t v (by simpa[Nat.blt_eq]using hb) hv;simp only[Act.eval,Array.getD_eq_getD_getElem?,h1];exact h2
  ·cases h
 |const c=>
  simp only[ABS]at h;split at h
  ·rename_i hf
   cases h;cases hv;exact yc hf
  ·cases h
 |global g=>cases h
 |func f=>cases h;cases hv;exact .func f .nil .nil
theorem AIW{x:Operand}{X:OK}{T:TP}{v:Value}(h:ABS x=.mk X)(hv:X T=.mk v):AAd x T=v:=by
 unfold AAd;rw[h];show OVal.rec (motive:=fun _=>Value) undef (fun v=>v) (X T)=v;rw[hv]
theorem wS{x:Operand}{T:TP}{s:String}{n:Nat}{k:Value->V}{v:Value}{A:AH}{a:Act}(h:X1 x T (.no s n) k=.ok v A)(hT:TR E T a.tmps):∃u,VR E u (a.eval x)/\k u=.ok v A:=by
 unfold X1 at h;obtain⟨X,h1,h2⟩:=Oc h (by intro e;cases e);cases hX:X T with
 |no=>rw[hX]at h2;cases h2
 |mk u=>rw[hX]at h2;exact⟨u,yN h1 hX hT,h2⟩
theorem AJs{x:Operand}{l:List Operand}{T:TP}{vs:List Value}{X:TP->Option (List Value)}(h:ABH (x::l)=.mk X)(hv:X T=some vs):
  ∃Y v L us,ABS x=.mk Y/\Y T=.mk v/\ABH l=.mk L/\L T=some us/\vs=v::us:=by
 simp only[ABH]at h;cases h;obtain⟨Y,h1,h2⟩:=Oc hv (by intro e;cases e);cases hY:Y T with
 |no=>rw[hY]at h2;cases h2
 |mk u=>
  rw[hY]at h2;obtain⟨L,h3,h4⟩:=Oc h2 (by intro e;cases e);cases hL:L T with
  |none=>rw[hL]at h4;cases h4
  |some us=>rw[hL]at h4;cases h4;exact⟨Y,u,L,us,h1,hY,h3,hL,rfl⟩
theorem AC8{l:List Operand}{T:TP}{a:Act}(hT:TR E T a.tmps):∀{vs:List Value}{X:TP->Option (List Value)},ABH l=.mk X->X T=some vs->
  VRs E vs (l.map a.eval)/\vs=l.map (fun x=>AAd x T)/\∀x∈l,VR E (AAd x T) (a.eval x):=by
 induction l with
 |nil=>intro vs X h hv;simp only[ABH]at h;cases h;cases hv;exact⟨.nil,rfl,by simp⟩
 |cons x l ih=>
  intro vs X h hv;obtain⟨Y,v,L,us,h1,h2,h3,h4,rfl⟩:=AJs h hv;obtain⟨i1,i2,i3⟩:=ih h3 h4;have hd:=AIW h1 h2;refine⟨.cons (yN h1 h2 hT) i1,by rw[List.map_cons,hd,i2],fun y hy=>?_⟩;rcases List.mem_cons.1 hy with rfl|hy
  ·rw[hd];exact yN h1 h2 hT
  ·exact i3 y hy
def OpS(P:Program)(w0:W0)(K:OpK)(o:Oper):Prop:=
 ∀(ca:vW)(rd:tZ)(E:En)(T:TP)(A:AH)(a:Act)(w:World)(v:Value)(A':AH),TR E T a.tmps->HR w0 E A w->K ca rd T A=.ok v A'->ACm P w0 E o a.eval w v A'
theorem AIX{ρ ρ':Operand->Value}{o:Oper}(hk:AC0 o.op=1)(h:∀x∈o.op.operands.toList,ρ' x=ρ x):execOp ρ' o=execOp ρ o:=by
 obtain⟨dst,op,ty,pos,af,gd⟩:=o;dsimp only at hk h;cases op
 case binOp b t x y t'=>
  have h1:=h x (by simp[Op.operands]);have h2:=h y (by simp[Op.operands]);unfold execOp;dsimp only;rw[h1,h2]
 case unOp b t x=>
  have h1:=h x (by simp[Op.operands]);unfold execOp;dsimp only;rw[h1]
 case convert b t x=>
  have h1:=h x (by simp[Op.operands]);unfold execOp;dsimp only;rw[h1]
 case pick x y z=>
  have h1:=h x (by simp[Op.operands]);have h2:=h y (by simp[Op.operands]);have h3:=h z (by simp[Op.operands]);unfold execOp;dsimp only;rw[h1,h2,h3]
 case call c=>
  obtain⟨callee,args,tys⟩:=c;cases callee<;>try (cases hk;done)
  case builtin b=>
   have ha:args.map ρ'=args.map ρ:=Array.map_congr_left fun x hx=>h x (by simp only[Op.operands,Call.operands,Array.toList_append,List.mem_append];exact .inr (by simpa using hx));unfold execOp resolve;dsimp only;rw[ha]
 case makeFunc f x y=>cases f<;>cases hk
 all_goals cases hk
theorem AEt(hZ:Zf P){o:Oper}{K:OpK}(h:ACh P o=.mk K)(ca:vW)(rd:tZ)(E:En)(T:TP)(A:AH)(a:Act)(w:World)(v:Value)(A':AH)(hT:TR E T a.tmps)(hH:HR w0 E A w)(hK:K ca rd T A=.ok v A')
  (hsl:∀t x lo hi mx,o.op=.slice t x lo hi mx->AGE P E t (AAd x T)):ACm P w0 E o a.eval w v A':=by
 unfold ACh at h;split at h
 ·cases h
 ·rename_i hk
  cases h;obtain⟨X,h1,h2⟩:=Oc hK (by intro e;cases e);cases hX:X T with
  |none=>rw[hX]at h2;cases h2
  |some vs=>
   rw[hX]at h2;dsimp only at h2;split at h2
   ·rename_i hf
    obtain⟨_,e,hv⟩:=AC8 hT h1 hX;have hs:execOp a.eval o=execOp (fun x=>AAd x T) o:=AIX hk fun x hx=>by
     refine yg (E:=E) ?_ (hv x hx);rw[List.all_eq_true]at hf;exact hf _ (by rw[e];exact List.mem_map_of_mem hx)
    unfold AMG at h2;split at h2
    ·rename_i u hq
     split at h2
     ·rename_i hfu
      cases h2;refine⟨E,_,w,.inl ?_,En.le_rfl,yc hfu,hH⟩;rw[hs];exact AE8 hq w
     ·cases h2
    ·cases h2
   ·cases h2
 ·rename_i hk0 hk1
  have hk:AC0 o.op=2:=by
   have hle:AC0 o.op<=2:=by unfold AC0;split<;>(try split)<;>omega
   have a0:AC0 o.op≠0:=hk0;have a1:AC0 o.op≠1:=hk1;omega
  have fin:∀{f:Oper->AH->(Operand->Value)->V}(_:f o A (fun x=>AAd x T)=.ok v A'->gen P o A (fun x=>AAd x T)=.ok v A'),
    ((ABH o.op.operands.toList).ap (.no "opnds" 0) fun X => match X T with
     |some _=>match AFQ (fun x=>AAd x T) o.op with
      |true=>f o A (fun x=>AAd x T)
      |false=>.no o.pos 4
     | none => .no "undef" 2 : V) = .ok v A' → ACm P w0 E o a.eval w v A' := by
   intro f hf hK;obtain⟨X,h1,h2⟩:=Oc hK (by intro e;cases e);cases hX:X T with
   |none=>rw[hX]at h2;cases h2
   |some vs=>
    rw[hX]at h2;dsimp only at h2;split at h2
    ·rename_i hkey
     obtain⟨_,e,hv⟩:=AC8 hT h1 hX;exact AKy (AQN hZ hk hv hkey hsl) hH (hf h2)
    ·cases h2
  split at h
  ·cases h
   exact fin (f:=gen P) id hK
  ·cases h
   exact fin (f:=AJg P) (fun e=>(AHk e).1) hK
theorem ACP(hZ:Zf P){o:Oper}{K:OpK}(h:ACh P o=.mk K)(hns:∀t x lo hi mx,o.op≠.slice t x lo hi mx):OpS P w0 K o:=fun ca rd E T A a w v A' hT hH hK=>
 AEt hZ h ca rd E T A a w v A' hT hH hK fun t x lo hi mx e=>absurd e (hns t x lo hi mx)
end
end
section
section
variable {P:Program}{w0:W0}{E:En}{α β:Type}
theorem AFf(a b:Int):ile a b=decide (a<=b):=by
 rw[Bool.eq_iff_iff,decide_eq_true_eq];cases a with
 |ofNat m=>cases b with
  |ofNat n=>show Nat.ble m n=true↔_;rw[Nat.ble_eq];simp only[Int.ofNat_eq_natCast];omega
  |negSucc n=>show false=true↔_;simp only[Int.ofNat_eq_natCast,Bool.false_eq_true,false_iff];omega
 |negSucc m=>cases b with
  |ofNat n=>show true=true↔_;simp only[Int.ofNat_eq_natCast,true_iff];omega
  |negSucc n=>show Nat.ble n m=true↔_;rw[Nat.ble_eq];omega
theorem ADT(a b:Int):ieq a b=decide (a=b):=by
 rw[Bool.eq_iff_iff,decide_eq_true_eq];cases a with
 |ofNat m=>cases b with
  |ofNat n=>show Nat.beq m n=true↔_;rw[Nat.beq_eq];simp only[Int.ofNat_eq_natCast];omega
  |negSucc n=>show false=true↔_;simp only[Int.ofNat_eq_natCast,Bool.false_eq_true,false_iff];omega
 |negSucc m=>cases b with
  |ofNat n=>show false=true↔_;simp only[Int.ofNat_eq_natCast,Bool.false_eq_true,false_iff];omega
  |negSucc n=>show Nat.beq m n=true↔_;rw[Nat.beq_eq];omega
theorem AFg{n:Int}(h:ANO n=true):IntKind.i64.wrap n=n:=by
 have h2:-9223372036854775808<=n/\n<9223372036854775808:=by
  cases n with
  |ofNat m=>have:Nat.blt m 9223372036854775808=true:=h;rw[Nat.blt_eq]at this;simp only[Int.ofNat_eq_natCast];omega
  |negSucc m=>have:Nat.blt m 9223372036854775808=true:=h;rw[Nat.blt_eq]at this;omega
 simp only[IntKind.wrap,IntKind.bits,IntKind.signed,Bool.true_and];split<;>rename_i h3<;>simp only[decide_eq_true_eq,ge_iff_le]at h3<;>omega
theorem xU{o:Oper}{ρ':Operand->Value}{w:World}{v v':Value}{A:AH}(h:(execOp ρ' o).run P w=.ok (.value v') w)(hv:VR E v v')(hH:HR w0 E A w):ACm P w0 E o ρ' w v A:=
 ⟨E,v',w,.inl h,En.le_rfl,hv,hH⟩
theorem AGf{f:Int->Int->Int}{a b v:Value}(h:AGA f a b=some v):∃m n,a=.int .i64 m/\b=.int .i64 n/\v=.int .i64 (IntKind.i64.wrap (f m n)):=by
 unfold AGA at h;split at h
 ·split at h
  ·dsimp only at h
   split at h
   ·rename_i hi
    cases h;exact⟨_,_,rfl,rfl,by rw[AFg hi]⟩
   ·cases h
  ·cases h
 ·cases h
theorem AGg{f:Int->Int->Bool}{a b v:Value}(h:ADg f a b=some v):∃m n,a=.int .i64 m/\b=.int .i64 n/\v=.bool (f m n):=by
 unfold ADg at h;split at h
 ·split at h
  ·cases h;exact⟨_,_,rfl,rfl,rfl⟩
  ·cases h
 ·cases h
theorem AEu(hZ:Zf P){o:Oper}{x y:Operand}{f:Value->Value->Option Value}{K:OpK}(h:zq P o x y f=.mk K)
  (hf:∀(ρ':Operand->Value)(a b v:Value)(w:World),f a b=some v->VR (fun _=>none) a (ρ' x)->VR (fun _=>none) b (ρ' y)->(execOp ρ' o).run P w=.ok (.value v) w/\wI v=true/\wI a=true/\wI b=true)
  (hf1:∀a b v,f a b=some v->wI a=true/\wI b=true) (hns:∀t x lo hi mx,o.op≠.slice t x lo hi mx):OpS P w0 K o:=by
 intro ca rd E T A a w v A' hT hH hK;unfold zq at h;cases h;obtain⟨X,h1,h2⟩:=Oc hK (by intro e;cases e);cases hX:X T with
 |no=>rw[hX]at h2;cases h2
 |mk u=>
  rw[hX]at h2;obtain⟨Y,h3,h4⟩:=Oc h2 (by intro e;cases e);cases hY:Y T with
  |no=>rw[hY]at h4;cases h4
  |mk s=>
   rw[hY]at h4;dsimp only at h4;cases hfu:f u s with
   |none=>
    rw[hfu]at h4;obtain⟨K,h5,h6⟩:=Oc h4 (by intro e;cases e);exact ACP hZ h5 hns ca rd E T A a w v A' hT hH h6
   |some r=>
    rw[hfu]at h4;cases h4;obtain⟨q1,q2⟩:=hf1 _ _ _ hfu;have e1:=yg q1 (yN h1 hX hT);have e2:=yg q2 (yN h3 hY hT);obtain⟨k1,k2,_,_⟩:=hf a.eval u s v w hfu (by rw[e1];exact yc q1) (by rw[e2];exact yc q2);exact xU k1 (yc k2) hH
theorem AHm(hZ:Zf P){o:Oper}{x y:Operand}{f:Value->Value->Option Value}{K:OpK}(h:zq P o x y f=.mk K)
  (hf:∀(E:En)(ρ':Operand->Value)(a b v:Value)(w:World),f a b=some v->VR E a (ρ' x)->VR E b (ρ' y)->(execOp ρ' o).run P w=.ok (.value v) w/\wI v=true)
  (hns:∀t x lo hi mx,o.op≠.slice t x lo hi mx):OpS P w0 K o:=by
 intro ca rd E T A a w v A' hT hH hK;unfold zq at h;cases h;obtain⟨X,h1,h2⟩:=Oc hK (by intro e;cases e);cases hX:X T with
 |no=>rw[hX]at h2;cases h2
 |mk u=>
  rw[hX]at h2;obtain⟨Y,h3,h4⟩:=Oc h2 (by intro e;cases e);cases hY:Y T with
  |no=>rw[hY]at h4;cases h4
  |mk s=>
   rw[hY]at h4;dsimp only at h4;cases hfu:f u s with
   |none=>
    rw[hfu]at h4;obtain⟨K,h5,h6⟩:=Oc h4 (by intro e;cases e);exact ACP hZ h5 hns ca rd E T A a w v A' hT hH h6
   |some r=>
    rw[hfu]at h4;cases h4;obtain⟨k1,k2⟩:=hf E a.eval u s v w hfu (yN h1 hX hT) (yN h3 hY hT);exact xU k1 (yc k2) hH
theorem AN0{t:TypeId}{el:TypeId}(hu:P.underlying t=some (.slice el)){e:Bool}{a b a' b' v:Value}{w:World}(h:nil2 e a b=some v)(ha:VR E a a')(hb:VR E b b'):
  ∃r:Bool,v=.bool (bif e then r else !r)/\(Op.equal t a' b').run P w=.ok r w/\∀(op:BinOp)(x y:Operand),(eqGuard op t x y a' b').run P w=.ok () w:=by
 have un:∀w:World,(underlying t).run P w=.ok (.slice el) w:=fun w=>(Q.und _ _ _ (show Nk P (underlying t) (⟨0,.lf⟩:AH)=some (_,⟨0,.lf⟩) by
  unfold underlying;rw[Qw];simp only[Go.program,Nk];rw[hu]
  rfl)).2 w
 have gd:∀(op:BinOp)(x y:Operand)(p q:Option Addr)(i j k l:Nat),(eqGuard op t x y (.slice p i j) (.slice q k l)).run P w=.ok () w:=by
  intro op x y p q i j k l;unfold eqGuard;cases op<;>simp<;>rfl
 unfold nil2 at h;split at h
 ·split at h
  ·cases h
   cases hb;cases ha<;>exact⟨false,by cases e<;>rfl,by unfold Op.equal Op.maxDepth;unfold Op.equalIn;rw[I9 (un w)];rfl,fun _ _ _=>gd ..⟩
  ·cases h
 ·split at h
  ·cases h
   cases ha;cases hb<;>exact⟨false,by cases e<;>rfl,by unfold Op.equal Op.maxDepth;unfold Op.equalIn;rw[I9 (un w)];rfl,fun _ _ _=>gd ..⟩
  ·cases h
   cases ha;cases hb;exact⟨true,by cases e<;>rfl,by unfold Op.equal Op.maxDepth;unfold Op.equalIn;rw[I9 (un w)];rfl,fun _ _ _=>gd ..⟩
  ·cases h
 ·cases h
theorem AJt{e:Bool}{a b a' b' v:Value}(h:nil2 e a b=some v)(ha:VR E a a')(hb:VR E b b'):∃p i j q k l,a'=.slice p i j/\b'=.slice q k l:=by
 unfold nil2 at h;split at h
 ·split at h
  ·cases hb
   cases ha<;>exact⟨_,_,_,_,_,_,rfl,rfl⟩
  ·cases h
 ·split at h
  ·cases ha
   cases hb<;>exact⟨_,_,_,_,_,_,rfl,rfl⟩
  ·cases ha
   cases hb;exact⟨_,_,_,_,_,_,rfl,rfl⟩
  ·cases h
 ·cases h
theorem AGh(hZ:Zf P){e:Bool}{dst:Option Tmp}{t yt:TypeId}{x y:Operand}{ty:TypeId}{pos:String}{af:Array Edge}{gd:Option (Nat×Bool)}{K:OpK}{el:TypeId}(hu:P.underlying t=some (.slice el))
  (h:zq P ⟨dst,.binOp (bif e then .eql else .neq) t x y yt,ty,pos,af,gd⟩ x y (nil2 e)=.mk K):OpS P w0 K ⟨dst,.binOp (bif e then .eql else .neq) t x y yt,ty,pos,af,gd⟩:=by
 refine AHm hZ h (fun E ρ' a b v w hv ha hb=>?_) (fun _ _ _ _ _ e=>by cases e);obtain⟨r,rfl,h1,h2⟩:=AN0 hu hv ha hb;refine⟨?_,rfl⟩;have hb:(binOp (bif e then .eql else .neq) t (ρ' x) (ρ' y)).run P w=.ok (.bool (bif e then r else !r)) w:=by
  obtain⟨p,i,j,q,k,l,e1,e2⟩:=AJt hv ha hb;rw[e1,e2]at h1⊢;cases e
  ·exact(I9 h1).trans rfl
  ·exact(I9 h1).trans rfl
 have hg:=h2 (bif e then .eql else .neq) x y;unfold execOp;dsimp only;rw[I9 ((I9 hg).trans hb)]
 rfl
theorem AC9(hZ:Zf P){o:Oper}{x y:Operand}{f:Int->Int->Int}{K:OpK}(h:zq P o x y (AGA f)=.mk K)
  (hf:∀(ρ':Operand->Value)(m n:Int)(w:World),ρ' x=.int .i64 m->ρ' y=.int .i64 n->(execOp ρ' o).run P w=.ok (.value (.int .i64 (IntKind.i64.wrap (f m n)))) w) (hns:∀t x lo hi mx,o.op≠.slice t x lo hi mx:=by intro _ _ _ _ _ e;cases e):OpS P w0 K o:=
 AEu hZ h (fun ρ' a b v w hv ha hb=>by
  obtain⟨m,n,rfl,rfl,rfl⟩:=AGf hv;refine⟨hf ρ' m n w ?_ ?_,rfl,rfl,rfl⟩
  ·generalize ρ' x=z at ha;cases ha;rfl
  ·generalize ρ' y=z at hb;cases hb;rfl) (fun a b v hv=>by obtain⟨m,n,rfl,rfl,rfl⟩:=AGf hv;exact⟨rfl,rfl⟩) hns
theorem ABf(hZ:Zf P){o:Oper}{x y:Operand}{f:Int->Int->Bool}{K:OpK}(h:zq P o x y (ADg f)=.mk K)
  (hf:∀(ρ':Operand->Value)(m n:Int)(w:World),ρ' x=.int .i64 m->ρ' y=.int .i64 n->(execOp ρ' o).run P w=.ok (.value (.bool (f m n))) w) (hns:∀t x lo hi mx,o.op≠.slice t x lo hi mx:=by intro _ _ _ _ _ e;cases e):OpS P w0 K o:=
 AEu hZ h (fun ρ' a b v w hv ha hb=>by
  obtain⟨m,n,rfl,rfl,rfl⟩:=AGg hv;refine⟨hf ρ' m n w ?_ ?_,rfl,rfl,rfl⟩
  ·generalize ρ' x=z at ha;cases ha;rfl
  ·generalize ρ' y=z at hb;cases hb;rfl) (fun a b v hv=>by obtain⟨m,n,rfl,rfl,rfl⟩:=AGg hv;exact⟨rfl,rfl⟩) hns
theorem AKz{t:TypeId}{a a':Addr}{A:AH}{w:World}{o:Oper}{ρ':Operand->Value}{x:Operand}{v:Value}(ho:o.op=.load t x)(hx:ρ' x=.pointer (some a'))(ha:VR E (.pointer (some a)) (.pointer (some a')))(hH:HR w0 E A w)
  (hl:∃A',Nk P (Go.loadVar t a) A=some (v,A')/\A'=A):ACm P w0 E o ρ' w v A:=by
 obtain⟨A',hl,rfl⟩:=hl;obtain⟨E',v',w',h1,h2,h3,h4⟩:=Sim.loadVar ha E A' w En.le_rfl hH v A' hl;refine⟨E',v',w',.inl ?_,h1,h3,h4⟩;obtain⟨dst,op,ty,pos,af,gd⟩:=o;dsimp only at ho;subst ho;show(do let z<-Instr.loadAt t (ρ' x);Pure.pure (Next.value z):Sem Next).run P w=_;unfold Instr.loadAt;rw[hx];exact I9 ((I9 (s:=(Pure.pure a':Sem Addr)) rfl).trans h2)
theorem AFh{t:TypeId}{A:AH}(h:P.underlying t≠none):Nk P (isAgg t) A=some (AD9 P t,A):=by
 unfold isAgg underlying;rw[Qw,Qw];simp only[Go.program,Nk];cases hu:P.underlying t with
 |none=>exact absurd hu h
 |some d=>cases d<;>simp[AD9,hu]<;>rfl
theorem AGi{t:TypeId}{A:AH}{i:TypeInfo}(h:P.info? t=some i):Nk P (sizeOf t) A=some (P.cellsOf t,A):=by
 unfold sizeOf typeInfo;rw[Qw,Qw];simp only[Go.program,Nk];rw[h];simp[Program.cellsOf,h]
 rfl
theorem AHn{t:TypeId}{d:TypeDesc}(h:P.underlying t=some d):∃i,P.info? t=some i:=by
 unfold Program.underlying at h;split at h
 ·exact⟨_,by assumption⟩
 ·exact⟨_,by assumption⟩
 ·cases h
end
end
section
section
variable {P:Program}{w0:W0}{E:En}{α β:Type}
theorem ADk{t:TypeId}{n:Nat}(h:P.cellsOf t=n+1):∃i,P.info? t=some i/\i.size=n+1:=by
 unfold Program.cellsOf at h;cases hi:P.info? t with
 |none=>rw[hi]at h;cases h
 |some i=>rw[hi]at h;exact⟨i,rfl,h⟩
theorem ADl{t:TypeId}{i:TypeInfo}{w:World}(h:P.info? t=some i):(sizeOf t).run P w=.ok (P.cellsOf t) w:=by
 exact(Q.size _ _ _ (AGi (A:=⟨0,.lf⟩) h)).2 w
theorem AGF{b o:Nat}(n:Nat):(⟨b,o,none⟩:Addr).add n=⟨b,o+n,none⟩:=by
 unfold Addr.add;split
 ·rename_i h;rw[h];rfl
 ·rfl
theorem AJu{A:AH}{b o:Nat}{cs:List Value}{e:TypeId}{g:Nat}(hb:kE A.t b=some (.cells cs e g))(n:Nat):∀(i:Nat)(acc:Array Value),((cs.drop (o+i)).take n).length=n->
  Nk P (Go.loadCellsFrom ⟨b,o,none⟩ i n acc) A=some ((acc.toList++(cs.drop (o+i)).take n).toArray,A):=by
 induction n with
 |zero=>intro i acc _;unfold Go.loadCellsFrom;show some (acc,A)=_;simp
 |succ n ih=>
  intro i acc h;unfold Go.loadCellsFrom;have hlt:o+i<cs.length:=by simp at h;omega
  rw[Qw,AGF];have hl:Nk P (Go.load ⟨b,o+i,none⟩) A=some (cs[o+i],A):=by
   simp only[Go.load,Nk,AH.load,hb,List.getElem?_eq_getElem hlt]
  rw[hl];dsimp only;rw[ih (i+1) _ (by simp at h⊢;omega)]
  congr 2
  rw[List.drop_eq_getElem_cons hlt];simp[Nat.add_assoc]
theorem AFi{A:AH}{a:Addr}{n:Nat}{v:Value}(h:AAp A a n=some v):∃c,v=.agg c/\Nk P (Go.loadCells a n) A=some (c,A):=by
 obtain⟨b,o,s⟩:=a;cases s with
 |some s=>cases h
 |none=>
  unfold AAp at h;dsimp only at h;split at h
  ·rename_i cs e g hb
   split at h
   ·rename_i hl
    cases h;refine⟨_,rfl,?_⟩;have:=AJu (P:=P) (o:=o) hb n 0 #[] (by simpa using Nat.eq_of_beq_eq_true hl);simpa[Go.loadCells]using this
   ·cases h
  ·cases h
theorem AFj{t:TypeId}(hu:P.underlying t≠none){A:AH}{a:Addr}{v:Value}(h:(match AD9 P t with|true=>AAp A a (P.cellsOf t)|false=>A.load a)=some v):∃A',Nk P (Go.loadVar t a) A=some (v,A')/\A'=A:=by
 refine⟨A,?_,rfl⟩;unfold Go.loadVar;rw[Qw,AFh hu];dsimp only;cases hg:AD9 P t with
 |true=>
  rw[hg]at h;obtain⟨c,rfl,hc⟩:=AFi (P:=P) h;obtain⟨d,hd⟩:=Option.ne_none_iff_exists'.1 hu;obtain⟨i,hi⟩:=AHn hd;rw[if_pos rfl,Qw,AGi hi];dsimp only;rw[Qw,hc]
  rfl
 |false=>
  rw[hg]at h;dsimp only at h;simp only[Bool.false_eq_true,if_false,Go.load,Nk,h]
theorem ACX{a:Addr}{z:Value}(h:VR E (.pointer (some a)) z):∃a',z=.pointer (some a'):=by cases h;exact⟨_,rfl⟩
theorem AGG{t:TypeId}{d:TypeDesc}{w:World}(h:P.underlying t=some d):(underlying t).run P w=.ok d w:=by
 have:Nk P (underlying t) (⟨0,.lf⟩:AH)=some (d,⟨0,.lf⟩):=by
  unfold underlying;rw[Qw];simp only[Go.program,Nk];rw[h]
  rfl
 exact(Q.und _ _ _ this).2 w
theorem AHo{I:OK}{sz len:Nat}{a:Addr}{T:TP}{A A':AH}{v:Value}{i:Operand}{act:Act}(h:ixK I sz a len T A=.ok v A')(hI:ABS i=.mk I)(hT:TR E T act.tmps):
  ∃k b o n,a=⟨b,o,none⟩/\act.eval i=.int k (Int.ofNat n)/\n<len/\v=.pointer (some ⟨b,o+n*sz,none⟩)/\A'=A:=by
 unfold ixK at h;split at h
 ·rename_i k n hi
  split at h
  ·rename_i hlt
   split at h
   ·cases h
    have:=yN hI hi hT;generalize act.eval i=z at this;cases this;exact⟨k,_,_,n,rfl,rfl,by simpa[Nat.blt_eq]using hlt,rfl,rfl⟩
   ·cases h
  ·cases h
 ·cases h
theorem AFk{m n:Int}:(!decide (n<=m))=decide (m<n):=by
 rw[<-decide_not];exact decide_eq_decide.2 Int.not_le
theorem AHp{o:Oper}{ρ':Operand->Value}{w:World}{A:AH}{t:TypeId}{c:List Value}{c':Array Value}(h:(execOp ρ' o).run P w=.ok (.value (.pointer (some ⟨w.heap.size,0,none⟩))) (w.alloc (.cells c' t (0,0))))
  (hc:VRs E c c'.toList) (hH:HR w0 E A w):ACm P w0 E o ρ' w (.pointer (some ⟨A.next,0,none⟩)) (A.push (.cells c t 0)):=by
 refine⟨_,_,_,.inl h,En.le_put hH.fresh,.ptr (g:=(0,0,c'.size)) rfl rfl En.put_same,hH.push ⟨[],c'.toList,[],?_,rfl,hc.mono (En.le_put hH.fresh),rfl,by simp,fun _=>⟨rfl,rfl⟩⟩⟩;rw[AA9];simp
def AHq:Op->Bool
 |.call {callee:=.value _,..}=>false
 |_=>true
theorem AIY(hZ:Zf P){o:Oper}{K:OpK}(h:AFR P o=.mk K)(hc:AHq o.op=true)(hns:∀t x lo hi mx,o.op≠.slice t x lo hi mx):OpS P w0 K o:=by
 obtain⟨dst,op,ty,pos,af,gd⟩:=o;unfold AFR at h;dsimp only at h hc hns;split at h
 case h_1 x=>
  cases h;intro ca rd E T A a w v A' hT hH hK;obtain⟨u,hu,hk⟩:=wS hK hT;cases hk;exact xU rfl hu hH
 case h_2 x=>
  cases h;intro ca rd E T A a w v A' hT hH hK;obtain⟨u,hu,hk⟩:=wS hK hT;cases hk;exact xU rfl hu hH
 case h_3=>exact AC9 hZ h fun ρ' m n w hx hy=>by simp[execOp,hx,hy,eqGuard,Go.binOp,Op.intArith]
 case h_4=>exact AC9 hZ h fun ρ' m n w hx hy=>by simp[execOp,hx,hy,eqGuard,Go.binOp,Op.intArith];rfl
 case h_5=>exact AC9 hZ h fun ρ' m n w hx hy=>by simp[execOp,hx,hy,eqGuard,Go.binOp,Op.intArith]
 case h_6=>exact ABf hZ h fun ρ' m n w hx hy=>by rw[AFf,AFk];simp[execOp,hx,hy,eqGuard,Go.binOp,Op.intCmp]
 case h_7=>exact ABf hZ h fun ρ' m n w hx hy=>by rw[AFf];simp[execOp,hx,hy,eqGuard,Go.binOp,Op.intCmp]
 case h_8=>exact ABf hZ h fun ρ' m n w hx hy=>by rw[AFf,AFk];simp[execOp,hx,hy,eqGuard,Go.binOp,Op.intCmp]
 case h_9=>exact ABf hZ h fun ρ' m n w hx hy=>by rw[AFf];simp[execOp,hx,hy,eqGuard,Go.binOp,Op.intCmp]
 case h_10=>
  split at h
  ·rename_i hu
   exact AGh hZ (e:=true) hu h
  ·exact ABf hZ h fun ρ' m n w hx hy=>by rw[ADT];simp[execOp,hx,hy,eqGuard,Go.binOp,Op.intCmp];rfl
 case h_11=>
  split at h
  ·rename_i hu
   exact AGh hZ (e:=false) hu h
  ·exact ABf hZ h fun ρ' m n w hx hy=>by rw[ADT];simp[execOp,hx,hy,eqGuard,Go.binOp,Op.intCmp];rfl
 case h_12 c x y=>
  cases h;intro ca rd E T A a w v A' hT hH hK;obtain⟨u,hu,hk⟩:=wS hK hT;split at hk
  ·obtain⟨u2,hu2,hk⟩:=wS hk hT
   cases hk;refine xU ?_ hu2 hH;generalize hz:a.eval c=z at hu;cases hu;simp[execOp,hz]
   rfl
  ·obtain⟨u2,hu2,hk⟩:=wS hk hT
   cases hk;refine xU ?_ hu2 hH;generalize hz:a.eval c=z at hu;cases hu;simp[execOp,hz]
   rfl
  ·cases hk
 case h_13 x=>
  cases h;intro ca rd E T A a w v A' hT hH hK;obtain⟨u,hu,hk⟩:=wS hK hT;split at hk
  ·cases hk
   obtain⟨a',ha⟩:=ACX hu;rw[ha]at hu;refine xU (v':=.pointer (some a')) ?_ hu hH;simp[execOp,ha]
  ·cases hk
 case h_14 t x=>
  split at h
  ·cases h
  ·rename_i d hd
   have hun:P.underlying t≠none:=by rw[hd];exact fun e=>by cases e
   have key:∀(ca:vW)(rd:tZ)(E:En)(T:TP)(A:AH)(a:Act)(w:World)(u v:Value)(A':AH)(a0:Addr),HR w0 E A w->VR E u (a.eval x)->u=.pointer (some a0)->
     (match AD9 P t with|true=>AAp A a0 (P.cellsOf t)|false=>A.load a0)=some v->A'=A->ACm P w0 E ⟨dst,.load t x,ty,pos,af,gd⟩ a.eval w v A':=by
    intro ca rd E T A a w u v A' a0 hH hu e hl e2;subst e e2;obtain⟨a',ha⟩:=ACX hu;rw[ha]at hu;exact AKz rfl ha hu hH (AFj hun hl)
   split at h
   ·rename_i hg
    split at h
    ·cases h
    ·rename_i n hn
     cases h;intro ca rd E T A a w v A' hT hH hK;obtain⟨u,hu,hk⟩:=wS hK hT;split at hk
     ·rename_i a0
      unfold ret1 at hk;split at hk
      ·rename_i v' hv
       cases hk;exact key ca rd E T A a w _ v A a0 hH hu rfl (by rw[hg,hn];exact hv) rfl
      ·cases hk
     ·cases hk
   ·rename_i hg
    cases h;intro ca rd E T A a w v A' hT hH hK;obtain⟨u,hu,hk⟩:=wS hK hT;split at hk
    ·rename_i a0
     unfold ret1 at hk;split at hk
     ·rename_i v' hv
      cases hk;exact key ca rd E T A a w _ v A a0 hH hu rfl (by rw[hg];exact hv) rfl
     ·cases hk
    ·cases hk
 case h_15 t x i=>
  split at h
  ·rename_i e he
   split at h
   ·cases h
   ·rename_i sz hsz
    cases h;intro ca rd E T A a w v A' hT hH hK;obtain⟨u,hu,hk⟩:=wS hK hT;split at hk
    ·rename_i a0 len cap
     obtain⟨I,h1,h2⟩:=Oc hk (by intro e;cases e);obtain⟨k,b,o,n,rfl,hi,hlt,rfl,rfl⟩:=AHo h2 h1 hT;obtain⟨inf,hinf,_⟩:=ADk hsz;generalize hz:a.eval x=z at hu;cases hu with
     |sl0=>omega
     | @sl _ a' g _ _ c' q1 q2 q3 q4 q5 q6=>
      refine xU (v':=.pointer (some (a'.add (n*(sz+1))))) ?_ ?_ hH
      ·simp[execOp,hz,hi,Instr.indexAt,asIntOf,AGG he,hlt,ADl hinf,hsz]
      ·have:=(VR.ptr q1 q2 q3:VR E (.pointer (some ⟨b,o,none⟩)) (.pointer (some a'))).padd (n*(sz+1))
       rwa [AGF]at this
    ·cases hk
  ·rename_i n0 e he
   split at h
   ·cases h
   ·rename_i sz hsz
    cases h;intro ca rd E T A a w v A' hT hH hK;obtain⟨u,hu,hk⟩:=wS hK hT;split at hk
    ·rename_i a0
     obtain⟨I,h1,h2⟩:=Oc hk (by intro e;cases e);obtain⟨k,b,o,n,rfl,hi,hlt,rfl,rfl⟩:=AHo h2 h1 hT;obtain⟨inf,hinf,_⟩:=ADk hsz;obtain⟨a',hz⟩:=ACX hu;rw[hz]at hu;refine xU (v':=.pointer (some (a'.add (n*(sz+1))))) ?_ ?_ hH
     ·simp[execOp,hz,hi,Instr.indexAt,asIntOf,Instr.sureAddr,AGG he,hlt,ADl hinf,hsz]
     ·have:=hu.padd (n*(sz+1))
      rwa [AGF]at this
    ·cases hk
  ·cases h
 case h_16 t x f=>
  split at h
  ·rename_i fs hfs
   split at h
   ·rename_i fd hfd
    split at h
    ·cases h
    ·rename_i hne
     have hcz:P.cellsOf fd.type≠0:=fun e=>hne e;obtain⟨m,hm⟩:=Nat.exists_eq_succ_of_ne_zero hcz;obtain⟨inf,hinf,_⟩:=ADk hm;have run:∀(ρ':Operand->Value)(a':Addr)(w:World),ρ' x=.pointer (some a')->(execOp ρ' ⟨dst,.fieldAddr t x f,ty,pos,af,gd⟩).run P w=.ok (.value (.pointer (some (a'.add fd.offset)))) w:=by
      intro ρ' a' w hz;simp[execOp,hz,Instr.fieldAt,Instr.sureAddr,AGG hfs,hfd,fieldPlace,ADl hinf,hcz]
     split at h
     ·rename_i h0
      cases h;intro ca rd E T A a w v A' hT hH hK;obtain⟨u,hu,hk⟩:=wS hK hT;split at hk
      ·cases hk
       obtain⟨a',hz⟩:=ACX hu;rw[hz]at hu;refine xU (run _ a' w hz) ?_ hH;have:=hu.padd 0;rw[h0];exact hu.padd 0
      ·cases hk
     ·rename_i off hoff
      cases h;intro ca rd E T A a w v A' hT hH hK;obtain⟨u,hu,hk⟩:=wS hK hT;split at hk
      ·rename_i b o
       cases hk;obtain⟨a',hz⟩:=ACX hu;rw[hz]at hu;refine xU (run _ a' w hz) ?_ hH;rw[hoff];have:=hu.padd (off+1);rwa [AGF]at this
      ·cases hk
   ·cases h
  ·cases h
 case h_17 t=>
  split at h
  ·rename_i z hz
   cases h;intro ca rd E T A a w v A' hT hH hK;cases A with|mk n tr=>
   cases hK;cases hi:P.info? t with
   |none=>rw[hi]at hz;cases hz
   |some inf=>
    rw[hi]at hz;have hz':inf.zero=some z:=hz;refine AHp (A:=⟨n,tr⟩) (c':=z.cells) ?_ (AAq (hZ _ _ _ hi hz')).cells hH;have hzr:(zeroValue t).run P w=.ok z w:=by
     unfold zeroValue typeInfo;rw[Sem.run_bind,Sem.run_bind];show Result.andThen (Result.andThen (Go.program.run P w) _) _=_;simp only[Go.program,Sem.run,Result.andThen];rw[hi];show(match inf.zero with|some v=>(Pure.pure v:Sem Value)|none=>unsupported _).run P w=_;rw[hz']
     rfl
    show(do let z<-Instr.alloc t true (.tuple #[]);Pure.pure (Next.value z):Sem Next).run P w=_;unfold Instr.alloc;exact I9 ((I9 hzr).trans rfl)
  ·cases h
 case h_18 t x=>
  cases h;intro ca rd E T A a w v A' hT hH hK;obtain⟨u,hu,hk⟩:=wS hK hT;cases A with|mk n tr=>
  cases hk;exact AHp (A:=⟨n,tr⟩) (c':=(a.eval x).cells) rfl hu.cells hH
 case h_19 x i=>
  cases h;intro ca rd E T A a w v A' hT hH hK;obtain⟨u,hu,hk⟩:=wS hK hT;split at hk
  ·rename_i vs
   unfold ret1 at hk;split at hk
   ·rename_i v' hv
    cases hk;generalize hz:a.eval x=z at hu;cases hu with| @tuple _ c' hc=>
    obtain⟨v2,q1,q2⟩:=hc.get hv;refine xU (v':=v2) ?_ q2 hH;have:c'[i]?=some v2:=by simpa using q1
    simp[execOp,hz,Instr.extract,this]
   ·cases hk
  ·cases hk
 case h_20=>cases hc
 case h_21=>cases hc
 case h_22=>exact ACP hZ h hns
end
end
section
section
variable {P:Program}{w0:W0}{E:En}{α β:Type}
theorem AFl{A:AH}{a:Addr}{k:Nat}{c:Array Value}(h:AAp A a k=some (.agg c)):c.size=k:=by
 obtain⟨b,o,s⟩:=a;cases s with
 |some s=>cases h
 |none=>
  unfold AAp at h;dsimp only at h;split at h
  ·split at h
   ·rename_i hl
    cases h;have:=Nat.eq_of_beq_eq_true hl;simpa using this
   ·cases h
  ·cases h
theorem AFm{A:AH}{a a':Addr}{k:Nat}{c:Array Value}{w:World}(h:AAp A a k=some (.agg c))(ha:VR E (.pointer (some a)) (.pointer (some a')))(hH:HR w0 E A w):
  ∃(E1:En)(c':Array Value)(w1:World),(Go.loadCells a' k).run P w=.ok c' w1/\En.le E E1/\VRs E1 c.toList c'.toList/\HR w0 E1 A w1:=by
 obtain⟨c0,e,hc⟩:=AFi (P:=P) h;cases e;obtain⟨E1,c',w1,h1,h2,h3,h4⟩:=Sim.loadCells ha k E A w En.le_rfl hH _ _ hc;exact⟨E1,c',w1,h2,h1,h3,h4⟩
theorem AEC{xb:Option Addr}{n m xc:Nat}{new:Array Value}{A:AH}{x':Value}{w:World}(h:ACi A xb n (Nat.mul n m)=some (.agg new))(hx:VR E (.slice xb n xc) x')(hH:HR w0 E A w):
  ∃(E1:En)(c':Array Value)(w1:World),(Builtin.firstCells m n x').run P w=.ok c' w1/\En.le E E1/\VRs E1 new.toList c'.toList/\HR w0 E1 A w1/\new.size=n*m/\Builtin.lenOf x'=Pure.pure n:=by
 unfold ACi at h;split at h
 ·rename_i a
  have hs:new.size=n*m:=AFl h;cases hx with
  |sl q1 q2 q3 q4 q5 q6=>
   obtain⟨E1,c',w1,h1,h2,h3,h4⟩:=AFm (P:=P) h (.ptr q1 q2 q3) hH;exact⟨E1,c',w1,h1,h2,h3,h4,hs,rfl⟩
  |sl0 q3 q5 q2=>
   rw[Nat.zero_mul]at hs;have:new=#[]:=Array.eq_empty_of_size_eq_zero hs;subst this;refine⟨E,#[],w,?_,En.le_rfl,.nil,hH,by simp,rfl⟩;unfold Builtin.firstCells;rw[Nat.zero_mul]
   rfl
 ·split at h
  ·rename_i hn
   cases h;have hn:=Nat.eq_of_beq_eq_true hn;subst hn;cases hx;exact⟨E,#[],w,rfl,En.le_rfl,.nil,hH,by simp,rfl⟩
  ·cases h
theorem ADA{a:Addr}(n:Nat):∀{i:Nat}{acc c:Array Value}{w w1:World},(Go.loadCellsFrom a i n acc).run P w=.ok c w1->w1=w:=by
 induction n with
 |zero=>intro i acc c w w1 h;cases h;rfl
 |succ n ih=>
  intro i acc c w w1 h;unfold Go.loadCellsFrom at h;rw[Sem.run_bind]at h;have hl:∀r,(Go.load (a.add i)).run P w=r->(∃v,r=.ok v w)\/∃h,r=.halt h w:=by
   intro r hr;subst hr;unfold Go.load;simp only[Sem.run];split
   ·exact .inl ⟨_,rfl⟩
   ·split
    ·exact .inl ⟨_,rfl⟩
    ·exact .inr ⟨_,rfl⟩
  rcases hl _ rfl with⟨v,hv⟩|⟨x,hv⟩
  ·rw[hv]at h;exact ih h
  ·rw[hv]at h;cases h
theorem ADB{m n:Nat}{x:Value}{c:Array Value}{w w1:World}(h:(Builtin.firstCells m n x).run P w=.ok c w1):w1=w:=by
 unfold Builtin.firstCells at h;split at h
 ·exact ADA _ h
 ·cases h;rfl
 ·cases h;rfl
 ·cases h
section
variable {t tx ty e e2:TypeId}{i:TypeInfo}{base:Option Addr}{sLen sCap n:Nat}{x:Value}{c olds:Array Value}{w w2:World}
theorem ADm(ht:P.underlying t=some (.slice e))(hk:P.underlying tx=some (.slice e2))(hi:P.info? e=some i)(hl:Builtin.lenOf x=Pure.pure n)(hroom:sLen+n<=sCap)
  (hc:(Builtin.firstCells i.size n x).run P w=.ok c w) (hst:(match base with|some a=>Go.storeCells (a.add (sLen*i.size)) c.toList|none=>Pure.pure ()).run P w=.ok () w2):
  (Builtin.append_ #[t,tx] ty #[.slice base sLen sCap,x]).run P w=.ok (.slice base (sLen+n) sCap) w2:=by
 cases base with
 |none=>cases hst;simp[Builtin.append_,run_underlying ht,run_underlying hk,sizeOf,typeInfo,hi,hl,hroom,hc]
 |some a=>simp[Builtin.append_,run_underlying ht,run_underlying hk,sizeOf,typeInfo,hi,hl,hroom,hc,hst]
theorem AMU{z:Value}(ht:P.underlying t=some (.slice e))(hk:P.underlying tx=some (.slice e2))(hi:P.info? e=some i)(hz:i.zero=some z)(hl:Builtin.lenOf x=Pure.pure n)(hg:sCap<sLen+n)
  (hold:(Builtin.firstCells i.size sLen (.slice base sLen sCap)).run P w.drew=.ok olds w.drew) (hc:(Builtin.firstCells i.size n x).run P w.drew=.ok c w.drew)
  (h20:sLen+n<1048576) (hb:i.bytes<1048576) (hb0:0<i.bytes):
  (Builtin.append_ #[t,tx] ty #[.slice base sLen sCap,x]).run P w=
   .ok (.slice (some ⟨w.heap.size,0,none⟩) (sLen+n) (grownCap w (sLen+n) sCap e))
    (w.drew.alloc (.cells (olds++c++Builtin.zeroCells z.cells (grownCap w (sLen+n) sCap e-(sLen+n))) e)):=by
 have hn:¬(sLen+n<=sCap):=by omega
 have h63':¬(9223372036854775807<((sLen:Int)+(n:Int))):=by omega
 have hfit:Builtin.nextslicecap (sLen+n) sCap*i.bytes<=281474976710656:=growslice_fits hg (Nat.le_trans (Nat.mul_le_mul (Nat.le_of_lt h20) (Nat.le_of_lt hb)) (by omega));have h48':¬(281474976710656<Builtin.nextslicecap (sLen+n) sCap*i.bytes):=by omega
 simp[Builtin.append_,run_underlying ht,run_underlying hk,sizeOf,typeInfo,zeroValue,hi,hz,hl,hn,h63',h48',Question.forced,hc,hold,newRow,grownCap]
end
end
end
section
section
variable {P:Program}{w0:W0}{E:En}{α β:Type}
theorem AOf{v v':Value}(h:VR E v v')(ho:one v=true):(∀c,v'≠.agg c)/\∀c,v'≠.tuple c:=by
 constructor<;>intro c e<;>subst e<;>cases h<;>cases ho
theorem AIZ{L vs:List Value}{o i:Nat}{v:Value}(h:o+i<L.length):
  (L.set (o+i) v).take (o+(i+1))++vs++(L.set (o+i) v).drop (o+(i+1)+vs.length)=L.take (o+i)++(v::vs)++L.drop (o+i+(v::vs).length):=by
 have e0:o+(i+1)=(o+i)+1:=by omega
 rw[e0];generalize o+i=k at*
 have e1:(L.set k v).take (k+1)=L.take k++[v]:=by
  rw[List.take_succ_eq_append_getElem (by simpa using h)];simp[List.take_set_of_le]
 have e2:(L.set k v).drop (k+1+vs.length)=L.drop (k+(v::vs).length):=by
  rw[List.drop_set_of_lt (by omega)];simp only[List.length_cons]
  congr 1
  omega
 rw[e1,e2];simp
theorem AJv{b:Nat}{e:TypeId}(vs:List Value):∀(o i:Nat)(L:List Value)(w:World),w.heap[b]?=some (.cells L.toArray e (0,0))->(∀u∈vs,(∀c,u≠.agg c)/\∀c,u≠.tuple c)->o+i+vs.length<=L.length->
  ∃w2,(Go.storeCells ⟨b,o,none⟩ vs i).run P w=.ok () w2/\w2.heap[b]?=some (.cells (L.take (o+i)++vs++L.drop (o+i+vs.length)).toArray e (0,0))/\w2.heap.size=w.heap.size/\(∀k,k≠b->w2.heap[k]?=w.heap[k]?)/\
   w2.os=w.os/\w2.tape=w.tape/\w2.output=w.output:=by
 induction vs with
 |nil=>intro o i L w hb _ _;exact⟨w,rfl,by simpa using hb,rfl,fun _ _=>rfl,rfl,rfl,rfl⟩
 |cons v vs ih=>
  intro o i L w hb h1 hl;simp only[List.length_cons]at hl;have hlt:o+i<L.length:=by omega
  obtain⟨n1,n2⟩:=h1 v (by simp);have hc:w.cell? ⟨b,o+i,none⟩=some L[o+i]:=by
   simp only[World.cell?,hb];simp[hlt]
  have hst:(Go.store ⟨b,o+i,none⟩ v).run P w=.ok () (w.setCell ⟨b,o+i,none⟩ v):=by
   cases v<;>first|exact absurd rfl (n1 _)|exact absurd rfl (n2 _)|simp[Go.store,Sem.run,hc,AI9 hb]
  have hb2:(w.setCell ⟨b,o+i,none⟩ v).heap[b]?=some (.cells (L.set (o+i) v).toArray e (0,0)):=by
   simp only[World.setCell,Array.getElem?_modify,if_true,hb];simp
  obtain⟨w2,k1,k2,k3,k4,k5,k6,k7⟩:=ih o (i+1) (L.set (o+i) v) _ hb2 (fun u hu=>h1 u (by simp[hu])) (by simp;omega);refine⟨w2,?_,?_,by rw[k3,World.size_setCell],fun k hk=>(k4 k hk).trans ?_,k5,k6,k7⟩
  ·unfold Go.storeCells
   rw[AGF];exact(I9 hst).trans k1
  ·rw[k2]
   rw[AIZ hlt]
  ·simp only[World.setCell,Array.getElem?_modify]
   rw[if_neg (fun e=>hk e.symm)]
theorem HR.kill{A:AH}{w:World}(h:HR w0 E A w)(b:Nat):HR w0 E (A.put b .dead) w:=by
 refine⟨h.ext,h.len,h.base,?_,?_,h.hole⟩
 ·intro c x c' g hc hE
  rcases AAT hc with⟨rfl,rfl⟩|⟨_,hc⟩
  ·trivial
  ·exact h.obj _ _ _ _ hc hE
 ·intro c d x y c' g1 g2 hc hd hx hy h4 h5
  rcases AAT hc with⟨rfl,rfl⟩|⟨_,hc⟩
  ·cases hx
  ·rcases AAT hd with⟨rfl,rfl⟩|⟨_,hd⟩
   ·cases hy
   ·exact h.inj _ _ _ _ _ _ _ hc hd hx hy h4 h5
theorem HR.again{A:AH}{w w2:World}(h:HR w0 E A w){b b':Nat}{g g2:Nat×Nat×Nat}{p o:AO}(hb:kE A.t b=some p)(hp:p.alive=true)(hE:E b=some (b',g))
  (ho:OR (E.put A.next (b',g2)) g2 w2 b' o) (hs:w2.heap.size=w.heap.size) (hoth:∀k,k≠b'->w2.heap[k]?=w.heap[k]?) (h1:w2.os=w.os) (h2:w2.tape=w.tape) (h3:w2.output=w.output):
  HR w0 (E.put A.next (b',g2)) ((A.put b .dead).push o) w2:=by
 have hle:En.le E (E.put A.next (b',g2)):=En.le_put h.fresh;have hbb:=h.base _ _ _ hE;have old:∀{c x},c≠A.next->E.put A.next (b',g2) c=some x->E c=some x:=fun hc hx=>by unfold En.put at hx;rwa [if_neg hc]at hx
 have gt:∀{c x},kE ((A.put b .dead).push o).t c=some x->(c=A.next/\x=o)\/(c=b/\x=.dead)\/(c≠A.next/\c≠b/\kE A.t c=some x):=by
  intro c x hc;rcases AAT hc with⟨e1,e2⟩|⟨n1,hc⟩
  ·exact .inl ⟨e1,e2⟩
  ·rcases AAT hc with⟨e1,e2⟩|⟨n2,hc⟩
   ·exact .inr (.inl ⟨e1,e2⟩)
   ·exact .inr (.inr ⟨n1,n2,hc⟩)
 refine⟨⟨h1.trans h.ext.os,h2.trans h.ext.tape,h3.trans h.ext.output,by rw[hs];exact h.ext.size,fun k hk=>(hoth k (by omega)).trans (h.ext.block k hk)⟩,?_,?_,?_,?_,?_⟩
 ·intro c x hc
  by_cases e:c=A.next
  ·rw[e];exact Nat.lt_succ_self _
  ·exact Nat.lt_succ_of_lt (h.len _ _ (old e hc))
 ·intro c c' g' hc
  rw[hs];by_cases e:c=A.next
  ·subst e;rw[En.put_same]at hc;cases hc;exact hbb
  ·exact h.base _ _ _ (old e hc)
 ·intro c x c' g' hc hEc
  rcases gt hc with⟨rfl,rfl⟩|⟨rfl,rfl⟩|⟨n1,n2,hc⟩
  ·rw[En.put_same]at hEc;cases hEc;exact ho
  ·trivial
  ·have hE2:=old n1 hEc
   refine((h.obj _ _ _ _ hc hE2).mono hle).same fun hal=>hoth _ fun e=>n2 ?_;rw[e]at hE2;exact h.inj _ _ _ _ _ _ _ hc hb hal hp hE2 hE
 ·intro c d x y c' g3 g4 hc hd hx hy h4 h5
  rcases gt hc with⟨e1,e2⟩|⟨e1,e2⟩|⟨n1,n2,hc2⟩
  ·rcases gt hd with⟨e3,e4⟩|⟨e3,e4⟩|⟨n3,n4,hd2⟩
   ·rw[e1,e3]
   ·rw[e4]at hy;cases hy
   ·rw[e1,En.put_same]at h4;cases h4
    exact absurd (h.inj _ _ _ _ _ _ _ hd2 hb hy hp (old n3 h5) hE) n4
  ·rw[e2]at hx;cases hx
  ·rcases gt hd with⟨e3,e4⟩|⟨e3,e4⟩|⟨n3,n4,hd2⟩
   ·rw[e3,En.put_same]at h5;cases h5
    exact absurd (h.inj _ _ _ _ _ _ _ hc2 hb hx hp (old n1 h4) hE) n2
   ·rw[e4]at hy;cases hy
   ·exact h.inj _ _ _ _ _ _ _ hc2 hd2 hx hy (old n1 h4) (old n3 h5)
 ·intro c hc
  obtain⟨h8,h9⟩:=h.hole c hc;refine⟨Nat.lt_succ_of_lt h8,?_⟩;unfold En.put;rw[if_neg (by omega)];exact h9
def AHr(P:Program)(w0:W0)(E:En)(t tx ty:TypeId)(s' x':Value)(w:World)(v:Value)(A':AH):Prop:=
 ∃(E':En)(v':Value)(w':World),(Builtin.append_ #[t,tx] ty #[s',x']).run P w=.ok v' w'/\En.le E E'/\VR E' v v'/\HR w0 E' A' w'
section
variable {t tx ty e e2:TypeId}{i:TypeInfo}{z:Value}{base xb:Option Addr}{sLen sCap n xc:Nat}{s' x':Value}{new:Array Value}{A A':AH}{v:Value}{w:World}
theorem AJw(ht:P.underlying t=some (.slice e))(hk:P.underlying tx=some (.slice e2))(hi:P.info? e=some i)(hs:VR E (.slice base sLen sCap) s')(hx:VR E (.slice xb n xc) x')(hH:HR w0 E A w)
  (hn:ACi A xb n (Nat.mul n i.size)=some (.agg new)) (hroom:sLen+n<=sCap) (h:AMI P i.size base sLen n sCap new.toList A=.ok v A'):AHr P w0 E t tx ty s' x' w v A':=by
 obtain⟨E1,c,w1,h1,h2,h3,h4,h5,h6⟩:=AEC (P:=P) hn hx hH;have:=ADB h1;subst this;unfold AMI at h;cases hs with
 |nils l cc=>
  cases h;exact⟨E1,_,w1,ADm ht hk hi h6 hroom h1 rfl,h2,.nils _ _,h4⟩
 | @sl a a' g _ _ c' q1 q2 q3 q4 q5 q6=>
  dsimp only at h;split at h
  ·rename_i u A2 ha
   cases h;obtain⟨E2,u',w2,k1,k2,_,k4⟩:=Sim.storeCells ((VR.ptr q1 q2 (FH h2 q3)).padd (Nat.mul sLen i.size)) h3 0 E1 A w1 En.le_rfl h4 _ _ ha;exact⟨E2,_,w2,ADm (base:=some a') ht hk hi h6 (by omega) h1 k2,h2.trans k1,.sl q1 q2 (FH (h2.trans k1) q3) q4 q5 hroom,k4⟩
  ·cases h
 | @sl0 a a' g c' q3 q5 q2=>
  dsimp only at h;have hn0:n=0:=by omega
  subst hn0;rw[Nat.zero_mul]at h5;have e1:new=#[]:=Array.eq_empty_of_size_eq_zero h5;subst e1;have e2:c=#[]:=Array.eq_empty_of_size_eq_zero (by have:=h3.length;simpa using this);subst e2;cases h;exact⟨E1,_,w1,ADm (base:=some a') ht hk hi h6 (Nat.zero_le _) h1 rfl,h2,.sl0 (FH h2 q3) q5 q2,h4⟩
end
end
end
section
section
variable {P:Program}{w0:W0}{E:En}
variable {t tx ty e e2:TypeId}{i:TypeInfo}{z:Value}{base xb:Option Addr}{sLen sCap n xc:Nat}{s' x':Value}{new:Array Value}{A A' B:AH}{v:Value}{w:World}
theorem AK0(z:Array Value)(k:Nat):(Builtin.zeroCells z k).size=k*z.size:=by simp[Builtin.zeroCells]
theorem ACn(ht:P.underlying t=some (.slice e))(hk:P.underlying tx=some (.slice e2))(hi:P.info? e=some i)(hz:i.zero=some z)(hzs:z.cells.size=i.size)(h0:0<i.size)(hb:i.bytes<1048576)(hb0:0<i.bytes)
  (h20:sLen+n<1048576) (hx:VR E (.slice xb n xc) x') (hn:ACi A xb n (Nat.mul n i.size)=some (.agg new)) {base':Option Addr} {cap':Nat} (hs:s'=.slice base' sLen cap') (hcap:cap'<sLen+n) {old:List Value}
  (hold:∃(E1:En)(olds:Array Value),(Builtin.firstCells i.size sLen s').run P w.drew=.ok olds w.drew/\En.le E E1/\VRs E1 old olds.toList/\HR w0 E1 A w.drew) (hol:old.length=sLen*i.size)
  (hB:B=A\/∃b,B=A.put b .dead):AHr P w0 E t tx ty s' x' w (.slice (some ⟨A.next,0,none⟩) (sLen+n) (sLen+n)) (B.push (.cells (old++new.toList) e i.size)):=by
 obtain⟨E1,olds,h1,h2,h3,h4⟩:=hold;obtain⟨E2,c,w1,k1,k2,k3,k4,k5,k6⟩:=AEC (P:=P) hn (hx.mono h2) h4;have:=ADB k1;subst this;subst hs;have hrun:=AMU (ty:=ty) ht hk hi hz k6 hcap h1 k1 h20 hb hb0;have hge:sLen+n<=grownCap w (sLen+n) cap' e:=grownCap_ge w (sLen+n) cap' e;have hBn:B.next=A.next:=by rcases hB with rfl|⟨b,rfl⟩<;>rfl
 have hHB:HR w0 E2 B w.drew:=by
  rcases hB with rfl|⟨b,rfl⟩
  ·exact k4
  ·exact k4.kill b
 have hcs:c.size=n*i.size:=by have:=k3.length;simp only[Array.length_toList]at this;omega
 have hos:olds.size=sLen*i.size:=by have:=h3.length;simp only[Array.length_toList]at this;omega
 generalize hgc:grownCap w (sLen+n) cap' e=gc at*
 have hZ:(olds++c++Builtin.zeroCells z.cells (gc-(sLen+n))).size=gc*i.size:=by
  rw[Array.size_append,Array.size_append,AK0,hzs,hos,hcs,<-Nat.add_mul,<-Nat.add_mul,Nat.add_sub_cancel' hge]
 have hfr:E2 B.next=none:=hHB.fresh;refine⟨E2.put B.next (w.heap.size,i.size,0,gc*i.size),_,_,hrun,h2.trans (k2.trans (En.le_put hfr)),?_,hHB.push (g:=(i.size,0,gc*i.size)) ⟨[],olds.toList++c.toList,(Builtin.zeroCells z.cells (gc-(sLen+n))).toList,?_,rfl,?_,rfl,?_,?_⟩⟩
 ·rw[<-hBn]
  exact .sl (g:=(i.size,0,gc*i.size)) rfl rfl En.put_same hge (.inr ⟨by omega,by simp⟩) (Nat.le_refl _)
 ·show((w.drew).heap.push _)[w.drew.heap.size]?=_
  simp only[Array.getElem?_push_size,Option.some.injEq,Obj.cells.injEq,and_true];apply Array.ext';simp
 ·exact((h3.mono k2).append k3).mono (En.le_put hfr)
 ·rw[<-hZ];simp
 ·intro e0;dsimp only at e0;omega
theorem AJx{A:AH}{a:Addr}{k:Nat}{c:Value}(h:AAp A a k=some c):a.spot=none:=by
 obtain⟨b,o,s⟩:=a;cases s with
 |some s=>cases h
 |none=>rfl
theorem AJy{A:AH}{a:Addr}{k:Nat}{c:Array Value}{cs:List Value}{e:TypeId}{g:Nat}(h:AAp A a k=some (.agg c))(hb:kE A.t a.block=some (.cells cs e g)):
  c.toList=(cs.drop a.off).take k/\((cs.drop a.off).take k).length=k:=by
 obtain⟨b,o,s⟩:=a;cases s with
 |some s=>cases h
 |none=>
  unfold AAp at h;dsimp only at h hb;rw[hb]at h;dsimp only at h;split at h
  ·rename_i hl
   cases h;exact⟨rfl,Nat.eq_of_beq_eq_true hl⟩
  ·cases h
theorem AGj(ht:P.underlying t=some (.slice e))(hk:P.underlying tx=some (.slice e2))(hi:P.info? e=some i)(h0:0<i.size)(hx:VR E (.slice xb n xc) x')(hH:HR w0 E A w)
  (hn:ACi A xb n (Nat.mul n i.size)=some (.agg new)) {a a':Addr} {g:Nat×Nat×Nat} {c':Nat} {cs old:List Value} (hs:s'=.slice (some a') sLen c') (hg:g.1=i.size) (hEa:E a.block=some (a'.block,g))
  (hA:kE A.t a.block=some (.cells cs e i.size)) (hsp:a'.spot=none) (hfit:a'.off+c'*i.size<=g.2.2) (hroom:sLen+n<=c') (hone:new.toList.all one=true)
  (hold:∀p l t:List Value,p.length=g.2.1->VRs E cs l->(p++l++t).length=g.2.2->VRs E old (((p++l++t).drop a'.off).take (sLen*i.size))):
  AHr P w0 E t tx ty s' x' w (.slice (some ⟨A.next,0,none⟩) (sLen+n) (sLen+n)) ((A.put a.block .dead).push (.cells (old++new.toList) e i.size)):=by
 obtain⟨p,l,t3,hheap,hp,hvr,hgr,hlen,hz0⟩:=hH.obj _ _ _ _ hA hEa;obtain⟨E1,c,w1,k1,k2,k3,k4,k5,k6⟩:=AEC (P:=P) hn hx hH;have:=ADB k1;subst this;subst hs;have hcs:c.toList.length=n*i.size:=by have:=k3.length;simp only[Array.length_toList]at this⊢;omega
 have hmul:sLen*i.size+n*i.size<=c'*i.size:=by rw[<-Nat.add_mul];exact Nat.mul_le_mul_right _ hroom
 obtain⟨b',off',sp⟩:=a';dsimp only at hsp hfit hEa;subst hsp;obtain⟨w2,q1,q2,q3,q4,q5,q6,q7⟩:=AJv (P:=P) c.toList (off'+sLen*i.size) 0 (p++l++t3) w1 hheap (fun u hu=>by
  obtain⟨j,hj⟩:=List.mem_iff_getElem?.1 hu;have hlt:j<new.toList.length:=by rw[<-k3.length];exact(List.getElem?_eq_some_iff.1 hj).1
  obtain⟨u',r1,r2⟩:=k3.get (List.getElem?_eq_getElem hlt);rw[hj]at r1;cases r1;exact AOf r2 (List.all_eq_true.1 hone _ (List.getElem_mem hlt))) (by rw[hcs];omega)
 have hlen2:off'<=(p++l++t3).length:=by omega
 have hVo:=hold p l t3 hp hvr hlen;refine⟨E1.put A.next (b',i.size,off',g.2.2),.slice (some ⟨b',off',none⟩) (sLen+n) c',w2,ADm (base:=some ⟨b',off',none⟩) ht hk hi k6 hroom k1 (by show(Go.storeCells ((⟨b',off',none⟩:Addr).add (sLen*i.size)) c.toList).run P w1=_;rw[AGF];exact q1),k2.trans (En.le_put k4.fresh),?_,?_⟩
 ·exact .sl (g:=(i.size,off',g.2.2)) (by simp) rfl En.put_same hroom (.inr ⟨by omega,hfit⟩) (Nat.le_refl _)
 ·refine k4.again hA rfl (FH k2 hEa) ⟨(p++l++t3).take off',((p++l++t3).drop off').take (sLen*i.size)++c.toList,(p++l++t3).drop (off'+sLen*i.size+0+c.toList.length),?_,?_,?_,rfl,?_,?_⟩ q3 q4 q5 q6 q7
  ·rw[q2,Nat.add_zero,List.take_add]
   congr 3
   simp only[List.append_assoc]
  ·simp only[List.length_take];omega
  ·exact((hVo.mono k2).append k3).mono (En.le_put k4.fresh)
  ·dsimp only
   rw[<-hlen];simp only[List.length_append,List.length_take,List.length_drop,hcs]at hlen hlen2⊢;omega
  ·intro e0;dsimp only at e0;omega
theorem AJz(ht:P.underlying t=some (.slice e))(hk:P.underlying tx=some (.slice e2))(hi:P.info? e=some i)(hz:i.zero=some z)(hzs:z.cells.size=i.size)(h0:0<i.size)(hb:i.bytes<1048576)(hb0:0<i.bytes)
  (h20:sLen+n<1048576) (hs:VR E (.slice base sLen sCap) s') (hx:VR E (.slice xb n xc) x') (hH:HR w0 E A w) (hn:ACi A xb n (Nat.mul n i.size)=some (.agg new)) (hno:¬sLen+n<=sCap)
  (h:AMH e i.size base sLen n new.toList A=.ok v A'):AHr P w0 E t tx ty s' x' w v A':=by
 have fw:∀{a a':Addr}{k:Nat}{c:Array Value},AAp A a k=some (.agg c)->VR E (.pointer (some a)) (.pointer (some a'))->∃(E1:En)(olds:Array Value),(Go.loadCells a' k).run P w.drew=.ok olds w.drew/\En.le E E1/\VRs E1 c.toList olds.toList/\HR w0 E1 A w.drew:=by
  intro a a' k c hl ha;obtain⟨E1,olds,w1,q1,q2,q3,q4⟩:=AFm (P:=P) hl ha hH.drew;have:=ADA _ q1;subst this;exact⟨E1,olds,q1,q2,q3,q4⟩
 unfold AMH at h;split at h
 ·split at h
  ·rename_i he
   have he:=Nat.eq_of_beq_eq_true he;subst he;cases h;cases hs with|nils _ cc=>
   have:=ACn (old:=[]) (base':=none) (cap':=sCap) ht hk hi hz hzs h0 hb hb0 h20 hx hn rfl (by omega) ⟨E,#[],rfl,En.le_rfl,.nil,hH.drew⟩ (by simp) (.inl rfl) (ty:=ty);simpa using this
  ·cases h
 ·rename_i a
  split at h
  ·rename_i old hl
   have hol:old.toList.length=sLen*i.size:=by simpa using AFl hl
   have hsp:=AJx hl;split at h
   ·rename_i cs e0 hA
    cases h;cases hs with
    | @sl _ a' g _ _ c' q1 q2 q3 q4 q5 q6=>
     obtain⟨p,l,t3,hheap,hp,hvr,hgr,hlen,hz0⟩:=hH.obj _ _ _ _ hA q3;have hc:c'=sCap:=by rcases q5 with q5|⟨q5,_⟩;exact q5;exact absurd hgr.symm q5
     exact ACn (base':=some a') ht hk hi hz hzs h0 hb hb0 h20 hx hn rfl (by omega) (fw hl (.ptr q1 q2 q3)) hol (.inl rfl)
    | @sl0 _ a' g c' q3 q5 q2=>
     obtain⟨p,l,t3,hheap,hp,hvr,hgr,hlen,hz0⟩:=hH.obj _ _ _ _ hA q3;have hc:c'=0:=by rcases q5 with q5|⟨q5,_⟩;exact q5;exact absurd hgr.symm q5
     have ho:old.toList=[]:=List.length_eq_zero_iff.1 (by rw[hol,Nat.zero_mul]);rw[ho];exact ACn (old:=[]) (base':=some a') ht hk hi hz hzs h0 hb hb0 h20 hx hn rfl (by omega) ⟨E,#[],by unfold Builtin.firstCells;rw[Nat.zero_mul];rfl,En.le_rfl,.nil,hH.drew⟩ (by simp) (.inl rfl)
   ·rename_i cs e0 k hA
    split at h
    ·rename_i hchk
     simp only[Bool.and_eq_true]at hchk;obtain⟨⟨hm,he0⟩,hone⟩:=hchk;have hm:=Nat.eq_of_beq_eq_true hm;have he0:=Nat.eq_of_beq_eq_true he0;subst he0;rw[show k.succ=i.size from hm]at hA;cases h;have hnx:((A.put a.block .dead)).next=A.next:=rfl;cases hs with
     | @sl _ a' g _ _ c' q1 q2 q3 q4 q5 q6=>
      by_cases hroom:sLen+n<=c'
      ·obtain⟨q7,q8⟩:=q5.resolve_left (by omega)
       obtain⟨p,l,t3,hheap,hp,hvr,hgr,hlen,hz0⟩:=hH.obj _ _ _ _ hA q3;obtain⟨o1,o2⟩:=AJy hl hA;refine AGj ht hk hi h0 hx hH hn rfl hgr.symm q3 hA (by rw[q2];exact hsp) (by rw[hgr];exact q8) hroom hone fun p l t3 hp hv hl=>?_;rw[o1];have hll:=hv.length;simp only[List.length_take,List.length_drop]at o2;have:((p++l++t3).drop a'.off).take (sLen*i.size)=(l.drop a.off).take (sLen*i.size):=by
        simp only[Nat.mul_eq]at o2;by_cases h00:sLen*i.size=0
        ·rw[h00];simp
        ·rw[q1,<-hp,List.append_assoc,Nat.add_comm a.off,<-List.drop_drop,List.drop_left,List.drop_append_of_le_length (by omega),List.take_append_of_le_length (by simp only[List.length_drop];omega)]
       rw[this];exact(hv.drop _).take _
      ·exact ACn (base':=some a') ht hk hi hz hzs h0 hb hb0 h20 hx hn rfl (by omega) (fw hl (.ptr q1 q2 q3)) hol (.inr ⟨_,rfl⟩)
     | @sl0 _ a' g c' q3 q5 q2=>
      have ho:old.toList=[]:=List.length_eq_zero_iff.1 (by rw[hol,Nat.zero_mul]);rw[ho];by_cases hroom:0+n<=c'
      ·obtain⟨q7,q8⟩:=q5.resolve_left (by omega)
       obtain⟨p,l,t3,hheap,hp,hvr,hgr,hlen,hz0⟩:=hH.obj _ _ _ _ hA q3;refine AGj (old:=[]) ht hk hi h0 hx hH hn rfl hgr.symm q3 hA (q2 hsp) (by rw[hgr];exact q8) hroom hone fun p l t3 hp hv hl=>?_;rw[Nat.zero_mul];exact .nil
      ·exact ACn (old:=[]) (base':=some a') ht hk hi hz hzs h0 hb hb0 h20 hx hn rfl (by omega) ⟨E,#[],by unfold Builtin.firstCells;rw[Nat.zero_mul];rfl,En.le_rfl,.nil,hH.drew⟩ (by simp) (.inr ⟨_,rfl⟩)
    ·cases h
   ·cases h
  ·cases h
end
end
section
section
variable {P:Program}{w0:W0}{E:En}
theorem AJ0{st xt:TypeId}{e:TypeId}{m:Nat}(h:AJh P st xt=some (e,m)):∃e2 i z,P.underlying st=some (.slice e)/\P.underlying xt=some (.slice e2)/\P.info? e=some i/\i.zero=some z/\z.cells.size=i.size/\0<i.size/\i.bytes<1048576/\0<i.bytes/\m=i.size:=by
 unfold AJh at h;split at h
 ·rename_i el hst
  split at h
  ·rename_i e2 hxt
   split at h
   ·rename_i i hi
    split at h
    ·rename_i z hz
     split at h
     ·rename_i hc
      cases h;simp only[Bool.and_eq_true,Nat.blt_eq]at hc;exact⟨e2,i,z,hst,hxt,hi,hz,Nat.eq_of_beq_eq_true hc.1.1.1,hc.1.1.2,hc.2,hc.1.2,rfl⟩
     ·cases h
    ·cases h
   ·cases h
  ·cases h
 ·cases h
theorem AJ1{t:TypeId}{v:Value}{A:AH}{w:World}(h:AGB P t v A=true)(hH:HR w0 E A w):AGE P E t v:=by
 intro a len cap x e hx;subst e;unfold AGB at h;dsimp only at h;split at h
 ·rename_i cs ee hA
  obtain⟨p,l,t3,hheap,hp,hvr,hgr,_⟩:=hH.obj _ _ _ _ hA hx;exact .inl hgr.symm
 ·rename_i cs ee k hA
  obtain⟨p,l,t3,hheap,hp,hvr,hgr,_⟩:=hH.obj _ _ _ _ hA hx;split at h
  ·rename_i el hu
   refine .inr fun e2 he2=>?_;rw[hu]at he2;cases he2;rw[Nat.eq_of_beq_eq_true h];exact hgr
  ·cases h
 ·cases h
theorem AJ2{α:Type}{l:Array α}{x y:α}(h:l.toList=[x,y]):l=#[x,y]:=Array.ext' h
theorem AJ3{α:Type}{l:Array α}{x:α}(h:l.toList=[x]):l=#[x]:=Array.ext' h
theorem AIa{st xt e:TypeId}{z:List Value}{m:Nat}(h:AHa P st xt=some (e,z,m)):∃k i u,P.underlying st=some (.slice e)/\P.underlying xt=some (.int k)/\P.info? e=some i/\i.zero=some u/\z=u.cells.toList/\m=1/\i.size=1/\u.cells.size=1/\0<i.bytes/\i.bytes<1048576:=by
 unfold AHa at h;split at h
 ·rename_i el hst
  split at h
  ·rename_i k hxt
   split at h
   ·rename_i i hi
    split at h
    ·rename_i u hz
     split at h
     ·rename_i hc
      cases h;simp only[Bool.and_eq_true,Nat.blt_eq,Nat.beq_eq]at hc;exact⟨k,i,u,hst,hxt,hi,hz,rfl,hc.1.1.2,hc.1.1.2,by omega,hc.1.2,hc.2⟩
     ·cases h
    ·cases h
   ·cases h
  ·cases h
 ·cases h
theorem AOg{u:Value}:∀n:Nat,rep [u] n=List.replicate n u:=by
 intro n
 induction n with
 |zero=>rfl
 |succ n ih=>rw[rep,ih];rfl
theorem AK1{c:Array Value}{u:Value}(hc:c=#[u])(n:Nat):(Builtin.zeroCells c n).toList=List.replicate n u:=by
 subst hc;unfold Builtin.zeroCells;simp only[List.size_toArray,List.length_cons,List.length_nil,Nat.zero_add,Nat.mul_one,Array.toList_map,Array.toList_range];refine List.ext_getElem (by simp) fun i h1 h2=>?_;simp[Nat.mod_one]
theorem AMV{t tx ty e:TypeId}{k:IntKind}{i:TypeInfo}{z:Value}{w:World}{n:Nat}(ht:P.underlying t=some (.slice e))(hk:P.underlying tx=some (.int k))(hi:P.info? e=some i)(hz:i.zero=some z)(hs:i.size=1)(hb0:0<i.bytes)(hb:i.bytes<1048576)(hn:n+1<1048577):
  (Builtin.append_ #[t,tx] ty #[.slice none 0 0,.int .i64 (Int.ofNat (n+1))]).run P w=
   .ok (.slice (some ⟨w.heap.size,0,none⟩) (n+1) (grownCap w (n+1) 0 e)) (w.drew.alloc (.cells (Builtin.zeroCells z.cells (n+1)++Builtin.zeroCells z.cells (grownCap w (n+1) 0 e-(n+1))) e)):=by
 have hw:IntKind.i64.wrap (Int.ofNat (n+1))=Int.ofNat (n+1):=AFg (by show Nat.blt (n+1) 9223372036854775808=true;rw[Nat.blt_eq];omega);have hmul:(n+1)*i.bytes<=1048577*1048576:=Nat.mul_le_mul (Nat.le_of_lt hn) (Nat.le_of_lt hb);have h1:¬((281474976710656:Int)<(Int.ofNat (n+1))*(i.bytes:Int)):=by
  rw[show(Int.ofNat (n+1))*(i.bytes:Int)=(((n+1)*i.bytes:Nat):Int) by simp];omega
 have h0:¬(Int.ofNat (n+1)<0):=by simp;omega
 have hne:¬(n+1)*i.size=0:=by rw[hs];omega
 have h63':¬(9223372036854775807<((n:Int)+1)):=by omega
 have hfit:Builtin.nextslicecap (n+1) 0*i.bytes<=281474976710656:=growslice_fits (by omega) (Nat.le_trans hmul (by omega));have h48':¬(281474976710656<Builtin.nextslicecap (n+1) 0*i.bytes):=by omega
 have hsz:¬(n+1=0\/i.size=0):=by omega
 simp only[Int.ofNat_eq_natCast,Int.natCast_add,Int.natCast_one]at hw h0 h1⊢;have k1:¬((n:Int)+1<=0):=by omega
 have k2:max ((n:Int)+1) 0=(n:Int)+1:=by omega
 have k3:((n:Int)+1).toNat=n+1:=by omega
 have k4:¬((n:Int)+1<0):=by omega
 simp[Builtin.append_,run_underlying ht,run_underlying hk,sizeOf,typeInfo,zeroValue,hi,hz,hw,k1,k2,k3,k4,h1,hs,h63',h48',Question.forced,newRow,grownCap,asInt,asIntOf,Builtin.firstCells]
theorem AIb(hZ:Zf P){dst:Option Tmp}{ty:TypeId}{pos:String}{af:Array Edge}{gd:Option (Nat×Bool)}{K:OpK}{x y:Operand}{st xt:TypeId}(h:AJj P x y st xt=.mk K):OpS P w0 K ⟨dst,.call {callee:=.builtin .append,args:=#[x,y],argTypes:=#[st,xt]},ty,pos,af,gd⟩:=by
 unfold AJj at h;split at h
 ·rename_i e z m hok
  cases h;obtain⟨k,i,u,hst,hxt,hi,hz,rfl,rfl,hs,hus,hb0,hb⟩:=AIa hok;intro ca rd E T A a w v A' hT hH hK;obtain⟨s,hsv,hK⟩:=wS hK hT;obtain⟨q,hq,hK⟩:=wS hK hT;unfold ANP at hK;split at hK
  ·split at hK
   ·rename_i n
    split at hK
    ·rename_i hlt
     rw[Nat.blt_eq]at hlt;cases hK;generalize hza:a.eval x=za at hsv;generalize hzb:a.eval y=zb at hq;cases hsv;cases hq;have hrun:=AMV (ty:=ty) (w:=w) hst hxt hi hz hs hb0 hb (n:=n) (by omega);obtain⟨c,hc⟩:∃c,u.cells=#[c]:=by
      refine⟨u.cells[0],?_⟩;apply Array.ext
      ·simp[hus]
      ·intro j h1 h2;simp at h2;subst h2;rfl
     have hge:n+1<=grownCap w (n+1) 0 e:=grownCap_ge w (n+1) 0 e;have hfl:VR (fun _=>none) c c:=by
      have:=(AAq (E:=fun _=>none) (hZ _ _ _ hi hz)).cells;rw[hc]at this;cases this with|cons h _=>exact h
     have hfl:∀E:En,VR E c c:=fun E=>hfl.mono (fun _ _ h=>by cases h);generalize hgc:grownCap w (n+1) 0 e=gc at*
     have hHd:=hH.drew;refine⟨E.put A.next (w.heap.size,1,0,gc),.slice (some ⟨w.heap.size,0,none⟩) (n+1) gc,w.drew.alloc (.cells (Builtin.zeroCells u.cells (n+1)++Builtin.zeroCells u.cells (gc-(n+1))) e),.inl ?_,En.le_put hH.fresh,?_,hHd.push (g:=(1,0,gc)) ⟨[],List.replicate (n+1) c,List.replicate (gc-(n+1)) c,?_,rfl,?_,rfl,?_,?_⟩⟩
     ·simp only[execOp,resolve,invoke,Go.builtin,List.map_toArray,List.map_cons,List.map_nil,hza,hzb]
      exact(I9 hrun).trans rfl
     ·exact .sl (g:=(1,0,gc)) rfl rfl En.put_same hge (.inr ⟨by simp,by simp⟩) (Nat.le_refl _)
     ·show((w.drew).heap.push _)[w.drew.heap.size]?=_
      simp only[Array.getElem?_push_size,Option.some.injEq,Obj.cells.injEq,and_true];apply Array.ext';simp only[Array.toList_append,AK1 hc,List.nil_append]
     ·rw[hc,AOg]
      exact VRs.replicate (hfl _) _
     ·simp;omega
     ·intro e0;cases e0
    ·cases hK
   ·cases hK
  ·cases hK
 ·cases h
theorem AJ4{dst:Option Tmp}{ty:TypeId}{pos:String}{af:Array Edge}{gd:Option (Nat×Bool)}{K:OpK}{x:Operand}{t:TypeId}(h:AMK P x t=.mk K):OpS P w0 K ⟨dst,.call {callee:=.builtin .cap,args:=#[x],argTypes:=#[t]},ty,pos,af,gd⟩:=by
 unfold AMK at h;split at h
 ·rename_i el hu
  cases h;intro ca rd E T A a w v A' hT hH hK;obtain⟨s,hs,hK⟩:=wS hK hT;generalize hz:a.eval x=z at hs;have run:∀(b':Option Addr)(l' c':Nat),z=.slice b' l' c'->ACm P w0 E ⟨dst,.call {callee:=.builtin .cap,args:=#[x],argTypes:=#[t]},ty,pos,af,gd⟩ a.eval w (.int .i64 (Int.ofNat c')) A:=by
   intro b' l' c' e;subst e;refine xU (v':=.int .i64 c') ?_ (.int _ _) hH;simp[execOp,resolve,invoke,Go.builtin,hz,Builtin.cap_,run_underlying hu,goInt]
  split at hK
  ·cases hK
   cases hs;exact run _ _ _ rfl
  ·rename_i ad l n
   split at hK
   ·rename_i cs e hA
    cases hK;cases hs with
    | @sl _ a' g _ _ c' q1 q2 q3 q4 q5 q6=>
     obtain⟨p,l',t3,_,_,_,hgr,_⟩:=hH.obj _ _ _ _ hA q3;rcases q5 with q5|⟨q5,_⟩
     ·subst q5;exact run _ _ _ rfl
     ·exact absurd hgr.symm q5
    | @sl0 _ a' g c' q3 q5 q2=>
     obtain⟨p,l',t3,_,_,_,hgr,_⟩:=hH.obj _ _ _ _ hA q3;rcases q5 with q5|⟨q5,_⟩
     ·subst q5;exact run _ _ _ rfl
     ·exact absurd hgr.symm q5
   ·cases hK
  ·cases hK
 ·cases h
section
variable {dst:Option Tmp}{ty:TypeId}{pos:String}{af:Array Edge}{gd:Option (Nat×Bool)}{K:OpK}
theorem AJ5{x y:Operand}{st xt:TypeId}(h:AMJ P x y st xt=.mk K):OpS P w0 K ⟨dst,.call {callee:=.builtin .append,args:=#[x,y],argTypes:=#[st,xt]},ty,pos,af,gd⟩:=by
 unfold AMJ at h;split at h
 ·rename_i e m hok
  cases h;obtain⟨e2,i,z,hst,hxt,hi,hz,hzs,h0,hb,hb0,rfl⟩:=AJ0 hok;intro ca rd E T A a w v A' hT hH hK;obtain⟨s,hs,hK⟩:=wS hK hT;obtain⟨u,hu,hK⟩:=wS hK hT;have key:AHr P w0 E st xt ty (a.eval x) (a.eval y) w v A':=by
   unfold AI5 at hK;split at hK
   ·split at hK
    ·split at hK
     ·cases hK
     ·rename_i hlt
      rw[Nat.blt_eq]at hlt;split at hK
      ·rename_i new hn
       split at hK
       ·rename_i hr
        exact AJw hst hxt hi hs hu hH hn (by simpa[Nat.ble_eq]using hr) hK
       ·rename_i hr
        exact AJz hst hxt hi hz hzs h0 hb hb0 hlt hs hu hH hn (fun hle=>by rw[Nat.ble_eq_true_of_le hle]at hr;cases hr) hK
      ·cases hK
    ·cases hK
   ·cases hK
  obtain⟨E',v',w',k1,k2,k3,k4⟩:=key;refine⟨E',v',w',.inl ?_,k2,k3,k4⟩;simp[execOp,resolve,invoke,Go.builtin,k1]
 ·cases h
theorem AHs(hZ:Zf P){t:TypeId}{x:Operand}{lo hi mx:Option Operand}(h:AFS P ⟨dst,.slice t x lo hi mx,ty,pos,af,gd⟩ t x=.mk K):OpS P w0 K ⟨dst,.slice t x lo hi mx,ty,pos,af,gd⟩:=by
 unfold AFS Bx.ap at h;cases hg:ACh P ⟨dst,.slice t x lo hi mx,ty,pos,af,gd⟩with
 |no=>rw[hg]at h;cases h
 |mk K0=>
  rw[hg]at h;cases h;intro ca rd E T A a w v A' hT hH hK;dsimp only at hK;split at hK
  ·rename_i hok
   refine AEt hZ hg ca rd E T A a w v A' hT hH hK fun t' x' lo' hi' mx' e=>?_;cases e;exact AJ1 hok hH
  ·cases hK
theorem AJ6(hZ:Zf P){x:Operand}{t:TypeId}(h:AJi P ⟨dst,.call {callee:=.builtin .len,args:=#[x],argTypes:=#[t]},ty,pos,af,gd⟩ x t=.mk K):
  OpS P w0 K ⟨dst,.call {callee:=.builtin .len,args:=#[x],argTypes:=#[t]},ty,pos,af,gd⟩:=by
 unfold AJi at h;split at h
 ·rename_i el hu
  cases h;intro ca rd E T A a w v A' hT hH hK;obtain⟨s,hs,hK⟩:=wS hK hT;split at hK
  ·rename_i b n c
   cases hK;generalize hz:a.eval x=z at hs;have run:∀(b':Option Addr)(c':Nat),z=.slice b' n c'->ACm P w0 E ⟨dst,.call {callee:=.builtin .len,args:=#[x],argTypes:=#[t]},ty,pos,af,gd⟩ a.eval w (.int .i64 (Int.ofNat n)) A:=by
    intro b' c' e;subst e;refine xU (v':=.int .i64 n) ?_ (.int _ _) hH;simp[execOp,resolve,invoke,Go.builtin,hz,Builtin.len_,run_underlying hu,goInt]
   cases hs<;>exact run _ _ rfl
  ·cases hK
 ·exact ACP hZ h (fun _ _ _ _ _ e=>by cases e)
theorem AHt(hZ:Zf P){o:Oper}(h:AAW P o=.mk K)(hc:AHq o.op=true):OpS P w0 K o:=by
 obtain⟨dst,op,ty,pos,af,gd⟩:=o;unfold AAW at h;dsimp only at h hc;split at h
 case h_1 args tys=>
  split at h
  ·rename_i x y hl
   split at h
   ·rename_i st xt hl2
    rw[AJ2 hl,AJ2 hl2];split at h
    ·exact AIb hZ h
    ·exact AJ5 h
   ·cases h
  ·cases h
 case h_2 args tys=>
  split at h
  ·rename_i x hl
   split at h
   ·rename_i t hl2
    rw[AJ3 hl,AJ3 hl2];exact AJ4 h
   ·cases h
  ·cases h
 case h_3 t x lo hi mx=>exact AHs hZ h
 case h_4 args tys=>
  split at h
  ·rename_i x hl
   split at h
   ·rename_i t hl2
    rw[AJ3 hl,AJ3 hl2]at h⊢;exact AJ6 hZ h
   ·cases h
  ·cases h
 case h_5 h1 h2 h3 h4=>exact AIY hZ h hc fun t x lo hi mx e=>h3 t x lo hi mx e
end
end
end
section
section
variable {P:Program}{w0:W0}{E:En}
structure OkP(P:Program):Prop where
 zero:Zf P
 mixed:P.follows .mixedOrders=true
 name : ∀ (f : FuncId) (fn : Func), P.funcs[f]? = some fn → (fn.name == "runtime.NumGoroutine") = false
def Fw(ro:Option Nat):Fence:={Fence.wide with round:=ro}
def AE9(w0:W0)(E:En)(v:Value)(A':AH):Ending->World->Prop:=fun e w'=>∃(E':En)(v':Value),e=.returned v'/\En.le E E'/\VR E' v v'/\HR w0 E' A' w'
def CaS(P:Program)(w0:W0)(ca:vW):Prop:=∀(E:En)(f:FuncId)(args:List Value)(A:AH)(v:Value)(A':AH)(args':Array Value)(w:World)(m:Nat),ca f args A=.ok v A'->VRs E args args'.toList->HR w0 E A w->
 (callFunc f args').run P w=.ok (.enter f args') w/\CallsIn Fence.wide m P f args' w (AE9 w0 E v A')
def RdS(P:Program)(w0:W0)(rd:tZ):Prop:=∀(E:En)(l l':Nat)(g:Nat×Nat×Nat)(xs:List Value)(A:AH)(v:Value)(A':AH)(xs':Array Value)(w:World)(m:Nat),rd l xs A=.ok v A'->E l=some (l',g)->VRs E xs xs'.toList->HR w0 E A w->
 ∃(f:FuncId)(tmps:Array Value)(assign body:Code),(Instr.yield l' xs').run P w=.ok (.round l' f tmps assign body) w/\RoundIn Fence.wide m P l' f tmps assign body w (AE9 w0 E v A')
theorem AK2{o:Oper}{a:Act}{w:World}{v:Value}{A':AH}{ro:Option Nat}{n:Nat}{next:Act->World->Prop}{Q:Exit->Act->World->Prop}(h:ACm P w0 E o a.eval w v A')
  (hn:∀(E':En)(v':Value)(w':World),En.le E E'->VR E' v v'->HR w0 E' A' w'->next (a.put o.dst v') w'):o.uponIn (Fw ro) n P a next Q ((execOp a.eval o).run P w):=by
 obtain⟨E',v',w',h1,h2,h3,h4⟩:=h;rcases h1 with h1|⟨h1,h5⟩
 ·rw[h1];exact hn E' v' w' h2 h3 h4
 ·rw[h1];subst h5;exact hn E' undef w' h2 h3 h4
theorem AGk{o:Oper}{a:Act}{w:World}{v:Value}{A':AH}{ro:Option Nat}{n:Nat}{next:Act->World->Prop}{Q:Exit->Act->World->Prop}{f:FuncId}{args':Array Value}
  (h1:(execOp a.eval o).run P w=.ok (.enter f args') w) (h2:∀m,CallsIn Fence.wide m P f args' w (AE9 w0 E v A'))
  (hn:∀(E':En)(v':Value)(w':World),En.le E E'->VR E' v v'->HR w0 E' A' w'->next (a.put o.dst v') w'):o.uponIn (Fw ro) n P a next Q ((execOp a.eval o).run P w):=by
 rw[h1];refine⟨fun(h:false=true)=>(nomatch h),?_⟩;refine CallsIn.mono (h2 (n-1)) fun e w' he=>?_;obtain⟨E',v',rfl,k1,k2,k3⟩:=he;exact hn E' v' w' k1 k2 k3
theorem AJ7{o:Oper}{a:Act}{w:World}{v:Value}{A':AH}{ro:Option Nat}{n:Nat}{next:Act->World->Prop}{Q:Exit->Act->World->Prop}{l:Nat}{f:FuncId}{tmps:Array Value}{assign body:Code}
  (h1:(execOp a.eval o).run P w=.ok (.round l f tmps assign body) w) (h2:∀m,RoundIn Fence.wide m P l f tmps assign body w (AE9 w0 E v A'))
  (hn:∀(E':En)(v':Value)(w':World),En.le E E'->VR E' v v'->HR w0 E' A' w'->next (a.put o.dst v') w'):o.uponIn (Fw ro) n P a next Q ((execOp a.eval o).run P w):=by
 rw[h1];refine⟨fun(h:false=true)=>(nomatch h),?_⟩;refine RoundIn.mono (h2 (n-1)) fun e w' he=>?_;obtain⟨E',v',rfl,k1,k2,k3⟩:=he;exact hn E' v' w' k1 k2 k3
theorem AC2(hP:OkP P){o:Oper}{K:OpK}(h:AAW P o=.mk K){ca:vW}{rd:tZ}(hca:CaS P w0 ca)(hrd:RdS P w0 rd){T:TP}{A:AH}{a:Act}{w:World}{v:Value}{A':AH}(hT:TR E T a.tmps)(hH:HR w0 E A w)
  (hK:K ca rd T A=.ok v A') {ro:Option Nat} {n:Nat} {next:Act->World->Prop} {Q:Exit->Act->World->Prop}
  (hn:∀(E':En)(v':Value)(w':World),En.le E E'->VR E' v v'->HR w0 E' A' w'->next (a.put o.dst v') w'):o.uponIn (Fw ro) n P a next Q ((execOp a.eval o).run P w):=by
 cases hc:AHq o.op with
 |true=>exact AK2 (AHt hP.zero h hc ca rd E T A a w v A' hT hH hK) hn
 |false=>
  obtain⟨dst,op,ty,pos,af,gd⟩:=o;dsimp only at hc;cases op<;>try (cases hc;done)
  rename_i c;obtain⟨callee,args,tys⟩:=c;cases callee<;>try (cases hc;done)
  rename_i g;have key:∀(vs:List Value)(X:TP->Option (List Value)),ABH args.toList=.mk X->X T=some vs->VRs E vs (args.map a.eval).toList:=by
   intro vs X h1 h2;simp only[Array.toList_map];exact(AC8 hT h1 h2).1
  cases g with
  |func f=>
   change Bx.mk _=Bx.mk K at h;cases h;obtain⟨X,h1,h2⟩:=Oc hK (by intro e;cases e);cases hX:X T with
   |none=>rw[hX]at h2;cases h2
   |some vs=>
    rw[hX]at h2;have hv:=key vs X h1 hX;have hcf:=fun m=>hca E f vs A v A' (args.map a.eval) w m h2 hv hH;refine AGk (f:=f) (args':=args.map a.eval) ?_ (fun m=>(hcf m).2) hn;have h3:=(hcf 0).1;simp[execOp,resolve,Deferred.ofValue,invoke,Act.eval];simpa using h3
  |_=>
   change Bx.mk _=Bx.mk K at h;cases h;obtain⟨X,h1,h2⟩:=Oc hK (by intro e;cases e);cases hX:X T with
   |none=>rw[hX]at h2;cases h2
   |some vs=>
    rw[hX]at h2;have hv:=key vs X h1 hX;obtain⟨u,hu,h3⟩:=wS h2 hT;split at h3
    ·rename_i f first cap
     generalize hz:a.eval _=z at hu;cases hu with| @func _ _ first' _ cap' q1 q2=>
     have hargs:VRs E (first.toList++vs++cap.toList) (first'++args.map a.eval++cap').toList:=by
      simp only[Array.toList_append];exact(q1.append hv).append q2
     have hcf:=fun m=>hca E f _ A v A' _ w m h3 hargs hH;refine AGk (f:=f) (args':=first'++args.map a.eval++cap') ?_ (fun m=>(hcf m).2) hn;have h4:=(hcf 0).1;simp[execOp,resolve,Deferred.ofValue,invoke,hz];simpa using h4
    ·rename_i l first cap
     generalize hz:a.eval _=z at hu;cases hu with| @yield _ l' g _ first' _ cap' q0 q1 q2=>
     have hargs:VRs E (first.toList++vs) (first'++args.map a.eval).toList:=by
      simp only[Array.toList_append];exact q1.append hv
     have hrf:=fun m=>hrd E l l' g _ A v A' _ w m h3 q0 hargs hH;obtain⟨f0,t0,as0,b0,hy,_⟩:=hrf 0;refine AJ7 (l:=l') (f:=f0) (tmps:=t0) (assign:=as0) (body:=b0) ?_ (fun m=>?_) hn
     ·simp[execOp,resolve,Deferred.ofValue,invoke,hz]
      simpa using hy
     ·obtain⟨f1,t1,as1,b1,hy1,hr1⟩:=hrf m
      rw[hy]at hy1;cases hy1;exact hr1
    ·cases h3
end
end
section
section
variable {P:Program}{w0:W0}{E:En}
theorem AAr{nt:Nat}{dst:Option Tmp}{D:Value->TP->TP}(h:AAI nt dst=.mk D){T:TP}{a:Act}{v v':Value}(hs:nt<=a.tmps.size)(hT:TR E T a.tmps)(hv:VR E v v'):TR E (D v T) (a.put dst v').tmps/\nt<=(a.put dst v').tmps.size/\(a.put dst v').defers=a.defers:=by
 cases dst with
 |none=>cases h;exact⟨hT,hs,rfl⟩
 |some d=>
  simp only[AAI]at h;split at h
  ·rename_i hb
   cases h;simp only[Bool.and_eq_true,Nat.blt_eq]at hb;have hds:=Nat.lt_of_lt_of_le hb.1 hs;refine⟨fun t u ht hu=>?_,by simpa[Act.put]using hs,rfl⟩;rw[yw]at hu;split at hu
   ·rename_i he
    have:=AAh ht hb.2 he;subst this;cases hu;exact⟨v',by simp[Act.put,hds],hv⟩
   ·rename_i hne
    obtain⟨u',h1,h2⟩:=hT t u ht hu;refine⟨u',?_,h2⟩;have:t≠d:=fun e=>hne (by rw[e]);simp[Act.put,Array.getElem?_setIfInBounds,Ne.symm this,h1]
  ·cases h
theorem noDefer{o:Oper}{K:OpK}(h:AAW P o=.mk K):∀c,o.op≠.defer c:=by
 intro c e;obtain⟨dst,op,ty,pos,af,gd⟩:=o;dsimp only at e;subst e;cases h
theorem AK3(hP:OkP P){nt:Nat}{ops:Array Oper}:∀(l:List Oper){K:AJk},ABJ P nt ops l=.mk K->∀{ca:vW}{rd:tZ},CaS P w0 ca->RdS P w0 rd->
  ∀{E:En}{f:FuncId}{r:Option Nat}{T:TP}{m:List Nat}{A:AH}{a:Act}{w:World}{x:Ax}{s':St},nt<=a.tmps.size->TR E T a.tmps->HR w0 E A w->K ca rd f r T m A=.ok x s'->
  ∀{ro:Option Nat}{n:Nat}{Q:Exit->Act->World->Prop},
   (∀(E':En)(T':TP)(a':Act)(w':World)(A':AH),En.le E E'->nt<=a'.tmps.size->TR E' T' a'.tmps->HR w0 E' A' w'->a'.defers=a.defers->x=.normal->s'=⟨f,r,T',m,A'⟩->Q .normal a' w')->
   wpListIn (Fw ro) n P ops Q l a w:=by
 intro l
 induction l with
 |nil=>
  intro K h ca rd hca hrd E f r T m A a w x s' hs hT hH hK ro n Q hQ;cases h;cases hK;exact hQ E T a w A En.le_rfl hs hT hH rfl rfl rfl
 |cons o l ih=>
  intro K h ca rd hca hrd E f r T m A a w x s' hs hT hH hK ro n Q hQ;have run:Region.wanted o (yielded ops a.tmps)=true->AHC nt o.dst (AAW P o) (ABJ P nt ops l) ca rd f r T m A=R.ok x s'->wpListIn (Fw ro) n P ops Q (o::l) a w:=by
   intro hw h1;unfold AHC at h1;obtain⟨K0,h0,h1⟩:=Oc h1 (by intro e;cases e);unfold wpListIn;rw[if_pos hw];refine⟨fun _ _=>trivial,?_⟩;rw[Oper.semAt_eq _ _ _ (noDefer h0)];cases hk:K0 ca rd T A with
   |no s q=>rw[hk]at h1;cases h1
   |ok v A1=>
    rw[hk]at h1;obtain⟨L,h2,h3⟩:=Oc h1 (by intro e;cases e);obtain⟨D,h4,h5⟩:=Oc h3 (by intro e;cases e);refine AC2 hP h0 hca hrd hT hH hk fun E' v' w' k1 k2 k3=>?_;obtain⟨p1,p2,p3⟩:=AAr h4 hs (hT.mono k1) k2;exact ih h2 hca hrd p2 p1 k3 h5 fun E2 T2 a2 w2 A2 q1 q2 q3 q4 q5 q6 q7=>hQ E2 T2 a2 w2 A2 (k1.trans q1) q2 q3 q4 (q5.trans p3) q6 q7
  have skip:¬Region.wanted o (yielded ops a.tmps)=true->AHB nt o.dst (ABJ P nt ops l) ca rd f r T m A=R.ok x s'->wpListIn (Fw ro) n P ops Q (o::l) a w:=by
   intro hw hK;unfold AHB at hK;unfold wpListIn;rw[if_neg hw];refine⟨fun _ _=>trivial,?_⟩;obtain⟨L,h2,h3⟩:=Oc hK (by intro e;cases e);obtain⟨D,h4,h5⟩:=Oc h3 (by intro e;cases e);obtain⟨p1,p2,p3⟩:=AAr h4 hs hT (.tuple .nil:VR E undef undef);exact ih h2 hca hrd p2 p1 hH h5 fun E2 T2 a2 w2 A2 q1 q2 q3 q4 q5 q6 q7=>hQ E2 T2 a2 w2 A2 q1 q2 q3 q4 (q5.trans p3) q6 q7
  simp only[ABJ]at h;split at h
  ·rename_i hg
   cases h;exact run (by unfold Region.wanted;rw[hg]) hK
  ·rename_i j want hg
   split at h
   ·cases h
   ·rename_i d hd
    cases h;have hd2:(ops[j]?).bind (·.dst)=some d/\d<65535:=by
     unfold AKr at hd;split at hd
     ·rename_i d0 h0
      split at hd
      ·rename_i hb
       cases hd;exact⟨h0,by simpa[Nat.blt_eq]using hb⟩
      ·cases hd
     ·cases hd
    dsimp only at hK;split at hK
    ·rename_i b hb
     obtain⟨u,hu,hv⟩:=hT d _ hd2.2 hb;cases hv;have hy:yielded ops a.tmps j=some b:=by
      unfold yielded;rw[hd2.1];show(match a.tmps[d]? with|some (.bool b)=>some b|_=>none)=some b;rw[hu]
     split at hK
     ·rename_i hbw
      refine run ?_ hK;unfold Region.wanted;rw[hg];dsimp only;rw[hy,eq_of_beq hbw];simp
     ·rename_i hbw
      refine skip ?_ hK;unfold Region.wanted;rw[hg];dsimp only;rw[hy];intro e;have:=eq_of_beq e;cases this;simp at hbw
    ·rename_i c hb
     obtain⟨u,hu,hv⟩:=hT d _ hd2.2 hb;cases hv;have hy:yielded ops a.tmps j=none:=by
      unfold yielded;rw[hd2.1];show(match a.tmps[d]? with|some (.bool b)=>some b|_=>none)=none;rw[hu]
     refine skip ?_ hK;unfold Region.wanted;rw[hg];dsimp only;rw[hy];intro e;have:=eq_of_beq e;cases this
    ·cases hK
end
end
section
section
variable {P:Program}{w0:W0}{E:En}
inductive DM(E:En):List Nat->List Deferred->Prop
 |nil:DM E [] []
 |cons {b b':Nat} {g:Nat×Nat×Nat} {bs:List Nat} {ds:List Deferred} (h:E b=some (b',g)) (t:DM E bs ds):DM E (b::bs) ({target:=.collected b',args:=#[]}::ds)
theorem DM.mono{E':En}(h:En.le E E'){bs:List Nat}{ds:List Deferred}(k:DM E bs ds):DM E' bs ds:=by
 induction k with
 |nil=>exact .nil
 |cons h1 _ ih=>exact .cons (FH h h1) ih
def RO(E:En):Option Nat->Option Nat->Prop
 |none,none=>True
 |some l,some l'=>∃g,E l=some (l',g)
 |_,_=>False
theorem RO.mono{E':En}(h:En.le E E'){a b:Option Nat}(k:RO E a b):RO E' a b:=by
 cases a<;>cases b<;>first|exact k|(obtain⟨g,hg⟩:=k;exact⟨g,FH h hg⟩)
structure SR(w0:W0)(nt:Nat)(E:En)(s:St)(a:Act)(w:World)(ro:Option Nat):Prop where
 size:nt<=a.tmps.size
 tmps:TR E s.T a.tmps
 heap:HR w0 E s.A w
 defers:DM E s.marks a.defers
 round:RO E s.rd ro
def ExR:Ax->Exit->Prop
 |.normal,.normal=>True
 |.exit i,.exit j=>j=i
 |.ret,.ret=>True
 |_,_=>False
def PostC(w0:W0)(nt:Nat)(E:En)(s:St)(x:Ax)(s':St)(ro:Option Nat):Exit->Act->World->Prop:=fun e a' w'=>∃E',En.le E E'/\ExR x e/\SR w0 nt E' s' a' w' ro/\s'.rd=s.rd
theorem PostC.normal{nt:Nat}{s s':St}{ro:Option Nat}{e:Exit}{a:Act}{w:World}(h:PostC w0 nt E s .normal s' ro e a w):e=.normal:=by
 obtain⟨_,_,h,_⟩:=h;cases e<;>first|rfl|exact h.elim
def CS(P:Program)(w0:W0)(nt:Nat)(K:CK)(c:Code):Prop:=
 ∀(ca:vW)(rd:tZ)(n:Nat),(∀w,CaS P w ca)->(∀w,RdS P w rd)->∀(E:En)(s:St)(a:Act)(w:World)(x:Ax)(s':St)(ro:Option Nat)(m:Nat),SR w0 nt E s a w ro->K ca rd n s=.ok x s'->
  c.wpIn (Fw ro) m P (PostC w0 nt E s x s' ro) a w
theorem AFn{F:Fence}{n:Nat}{Q:Exit->Act->World->Prop}{c:Code}(I:Nat->Act->World->Prop)(round:∀m a w,I m a w->c.wpIn F n P (Exit.then (fun a' w'=>∃m',m'<m/\I m' a' w') Q) a w):
  ∀(m:Nat){a:Act}{w:World},I m a w->(Code.loop c).wpIn F n P Q a w:=by
 intro m a w h0 b k cs hro hb hr;have key:∀j a w,I j a w->∃e a' w',Q e a' w'/\ArrivesIn (Machine.fenced P F) P (lone (b.atR a (.code c::.inLoop c::k)) cs w) b k cs e a' w':=by
  intro j
  induction j using Nat.strongRecOn with
  |_ j ih=>
   intro a w hI;obtain⟨e,a₁,w₁,hq,harr⟩:=round j a w hI b (.inLoop c::k) cs hro hb hr;cases e with
   |normal=>
    obtain⟨m',hlt,hI₁⟩:=hq;obtain⟨e₂,a₂,w₂,hq₂,harr₂⟩:=ih m' hlt a₁ w₁ hI₁;exact⟨e₂,a₂,w₂,hq₂,.of_steps (StepsIn.trans harr (.one (fenced_calm hb hr rfl) stepR_inLoop)) harr₂⟩
   |exit id=>exact⟨_,a₁,w₁,hq,.pass (x:=.inLoop c) rfl (fun _ _=>.inl (by simp)) harr⟩
   |goto l=>exact⟨_,a₁,w₁,hq,.pass (x:=.inLoop c) rfl (fun _ _=>.inl (by simp)) harr⟩
   |ret=>exact⟨_,a₁,w₁,hq,.pass (x:=.inLoop c) rfl (fun _ _=>.inl (by simp)) harr⟩
   |panic ch=>exact⟨_,a₁,w₁,hq,.pass (x:=.inLoop c) rfl (fun _ _=>.inl (by simp)) harr⟩
   |outgrown=>exact⟨_,a₁,w₁,hq,.pass (x:=.inLoop c) rfl (fun _ _=>.inl (by simp)) harr⟩
 obtain⟨e,a',w',hq,harr⟩:=key m a w h0;exact⟨e,a',w',hq,.of_steps (.one (fenced_calm hb hr rfl) stepR_loop) harr⟩
theorem AJ8{nt:Nat}{X:CK}{b:Code}(hX:CS P w0 nt X b):CS P w0 nt (fun ca rd n s=>AFY X ca rd n s) (.loop b):=by
 intro ca rd n hca hrd E s a w x s' ro m hS hK;refine AFn (fun k a1 w1=>∃(E1:En)(s1:St),En.le E E1/\SR w0 nt E1 s1 a1 w1 ro/\s1.rd=s.rd/\AFY X ca rd k s1=.ok x s') ?_ n ⟨E,s,En.le_rfl,hS,rfl,hK⟩;rintro k a1 w1⟨E1,s1,h1,h2,h3,h4⟩;cases k with
 |zero=>cases h4
 |succ k=>
  simp only[AFY]at h4;cases hx:X ca rd k s1 with
  |no q r=>rw[hx]at h4;cases h4
  |ok y s2=>
   rw[hx]at h4;refine wpIn_mono (hX ca rd k hca hrd E1 s1 a1 w1 y s2 ro m h2 hx) fun e a2 w2 he=>?_;obtain⟨E2,q1,q2,q3,q4⟩:=he;cases y with
   |normal=>
    cases e<;>try exact q2.elim
    exact⟨k,Nat.lt_succ_self _,E2,s2,h1.trans q1,q3,q4.trans h3,h4⟩
   |exit j=>
    cases h4;cases e<;>try exact q2.elim
    exact⟨E2,h1.trans q1,q2,q3,q4.trans h3⟩
   |ret=>
    cases h4;cases e<;>try exact q2.elim
    exact⟨E2,h1.trans q1,q2,q3,q4.trans h3⟩
end
end
section
section
variable {P:Program}{w0:W0}{E:En}
theorem AEw{w:World}{b:Nat}{o:Obj}:(w.putObj b o).heap.size=w.heap.size/\(∀k,k≠b->(w.putObj b o).heap[k]?=w.heap[k]?):=by
 refine⟨by simp[World.putObj],fun k hk=>?_⟩;simp only[World.putObj,Array.getElem?_setIfInBounds];rw[if_neg (fun e=>hk e.symm)]
theorem HR.turn{A:AH}{w:World}(h:HR w0 E A w){l l':Nat}{g:Nat×Nat×Nat}{r:AL}(hl:kE A.t l=some (.loop r))(hE:E l=some (l',g))(st:LoopState)(pe:Option Code):
  ∃r',w.heap[l']?=some (.loop r')/\LR E r r'/\HR w0 E (A.put l (.loop {r with state:=st,pending:=pe})) (w.putObj l' (.loop {r' with state:=st,pending:=pe})):=by
 obtain⟨r',h1,h2⟩:=h.obj _ _ _ _ hl hE;have hlt:=(h.base _ _ _ hE).2;obtain⟨k1,k2⟩:=AEw (w:=w) (b:=l') (o:=.loop {r' with state:=st,pending:=pe});refine⟨r',h1,h2,h.put hl rfl hE ⟨_,World.putObj_heap_same hlt,?_⟩ k1 k2 rfl rfl rfl⟩;exact⟨rfl,rfl,h2.size,h2.pok,h2.tmps,h2.params,h2.assign,h2.body,h2.defers⟩
theorem AHu{nt:Nat}{s s':St}{x:Ax}{A:AH}{l l':Nat}{g:Nat×Nat×Nat}{w:World}{a:Act}{ro:Option Nat}{m:Nat}{E0:En}{s0:St}(h:rangeB l s A=.ok x s')(hE:E l=some (l',g))(hH:HR w0 E A w)(hle:En.le E0 E)
  (h1:nt<=a.tmps.size) (h2:TR E s.T a.tmps) (h3:DM E s.marks a.defers) (h4:RO E s.rd ro) (h5:s.rd=s0.rd):
  ∃jump w4,(Instr.endLoop l').run P w=.ok jump w4/\(match jump with|none=>PostC w0 nt E0 s0 x s' ro .normal a w4|some c=>c.wpIn (Fw ro) m P (PostC w0 nt E0 s0 x s' ro) a w4):=by
 unfold rangeB at h;split at h
 ·rename_i r hr
  have key:r.state≠.busy->∀pe,r.pending=pe->∃w4,(Instr.endLoop l').run P w=.ok pe w4/\HR w0 E (A.put l (.loop {r with state:=.exhausted})) w4:=by
   intro hb pe hp;obtain⟨r',k1,k2,k3⟩:=hH.turn hr hE .exhausted r.pending;refine⟨_,?_,k3⟩;rw[run_endLoop k1 (by rw[k2.state];exact hb),k2.pending,hp]
  split at h
  ·cases h
  ·rename_i hb
   have hb:r.state≠.busy:=hb;split at h<;>rename_i hp
   ·cases h
    obtain⟨w4,k1,k2⟩:=key hb none hp;exact⟨none,w4,k1,E,hle,trivial,⟨h1,h2,k2,h3,h4⟩,h5⟩
   ·cases h
    obtain⟨w4,k1,k2⟩:=key hb (some .ret) hp;exact⟨some .ret,w4,k1,wpIn_ret ⟨E,hle,trivial,⟨h1,h2,k2,h3,h4⟩,h5⟩⟩
   ·cases h
    obtain⟨w4,k1,k2⟩:=key hb _ hp;exact⟨some (.exit _),w4,k1,wpIn_exit ⟨E,hle,rfl,⟨h1,h2,k2,h3,h4⟩,h5⟩⟩
   ·cases h
 ·cases h
theorem AEE{nt:Nat}{ps:Array Tmp}{assign body:Code}{ca:vW}(hca:CaS P w0 ca){h:FuncId}{first cap:List Value}{first' cap':Array Value}{d d':Nat}{gd:Nat×Nat×Nat}{s s' s0:St}{x:Ax}{E0:En}{a:Act}{w1:World}{fn:FuncId}{ro:Option Nat}{m:Nat}
  (hps:∀t∈ps.toList,t<nt/\t<65535) (hK:AFZ nt ps assign body ca h first cap d s=.ok x s') (hf:VRs E first first'.toList) (hc:VRs E cap cap'.toList) (hd:E d=some (d',gd)) (hH:HR w0 E s.A w1) (hle:En.le E0 E)
  (h1:nt<=a.tmps.size) (h2:TR E s.T a.tmps) (h3:DM E s.marks a.defers) (h4:RO E s.rd ro) (h5:s.rd=s0.rd):
  (callFunc h (first'++#[Value.func (.yield w1.heap.size) #[] #[]]++cap')).run P (w1.alloc (.loop {state:=.ready,pending:=none,fn,tmps:=a.tmps,params:=ps,assign,body,defers:=d'}))=
   .ok (.enter h (first'++#[Value.func (.yield w1.heap.size) #[] #[]]++cap')) (w1.alloc (.loop {state:=.ready,pending:=none,fn,tmps:=a.tmps,params:=ps,assign,body,defers:=d'}))/\
  CallsIn (Fw ro) (m-1) P h (first'++#[Value.func (.yield w1.heap.size) #[] #[]]++cap') (w1.alloc (.loop {state:=.ready,pending:=none,fn,tmps:=a.tmps,params:=ps,assign,body,defers:=d'}))
   (rangePost (Fw ro) m P w1.heap.size (PostC w0 nt E0 s0 x s' ro) a):=by
 unfold AFZ at hK;split at hK
 ·cases hK
 ·rename_i v A hk
  have hle2:En.le E (E.put s.A.next (w1.heap.size,(0,0,0))):=En.le_put hH.fresh;have hH2:=hH.push (o:=.loop {state:=.ready,pending:=none,nt,tmps:=s.T,params:=ps.toList,assign,body,defers:=d}) (o':=.loop {state:=.ready,pending:=none,fn,tmps:=a.tmps,params:=ps,assign,body,defers:=d'}) (g:=(0,0,0))
   ⟨_,AA9 _ _,rfl,rfl,h1,hps,h2.mono hle2,rfl,rfl,rfl,gd,FH hle2 hd⟩
  have hargs:VRs (E.put s.A.next (w1.heap.size,(0,0,0))) (first++Value.func (.yield s.A.next) #[] #[]::cap) (first'++#[Value.func (.yield w1.heap.size) #[] #[]]++cap').toList:=by
   have:(first'++#[Value.func (.yield w1.heap.size) #[] #[]]++cap').toList=first'.toList++(Value.func (.yield w1.heap.size) #[] #[]::cap'.toList):=by simp
   rw[this];exact(hf.mono hle2).append (.cons (.yield En.put_same .nil .nil) (hc.mono hle2))
  have hcf:=hca _ _ _ _ _ _ _ _ (m-1) hk hargs hH2;refine⟨hcf.1,CallsIn.mono hcf.2 fun e w3 he=>?_⟩;obtain⟨E3,v',rfl,k1,k2,k3⟩:=he;have hl:=hle2.trans k1;exact AHu hK (FH k1 En.put_same) k3 (hle.trans hl) h1 (h2.mono hl) (h3.mono hl) (h4.mono hl) h5
theorem AIc{nt:Nat}{g:Operand}{ps:Array Tmp}{assign body:Code}:CS P w0 nt (fun ca _ _ s=>AHf nt g ps assign body ca s) (.rangeFunc g ps assign body):=by
 intro ca rd n hca hrd E s a w x s' ro m hS hK;dsimp only at hK;unfold AHf at hK;split at hK
 ·cases hK
 ·rename_i hps
  have hps:∀t∈ps.toList,t<nt/\t<65535:=fun t ht=>by
   have:=List.all_eq_true.1 hps t ht;simpa[Nat.blt_eq]using this
  obtain⟨G,hG,hK⟩:=Oc hK (by intro e;cases e);split at hK
  ·rename_i h first cap hg
   have hv:=yN hG hg hS.tmps;generalize hz:a.eval g=z at hv;cases hv with| @func _ _ first' _ cap' q1 q2=>
   have res:∀(l:Nat)(w1:World),(resolve a.eval (rangeCall g l) 0).run P w1=.ok {target:=.fn (.func h) cap',args:=first'++#[Value.func (.yield l) #[] #[]]} w1:=by
    intro l w1;unfold resolve rangeCall;dsimp only;rw[hz];simp[Deferred.ofValue,Act.eval]
   split at hK
   ·rename_i l hrd0
    split at hK
    ·rename_i r hr
     cases ro with
     |none=>have:=hS.round;rw[hrd0]at this;exact this.elim
     |some l'=>
      have hro:=hS.round;rw[hrd0]at hro;obtain⟨gl,hgl⟩:=hro;obtain⟨r',k1,k2⟩:=hS.heap.obj _ _ _ _ hr hgl;obtain⟨gd,hgd⟩:=k2.defers;refine wpIn_rangeFunc fun fn _=>?_;have hc:=AEE (fn:=fn) (ro:=some l') (m:=m) (a:=a) (hca _) hps hK q1 q2 hgd hS.heap En.le_rfl hS.size hS.tmps hS.defers hS.round rfl;refine⟨w.heap.size,[],_,_,_,h,first'++#[Value.func (.yield w.heap.size) #[] #[]]++cap',_,run_enterLoop_inner k1 _ _ _ _ _,res _ _,fun _ _=>trivial,?_,fun(h:false=true)=>(nomatch h),hc.2⟩;simpa[invoke]using hc.1
    ·cases hK
   ·rename_i hrd0
    cases ro with
    |some l'=>have:=hS.round;rw[hrd0]at this;exact this.elim
    |none=>
     have hle:En.le E (E.put s.A.next (w.heap.size,(0,0,0))):=En.le_put hS.heap.fresh;have hH2:=hS.heap.push (o:=.defer false) (o':=.deferred (some [])) (g:=(0,0,0)) (AA9 _ _);refine wpIn_rangeFunc fun fn _=>?_;have hc:=AEE (fn:=fn) (ro:=none) (m:=m) (s0:=s) (a:={a with defers:={target:=.collected w.heap.size,args:=#[]}::a.defers}) (hca _) hps hK (q1.mono hle) (q2.mono hle) En.put_same hH2 hle hS.size (hS.tmps.mono hle) (.cons En.put_same (hS.defers.mono hle)) (by rw[hrd0];trivial) rfl;refine⟨(w.alloc (.deferred (some []))).heap.size,[{target:=.collected w.heap.size,args:=#[]}],(w.alloc (.deferred (some []))).alloc (.loop {state:=.ready,pending:=none,fn,tmps:=a.tmps,params:=ps,assign,body,defers:=w.heap.size}),_,(w.alloc (.deferred (some []))).alloc (.loop {state:=.ready,pending:=none,fn,tmps:=a.tmps,params:=ps,assign,body,defers:=w.heap.size}),h,first'++#[Value.func (.yield (w.alloc (.deferred (some []))).heap.size) #[] #[]]++cap',_,?_,res _ _,fun _ _=>trivial,?_,fun(h:false=true)=>(nomatch h),hc.2⟩
     ·rw[World.size_alloc];exact run_enterLoop_outer _ _ _ _ _
     ·simpa[invoke]using hc.1
  ·cases hK
end
end
section
section
variable {P:Program}{w0:W0}{E:En}
theorem AAY{x:Operand}{T:TP}{s:String}{n:Nat}{k:Value->V}{v:Value}{A:AH}(h:X1 x T (.no s n) k=.ok v A):∃u,k u=.ok v A:=by
 unfold X1 at h;obtain⟨X,h1,h2⟩:=Oc h (by intro e;cases e);cases hX:X T with
 |no=>rw[hX]at h2;cases h2
 |mk u=>rw[hX]at h2;exact⟨u,h2⟩
def AJ9(K:OpK):Prop:=∀(ca:vW)(rd:tZ)(T:TP)(A:AH)(v:Value)(A':AH),K ca rd T A=.ok v A'->A'=A
theorem AC3{o:Oper}{K:OpK}(h:ACh P o=.mk K)(hc:ACz o.op=false):AJ9 K:=by
 intro ca rd T A v A' hK;unfold ACh at h;split at h
 ·cases h
 ·cases h
  obtain⟨X,h1,h2⟩:=Oc hK (by intro e;cases e);cases hX:X T with
  |none=>rw[hX]at h2;cases h2
  |some vs=>
   rw[hX]at h2;dsimp only at h2;split at h2
   ·unfold AMG at h2
    split at h2
    ·split at h2
     ·cases h2;rfl
     ·cases h2
    ·cases h2
   ·cases h2
 ·rw[hc]at h
  cases h;obtain⟨X,h1,h2⟩:=Oc hK (by intro e;cases e);cases hX:X T with
  |none=>rw[hX]at h2;cases h2
  |some vs=>
   rw[hX]at h2;dsimp only at h2;split at h2
   ·exact(AHk h2).2
   ·cases h2
theorem AAJ{o:Oper}{x y:Operand}{f:Value->Value->Option Value}{K:OpK}(h:zq P o x y f=.mk K)(hc:ACz o.op=false):AJ9 K:=by
 intro ca rd T A v A' hK;unfold zq at h;cases h;obtain⟨X,h1,h2⟩:=Oc hK (by intro e;cases e);cases hX:X T with
 |no=>rw[hX]at h2;cases h2
 |mk u=>
  rw[hX]at h2;obtain⟨Y,h3,h4⟩:=Oc h2 (by intro e;cases e);cases hY:Y T with
  |no=>rw[hY]at h4;cases h4
  |mk s=>
   rw[hY]at h4;dsimp only at h4;cases hfu:f u s with
   |none=>
    rw[hfu]at h4;obtain⟨K,h5,h6⟩:=Oc h4 (by intro e;cases e);exact AC3 h5 hc ca rd T A v A' h6
   |some r=>rw[hfu]at h4;cases h4;rfl
theorem AHv{I:OK}{sz len:Nat}{a:Addr}{T:TP}{A A':AH}{v:Value}(h:ixK I sz a len T A=.ok v A'):A'=A:=by
 unfold ixK at h;split at h
 ·split at h
  ·split at h
   ·cases h;rfl
   ·cases h
  ·cases h
 ·cases h
theorem AEF{A A':AH}{r:Option Value}{v:Value}(h:ret1 A r=.ok v A'):A'=A:=by
 unfold ret1 at h;split at h<;>cases h
 rfl
theorem AKA{o:Oper}{K:OpK}(h:AFR P o=.mk K)(hc:ACz o.op=false):AJ9 K:=by
 obtain⟨dst,op,ty,pos,af,gd⟩:=o;unfold AFR at h;dsimp only at h hc;split at h
 case h_1=>cases h;intro ca rd T A v A' hK;obtain⟨u,hu⟩:=AAY hK;cases hu;rfl
 case h_2=>cases h;intro ca rd T A v A' hK;obtain⟨u,hu⟩:=AAY hK;cases hu;rfl
 case h_3=>exact AAJ h hc
 case h_4=>exact AAJ h hc
 case h_5=>exact AAJ h hc
 case h_6=>exact AAJ h hc
 case h_7=>exact AAJ h hc
 case h_8=>exact AAJ h hc
 case h_9=>exact AAJ h hc
 case h_10=>split at h<;>exact AAJ h hc
 case h_11=>split at h<;>exact AAJ h hc
 case h_12=>
  cases h;intro ca rd T A v A' hK;obtain⟨u,hu⟩:=AAY hK;split at hu
  ·obtain⟨_,hu⟩:=AAY hu;cases hu;rfl
  ·obtain⟨_,hu⟩:=AAY hu;cases hu;rfl
  ·cases hu
 case h_13=>
  cases h;intro ca rd T A v A' hK;obtain⟨u,hu⟩:=AAY hK;split at hu<;>cases hu
  rfl
 case h_14=>
  split at h
  ·cases h
  ·split at h
   ·split at h
    ·cases h
    ·cases h
     intro ca rd T A v A' hK;obtain⟨u,hu⟩:=AAY hK;split at hu
     ·exact AEF hu
     ·cases hu
   ·cases h
    intro ca rd T A v A' hK;obtain⟨u,hu⟩:=AAY hK;split at hu
    ·exact AEF hu
    ·cases hu
 case h_15=>
  split at h
  ·split at h
   ·cases h
   ·cases h
    intro ca rd T A v A' hK;obtain⟨u,hu⟩:=AAY hK;split at hu
    ·obtain⟨I,h1,h2⟩:=Oc hu (by intro e;cases e)
     exact AHv h2
    ·cases hu
  ·split at h
   ·cases h
   ·cases h
    intro ca rd T A v A' hK;obtain⟨u,hu⟩:=AAY hK;split at hu
    ·obtain⟨I,h1,h2⟩:=Oc hu (by intro e;cases e)
     exact AHv h2
    ·cases hu
  ·cases h
 case h_16=>
  split at h
  ·split at h
   ·split at h
    ·cases h
    ·split at h
     ·cases h
      intro ca rd T A v A' hK;obtain⟨u,hu⟩:=AAY hK;split at hu<;>cases hu
      rfl
     ·cases h
      intro ca rd T A v A' hK;obtain⟨u,hu⟩:=AAY hK;split at hu<;>cases hu
      rfl
   ·cases h
  ·cases h
 case h_17=>cases hc
 case h_18=>cases hc
 case h_19=>
  cases h;intro ca rd T A v A' hK;obtain⟨u,hu⟩:=AAY hK;split at hu
  ·exact AEF hu
  ·cases hu
 case h_20=>cases hc
 case h_21=>cases hc
 case h_22=>exact AC3 h hc
theorem AId{o:Oper}{K:OpK}(h:AAW P o=.mk K)(hc:ACz o.op=false):AJ9 K:=by
 obtain⟨dst,op,ty,pos,af,gd⟩:=o;unfold AAW at h;dsimp only at h hc;split at h
 case h_1=>cases hc
 case h_2=>cases hc
 case h_3=>
  unfold AFS Bx.ap at h;cases hg:ACh P ⟨dst,_,ty,pos,af,gd⟩with
  |no=>rw[hg]at h;cases h
  |mk K0=>
   rw[hg]at h;cases h;intro ca rd T A v A' hK;dsimp only at hK;split at hK
   ·exact AC3 hg hc ca rd T A v A' hK
   ·cases hK
 case h_4=>
  split at h
  ·split at h
   ·unfold AJi at h
    split at h
    ·cases h
     intro ca rd T A v A' hK;obtain⟨u,hu⟩:=AAY hK;split at hu<;>cases hu
     rfl
    ·exact AC3 h hc
   ·cases h
  ·cases h
 case h_5=>exact AKA h hc
theorem AGH(l m:List Value):eqV.eqVs l m=true->l=m:=by
 fun_induction eqV.eqVs l m<;>(try simp_all[ADT])<;>(intros;simp_all)
theorem AHw{a b:Value}:eqV a b=true->a=b:=by
 unfold eqV;split<;>intro h<;>(try simp only[Bool.and_eq_true,Nat.beq_eq,ADT,decide_eq_true_eq,beq_iff_eq]at h)<;>(try (simp_all;done))
 all_goals first
  |(have:=AGH _ _ h;exact congrArg _ (Array.toList_inj.1 this))
  |(obtain⟨⟨h1,h2⟩,h3⟩:=h;rw[h1,Array.toList_inj.1 (AGH _ _ h2),Array.toList_inj.1 (AGH _ _ h3)])
  |cases h
theorem AOi:∀(l m:List Value),eqL l m=true->l=m:=by
 intro l m
 fun_induction eqL l m<;>(try simp_all[ADT])<;>(intros;simp_all)
end
end
section
section
variable {P:Program}{nt:Nat}{ops:List Oper}{ca:vW}{rd:tZ}
def Pre(ops:List Oper)(L:Nat->Prop)(k:Nat):Prop:=∀o,ops[k]?=some o->∀e∈o.after.toList,Region.binds .any e=true->L e.on
theorem AMW{acc:List Nat}{i:Nat}:∀(es:List Edge)(m:Nat),(es.foldl (fun m e=>match Region.binds .any e with|true=>Nat.lor m (Nat.lor (Nat.shiftLeft 1 e.on) ((acc[e.on]?).getD 0))|false=>m) m).testBit i=true->
  m.testBit i=true\/∃e∈es,Region.binds .any e=true/\(e.on=i\/((acc[e.on]?).getD 0).testBit i=true):=by
 intro es
 induction es with
 |nil=>intro m h;exact .inl h
 |cons e es ih=>
  intro m h;simp only[List.foldl_cons]at h;rcases ih _ h with h|⟨e',h1,h2⟩
  ·cases hb:Region.binds .any e with
   |false=>rw[hb]at h;exact .inl h
   |true=>
    rw[hb]at h;dsimp only at h;change(m|||(1<<<e.on|||(acc[e.on]?).getD 0)).testBit i=true at h;rw[Nat.testBit_or,Nat.testBit_or,Bool.or_eq_true,Bool.or_eq_true]at h;rcases h with h|h|h
    ·exact .inl h
    ·refine .inr ⟨e,by simp,hb,.inl ?_⟩
     rw[Nat.one_shiftLeft,Nat.testBit_two_pow]at h;simpa using h
    ·exact .inr ⟨e,by simp,hb,.inr h⟩
  ·exact .inr ⟨e',by simp[h1],h2⟩
theorem AIe{L:Nat->Prop}(hL:∀k,L k->Pre ops L k):∀(l:List Oper)(acc:List Nat),(∀k,l[k]?=ops[acc.length+k]?)->(∀k m,acc[k]?=some m->∀i,m.testBit i=true->Pre ops L k->L i)->
  ∀k m,(yH l acc)[k]?=some m->∀i,m.testBit i=true->Pre ops L k->L i:=by
 intro l
 induction l with
 |nil=>intro acc _ h k m hm i hi hk;exact h k m hm i hi hk
 |cons o l ih=>
  intro acc hl h;unfold yH;refine ih _ (fun k=>?_) fun k m hm i hi hk=>?_
  ·have:=hl (k+1)
   simp only[List.getElem?_cons_succ]at this;rw[this];simp[Nat.add_assoc,Nat.add_comm 1]
  ·rw[List.getElem?_append]at hm
   split at hm
   ·exact h k m hm i hi hk
   ·rename_i hge
    have hk0:k-acc.length=0:=by
     cases hz:k-acc.length with
     |zero=>rfl
     |succ z=>rw[hz]at hm;cases hm
    have hkk:k=acc.length:=by omega
    rw[hk0]at hm;cases hm;rcases AMW _ _ hi with h0|⟨e,h1,h2,h3⟩
    ·simp at h0
    ·have ho:ops[k]?=some o:=by have:=hl 0;rw[hkk];simpa using this.symm
     have hle:=hk o ho e h1 h2;rcases h3 with rfl|h3
     ·exact hle
     ·cases ha:acc[e.on]? with
      |none=>rw[ha]at h3;simp at h3
      |some m'=>rw[ha]at h3;exact h e.on m' ha i h3 (hL _ hle)
theorem AAK{L:Nat->Prop}(hL:∀k,L k->Pre ops L k){k i:Nat}(h:(AAD (yH ops []) k).testBit i=true)(hk:Pre ops L k):L i:=by
 unfold AAD at h;cases hm:(yH ops [])[k]? with
 |none=>rw[hm]at h;simp at h
 |some m=>rw[hm]at h;exact AIe hL ops [] (by simp) (by simp) k m hm i h hk
structure TLr(ops:List Oper)(val:Nat->Value)(S:Nat->Prop)(T0 T:TP):Prop where
 out:∀j o x,ops[j]?=some o->S j->o.dst=some x->x<65535->yA (xR 16 x) T=.mk (val j)
 old:∀x,x<65535->(∀j o,ops[j]?=some o->S j->o.dst≠some x)->yA (xR 16 x) T=yA (xR 16 x) T0
def AHx(ops:List Oper):Prop:=∀(j k:Nat)(o o':Oper)(x:Tmp),ops[j]?=some o->ops[k]?=some o'->o.dst=some x->o'.dst=some x->j=k
theorem TLr.put{T0 T:TP}{val:Nat->Value}{S:Nat->Prop}(h:TLr ops val S T0 T)(hU:AHx ops){i:Nat}{o:Oper}(ho:ops[i]?=some o){D:Value->TP->TP}(hD:AAI nt o.dst=.mk D)(v:Value){val':Nat->Value}(hv:val' i=v)(hvo:∀j,j≠i->S j->val' j=val j)
  {S':Nat->Prop} (hS:∀k,S' k↔(S k\/k=i)):TLr ops val' S' T0 (D v T):=by
 cases hd:o.dst with
 |none=>
  rw[hd]at hD;cases hD;refine⟨fun j o' x h1 h2 h3 h4=>?_,fun x hx h1=>?_⟩
  ·by_cases e:j=i
   ·subst e;rw[ho]at h1;cases h1;rw[hd]at h3;cases h3
   ·have:=(hS j).1 h2
    have hj:S j:=this.resolve_right e;rw[hvo j e hj];exact h.out j o' x h1 hj h3 h4
  ·exact h.old x hx fun j o' h2 h3=>h1 j o' h2 ((hS j).2 (.inl h3))
 |some d=>
  rw[hd]at hD;simp only[AAI]at hD;split at hD
  ·rename_i hb
   cases hD;simp only[Bool.and_eq_true,Nat.blt_eq]at hb;refine⟨fun j o' x h1 h2 h3 h4=>?_,fun x hx h1=>?_⟩
   ·rw[yw]
    by_cases e:j=i
    ·subst e
     rw[ho]at h1;cases h1;rw[hd]at h3;cases h3;rw[if_pos rfl,hv]
    ·have hne:x≠d:=fun ex=>e (hU j i o' o d h1 ho (ex▸h3) hd)
     rw[if_neg (fun ew=>hne (AAh h4 hb.2 ew))];have hj:S j:=((hS j).1 h2).resolve_right e;rw[hvo j e hj];exact h.out j o' x h1 hj h3 h4
   ·rw[yw]
    have hne:x≠d:=fun ex=>h1 i o ho ((hS i).2 (.inr rfl)) (ex▸hd);rw[if_neg (fun ew=>hne (AAh hx hb.2 ew))];exact h.old x hx fun j o' h2 h3=>h1 j o' h2 ((hS j).2 (.inl h3))
  ·cases hD
def vH(l:List Pl):Nat:=(l.filter (·.act)).length
theorem AMX{α:Type}(f:Nat->α){t lo r:Nat}(h1:lo<=r)(h2:r<t):f r∈(((List.range t).reverse.map f).take (t-lo)):=by
 rw[List.mem_iff_getElem?];refine⟨t-1-r,?_⟩;rw[List.getElem?_take_of_lt (by omega),List.getElem?_map,List.getElem?_reverse (by simp;omega)];simp;rw[List.getElem?_range (by omega)];simp
 congr 1
 omega
structure PlF(P:Program)(nt:Nat)(ops:List Oper)(ca:vW)(rd:tZ)(T0:TP)(val:Nat->Value)(As:Nat->AH)(m:Nat)(p:Pl)(s:Nat)(S:Nat->Prop):Prop where
 ex:∃Tp w,TLr ops val S T0 Tp/\AHD ops p.o Tp=some w/\(∃D,AAI nt p.o.dst=.mk D)/\(w=false->val p.j=undef/\(p.act=true->As (s+1)=As s))/\
  (w=true->∃K,AAW P p.o=.mk K/\(p.act=true->K ca rd (ABn (AB9 p.o.op.operands.toList) Tp) (As s)=.ok (val p.j) (As (s+1)))/\
   (p.act=false->∀r,p.lo<=r->r<=p.hi->r<=m->∃A',K ca rd (ABn (AB9 p.o.op.operands.toList) Tp) (As r)=.ok (val p.j) A'))
def Ag(P:Program)(ca:vW)(rd:tZ)(p:Pend)(A:AH):Prop:=∀K,AAW P p.o=.mk K->∃A',K ca rd p.T A=.ok p.v A'
def StF(A:AH)(q:Fresh):Prop:=kE A.t q.b=some (.cells q.cs q.e 0)
theorem AHy{p:Pend}{A:AH}(h:again P ca rd p A=true):Ag P ca rd p A:=by
 intro K hK;unfold again at h;rw[hK]at h;change(match K ca rd p.T A with|.ok v _=>eqV v p.v|.no _ _=>false)=true at h;split at h
 ·rename_i v A' hv
  rw[AHw h]at hv;exact⟨A',hv⟩
 ·cases h
theorem AGl{A:AH}{q:Fresh}(h:AFU A q=true):StF A q:=by
 unfold AFU at h;unfold StF;split at h
 ·rename_i cs e hg
  simp only[Bool.and_eq_true,Nat.beq_eq]at h;rw[hg,h.1,AOi _ _ h.2]
 ·cases h
def GoR(P:Program)(nt:Nat)(ops:List Oper)(ca:vW)(rd:tZ)(T0:TP)(fr:List Fresh)(l:List Pl)(t:Nat)(A:AH)(ps:List Pend)(val0:Nat->Value)(As0:Nat->AH)(Tf:TP)(Af:AH):Prop:=
  ∃(val:Nat->Value)(As:Nat->AH),(∀j,j∉l.map Pl.j->val j=val0 j)/\(∀s,s<t->As s=As0 s)/\As t=A/\As (t+vH l)=Af/\TLr ops val (fun _=>True) T0 Tf/\
   (∀l1 p l2,l=l1++p::l2->PlF P nt ops ca rd T0 val As (t+vH l) p (t+vH l1) (fun k=>k∉(p::l2).map Pl.j))/\
   (∀q∈ps,∀s,t<=s->s<=t+vH l->s<=q.hi->Ag P ca rd q (As s))/\
   (∀q∈fr,∀s,t<=s->s<=t+vH l->s<=q.hi->StF (As s) q)
theorem AMZ{T0:TP}(hU:AHx ops){fr:List Fresh}:∀(l:List Pl)(t:Nat)(T:TP)(A:AH)(hs:List AH)(ps:List Pend)(val0:Nat->Value)(As0:Nat->AH)(Tf:TP)(Af:AH),(l.map Pl.j).Nodup->(∀p∈l,ops[p.j]?=some p.o)->
  TLr ops val0 (fun k=>k∉l.map Pl.j) T0 T->hs=(List.range t).reverse.map As0->(∀q∈ps,t<=q.hi->Ag P ca rd q A)->(∀q∈fr,t<=q.hi->StF A q)->goD P nt ops ca rd fr l t T A hs ps=some (Tf,Af)->
  GoR P nt ops ca rd T0 fr l t A ps val0 As0 Tf Af:=by
 intro l
 induction l with
 |nil=>
  intro t T A hs ps val0 As0 Tf Af _ _ hT hhs hps hfr h;simp only[goD]at h;cases h;refine⟨val0,fun s=>if s=t then A else As0 s,fun _ _=>rfl,fun s hs=>if_neg (by omega),if_pos rfl,if_pos rfl,⟨fun j o x h1 _ h3 h4=>hT.out j o x h1 (by simp) h3 h4,fun x hx h1=>hT.old x hx fun j o h2 _=>h1 j o h2 trivial⟩,?_,?_,?_⟩
  ·intro l1 p l2 e;cases l1<;>cases e
  ·intro q hq s h1 h2 h3
   have e:s=t:=by simp[vH]at h2;omega
   subst e;dsimp only;rw[if_pos rfl];exact hps q hq h3
  ·intro q hq s h1 h2 h3
   have e:s=t:=by simp[vH]at h2;omega
   subst e;dsimp only;rw[if_pos rfl];exact hfr q hq h3
 |cons p l ih=>
  intro t T A hs ps val0 As0 Tf Af hnd hop hT hhs hps hfr h;simp only[List.map_cons,List.nodup_cons]at hnd;have hpo:=hop p (by simp);simp only[goD]at h;cases hw:AHD ops p.o T with
  |none=>rw[hw]at h;cases h
  |some w=>
   rw[hw]at h;dsimp only at h;obtain⟨D,hD,h⟩:=Oc h (by intro e;cases e);have hT':∀v,TLr ops (fun j=>if j=p.j then v else val0 j) (fun k=>k∉l.map Pl.j) T0 (D v T):=fun v=>
    hT.put hU hpo hD v (if_pos rfl) (fun j hj _=>if_neg hj) fun k=>by
     simp only[List.map_cons,List.mem_cons,not_or];constructor
     ·intro hk
      by_cases e:k=p.j
      ·exact .inr e
      ·exact .inl ⟨e,hk⟩
     ·rintro(h|rfl)
      ·exact h.2
      ·exact hnd.1
   have hop':∀q∈l,ops[q.j]?=some q.o:=fun q hq=>hop q (by simp[hq]);have hrange:A::hs=(List.range (t+1)).reverse.map (fun s=>if s=t then A else As0 s):=by
    rw[List.range_succ,List.reverse_append,hhs];simp only[List.reverse_cons,List.reverse_nil,List.nil_append,List.cons_append,List.map_cons,if_true,List.cons.injEq,true_and];exact List.map_congr_left fun s hs=>(if_neg (by
        have:s<t:=by simpa using hs
        omega)).symm
   have fin:∀(v:Value)(val:Nat->Value)(As:Nat->AH)(d:Nat),(d=if p.act then 1 else 0)->(∀j,j∉l.map Pl.j->val j=if j=p.j then v else val0 j)->
     (∀l1 q l2,l=l1++q::l2->PlF P nt ops ca rd T0 val As (t+d+vH l) q (t+d+vH l1) (fun k=>k∉(q::l2).map Pl.j))->
     PlF P nt ops ca rd T0 val As (t+vH (p::l)) p t (fun k=>k∉(p::l).map Pl.j)->
     (∀j,j∉(p::l).map Pl.j->val j=val0 j)/\
     (∀l1 q l2,p::l=l1++q::l2->PlF P nt ops ca rd T0 val As (t+vH (p::l)) q (t+vH l1) (fun k=>k∉(q::l2).map Pl.j)):=by
    intro v val As d hd hval hpl hp;refine⟨fun j hj=>?_,fun l1 q l2 e=>?_⟩
    ·simp only[List.map_cons,List.mem_cons,not_or]at hj
     rw[hval j hj.2,if_neg hj.1]
    ·cases l1 with
     |nil=>cases e;simpa[vH]using hp
     |cons q1 l1=>
      simp only[List.cons_append,List.cons.injEq]at e;obtain⟨rfl,rfl⟩:=e;have:=hpl l1 q l2 rfl;have hn:t+d+vH (l1++q::l2)=t+vH (p::(l1++q::l2)):=by
       rw[hd];unfold vH;rw[List.filter_cons];split<;>simp<;>omega
      rw[hn]at this;have e2:t+d+vH l1=t+vH (p::l1):=by
       rw[hd];unfold vH;rw[List.filter_cons];split<;>simp<;>omega
      rw[e2]at this;exact this
   have hvalT:∀(v:Value)(val:Nat->Value),(∀j,j∉l.map Pl.j->val j=if j=p.j then v else val0 j)->TLr ops val (fun k=>k∉(p::l).map Pl.j) T0 T:=by
    intro v val hval;refine⟨fun j o x h1 h2 h3 h4=>?_,hT.old⟩;rw[hT.out j o x h1 h2 h3 h4];have h2':=h2;simp only[List.map_cons,List.mem_cons,not_or]at h2';rw[hval j h2'.2,if_neg h2'.1]
   have hvalp:∀(v:Value)(val:Nat->Value),(∀j,j∉l.map Pl.j->val j=if j=p.j then v else val0 j)->val p.j=v:=fun v val hval=>by rw[hval _ hnd.1,if_pos rfl]
   have act:∀(v:Value)(A':AH),p.act=true->(∀q∈ps,t+1<=q.hi->Ag P ca rd q A')->(∀q∈fr,t+1<=q.hi->StF A' q)->goD P nt ops ca rd fr l (t+1) (D v T) A' (A::hs) ps=some (Tf,Af)->
     (∀(val:Nat->Value)(As:Nat->AH),val p.j=v->TLr ops val (fun k=>k∉(p::l).map Pl.j) T0 T->As t=A->As (t+1)=A'->PlF P nt ops ca rd T0 val As (t+vH (p::l)) p t (fun k=>k∉(p::l).map Pl.j))->GoR P nt ops ca rd T0 fr (p::l) t A ps val0 As0 Tf Af:=by
    intro v A' hact k1 k2 hg hpl;obtain⟨val,As,i1,i2,i3,i4,i5,i6,i7,i8⟩:=ih (t+1) (D v T) A' (A::hs) ps _ (fun s=>if s=t then A else As0 s) Tf Af hnd.2 hop' (hT' v) hrange k1 k2 hg;have e0:As t=A:=(i2 t (by omega)).trans (if_pos rfl);have hn:t+1+vH l=t+vH (p::l):=by unfold vH;rw[List.filter_cons,hact];simp;omega
    obtain⟨f1,f3⟩:=fin v val As 1 (by rw[hact];rfl) i1 i6 (hpl val As (hvalp v val i1) (hvalT v val i1) e0 i3);exact⟨val,As,f1,fun s hs=>(i2 s (by omega)).trans (if_neg (by omega)),e0,by rw[<-hn];exact i4,i5,f3,fun q hq s h1 h2 h3=>by
      by_cases e:s=t
      ·rw[e,e0];exact hps q hq (by omega)
      ·exact i7 q hq s (by omega) (by omega) h3,fun q hq s h1 h2 h3=>by
      by_cases e:s=t
      ·rw[e,e0];exact hfr q hq (by omega)
      ·exact i8 q hq s (by omega) (by omega) h3⟩
   have calm:∀(v:Value)(ps':List Pend),p.act=false->(∀q∈ps,q∈ps')->(∀q∈ps',t<=q.hi->Ag P ca rd q A)->goD P nt ops ca rd fr l t (D v T) A hs ps'=some (Tf,Af)->
     (∀(val:Nat->Value)(As:Nat->AH),val p.j=v->TLr ops val (fun k=>k∉(p::l).map Pl.j) T0 T->(∀s,s<t->As s=As0 s)->As t=A->(∀q∈ps',∀s,t<=s->s<=t+vH (p::l)->s<=q.hi->Ag P ca rd q (As s))->PlF P nt ops ca rd T0 val As (t+vH (p::l)) p t (fun k=>k∉(p::l).map Pl.j))->GoR P nt ops ca rd T0 fr (p::l) t A ps val0 As0 Tf Af:=by
    intro v ps' hact hsub k1 hg hpl;obtain⟨val,As,i1,i2,i3,i4,i5,i6,i7,i8⟩:=ih t (D v T) A hs ps' _ As0 Tf Af hnd.2 hop' (hT' v) hhs k1 hfr hg;have hn:t+vH l=t+vH (p::l):=by unfold vH;rw[List.filter_cons,hact];simp
    rw[hn]at i4 i7 i8;obtain⟨f1,f3⟩:=fin v val As 0 (by rw[hact];rfl) i1 i6 (hpl val As (hvalp v val i1) (hvalT v val i1) i2 i3 i7);exact⟨val,As,f1,i2,i3,i4,i5,f3,fun q hq=>i7 q (hsub q hq),i8⟩
   cases w with
   |false=>
    dsimp only at h;cases hact:p.act with
    |true=>
     rw[hact]at h;exact act undef A hact (fun q hq h1=>hps q hq (by omega)) (fun q hq h1=>hfr q hq (by omega)) h fun val As h1 h2 h3 h4=>
      ⟨T,false,h2,hw,⟨D,hD⟩,fun _=>⟨h1,fun _=>h4.trans h3.symm⟩,(fun e=>by cases e)⟩
    |false=>
     rw[hact]at h;exact calm undef ps hact (fun _ h=>h) hps h fun val As h1 h2 h3 h4 h5=>
      ⟨T,false,h2,hw,⟨D,hD⟩,fun _=>⟨h1,fun e=>by rw[hact]at e;cases e⟩,(fun e=>by cases e)⟩
   |true=>
    dsimp only at h;obtain⟨K,hK,h⟩:=Oc h (by intro e;cases e);split at h
    ·cases h
    ·rename_i v A' hk
     cases hact:p.act with
     |true=>
      rw[hact]at h;dsimp only at h;split at h
      ·rename_i hb
       simp only[Bool.and_eq_true,List.all_eq_true,Bool.or_eq_true,Nat.blt_eq]at hb;exact act v A' hact (fun q hq h1=>(hb.1 q hq).elim (fun h2=>by omega) AHy) (fun q hq h1=>(hb.2 q hq).elim (fun h2=>by omega) AGl) h fun val As h1 h2 h3 h4=>
        ⟨T,true,h2,hw,⟨D,hD⟩,(fun e=>by cases e),fun _=>⟨K,hK,fun _=>by rw[h1,h3,h4];exact hk,fun e=>by rw[hact]at e;cases e⟩⟩
      ·cases h
     |false=>
      rw[hact]at h;dsimp only at h;split at h
      ·rename_i hb
       simp only[List.all_eq_true]at hb;have hnew:Ag P ca rd ⟨p.o,ABn (AB9 p.o.op.operands.toList) T,v,p.hi⟩ A:=fun K' hK'=>by
        rw[hK]at hK';cases hK';exact⟨A',hk⟩
       refine calm v _ hact (fun q hq=>List.mem_cons_of_mem _ hq) (fun q hq h1=>?_) h fun val As h1 h2 h3 h4 h5=>
        ⟨T,true,h2,hw,⟨D,hD⟩,(fun e=>by cases e),fun _=>⟨K,hK,(fun e=>by rw[hact]at e;cases e),fun _ r r1 r2 r3=>?_⟩⟩
       ·rcases List.mem_cons.1 hq with rfl|hq
        ·exact hnew
        ·exact hps q hq h1
       ·rw[h1]
        by_cases hr:r<t
        ·rw[h3 r hr]
         have:=hb _ (by rw[hhs];exact AMX As0 r1 hr);exact AHy this K hK
        ·exact h5 _ List.mem_cons_self r (by omega) r3 r2 K hK
      ·cases h
end
end
section
section
variable {P:Program}{nt:Nat}{ops:List Oper}{ca:vW}{rd:tZ}
theorem AK4{T:TP}{x:Nat}(hx:x<65535){v:Value}:∀{l:List Nat},yA (xR 16 x) (ABn l T)=.mk v->x∈l/\yA (xR 16 x) T=.mk v:=by
 intro l
 induction l with
 |nil=>intro h;rw[ABn,AAM]at h;cases h
 |cons y l ih=>
  intro h;unfold ABn at h;split at h
  ·rename_i hy
   rw[Nat.blt_eq]at hy;split at h
   ·rename_i u hu
    rw[yw]at h;split at h
    ·rename_i he
     have:=AAh hx hy he;subst this;cases h;exact⟨by simp,hu⟩
    ·obtain⟨h1,h2⟩:=ih h
     exact⟨by simp[h1],h2⟩
   ·obtain⟨h1,h2⟩:=ih h
    exact⟨by simp[h1],h2⟩
  ·obtain⟨h1,h2⟩:=ih h
   exact⟨by simp[h1],h2⟩
theorem ABo{j:Nat}{o:Oper}:(j,o)∈ACj ops↔ops[j]?=some o:=by
 unfold ACj;rw[List.mem_iff_getElem?];constructor
 ·rintro⟨i,hi⟩
  rw[List.getElem?_zip_eq_some]at hi;obtain⟨h1,h2⟩:=hi;rw[List.getElem?_range (by
   have:=(List.getElem?_eq_some_iff.1 h1).1;simpa using this)]at h1
  cases h1;exact h2
 ·intro h
  refine⟨j,?_⟩;rw[List.getElem?_zip_eq_some];exact⟨List.getElem?_range (List.getElem?_eq_some_iff.1 h).1,h⟩
theorem AFo:(ACj ops).map (·.1)=List.range ops.length:=by
 unfold ACj;rw[List.map_fst_zip (by simp)]
theorem ABc{j:Nat}{o:Oper}:(j,o)∈zH ops↔ops[j]?=some o/\yC o=false:=by
 unfold zH;rw[List.mem_filter,ABo];simp
theorem ABM{j:Nat}{o:Oper}:(j,o)∈ABs ops↔ops[j]?=some o/\yC o=true:=by
 unfold ABs;rw[List.mem_filter,ABo]
theorem ADC:((zH ops).map (·.1)).Pairwise (·<·):=by
 have:((zH ops).map (·.1)).Sublist (List.range ops.length):=by
  rw[<-AFo (ops:=ops)];exact(List.filter_sublist).map _
 exact List.pairwise_lt_range.sublist this
theorem AHz:((ABs ops).map (·.1)).Nodup:=by
 have:((ABs ops).map (·.1)).Sublist (List.range ops.length):=by
  rw[<-AFo (ops:=ops)];exact(List.filter_sublist).map _
 exact List.nodup_range.sublist this
theorem ABd:(yP ops).map Pl.j=(zH ops).map (·.1):=by
 unfold yP;simp
theorem ADn{p:Pl}(h:p∈yP ops):ops[p.j]?=some p.o/\yC p.o=false/\p.act=ACz p.o.op/\p.lo=((AAE (zH ops)).filter fun a=>(AAD (yH ops []) p.j).testBit a).length/\p.hi=ADh (yH ops []) p.j (AAE (zH ops)) 0:=by
 unfold yP at h;simp only[List.mem_map]at h;obtain⟨⟨j,o⟩,h1,rfl⟩:=h;obtain⟨h2,h3⟩:=ABc.1 h1;exact⟨h2,h3,rfl,rfl,rfl⟩
theorem AC4:((yP ops).filter (·.act)).map Pl.j=AAE (zH ops):=by
 unfold yP AAE;simp only[List.filter_map,List.map_map]
 rfl
structure OkDs(ops:List Oper):Prop where
 chain:AAX (yH ops []) (AAE (zH ops))=true
 after:∀j o,ops[j]?=some o->∀e∈o.after.toList,Region.binds .any e=true->e.on<j
 guard:∀(j:Nat)(o:Oper)(g:Nat)(w:Bool),ops[j]?=some o->o.guard=some (g,w)->(∃d,(ops[g]?).bind (·.dst)=some d)/\(AAD (yH ops []) j).testBit g=true
 uniq:AHx ops
 looks:∀(j:Nat)(o:Oper)(x:Tmp)(k:Nat)(q:Oper),ops[j]?=some o->o.dst=some x->ops[k]?=some q->x∈looks ops q->k=j\/(AAD (yH ops []) k).testBit j=true\/(AAD (yH ops []) j).testBit k=true
theorem AK5(h:okD ops=true):OkDs ops:=by
 unfold okD at h;simp only[Bool.and_eq_true,List.all_eq_true]at h;obtain⟨hc,hp⟩:=h;have key:∀j o,ops[j]?=some o->_:=fun j o ho=>hp (j,o) (ABo.2 ho);refine⟨hc,fun j o ho e he hb=>?_,fun j o g w ho hg=>?_,fun j k o o' x ho ho' hd hd'=>?_,fun j o x k q ho hd hq hx=>?_⟩
 ·have:=(key j o ho).1.1 e he
  rw[hb]at this;simpa[Nat.blt_eq]using this
 ·have:=(key j o ho).1.2
  rw[hg]at this;simp only[Bool.and_eq_true,Option.isSome_iff_exists]at this;exact this
 ·have:=(key j o ho).2
  rw[hd]at this;simp only[List.all_eq_true]at this;have h2:=this (k,o') (ABo.2 ho');simp only[Bool.or_eq_true,Nat.beq_eq,Bool.and_eq_true]at h2;rcases h2 with h2|h2
  ·exact h2.symm
  ·simp[hd']at h2
 ·have:=(key j o ho).2
  rw[hd]at this;simp only[List.all_eq_true]at this;have h2:=this (k,q) (ABo.2 hq);simp only[Bool.or_eq_true,Nat.beq_eq,Bool.and_eq_true,Bool.not_eq_true',List.contains_eq_mem,decide_eq_false_iff_not]at h2;rcases h2 with h2|⟨_,h2⟩
  ·exact .inl h2
  ·rcases h2 with(h2|h2)|h2
   ·exact absurd hx h2
   ·exact .inr (.inl h2)
   ·exact .inr (.inr h2)
theorem OkDs.low(h:OkDs ops){k i:Nat}{o:Oper}(ho:ops[k]?=some o)(hb:(AAD (yH ops []) k).testBit i=true):i<k:=by
 refine AAK (L:=fun i=>i<k) (fun j hj o' ho' e he hbd=>Nat.lt_trans (h.after j o' ho' e he hbd) hj) hb ?_;intro o' ho' e he hbd;exact h.after k o' ho' e he hbd
theorem AKB{j:Nat}{o:Oper}(ho:ops[j]?=some o)(ha:yC o=true)(i:Nat):(AAD (yH ops []) j).testBit i=false:=by
 cases hb:(AAD (yH ops []) j).testBit i with
 |false=>rfl
 |true=>
  refine(AAK (ops:=ops) (L:=fun _=>False) (fun _ h=>h.elim) hb ?_:False).elim;intro o' ho' e he;rw[ho]at ho';cases ho';unfold yC at ha;split at ha
  ·simp only[Bool.and_eq_true,List.isEmpty_iff]at ha
   rw[ha.1]at he;cases he
  ·cases ha
theorem AMa{o:Oper}(ha:yC o=true):(∃t,o.op=.alloc t)/\o.guard=none:=by
 unfold yC at ha;split at ha
 ·rename_i t ht
  simp only[Bool.and_eq_true,Option.isNone_iff_eq_none]at ha;exact⟨⟨t,ht⟩,ha.2⟩
 ·cases ha
section
variable {L:Nat->Bool}
def ACA(ops:List Oper)(L:Nat->Bool):Prop:=∀k,L k=true->Pre ops (fun i=>L i=true) k
theorem AFp(hL:ACA ops L):∀(az:List Nat)(a:Nat),AAX (yH ops []) (a::az)=true->L a=false->(a::az).filter L=[]:=by
 intro az
 induction az with
 |nil=>intro a _ h;simp[h]
 |cons b az ih=>
  intro a hc ha;simp only[AAX,Bool.and_eq_true]at hc;have hb:L b=false:=by
   cases hb:L b with
   |false=>rfl
   |true=>
    have:=AAK (L:=fun i=>L i=true) hL hc.1 (hL b hb);rw[ha]at this;cases this
  rw[List.filter_cons,ha];exact ih b hc.2 hb
theorem AK6(hL:ACA ops L){i:Nat}(hi:L i=false):∀(az:List Nat)(n:Nat),AAX (yH ops []) az=true->(az.filter L).length+n<=ADh (yH ops []) i az n:=by
 intro az
 induction az with
 |nil=>intro n _;simp[ADh]
 |cons a az ih=>
  intro n hc;unfold ADh;split
  ·rename_i hb
   have ha:L a=false:=by
    cases ha:L a with
    |false=>rfl
    |true=>
     have:=AAK (L:=fun i=>L i=true) hL hb (hL a ha);rw[hi]at this;cases this
   rw[AFp hL az a hc ha];simp
  ·have hc':AAX (yH ops []) az=true:=by
    cases az with
    |nil=>rfl
    |cons b az=>simp only[AAX,Bool.and_eq_true]at hc;exact hc.2
   have:=ih (n+1) hc';rw[List.filter_cons];split
   ·simp only[List.length_cons];omega
   ·omega
theorem AOk{i:Nat}(hL:ACA ops L)(hi:Pre ops (fun k=>L k=true) i)(az:List Nat):(az.filter fun a=>(AAD (yH ops []) i).testBit a).length<=(az.filter L).length:=by
 rw[<-List.countP_eq_length_filter,<-List.countP_eq_length_filter];exact List.countP_mono_left fun a _ h=>AAK (L:=fun i=>L i=true) hL h hi
theorem AK7(hL:ACA ops L):∀(l1:List Nat)(a:Nat)(l2:List Nat),AAX (yH ops []) (l1++a::l2)=true->Pre ops (fun k=>L k=true) a->l1.filter L=l1:=by
 intro l1
 induction l1 with
 |nil=>intro a l2 _ _;rfl
 |cons b l1 ih=>
  intro a l2 hc ha;cases l1 with
  |nil=>
   simp only[List.cons_append,List.nil_append,AAX,Bool.and_eq_true]at hc;have:=AAK (L:=fun i=>L i=true) hL hc.1 ha;simp[this]
  |cons c l1=>
   simp only[List.cons_append,AAX,Bool.and_eq_true]at hc;have h1:=ih a l2 hc.2 ha;have hcL:L c=true:=by
    have:=List.filter_eq_self.1 h1 c (by simp);exact this
   have:=AAK (L:=fun i=>L i=true) hL hc.1 (hL c hcL);rw[List.filter_cons,this,if_pos rfl,h1]
theorem AKC:∀(l1 l2:List Nat),AAX (yH ops []) (l1++l2)=true->AAX (yH ops []) l2=true:=by
 intro l1
 induction l1 with
 |nil=>intro l2 h;exact h
 |cons b l1 ih=>
  intro l2 h;refine ih l2 ?_;cases hz:l1++l2 with
  |nil=>rfl
  |cons c l=>
   rw[List.cons_append,hz]at h;simp only[AAX,Bool.and_eq_true]at h;exact h.2
end
theorem AK8{T0:TP}(hU:AHx ops){ms az:List Nat}:∀(l:List (Nat×Oper))(T:TP)(A:AH)(val0:Nat->Value)(S:Nat->Prop)(T':TP)(A':AH)(fs:List Fresh),(l.map (·.1)).Nodup->(∀p∈l,ops[p.1]?=some p.2/\¬S p.1)->TLr ops val0 S T0 T->AHc P nt ms az l T A=some (T',A',fs)->
  ∃(val:Nat->Value)(bid:Nat->Nat),(∀j,j∉l.map (·.1)->val j=val0 j)/\TLr ops val (fun k=>S k\/k∈l.map (·.1)) T0 T'/\A.next<=A'.next/\(∀b x,kE A'.t b=some x->b<A.next->kE A.t b=some x)/\
   (∀p∈l,∃t z,p.2.op=.alloc t/\(P.info? t).bind (·.zero)=some z/\(∃D,AAI nt p.2.dst=.mk D)/\val p.1=.pointer (some ⟨bid p.1,0,none⟩)/\A.next<=bid p.1/\bid p.1<A'.next/\(⟨bid p.1,t,z.cells.toList,ADh ms p.1 az 0⟩:Fresh)∈fs)/\
   (∀p∈l,∀q∈l,bid p.1=bid q.1->p.1=q.1):=by
 intro l
 induction l with
 |nil=>
  intro T A val0 S T' A' fs _ _ hT h;simp only[AHc]at h;cases h;exact⟨val0,fun _=>0,fun _ _=>rfl,⟨fun j o x h1 h2=>hT.out j o x h1 (h2.resolve_right (by simp)),fun x hx h1=>hT.old x hx fun j o h2 h3=>h1 j o h2 (.inl h3)⟩,Nat.le_refl _,fun _ _ h _=>h,by simp,by simp⟩
 |cons p l ih=>
  obtain⟨j,o⟩:=p;intro T A val0 S T' A' fs hnd hop hT h;simp only[List.map_cons,List.nodup_cons]at hnd;obtain⟨ho,hS⟩:=hop (j,o) (by simp);dsimp only at ho hS hnd;simp only[AHc]at h;split at h
  ·rename_i t ht
   split at h
   ·rename_i z hz
    obtain⟨D,hD,h⟩:=Oc h (by intro e;cases e);split at h
    ·rename_i T1 A1 fs1 h1
     cases h;have hT1:TLr ops (fun k=>if k=j then .pointer (some ⟨A.next,0,none⟩)else val0 k) (fun k=>S k\/k=j) T0 (D (.pointer (some ⟨A.next,0,none⟩)) T):=
      hT.put hU ho hD _ (if_pos rfl) (fun k hk _=>if_neg hk) fun k=>Iff.rfl
     have hop2:∀p∈l,ops[p.1]?=some p.2/\¬(S p.1\/p.1=j):=fun p hp=>⟨(hop p (by simp[hp])).1,fun h=>h.elim (hop p (by simp[hp])).2 fun e=>hnd.1 (e▸List.mem_map_of_mem (f:=(·.1)) hp)⟩;obtain⟨val,bid,i1,i2,i3,i4,i5,i6⟩:=ih _ _ _ _ _ _ _ hnd.2 hop2 hT1 h1;have hnx:(A.push (.cells z.cells.toList t 0)).next=A.next+1:=by cases A;rfl
     rw[hnx]at i3 i4 i5;have hne:∀p∈l,p.1≠j:=fun p hp e=>hnd.1 (e▸List.mem_map_of_mem (f:=(·.1)) hp);refine⟨val,fun k=>if k=j then A.next else bid k,fun k hk=>?_,⟨fun k o' x h2 h3=>i2.out k o' x h2 ?_,fun x hx h2=>i2.old x hx fun k o' h3 h4=>h2 k o' h3 ?_⟩,by omega,fun b x hb hlt=>?_,fun p hp=>?_,fun p hp q hq he=>?_⟩
     ·simp only[List.map_cons,List.mem_cons,not_or]at hk
      rw[i1 k hk.2,if_neg hk.1]
     ·simp only[List.map_cons,List.mem_cons]at h3
      rcases h3 with h3|h3|h3
      ·exact .inl (.inl h3)
      ·exact .inl (.inr h3)
      ·exact .inr h3
     ·simp only[List.map_cons,List.mem_cons]
      rcases h4 with(h4|h4)|h4
      ·exact .inl h4
      ·exact .inr (.inl h4)
      ·exact .inr (.inr h4)
     ·have:=i4 b x hb (by omega)
      cases A with|mk n tr=>
      rcases AAT this with⟨e,_⟩|⟨_,h2⟩
      ·dsimp only at hlt;omega
      ·exact h2
     ·rcases List.mem_cons.1 hp with rfl|hp
      ·refine⟨t,z,ht,hz,⟨D,hD⟩,?_,?_,?_,?_⟩
       ·dsimp only;rw[i1 j hnd.1,if_pos rfl,if_pos rfl]
       ·dsimp only;rw[if_pos rfl];exact Nat.le_refl _
       ·dsimp only;rw[if_pos rfl];omega
       ·dsimp only;rw[if_pos rfl];simp
      ·obtain⟨t',z',k1,k2,k3,k4,k5,k6,k7⟩:=i5 p hp
       refine⟨t',z',k1,k2,k3,?_,?_,?_,?_⟩
       ·dsimp only;rw[if_neg (hne p hp)];exact k4
       ·dsimp only;rw[if_neg (hne p hp)];omega
       ·dsimp only;rw[if_neg (hne p hp)];exact k6
       ·dsimp only;rw[if_neg (hne p hp)];exact List.mem_cons_of_mem _ k7
     ·dsimp only at he
      rcases List.mem_cons.1 hp with rfl|hp<;>rcases List.mem_cons.1 hq with rfl|hq
      ·rfl
      ·rw[if_pos rfl,if_neg (hne q hq)]at he
       obtain⟨_,_,_,_,_,_,k5,_⟩:=i5 q hq;omega
      ·rw[if_pos rfl,if_neg (hne p hp)]at he
       obtain⟨_,_,_,_,_,_,k5,_⟩:=i5 p hp;omega
      ·rw[if_neg (hne p hp),if_neg (hne q hq)]at he
       exact i6 p hp q hq he
    ·cases h
   ·cases h
  ·cases h
end
end
section
section
variable {P:Program}{w0:W0}{nt:Nat}{ca:vW}{rd:tZ}
structure Reg(P:Program)(nt:Nat)(ops:List Oper)(ca:vW)(rd:tZ)(T0:TP)(A0:AH)(Tf:TP)(Af:AH)(val:Nat->Value)(bid:Nat->Nat)(As:Nat->AH):Prop where
 ok:OkDs ops
 fin:TLr ops val (fun _=>True) T0 Tf
 last:As (vH (yP ops))=Af
 pl:∀l1 p l2,yP ops=l1++p::l2->PlF P nt ops ca rd T0 val As (vH (yP ops)) p (vH l1) (fun k=>k∉(p::l2).map Pl.j)
 al:∀j o,ops[j]?=some o->yC o=true->∃t z,o.op=.alloc t/\(P.info? t).bind (·.zero)=some z/\(∃D,AAI nt o.dst=.mk D)/\val j=.pointer (some ⟨bid j,0,none⟩)/\A0.next<=bid j/\bid j<(As 0).next/\
  ∀s,s<=vH (yP ops)->s<=ADh (yH ops []) j (AAE (zH ops)) 0->kE (As s).t (bid j)=some (.cells z.cells.toList t 0)
 inj:∀j k o o',ops[j]?=some o->ops[k]?=some o'->yC o=true->yC o'=true->bid j=bid k->j=k
 next:A0.next<=(As 0).next
 old:∀b x,kE (As 0).t b=some x->b<A0.next->kE A0.t b=some x
theorem AK9{ops:List Oper}{L:vW->tZ->TP->AH->Option (TP×AH)}(h:AJl P nt ops=.mk L){T0:TP}{A0:AH}{Tf:TP}{Af:AH}(hL:L ca rd T0 A0=some (Tf,Af)):∃val bid As,Reg P nt ops ca rd T0 A0 Tf Af val bid As:=by
 unfold AJl at h;split at h
 ·cases h
 ·rename_i hok
  cases h;have hO:=AK5 hok;dsimp only at hL;split at hL
  ·rename_i T1 A1 fs h1
   split at hL
   ·rename_i hst
    obtain⟨val1,bid,i1,i2,i3,i4,i5,i6⟩:=AK8 hO.uniq (ABs ops) T0 A0 (fun _=>undef) (fun _=>False) T1 A1 fs AHz (fun p hp=>⟨(ABM.1 hp).1,id⟩) ⟨fun _ _ _ _ h=>h.elim,fun _ _ _=>rfl⟩ h1;have hT1:TLr ops val1 (fun k=>k∉(yP ops).map Pl.j) T0 T1:=by
     refine⟨fun j o x hj hS hd hx=>i2.out j o x hj ?_ hd hx,fun x hx hn=>i2.old x hx fun j o hj hS=>hn j o hj ?_⟩
     ·refine .inr ?_
      rw[ABd]at hS;cases ha:yC o with
      |true=>exact List.mem_map_of_mem (f:=(·.1)) (ABM.2 ⟨hj,ha⟩)
      |false=>exact absurd (List.mem_map_of_mem (f:=(·.1)) (ABc.2 ⟨hj,ha⟩)) hS
     ·rw[ABd]
      intro hc;obtain⟨⟨k,q⟩,h2,h3⟩:=List.mem_map.1 (hS.resolve_left id);obtain⟨⟨k',q'⟩,h4,h5⟩:=List.mem_map.1 hc;dsimp only at h3 h5;subst h3 h5;obtain⟨h6,h7⟩:=ABM.1 h2;obtain⟨h8,h9⟩:=ABc.1 h4;rw[h6]at h8;cases h8;rw[h7]at h9;cases h9
    have hnd:((yP ops).map Pl.j).Nodup:=by rw[ABd];exact ADC.imp Nat.ne_of_lt
    have hfr:∀q∈fs,0<=q.hi->StF A1 q:=fun q hq _=>AGl (List.all_eq_true.1 hst q hq);obtain⟨val,As,j1,_,j3,j4,j5,j6,_,j8⟩:=AMZ hO.uniq (yP ops) 0 T1 A1 [] [] val1 (fun _=>A1) Tf Af hnd (fun p hp=>(ADn hp).1) hT1 rfl (by simp) hfr hL;simp only[Nat.zero_add]at j4 j6 j8;refine⟨val,bid,As,hO,j5,j4,j6,fun j o hj ha=>?_,fun j k o o' hj hk ha hb he=>i6 _ (ABM.2 ⟨hj,ha⟩) _ (ABM.2 ⟨hk,hb⟩) he,by rw[j3];exact i3,by rw[j3];exact i4⟩;obtain⟨t,z,k1,k2,k3,k4,k5,k6,k7⟩:=i5 (j,o) (ABM.2 ⟨hj,ha⟩);refine⟨t,z,k1,k2,k3,?_,k5,by rw[j3];exact k6,fun s hs1 hs2=>j8 _ k7 s (Nat.zero_le _) hs1 hs2⟩;rw[j1 j ?_,k4];rw[ABd];intro hc;obtain⟨⟨k',q'⟩,h4,h5⟩:=List.mem_map.1 hc;dsimp only at h5;subst h5;obtain⟨h8,h9⟩:=ABc.1 h4;rw[hj]at h8;cases h8;rw[ha]at h9;cases h9
   ·cases hL
  ·cases hL
def Hol(w0:W0)(ops:List Oper)(bid:Nat->Nat)(L:Nat->Bool):W0:=⟨w0.w,fun b=>w0.H b\/∃j o,ops[j]?=some o/\yC o=true/\L j=false/\b=bid j⟩
def cnt(ops:List Oper)(L:Nat->Bool):Nat:=((AAE (zH ops)).filter L).length
structure Inv(P:Program)(w0:W0)(nt:Nat)(ops:List Oper)(T0:TP)(a0:Act)(E0:En)(val:Nat->Value)(bid:Nat->Nat)(As:Nat->AH)(L:Nat->Bool)(E:En)(a:Act)(w:World):Prop where
 size:nt<=a.tmps.size
 defers:a.defers=a0.defers
 le:En.le E0 E
 heap:HR (Hol w0 ops bid L) E (As (cnt ops L)) w
 out:∀j o x,ops[j]?=some o->L j=true->o.dst=some x->∃v',a.tmps[x]?=some v'/\VR E (val j) v'
 old:∀x v,x<65535->(∀j o,ops[j]?=some o->L j=true->o.dst≠some x)->yA (xR 16 x) T0=.mk v->∃v',a.tmps[x]?=some v'/\VR E v v'
variable {ops:List Oper}{T0:TP}{a0:Act}{E0 E:En}{val:Nat->Value}{bid:Nat->Nat}{As:Nat->AH}{L:Nat->Bool}{a:Act}{w:World}
theorem Inv.put(h:Inv P w0 nt ops T0 a0 E0 val bid As L E a w)(hU:AHx ops){i:Nat}{o:Oper}(ho:ops[i]?=some o)(hi:L i=false){D:Value->TP->TP}(hD:AAI nt o.dst=.mk D){E':En}(hE:En.le E E'){v':Value}{w':World}(hv:VR E' (val i) v')
  {L':Nat->Bool} (hL':∀k,L' k=(L k||k==i)) (hh:HR (Hol w0 ops bid L') E' (As (cnt ops L')) w'):Inv P w0 nt ops T0 a0 E0 val bid As L' E' (a.put o.dst v') w':=by
 cases hd:o.dst with
 |none=>
  refine⟨h.size,h.defers,h.le.trans hE,hh,fun j q x hj hl hq=>?_,fun x v hx hn hg=>?_⟩
  ·rw[hL']at hl
   simp only[Bool.or_eq_true,beq_iff_eq]at hl;rcases hl with hl|rfl
   ·obtain⟨u,h1,h2⟩:=h.out j q x hj hl hq
    exact⟨u,h1,h2.mono hE⟩
   ·rw[ho]at hj;cases hj;rw[hd]at hq;cases hq
  ·obtain⟨u,h1,h2⟩:=h.old x v hx (fun j q hj hl=>hn j q hj (by rw[hL',hl];rfl)) hg
   exact⟨u,h1,h2.mono hE⟩
 |some d=>
  rw[hd]at hD;simp only[AAI]at hD;split at hD
  ·rename_i hb
   simp only[Bool.and_eq_true,Nat.blt_eq]at hb;have hds:=Nat.lt_of_lt_of_le hb.1 h.size;have other:∀{x:Tmp}{u:Value},x≠d->a.tmps[x]?=some u->(a.put (some d) v').tmps[x]?=some u:=by
    intro x u hx hu;simp[Act.put,Array.getElem?_setIfInBounds,Ne.symm hx,hu]
   refine⟨by simpa[Act.put]using h.size,h.defers,h.le.trans hE,hh,fun j q x hj hl hq=>?_,fun x v hx hn hg=>?_⟩
   ·rw[hL']at hl
    simp only[Bool.or_eq_true,beq_iff_eq]at hl;by_cases e:j=i
    ·subst e
     rw[ho]at hj;cases hj;rw[hd]at hq;cases hq;exact⟨v',by simp[Act.put,hds],hv⟩
    ·obtain⟨u,h1,h2⟩:=h.out j q x hj (hl.resolve_right e) hq
     exact⟨u,other (fun ex=>e (hU j i q o d hj ho (ex▸hq) hd)) h1,h2.mono hE⟩
   ·obtain⟨u,h1,h2⟩:=h.old x v hx (fun j q hj hl=>hn j q hj (by rw[hL',hl];rfl)) hg
    exact⟨u,other (fun ex=>hn i o ho (by rw[hL'];simp) (ex▸hd)) h1,h2.mono hE⟩
  ·cases hD
theorem HR.late{H H':Nat->Prop}{wr:World}{E:En}{A:AH}{w:World}(h:HR ⟨wr,H⟩ E A w){b:Nat}(hb:H b)(hH:∀c,H' c->H c/\c≠b){o:AO}(hA:kE A.t b=some o){o':Obj}{g:Nat×Nat×Nat}
  (ho:OR (E.put b (w.heap.size,g)) g (w.alloc o') w.heap.size o):HR ⟨wr,H'⟩ (E.put b (w.heap.size,g)) A (w.alloc o'):=by
 obtain⟨hlt,hEb⟩:=h.hole b hb;have hp:En.le E (E.put b (w.heap.size,g)):=En.le_put hEb;have old:∀{c x},c≠b->E.put b (w.heap.size,g) c=some x->E c=some x:=fun hc hx=>by unfold En.put at hx;rwa [if_neg hc]at hx
 refine⟨h.ext.alloc h.ext.size o',?_,?_,?_,?_,?_⟩
 ·intro c x hc
  by_cases e:c=b
  ·rw[e];exact hlt
  ·exact h.len _ _ (old e hc)
 ·intro c c' g' hc
  by_cases e:c=b
  ·subst e;rw[En.put_same]at hc;cases hc;simp;exact h.ext.size
  ·have:wr.heap.size<=c'/\c'<w.heap.size:=h.base _ _ _ (old e hc)
   simp;omega
 ·intro c x c' g' hc hE
  by_cases e:c=b
  ·subst e
   rw[hA]at hc;cases hc;rw[En.put_same]at hE;cases hE;exact ho
  ·have hE:=old e hE
   refine((h.obj _ _ _ _ hc hE).mono hp).same fun _=>?_;have:=(h.base _ _ _ hE).2;simp only[World.alloc,Array.getElem?_push];rw[if_neg (by omega)]
 ·intro c d x y b' g1 g2 hc hd hx hy h1 h2
  by_cases e1:c=b
  ·by_cases e2:d=b
   ·rw[e1,e2]
   ·subst e1;rw[En.put_same]at h1;cases h1;have:=(h.base _ _ _ (old e2 h2)).2;omega
  ·by_cases e2:d=b
   ·subst e2;rw[En.put_same]at h2;cases h2;have:=(h.base _ _ _ (old e1 h1)).2;omega
   ·exact h.inj _ _ _ _ _ _ _ hc hd hx hy (old e1 h1) (old e2 h2)
 ·intro c hc
  obtain⟨h1,h2⟩:=hH c hc;obtain⟨h3,h4⟩:=h.hole c h1;refine⟨h3,?_⟩;unfold En.put;rw[if_neg h2];exact h4
theorem HR.less{H H':Nat->Prop}{wr:World}{E:En}{A:AH}{w:World}(h:HR ⟨wr,H⟩ E A w)(hH:∀c,H' c->H c):HR ⟨wr,H'⟩ E A w:=⟨h.ext,h.len,h.base,h.obj,h.inj,fun b hb=>h.hole b (hH b hb)⟩
theorem ALA{ρ:Operand->Value}{w:World}{t:TypeId}{z:Value}{dst:Option Tmp}{ty:TypeId}{pos:String}{af:Array Edge}{gd:Option (Nat×Bool)}(hz:(P.info? t).bind (·.zero)=some z):
  (execOp ρ ⟨dst,.alloc t,ty,pos,af,gd⟩).run P w=.ok (.value (.pointer (some ⟨w.heap.size,0,none⟩))) (w.alloc (.cells z.cells t (0,0))):=by
 cases hi:P.info? t with
 |none=>rw[hi]at hz;cases hz
 |some inf=>
  rw[hi]at hz;have hz':inf.zero=some z:=hz;have hzr:(zeroValue t).run P w=.ok z w:=by
   unfold zeroValue typeInfo;rw[Sem.run_bind,Sem.run_bind];show Result.andThen (Result.andThen (Go.program.run P w) _) _=_;simp only[Go.program,Sem.run,Result.andThen];rw[hi];show(match inf.zero with|some v=>(Pure.pure v:Sem Value)|none=>unsupported _).run P w=_;rw[hz']
   rfl
  show(do let z<-Instr.alloc t true (.tuple #[]);Pure.pure (Next.value z):Sem Next).run P w=_;unfold Instr.alloc;exact I9 ((I9 hzr).trans rfl)
theorem Inv.reads(h:Inv P w0 nt ops T0 a0 E0 val bid As L E a w)(hO:OkDs ops)(hL:ACA ops L){i:Nat}{o:Oper}(ho:ops[i]?=some o)(hi:L i=false)(hp:Pre ops (fun k=>L k=true) i){S:Nat->Prop}(hS1:¬S i)(hS2:∀k q,ops[k]?=some q->k<i->S k)(hS3:∀k q,ops[k]?=some q->yC q=false->i<k->¬S k)
  {Tp:TP} (hT:TLr ops val S T0 Tp) {x:Nat} (hx:x<65535) (hxl:x∈looks ops o) {v:Value} (hv:yA (xR 16 x) Tp=.mk v):∃v',a.tmps[x]?=some v'/\VR E v v':=by
 by_cases hw:∃(k:Nat)(q:Oper),ops[k]?=some q/\q.dst=some x
 ·obtain⟨k,q,hk,hq⟩:=hw
  have only:∀(j:Nat)(o':Oper),ops[j]?=some o'->o'.dst=some x->j=k:=fun j o' hj hd=>hO.uniq j k o' q x hj hk hd hq;have fresh:¬S k->L k=false->∃v',a.tmps[x]?=some v'/\VR E v v':=by
   intro h1 h2;refine h.old x v hx (fun j o' hj hl hd=>?_) ?_
   ·rw[only j o' hj hd,h2]at hl;cases hl
   ·rw[<-hT.old x hx fun j o' hj hs hd=>h1 (only j o' hj hd▸hs)]
    exact hv
  rcases hO.looks k q x i o hk hq ho hxl with e|hb|hb
  ·subst e;exact fresh hS1 hi
  ·have hlt:=hO.low ho hb
   have hLk:L k=true:=AAK (L:=fun i=>L i=true) hL hb hp;have:=hT.out k q x hk (hS2 k q hk hlt) hq hx;rw[hv]at this;cases this;exact h.out k q x hk hLk hq
  ·have hlt:=hO.low hk hb
   have hna:yC q=false:=by
    cases ha:yC q with
    |false=>rfl
    |true=>rw[AKB hk ha]at hb;cases hb
   have hLk:L k=false:=by
    cases hk2:L k with
    |false=>rfl
    |true=>
     have:=AAK (L:=fun i=>L i=true) hL hb (hL k hk2);rw[hi]at this;cases this
   exact fresh (hS3 k q hk hna hlt) hLk
 ·have hn:∀(j:Nat)(o':Oper),ops[j]?=some o'->o'.dst≠some x:=fun j o' hj hd=>hw ⟨j,o',hj,hd⟩
  refine h.old x v hx (fun j o' hj _=>hn j o' hj) ?_;rw[<-hT.old x hx fun j o' hj _=>hn j o' hj];exact hv
end
end
section
section
variable {P:Program}{w0:W0}{nt:Nat}{ca:vW}{rd:tZ}
theorem ALB{α:Type}{p q:α->Bool}:∀{l:List α},(∀x∈l,q x=true->p x=true)->(∃x∈l,p x=true/\q x=false)->l.countP q<l.countP p:=by
 intro l
 induction l with
 |nil=>rintro _⟨x,hx,_⟩;cases hx
 |cons y l ih=>
  rintro h⟨x,hx,h1,h2⟩;have hm:l.countP q<=l.countP p:=List.countP_mono_left fun z hz=>h z (by simp[hz]);rw[List.countP_cons,List.countP_cons];rcases List.mem_cons.1 hx with rfl|hx
  ·rw[h1,h2];simp;omega
  ·have:=ih (fun z hz=>h z (by simp[hz])) ⟨x,hx,h1,h2⟩
   have hy:=h y (by simp);cases hq:q y with
   |false=>cases p y<;>simp<;>omega
   |true=>rw[hy hq];simp;omega
variable {opsA:Array Oper}{T0:TP}{A0:AH}{Tf:TP}{Af:AH}{a0:Act}{E0:En}{val:Nat->Value}{bid:Nat->Nat}{As:Nat->AH}
def Ls(listed:Array Bool):Nat->Bool:=fun i=>listed.getD i false
theorem AOl{listed:Array Bool}{i:Nat}(hi:i<listed.size)(k:Nat):Ls (listed.setIfInBounds i true) k=(Ls listed k||k==i):=by
 unfold Ls;simp only[Array.getD_eq_getD_getElem?,Array.getElem?_setIfInBounds];by_cases e:i=k
 ·subst e;simp[hi]
 ·simp[e]
  exact fun h=>absurd h.symm e
theorem ALC{ops:List Oper}{L:Nat->Bool}:cnt ops L<=vH (yP ops):=by
 unfold cnt vH;rw[<-AC4,List.filter_map,List.length_map];exact List.length_filter_le _ _
theorem AN1{ops:List Oper}{L:Nat->Bool}(h:∀i,i<ops.length->L i=true):cnt ops L=vH (yP ops):=by
 unfold cnt vH;rw[<-AC4,List.filter_eq_self.2 fun a ha=>?_,List.length_map];obtain⟨p,h1,rfl⟩:=List.mem_map.1 ha;have:=(ADn (List.mem_filter.1 h1).1).1;exact h _ (List.getElem?_eq_some_iff.1 this).1
theorem AH0{ops:List Oper}{L L':Nat->Bool}{i:Nat}(hL:∀k,L' k=(L k||k==i))(hi:i∉AAE (zH ops)):cnt ops L'=cnt ops L:=by
 unfold cnt
 congr 1
 refine List.filter_congr fun a ha=>?_;rw[hL];have:(a==i)=false:=by simp;exact fun e=>hi (e▸ha)
 rw[this,Bool.or_false]
theorem AN2{ops:List Oper}(hO:OkDs ops){L L':Nat->Bool}{i:Nat}(hL:∀k,L' k=(L k||k==i))(hc:ACA ops L)(hi:L i=false)(hp:Pre ops (fun k=>L k=true) i){l1 l2:List Nat}(hl:AAE (zH ops)=l1++i::l2):
  cnt ops L=l1.length/\cnt ops L'=l1.length+1:=by
 have hch:=hO.chain;rw[hl]at hch;have h1:=AK7 hc l1 i l2 hch hp;have h2:=AFp hc l2 i (AKC l1 (i::l2) hch) hi;have h3:l2.filter L=[]:=by rw[List.filter_cons,hi]at h2;simpa using h2
 have hs:(AAE (zH ops)).Pairwise (·<·):=by
  unfold AAE;exact ADC.sublist ((List.filter_sublist).map _)
 rw[hl]at hs;have hn2:∀a∈l2,(a==i)=false:=fun a ha=>by
  have:=(List.pairwise_cons.1 (List.pairwise_append.1 hs).2.1).1 a ha;simp;omega
 have hn1:∀a∈l1,(a==i)=false:=fun a ha=>by
  have:=(List.pairwise_append.1 hs).2.2 a ha i (by simp);simp;omega
 unfold cnt;rw[hl,List.filter_append,List.filter_append,h1,h2];refine⟨by simp,?_⟩;have e1:l1.filter L'=l1:=by
  rw[List.filter_congr (q:=L) fun a ha=>by rw[hL,hn1 a ha,Bool.or_false]];exact h1
 have e2:(i::l2).filter L'=[i]:=by
  rw[List.filter_cons,hL i];simp only[beq_self_eq_true,Bool.or_true,if_true];rw[List.filter_congr (q:=L) fun a ha=>by rw[hL,hn2 a ha,Bool.or_false],h3]
 rw[e1,e2];simp
theorem AMb(hP:OkP P)(hca:∀w,CaS P w ca)(hrd:∀w,RdS P w rd)(R:Reg P nt opsA.toList ca rd T0 A0 Tf Af val bid As)(hH0:∀c,w0.H c->c<A0.next){L L':Nat->Bool}{i:Nat}(hL':∀k,L' k=(L k||k==i)){E:En}{a:Act}{w:World}
  (hc:ACA opsA.toList L) (hI:Inv P w0 nt opsA.toList T0 a0 E0 val bid As L E a w) {o:Oper} (ho:opsA[i]?=some o) (hi:L i=false) (hp:Pre opsA.toList (fun k=>L k=true) i) {ro:Option Nat} {n:Nat} {Q:Exit->Act->World->Prop} {K:Act->World->Prop}
  (hK:∀(E':En)(a':Act)(w':World),Inv P w0 nt opsA.toList T0 a0 E0 val bid As L' E' a' w'->K a' w'):wpOpIn (Fw ro) n P opsA Q i K a w:=by
 have hO:=R.ok;have hol:opsA.toList[i]?=some o:=by rw[Array.getElem?_toList];exact ho
 unfold wpOpIn;simp only[ho];cases ha:yC o with
 |true=>
  obtain⟨t,z,h1,h2,⟨D,hD⟩,h4,h5,h6,h7⟩:=R.al i o hol ha;have hg:=(AMa ha).2;have hw:Region.wanted o (yielded opsA a.tmps)=true:=by unfold Region.wanted;rw[hg]
  rw[if_pos hw];refine⟨fun _ _=>trivial,?_⟩;rw[Oper.semAt_eq _ _ _ (fun c e=>by rw[h1]at e;cases e)];have hrun:(execOp a.eval o).run P w=.ok (.value (.pointer (some ⟨w.heap.size,0,none⟩))) (w.alloc (.cells z.cells t (0,0))):=by
   obtain⟨dst,op,ty,pos,af,gd⟩:=o;dsimp only at h1;subst h1;exact ALA h2
  rw[hrun];have hcnt:cnt opsA.toList L'=cnt opsA.toList L:=AH0 hL' fun hm=>by
   unfold AAE at hm;obtain⟨⟨j,q⟩,k1,k2⟩:=List.mem_map.1 hm;dsimp only at k2;subst k2;obtain⟨k3,k4⟩:=ABc.1 (List.mem_filter.1 k1).1;rw[hol]at k3;cases k3;rw[ha]at k4;cases k4
  have hget:=h7 (cnt opsA.toList L) ALC (by have:=AK6 hc hi _ 0 hO.chain;simpa[cnt]using this);have hb:(Hol w0 opsA.toList bid L).H (bid i):=.inr ⟨i,o,hol,ha,hi,rfl⟩;have hEb:=(hI.heap.hole _ hb).2;have hz1:∃inf,P.info? t=some inf/\inf.zero=some z:=by
   cases hin:P.info? t with
   |none=>rw[hin]at h2;cases h2
   |some inf=>rw[hin]at h2;exact⟨inf,rfl,h2⟩
  obtain⟨inf,hz2,hz3⟩:=hz1;have hheap:HR (Hol w0 opsA.toList bid L') (E.put (bid i) (w.heap.size,0,0,z.cells.size)) (As (cnt opsA.toList L')) (w.alloc (.cells z.cells t (0,0))):=by
   rw[hcnt];refine HR.late (H:=(Hol w0 opsA.toList bid L).H) hI.heap hb (fun c hcH=>?_) hget (g:=(0,0,z.cells.size)) ?_
   ·rcases hcH with hcH|⟨j,q,k1,k2,k3,k4⟩
    ·exact⟨.inl hcH,fun e=>by have:=hH0 c hcH;omega⟩
    ·rw[hL']at k3
     simp only[Bool.or_eq_false_iff,beq_eq_false_iff_ne]at k3;exact⟨.inr ⟨j,q,k1,k2,k3.1,k4⟩,fun e=>k3.2 (R.inj j i q o k1 hol k2 ha (k4▸e))⟩
   ·exact⟨[],z.cells.toList,[],by rw[AA9];simp,rfl,(AAq (hP.zero _ _ _ hz2 hz3)).cells,rfl,by simp,fun _=>⟨rfl,rfl⟩⟩
  exact hK _ _ _ (hI.put hO.uniq hol hi hD (En.le_put hEb) (by rw[h4];exact .ptr (g:=(0,0,z.cells.size)) rfl rfl En.put_same) hL' hheap)
 |false=>
  obtain⟨p,hpm,hpj⟩:∃p∈yP opsA.toList,p.j=i:=by
   have:i∈(yP opsA.toList).map Pl.j:=by rw[ABd];exact List.mem_map_of_mem (f:=(·.1)) (ABc.2 ⟨hol,ha⟩)
   obtain⟨p,h1,h2⟩:=List.mem_map.1 this;exact⟨p,h1,h2⟩
  subst hpj;obtain⟨q1,q2,q3,q4,q5⟩:=ADn hpm;rw[hol]at q1;have q1:o=p.o:=Option.some.inj q1;subst q1;obtain⟨l1,l2,hl⟩:=List.append_of_mem hpm;obtain⟨Tp,wb,e1,e2,⟨D,e3⟩,e4,e5⟩:=(R.pl l1 p l2 hl).ex;have hsort:((yP opsA.toList).map Pl.j).Pairwise (·<·):=by rw[ABd];exact ADC
  rw[hl,List.map_append,List.map_cons]at hsort;have s1:∀k∈l2.map Pl.j,p.j<k:=(List.pairwise_cons.1 (List.pairwise_append.1 hsort).2.1).1;have s2:∀k∈l1.map Pl.j,k<p.j:=fun k hk=>(List.pairwise_append.1 hsort).2.2 k hk p.j (by simp);have hS1:¬(p.j∉(p::l2).map Pl.j):=by simp
  have hS2:∀k q,opsA.toList[k]?=some q->k<p.j->k∉(p::l2).map Pl.j:=by
   intro k q _ hk hm;rw[List.map_cons,List.mem_cons]at hm;rcases hm with hm|hm
   ·omega
   ·have:=s1 k hm;omega
  have hS3:∀k q,opsA.toList[k]?=some q->yC q=false->p.j<k->¬(k∉(p::l2).map Pl.j):=by
   intro k q hk hq hlt hm;have:k∈(yP opsA.toList).map Pl.j:=by rw[ABd];exact List.mem_map_of_mem (f:=(·.1)) (ABc.2 ⟨hk,hq⟩)
   rw[hl,List.map_append,List.mem_append]at this;rcases this with this|this
   ·have:=s2 k this;omega
   ·exact hm this
  have reads:∀{x:Nat},x<65535->x∈looks opsA.toList p.o->∀{v:Value},yA (xR 16 x) Tp=.mk v->∃v',a.tmps[x]?=some v'/\VR E v v':=fun hx hxl _ hv=>
   hI.reads hO hc hol hi hp hS1 hS2 hS3 e1 hx hxl hv
  have hwant:Region.wanted p.o (yielded opsA a.tmps)=wb:=by
   unfold AHD at e2;unfold Region.wanted;split at e2
   ·rename_i hg
    rw[hg];cases e2
    rfl
   ·rename_i g want hg
    rw[hg];dsimp only;split at e2
    ·rename_i d hd
     split at e2
     ·rename_i hd2
      rw[Nat.blt_eq]at hd2;have hdA:(opsA[g]?).bind (·.dst)=some d:=by rw[<-Array.getElem?_toList];exact hd
      have hlk:d∈looks opsA.toList p.o:=by
       unfold looks;rw[hg];dsimp only;rw[hd];simp
      have hy:∀{u:Value},a.tmps[d]?=some u->yielded opsA a.tmps g=(match u with|.bool b=>some b|_=>none):=by
       intro u hu;unfold yielded;rw[hdA];show(match a.tmps[d]? with|some (.bool b)=>some b|_=>none)=_;rw[hu];cases u<;>rfl
      split at e2
      ·rename_i b hb
       cases e2;obtain⟨u,h1,h2⟩:=reads hd2 hlk hb;cases h2;rw[hy h1]
       rfl
      ·rename_i c hb
       cases e2;obtain⟨u,h1,h2⟩:=reads hd2 hlk hb;cases h2;rw[hy h1]
       rfl
      ·cases e2
     ·cases e2
    ·cases e2
  have hstage:p.act=true->cnt opsA.toList L=vH l1/\cnt opsA.toList L'=vH l1+1:=by
   intro hact;have hla:AAE (zH opsA.toList)=(l1.filter (·.act)).map Pl.j++p.j::(l2.filter (·.act)).map Pl.j:=by
    rw[<-AC4,hl,List.filter_append,List.filter_cons,hact,if_pos rfl,List.map_append,List.map_cons]
   have:=AN2 hO hL' hc hi hp hla;unfold vH;simpa using this
  have hcalm:p.act=false->cnt opsA.toList L'=cnt opsA.toList L:=by
   intro hact;refine AH0 hL' fun hm=>?_;rw[<-AC4]at hm;obtain⟨p',k1,k2⟩:=List.mem_map.1 hm;obtain⟨k3,k4⟩:=List.mem_filter.1 k1;have k5:=(ADn k3);have k6:=k5.1;rw[k2,hol]at k6;have k6:=Option.some.inj k6;rw[k5.2.2.1,<-k6,<-q3,hact]at k4;cases k4
  have hless:∀{E':En}{A':AH}{w':World},HR (Hol w0 opsA.toList bid L) E' A' w'->HR (Hol w0 opsA.toList bid L') E' A' w':=by
   intro E' A' w' h;refine HR.less (H:=(Hol w0 opsA.toList bid L).H) h fun c hcH=>?_;rcases hcH with hcH|⟨j,q,k1,k2,k3,k4⟩
   ·exact .inl hcH
   ·rw[hL']at k3
    simp only[Bool.or_eq_false_iff]at k3;exact .inr ⟨j,q,k1,k2,k3.1,k4⟩
  rw[hwant];cases wb with
  |false=>
   rw[if_neg (by simp)];obtain⟨f1,f2⟩:=e4 rfl;refine⟨fun _ _=>trivial,hK _ _ _ (hI.put hO.uniq hol hi e3 En.le_rfl (by rw[f1];exact .tuple .nil) hL' (hless ?_))⟩;cases hact:p.act with
   |true=>
    obtain⟨g1,g2⟩:=hstage hact;rw[g2,f2 hact,<-g1];exact hI.heap
   |false=>rw[hcalm hact];exact hI.heap
  |true=>
   rw[if_pos rfl];obtain⟨K0,f1,f2,f3⟩:=e5 rfl;refine⟨fun _ _=>trivial,?_⟩;rw[Oper.semAt_eq _ _ _ (noDefer f1)];have hT:TR E (ABn (AB9 p.o.op.operands.toList) Tp) a.tmps:=by
    intro x v hx hg;obtain⟨g1,g2⟩:=AK4 hx hg;exact reads hx (by unfold looks;simp[g1]) g2
   cases hact:p.act with
   |true=>
    obtain⟨g1,g2⟩:=hstage hact;have hk:=f2 hact;rw[<-g1]at hk;refine AC2 hP f1 (hca _) (hrd _) hT hI.heap hk fun E' v' w' k1 k2 k3=>?_;refine hK _ _ _ (hI.put hO.uniq hol hi e3 k1 k2 hL' (hless ?_));rw[g2,<-g1];exact k3
   |false=>
    obtain⟨A',hk⟩:=f3 hact (cnt opsA.toList L) (by rw[q4];exact AOk hc hp _) (by rw[q5];have:=AK6 hc hi _ 0 hO.chain;simpa[cnt]using this) ALC;have hA:=AId f1 (by rw[<-q3];exact hact) _ _ _ _ _ _ hk;subst hA;refine AC2 hP f1 (hca _) (hrd _) hT hI.heap hk fun E' v' w' k1 k2 k3=>?_;refine hK _ _ _ (hI.put hO.uniq hol hi e3 k1 k2 hL' (hless ?_));rw[hcalm hact];exact k3
theorem ALD(hP:OkP P)(hca:∀w,CaS P w ca)(hrd:∀w,RdS P w rd)(R:Reg P nt opsA.toList ca rd T0 A0 Tf Af val bid As)(hH0:∀c,w0.H c->c<A0.next){ro:Option Nat}{n:Nat}{Q:Exit->Act->World->Prop}
  (hQ:∀(E':En)(a':Act)(w':World),En.le E0 E'->nt<=a'.tmps.size->TR E' Tf a'.tmps->HR w0 E' Af w'->a'.defers=a0.defers->Q .normal a' w'):
  ∀(fuel:Nat)(listed:Array Bool)(E:En)(a:Act)(w:World),listed.size=opsA.size->(List.range opsA.size).countP (fun i=>!Ls listed i)<=fuel->ACA opsA.toList (Ls listed)->Inv P w0 nt opsA.toList T0 a0 E0 val bid As (Ls listed) E a w->
   wpAnyIn (Fw ro) n P .any opsA Q fuel listed a w:=by
 have hO:=R.ok;have notyet:∀{listed:Array Bool}{i:Nat},listed.size=opsA.size->i<opsA.size->Ls listed i=false->listed.getD i true=false:=by
  intro listed i hs hi h;unfold Ls at h;rw[<-hs]at hi;simp only[Array.getD_eq_getD_getElem?,Array.getElem?_eq_getElem hi,Option.getD_some]at h⊢;exact h
 have fin:∀(listed:Array Bool)(E:En)(a:Act)(w:World),(∀i,i<opsA.size->Ls listed i=true)->Inv P w0 nt opsA.toList T0 a0 E0 val bid As (Ls listed) E a w->Q .normal a w:=by
  intro listed E a w hall hI;refine hQ E a w hI.le hI.size (fun x v hx hv=>?_) ?_ hI.defers
  ·by_cases hw:∃(k:Nat)(q:Oper),opsA.toList[k]?=some q/\q.dst=some x
   ·obtain⟨k,q,hk,hq⟩:=hw
    have:=R.fin.out k q x hk trivial hq hx;rw[hv]at this;cases this;exact hI.out k q x hk (hall k (by simpa using(List.getElem?_eq_some_iff.1 hk).1)) hq
   ·have hn:∀(j:Nat)(o':Oper),opsA.toList[j]?=some o'->o'.dst≠some x:=fun j o' hj hd=>hw ⟨j,o',hj,hd⟩
    refine hI.old x v hx (fun j o' hj _=>hn j o' hj) ?_;rw[<-R.fin.old x hx fun j o' hj _=>hn j o' hj];exact hv
  ·have:=hI.heap
   rw[AN1 (fun i hi=>hall i (by simpa using hi)),R.last]at this;exact HR.less (H:=(Hol w0 opsA.toList bid (Ls listed)).H) this fun c hc=>.inl hc
 have stuck:∀(listed:Array Bool),listed.size=opsA.size->Region.ready .any opsA listed=[]->∀i,i<opsA.size->Ls listed i=true:=by
  intro listed hs hr i
  induction i using Nat.strongRecOn with
  |_ i ih=>
   intro hi;cases hl:Ls listed i with
   |true=>rfl
   |false=>
    exfalso;have hmem:i∈Region.ready .any opsA listed:=by
     rw[mem_ready];refine⟨notyet hs hi hl,opsA[i],Array.getElem?_eq_getElem hi,fun e he hb=>?_⟩;have:=hO.after i opsA[i] (by rw[Array.getElem?_toList];exact Array.getElem?_eq_getElem hi) e (by simpa using he) hb;exact ih e.on this (by omega)
    rw[hr]at hmem;cases hmem
 intro fuel
 induction fuel with
 |zero=>
  intro listed E a w hs hf hc hI;have hall:∀i,i<opsA.size->Ls listed i=true:=by
   intro i hi;have h0:=List.countP_eq_zero.1 (Nat.le_zero.1 hf) i (by simpa using hi);simpa using h0
  refine⟨?_,fin listed E a w hall hI⟩;cases hr:Region.ready .any opsA listed with
  |nil=>rfl
  |cons j l=>
   have hj:j∈Region.ready .any opsA listed:=by rw[hr];simp
   rw[mem_ready]at hj;obtain⟨h1,o,h2,_⟩:=hj;have hlt:=(Array.getElem?_eq_some_iff.1 h2).1;have h3:=hall j hlt;unfold Ls at h3;rw[<-hs]at hlt;simp only[Array.getD_eq_getD_getElem?,Array.getElem?_eq_getElem hlt,Option.getD_some]at h1 h3;rw[h1]at h3;cases h3
 |succ fuel ih=>
  intro listed E a w hs hf hc hI;refine⟨fun hr=>fin listed E a w (stuck listed hs hr) hI,fun i hi=>?_⟩;rw[mem_ready]at hi;obtain⟨h1,o,h2,h3⟩:=hi;have hlt:=(Array.getElem?_eq_some_iff.1 h2).1;have hlt2:i<listed.size:=by rw[hs];exact hlt
  have hLi:Ls listed i=false:=by
   unfold Ls;simp only[Array.getD_eq_getD_getElem?,Array.getElem?_eq_getElem hlt2,Option.getD_some]at h1⊢;exact h1
  have hpre:Pre opsA.toList (fun k=>Ls listed k=true) i:=by
   intro o' ho' e he hb;rw[Array.getElem?_toList,h2]at ho';cases ho';exact h3 e (by simpa using he) hb
  have hset:=AOl hlt2;refine AMb hP hca hrd R hH0 hset hc hI h2 hLi hpre fun E' a' w' hI'=>ih _ E' a' w' (by simpa using hs) ?_ ?_ hI'
  ·have:=ALB (p:=fun k=>!Ls listed k) (q:=fun k=>!Ls (listed.setIfInBounds i true) k) (l:=List.range opsA.size) (fun k _ hk=>by
    rw[hset]at hk;simp only[Bool.not_eq_true',Bool.or_eq_false_iff]at hk⊢;exact hk.1) ⟨i,by simpa using hlt,by simp[hLi],by simp[hset]⟩
   omega
  ·intro k hk o' ho' e he hb
   rw[hset]at hk;simp only[Bool.or_eq_true,beq_iff_eq]at hk;show Ls _ e.on=true;rw[hset];rcases hk with hk|rfl
   ·rw[show Ls listed e.on=true from hc k hk o' ho' e he hb];rfl
   ·rw[show Ls listed e.on=true from hpre o' ho' e he hb];rfl
theorem AIf(hP:OkP P){L:vW->tZ->TP->AH->Option (TP×AH)}(h:AJl P nt opsA.toList=.mk L)(hca:∀w,CaS P w ca)(hrd:∀w,RdS P w rd)(hL:L ca rd T0 A0=some (Tf,Af)){a:Act}{w:World}(hs:nt<=a.tmps.size)(hT:TR E0 T0 a.tmps)(hH:HR w0 E0 A0 w)
  {ro:Option Nat} {n id:Nat} {Q:Exit->Act->World->Prop} (hQ:∀(E':En)(a':Act)(w':World),En.le E0 E'->nt<=a'.tmps.size->TR E' Tf a'.tmps->HR w0 E' Af w'->a'.defers=a.defers->Q .normal a' w'):
  (Code.region id opsA true).wpIn (Fw ro) n P Q a w:=by
 obtain⟨val,bid,As,R⟩:=AK9 h hL;have hLs0:∀i,Ls (Array.replicate opsA.size false) i=false:=by
  intro i;unfold Ls;simp only[Array.getD_eq_getD_getElem?,Array.getElem?_replicate];split<;>rfl
 refine wpIn_region_any hP.mixed (ALD hP hca hrd R (fun c hc=>(hH.hole c hc).1) hQ opsA.size _ E0 a _ (by simp) ?_ (fun k hk=>by rw[hLs0]at hk;cases hk) ?_)
 ·exact Nat.le_trans List.countP_le_length (by simp)
 ·refine⟨hs,rfl,En.le_rfl,?_,(fun j o x _ hl=>by rw[hLs0]at hl;cases hl),fun x v hx _ hv=>hT x v hx hv⟩
  have hc0:cnt opsA.toList (Ls (Array.replicate opsA.size false))=0:=by
   unfold cnt;rw[List.filter_eq_nil_iff.2 fun i _=>by rw[hLs0];simp]
   rfl
  rw[hc0];have h1:=hH.drew;refine⟨h1.ext,fun b x hb=>Nat.lt_of_lt_of_le (h1.len b x hb) R.next,h1.base,fun b x b' g hb hE=>h1.obj b x b' g (R.old b x hb (h1.len _ _ hE)) hE,fun b c x y b' g1 g2 hb hc hx hy e1 e2=>h1.inj b c x y b' g1 g2 (R.old b x hb (h1.len _ _ e1)) (R.old c y hc (h1.len _ _ e2)) hx hy e1 e2,fun b hb=>?_⟩;rcases hb with hb|⟨j,o,k1,k2,_,rfl⟩
  ·obtain⟨g1,g2⟩:=h1.hole b hb
   exact⟨Nat.lt_of_lt_of_le g1 R.next,g2⟩
  ·obtain⟨_,_,_,_,_,_,g5,g6,_⟩:=R.al j o k1 k2
   refine⟨g6,?_⟩;cases hE:E0 (bid j)with
   |none=>rfl
   |some x=>have:=h1.len _ _ hE;omega
end
end
section
section
variable {P:Program}{E:En}
theorem AMc{v:Value}(h:AFV v=true):VR E v v:=by
 unfold AFV at h;split at h
 ·exact .tuple (AGd h)
 ·exact yc h
theorem AMd{v v':Value}(h:AFV v=true)(k:VR E v v'):v'=v:=by
 unfold AFV at h;split at h
 ·cases k with|tuple k=>exact congrArg Value.tuple (Array.toList_inj.1 (AKw h k))
 ·exact yg h k
theorem ALE{T:TP}{x:Nat}(hx:x<65535){v:Value}:∀{l:List Nat},yA (xR 16 x) (seenF l T)=.mk v->yA (xR 16 x) T=.mk v/\AJn v=true:=by
 intro l
 induction l with
 |nil=>intro h;change yA _ .lf=_ at h;rw[AAM]at h;cases h
 |cons y l ih=>
  intro h;simp only[seenF]at h;split at h
  ·rename_i hy
   have hy:y<65535:=by simpa[Nat.blt_eq]using hy
   split at h
   ·rename_i u hu
    split at h
    ·rename_i hf
     rw[yw]at h;split at h
     ·rename_i e
      have:=AAh hx hy e;subst this;cases h;exact⟨hu,hf⟩
     ·exact ih h
    ·exact ih h
   ·exact ih h
  ·exact ih h
def E2(b r:Nat)(g:Nat×Nat×Nat)(EL:En):En:=fun k=>if k=0 then some (b,g)else if k=1 then some (r,(0,0,0))else EL k
theorem AN3{b r:Nat}{g:Nat×Nat×Nat}{EL:En}{v v':Value}(h:AJn v=true)(k:VR (E2 b r g EL) v v'):VR EL v v':=by
 unfold AJn at h;split at h
 ·rename_i c o
  rw[Nat.blt_eq]at h;cases k with|ptr h1 h2 h3=>
  refine .ptr h1 h2 ?_;dsimp only[E2]at h3;rw[if_neg (by omega),if_neg (by omega)]at h3;exact h3
 ·rw[AMd h k]
  exact AMc h
theorem TR.seenF{b r:Nat}{g:Nat×Nat×Nat}{EL:En}{T:TP}{tm:Array Value}(h:TR (E2 b r g EL) T tm)(l:List Nat):TR EL (seenF l T) tm:=fun t v ht hv=>by
 obtain⟨h1,h2⟩:=ALE ht hv;obtain⟨v',h3,h4⟩:=h t v ht h1;exact⟨v',h3,AN3 h2 h4⟩
abbrev WL(w:World):W0:=⟨w,fun b=>b<2⟩
theorem HR.bare(w:World):HR (WL w) (fun _=>none) A2 w:=
 ⟨Below.refl _ _,(fun _ _ h=>by cases h),(fun _ _ _ h=>by cases h),(fun _ _ _ _ _ h=>by cases h),(fun _ _ _ _ _ _ _ _ _ _ _ h=>by cases h),(fun _ h=>⟨h,rfl⟩)⟩
theorem AQO{b r:Nat}{g:Nat×Nat×Nat}{wl w:World}{EL:En}{A:AH}(h:HR (WL wl) EL A w):En.le EL (E2 b r g EL):=fun k x hk=>by
 have h0:=(h.hole 0 (show 0<2 by omega)).2;have h1:=(h.hole 1 (show 1<2 by omega)).2;unfold E2;split
 ·rename_i e;subst e;rw[h0]at hk;cases hk
 ·split
  ·rename_i e;subst e;rw[h1]at hk;cases hk
  ·exact hk
theorem AN4{b r:Nat}{g:Nat×Nat×Nat}{EL EL':En}(h:En.le EL EL'):En.le (E2 b r g EL) (E2 b r g EL'):=fun k x hk=>by
 unfold E2 at hk⊢;split
 ·rename_i e;rw[if_pos e]at hk;exact hk
 ·rename_i e
  rw[if_neg e]at hk;split
  ·rename_i e;rw[if_pos e]at hk;exact hk
  ·rename_i e;rw[if_neg e]at hk;exact h _ _ hk
theorem AKD(hP:OkP P){o:Oper}{T:TP}{A A':AH}{v:Value}(h:AHd P o T A=some (v,A')){b r:Nat}{g:Nat×Nat×Nat}{EL:En}{a:Act}{wl w:World}(hT:TR (E2 b r g EL) T a.tmps)(hH:HR (WL wl) EL A w){ro:Option Nat}{n:Nat}{next:Act->World->Prop}{Q:Exit->Act->World->Prop}
  (hn:∀EL' v' w',En.le EL EL'->VR (E2 b r g EL') v v'->HR (WL wl) EL' A' w'->next (a.put o.dst v') w'):o.uponIn (Fw ro) n P a next Q ((execOp a.eval o).run P w)/\∀c,o.op≠.defer c:=by
 unfold AHd at h;obtain⟨K,hK,h⟩:=Oc h (by intro e;cases e);split at h
 ·rename_i v0 A0 hk
  cases h;refine⟨AC2 hP hK (w0:=WL wl) (E:=EL) (fun _ _ _ _ _ _ _ _ _ h=>by cases h) (fun _ _ _ _ _ _ _ _ _ _ _ h=>by cases h) (hT.seenF _) hH hk fun E' v' w' k1 k2 k3=>?_,noDefer hK⟩;exact hn E' v' w' k1 (k2.mono (AQO k3)) k3
 ·cases h
theorem ABu{x:Operand}{T:TP}{v:Value}{a:Act}(h:X0 x T=some v)(hT:TR E T a.tmps):VR E v (a.eval x):=by
 unfold X0 at h;obtain⟨X,hX,h⟩:=Oc h (by intro e;cases e);cases hx:X T with
 |no=>rw[hx]at h;cases h
 |mk u=>rw[hx]at h;cases h;exact yN hX hx hT
structure RM(ws:World)(b r c:Nat)(es:List MapEntry)(sn:Array Nat)(w:World):Prop where
 os:w.os=ws.os
 tape:w.tape=ws.tape
 output:w.output=ws.output
 size:ws.heap.size<=w.heap.size
 low:b<ws.heap.size/\ws.heap.size<=r
 oth:∀k,k<ws.heap.size->k≠b->w.heap[k]?=ws.heap[k]?
 it:w.heap[r]?=some (.mapIter (some b) c sn c)
 mp:w.heap[b]?=some (.map es.toArray c)
theorem RM.below{ws w w':World}{b r c:Nat}{es:List MapEntry}{sn:Array Nat}(h:RM ws b r c es sn w)(k:Below w.heap.size w w'):RM ws b r c es sn w':=
 have hr:=(Array.getElem?_eq_some_iff.1 h.it).1;have hb:=(Array.getElem?_eq_some_iff.1 h.mp).1
 ⟨k.os.trans h.os,k.tape.trans h.tape,k.output.trans h.output,Nat.le_trans h.size k.size,h.low,fun i hi hb=>(k.block i (Nat.lt_of_lt_of_le hi h.size)).trans (h.oth i hi hb),(k.block r hr).trans h.it,(k.block b hb).trans h.mp⟩
theorem RM.drew{ws w:World}{b r c:Nat}{es:List MapEntry}{sn:Array Nat}(h:RM ws b r c es sn w):RM ws b r c es sn w.drew:=⟨h.os,h.tape,h.output,h.size,h.low,h.oth,h.it,h.mp⟩
theorem RM.turn{ws w:World}{b r c:Nat}{es:List MapEntry}{sn:Array Nat}(h:RM ws b r c es sn w)(sn':Array Nat):RM ws b r c es sn' (ChangeMaps.setBlock w r (.mapIter (some b) c sn' c)):=by
 have hr:=(Array.getElem?_eq_some_iff.1 h.it).1;have hne:r≠b:=by have:=h.low;omega
 refine⟨h.os,h.tape,h.output,by simpa[ChangeMaps.setBlock]using h.size,h.low,fun i hi hb=>?_,by simp[ChangeMaps.setBlock,hr],?_⟩
 ·have:=h.low
  simp only[ChangeMaps.setBlock];rw[Array.getElem?_setIfInBounds_ne (by omega)];exact h.oth i hi hb
 ·simp only[ChangeMaps.setBlock]
  rw[Array.getElem?_setIfInBounds_ne hne];exact h.mp
theorem RM.strike{ws w:World}{b r c:Nat}{es:List MapEntry}{sn:Array Nat}(h:RM ws b r c es sn w)(es':List MapEntry):RM ws b r c es' sn (ChangeMaps.setBlock w b (.map es'.toArray c)):=by
 have hb:=(Array.getElem?_eq_some_iff.1 h.mp).1;have hne:b≠r:=by have:=h.low;omega
 refine⟨h.os,h.tape,h.output,by simpa[ChangeMaps.setBlock]using h.size,h.low,fun i hi hib=>?_,?_,by simp[ChangeMaps.setBlock,hb]⟩
 ·simp only[ChangeMaps.setBlock]
  rw[Array.getElem?_setIfInBounds_ne (Ne.symm hib)];exact h.oth i hi hib
 ·simp only[ChangeMaps.setBlock]
  rw[Array.getElem?_setIfInBounds_ne hne];exact h.it
theorem AEG:∀{l:List Nat},AFX l=true->l.Nodup
 |[],_=>.nil
 |a::l,h=>by
  simp only[AFX,Bool.and_eq_true,List.all_eq_true,Bool.not_eq_true']at h;exact List.nodup_cons.2 ⟨fun hm=>by have:=h.1 a hm;simp at this,AEG h.2⟩
structure Ks(P:Program)(tk:TypeId)(es:List MapEntry)(c:Nat):Prop where
 st:∃fs,P.underlying tk=some (.struct fs)
 nd:(es.map (·.born)).Nodup
 lt:∀e∈es,e.born<c
 fk:∀e∈es,wI e.key=true
 fv:∀e∈es,wI e.val=true
 ck:∀e∈es,∃u,ACg P (Instr.checkKey false 10000 tk e.key)=some u
 eq:∀e∈es,∀e'∈es,ACg P (Op.equal tk e.key e'.key)=some (Nat.beq e.born e'.born)
theorem AIg{tk:TypeId}{es:List MapEntry}{c:Nat}(h:AJo P tk es c=true):Ks P tk es c:=by
 unfold AJo at h;split at h
 ·rename_i fs hfs
  simp only[Bool.and_eq_true,List.all_eq_true]at h;obtain⟨h1,h2⟩:=h;refine⟨⟨fs,hfs⟩,AEG h1,fun e he=>by simpa[Nat.blt_eq]using(h2 e he).1.1.1.1,fun e he=>(h2 e he).1.1.1.2,fun e he=>(h2 e he).1.1.2,fun e he=>?_,fun e he e' he'=>?_⟩
  ·have:=(h2 e he).1.2
   split at this
   ·rename_i u hu;exact⟨u,hu⟩
   ·cases this
  ·have:=(h2 e he).2 e' he'
   split at this
   ·rename_i u hu;rw[hu,eq_of_beq this]
   ·cases this
 ·cases h
theorem AMf{tk:TypeId}{e:MapEntry}{w:World}:∀(l:List MapEntry)(i:Nat),(∀x∈l,ACg P (Op.equal tk e.key x.key)=some (Nat.beq e.born x.born))->e∈l->(l.map (·.born)).Nodup->
  ∃j v,(Instr.findAsking tk e.key l i).run P w=.ok (some (i+j,v)) w/\l.eraseIdx j=l.filter (fun x=>x.born !=e.born):=by
 intro l
 induction l with
 |nil=>intro i _ h;cases h
 |cons x l ih=>
  intro i hq he hn;have hx:=hq x (by simp);simp only[Instr.findAsking,Sem.run_bind];rw[AE8 hx];simp only[List.map_cons,List.nodup_cons]at hn;by_cases hb:e.born=x.born
  ·refine⟨0,x.val,?_,?_⟩
   ·rw[hb]
    simp[Result.andThen]
   ·have:(x::l).filter (fun y=>y.born !=e.born)=l:=by
     rw[List.filter_cons_of_neg (by simp[hb])];refine List.filter_eq_self.2 fun y hy=>?_;have:y.born≠x.born:=fun e=>hn.1 (List.mem_map.2 ⟨y,hy,e⟩);simpa[hb]using this
    rw[this]
    rfl
  ·have hbf:Nat.beq e.born x.born=false:=Bool.eq_false_iff.2 fun h=>hb (Nat.eq_of_beq_eq_true h)
   have hel:e∈l:=by
    rcases List.mem_cons.1 he with rfl|h
    ·exact absurd rfl hb
    ·exact h
   obtain⟨j,v,h1,h2⟩:=ih (i+1) (fun y hy=>hq y (by simp[hy])) hel hn.2;refine⟨j+1,v,?_,?_⟩
   ·rw[hbf]
    simp only[Result.andThen,Bool.false_eq_true,if_false];rw[h1,show i+1+j=i+(j+1) by omega]
   ·rw[List.filter_cons_of_pos (by simpa using Ne.symm hb),<-h2]
    rfl
theorem AKE{tk t t' ty te:TypeId}(ht:P.underlying t=some (.map tk te)){es l:List MapEntry}{c:Nat}(hK:Ks P tk es c)(hl:l.Sublist es){e:MapEntry}(he:e∈l){ws w:World}{b r:Nat}{sn:Array Nat}(h:RM ws b r c l sn w):
  ∃w',(Builtin.delete_ #[t,t'] ty #[.map (some b),e.key]).run P w=.ok (.tuple #[]) w'/\RM ws b r c (l.filter (fun x=>x.born !=e.born)) sn w':=by
 obtain⟨u,hu⟩:=hK.ck e (hl.subset he);obtain⟨fs,hfs⟩:=hK.st;obtain⟨j,v,h1,h2⟩:=AMf (P:=P) (tk:=tk) (e:=e) (w:=w) l 0 (fun x hx=>hK.eq e (hl.subset he) x (hl.subset hx)) he (hK.nd.sublist (hl.map _));have hne:l.toArray.isEmpty=false:=by
  cases l with
  |nil=>cases he
  |cons x l=>simp
 have hfn:Instr.findNow (.struct fs) e.key l 0=none:=by
  cases l with
  |nil=>cases he
  |cons x l=>simp[Instr.findNow,Instr.sameNow]
 refine⟨_,?_,h.strike _⟩;have hg:=h.mp;simp only[Builtin.delete_,List.getElem?_toArray,List.getElem?_cons_zero,List.getElem?_cons_succ];simp[run_underlying ht,MapKept.run_getObj_map hg,AE8 hu,hne,Instr.findKey,run_underlying hfs,hfn,h1,MapKept.run_setObj_map _ hg,Result.andThen,ChangeMaps.setBlock,h2]
end
end
section
section
variable {P:Program}
theorem ARf{b r:Nat}{g:Nat×Nat×Nat}{EL:En}{v:Value}(h:VR (E2 b r g EL) (.map (some 0)) v):v=.map (some b):=by
 cases h with|map h=>simp[E2]at h;rw[h.1]
theorem ARg{b r:Nat}{g:Nat×Nat×Nat}{EL:En}{v:Value}(h:VR (E2 b r g EL) (.pointer (some ⟨1,0,none⟩)) v):v=.pointer (some ⟨r,0,none⟩):=by
 cases h with| @ptr _ a' g' h1 h2 h3=>
 obtain⟨bb,o,s⟩:=a';simp[E2]at h3;dsimp only at h1 h2;obtain⟨h4,h5⟩:=h3;subst h4 h5 h2;simp at h1;rw[h1]
theorem AAZ{a:Act}{d:Option Tmp}{v:Value}{t:Nat}(h:d≠some t):(a.put d v).tmps[t]?=a.tmps[t]?:=by
 cases d with
 |none=>rfl
 |some d=>
  simp only[Act.put];rw[Array.getElem?_setIfInBounds_ne (fun e=>h (by rw[e]))]
theorem ALF{e:MapEntry}{tk:TypeId}{args:List Operand}{ts:List TypeId}{T:TP}(h:AML P e tk args ts T=true):∃x y t t' te,args=[x,y]/\ts=[t,t']/\P.underlying t=some (.map tk te)/\X0 x T=some (.map (some 0))/\X0 y T=some e.key:=by
 unfold AML at h;split at h
 ·rename_i x y
  split at h
  ·rename_i t t'
   split at h
   ·rename_i k te ht
    split at h
    ·rename_i hk
     have hk:=Nat.eq_of_beq_eq_true hk;subst hk;split at h
     ·rename_i hx
      split at h
      ·rename_i u hy
       rw[AHw h]at hy;exact⟨x,y,t,t',te,rfl,rfl,ht,hx,hy⟩
      ·cases h
     ·cases h
    ·cases h
   ·cases h
  ·cases h
 ·cases h
section
variable {es l:List MapEntry}{tk:TypeId}{c b r nt:Nat}{g:Nat×Nat×Nat}{ws wl:World}{sn:Array Nat}{e:MapEntry}{ops:Array Oper}{ro:Option Nat}{n:Nat}
def RH(b r:Nat)(g:Nat×Nat×Nat)(wl:World)(T:TP)(A:AH)(a:Act)(w:World):Prop:=∃EL,HR (WL wl) EL A w/\TR (E2 b r g EL) T a.tmps
def RP(nt b r c:Nat)(g:Nat×Nat×Nat)(ws wl:World)(l:List MapEntry)(sn:Array Nat)(e:MapEntry)(a:Act)(ds:List Nat)(T':TP)(A':AH)(d:Bool)(a':Act)(w':World):Prop:=
 nt<=a'.tmps.size/\(d=false->RH b r g wl T' A' a' w')/\a'.defers=a.defers/\(∀t,t∉ds->a'.tmps[t]?=a.tmps[t]?)/\RM ws b r c (bif d then l.filter (fun x=>x.born !=e.born)else l) (sn.push e.born) w'
theorem AKF(hP:OkP P)(hK:Ks P tk es c)(hl:l.Sublist es)(he:e∈l)(hM:RM ws b r c l (sn.push e.born) wl):∀(os:List Oper)(T:TP)(A:AH)(T':TP)(A':AH)(d:Bool)(a:Act)(w:World),AE6 P nt e tk os T A=some (T',A',d)->nt<=a.tmps.size->RH b r g wl T A a w->
  ∀{Q:Exit->Act->World->Prop},(∀a' w',RP nt b r c g ws wl l sn e a (ABt os) T' A' d a' w'->Q .normal a' w')->wpListIn (Fw ro) n P ops Q os a w:=by
 intro os
 induction os with
 |nil=>
  intro T A T' A' d a w h hs hR Q hQ;cases h;obtain⟨EL,hH,hT⟩:=hR;exact hQ a w ⟨hs,fun _=>⟨EL,hH,hT⟩,rfl,fun _ _=>rfl,hM.below hH.ext⟩
 |cons o os ih=>
  intro T A T' A' d a w h hs hR Q hQ;obtain⟨EL,hH,hT⟩:=hR;have hMw:=hM.below hH.ext;simp only[AE6]at h;split at h
  ·cases h
  ·rename_i hg
   obtain⟨D,hD,h⟩:=Oc h (by intro e;cases e);have hw:Region.wanted o (yielded ops a.tmps)=true:=by unfold Region.wanted;rw[hg]
   unfold wpListIn;rw[if_pos hw];refine⟨fun _ _=>trivial,?_⟩;have next:∀{v v':Value}{w':World}{A1:AH}{EL':En},AE6 P nt e tk os (D v T) A1=some (T',A',d)->En.le EL EL'->VR (E2 b r g EL') v v'->HR (WL wl) EL' A1 w'->wpListIn (Fw ro) n P ops Q os (a.put o.dst v') w':=by
    intro v v' w' A1 EL' h1 hle hv hH';obtain⟨p1,p2,p3⟩:=AAr hD hs (hT.mono (AN4 hle)) hv;refine ih _ A1 T' A' d _ w' h1 p2 ⟨EL',hH',p1⟩ fun a' w2 hp=>hQ a' w2 ?_;obtain⟨q1,q2,q3,q4,q5⟩:=hp;refine⟨q1,q2,q3.trans p3,fun t ht=>?_,q5⟩;have h1:t∉ABt os:=fun hm=>ht (by
     unfold ABt at hm⊢;rw[List.filterMap_cons];split
     ·exact hm
     ·exact List.mem_cons_of_mem _ hm)
    have h2:o.dst≠some t:=fun e=>ht (by
     unfold ABt;rw[List.filterMap_cons,e];exact List.mem_cons_self)
    exact(q4 t h1).trans (AAZ h2)
   split at h
   ·rename_i x hop;split at h
    ·rename_i hx
     have hv:=ARg (ABu hx hT);have hent:(Instr.entry (.pointer (some ⟨r,0,none⟩))).run P w=.ok (.tuple #[e.key,e.val]) w:=run_entry_at w r b c sn l.toArray c e hMw.it hMw.mp (by simpa using he) (by simpa using hK.nd.sublist (hl.map _));have hnd:∀c,o.op≠.defer c:=by rw[hop];intro c e;cases e
     rw[Oper.semAt_eq _ _ _ hnd];have hrun:(execOp a.eval o).run P w=.ok (.value (.tuple #[e.key,e.val])) w:=by
      unfold execOp;rw[hop];simp[hv,hent]
     rw[hrun];refine next h En.le_rfl (.tuple (.cons (yc (hK.fk e (hl.subset he))) (.cons (yc (hK.fv e (hl.subset he))) .nil))) hH
    ·cases h
   ·rename_i x hop;split at h
    ·rename_i v hx
     have hnd:∀c,o.op≠.defer c:=by rw[hop];intro c e;cases e
     rw[Oper.semAt_eq _ _ _ hnd];have hrun:(execOp a.eval o).run P w=.ok (.value (a.eval x)) w:=by
      unfold execOp;rw[hop];simp
     rw[hrun];exact next h En.le_rfl (ABu hx hT) hH
    ·cases h
   ·rename_i args tys hop;split at h
    ·split at h
     ·rename_i hd
      cases h;obtain⟨x,y,t,t',te,h1,h2,h3,h4,h5⟩:=ALF hd;have k1:=ARf (ABu h4 hT);have k2:=yg (hK.fk e (hl.subset he)) (ABu h5 hT);obtain⟨w',k3,k4⟩:=AKE (t':=t') (ty:=o.type) h3 hK hl he hMw;have hnd:∀c,o.op≠.defer c:=by rw[hop];intro c e;cases e
      rw[Oper.semAt_eq _ _ _ hnd];have hrun:(execOp a.eval o).run P w=.ok (.value (.tuple #[])) w':=by
       unfold execOp;rw[hop,AJ2 h1,AJ2 h2];simp[resolve,invoke,Go.builtin,k1,k2,k3]
      rw[hrun];obtain⟨p1,p2,p3⟩:=AAr hD hs hT (.tuple .nil:VR (E2 b r g EL) (.tuple #[]) (.tuple #[]));refine hQ _ w' ⟨p2,fun h=>(by cases h),p3,fun t ht=>AAZ fun e=>ht ?_,k4⟩;unfold ABt;rw[List.filterMap_cons,e];exact List.mem_cons_self
     ·cases h
    ·cases h
   ·split at h
    ·rename_i v A1 hp
     have hpl:=AKD hP hp hT hH (ro:=ro) (n:=n) (next:=wpListIn (Fw ro) n P ops Q os) (Q:=Q) fun EL' v' w' k1 k2 k3=>next h k1 k2 k3
     rw[Oper.semAt_eq _ _ _ hpl.2];exact hpl.1
    ·cases h
theorem AIh(hP:OkP P)(hK:Ks P tk es c)(hl:l.Sublist es)(he:e∈l)(hM:RM ws b r c l (sn.push e.born) wl):∀(q:Code)(T:TP)(A:AH)(T':TP)(A':AH)(d:Bool)(a:Act)(w:World),AB5 P nt e tk q T A=some (T',A',d)->nt<=a.tmps.size->RH b r g wl T A a w->
  q.wpIn (Fw ro) n P (fun x a' w'=>x=.normal/\RP nt b r c g ws wl l sn e a (ABt (ABK q)) T' A' d a' w') a w:=by
 intro q
 induction q with
 |skip=>
  intro T A T' A' d a w h hs hR;cases h;obtain⟨EL,hH,hT⟩:=hR;exact wpIn_skip ⟨rfl,hs,fun _=>⟨EL,hH,hT⟩,rfl,fun _ _=>rfl,hM.below hH.ext⟩
 |region id ops draw=>
  intro T A T' A' d a w h hs hR;cases draw with
  |true=>cases h
  |false=>exact wpIn_region_list (AKF hP hK hl he hM _ T A T' A' d a w h hs hR fun a' w' hp=>⟨rfl,hp⟩)
 |seq p q ihp ihq=>
  intro T A T' A' d a w h hs hR;simp only[AB5]at h;split at h
  ·rename_i T1 A1 h1
   refine wpIn_seq (wpIn_mono (ihp T A T1 A1 false a w h1 hs hR) fun x a1 w1 hx=>?_);obtain⟨rfl,q1,q2,q3,q4,q5⟩:=hx;refine wpIn_mono (ihq T1 A1 T' A' d a1 w1 h q1 (q2 rfl)) fun x a2 w2 hx=>?_;obtain⟨rfl,p1,p2,p3,p4,p5⟩:=hx;refine⟨rfl,p1,p2,p3.trans q3,fun t ht=>?_,p5⟩;simp only[ABK,ABt,List.filterMap_append,List.mem_append,not_or]at ht;exact(p4 t ht.2).trans (q4 t ht.1)
  ·cases h
 |cond x p q ihp ihq=>
  intro T A T' A' d a w h hs hR;have hR':=hR;obtain⟨EL,hH,hT⟩:=hR';simp only[AB5]at h;split at h
  ·rename_i hx
   have hv:=ABu hx hT;generalize hz:a.eval x=z at hv;cases hv;refine wpIn_cond_true hz (wpIn_mono (ihp T A T' A' d a w h hs hR) fun x a2 w2 hx=>?_);obtain⟨rfl,p1,p2,p3,p4,p5⟩:=hx;refine⟨rfl,p1,p2,p3,fun t ht=>?_,p5⟩;simp only[ABK,ABt,List.filterMap_append,List.filterMap_cons,List.mem_append,not_or]at ht;exact p4 t ht.1
  ·rename_i hx
   have hv:=ABu hx hT;generalize hz:a.eval x=z at hv;cases hv;refine wpIn_cond_false hz (wpIn_mono (ihq T A T' A' d a w h hs hR) fun x a2 w2 hx=>?_);obtain⟨rfl,p1,p2,p3,p4,p5⟩:=hx;refine⟨rfl,p1,p2,p3,fun t ht=>?_,p5⟩;simp only[ABK,ABt,List.filterMap_append,List.filterMap_cons,List.mem_append,not_or]at ht;exact p4 t ht.2
  ·cases h
 |_=>intro T A T' A' d a w h;cases h
end
end
end
section
section
variable {P:Program}
theorem ABg{nt d:Nat}{D:Value->TP->TP}(h:AAI nt (some d)=.mk D):d<nt/\d<65535/\D=fun v T=>ACE (xR 16 d) (.mk v) T:=by
 simp only[AAI]at h;split at h
 ·rename_i hb
  simp only[Bool.and_eq_true,Nat.blt_eq]at hb;cases h;exact⟨hb.1,hb.2,rfl⟩
 ·cases h
theorem ALG{t:Nat}{T:TP}{v:Value}(h:AE5 t T=.mk v):t<65535/\yA (xR 16 t) T=.mk v:=by
 unfold AE5 at h;split at h
 ·rename_i hb;exact⟨by simpa[Nat.blt_eq]using hb,h⟩
 ·cases h
theorem ALH{T:TP}{b x:Nat}(hx:x<65535){v:Value}:∀{l:List Nat},yA (xR 16 x) (AA6 b l T)=.mk v->x∈l/\((yA (xR 16 x) T=.mk v/\wI v=true)\/(v=.map (some 0)/\yA (xR 16 x) T=.mk (.map (some b)))):=by
 intro l
 induction l with
 |nil=>intro h;change yA _ .lf=_ at h;rw[AAM]at h;cases h
 |cons y l ih=>
  intro h;have down:yA (xR 16 x) (AA6 b l T)=.mk v->x∈y::l/\((yA (xR 16 x) T=.mk v/\wI v=true)\/(v=.map (some 0)/\yA (xR 16 x) T=.mk (.map (some b)))):=fun h=>⟨List.mem_cons_of_mem _ (ih h).1,(ih h).2⟩;simp only[AA6]at h;split at h
  ·rename_i hy
   have hy:y<65535:=by simpa[Nat.blt_eq]using hy
   split at h
   ·rename_i u hu
    split at h
    ·rename_i hf
     rw[yw]at h;split at h
     ·rename_i e
      have:=AAh hx hy e;subst this;cases h;exact⟨List.mem_cons_self,.inl ⟨hu,hf⟩⟩
     ·exact down h
    ·split at h
     ·rename_i c
      split at h
      ·rename_i hc
       rw[yw]at h;split at h
       ·rename_i e
        have:=AAh hx hy e;subst this;cases h;rw[Nat.eq_of_beq_eq_true hc]at hu;exact⟨List.mem_cons_self,.inr ⟨rfl,hu⟩⟩
       ·exact down h
      ·exact down h
     ·exact down h
   ·exact down h
  ·exact down h
theorem AKG{x:Nat}(hx:x<65535){v:Value}:∀{l:List Nat}{T:TP},yA (xR 16 x) (AFW l T)=.mk v->x∉l/\yA (xR 16 x) T=.mk v:=by
 intro l
 induction l with
 |nil=>intro T h;exact⟨by simp,h⟩
 |cons y l ih=>
  intro T h;simp only[AFW]at h;obtain⟨h1,h2⟩:=ih h;split at h2
  ·rename_i hy
   rw[yw]at h2;split at h2
   ·cases h2
   ·rename_i e
    exact⟨fun hm=>(List.mem_cons.1 hm).elim (fun q=>e (by rw[q])) h1,h2⟩
  ·rename_i hy
   have hy:¬y<65535:=fun hlt=>by rw[show Nat.blt y 65535=true by rw[Nat.blt_eq];exact hlt]at hy;cases hy
   exact⟨fun hm=>(List.mem_cons.1 hm).elim (fun q=>hy (q▸hx)) h1,h2⟩
theorem HR.grow{w0:W0}{E:En}{A:AH}{w w':World}(h:HR w0 E A w)(k:Below w.heap.size w w'):HR w0 E A w':=
 ⟨h.ext.trans (k.mono h.ext.size),h.len,fun b b' g hb=>⟨(h.base b b' g hb).1,Nat.lt_of_lt_of_le (h.base b b' g hb).2 k.size⟩,fun b o b' g ho hb=>(h.obj b o b' g ho hb).same fun _=>k.block b' (h.base b b' g hb).2,h.inj,h.hole⟩
theorem ERs.flat{E:En}:∀{l l':List MapEntry},(∀e∈l,wI e.val=true)->ERs E l l'->l'=l
 |[],_,_,h=>by cases h;rfl
 |e::l,_,hf,h=>by
  cases h with
  | @cons _ e' _ l' h1 h2=>
   obtain⟨q1,q2,q3⟩:=h1;have:=yg (hf e (by simp)) q3;rw[ERs.flat (fun x hx=>hf x (by simp[hx])) h2];cases e;cases e';simp_all
theorem ERs.same{E:En}:∀{l:List MapEntry},(∀e∈l,wI e.val=true)->ERs E l l
 |[],_=>.nil
 |e::l,hf=>.cons ⟨rfl,rfl,yc (hf e (by simp))⟩ (ERs.same fun x hx=>hf x (by simp[hx]))
theorem AH1{p q:Code}{L:MapLoop}(h:AEh p q=some L):∃id ops ty1 p1 af1 ty2 p2 af2 id' ops' ty3 p3 af3 ty4 p4 af4,p=.region id ops false/\
  ops.toList=[⟨some L.tM,.move (.tmp L.m),ty1,p1,af1,none⟩,⟨some L.g,.range L.t (.tmp L.tM),ty2,p2,af2,none⟩]/\
  q=.block L.B (.loop (.seq (.region id' ops' false) (.seq (.cond (.tmp L.d2) .skip (.exit L.B)) (.block L.C L.body))))/\
  ops'.toList=[⟨some L.d1,.next (.tmp L.g) false,ty3,p3,af3,none⟩,⟨some L.d2,.extract (.tmp L.d1) 0,ty4,p4,af4,none⟩]:=by
 unfold AEh at h;split at h
 ·cases h
 ·rename_i m tM g t hh
  split at h
  ·cases h
  ·rename_i B d1 d2 C body ht
   cases h;unfold AI6 at hh;split at hh
   ·rename_i id ops
    split at hh
    ·rename_i _ tM1 m1 ty1 p1 af1 g1 t1 tM2 ty2 p2 af2 hops
     split at hh
     ·rename_i hb
      have:=Nat.eq_of_beq_eq_true hb;subst this;cases hh;unfold AI8 at ht;split at ht
      ·rename_i _ B1 r cc B2 C1 body1
       split at ht
       ·rename_i e1 e2 hT
        split at ht
        ·rename_i hbb
         simp only[Bool.and_eq_true]at hbb;have h1:=Nat.eq_of_beq_eq_true hbb.1;have h2:=Nat.eq_of_beq_eq_true hbb.2;subst h1 h2;cases ht;unfold AI7 at hT;split at hT
         ·rename_i id' ops'
          split at hT
          ·rename_i _ f1 g2 ty3 p3 af3 f2 f3 ty4 p4 af4 hops'
           split at hT
           ·rename_i hc
            simp only[Bool.and_eq_true]at hc;have h1:=Nat.eq_of_beq_eq_true hc.1;have h2:=Nat.eq_of_beq_eq_true hc.2;subst h1 h2;cases hT;exact⟨id,ops,ty1,p1,af1,ty2,p2,af2,id',ops',ty3,p3,af3,ty4,p4,af4,rfl,hops,rfl,hops'⟩
           ·cases hT
          ·cases hT
         ·cases hT
        ·cases ht
       ·cases ht
      ·cases ht
     ·cases hh
    ·cases hh
   ·cases hh
noncomputable def dOf(P:Program)(nt:Nat)(L:MapLoop)(tk:TypeId)(D:Value->TP->TP)(T:TP)(e:MapEntry):Bool:=
 match AB5 P nt e tk L.body (D (.tuple #[.bool true,e.key,e.val]) T) A2 with
 |some (_,_,d)=>d
 |none=>false
theorem AEH{nt:Nat}{L:MapLoop}{tk:TypeId}{D:Value->TP->TP}{T:TP}:∀{es r:List MapEntry},AEi P nt L tk D T es=some r->
  (∀e∈es,∃T' A',AB5 P nt e tk L.body (D (.tuple #[.bool true,e.key,e.val]) T) A2=some (T',A',dOf P nt L tk D T e))/\r=es.filter (fun e=>!dOf P nt L tk D T e)
 |[],r,h=>by cases h;exact⟨fun e he=>(by cases he),rfl⟩
 |e::es,r,h=>by
  simp only[AEi]at h;split at h
  ·cases h
  ·rename_i T' A' d hd
   split at h
   ·cases h
   ·rename_i r' hr
    obtain⟨h1,h2⟩:=AEH hr;have hdd:dOf P nt L tk D T e=d:=by unfold dOf;rw[hd]
    refine⟨fun x hx=>?_,?_⟩
    ·rcases List.mem_cons.1 hx with rfl|hx
     ·exact⟨T',A',by rw[hdd];exact hd⟩
     ·exact h1 x hx
    ·cases d with
     |true=>cases h;rw[List.filter_cons_of_neg (by rw[hdd];simp)];exact h2
     |false=>cases h;rw[List.filter_cons_of_pos (by rw[hdd];simp),h2]
theorem ADo{a:Act}{d:Tmp}{v:Value}(h:d<a.tmps.size):(a.put (some d) v).eval (.tmp d)=v:=by
 simp[Act.put,Act.eval,h]
theorem AFA{a:Act}{t:Tmp}{v:Value}(h:a.tmps[t]?=some v):a.eval (.tmp t)=v:=by
 simp only[Act.eval]
 first
  |rw[h];rfl
  |(rw[Array.getD_eq_getD_getElem?,h];rfl)
  |simp[h]
end
end
section
section
variable {P:Program}{w0:W0}{nt:Nat}{L:MapLoop}{tk:TypeId}{es:List MapEntry}{c b r:Nat}{g:Nat×Nat×Nat}{ws:World}{E:En}{T0:TP}{a0:Act}{DM DG D1 D2:Value->TP->TP}{b0:Nat}
structure LI(ws:World)(nt:Nat)(L:MapLoop)(es:List MapEntry)(c b r:Nat)(dd:MapEntry->Bool)(a0:Act)(k:Nat)(a:Act)(w:World):Prop where
 size:nt<=a.tmps.size
 defers:a.defers=a0.defers
 keep:∀t,t∉AB6 L->a.tmps[t]?=a0.tmps[t]?
 tM:a.tmps[L.tM]?=some (.map (some b))
 tg:a.tmps[L.g]?=some (.pointer (some ⟨r,0,none⟩))
 st:∃sn:Array Nat,RM ws b r c (es.filter (fun e=>!(sn.contains e.born&&dd e))) sn w/\(es.filter (fun e=>!sn.contains e.born)).length=k
theorem ALI{t:Nat}(h:t∈ACk L):t∉AB6 L:=by
 unfold ACk at h;simp only[List.mem_filter,List.all_eq_true,Bool.not_eq_true']at h;intro hm;have:=h.2 t hm;simp at this
theorem AKH(h:AHe L=true):L.tM≠L.g/\∀u∈L.d1::L.d2::ABt (ABK L.body),u≠L.tM/\u≠L.g:=by
 unfold AHe at h;simp only[Bool.and_eq_true,List.all_eq_true,Bool.not_eq_true']at h;refine⟨fun e=>?_,fun u hu=>⟨fun e=>?_,fun e=>?_⟩⟩
 ·have:=h.1;rw[e]at this;simp at this
 ·have:=(h.2 u hu).1;rw[e]at this;simp at this
 ·have:=(h.2 u hu).2;rw[e]at this;simp at this
theorem AMg(hT:TR E T0 a0.tmps)(hE:E b0=some (b,g))(hM:AAI nt (some L.tM)=.mk DM)(hG:AAI nt (some L.g)=.mk DG){dd:MapEntry->Bool}{k:Nat}{a:Act}{w:World}(h:LI ws nt L es c b r dd a0 k a w):
  TR (E2 b r g fun _=>none) (DG (.pointer (some ⟨1,0,none⟩)) (DM (.map (some 0)) (AA6 b0 (ACk L) T0))) a.tmps:=by
 obtain⟨m1,m2,rfl⟩:=ABg hM;obtain⟨g1,g2,rfl⟩:=ABg hG;intro t v ht hv;dsimp only at hv;rw[yw]at hv;split at hv
 ·rename_i e
  have:=AAh ht g2 e;subst this;cases hv;exact⟨_,h.tg,.ptr (g:=(0,0,0)) rfl rfl (by simp[E2])⟩
 ·rw[yw]at hv
  split at hv
  ·rename_i e
   have:=AAh ht m2 e;subst this;cases hv;exact⟨_,h.tM,.map (g:=g) (by simp[E2])⟩
  ·obtain⟨q1,q2⟩:=ALH ht hv
   have hk:=h.keep t (ALI q1);rcases q2 with⟨q2,q3⟩|⟨rfl,q2⟩
   ·obtain⟨v',k1,k2⟩:=hT t v ht q2
    rw[yg q3 k2]at k1;exact⟨v,hk.trans k1,yc q3⟩
   ·obtain⟨v',k1,k2⟩:=hT t _ ht q2
    cases k2 with|map k2=>
    rw[hE]at k2;cases k2;exact⟨_,hk.trans k1,.map (g:=g) (by simp[E2])⟩
theorem AIi{dd:MapEntry->Bool}{sn:Array Nat}{e:MapEntry}(hn:(es.map (·.born)).Nodup)(he:e∈es)(hs:sn.contains e.born=false):
  (bif dd e then(es.filter (fun x=>!(sn.contains x.born&&dd x))).filter (fun x=>x.born !=e.born)else es.filter (fun x=>!(sn.contains x.born&&dd x)))=es.filter (fun x=>!((sn.push e.born).contains x.born&&dd x)):=by
 have hinj:∀x∈es,x.born=e.born->x=e:=fun x hx hb=>by
  obtain⟨i,hi,rfl⟩:=List.getElem_of_mem hx;obtain⟨j,hj,rfl⟩:=List.getElem_of_mem he;have:i=j:=(List.getElem_inj (h₀:=by simpa using hi) (h₁:=by simpa using hj) hn).1 (by simpa using hb);subst this
  rfl
 have hpc:∀x:MapEntry,(sn.push e.born).contains x.born=(sn.contains x.born||x.born==e.born):=fun x=>by
  rw[Array.contains_push]
 cases hd:dd e with
 |true=>
  rw[cond_true,List.filter_filter];refine List.filter_congr fun x hx=>?_;rw[hpc];by_cases hb:x.born=e.born
  ·have:=hinj x hx hb
   subst this;simp[hd]
  ·have:(x.born==e.born)=false:=by simpa using hb
   simp[bne,this]
 |false=>
  rw[cond_false];refine List.filter_congr fun x hx=>?_;rw[hpc];by_cases hb:x.born=e.born
  ·have:=hinj x hx hb
   subst this;simp[hd]
  ·have:(x.born==e.born)=false:=by simpa using hb
   simp[this]
theorem AKI{sn:Array Nat}{e:MapEntry}(he:e∈es)(hs:sn.contains e.born=false):(es.filter (fun x=>!(sn.push e.born).contains x.born)).length<(es.filter (fun x=>!sn.contains x.born)).length:=by
 rw[<-List.countP_eq_length_filter,<-List.countP_eq_length_filter];have hpc:∀x:MapEntry,(sn.push e.born).contains x.born=(sn.contains x.born||x.born==e.born):=fun x=>by
  rw[Array.contains_push]
 induction es with
 |nil=>cases he
 |cons x l ih=>
  have hle:List.countP (fun x=>!(sn.push e.born).contains x.born) l<=List.countP (fun x=>!sn.contains x.born) l:=List.countP_mono_left fun y _ hy=>by
   rw[hpc]at hy;simp at hy⊢;exact hy.1
  rcases List.mem_cons.1 he with rfl|he
  ·rw[List.countP_cons_of_neg (by rw[hpc];simp),List.countP_cons_of_pos (by rw[hs];rfl)]
   omega
  ·have:=ih he
   rw[List.countP_cons,List.countP_cons];generalize List.countP (fun x=>!(sn.push e.born).contains x.born) l=A at this⊢;generalize List.countP (fun x=>!sn.contains x.born) l=B at this⊢;by_cases hx:(sn.push e.born).contains x.born=true
   ·rw[hx]
    refine Nat.lt_of_lt_of_le (m:=B) (by simpa using this) (Nat.le_add_right _ _)
   ·have hx':sn.contains x.born=false:=by
     rw[hpc]at hx;simp at hx;simpa using hx.1
    have hx:(sn.push e.born).contains x.born=false:=by simpa using hx
    rw[hx,hx'];simp;omega
end
end
section
section
variable {P:Program}{w0:W0}
theorem ABv{ro:Option Nat}{n:Nat}{ops:Array Oper}{Q:Exit->Act->World->Prop}{o:Oper}{l:List Oper}{a:Act}{w w':World}{v:Value}(hg:o.guard=none)(hnd:∀c,o.op≠.defer c)
  (hrun:(execOp a.eval o).run P w=.ok (.value v) w') (h:wpListIn (Fw ro) n P ops Q l (a.put o.dst v) w'):wpListIn (Fw ro) n P ops Q (o::l) a w:=by
 have hw:Region.wanted o (yielded ops a.tmps)=true:=by unfold Region.wanted;rw[hg]
 unfold wpListIn;rw[if_pos hw];refine⟨fun _ _=>trivial,?_⟩;rw[Oper.semAt_eq _ _ _ hnd,hrun];exact h
theorem AKJ(hP:OkP P){nt:Nat}{p q:Code}{L:MapLoop}(hL:AEh p q=some L):CS P w0 nt (fun _ _ _ s=>AMM P nt L s) (.seq p q):=by
 intro ca rd n hca hrd E s a w x s' ro m hS hK;dsimp only at hK;unfold AMM at hK;split at hK
 ·cases hK
 ·rename_i hap
  obtain⟨ap1,ap2⟩:=AKH hap;split at hK
  ·rename_i tk te ht
   split at hK
   ·rename_i b hm
    obtain⟨hm1,hm2⟩:=ALG hm;split at hK
    ·rename_i es c hb
     split at hK
     ·rename_i hks
      have hKs:=AIg hks;obtain⟨DM,hDM,hK⟩:=Oc hK (by intro e;cases e);obtain⟨DG,hDG,hK⟩:=Oc hK (by intro e;cases e);obtain⟨D1,hD1,hK⟩:=Oc hK (by intro e;cases e);obtain⟨D2,hD2,hK⟩:=Oc hK (by intro e;cases e);split at hK
      ·cases hK
      ·rename_i rr hrr
       cases hK;obtain⟨rs1,rs2⟩:=AEH hrr;obtain⟨v',hv1,hv2⟩:=hS.tmps L.m _ hm1 hm2;cases hv2 with| @map _ b' g hE=>
       obtain⟨es0,hh,hes⟩:=hS.heap.obj _ _ _ _ hb hE;have hes0:=ERs.flat hKs.fv hes;have hbl:=hS.heap.base _ _ _ hE;obtain⟨id,ops,ty1,p1,af1,ty2,p2,af2,id',ops',ty3,p3,af3,ty4,p4,af4,rfl,hops,rfl,hops'⟩:=AH1 hL;obtain⟨m1,m2,_⟩:=ABg hDM;obtain⟨g1,g2,_⟩:=ABg hDG;obtain⟨d11,d12,_⟩:=ABg hD1;obtain⟨d21,d22,_⟩:=ABg hD2;have sz:=hS.size
       let a1:=(a.put (some L.tM) (.map (some b'))).put (some L.g) (.pointer (some ⟨w.heap.size,0,none⟩))
       let w1:=w.alloc (.mapIter (some b') c #[] c)
       have psz:∀(a:Act)(d:Tmp)(v:Value),(a.put (some d) v).tmps.size=a.tmps.size:=fun a d v=>by simp[Act.put]
       have hI:LI w nt L es c b' w.heap.size (dOf P nt L tk (fun v T=>D2 (.bool true) (D1 v T)) (DG (.pointer (some ⟨1,0,none⟩)) (DM (.map (some 0)) (AA6 b (ACk L) s.T)))) a (es.filter (fun e=>!(#[]:Array Nat).contains e.born)).length a1 w1:=by
        refine⟨by rw[psz,psz];exact sz,rfl,fun t ht=>?_,?_,?_,#[],?_,rfl⟩
        ·have h1:t≠L.tM:=fun e=>ht (by rw[e];simp[AB6])
         have h2:t≠L.g:=fun e=>ht (by rw[e];simp[AB6]);exact(AAZ fun e=>h2 (Option.some.inj e).symm).trans (AAZ fun e=>h1 (Option.some.inj e).symm)
        ·refine(AAZ fun e=>ap1 (Option.some.inj e).symm).trans ?_
         simp only[Act.put];rw[Array.getElem?_setIfInBounds_self_of_lt (show L.tM<a.tmps.size from Nat.lt_of_lt_of_le m1 sz)]
        ·show((a.put (some L.tM) (.map (some b'))).put (some L.g) (.pointer (some ⟨w.heap.size,0,none⟩))).tmps[L.g]?=_
         have:L.g<(a.put (some L.tM) (.map (some b'))).tmps.size:=by rw[psz];exact Nat.lt_of_lt_of_le g1 sz
         generalize a.put (some L.tM) (.map (some b'))=a' at this;simp only[Act.put];rw[Array.getElem?_setIfInBounds_self_of_lt this]
        ·have:es.filter (fun e=>!((#[]:Array Nat).contains e.born&&dOf P nt L tk (fun v T=>D2 (.bool true) (D1 v T)) (DG (.pointer (some ⟨1,0,none⟩)) (DM (.map (some 0)) (AA6 b (ACk L) s.T))) e))=es:=List.filter_eq_self.2 fun e _=>by simp
         rw[this];have hk:=Below.alloc (Below.refl w.heap.size w) (Nat.le_refl _) (.mapIter (some b') c #[] c);refine⟨hk.os,hk.tape,hk.output,hk.size,⟨hbl.2,Nat.le_refl _⟩,fun k hk' _=>hk.block k hk',AA9 _ _,(hk.block b' hbl.2).trans ?_⟩;rw[hh,<-hes0]
       refine wpIn_seq ?_;refine wpIn_region_list ?_;rw[hops];have hr1:(execOp a.eval ⟨some L.tM,.move (.tmp L.m),ty1,p1,af1,none⟩).run P w=.ok (.value (.map (some b'))) w:=by
        simp[execOp,AFA hv1]
       refine ABv rfl (by intro c e;cases e) hr1 ?_;have hr2:(execOp (a.put (some L.tM) (.map (some b'))).eval ⟨some L.g,.range L.t (.tmp L.tM),ty2,p2,af2,none⟩).run P w=.ok (.value (.pointer (some ⟨w.heap.size,0,none⟩))) w1:=by
        simp[execOp,ADo (a:=a) (d:=L.tM) (v:=.map (some b')) (Nat.lt_of_lt_of_le m1 sz),run_range_map w L.t tk te b' es0 c ht hh,w1]
       refine ABv rfl (by intro c e;cases e) hr2 ?_;show(Code.block L.B _).wpIn (Fw ro) m P _ a1 w1;refine wpIn_block ?_;generalize hdd:dOf P nt L tk (fun v T=>D2 (.bool true) (D1 v T)) (DG (.pointer (some ⟨1,0,none⟩)) (DM (.map (some 0)) (AA6 b (ACk L) s.T)))=dd at hI;refine AFn (fun k a1 w1=>LI w nt L es c b' w.heap.size dd a k a1 w1) ?_ _ hI;intro k a2 w2 hJ;obtain⟨sn,hM,hcnt⟩:=hJ.st;have hsub:∀f:MapEntry->Bool,(es.filter f).Sublist es:=fun f=>List.filter_sublist;refine wpIn_seq (wpIn_region_list ?_);rw[hops'];have ext:∀(vs:Array Value)(v:Value)(w3:World),vs[0]?=some v->(execOp (a2.put (some L.d1) (.tuple vs)).eval ⟨some L.d2,.extract (.tmp L.d1) 0,ty4,p4,af4,none⟩).run P w3=.ok (.value v) w3:=fun vs v w3 hv=>by
        have:=hJ.size;simp[execOp,ADo (a:=a2) (d:=L.d1) (v:=.tuple vs) (Nat.lt_of_lt_of_le d11 this),Instr.extract,hv]
       rcases run_next_at (P:=P) w2 ty3 w.heap.size b' c c sn (es.filter (fun e=>!(sn.contains e.born&&dd e))).toArray c hM.it hM.mp (fun e he=>hKs.lt e (by simp only[List.mem_filter]at he;exact he.1)) (Nat.le_refl _)with⟨hz,hnx⟩|⟨e,he,w3,hw3,hnx⟩
       ·have hrun:(execOp a2.eval ⟨some L.d1,.next (.tmp L.g) false,ty3,p3,af3,none⟩).run P w2=.ok (.value (.tuple #[.bool false])) w2:=by
         simp[execOp,AFA hJ.tg,hnx]
        refine ABv rfl (by intro c e;cases e) hrun (ABv rfl (by intro c e;cases e) (ext #[.bool false] (.bool false) w2 rfl) ?_);have sz2:=hJ.size;refine wpIn_seq (wpIn_cond_false (ADo (by rw[psz];exact Nat.lt_of_lt_of_le d21 sz2)) (wpIn_exit ?_));show Exit.inBlock L.B _ (.exit L.B) _ _;unfold Exit.inBlock;dsimp only;rw[if_pos rfl];have hall:∀e∈es,sn.contains e.born=true:=fun e he=>by
         cases hs:sn.contains e.born with
         |true=>rfl
         |false=>
          have hm:e∈(leftOf (es.filter (fun e=>!(sn.contains e.born&&dd e))).toArray sn).toList:=by
           unfold leftOf;simp only[Array.toList_filter,List.mem_filter];exact⟨⟨he,by rw[hs];rfl⟩,by rw[hs];rfl⟩
          have h0:(leftOf (es.filter (fun e=>!(sn.contains e.born&&dd e))).toArray sn).toList=[]:=List.eq_nil_of_length_eq_zero (by simpa using hz);rw[h0]at hm;cases hm
        have hend:es.filter (fun e=>!(sn.contains e.born&&dd e))=rr:=by
         rw[rs2,hdd];exact List.filter_congr fun e he=>by rw[hall e he];rfl
        rw[hend]at hM;refine⟨E,En.le_rfl,trivial,⟨by rw[psz,psz];exact sz2,fun t v ht hv=>?_,?_,by rw[show((a2.put (some L.d1) (.tuple #[.bool false])).put (some L.d2) (.bool false)).defers=a2.defers from rfl,hJ.defers];exact hS.defers,hS.round⟩,rfl⟩
        ·obtain⟨k1,k2⟩:=AKG ht hv
         obtain⟨v',k3,k4⟩:=hS.tmps t v ht k2;have h1:L.d1≠t:=fun e=>k1 (by rw[<-e];simp[AB6]);have h2:L.d2≠t:=fun e=>k1 (by rw[<-e];simp[AB6]);exact⟨v',(((AAZ fun e=>h2 (Option.some.inj e)).trans (AAZ fun e=>h1 (Option.some.inj e))).trans (hJ.keep t k1)).trans k3,k4⟩
        ·have hsame:∀e∈rr,wI e.val=true:=fun e he=>hKs.fv e (by rw[rs2]at he;exact(hsub _).subset he);have hput:=hS.heap.put (o:=.map rr c) (w':=ChangeMaps.setBlock w b' (.map rr.toArray c)) hb rfl hE ⟨rr.toArray,by simp[ChangeMaps.setBlock,hbl.2],by simpa using ERs.same hsame⟩ (by simp[ChangeMaps.setBlock]) (fun k hk=>by simp only[ChangeMaps.setBlock];rw[Array.getElem?_setIfInBounds_ne (Ne.symm hk)]) rfl rfl rfl;refine hput.grow ⟨hM.os,hM.tape,hM.output,by simpa[ChangeMaps.setBlock]using hM.size,fun k hk=>?_⟩;have hk:k<w.heap.size:=by simpa[ChangeMaps.setBlock]using hk
         by_cases hkb:k=b'
         ·subst hkb
          rw[hM.mp];simp[ChangeMaps.setBlock,hbl.2]
         ·rw[hM.oth k hk hkb]
          simp only[ChangeMaps.setBlock];rw[Array.getElem?_setIfInBounds_ne (Ne.symm hkb)]
       ·have hm:e∈es.filter (fun e=>!(sn.contains e.born&&dd e))/\sn.contains e.born=false:=by
         unfold leftOf at he;simp only[Array.toList_filter,List.mem_filter]at he;exact⟨List.mem_filter.2 he.1,by simpa using he.2⟩
        have hee:e∈es:=(hsub _).subset hm.1;have hrun:(execOp a2.eval ⟨some L.d1,.next (.tmp L.g) false,ty3,p3,af3,none⟩).run P w2=.ok (.value (.tuple #[.bool true,e.key,e.val])) (ChangeMaps.setBlock w3 w.heap.size (.mapIter (some b') c (sn.push e.born) c)):=by
         simp[execOp,AFA hJ.tg,hnx]
        have hM3:RM w b' w.heap.size c (es.filter (fun e=>!(sn.contains e.born&&dd e))) (sn.push e.born) (ChangeMaps.setBlock w3 w.heap.size (.mapIter (some b') c (sn.push e.born) c)):=by
         rcases hw3 with rfl|rfl
         ·exact hM.turn _
         ·exact hM.drew.turn _
        generalize ChangeMaps.setBlock w3 w.heap.size (.mapIter (some b') c (sn.push e.born) c)=w4 at hM3 hrun;refine ABv rfl (by intro c e;cases e) hrun (ABv rfl (by intro c e;cases e) (ext #[.bool true,e.key,e.val] (.bool true) w4 rfl) ?_);have sz2:=hJ.size;refine wpIn_seq (wpIn_cond_true (ADo (by rw[psz];exact Nat.lt_of_lt_of_le d21 sz2)) (wpIn_skip ?_));show(Code.block L.C L.body).wpIn (Fw ro) m P _ ((a2.put (some L.d1) (.tuple #[.bool true,e.key,e.val])).put (some L.d2) (.bool true)) w4;obtain⟨T',A',hbody⟩:=rs1 e hee;rw[hdd]at hbody;have hTR:=AMg hS.tmps hE hDM hDG hJ;have hv:VR (E2 b' w.heap.size g fun _=>none) (.tuple #[.bool true,e.key,e.val]) (.tuple #[.bool true,e.key,e.val]):=.tuple (.cons (.bool _) (.cons (yc (hKs.fk e hee)) (.cons (yc (hKs.fv e hee)) .nil)));obtain⟨q1,q2,q3⟩:=AAr hD1 sz2 hTR hv;obtain⟨q4,q5,q6⟩:=AAr hD2 q2 q1 (.bool true);refine wpIn_block (wpIn_mono (AIh hP hKs (hsub _) hm.1 hM3 L.body _ _ T' A' (dd e) _ w4 hbody q5 ⟨_,HR.bare w4,q4⟩) fun y a5 w5 hy=>?_);obtain⟨rfl,r1,r2,r3,r4,r5⟩:=hy;rw[AIi hKs.nd hee hm.2]at r5;have hk5:∀t,t∉ABt (ABK L.body)->L.d1≠t->L.d2≠t->a5.tmps[t]?=a2.tmps[t]?:=fun t h1 h2 h3=>(r4 t h1).trans ((AAZ fun e=>h3 (Option.some.inj e)).trans (AAZ fun e=>h2 (Option.some.inj e)));refine⟨_,by rw[<-hcnt];exact AKI hee hm.2,r1,(r3.trans (q6.trans q3)).trans hJ.defers,fun t ht=>?_,?_,?_,sn.push e.born,r5,rfl⟩
        ·simp only[AB6,List.mem_cons,not_or]at ht
         exact(hk5 t ht.2.2.2.2 (Ne.symm ht.2.2.1) (Ne.symm ht.2.2.2.1)).trans (hJ.keep t (by simp only[AB6,List.mem_cons,not_or];exact ht))
        ·exact(hk5 _ (fun hm=>(ap2 _ (by simp[hm])).1 rfl) (ap2 _ (by simp)).1 (ap2 _ (by simp)).1).trans hJ.tM
        ·exact(hk5 _ (fun hm=>(ap2 _ (by simp[hm])).2 rfl) (ap2 _ (by simp)).2 (ap2 _ (by simp)).2).trans hJ.tg
     ·cases hK
    ·cases hK
   ·cases hK
  ·cases hK
end
end
section
section
variable {P:Program}{w0:W0}{E:En}
theorem PostC.step{nt:Nat}{E':En}{s s1 s':St}{x:Ax}{ro:Option Nat}{e:Exit}{a:Act}{w:World}(h:PostC w0 nt E' s1 x s' ro e a w)(hle:En.le E E')(hr:s1.rd=s.rd):PostC w0 nt E s x s' ro e a w:=by
 obtain⟨E2,h1,h2,h3,h4⟩:=h;exact⟨E2,hle.trans h1,h2,h3,h4.trans hr⟩
theorem AAx{b:Frame}{a:Act}{k:List Item}{cs:List Frame}{w:World}{c:Code}:step P (lone (b.atR a (.code (.scope c)::k)) cs w)=.next (lone (b.atR a (.code c::.inScope c::k)) cs w):=
 step_lone_go (by simp[stepG,stepG.exec,Frame.atR])
theorem AG2{b:Frame}{a:Act}{k:List Item}{cs:List Frame}{w:World}{c:Code}:step P (lone (b.atR a (.inScope c::k)) cs w)=.next (lone (b.atR a k) cs w):=
 step_lone_go (by simp[stepG,stepG.exec,Frame.atR])
theorem AKK{F:Fence}{n:Nat}{Q:Exit->Act->World->Prop}{c:Code}{a:Act}{w:World}(hg:∀l a w,¬Q (.goto l) a w)(h:c.wpIn F n P Q a w):(Code.scope c).wpIn F n P Q a w:=by
 intro b k cs hro hb hr;obtain⟨e,a₁,w₁,hq,harr⟩:=h b (.inScope c::k) cs hro hb hr;have h0:(lone (b.atR a (.code (.scope c)::k)) cs w).fenced P F:=fenced_calm hb hr rfl;cases e with
 |normal=>exact⟨.normal,a₁,w₁,hq,.head h0 AAx (StepsIn.trans harr (.one (fenced_calm hb hr rfl) AG2))⟩
 |exit id=>
  have hx:exitTo id (.inScope c::k)=exitTo id k:=by simp[exitTo]
  exact⟨_,a₁,w₁,hq,fun k' hk=>.head h0 AAx (harr.1 k' (by rw[hx];exact hk)),
   fun hr' hk=>let⟨k₁,h1,h2⟩:=harr.2 hr' (by rw[hx];exact hk);⟨k₁,h1,.head h0 AAx h2⟩⟩
 |goto l=>exact absurd hq (hg l a₁ w₁)
 |ret=>exact⟨_,a₁,w₁,hq,.of_steps (.one h0 AAx) harr⟩
 |panic ch=>exact⟨_,a₁,w₁,hq,.of_steps (.one h0 AAx) harr⟩
 |outgrown=>exact⟨_,a₁,w₁,hq,.of_steps (.one h0 AAx) harr⟩
theorem AAy(hP:OkP P){nt:Nat}(c:Code):∀{K:CK},zV P nt c=.mk K->CS P w0 nt K c:=by
 induction c with
 |skip=>intro K h;cases h;intro ca rd n hca hrd E s a w x s' ro m hS hK;cases hK;exact wpIn_skip ⟨E,En.le_rfl,trivial,hS,rfl⟩
 |label l=>intro K h;cases h;intro ca rd n hca hrd E s a w x s' ro m hS hK;cases hK;exact wpIn_label ⟨E,En.le_rfl,trivial,hS,rfl⟩
 |ret=>intro K h;cases h;intro ca rd n hca hrd E s a w x s' ro m hS hK;cases hK;exact wpIn_ret ⟨E,En.le_rfl,trivial,hS,rfl⟩
 |exit id=>intro K h;cases h;intro ca rd n hca hrd E s a w x s' ro m hS hK;cases hK;exact wpIn_exit ⟨E,En.le_rfl,rfl,hS,rfl⟩
 |goto l=>intro K h;cases h
 |refuse y=>intro K h;cases h
 |seq p q ihp ihq=>
  intro K h;simp only[zV]at h;split at h
  ·rename_i L hL
   cases h;exact AKJ hP hL
  cases h;intro ca rd n hca hrd E s a w x s' ro m hS hK;obtain⟨X,hX,hK⟩:=Oc hK (by intro e;cases e);cases hx:X ca rd n s with
  |no u v=>rw[hx]at hK;cases hK
  |ok y s1=>
   rw[hx]at hK;refine wpIn_seq (wpIn_mono (ihp hX ca rd n hca hrd E s a w y s1 ro m hS hx) fun e a1 w1 he=>?_);cases y with
   |normal=>
    have:=he.normal;subst this;obtain⟨E1,h1,_,h3,h4⟩:=he;obtain⟨Y,hY,hK⟩:=Oc hK (by intro e;cases e);exact wpIn_mono (ihq hY ca rd n hca hrd E1 s1 a1 w1 x s' ro m h3 hK) fun e a2 w2 he=>he.step h1 h4
   |exit j=>
    cases hK;obtain⟨E1,h1,h2,h3,h4⟩:=he;cases e<;>first|exact h2.elim|exact⟨E1,h1,h2,h3,h4⟩
   |ret=>
    cases hK;obtain⟨E1,h1,h2,h3,h4⟩:=he;cases e<;>first|exact h2.elim|exact⟨E1,h1,h2,h3,h4⟩
 |cond c p q ihp ihq=>
  intro K h;simp only[zV]at h;cases h;intro ca rd n hca hrd E s a w x s' ro m hS hK;obtain⟨C,hC,hK⟩:=Oc hK (by intro e;cases e);split at hK
  ·rename_i hc
   have hv:=yN hC hc hS.tmps;generalize hz:a.eval c=z at hv;cases hv;obtain⟨X,hX,hK⟩:=Oc hK (by intro e;cases e);exact wpIn_cond_true hz (ihp hX ca rd n hca hrd E s a w x s' ro m hS hK)
  ·rename_i hc
   have hv:=yN hC hc hS.tmps;generalize hz:a.eval c=z at hv;cases hv;obtain⟨X,hX,hK⟩:=Oc hK (by intro e;cases e);exact wpIn_cond_false hz (ihq hX ca rd n hca hrd E s a w x s' ro m hS hK)
  ·cases hK
 |block id p ih=>
  intro K h;simp only[zV]at h;cases h;intro ca rd n hca hrd E s a w x s' ro m hS hK;obtain⟨X,hX,hK⟩:=Oc hK (by intro e;cases e);cases hx:X ca rd n s with
  |no u v=>rw[hx]at hK;cases hK
  |ok y s1=>
   rw[hx]at hK;refine wpIn_block (wpIn_mono (ih hX ca rd n hca hrd E s a w y s1 ro m hS hx) fun e a1 w1 he=>?_);obtain⟨E1,h1,h2,h3,h4⟩:=he;cases y with
   |normal=>cases hK;cases e<;>first|exact h2.elim|exact⟨E1,h1,h2,h3,h4⟩
   |ret=>cases hK;cases e<;>first|exact h2.elim|exact⟨E1,h1,h2,h3,h4⟩
   |exit j=>
    cases e<;>try exact h2.elim
    rename_i j';have h2:j'=j:=h2;subst h2;dsimp only at hK;unfold Exit.inBlock;dsimp only;split at hK
    ·rename_i hb
     have:=Nat.eq_of_beq_eq_true hb;cases hK;rw[if_pos this];exact⟨E1,h1,trivial,h3,h4⟩
    ·rename_i hb
     have:=Nat.ne_of_beq_eq_false hb;cases hK;rw[if_neg this];exact⟨E1,h1,rfl,h3,h4⟩
 |loop p ih=>
  intro K h;simp only[zV]at h;cases h;intro ca rd n hca hrd E s a w x s' ro m hS hK;obtain⟨X,hX,hK⟩:=Oc hK (by intro e;cases e);exact AJ8 (ih hX) ca rd n hca hrd E s a w x s' ro m hS hK
 |scope p ih=>
  intro K h;simp only[zV]at h;cases h;intro ca rd n hca hrd E s a w x s' ro m hS hK;obtain⟨X,hX,hK⟩:=Oc hK (by intro e;cases e);refine AKK (fun l a w hq=>?_) (ih hX ca rd n hca hrd E s a w x s' ro m hS hK);obtain⟨_,_,h2,_⟩:=hq;cases x<;>exact h2.elim
 |rangeFunc g ps az b _ _=>intro K h;cases h;exact AIc
 |region id ops draw=>
  intro K h;cases draw with
  |true=>
   simp only[zV]at h;cases h;intro ca rd n hca hrd E s a w x s' ro m hS hK;obtain⟨L,hL,hK⟩:=Oc hK (by intro e;cases e);obtain⟨f,r,T,ms,A⟩:=s;dsimp only at hK;split at hK
   ·rename_i T' A' hLr
    cases hK;refine AIf hP hL hca hrd hLr hS.size hS.tmps hS.heap fun E' a' w' h1 h2 h3 h4 h5=>?_;exact⟨E',h1,trivial,⟨h2,h3,h4,by rw[h5];exact hS.defers.mono h1,hS.round.mono h1⟩,rfl⟩
   ·cases hK
  |false=>
   simp only[zV]at h;cases h;intro ca rd n hca hrd E s a w x s' ro m hS hK;obtain⟨L,hL,hK⟩:=Oc hK (by intro e;cases e);obtain⟨f,r,T,ms,A⟩:=s;refine wpIn_region_list (AK3 hP _ hL (hca _) (hrd _) hS.size hS.tmps hS.heap hK fun E' T' a' w' A' h1 h2 h3 h4 h5 h6 h7=>?_);subst h6 h7;exact⟨E',h1,trivial,⟨h2,h3,h4,by rw[h5];exact hS.defers.mono h1,hS.round.mono h1⟩,rfl⟩
theorem ALJ{nt:Nat}:∀(ps:List Tmp)(xs xs':List Value)(T:TP)(tm:Array Value),(∀t∈ps,t<nt/\t<65535)->nt<=tm.size->VRs E xs xs'->TR E T tm->
  TR E (ACl ps xs T) ((ps.zip xs').foldl (fun tmps(p:Tmp×Value)=>tmps.setIfInBounds p.1 p.2) tm)/\nt<=((ps.zip xs').foldl (fun tmps(p:Tmp×Value)=>tmps.setIfInBounds p.1 p.2) tm).size:=by
 intro ps
 induction ps with
 |nil=>intro xs xs' T tm _ hs _ hT;simp[ACl];exact⟨hT,hs⟩
 |cons t ps ih=>
  intro xs xs' T tm hp hs hx hT;cases hx with
  |nil=>simp[ACl];exact⟨hT,hs⟩
  | @cons v v' _ _ h1 h2=>
   simp only[ACl,List.zip_cons_cons,List.foldl_cons];obtain⟨q1,q2⟩:=hp t (by simp);have hD:AAI nt (some t)=.mk fun v T=>ACE (xR 16 t) (.mk v) T:=by
    simp only[AAI];have b1:Nat.blt t nt=true:=by rw[Nat.blt_eq];exact q1
    have b2:Nat.blt t 65535=true:=by rw[Nat.blt_eq];exact q2
    rw[b1,b2]
    rfl
   obtain⟨k1,k2,_⟩:=AAr (a:=⟨tm,[]⟩) hD hs hT h1;exact ih _ _ _ _ (fun u hu=>hp u (by simp[hu])) k2 h2 k1
theorem AH3{l l':Nat}{g:Nat×Nat×Nat}{x:Ax}{s2:St}{v:Value}{A':AH}{e:Exit}{a2:Act}{w2:World}(h:AHg l x s2=.ok v A')(hx:ExR x e)(hH:HR w0 E s2.A w2)(hE:E l=some (l',g)){E0:En}(hle:En.le E0 E):
  roundPost P l' (AE9 w0 E0 v A') e a2 w2:=by
 unfold AHg at h;split at h
 ·rename_i r hr
  have key:∀(jump:Option Code)(st:LoopState),st=(if jump.isNone then LoopState.ready else .done)->∃w',(Instr.endRound l' jump).run P w2=.ok (.bool jump.isNone) w'/\HR w0 E (s2.A.put l (.loop {r with state:=st,pending:=jump})) w':=by
   intro jump st hst;subst hst;obtain⟨r',k1,k2,k3⟩:=hH.turn hr hE (if jump.isNone then .ready else .done) jump;exact⟨_,run_endRound jump k1,k3⟩
  split at h
  ·cases e<;>try exact hx.elim
   cases h;obtain⟨w',k1,k2⟩:=key none .ready rfl;exact⟨_,w',k1,E,.bool true,rfl,hle,.bool _,k2⟩
  ·cases e<;>try exact hx.elim
   cases h;obtain⟨w',k1,k2⟩:=key (some .ret) .done rfl;exact⟨_,w',k1,E,.bool false,rfl,hle,.bool _,k2⟩
  ·cases e<;>try exact hx.elim
   rename_i j j';have hx:j'=j:=hx;subst hx;cases h;obtain⟨w',k1,k2⟩:=key (some (.exit j')) .done rfl;exact⟨_,w',k1,E,.bool false,rfl,hle,.bool _,k2⟩
 ·cases h
theorem AIj(hP:OkP P){ca:vW}{rd:tZ}{n:Nat}(hca:∀w,CaS P w ca)(hrd:∀w,RdS P w rd):RdS P w0 (AHh P ca rd n):=by
 intro E l l' g xs A v A' xs' w m hK hE hxs hH;unfold AHh at hK;split at hK
 ·rename_i r hr
  split at hK
  ·rename_i hst
   split at hK
   ·cases hK
   ·rename_i hlen
    have hlen:=Nat.eq_of_beq_eq_true hlen;obtain⟨r',k1,k2⟩:=hH.obj _ _ _ _ hr hE;have hsz:xs'.size=r'.params.size:=by
     have h1:=hxs.length;have h2:=congrArg List.length k2.params;simp only[Array.length_toList]at h1 h2;omega
    split at hK
    ·cases hK
    ·rename_i s1 hap
     obtain⟨X,hX,hx⟩:=Oc hap (by intro e;cases e);refine⟨r'.fn,_,r'.assign,r'.body,run_yield k1 hsz,roundIn_of_wpIn trivial ?_⟩;rw[k2.assign,k2.body];have hz:=ALJ r.params xs xs'.toList r.tmps r'.tmps k2.pok k2.size hxs k2.tmps;have hfold:(r'.params.zip xs').foldl (fun tmps(p:Tmp×Value)=>tmps.setIfInBounds p.1 p.2) r'.tmps=(r.params.zip xs'.toList).foldl (fun tmps(p:Tmp×Value)=>tmps.setIfInBounds p.1 p.2) r'.tmps:=by
      rw[<-Array.foldl_toList,Array.toList_zip,k2.params]
     rw[<-hfold]at hz;have hS:SR w0 r.nt E ⟨l,some l,ACl r.params xs r.tmps,[],A⟩ {tmps:=(r'.params.zip xs').foldl (fun tmps(p:Tmp×Value)=>tmps.setIfInBounds p.1 p.2) r'.tmps,defers:=[]} w (some l'):=⟨hz.2,hz.1,hH,.nil,g,hE⟩;refine wpIn_mono (AAy hP _ hX ca rd n hca hrd E _ _ w .normal s1 (some l') m hS hx) fun e a1 w1 he=>?_;have:=he.normal;subst this;obtain⟨E1,h1,_,h3,h4⟩:=he;unfold round2 at hK;split at hK
     ·rename_i r1 hr1
      split at hK
      ·rename_i hst1
       split at hK
       ·cases hK
       ·rename_i x s2 hap2
        obtain⟨Y,hY,hy⟩:=Oc hap2 (by intro e;cases e);obtain⟨r1',q1,q2,q3⟩:=h3.heap.turn hr1 (FH h1 hE) .busy r1.pending;refine⟨_,run_beginRound q1 (by rw[q2.state];exact hst1),?_⟩;have hS2:SR w0 r.nt E1 {s1 with A:=s1.A.put l (.loop {r1 with state:=.busy})} a1 (w1.putObj l' (.loop {r1' with state:=.busy})) (some l'):=by
         refine⟨h3.size,h3.tmps,?_,h3.defers,h3.round⟩;have e:(Obj.loop {r1' with state:=.busy,pending:=r1.pending})=.loop {r1' with state:=.busy}:=by rw[<-q2.pending]
         rw[e]at q3;exact q3
        refine wpIn_mono (AAy hP _ hY ca rd n hca hrd E1 _ a1 _ x s2 (some l') m hS2 hy) fun e a2 w2 he=>?_;obtain⟨E2,p1,p2,p3,p4⟩:=he;exact AH3 hK p2 p3.heap (FH (h1.trans p1) hE) (h1.trans p1)
      ·cases hK
     ·cases hK
    ·cases hK
  ·cases hK
 ·cases hK
end
end
section
section
variable {P:Program}{w0:W0}{E:En}
theorem AH4(hP:OkP P){g:FuncId}{fn:Func}{c:Code}{args:Array Value}{w:World}(hf:P.funcs[g]?=some fn)(hb:fn.body=some c):(callFunc g args).run P w=.ok (.enter g args) w:=by
 have hn:=hP.name g fn hf;have hb2:fn.body.isNone=false:=by rw[hb];rfl
 unfold callFunc;rw[Sem.run_bind];show(match P.funcs[g]? with|none=>_|some fn=>_:Sem Next).run P w=_;rw[hf];dsimp only;rw[hn,hb2]
 rfl
theorem AIk:∀(args args':List Value)(i:Nat)(T:TP)(tm:Array Value),VRs E args args'->TR E T tm->(∀j v,args'[j]?=some v->tm[i+j]?=some v)->i+args.length<=65535->TR E (AFa i args T) tm:=by
 intro args
 induction args with
 |nil=>intro args' i T tm _ hT _ _;exact hT
 |cons v args ih=>
  intro args' i T tm hv hT hj hl;simp only[List.length_cons]at hl;cases hv with| @cons _ v' _ l' h1 h2=>
  refine ih l' (i+1) _ tm h2 ?_ (fun j u hu=>by have:=hj (j+1) u hu;rw[show i+1+j=i+(j+1) by omega];exact this) (by omega);intro t u ht hu;rw[yw]at hu;split at hu
  ·rename_i he
   have:=AAh ht (by omega) he;subst this;cases hu;exact⟨v',hj 0 v' rfl,h1⟩
  ·exact hT t u ht hu
theorem AIl{fn:Func}{tmps:Array Value}{m:Nat}{R:Ending->World->Prop}:∀(bs:List Nat)(ds:List Deferred)(A A2:AH)(w:World),AEj bs A=some A2->DM E bs ds->HR w0 E A w->
  (∀w2,HR w0 E A2 w2->LeavesIn Fence.wide m P fn tmps R [] .returning w2)->LeavesInM Fence.wide m P fn tmps R ds .returning w:=by
 intro bs
 induction bs with
 |nil=>intro ds A A2 w h hd hH hR;cases hd;cases h;exact hR w hH
 |cons b bs ih=>
  intro ds A A2 w h hd hH hR;cases hd with| @cons _ b' g _ ds hb ht=>
  simp only[AEj]at h;split at h
  ·rename_i hA
   have ho:=hH.obj _ _ _ _ hA hb;have ho:w.heap[b']?=some (.deferred (some [])):=ho;have hlt:=(hH.base _ _ _ hb).2;obtain⟨k1,k2⟩:=AEw (w:=w) (b:=b') (o:=.deferred none);exact⟨(by intro e;cases e),.inl ⟨b',_,rfl,run_takeDeferred ho,ih ds _ A2 _ h ht (hH.put hA rfl hb (World.putObj_heap_same hlt) k1 k2 rfl rfl rfl) hR⟩⟩
  ·cases h
theorem AKL{t:TypeId}{p p':Addr}{A:AH}{w:World}{v:Value}(h:AMN P t p A=some v)(hp:VR E (.pointer (some p)) (.pointer (some p')))(hH:HR w0 E A w):
  ∃(E':En)(v':Value),(Go.loadVar t p').run P w=.ok v' w/\En.le E E'/\VR E' v v'/\HR w0 E' A w:=by
 unfold AMN at h;split at h
 ·cases h
 ·rename_i d hd
  have hun:P.underlying t≠none:=by rw[hd];exact fun e=>by cases e
  obtain⟨A',hl,e⟩:=AFj hun h;subst e;obtain⟨E',v',w',h1,h2,h3,h4⟩:=Sim.loadVar hp E A' w En.le_rfl hH v A' hl;have hw:w'=w:=by
   unfold Go.loadVar at h2;have hq:=(Q.isAgg (P:=P) (t:=t) A' _ A' (AFh hun)).2 w;rw[I9 hq]at h2;cases hg:AD9 P t with
   |true=>
    rw[hg,if_pos rfl]at h2;obtain⟨inf,hi⟩:=AHn hd;rw[I9 (ADl hi),Sem.run_bind]at h2;cases hr:(Go.loadCells p' (P.cellsOf t)).run P w with
    |halt x y=>rw[hr]at h2;cases h2
    |ok c w2=>rw[hr]at h2;cases h2;exact ADA _ hr
   |false=>
    rw[hg]at h2;simp only[Bool.false_eq_true,if_false,Go.load,Sem.run]at h2;split at h2
    ·cases h2;rfl
    ·split at h2
     ·cases h2;rfl
     ·cases h2
  subst hw;exact⟨E',v',h2,h1,h3,h4⟩
theorem AKM{T:TP}{a:Act}{A:AH}{w:World}{g:ResultVar->Sem Value}(hg1:∀t,g (.tmp t)=Pure.pure (a.tmps.getD t undef))(hg2:∀c t,g (.cell c t)=(do Go.loadVar t (<-asAddr (a.tmps.getD c undef)))):∀(l:List ResultVar)(E:En)(vs:List Value),TR E T a.tmps->HR w0 E A w->AGC P l T A=some vs->
  ∃(E':En)(vs':List Value),(l.mapM g).run P w=.ok vs' w/\En.le E E'/\VRs E' vs vs'/\HR w0 E' A w:=by
 have tv:∀{E:En}{t:Nat}{v:Value},TR E T a.tmps->AE5 t T=.mk v->∃v',a.tmps.getD t undef=v'/\VR E v v':=by
  intro E t v hT h;unfold AE5 at h;split at h
  ·rename_i hb
   obtain⟨v',h1,h2⟩:=hT t v (by simpa[Nat.blt_eq]using hb) h;exact⟨v',by simp[Array.getD_eq_getD_getElem?,h1],h2⟩
  ·cases h
 intro l
 induction l with
 |nil=>intro E vs hT hH h;cases h;exact⟨E,[],rfl,En.le_rfl,.nil,hH⟩
 |cons r l ih=>
  intro E vs hT hH h;rw[List.mapM_cons];cases r with
  |tmp t=>
   simp only[AGC]at h;split at h
   ·rename_i v hv
    split at h
    ·rename_i us hus
     cases h;obtain⟨v',e1,e2⟩:=tv hT hv;obtain⟨E',vs',k1,k2,k3,k4⟩:=ih E us hT hH hus;refine⟨E',v'::vs',?_,k2,.cons (e2.mono k2) k3,k4⟩;rw[hg1,e1];exact(I9 (s:=(Pure.pure v':Sem Value)) rfl).trans ((I9 k1).trans rfl)
    ·cases h
   ·cases h
  |cell c t=>
   simp only[AGC]at h;split at h
   ·rename_i p hp
    split at h
    ·rename_i v hv
     split at h
     ·rename_i us hus
      cases h;obtain⟨z,e1,e2⟩:=tv hT hp;obtain⟨p',e3⟩:=ACX e2;rw[e3]at e2 e1;obtain⟨E1,v',q1,q2,q3,q4⟩:=AKL hv e2 hH;obtain⟨E',vs',k1,k2,k3,k4⟩:=ih E1 us (hT.mono q2) q4 hus;refine⟨E',v'::vs',?_,q2.trans k2,.cons (q3.mono k2) k3,k4⟩;rw[hg2,e1];have:(do Go.loadVar t (<-asAddr (.pointer (some p'))):Sem Value).run P w=.ok v' w:=(I9 (s:=asAddr (.pointer (some p'))) rfl).trans q1;exact(I9 this).trans ((I9 k1).trans rfl)
     ·cases h
    ·cases h
   ·cases h
def AMh(tm:Array Value):ResultVar->Sem Value
 |.tmp t=>Pure.pure (tm.getD t undef)
 |.cell c t=>do Go.loadVar t (<-asAddr (tm.getD c undef))
theorem AN5{vs vs':List Value}(h:VRs E vs vs'):VR E (AOc vs) (if h:vs'.length=1 then vs'[0]else .tuple vs'.toArray):=by
 cases h with
 |nil=>exact .tuple .nil
 |cons h1 h2=>
  cases h2 with
  |nil=>exact h1
  |cons h3 h4=>exact .tuple (.cons h1 (.cons h3 h4))
theorem AFr{fn:Func}{s s0:St}{x:Ax}{e:Exit}{a':Act}{w':World}{m:Nat}{v:Value}{A':AH}(hp:PostC w0 fn.ntmps E s0 x s none e a' w')(hk:ADi P fn s=.ok v A'){R:Ending->World->Prop}(hR:∀e w,AE9 w0 E v A' e w->R e w):LeavesInM Fence.wide m P fn a'.tmps R a'.defers .returning w':=by
 obtain⟨E1,h1,h2,h3,_⟩:=hp;unfold ADi at hk;split at hk
 ·cases hk
 ·rename_i A2 htk
  split at hk
  ·rename_i vs hvs
   cases hk;refine AIl _ _ _ _ _ htk h3.defers h3.heap fun w2 hH2=>?_;obtain⟨E2,vs',k1,k2,k3,k4⟩:=AKM (g:=AMh a'.tmps) (fun _=>rfl) (fun _ _=>rfl) _ E1 vs h3.tmps hH2 hvs;refine⟨_,?_,hR _ _ ⟨E2,_,rfl,h1.trans k2,AN5 k3,k4⟩⟩;have:(fn.results.mapM (AMh a'.tmps)).run P w2=.ok vs'.toArray w2:=by
    rw[Array.mapM_eq_mapM_toList];exact I9 (k:=fun l=>Pure.pure (List.toArray l)) k1
   show(do let vs<-fn.results.mapM (AMh a'.tmps);Pure.pure (if h:vs.size=1 then vs[0]else .tuple vs):Sem Value).run P w2=_;refine(I9 this).trans ?_;simp only[List.size_toArray];split<;>rfl
  ·cases hk
theorem AKN(hP:OkP P){ca:vW}{rd:tZ}{n:Nat}(hca:∀w,CaS P w ca)(hrd:∀w,RdS P w rd):CaS P w0 (AJp P ca rd n):=by
 intro E f args A v A' args' w m hK hargs hH;unfold AJp at hK;split at hK
 ·cases hK
 ·rename_i fn hf
  split at hK
  ·cases hK
  ·rename_i c hb
   refine⟨AH4 hP hf hb,callsIn_of_wp_marks hf hb trivial ?_⟩;split at hK
   ·cases hK
   ·rename_i hlen
    rw[Nat.blt_eq]at hlen;have hal:args'.size=args.length:=by have:=hargs.length;simpa using this
    have hS:SR w0 fn.ntmps E ⟨f,none,AFa 0 args .lf,[],A⟩ {tmps:=args'++Array.replicate (fn.ntmps-args'.size) undef,defers:=[]} w none:=by
     refine⟨by simp;omega,AIk args args'.toList 0 .lf _ hargs (fun t u _ hu=>by rw[AAM]at hu;cases hu) (fun j u hu=>?_) (by omega),hH,.nil,trivial⟩;rw[Nat.zero_add];have:j<args'.size:=by simpa using(List.getElem?_eq_some_iff.1 hu).1
     rw[Array.getElem?_append_left this];simpa using hu
    have fin:∀{s:St}{x:Ax}{e:Exit}{a':Act}{w':World},(x=.normal\/x=.ret)->PostC w0 fn.ntmps E ⟨f,none,AFa 0 args .lf,[],A⟩ x s none e a' w'->ADi P fn s=.ok v A'->bodyPostM Fence.wide m P fn (AE9 w0 E v A') e a' w':=by
     intro s x e a' w' hx hp hk;have key:=AFr (m:=m) hp hk (fun _ _ h=>h);obtain⟨E1,h1,h2,h3,_⟩:=hp;rcases hx with rfl|rfl<;>cases e<;>first|exact h2.elim|exact key
    split at hK
    ·cases hK
    ·cases hK
    ·rename_i s hap
     obtain⟨X,hX,hx⟩:=Oc hap (by intro e;cases e);exact wpIn_mono (AAy hP _ hX ca rd n hca hrd E _ _ w .normal s none m hS hx) fun e a' w' hp=>fin (.inl rfl) hp hK
    ·rename_i s hap
     obtain⟨X,hX,hx⟩:=Oc hap (by intro e;cases e);exact wpIn_mono (AAy hP _ hX ca rd n hca hrd E _ _ w .ret s none m hS hx) fun e a' w' hp=>fin (.inr rfl) hp hK
theorem AAa(hP:OkP P):∀n:Nat,(∀w,CaS P w (ABb P n).1)/\(∀w,RdS P w (ABb P n).2)
 |0=>⟨(fun _ _ _ _ _ _ _ _ _ _ h=>by cases h),(fun _ _ _ _ _ _ _ _ _ _ _ _ h=>by cases h)⟩
 |n+1=>⟨fun _=>AKN hP (AAa hP n).1 (AAa hP n).2,fun _=>AIj hP (AAa hP n).1 (AAa hP n).2⟩
end
end
section
structure Lit where
 ts:List (Nat×Value)
 bs:List AO
noncomputable section
def mkT:List (Nat×Value)->TP
 |[]=>.lf
 |p::l=>ACE (xR 16 p.1) (.mk p.2) (mkT l)
def mkA:List AO->AH->AH
 |[],A=>A
 |o::l,A=>mkA l (A.push o)
def Lit.st(L:Lit)(f:FuncId):St:=⟨f,none,mkT L.ts,[],mkA L.bs ⟨0,.lf⟩⟩
def eqB(ρ:List Nat)(b c:Nat):Bool:=match ρ[b]? with
 |some d=>Nat.beq d c
 |none=>false
def AKO(ρ:List Nat):Value->Value->Bool
 |.int k a,.int k' b=>decide (k=k')&&ieq a b
 |.bool a,.bool b=>a==b
 |.pointer none,.pointer none=>true
 |.pointer (some ⟨b,o,none⟩),.pointer (some ⟨b',o',none⟩)=>eqB ρ b b'&&Nat.beq o o'
 |.slice none l c,.slice none l' c'=>Nat.beq l l'&&Nat.beq c c'
 |.slice (some ⟨b,o,none⟩) l c,.slice (some ⟨b',o',none⟩) l' c'=>eqB ρ b b'&&Nat.beq o o'&&Nat.beq l l'&&Nat.beq c c'
 |.nilFunc,.nilFunc=>true
 |_,_=>false
def AGI(ρ:List Nat):List Value->List Value->Bool
 |[],[]=>true
 |a::l,b::m=>AKO ρ a b&&AGI ρ l m
 |_,_=>false
def eqR(ρ:List Nat):Value->Value->Bool
 |.agg a,.agg b=>AGI ρ a.toList b.toList
 |.tuple a,.tuple b=>AGI ρ a.toList b.toList
 |a,b=>AKO ρ a b
def eqO(ρ:List Nat):AO->AO->Bool
 |.cells cs e g,.cells cs' e' g'=>Nat.beq e e'&&Nat.beq g g'&&AGI ρ cs cs'
 |_,_=>false
def AKP(ρ:List Nat)(A:AH):List AO->List Nat->Bool
 |[],[]=>true
 |o::l,c::m=>(match kE A.t c with|some o'=>eqO ρ o o'|none=>false)&&AKP ρ A l m
 |_,_=>false
def AFs:List Nat->Bool
 |[]=>true
 |a::l=>(l.all fun b=>!Nat.beq a b)&&AFs l
def les(ρ:List Nat)(L:Lit)(s:St):Bool:=
 s.rd.isNone&&s.marks.isEmpty&&AFs ρ&&(L.ts.all fun p=>Nat.blt p.1 65535&&(match yA (xR 16 p.1) s.T with|.mk v=>eqR ρ p.2 v|.no=>false))&&AKP ρ s.A L.bs ρ
def AC5:Nat->Code->Code
 |0,c=>c
 |k+1,.seq _ b=>AC5 k b
 |_+1,c=>c
def AHE(P:Program)(nt:Nat)(ca:vW)(rd:tZ)(n:Nat):Nat->Code->St->Option St
 |0,_,s=>some s
 | k + 1, .seq a b, s => match (zV P nt a).ap (.no "head" 0) (fun X => X ca rd n s) with
  |.ok .normal s'=>AHE P nt ca rd n k b s'
  |_=>none
 |_+1,_,_=>none
def AAb(P:Program)(n:Nat)(f:FuncId)(j k:Nat)(L:Lit)(ρ:List Nat)(L':Lit):Bool:=
 match P.funcs[f]? with
 |none=>false
 |some fn=>match fn.body with
  |none=>false
  |some c=>match AHE P fn.ntmps (ABb P n).1 (ABb P n).2 n k (AC5 j c) (L.st f)with
   |some s=>les ρ L' s
   |none=>false
def ACR(P:Program)(n:Nat)(f:FuncId)(j:Nat)(L:Lit)(v:Value):Bool:=
 match P.funcs[f]? with
 |none=>false
 |some fn=>match fn.body with
  |none=>false
  | some c => match (zV P fn.ntmps (AC5 j c)).ap (.no "end" 0) (fun X => X (ABb P n).1 (ABb P n).2 n (L.st f)) with
   |.ok .ret s=>match ADi P fn s with
    |.ok v' _=>eqV v' v&&wI v
    |.no _ _=>false
   |_=>false
end
section
variable {P:Program}{E:En}
def Ren(ρ:List Nat)(E:En):En:=fun b=>(ρ[b]?).bind E
theorem AFB{ρ:List Nat}{b c:Nat}(h:eqB ρ b c=true):Ren ρ E b=E c:=by
 unfold eqB at h;unfold Ren;split at h
 ·rename_i d hd
  rw[hd,Nat.eq_of_beq_eq_true h]
  rfl
 ·cases h
theorem AJB{ρ:List Nat}{v u x:Value}(h:AKO ρ v u=true)(k:VR E u x):VR (Ren ρ E) v x:=by
 unfold AKO at h;split at h
 ·simp only[Bool.and_eq_true,decide_eq_true_eq,ADT]at h
  cases k;obtain⟨rfl,rfl⟩:=h;exact .int _ _
 ·simp only[beq_iff_eq]at h
  cases k;subst h;exact .bool _
 ·cases k;exact .nilp
 ·simp only[Bool.and_eq_true,Nat.beq_eq]at h
  obtain⟨h1,rfl⟩:=h;cases k with
  |ptr q1 q2 q3=>exact .ptr q1 q2 ((AFB h1).trans q3)
 ·simp only[Bool.and_eq_true,Nat.beq_eq]at h
  obtain⟨rfl,rfl⟩:=h;cases k;exact .nils _ _
 ·simp only[Bool.and_eq_true,Nat.beq_eq]at h
  obtain⟨⟨⟨h1,rfl⟩,rfl⟩,rfl⟩:=h;cases k with
  |sl q1 q2 q3 q4 q5 q6=>exact .sl q1 q2 ((AFB h1).trans q3) q4 q5 q6
  |sl0 q1 q2 q3=>exact .sl0 ((AFB h1).trans q1) q2 (fun _=>q3 rfl)
 ·cases k;exact .nilf
 ·cases h
theorem AGJ{ρ:List Nat}:∀{l m x:List Value},AGI ρ l m=true->VRs E m x->VRs (Ren ρ E) l x:=by
 intro l
 induction l with
 |nil=>
  intro m x h k;cases m with
  |nil=>cases k;exact .nil
  |cons=>cases h
 |cons a l ih=>
  intro m x h k;cases m with
  |nil=>cases h
  |cons b m=>
   simp only[AGI,Bool.and_eq_true]at h;cases k with|cons k1 k2=>exact .cons (AJB h.1 k1) (ih h.2 k2)
theorem AOn{ρ:List Nat}{v u x:Value}(h:eqR ρ v u=true)(k:VR E u x):VR (Ren ρ E) v x:=by
 unfold eqR at h;split at h
 ·cases k with|agg k=>exact .agg (AGJ h k)
 ·cases k with|tuple k=>exact .tuple (AGJ h k)
 ·exact AJB h k
theorem AN6{t:Nat}(ht:t<65535){v:Value}:∀{l:List (Nat×Value)},(∀p∈l,p.1<65535)->yA (xR 16 t) (mkT l)=.mk v->(t,v)∈l:=by
 intro l
 induction l with
 |nil=>intro _ h;rw[mkT,AAM]at h;cases h
 |cons p l ih=>
  intro hl h;rw[mkT,yw]at h;split at h
  ·rename_i he
   have:=AAh ht (hl p (by simp)) he;cases h;subst this;simp
  ·exact List.mem_cons_of_mem _ (ih (fun q hq=>hl q (by simp[hq])) h)
theorem AMi:∀(l:List AO)(A:AH),(mkA l A).next=A.next+l.length:=by
 intro l
 induction l with
 |nil=>intro A;rfl
 |cons o l ih=>intro A;rw[mkA,ih];cases A;simp[AH.push];omega
theorem AN7{b:Nat}{o:AO}:∀(l:List AO)(A:AH),kE (mkA l A).t b=some o->(A.next<=b/\l[b-A.next]?=some o)\/kE A.t b=some o:=by
 intro l
 induction l with
 |nil=>intro A h;exact .inr h
 |cons p l ih=>
  intro A h;rw[mkA]at h;rcases ih _ h with⟨h1,h2⟩|h2
  ·have hn:(A.push p).next=A.next+1:=by cases A;rfl
   rw[hn]at h1 h2;refine .inl ⟨by omega,?_⟩;rw[show b-A.next=b-(A.next+1)+1 by omega,List.getElem?_cons_succ];exact h2
  ·cases A with|mk n t=>
   rcases AAT h2 with⟨rfl,rfl⟩|⟨_,h3⟩
   ·exact .inl ⟨Nat.le_refl _,by simp⟩
   ·exact .inr h3
theorem AMj{ρ:List Nat}{A:AH}:∀(l:List AO)(m:List Nat),AKP ρ A l m=true->l.length=m.length/\∀(b:Nat)(o:AO),l[b]?=some o->∃c o',m[b]?=some c/\kE A.t c=some o'/\eqO ρ o o'=true:=by
 intro l
 induction l with
 |nil=>intro m h;cases m<;>first|exact⟨rfl,by simp⟩|cases h
 |cons o l ih=>
  intro m h;cases m with
  |nil=>cases h
  |cons c m=>
   simp only[AKP,Bool.and_eq_true]at h;obtain⟨h1,h2⟩:=ih m h.2;refine⟨by simp[h1],fun b p hb=>?_⟩;cases b with
   |zero=>
    simp only[List.getElem?_cons_zero,Option.some.injEq]at hb;subst hb;have h3:=h.1;split at h3
    ·rename_i o' ho'
     exact⟨c,o',by simp,ho',h3⟩
    ·cases h3
   |succ b=>simpa using h2 b p (by simpa using hb)
theorem AKQ:∀{l:List Nat},AFs l=true->∀(i j a:Nat),l[i]?=some a->l[j]?=some a->i=j:=by
 intro l
 induction l with
 |nil=>intro _ i j a h;simp at h
 |cons x l ih=>
  intro h i j a hi hj;simp only[AFs,Bool.and_eq_true,List.all_eq_true,Bool.not_eq_true']at h;have out:∀k,l[k]?=some x->False:=fun k hk=>by
   have:=h.1 x (List.mem_of_getElem? hk);rw[Nat.beq_refl]at this;cases this
  cases i<;>cases j
  ·rfl
  ·simp only[List.getElem?_cons_zero,List.getElem?_cons_succ,Option.some.injEq]at hi hj
   subst hi;exact(out _ hj).elim
  ·simp only[List.getElem?_cons_zero,List.getElem?_cons_succ,Option.some.injEq]at hi hj
   subst hj;exact(out _ hi).elim
  ·rw[List.getElem?_cons_succ]at hi hj
   rw[ih h.2 _ _ _ hi hj]
theorem AGm{ρ:List Nat}{o o':AO}(h:eqO ρ o o'=true):o'.alive=true:=by
 unfold eqO at h;split at h
 ·rfl
 ·cases h
theorem ALN{ρ:List Nat}{L:Lit}{f:FuncId}{s:St}{w0:World}{nt:Nat}{a:Act}{w:World}(h:les ρ L s=true)(hS:SR ⟨w0,fun _=>False⟩ nt E s a w none):SR ⟨w0,fun _=>False⟩ nt (Ren ρ E) (L.st f) a w none:=by
 unfold les at h;simp only[Bool.and_eq_true,List.all_eq_true,List.isEmpty_iff,Nat.blt_eq]at h;obtain⟨⟨⟨⟨h1,h2⟩,h3⟩,h4⟩,h5⟩:=h;obtain⟨k1,k2⟩:=AMj _ _ h5;have hd:a.defers=[]:=by
  have hm:=hS.defers;rw[h2]at hm;generalize a.defers=d at hm;cases hm
  rfl
 refine⟨hS.size,fun t v ht hv=>?_,?_,by rw[hd];exact .nil,trivial⟩
 ·have hm:=AN6 ht (fun p hp=>(h4 p hp).1) hv
  have:=(h4 _ hm).2;split at this
  ·rename_i u hu
   obtain⟨x,q1,q2⟩:=hS.tmps t u ht hu;exact⟨x,q1,AOn this q2⟩
  ·cases this
 ·have hb:∀{b:Nat}{o:AO},kE (L.st f).A.t b=some o->L.bs[b]?=some o:=by
   intro b o ho;rcases AN7 L.bs ⟨0,.lf⟩ ho with⟨_,q⟩|q
   ·simpa using q
   ·rw[ADR]at q;cases q
  have hE:∀{b:Nat}{x:Nat×Nat×Nat×Nat},Ren ρ E b=some x->∃c,ρ[b]?=some c/\E c=some x:=by
   intro b x hx;unfold Ren at hx;cases hr:ρ[b]? with
   |none=>rw[hr]at hx;cases hx
   |some c=>rw[hr]at hx;exact⟨c,rfl,hx⟩
  refine⟨hS.heap.ext,fun b x hx=>?_,fun b b' g hx=>?_,fun b o b' g ho hx=>?_,fun b c o p b' g1 g2 ho hp _ _ hx hy=>?_,fun b hb=>hb.elim⟩
  ·obtain⟨c,q1,q2⟩:=hE hx
   have:=(List.getElem?_eq_some_iff.1 q1).1;show b<(mkA L.bs ⟨0,.lf⟩).next;rw[AMi,Nat.zero_add,k1];exact this
  ·obtain⟨c,q1,q2⟩:=hE hx
   exact hS.heap.base c b' g q2
  ·obtain⟨c,q1,q2⟩:=hE hx
   obtain⟨c',o',q3,q4,q5⟩:=k2 b o (hb ho);rw[q1]at q3;cases q3;have hO:=hS.heap.obj c o' b' g q4 q2;unfold eqO at q5;split at q5
   ·simp only[Bool.and_eq_true,Nat.beq_eq]at q5
    obtain⟨⟨rfl,rfl⟩,q6⟩:=q5;obtain⟨p,l,t,r1,r2,r3,r4,r5,r6⟩:=hO;exact⟨p,l,t,r1,r2,AGJ q6 r3,r4,r5,r6⟩
   ·cases q5
  ·obtain⟨d,q1,q2⟩:=hE hx
   obtain⟨d',q3,q4⟩:=hE hy;obtain⟨c1,o1,q5,q6,q7⟩:=k2 b o (hb ho);obtain⟨c2,o2,q8,q9,q10⟩:=k2 c p (hb hp);rw[q1]at q5;cases q5;rw[q3]at q8;cases q8;have:=hS.heap.inj d d' o1 o2 b' g1 g2 q6 q9 (AGm q7) (AGm q10) q2 q4;subst this;exact AKQ h3 _ _ _ q1 q3
def Wlk(P:Program)(fn:Func)(c:Code)(s:St)(v:Value):Prop:=
 ∀(w0:World)(E:En)(a:Act)(w:World)(m:Nat),SR ⟨w0,fun _=>False⟩ fn.ntmps E s a w none->
  c.wpIn (Fw none) m P (bodyPostM Fence.wide m P fn (fun e w'=>e=.returned v/\Below w0.heap.size w0 w')) a w
theorem AMk(hP:OkP P){fn:Func}{n:Nat}{v:Value}:∀(k:Nat)(c:Code)(s s1:St),AHE P fn.ntmps (ABb P n).1 (ABb P n).2 n k c s=some s1->Wlk P fn (AC5 k c) s1 v->Wlk P fn c s v:=by
 intro k
 induction k with
 |zero=>intro c s s1 h hw;cases h;exact hw
 |succ k ih=>
  intro c s s1 h hw;cases c<;>try (cases h;done)
  rename_i p q;simp only[AHE]at h;split at h
  ·rename_i s' hs
   obtain⟨X,hX,hx⟩:=Oc hs (by intro e;cases e);intro w0 E a w m hS;refine wpIn_seq (wpIn_mono (AAy hP p hX _ _ n (AAa hP n).1 (AAa hP n).2 E s a w .normal s' none m hS hx) fun e a1 w1 he=>?_);have:=he.normal;subst this;obtain⟨E1,_,_,h3,_⟩:=he;exact ih q s' s1 h hw w0 E1 a1 w1 m h3
  ·cases h
theorem AMl{fn:Func}{c:Code}{ρ:List Nat}{L:Lit}{f:FuncId}{s:St}{v:Value}(h:les ρ L s=true)(hw:Wlk P fn c (L.st f) v):Wlk P fn c s v:=fun w0 _ a w m hS=>hw w0 _ a w m (ALN h hS)
theorem AN8 (hP : OkP P) {fn : Func} {n : Nat} {c : Code} {s s' : St} {v v' : Value} {A : AH} (h : (zV P fn.ntmps c).ap (.no "end" 0) (fun X => X (ABb P n).1 (ABb P n).2 n s) = .ok .ret s') (hc : ADi P fn s' = .ok v' A) (hv : eqV v' v = true) (hf : wI v = true) : Wlk P fn c s v := by
 intro w0 E a w m hS;obtain⟨X,hX,hx⟩:=Oc h (by intro e;cases e);refine wpIn_mono (AAy hP c hX _ _ n (AAa hP n).1 (AAa hP n).2 E s a w .ret s' none m hS hx) fun e a' w' hp=>?_;have h2:=hp;obtain⟨_,_,hex,_,_⟩:=h2;cases e<;>try exact hex.elim
 refine AFr (m:=m) hp hc fun e w2 he=>?_;obtain⟨E2,u,rfl,_,q2,q3⟩:=he;rw[AHw hv]at q2;exact⟨by rw[yg hf q2],q3.ext⟩
theorem ALO:∀(j k:Nat)(c:Code),AC5 (j+k) c=AC5 k (AC5 j c):=by
 intro j
 induction j with
 |zero=>intro k c;rw[Nat.zero_add];rfl
 |succ j ih=>
  intro k c;rw[show j+1+k=j+k+1 by omega];cases c
  case seq a b=>exact ih k b
  all_goals (cases k<;>rfl)
inductive Chain(P:Program)(n:Nat)(f:FuncId)(v:Value):Nat->Lit->Prop
 |fin {j:Nat} {L:Lit} (h:ACR P n f j L v=true):Chain P n f v j L
 |step {j k:Nat} {L L':Lit} {ρ:List Nat} (h:AAb P n f j k L ρ L'=true) (t:Chain P n f v (j+k) L'):Chain P n f v j L
theorem Chain.wlk(hP:OkP P){n:Nat}{f:FuncId}{fn:Func}{c:Code}{v:Value}(hf:P.funcs[f]?=some fn)(hb:fn.body=some c){j:Nat}{L:Lit}(h:Chain P n f v j L):Wlk P fn (AC5 j c) (L.st f) v:=by
 induction h with
 | @fin j L h=>
  unfold ACR at h;rw[hf]at h;dsimp only at h;rw[hb]at h;dsimp only at h;split at h
  ·rename_i s' hs
   split at h
   ·rename_i v' A hc
    simp only[Bool.and_eq_true]at h;exact AN8 hP hs hc h.1 h.2
   ·cases h
  ·cases h
 | @step j k L L' ρ h t ih=>
  unfold AAb at h;rw[hf]at h;dsimp only at h;rw[hb]at h;dsimp only at h;split at h
  ·rename_i s' hs
   refine AMk hP k _ _ s' hs (AMl (f:=f) h ?_);rw[<-ALO];exact ih
  ·cases h
theorem Chain.calls(hP:OkP P){n:Nat}{f:FuncId}{v:Value}(h:Chain P n f v 0 ⟨[],[]⟩)(w:World):Calls P f #[] w fun e w'=>e=.returned v/\Below w.heap.size w w':=by
 have hfn:∃fn c,P.funcs[f]?=some fn/\fn.body=some c:=by
  cases h with
  |fin h=>
   unfold ACR at h;split at h
   ·cases h
   ·rename_i fn hf
    split at h
    ·cases h
    ·rename_i c hb
     exact⟨fn,c,hf,hb⟩
  |step h=>
   unfold AAb at h;split at h
   ·cases h
   ·rename_i fn hf
    split at h
    ·cases h
    ·rename_i c hb
     exact⟨fn,c,hf,hb⟩
 obtain⟨fn,c,hf,hb⟩:=hfn;refine callsIn_wide.1 (callsIn_of_wp_marks (n:=0) hf hb trivial ?_);refine h.wlk hP hf hb w (fun _=>none) _ w _ ⟨by simp,fun t v _ hv=>?_,?_,.nil,trivial⟩
 ·change yA (xR 16 t) .lf=_ at hv
  rw[AAM]at hv;cases hv
 ·exact⟨Below.refl _ _,(fun _ _ h=>by cases h),(fun _ _ _ h=>by cases h),(fun _ _ _ _ h=>by change kE .lf _=_ at h;rw[ADR]at h;cases h),(fun _ _ _ _ _ _ _ h=>by change kE .lf _=_ at h;rw[ADR]at h;cases h),(fun _ h=>h.elim)⟩
end
end
end Go.Md.Cf
end
section
namespace Go.Md.Cf
open Go
def zfB(P:Program):Bool:=P.types.toList.all fun i=>match i.zero with|some z=>AAo z|none=>true
def nmB (P : Program) : Bool := P.funcs.toList.all fun fn => !(fn.name == "runtime.NumGoroutine")
theorem AEx{z:Value}(h:AAo z=true):z.cells.toList.all ACO=true:=by
 unfold AAo at h;split at h
 ·exact h
 ·rename_i h1
  unfold Value.cells;split
  ·rename_i c;exact absurd rfl (h1 c)
  ·simpa using h
theorem ALP{α σ:Type}(I:σ->Prop){f:α->σ->Option (ForInStep σ)}(hf:∀x s r,I s->f x s=some r->I r.value):∀(l:List α)(s r:σ),I s->(forIn l s f:Option σ)=some r->I r:=by
 intro l
 induction l with
 |nil=>intro s r h h1;cases h1;exact h
 |cons x l ih=>
  intro s r h h1;rw[List.forIn_cons]at h1;cases hx:f x s with
  |none=>rw[hx]at h1;cases h1
  |some y=>
   rw[hx]at h1;have hy:=hf x s y h hx;cases y with
   |done y=>cases h1;exact hy
   |yield y=>exact ih y r hy h1
theorem AIm{info:TypeId->Option TypeInfo}(hI:∀t i z,info t=some i->i.zero=some z->AAo z=true){fs:Array Field}{i:TypeInfo}{z:Value}(h:Made.reckonStruct info fs=some i)(hz:i.zero=some z):AAo z=true:=by
 unfold Made.reckonStruct at h;simp only[<-Array.forIn_toList]at h;cases hl:(forIn fs.toList _ _:Option _)with
 |none=>rw[hl]at h;cases h
 |some r=>
  rw[hl]at h;have hr:∀c,r.2.2.2.2.2.2.2.1=some c->c.toList.all ACO=true:=by
   refine ALP (fun s=>∀c,s.2.2.2.2.2.2.2.1=some c->c.toList.all ACO=true) (fun x s r hs hx=>?_) fs.toList _ r (fun c hc=>by cases hc;rfl) hl;have key:∀(i:TypeInfo),info x.type=some i->∀c,(do pure ((<-s.2.2.2.2.2.2.2.1)++(<-i.zero).cells):Option (Array Value))=some c->c.toList.all ACO=true:=by
    intro i hi c hc;cases h1:s.2.2.2.2.2.2.2.1 with
    |none=>rw[h1]at hc;cases hc
    |some a=>
     rw[h1]at hc;cases h2:i.zero with
     |none=>rw[h2]at hc;cases hc
     |some z=>
      rw[h2]at hc;cases hc;have q1:=hs a h1;have q2:=AEx (hI _ _ _ hi h2);simp only[Array.toList_append,List.all_append,Bool.and_eq_true];exact⟨q1,q2⟩
   replace hx:=Option.bind_eq_some_iff.1 hx;obtain⟨i,hi,hx⟩:=hx
   repeat' first
    |split at hx
    |(cases hx;done)
    |(cases hx;intro c hc;first|(cases hc;done)|exact key i hi c hc)
    |(replace hx:=Option.bind_eq_some_iff.1 hx;obtain⟨_,_,hx⟩:=hx)
  simp only[bind,Option.bind]at h;have fin:∀c,r.2.2.2.2.2.2.2.1=some c->AAo (.agg c)=true:=fun c hc=>hr c hc;split at h<;>(cases h;dsimp only at hz;cases h1:r.2.2.2.2.2.2.2.1 with
   |none=>rw[h1]at hz;cases hz
   |some c=>rw[h1]at hz;cases hz;exact fin c h1)
theorem AIn{info:TypeId->Option TypeInfo}(hI:∀t i z,info t=some i->i.zero=some z->AAo z=true){d:TypeDesc}{i:TypeInfo}{z:Value}(h:Made.reckon info d=some i)(hz:i.zero=some z):AAo z=true:=by
 unfold Made.reckon at h;split at h
 iterate 5
  ·repeat' first
    |split at h
    |(cases h;done)
    |(cases h;cases hz;rfl)
    |(replace h:=Option.bind_eq_some_iff.1 h;obtain⟨_,_,h⟩:=h)
 ·rename_i n e
  cases hi:info e with
  |none=>rw[hi]at h;cases h
  |some j=>
   rw[hi]at h;simp only[bind,Option.bind]at h;split at h
   ·cases h
   ·cases h
    dsimp only at hz;split at hz
    ·cases hz
    ·split at hz
     ·cases hz;rfl
     ·cases h2:j.zero with
      |none=>rw[h2]at hz;cases hz
      |some u=>
       rw[h2]at hz;cases hz;have q:=AEx (hI _ _ _ hi h2);show List.all _ _=true;simp only[Array.toList_flatten,Array.toList_map,Array.toList_replicate,List.all_flatten,List.map_replicate,List.all_replicate];split<;>first|rfl|exact q
 ·exact AIm hI h hz
 ·cases h
theorem AQP{P:Program}(h:zfB P=true):Zf P:=by
 have tab:∀(t:TypeId)(i:TypeInfo)(z:Value),P.types[t]?=some i->i.zero=some z->AAo z=true:=fun t i z h1 h2=>by
  have:=List.all_eq_true.1 h i (Array.mem_toList_iff.2 (Array.mem_of_getElem? h1));rw[h2]at this;exact this
 have all:∀(f:Nat)(t:TypeId)(i:TypeInfo)(z:Value),Made.infoAt P.toTables f t=some i->i.zero=some z->AAo z=true:=by
  intro f
  induction f with
  |zero=>intro t i z h1;cases h1
  |succ f ih=>
   intro t i z h1 h2;unfold Made.infoAt at h1;split at h1
   ·exact tab t i z h1 h2
   ·cases hd:Made.decode (t-P.types.size)with
    |none=>rw[hd]at h1;cases h1
    |some d=>rw[hd]at h1;exact AIn ih h1 h2
 intro t i z h1 h2;unfold Tables.info? at h1;split at h1
 ·exact tab t i z h1 h2
 ·exact all _ t i z h1 h2
theorem AOo{P:Program}(h1:zfB P=true)(h2:nmB P=true)(h3:P.follows .mixedOrders=true):OkP P:=
 ⟨AQP h1,h3,fun f fn h=>by
  have:=List.all_eq_true.1 h2 fn (Array.mem_toList_iff.2 (Array.mem_of_getElem? h));simpa using this⟩
end Go.Md.Cf
end
section
namespace Go.Proofs.YtfmelbioccbdoaaGreat
open Go Go.Md Go.Md.Cf Go.RowKit Go.Proofs
theorem okP:OkP Tryz.prog:=AOo (by kernel_rfl) (by kernel_rfl) (by kernel_rfl)
end Go.Proofs.YtfmelbioccbdoaaGreat
end
