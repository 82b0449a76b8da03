/-
  Part 8 of 12 of what the last text stands on: lemmas about the model, pure functions, walks, laws in plain Lean; each part's own head says its condition. Merged by a program of our own.
-/
import Derived.Test.YtfmelbioccbdoaaGreatJoinedWordsQg
import Derived.Sort.OwnSortedInts
import Derived.Scope
import Derived.IntWalk
import Derived.RangeFuncNested
set_option maxHeartbeats 0
set_option linter.all false
section
namespace Go.Proofs.YtfmelbioccbdoaaGreat
open Go Go.Md Go.RowKit
theorem works_c{f:FuncId}(h:∀w,Calls Tryz.prog f #[] w fun e w'=>e=.returned (.bool true)/\Below w.heap.size w w'){w0:World}{r:Bool}(hr:some true=some r):
  Calls Tryz.prog f [].toArray w0 (BN fun v w'=>v=.bool r/\Ext w0 w'):=by
 cases hr;exact(h w0).mono fun e w' h=>⟨_,h.1,rfl,h.2⟩
def Pb(_:Nat):Option Bool:=some true
theorem xM{w0:World}{F:Nat}{r:Bool}(hF:Pb F=some r):Calls Tryz.prog 86 [].toArray w0 (BN fun v w'=>v=.bool r/\Ext w0 w'):=works_c sP hF
def Pd(_:Nat):Option Bool:=some true
theorem xN{w0:World}{F:Nat}{r:Bool}(hF:Pd F=some r):Calls Tryz.prog 87 [].toArray w0 (BN fun v w'=>v=.bool r/\Ext w0 w'):=works_c su hF
def Pe(_:Nat):Option Bool:=some true
theorem xO{w0:World}{F:Nat}{r:Bool}(hF:Pe F=some r):Calls Tryz.prog 88 [].toArray w0 (BN fun v w'=>v=.bool r/\Ext w0 w'):=works_c sS hF
def Pf(_:Nat):Option Bool:=some true
theorem sw{w0:World}{F:Nat}{r:Bool}(hF:Pf F=some r):Calls Tryz.prog 116 [].toArray w0 (BN fun v w'=>v=.bool r/\Ext w0 w'):=works_c oJ hF
def Nt(F:Nat):Option Bool:=
 (Pb F)>>=fun x1=>
 (gd x1 (Pd F) false)>>=fun x2=>
 (gd (x1&&x2) (Pe F) false)>>=fun x3=>
 some ((x1&&x2)&&x3)
end Go.Proofs.YtfmelbioccbdoaaGreat
end
section
namespace Go.Proofs.YtfmelbioccbdoaaGreat
open Go Go.Md Go.RowKit
attribute [local irreducible] Go.wpList Go.Code.wp Go.Calls Go.Md.FN Go.Md.Mt Go.wpListIn Go.Code.wpIn

end Go.Proofs.YtfmelbioccbdoaaGreat
end
section
namespace Go.Proofs.YtfmelbioccbdoaaGreat
open Go Go.Md Go.RowKit


end Go.Proofs.YtfmelbioccbdoaaGreat
end
section
namespace Go.Proofs.YtfmelbioccbdoaaGreat
open Go Go.Md Go.RowKit
attribute [local irreducible] Go.wpList Go.Code.wp Go.Calls Go.Md.FN Go.Md.Mt

end Go.Proofs.YtfmelbioccbdoaaGreat
end
section
namespace Go.Proofs.YtfmelbioccbdoaaGreat
open Go Go.Md Go.RowKit
def Bv(F:Nat)(x0:(List (Int×Int)))(x1:((Int×Int)->Option Bool)):Nat->Int->Option (Sum Int (Unit))
 |0,_=>none
 |m+1,y1=>
  if(decide (y1<(x0.length:Int)))=true then
   (ix x0 y1)>>=fun x3=>
   (x1 (x3.1,x3.2))>>=fun x4=>
   if x4=true then
    some (.inl y1)
   else
    Bv F x0 x1 m (AZ (y1+1))
  else
   some (.inr ())
def FJ(F:Nat)(x0:(List (Int×Int)))(x1:((Int×Int)->Option Bool)):Option Int:=
 ((Bv F x0 x1 F 0)>>=fun o=>match o with
  |.inl r=>some r
  |.inr ()=>
   some (-1))
def C8(F:Nat)(x0:(List (Int×Int)))(x1:((Int×Int)->Option Bool)):Option Bool:=
 (FJ F x0 x1)>>=fun x3=>
 some (decide (0<=x3))
def JR(x0:(Int×Int))(x1:Int)(x2:Int):Option Bool:=
 some (((decide (x1<=x0.1))&&(decide (x0.1<=x0.2)))&&(decide (x0.2<=x2)))
def Iq(x0:DJ)(x1:(Int×Bool)):Option Bool:=
 ((if(decide (0<=x1.1))=true then
  if(decide (x1.1<(x0.1.length:Int)))=true then
   if(!x1.2)=true then
    some true
   else
    (ix x0.1 x1.1)>>=fun x3=>
    some x3.2
  else
   some false
 else
  if false=true then
   if(!x1.2)=true then
    some true
   else
    (ix x0.1 x1.1)>>=fun x4=>
    some x4.2
  else
   some false:Option (Bool))>>=fun y1=>
 some y1)
def IQ(x0:DJ)(x1:(Int×Bool)):Option (((Int×Int)×Int)×((Int×Int)×Int)):=
 (ix x0.1 x1.1)>>=fun x3=>
 if x1.2=true then
  some (((x3.1.2.1.1,x3.1.2.1.2),x3.1.2.2),((x3.1.1.1.1,x3.1.1.1.2),x3.1.1.2))
 else
  some (((x3.1.1.1.1,x3.1.1.1.2),x3.1.1.2),((x3.1.2.1.1,x3.1.2.1.2),x3.1.2.2))
def KA(x0:DJ)(x1:(Int×Bool))(x2:(Int×Bool)):Option Bool:=
 (IQ (x0.1,x0.2.1,(x0.2.2.1,x0.2.2.2)) (x1.1,x1.2))>>=fun x4=>
 (IQ (x0.1,x0.2.1,(x0.2.2.1,x0.2.2.2)) (x2.1,x2.2))>>=fun x5=>
 some (((((!decide (x1.1=x2.1))&&(decide ((AZ (x4.2.1.1-x5.1.1.2))<=x0.2.1)))&&(decide ((AZ (x5.1.1.1-x4.2.1.2))<=x0.2.1)))&&(decide (x0.2.2.1<=(AZ (x5.1.2-x4.2.2)))))&&(decide ((AZ (x5.1.2-x4.2.2))<=x0.2.2.2)))
def CU(x0:Int):Option (Int×Int):=
 some (x0,x0)
def KX(x0:(Int×Int))(x1:Int)(x2:Int):Option Bool:=
 some (((decide (x0.1<x1))||(decide (x0.2<x0.1)))||(decide (x2<x0.2)))
def GQ(F:Nat)(x0:Int)(x1:Int)(x2:(List (Int×Int))):Option Bool:=
 (C8 F x2 (fun y=>KX y x0 x1))>>=fun x4=>
 some (!x4)
def Cg(F:Nat)(x0:DJ):Nat->Bool->Int->Option (Bool)
 |0,_,_=>none
 |m+1,y1,y2=>
  if(decide (y2<(x0.1.length:Int)))=true then
   (ix x0.1 y2)>>=fun x5=>
   ((some (((x5.1.1.1.1,x5.1.1.1.2),x5.1.1.2),((x5.1.2.1.1,x5.1.2.1.2),x5.1.2.2)):Option (((Int×Int)×Int)×((Int×Int)×Int)))>>=fun(y3,y4)=>
   ((if y1=true then
    (GQ F 0 1000 ([(y3.1.1,y3.1.2),(y4.1.1,y4.1.2)]:List (Int×Int)))>>=fun x8=>
    if x8=true then
     (CU y3.2)>>=fun x9=>
     (CU y4.2)>>=fun x10=>
     (GQ F 0 100000 ([x9,x10]:List (Int×Int)))>>=fun x11=>
     some x11
    else
     some false
   else
    if false=true then
     (CU y3.2)>>=fun x12=>
     (CU y4.2)>>=fun x13=>
     (GQ F 0 100000 ([x12,x13]:List (Int×Int)))>>=fun x14=>
     some x14
    else
     some false:Option (Bool))>>=fun y5=>
   Cg F x0 m y5 (AZ (y2+1))))
  else
   some y1
def GX(F:Nat)(x0:DJ):Option Int:=
 if((decide ((x0.1.length:Int)=0))||(decide (8<(x0.1.length:Int))))=true then
  some 6
 else
  (CU x0.2.1)>>=fun x2=>
  (GQ F 0 1000 ([x2]:List (Int×Int)))>>=fun x3=>
  (gd x3 (GQ F (-100000) 100000 ([(x0.2.2.1,x0.2.2.2)]:List (Int×Int))) false)>>=fun x4=>
  ((Cg F x0 F (x3&&x4) 0)>>=fun z1=>
  if(!z1)=true then
   some 2
  else
   some 0)
def HY(x0:(DJ×(List (Int×Bool))×(Ar 16 (Ar 16 Int))×Opq×Opq))(x1:((Int×Int)×Int))(x2:((Int×Int)×Int)):Option Bool:=
 some (((decide ((if(AZ (x1.1.1-x2.1.2))<(AZ (x2.1.1-x1.1.2))then(AZ (x2.1.1-x1.1.2))else(AZ (x1.1.1-x2.1.2)))<=x0.1.2.1))&&(decide (x0.1.2.2.1<=(AZ (x2.2-x1.2)))))&&(decide ((AZ (x2.2-x1.2))<=x0.1.2.2.2)))
def Dj(x0:(DJ×(List (Int×Bool))×(Ar 16 (Ar 16 Int))×Opq×Opq))(x1:(Int×Bool))(x2:Int):Option ((Int×Int)×Int):=
 ((if x1.2=true then
  some (AZ (1-x2))
 else
  some x2:Option (Int))>>=fun y1=>
 (ix x0.1.1 x1.1)>>=fun x4=>
 (ix ([((x4.1.1.1.1,x4.1.1.1.2),x4.1.1.2),((x4.1.2.1.1,x4.1.2.1.2),x4.1.2.2)]:List ((Int×Int)×Int)) y1)>>=fun x5=>
 some ((x5.1.1,x5.1.2),x5.2))
def Bp(F:Nat)(x0:DJ)(y1:Int):Nat->Int->Option (Sum Int (Unit))
 |0,_=>none
 |m+1,y2=>
  if(decide (y2<2))=true then
   (ix x0.1 y1)>>=fun x2=>
   (ix ([((x2.1.1.1.1,x2.1.1.1.2),x2.1.1.2),((x2.1.2.1.1,x2.1.2.1.2),x2.1.2.2)]:List ((Int×Int)×Int)) y2)>>=fun x3=>
   (JR (x3.1.1,x3.1.2) 0 1000)>>=fun x4=>
   if(((!x4)||(decide (x3.2<0)))||(decide (100000<x3.2)))=true then
    some (.inl 2)
   else
    Bp F x0 y1 m (AZ (y2+1))
  else
   some (.inr ())
def Cy(F:Nat)(x0:DJ):Nat->Int->Option (Sum Int (Unit))
 |0,_=>none
 |m+1,y1=>
  if(decide (y1<(x0.1.length:Int)))=true then
   ((Bp F x0 y1 F 0)>>=fun o=>match o with
    |.inl r=>some (.inl r)
    |.inr ()=>
     Cy F x0 m (AZ (y1+1)))
  else
   some (.inr ())
def DF(F:Nat)(x0:DJ):Option Int:=
 if((decide ((x0.1.length:Int)<1))||(decide (8<(x0.1.length:Int))))=true then
  some 6
 else
  ((Cy F x0 F 0)>>=fun o=>match o with
   |.inl r=>some r
   |.inr ()=>
    (gd (!((decide (x0.2.1<0))||(decide (1000<x0.2.1)))) (JR (x0.2.2.1,x0.2.2.2) (-100000) 100000) false)>>=fun x5=>
    if(((decide (x0.2.1<0))||(decide (1000<x0.2.1)))||(!x5))=true then
     some 2
    else
     some 0)
def GY(x0:(Int×Bool))(x1:(Int×Bool)):Option Bool:=
 some (decide ((x0.1,x0.2)=(x1.1,x1.2)))
def CG(F:Nat)(x0:(List (Int×Bool)))(x1:((Int×Bool)->Option Bool)):Nat->Int->Option (Sum Int (Unit))
 |0,_=>none
 |m+1,y1=>
  if(decide (y1<(x0.length:Int)))=true then
   (ix x0 y1)>>=fun x3=>
   (x1 (x3.1,x3.2))>>=fun x4=>
   if x4=true then
    some (.inl y1)
   else
    CG F x0 x1 m (AZ (y1+1))
  else
   some (.inr ())
def Fs(F:Nat)(x0:(List (Int×Bool)))(x1:((Int×Bool)->Option Bool)):Option Int:=
 ((CG F x0 x1 F 0)>>=fun o=>match o with
  |.inl r=>some r
  |.inr ()=>
   some (-1))
def GL(F:Nat)(x0:(DJ×(List (Int×Bool))×(Ar 16 (Ar 16 Int))×Opq×Opq))(x1:(Int×Bool)):Option Int:=
 (Fs F x0.2.1 (fun y=>GY y (x1.1,x1.2)))>>=fun x3=>
 some x3
def JH(x0:(DJ×(List (Int×Bool))×(Ar 16 (Ar 16 Int))×Opq×Opq))(x1:(Int×Int))(x2:Int):Option (Int×Int):=
 (ix x0.2.1 x2)>>=fun x4=>
 (shl .i64 1 x4.1)>>=fun x5=>
 some (PK .i64 x1.1 x5,x2)
def Hl(x0:Int)(x1:(Int×Int))(x2:(Ob (DJ×(List (Int×Bool))×(Ar 16 (Ar 16 Int))×Opq×Opq))):Option Bool:=
 (x2.v)>>=fun x4=>
 (ix x4.2.1 x0)>>=fun x5=>
 (shr .i64 x1.1 x5.1)>>=fun x6=>
 some (decide ((band .i64 x6 1)=0))
end Go.Proofs.YtfmelbioccbdoaaGreat
end
section
namespace Go.Proofs.YtfmelbioccbdoaaGreat
open Go Go.Md Go.RowKit
attribute [local irreducible] Go.wpList Go.Code.wp Go.Calls Go.Md.FN Go.Md.Mt Go.Md.Gf Go.Md.EO Go.Code.wpIn


theorem xP{w0:World}{v0:Value}{x0:(List (Int×Int))}(r0:RV w0 v0 x0){v1:Value}{x1:(Int×Int)->Option Bool}(h1:FnB Tryz.prog (Int×Int) w0 v1 x1){F:Nat}{r:Int}(hF:FJ F x0 x1=some r):
  Calls Tryz.prog 329 [v0,v1].toArray w0 (BN fun v w'=>v=.int .i64 r/\Ext w0 w'):=by
 unfold FJ at hF;have hz:=r0.sl;obtain⟨a1,cq1,rfl,-,-,-⟩:=hz;refine BK (n:=19) Tryz.func329 rfl rfl rfl<|Zr<|Za<|nl<|wp_seq<|Zr<|Zm<|Zv (Ao rfl Tryz.underlying32)<|Zm<|nl<|bS hF fun o1 hB1 hF=>ct (fun L w=>o1=.inr ()/\Ext w0 w) ?_ ?_
 ·refine wp_block<|lp (I:=fun m L w=>∃y1:Int,Bv F x0 x1 m y1=some o1/\L 8=.int .i64 y1/\L 0=.slice a1 x0.length cq1/\L 1=v1/\L 7=.int .i64 (x0.length:Int)/\Ext w0 w) F ⟨_,hB1,rfl,rfl,rfl,rfl,(Ext.refl _)⟩ ?_;rintro m L w1⟨y1,hB1,l8_i1,l0_i1,l1_i1,l7_i1,K0_i1⟩;rcases m with _|m
  ·rw[Bv]at hB1;cases hB1
  rw[Bv]at hB1;have h3:=h1.ext K0_i1;refine Zr<|Zv (BL l8_i1 l7_i1)<|nl<|wp_seq<|cnd rfl (fun h4=>?_) (fun h4=>?_)
  ·have hB1:=Ah hB1 h4;refine wp_skip<|wp_seq<|wp_block<|Zr<|Zm<|Za<|nl<|Zr<|Zm<|Zm<|Zm<|bS hB1 fun x3 Ex3 hB1=>?_;have hz:=(RV.els r0).ix Ex3;obtain⟨b3,f1,cs3,e1,i2,i3,q3,hc1⟩:=hz;cases e1;obtain⟨_,_,rfl,rfl,rfl⟩:=q3;have hc2:=hc1.ext K0_i1;refine Zv (Al l0_i1 l8_i1 Tryz.underlying32 KF i2 i3)<|Zv (Ad rfl KF rfl hc2)<|bS hB1 fun x4 Ex4 hB1=>?_;have hz:=id h3;obtain⟨g1,fs1,cs4,e2,hg1,hu1⟩:=hz;refine Zc (PD (l1_i1.trans e2) hg1 (mc rfl mn) rfl) (hu1 _ _ _ _ (Ext.refl _) (show RV (α:=(Int×Int)) _ (.agg [.int .i64 x3.1,.int .i64 x3.2].toArray) (x3.1,x3.2)from⟨_,rfl,[.int .i64 x3.1],[.int .i64 x3.2],rfl,rfl,rfl⟩) Ex4) ?_;rintro _ w2⟨rfl,hx1⟩;have k1:=K0_i1.tr hx1;refine nl<|cnd rfl (fun h6=>?_) (fun h6=>?_)
   ·have hB1:=Ah hB1 h6;refine Zr<|Zm<|Za<|nl<|?_;cases hB1;have hF:=(show some _=some _ from hF);cases hF;exact wp_ret<|rt rfl (.tmp l8_i1 rfl .nil) ⟨rfl,k1⟩
   ·have hB1:=Ai hB1 h6;refine wp_skip<|rg<|Zv (Aw l8_i1 rfl)<|Zm<|nl<|lq m (Nat.lt_succ_self _)<|?_;exact⟨_,hB1,rfl,l0_i1,l1_i1,l7_i1,k1⟩
  ·have hB1:=Ai hB1 h4;refine wp_exit<|?_;cases hB1;refine lf<|?_;exact⟨rfl,K0_i1⟩
 rintro L w3⟨rfl,K0_j1⟩;refine Zr<|Za<|nl<|?_;cases hF;exact wp_ret<|Zw rfl rfl rfl ⟨rfl,K0_j1⟩
theorem xQ{w0:World}{v0:Value}{x0:(List (Int×Int))}(r0:RV w0 v0 x0){v1:Value}{x1:(Int×Int)->Option Bool}(h1:FnB Tryz.prog (Int×Int) w0 v1 x1){F:Nat}{r:Bool}(hF:C8 F x0 x1=some r):
  Calls Tryz.prog 279 [v0,v1].toArray w0 (BN fun v w'=>v=.bool r/\Ext w0 w'):=by
 unfold C8 at hF;have hz:=r0.sl;obtain⟨a1,cq1,rfl,-,-,-⟩:=hz;refine BK (n:=9) Tryz.func279 rfl rfl rfl<|Zr<|Za<|nl<|Zr<|Zm<|Zm<|bS hF fun x3 Ex3 hF=>Zc (xc rX (mc rfl (mc rfl mn))) (xP r0 h1 Ex3) ?_;rintro _ w1⟨rfl,hx1⟩;refine Zv (Kw rfl rfl)<|Za<|nl<|?_;cases hF;exact wp_ret<|Zw rfl rfl rfl ⟨rfl,hx1⟩
theorem oK{w0:World}{v0:Value}{x0:(Int×Int)}(r0:RV w0 v0 x0){x1:Int}{x2:Int}{r:Bool}(hF:JR x0 x1 x2=some r):
  Calls Tryz.prog 211 [v0,.int .i64 x1,.int .i64 x2].toArray w0 (BN fun v w'=>v=.bool r/\Ext w0 w'):=by
 unfold JR at hF;have hz:=id r0;obtain⟨_,rfl,_,_,rfl,rfl,rfl⟩:=hz;refine BK (n:=24) Tryz.func211 rfl rfl rfl<|Zr<|Cw rfl rfl fun b4 w1 hx1 hg1 hb1=>Za<|nl<|Zr<|Zv (AX rfl KM)<|Zv (AR rfl CX ((Bx.cs hb1).at 0 rfl))<|Zm<|Zv (Kw rfl rfl)<|Zm<|Zg rfl rfl (CB rfl) (fun hc=>AX rfl KM)<|Zg rfl rfl (CB rfl) (fun hc=>AR (mv hc rfl) CX ((Bx.cs hb1).at 0 rfl))<|Zg rfl rfl (CB rfl) (fun hc=>AX rfl KN)<|Zg rfl rfl (CB rfl) (fun hc=>AR (mv hc rfl) CX ((Bx.cs hb1).at 1 rfl))<|Zg rfl rfl (CB rfl) (fun hc=>Mf (mv hc rfl) (mv hc rfl))<|Zv (Ky rfl rfl rfl)<|Zm<|Zg rfl rfl (CB rfl) (fun hc=>AX rfl KN)<|Zg rfl rfl (CB rfl) (fun hc=>AR (mv hc rfl) CX ((Bx.cs hb1).at 1 rfl))<|Zg rfl rfl (CB rfl) (fun hc=>Aq rfl)<|Zg rfl rfl (CB rfl) (fun hc=>Mf (mv hc rfl) (mv hc rfl))<|Zv (Ky rfl rfl rfl)<|Za<|nl<|?_;cases hF;exact wp_ret<|Zw rfl rfl rfl ⟨rfl,hx1⟩
theorem xR{w0:World}{v0:Value}{x0:DJ}(r0:RV w0 v0 x0){v1:Value}{x1:(Int×Bool)}(r1:RV w0 v1 x1){r:Bool}(hF:Iq x0 x1=some r):
  Calls Tryz.prog 120 [v0,v1].toArray w0 (BN fun v w'=>v=.bool r/\Ext w0 w'):=by
 unfold Iq at hF;have hz:=id r0;obtain⟨_,rfl,_,_,rfl,⟨a1,cq1,rfl,p1,q3,e1⟩,_,_,rfl,rfl,_,_,rfl,rfl,rfl⟩:=hz;have r3:=RV.of1 p1 q3 e1;have hz:=id r1;obtain⟨_,rfl,_,_,rfl,rfl,rfl⟩:=hz;refine BK (n:=30) Tryz.func120 rfl rfl rfl<|Zr<|Cw rfl rfl fun b3 w1 hx1 hg1 hb1=>Cw rfl rfl fun b4 w2 hx2 hg2 hb2=>?_;have k1:=hx1.tr hx2;have hb3:=hb1.ext hx2;refine Za<|nl<|wp_seq<|bS hF fun y1 hB1 hF=>ct (fun L w=>L 4=.bool y1/\Ext w2 w) ?_ ?_
 ·refine rg<|Zv (AX rfl Fh)<|Zv (AR rfl Aa ((Bx.cs hb2).at 0 rfl))<|Zv (Kw rfl rfl)<|Zm<|Or.elim (Bool.eq_false_or_eq_true (decide (0<=x1.1))) (fun h3=>?_) (fun h3=>?_)
  ·have hB1:=Ah hB1 h3;refine Gt rfl (bt h3)<|Zv (AX rfl Fh)<|Gt rfl (bt h3)<|Zv (AR rfl Aa ((Bx.cs hb2).at 0 rfl))<|Gt rfl (bt h3)<|Zv (AX rfl Fg)<|Gt rfl (bt h3)<|Zv (AR rfl I6 ((Bx.cs hb3).at 0 rfl))<|Gt rfl (bt h3)<|Zv (Ao rfl Tryz.underlying46)<|Gt rfl (bt h3)<|Zv (BL rfl rfl)<|Zv (GD rfl h3 rfl)<|Zm<|Or.elim (Bool.eq_false_or_eq_true (decide (x1.1<(x0.1.length:Int)))) (fun h4=>?_) (fun h4=>?_)
   ·have hB1:=Ah hB1 h4;refine Gt rfl (bt h4)<|Zv (AX rfl Qt)<|Gt rfl (bt h4)<|Zv (AR rfl TM ((Bx.cs hb2).at 1 rfl))<|Gt rfl (bt h4)<|Zv (GV rfl)<|Gt rfl (bt h4)<|Zm<|Or.elim (Bool.eq_false_or_eq_true (!x1.2)) (fun h5=>?_) (fun h5=>?_)
    ·have hB1:=Ah hB1 h5;refine Gk rfl (Bl h5)<|Gk rfl (Bl h5)<|Gk rfl (Bl h5)<|Gk rfl (Bl h5)<|Gk rfl (Bl h5)<|Gk rfl (Bl h5)<|Gk rfl (Bl h5)<|Gt rfl (bt h4)<|Zv (GD rfl h5 rfl)<|Zv (GD rfl h4 rfl)<|Za<|nl<|?_;cases hB1;refine lf<|?_;exact⟨rfl,(Ext.refl _)⟩
    ·have hB1:=Ai hB1 h5;refine Gt rfl (bf h5)<|Zv (AX rfl Fg)<|Gt rfl (bf h5)<|Zv (AR rfl I6 ((Bx.cs hb3).at 0 rfl))<|Gt rfl (bf h5)<|Zv (AX rfl Fh)<|Gt rfl (bf h5)<|Zv (AR rfl Aa ((Bx.cs hb2).at 0 rfl))<|bS hB1 fun x3 Ex3 hB1=>?_;have hz:=(RV.els r3).ix Ex3;obtain⟨b5,f1,cs3,e2,i1,i2,q4,hc1⟩:=hz;cases e2;obtain⟨_,_,rfl,⟨_,_,rfl,⟨_,_,rfl,⟨_,_,rfl,rfl,rfl⟩,rfl⟩,_,_,rfl,⟨_,_,rfl,rfl,rfl⟩,rfl⟩,rfl⟩:=q4;have hc2:=hc1.ext k1;refine Gt rfl (bf h5)<|Zv (Al rfl rfl Tryz.underlying46 Jy i1 i2)<|Gt rfl (bf h5)<|Zv (AX rfl SG)<|Gt rfl (bf h5)<|Zv (AR rfl TM (hc2.at 6 rfl))<|Gt rfl (bt h4)<|Zv (H8 rfl h5 rfl)<|Zv (GD rfl h4 rfl)<|Za<|nl<|?_;cases hB1;refine lf<|?_;exact⟨rfl,(Ext.refl _)⟩
   ·have hB1:=Ai hB1 h4;refine Gk rfl (Ae h4)<|Gk rfl (Ae h4)<|Gk rfl (Ae h4)<|Gk rfl (Ae h4)<|Gk rfl bu<|Gk rfl bu<|Gk rfl bu<|Gk rfl bu<|Gk rfl bu<|Gk rfl bu<|Gk rfl bu<|Gk rfl (Ae h4)<|Zv (H8 rfl h4 rfl)<|Za<|nl<|?_;cases hB1;refine lf<|?_;exact⟨rfl,(Ext.refl _)⟩
  ·have hB1:=Ai hB1 h3;refine Gk rfl (Ae h3)<|Gk rfl (Ae h3)<|Gk rfl (Ae h3)<|Gk rfl (Ae h3)<|Gk rfl (Ae h3)<|Gk rfl (Ae h3)<|Zv (H8 rfl h3 rfl)<|Zm<|Or.elim (Bool.eq_false_or_eq_true false) (fun h6=>?_) (fun h6=>?_)
   ·have hB1:=Ah hB1 h6;refine Gt rfl (bt h6)<|Zv (AX rfl Qt)<|Gt rfl (bt h6)<|Zv (AR rfl TM ((Bx.cs hb2).at 1 rfl))<|Gt rfl (bt h6)<|Zv (GV rfl)<|Gt rfl (bt h6)<|Zm<|Or.elim (Bool.eq_false_or_eq_true (!x1.2)) (fun h7=>?_) (fun h7=>?_)
    ·have hB1:=Ah hB1 h7;refine Gk rfl (Bl h7)<|Gk rfl (Bl h7)<|Gk rfl (Bl h7)<|Gk rfl (Bl h7)<|Gk rfl (Bl h7)<|Gk rfl (Bl h7)<|Gk rfl (Bl h7)<|Gt rfl (bt h6)<|Zv (GD rfl h7 rfl)<|Zv (GD rfl h6 rfl)<|Za<|nl<|?_;cases hB1;refine lf<|?_;exact⟨rfl,(Ext.refl _)⟩
    ·have hB1:=Ai hB1 h7;refine Gt rfl (bf h7)<|Zv (AX rfl Fg)<|Gt rfl (bf h7)<|Zv (AR rfl I6 ((Bx.cs hb3).at 0 rfl))<|Gt rfl (bf h7)<|Zv (AX rfl Fh)<|Gt rfl (bf h7)<|Zv (AR rfl Aa ((Bx.cs hb2).at 0 rfl))<|bS hB1 fun x4 Ex4 hB1=>?_;have hz:=(RV.els r3).ix Ex4;obtain⟨b6,f2,cs4,e3,i3,i4,q5,hc3⟩:=hz;cases e3;obtain⟨_,_,rfl,⟨_,_,rfl,⟨_,_,rfl,⟨_,_,rfl,rfl,rfl⟩,rfl⟩,_,_,rfl,⟨_,_,rfl,rfl,rfl⟩,rfl⟩,rfl⟩:=q5;have hc4:=hc3.ext k1;refine Gt rfl (bf h7)<|Zv (Al rfl rfl Tryz.underlying46 Jy i3 i4)<|Gt rfl (bf h7)<|Zv (AX rfl SG)<|Gt rfl (bf h7)<|Zv (AR rfl TM (hc4.at 6 rfl))<|Gt rfl (bt h6)<|Zv (H8 rfl h7 rfl)<|Zv (GD rfl h6 rfl)<|Za<|nl<|?_;cases hB1;refine lf<|?_;exact⟨rfl,(Ext.refl _)⟩
   ·have hB1:=Ai hB1 h6;refine Gk rfl (Ae h6)<|Gk rfl (Ae h6)<|Gk rfl (Ae h6)<|Gk rfl (Ae h6)<|Gk rfl bu<|Gk rfl bu<|Gk rfl bu<|Gk rfl bu<|Gk rfl bu<|Gk rfl bu<|Gk rfl bu<|Gk rfl (Ae h6)<|Zv (H8 rfl h6 rfl)<|Za<|nl<|?_;cases hB1;refine lf<|?_;exact⟨rfl,(Ext.refl _)⟩
 rintro L w3⟨l4_j1,K0_j1⟩;have k2:=k1.tr K0_j1;cases hF;exact wp_ret<|rt rfl (.tmp l4_j1 rfl .nil) ⟨rfl,k2⟩
theorem oL{w0:World}{v0:Value}{x0:DJ}(r0:RV w0 v0 x0){v1:Value}{x1:(Int×Bool)}(r1:RV w0 v1 x1){r:(((Int×Int)×Int)×((Int×Int)×Int))}(hF:IQ x0 x1=some r):
  Calls Tryz.prog 230 [v0,v1].toArray w0 (BN fun v w'=>∃u0 u1:Value,v=.tuple #[u0,u1]/\RV w' u0 r.1/\RV w' u1 r.2/\Ext w0 w'):=by
 unfold IQ at hF;have hz:=id r0;obtain⟨_,rfl,_,_,rfl,⟨a1,cq1,rfl,p1,q3,e1⟩,_,_,rfl,rfl,_,_,rfl,rfl,rfl⟩:=hz;have r3:=RV.of1 p1 q3 e1;have hz:=id r1;obtain⟨_,rfl,_,_,rfl,rfl,rfl⟩:=hz;refine BK (n:=24) Tryz.func230 rfl rfl rfl<|Zr<|Cw rfl rfl fun b3 w1 hx1 hg1 hb1=>Cw rfl rfl fun b4 w2 hx2 hg2 hb2=>?_;have k1:=hx1.tr hx2;have hb3:=hb1.ext hx2;refine D5 Bq fun b5 w3 hx3 hg3 hb4=>?_;have k2:=k1.tr hx3;have hb5:=hb3.ext hx3;have hb6:=hb2.ext hx3;refine D5 Bq fun b6 w4 hx4 hg4 hb7=>?_;have k4:=k2.tr hx4;have hb8:=hb5.ext hx4;have hb9:=hb6.ext hx4;have hb10:=hb4.ext hx4;refine nl<|Zr<|Zv (AX rfl Fg)<|Zv (AR rfl I6 ((Bx.cs hb8).at 0 rfl))<|Zv (AX rfl Fh)<|Zv (AR rfl Aa ((Bx.cs hb9).at 0 rfl))<|bS hF fun x3 Ex3 hF=>?_;have hz:=(RV.els r3).ix Ex3;obtain⟨b7,f1,cs3,e2,i1,i2,q4,hc1⟩:=hz;cases e2;obtain⟨_,_,rfl,⟨_,_,rfl,⟨_,_,rfl,⟨_,_,rfl,rfl,rfl⟩,rfl⟩,_,_,rfl,⟨_,_,rfl,rfl,rfl⟩,rfl⟩,rfl⟩:=q4;have hc2:=hc1.ext k4;refine Zv (Al rfl rfl Tryz.underlying46 Jy i1 i2)<|Zv (AX rfl Nz)<|Zv (Ad rfl Xz rfl (hc2.sub 0 6))<|D5 Xz fun b8 w5 hx5 hg5 hb11=>?_;have k7:=k4.tr hx5;refine D8 rfl rfl rfl Xz hb11 rfl rfl (ble rfl) fun w6 hch1 hb15=>?_;have k11:=Ext.chg k7 hch1 (Nat.le_trans k4.size hg5);have k15:=Ext.chg hx5 hch1 (Nat.le_trans (Nat.le_refl _) hg5);have hb16:=hb9.ext k15;have hb17:=hb10.ext k15;have hb18:=hb7.ext k15;have hb19:Bx w6 b8 174 [.int .i64 x3.1.1.1.1,.int .i64 x3.1.1.1.2,.int .i64 x3.1.1.2,.int .i64 x3.1.2.1.1,.int .i64 x3.1.2.1.2,.int .i64 x3.1.2.2]:=hb15;refine nl<|wp_seq<|Zr<|Zv (AX rfl Qt)<|Zv (AR rfl TM ((Bx.cs hb16).at 1 rfl))<|nl<|cnd rfl (fun h3=>?_) (fun h3=>?_)
 ·have hF:=Ah hF h3;refine wp_seq<|mq (row:=(some b5)) [5] (.pure true 0 (.pure false 1 (.pure true 2 (.pure false 3 (.eff 4 (.eff 5 .fin .stop) .stop))))) mixed (by kernel_rfl) (fun w7 hx6=>?_);have k16:=k11.tr hx6;have hb20:=hb17.ext hx6;have hb21:=hb18.ext hx6;have hb22:=hb19.ext hx6;refine Zp rfl (fun _=>C9 rfl rfl Tryz.underlying174 Bq (by decide) (by decide))<|Zq rfl (fun _ hS=>Ad rfl Bq rfl ((Bx.cs (Bx.gr hb22 (hS.resolve_left nofun) (fun e=>(Ne.symm (Nat.ne_of_lt (Nat.lt_of_lt_of_le hb10.lt hg5))) (Option.some.inj e)))).sub 3 3)) (Ext.gro (Ext.refl _))<|Zp rfl (fun _=>C9 rfl rfl Tryz.underlying174 Bq (by decide) (by decide))<|Zq rfl (fun _ hS=>Ad rfl Bq rfl ((Bx.cs (Bx.gr hb22 (hS.resolve_left nofun) (fun e=>(Ne.symm (Nat.ne_of_lt (Nat.lt_of_lt_of_le hb10.lt hg5))) (Option.some.inj e)))).sub 0 3)) (Ext.gro (Ext.refl _))<|Br rfl<|D8 rfl rfl rfl Bq hb20 rfl rfl (ble rfl) fun w8 hch2 hb23=>?_;have gS1:=World.grownBy.tr (Ext.gro (Ext.refl _)) (Chg.gro hch2);have k21:=Ext.chg k16 hch2 (Nat.le_trans k1.size hg3);have hb24:=Bx.chg hb21 hch2 (Ne.symm (Nat.ne_of_lt (Nat.lt_of_lt_of_le hb4.lt hg4)));have hb25:Bx w8 b5 173 [.int .i64 x3.1.2.1.1,.int .i64 x3.1.2.1.2,.int .i64 x3.1.2.2]:=hb23;refine nl ⟨fun _ _=>gS1,?_⟩;refine Br rfl<|D8 rfl rfl rfl Bq hb24 rfl rfl (ble rfl) fun w9 hch3 hb26=>?_;have k24:=Ext.chg k21 hch3 (Nat.le_trans k1.size (Nat.le_trans hx3.size hg4));have hb27:=Bx.chg hb25 hch3 (Nat.ne_of_lt (Nat.lt_of_lt_of_le hb4.lt hg4));have hb28:Bx w9 b6 173 [.int .i64 x3.1.1.1.1,.int .i64 x3.1.1.1.2,.int .i64 x3.1.1.2]:=hb26;refine nl ⟨fun h=>(h (by decide)).elim,?_⟩;cases hF;exact wp_ret<|rt rfl (.cell rfl rfl Bq rfl (Bx.cs hb27) (.cell rfl rfl Bq rfl (Bx.cs hb28) .nil)) ⟨_,_,rfl,(show RV (α:=((Int×Int)×Int)) _ (.agg [.int .i64 x3.1.2.1.1,.int .i64 x3.1.2.1.2,.int .i64 x3.1.2.2].toArray) ((x3.1.2.1.1,x3.1.2.1.2),x3.1.2.2)from⟨_,rfl,[.int .i64 x3.1.2.1.1]++[.int .i64 x3.1.2.1.2],[.int .i64 x3.1.2.2],rfl,⟨[.int .i64 x3.1.2.1.1],[.int .i64 x3.1.2.1.2],rfl,rfl,rfl⟩,rfl⟩),(show RV (α:=((Int×Int)×Int)) _ (.agg [.int .i64 x3.1.1.1.1,.int .i64 x3.1.1.1.2,.int .i64 x3.1.1.2].toArray) ((x3.1.1.1.1,x3.1.1.1.2),x3.1.1.2)from⟨_,rfl,[.int .i64 x3.1.1.1.1]++[.int .i64 x3.1.1.1.2],[.int .i64 x3.1.1.2],rfl,⟨[.int .i64 x3.1.1.1.1],[.int .i64 x3.1.1.1.2],rfl,rfl,rfl⟩,rfl⟩),k24⟩
 ·have hF:=Ai hF h3;refine wp_skip<|wp_seq<|mq (row:=(some b5)) [5] (.pure true 0 (.pure false 1 (.pure true 2 (.pure false 3 (.eff 4 (.eff 5 .fin .stop) .stop))))) mixed (by kernel_rfl) (fun w10 hx7=>?_);have k27:=k11.tr hx7;have hb29:=hb17.ext hx7;have hb30:=hb18.ext hx7;have hb31:=hb19.ext hx7;refine Zp rfl (fun _=>C9 rfl rfl Tryz.underlying174 Bq (by decide) (by decide))<|Zq rfl (fun _ hS=>Ad rfl Bq rfl ((Bx.cs (Bx.gr hb31 (hS.resolve_left nofun) (fun e=>(Ne.symm (Nat.ne_of_lt (Nat.lt_of_lt_of_le hb10.lt hg5))) (Option.some.inj e)))).sub 0 3)) (Ext.gro (Ext.refl _))<|Zp rfl (fun _=>C9 rfl rfl Tryz.underlying174 Bq (by decide) (by decide))<|Zq rfl (fun _ hS=>Ad rfl Bq rfl ((Bx.cs (Bx.gr hb31 (hS.resolve_left nofun) (fun e=>(Ne.symm (Nat.ne_of_lt (Nat.lt_of_lt_of_le hb10.lt hg5))) (Option.some.inj e)))).sub 3 3)) (Ext.gro (Ext.refl _))<|Br rfl<|D8 rfl rfl rfl Bq hb29 rfl rfl (ble rfl) fun w11 hch4 hb32=>?_;have gS2:=World.grownBy.tr (Ext.gro (Ext.refl _)) (Chg.gro hch4);have k32:=Ext.chg k27 hch4 (Nat.le_trans k1.size hg3);have hb33:=Bx.chg hb30 hch4 (Ne.symm (Nat.ne_of_lt (Nat.lt_of_lt_of_le hb4.lt hg4)));have hb34:Bx w11 b5 173 [.int .i64 x3.1.1.1.1,.int .i64 x3.1.1.1.2,.int .i64 x3.1.1.2]:=hb32;refine nl ⟨fun _ _=>gS2,?_⟩;refine Br rfl<|D8 rfl rfl rfl Bq hb33 rfl rfl (ble rfl) fun w12 hch5 hb35=>?_;have k35:=Ext.chg k32 hch5 (Nat.le_trans k1.size (Nat.le_trans hx3.size hg4));have hb36:=Bx.chg hb34 hch5 (Nat.ne_of_lt (Nat.lt_of_lt_of_le hb4.lt hg4));have hb37:Bx w12 b6 173 [.int .i64 x3.1.2.1.1,.int .i64 x3.1.2.1.2,.int .i64 x3.1.2.2]:=hb35;refine nl ⟨fun h=>(h (by decide)).elim,?_⟩;cases hF;exact wp_ret<|rt rfl (.cell rfl rfl Bq rfl (Bx.cs hb36) (.cell rfl rfl Bq rfl (Bx.cs hb37) .nil)) ⟨_,_,rfl,(show RV (α:=((Int×Int)×Int)) _ (.agg [.int .i64 x3.1.1.1.1,.int .i64 x3.1.1.1.2,.int .i64 x3.1.1.2].toArray) ((x3.1.1.1.1,x3.1.1.1.2),x3.1.1.2)from⟨_,rfl,[.int .i64 x3.1.1.1.1]++[.int .i64 x3.1.1.1.2],[.int .i64 x3.1.1.2],rfl,⟨[.int .i64 x3.1.1.1.1],[.int .i64 x3.1.1.1.2],rfl,rfl,rfl⟩,rfl⟩),(show RV (α:=((Int×Int)×Int)) _ (.agg [.int .i64 x3.1.2.1.1,.int .i64 x3.1.2.1.2,.int .i64 x3.1.2.2].toArray) ((x3.1.2.1.1,x3.1.2.1.2),x3.1.2.2)from⟨_,rfl,[.int .i64 x3.1.2.1.1]++[.int .i64 x3.1.2.1.2],[.int .i64 x3.1.2.2],rfl,⟨[.int .i64 x3.1.2.1.1],[.int .i64 x3.1.2.1.2],rfl,rfl,rfl⟩,rfl⟩),k35⟩
theorem xS{w0:World}{v0:Value}{x0:DJ}(r0:RV w0 v0 x0){v1:Value}{x1:(Int×Bool)}(r1:RV w0 v1 x1){v2:Value}{x2:(Int×Bool)}(r2:RV w0 v2 x2){r:Bool}(hF:KA x0 x1 x2=some r):
  Calls Tryz.prog 121 [v0,v1,v2].toArray w0 (BN fun v w'=>v=.bool r/\Ext w0 w'):=by
 unfold KA at hF;have hz:=id r0;obtain⟨_,rfl,_,_,rfl,⟨a1,cq1,rfl,p1,q4,e1⟩,_,_,rfl,rfl,_,_,rfl,rfl,rfl⟩:=hz;have r4:=RV.of1 p1 q4 e1;have hz:=id r1;obtain⟨_,rfl,_,_,rfl,rfl,rfl⟩:=hz;have hz:=id r2;obtain⟨_,rfl,_,_,rfl,rfl,rfl⟩:=hz;refine BK (n:=72) Tryz.func121 rfl rfl rfl<|Zr<|Cw rfl rfl fun b4 w1 hx1 hg1 hb1=>?_;have r7:=r4.ext hx1;refine Cw rfl rfl fun b5 w2 hx2 hg2 hb2=>?_;have k1:=hx1.tr hx2;have hb3:=hb1.ext hx2;have r9:=r7.ext hx2;refine Cw rfl rfl fun b6 w3 hx3 hg3 hb4=>?_;have k2:=k1.tr hx3;have hb5:=hb3.ext hx3;have r12:=r9.ext hx3;have hb6:=hb2.ext hx3;refine Za<|nl<|Zr<|Zv (Ad rfl Ij rfl (Bx.cs hb5))<|Zv (Ad rfl BU rfl (Bx.cs hb6))<|bS hF fun x4 Ex4 hF=>Zc (xc iU (mc rfl (mc rfl mn))) (oL (show RV (α:=DJ) _ (.agg [.slice a1 x0.1.length cq1,.int .i64 x0.2.1,.int .i64 x0.2.2.1,.int .i64 x0.2.2.2].toArray) (x0.1,x0.2.1,(x0.2.2.1,x0.2.2.2))from⟨_,rfl,[.slice a1 x0.1.length cq1],[.int .i64 x0.2.1]++([.int .i64 x0.2.2.1]++[.int .i64 x0.2.2.2]),rfl,r12.rep1,[.int .i64 x0.2.1],[.int .i64 x0.2.2.1]++[.int .i64 x0.2.2.2],rfl,rfl,[.int .i64 x0.2.2.1],[.int .i64 x0.2.2.2],rfl,rfl,rfl⟩) (show RV (α:=(Int×Bool)) _ (.agg [.int .i64 x1.1,.bool x1.2].toArray) (x1.1,x1.2)from⟨_,rfl,[.int .i64 x1.1],[.bool x1.2],rfl,rfl,rfl⟩) Ex4) ?_;rintro _ w4⟨u1,u2,rfl,r14,r15,hx4⟩;have k4:=k2.tr hx4;have hb7:=hb5.ext hx4;have r16:=r12.ext hx4;have hb8:=hb6.ext hx4;have hb9:=hb4.ext hx4;have hz:=id r14;obtain⟨_,rfl,_,_,rfl,⟨_,_,rfl,rfl,rfl⟩,rfl⟩:=hz;have hz:=id r15;obtain⟨_,rfl,_,_,rfl,⟨_,_,rfl,rfl,rfl⟩,rfl⟩:=hz;refine Zm<|Zv (Cq rfl rfl)<|Zv (Cq rfl rfl)<|D5 Bq fun b7 w5 hx5 hg4 hb10=>?_;have k7:=k4.tr hx5;refine D5 Bq fun b8 w6 hx6 hg5 hb14=>?_;have k10:=k7.tr hx6;have k13:=hx5.tr hx6;have hb18:=hb10.ext hx6;refine D8 rfl rfl rfl Bq hb18 rfl rfl (ble rfl) fun w7 hch1 hb19=>?_;have k14:=Ext.chg k10 hch1 (Nat.le_trans k4.size hg4);have k17:=Ext.chg k13 hch1 (Nat.le_trans (Nat.le_refl _) hg4);have hb23:=Bx.chg hb14 hch1 (Ne.symm (Nat.ne_of_lt (Nat.lt_of_lt_of_le hb10.lt hg5)));have hb24:Bx w7 b7 173 [.int .i64 x4.1.1.1,.int .i64 x4.1.1.2,.int .i64 x4.1.2]:=hb19;refine D8 rfl rfl rfl Bq hb23 rfl rfl (ble rfl) fun w8 hch2 hb25=>?_;have k18:=Ext.chg k14 hch2 (Nat.le_trans k4.size (Nat.le_trans hx5.size hg5));have k21:=Ext.chg k17 hch2 (Nat.le_trans (Nat.le_refl _) (Nat.le_trans hx5.size hg5));have hb26:=hb7.ext k21;have r25:=r16.ext k21;have hb27:=hb8.ext k21;have hb28:=hb9.ext k21;have hb29:Bx w8 b8 173 [.int .i64 x4.2.1.1,.int .i64 x4.2.1.2,.int .i64 x4.2.2]:=hb25;refine nl<|Zr<|Zv (Ad rfl Ij rfl (Bx.cs hb26))<|Zv (Ad rfl BU rfl (Bx.cs hb28))<|bS hF fun x5 Ex5 hF=>Zc (xc iU (mc rfl (mc rfl mn))) (oL (show RV (α:=DJ) _ (.agg [.slice a1 x0.1.length cq1,.int .i64 x0.2.1,.int .i64 x0.2.2.1,.int .i64 x0.2.2.2].toArray) (x0.1,x0.2.1,(x0.2.2.1,x0.2.2.2))from⟨_,rfl,[.slice a1 x0.1.length cq1],[.int .i64 x0.2.1]++([.int .i64 x0.2.2.1]++[.int .i64 x0.2.2.2]),rfl,r25.rep1,[.int .i64 x0.2.1],[.int .i64 x0.2.2.1]++[.int .i64 x0.2.2.2],rfl,rfl,[.int .i64 x0.2.2.1],[.int .i64 x0.2.2.2],rfl,rfl,rfl⟩) (show RV (α:=(Int×Bool)) _ (.agg [.int .i64 x2.1,.bool x2.2].toArray) (x2.1,x2.2)from⟨_,rfl,[.int .i64 x2.1],[.bool x2.2],rfl,rfl,rfl⟩) Ex5) ?_;rintro _ w9⟨u3,u4,rfl,r26,r27,hx7⟩;have k22:=k18.tr hx7;have hb30:=hb26.ext hx7;have hb31:=hb27.ext hx7;have hb32:=hb28.ext hx7;have hb33:=hb29.ext hx7;have hz:=id r26;obtain⟨_,rfl,_,_,rfl,⟨_,_,rfl,rfl,rfl⟩,rfl⟩:=hz;have hz:=id r27;obtain⟨_,rfl,_,_,rfl,⟨_,_,rfl,rfl,rfl⟩,rfl⟩:=hz;refine Zm<|Zv (Cq rfl rfl)<|Zv (Cq rfl rfl)<|D5 Bq fun b9 w10 hx8 hg6 hb34=>?_;have k26:=k22.tr hx8;refine D5 Bq fun b10 w11 hx9 hg7 hb39=>?_;have k30:=k26.tr hx9;have k34:=hx8.tr hx9;have hb44:=hb34.ext hx9;refine D8 rfl rfl rfl Bq hb44 rfl rfl (ble rfl) fun w12 hch3 hb45=>?_;have k35:=Ext.chg k30 hch3 (Nat.le_trans k22.size hg6);have k39:=Ext.chg k34 hch3 (Nat.le_trans (Nat.le_refl _) hg6);have hb50:=Bx.chg hb39 hch3 (Ne.symm (Nat.ne_of_lt (Nat.lt_of_lt_of_le hb34.lt hg7)));have hb51:Bx w12 b9 173 [.int .i64 x5.1.1.1,.int .i64 x5.1.1.2,.int .i64 x5.1.2]:=hb45;refine D8 rfl rfl rfl Bq hb50 rfl rfl (ble rfl) fun w13 hch4 hb52=>?_;have k40:=Ext.chg k35 hch4 (Nat.le_trans k22.size (Nat.le_trans hx8.size hg7));have k44:=Ext.chg k39 hch4 (Nat.le_trans (Nat.le_refl _) (Nat.le_trans hx8.size hg7));have hb53:=hb30.ext k44;have hb54:=hb31.ext k44;have hb55:=hb32.ext k44;have hb56:=hb33.ext k44;have hb57:=Bx.chg hb51 hch4 (Nat.ne_of_lt (Nat.lt_of_lt_of_le hb34.lt hg7));have hb58:Bx w13 b10 173 [.int .i64 x5.2.1.1,.int .i64 x5.2.1.2,.int .i64 x5.2.2]:=hb52;refine nl<|Zr<|Zv (AX rfl JL)<|Zv (AR rfl CX ((Bx.cs hb57).at 2 rfl))<|Zv (AX rfl JL)<|Zv (AR rfl CX ((Bx.cs hb56).at 2 rfl))<|Zv (IV rfl rfl)<|Za<|nl<|Zr<|Zv (AX rfl Fh)<|Zv (AR rfl Aa ((Bx.cs hb54).at 0 rfl))<|Zv (AX rfl Fh)<|Zv (AR rfl Aa ((Bx.cs hb55).at 0 rfl))<|Zv (FH rfl rfl)<|Zm<|Zg rfl rfl (CB rfl) (fun hc=>AX rfl Ik)<|Zg rfl rfl (CB rfl) (fun hc=>AX (mv hc rfl) KM)<|Zg rfl rfl (CB rfl) (fun hc=>AR (mv hc rfl) CX ((Bx.cs hb56).at 0 rfl))<|Zg rfl rfl (CB rfl) (fun hc=>AX rfl Ik)<|Zg rfl rfl (CB rfl) (fun hc=>AX (mv hc rfl) KN)<|Zg rfl rfl (CB rfl) (fun hc=>AR (mv hc rfl) CX ((Bx.cs hb57).at 1 rfl))<|Zg rfl rfl (CB rfl) (fun hc=>IV (mv hc rfl) (mv hc rfl))<|Zg rfl rfl (CB rfl) (fun hc=>AX rfl Nw)<|Zg rfl rfl (CB rfl) (fun hc=>AR (mv hc rfl) CX ((Bx.cs hb53).at 1 rfl))<|Zg rfl rfl (CB rfl) (fun hc=>Mf (mv hc rfl) (mv hc rfl))<|Zv (Ky rfl rfl rfl)<|Zm<|Zg rfl rfl (CB rfl) (fun hc=>AX rfl Ik)<|Zg rfl rfl (CB rfl) (fun hc=>AX (mv hc rfl) KM)<|Zg rfl rfl (CB rfl) (fun hc=>AR (mv hc rfl) CX ((Bx.cs hb57).at 0 rfl))<|Zg rfl rfl (CB rfl) (fun hc=>AX rfl Ik)<|Zg rfl rfl (CB rfl) (fun hc=>AX (mv hc rfl) KN)<|Zg rfl rfl (CB rfl) (fun hc=>AR (mv hc rfl) CX ((Bx.cs hb56).at 1 rfl))<|Zg rfl rfl (CB rfl) (fun hc=>IV (mv hc rfl) (mv hc rfl))<|Zg rfl rfl (CB rfl) (fun hc=>AX rfl Nw)<|Zg rfl rfl (CB rfl) (fun hc=>AR (mv hc rfl) CX ((Bx.cs hb53).at 1 rfl))<|Zg rfl rfl (CB rfl) (fun hc=>Mf (mv hc rfl) (mv hc rfl))<|Zv (Ky rfl rfl rfl)<|Zm<|Zg rfl rfl (CB rfl) (fun hc=>Aq rfl)<|Zg rfl rfl (CB rfl) (fun hc=>AX rfl Ny)<|Zg rfl rfl (CB rfl) (fun hc=>AX (mv hc rfl) KM)<|Zg rfl rfl (CB rfl) (fun hc=>AR (mv hc rfl) CX ((Bx.cs hb53).at 2 rfl))<|Zg rfl rfl (CB rfl) (fun hc=>Kw (mv hc rfl) (mv hc rfl))<|Zv (Ky rfl rfl rfl)<|Zm<|Zg rfl rfl (CB rfl) (fun hc=>Aq rfl)<|Zg rfl rfl (CB rfl) (fun hc=>AX rfl Ny)<|Zg rfl rfl (CB rfl) (fun hc=>AX (mv hc rfl) KN)<|Zg rfl rfl (CB rfl) (fun hc=>AR (mv hc rfl) CX ((Bx.cs hb53).at 3 rfl))<|Zg rfl rfl (CB rfl) (fun hc=>Mf (mv hc rfl) (mv hc rfl))<|Zv (Ky rfl rfl rfl)<|Za<|nl<|?_;cases hF;exact wp_ret<|Zw rfl rfl rfl ⟨rfl,k40⟩
theorem Vt{w0:World}{x0:Int}{r:(Int×Int)}(hF:CU x0=some r):
  Calls Tryz.prog 295 [.int .i64 x0].toArray w0 (BN fun v w'=>∃u0:Value,v=u0/\RV w' u0 r/\Ext w0 w'):=by
 unfold CU at hF;refine BK (n:=6) Tryz.func295 rfl rfl rfl<|Zr<|D5 KF fun b2 w1 hx1 hg1 hb1=>nl<|Zr<|Zm<|Zm<|Zv (IW (r:=[.int .i64 x0,.int .i64 x0]) KF vS (pc rfl (pc rfl pn)) rfl)<|D8 rfl rfl rfl KF hb1 rfl rfl (ble rfl) fun w2 hch1 hb2=>?_;have k1:=Ext.chg hx1 hch1 (Nat.le_trans (Nat.le_refl _) hg1);have hb3:Bx w2 b2 35 [.int .i64 x0,.int .i64 x0]:=hb2;refine nl<|?_;cases hF;exact wp_ret<|rt rfl (.cell rfl rfl KF rfl (Bx.cs hb3) .nil) ⟨_,rfl,(show RV (α:=(Int×Int)) _ (.agg [.int .i64 x0,.int .i64 x0].toArray) (x0,x0)from⟨_,rfl,[.int .i64 x0],[.int .i64 x0],rfl,rfl,rfl⟩),k1⟩
theorem xU{w0:World}{v0:Value}{x0:(Int×Int)}(r0:RV w0 v0 x0){b1:Nat}{cs1:List Value}{x1:Int}(h1:Cs w0 b1 0 cs1)(q1:Enc.rep (fun _=>True) w0 cs1 x1){b2:Nat}{cs2:List Value}{x2:Int}(h2:Cs w0 b2 0 cs2)(q2:Enc.rep (fun _=>True) w0 cs2 x2){r:Bool}(hF:KX x0 x1 x2=some r):
  Calls Tryz.prog 339 [v0,.pointer (some ⟨b1,0,none⟩),.pointer (some ⟨b2,0,none⟩)].toArray w0 (BN fun v w'=>v=.bool r/\Ext w0 w'):=by
 unfold KX at hF;have hz:=id r0;obtain⟨_,rfl,_,_,rfl,rfl,rfl⟩:=hz;obtain rfl:=q1;obtain rfl:=q2;refine BK (n:=22) Tryz.func339 rfl rfl rfl<|Zr<|Cw rfl rfl fun b4 w1 hx1 hg1 hb1=>?_;have h4:=h1.ext hx1;have h5:=h2.ext hx1;refine Za<|nl<|Zr<|Zv (AX rfl KM)<|Zv (AR rfl CX ((Bx.cs hb1).at 0 rfl))<|Zv (AR rfl CX (h4.at 0 rfl))<|Zv (BL rfl rfl)<|Zm<|Zg rfl rfl (Be rfl) (fun hc=>AX rfl KM)<|Zg rfl rfl (Be rfl) (fun hc=>AR (mv hc rfl) CX ((Bx.cs hb1).at 0 rfl))<|Zg rfl rfl (Be rfl) (fun hc=>AX rfl KN)<|Zg rfl rfl (Be rfl) (fun hc=>AR (mv hc rfl) CX ((Bx.cs hb1).at 1 rfl))<|Zg rfl rfl (Be rfl) (fun hc=>Ig (mv hc rfl) (mv hc rfl))<|Zv (JF rfl rfl rfl)<|Zm<|Zg rfl rfl (Be rfl) (fun hc=>AX rfl KN)<|Zg rfl rfl (Be rfl) (fun hc=>AR (mv hc rfl) CX ((Bx.cs hb1).at 1 rfl))<|Zg rfl rfl (Be rfl) (fun hc=>AR rfl CX (h5.at 0 rfl))<|Zg rfl rfl (Be rfl) (fun hc=>Ig (mv hc rfl) (mv hc rfl))<|Zv (JF rfl rfl rfl)<|Za<|nl<|?_;cases hF;exact wp_ret<|Zw rfl rfl rfl ⟨rfl,hx1⟩
theorem Vu{w0:World}{x0:Int}{x1:Int}{v2:Value}{x2:(List (Int×Int))}(r2:RV w0 v2 x2){F:Nat}{r:Bool}(hF:GQ F x0 x1 x2=some r):
  Calls Tryz.prog 296 [.int .i64 x0,.int .i64 x1,v2].toArray w0 (BN fun v w'=>v=.bool r/\Ext w0 w'):=by
 unfold GQ at hF;have hz:=r2.sl;obtain⟨a1,cq1,rfl,-,-,-⟩:=hz;refine BK (n:=11) Tryz.func296 rfl rfl rfl<|Zr<|Cw rfl rfl fun b4 w1 hx1 hg1 hb1=>?_;have r4:=r2.ext hx1;refine Cw rfl rfl fun b5 w2 hx2 hg2 hb2=>?_;have k1:=hx1.tr hx2;have hb3:=hb1.ext hx2;have r5:=r4.ext hx2;refine Za<|nl<|Zr<|Zm<|Zv (Uy mn (mc rfl (mc rfl mn)))<|bS hF fun x4 Ex4 hF=>Zc (xc rH (mc rfl (mc rfl mn))) (xQ r5 ⟨339,[],[.pointer (some ⟨b4,0,none⟩),.pointer (some ⟨b5,0,none⟩)],rfl,rY,fun w' u x b hk hu hp=>xU hu (Bx.cs (hb3.ext hk)) rfl (Bx.cs (hb2.ext hk)) rfl hp⟩ Ex4) ?_;rintro _ w3⟨rfl,hx3⟩;have k2:=k1.tr hx3;refine Zv (GV rfl)<|Za<|nl<|?_;cases hF;exact wp_ret<|Zw rfl rfl rfl ⟨rfl,k2⟩
theorem xV{w0:World}{v0:Value}{x0:DJ}(r0:RV w0 v0 x0){F:Nat}{r:Int}(hF:GX F x0=some r):
  Calls Tryz.prog 214 [v0].toArray w0 (BN fun v w'=>v=.int .i64 r/\Ext w0 w'):=by
 unfold GX at hF;have hz:=id r0;obtain⟨_,rfl,_,_,rfl,⟨a1,cq1,rfl,p1,q2,e1⟩,_,_,rfl,rfl,_,_,rfl,rfl,rfl⟩:=hz;have r2:=RV.of1 p1 q2 e1;refine BK (n:=68) Tryz.func214 rfl rfl rfl<|Zr<|Cw rfl rfl fun b2 w1 hx1 hg1 hb1=>Za<|nl<|wp_seq<|Zr<|Zv (AX rfl Fg)<|Zv (AR rfl I6 ((Bx.cs hb1).at 0 rfl))<|Zv (Ao rfl Tryz.underlying46)<|Zv (FE rfl rfl)<|Zm<|Zg rfl rfl (Be rfl) (fun hc=>AX rfl Fg)<|Zg rfl rfl (Be rfl) (fun hc=>AR (mv hc rfl) I6 ((Bx.cs hb1).at 0 rfl))<|Zg rfl rfl (Be rfl) (fun hc=>Ao (mv hc rfl) Tryz.underlying46)<|Zg rfl rfl (Be rfl) (fun hc=>Ig (mv hc rfl) rfl)<|Zv (JF rfl rfl rfl)<|nl<|cnd rfl (fun h2=>?_) (fun h2=>?_)
 ·have hF:=Ah hF h2;refine Zr<|Za<|nl<|?_;cases hF;exact wp_ret<|Zw rfl rfl rfl ⟨rfl,hx1⟩
 ·have hF:=Ai hF h2;refine wp_skip<|Zr<|Za<|nl<|Zr<|Zm<|Zv (AX rfl Nw)<|Zv (AR rfl CX ((Bx.cs hb1).at 1 rfl))<|bS hF fun x2 Ex2 hF=>Zc (PD rfl Qx (mc rfl mn) rfl) (Vt Ex2) ?_;rintro _ w2⟨u1,rfl,r5,hx2⟩;have k1:=hx1.tr hx2;have hb2:=hb1.ext hx2;have hz:=id r5;obtain⟨_,rfl,_,_,rfl,rfl,rfl⟩:=hz;refine Gq (cs:=[.int .i64 x2.1,.int .i64 x2.2]) Tryz.underlying32 KF rfl (pc rfl pn) rfl rfl rfl rfl rfl fun b3 w3 hx3 hg2 hb3=>?_;have k2:=k1.tr hx3;have hb4:=hb2.ext hx3;have o1:Row (α:=(Int×Int)) 35 w2.heap.size w3 (.slice (some ⟨b3,0,none⟩) 1 1) [x2]:=Row.lit hg2 hb3 rfl (ble rfl);refine bS hF fun x3 Ex3 hF=>Zc (xc Qy (mc rfl (mc rfl (mc rfl mn)))) (Vu o1.rv Ex3) ?_;rintro _ w4⟨rfl,hx4⟩;have k3:=k2.tr hx4;have hb5:=hb4.ext hx4;refine Zm<|Zg rfl rfl (CB rfl) (fun hc=>AX rfl Ny)<|Zg rfl rfl (CB rfl) (fun hc=>Ad (mv hc rfl) KF rfl ((Bx.cs hb5).sub 2 2))<|gm (fun v w=>RV w v ([(x0.2.2.1,x0.2.2.2)]:List (Int×Int))/\Ext w4 w) rfl rfl rfl rfl (CB rfl) rfl (fun hc=>Gq (cs:=[.int .i64 x0.2.2.1,.int .i64 x0.2.2.2]) Tryz.underlying32 KF rfl (pc (mv hc rfl) pn) rfl rfl rfl rfl rfl fun b w' hx hg hb=>nl ⟨_,rfl,(Row.lit (base:=0) (l:=([(x0.2.2.1,x0.2.2.2)]:List (Int×Int))) (Nat.zero_le _) hb rfl (ble rfl)).rv,hx⟩) (fun v2 w5 hy1 hn1=>?_);have hx5:Ext w4 w5:=gx (fun h=>(hy1 h).2) (fun h=>(hn1 h).2▸Ext.refl _);have k5:=k3.tr hx5;have hb6:=hb5.ext hx5;refine bS hF fun x4 Ex4 hF=>gc rfl rfl rfl rfl (CB rfl) rfl (fun hc=>xc Qy (mc rfl (mc rfl (mc rfl mn)))) (fun hc=>(Vu ((hy1 hc).1) (Ot Ex4 hc))) (fun v3 w6 hy2 hn2=>?_);have hx6:Ext w5 w6:=gx (fun h=>(hy2 h).2) (fun h=>(hn2 h).2▸Ext.refl _);have e2:=Ou (fun h=>(hy2 h).1) (fun h=>(hn2 h).1);have k7:=k5.tr hx6;have hb7:=hb6.ext hx6;refine Zv (Ky rfl e2 rfl)<|Za<|nl<|wp_seq<|Zr<|Zv (AX rfl Fg)<|Zv (AR rfl I6 ((Bx.cs hb7).at 0 rfl))<|Zv (Ao rfl Tryz.underlying46)<|Zm<|nl<|bS hF fun z1 hB1 hF=>ct (fun L w=>L 4=.bool z1/\Ext w6 w) ?_ ?_
  ·refine wp_block<|lp (I:=fun m L w=>∃y1:Bool,∃y2:Int,Cg F x0 m y1 y2=some z1/\L 4=.bool y1/\L 34=.int .i64 y2/\L 3=.func (.func 295) [].toArray [].toArray/\L 32=.slice a1 x0.1.length cq1/\L 33=.int .i64 (x0.1.length:Int)/\Ext w6 w) F ⟨_,_,hB1,rfl,rfl,rfl,rfl,rfl,(Ext.refl _)⟩ ?_;rintro m L w7⟨y1,y2,hB1,l4_i1,l34_i1,l3_i1,l32_i1,l33_i1,K0_i1⟩;rcases m with _|m
   ·rw[Cg]at hB1;cases hB1
   rw[Cg]at hB1;have k9:=k7.tr K0_i1;refine Zr<|Zv (BL l34_i1 l33_i1)<|nl<|wp_seq<|cnd rfl (fun h3=>?_) (fun h3=>?_)
   ·have hB1:=Ah hB1 h3;refine wp_skip<|wp_seq<|wp_block<|Zr<|bS hB1 fun x5 Ex5 hB1=>?_;have hz:=(RV.els r2).ix Ex5;obtain⟨b4,f1,cs2,e3,i2,i3,q3,hc1⟩:=hz;cases e3;obtain⟨_,_,rfl,⟨_,_,rfl,⟨_,_,rfl,⟨_,_,rfl,rfl,rfl⟩,rfl⟩,_,_,rfl,⟨_,_,rfl,rfl,rfl⟩,rfl⟩,rfl⟩:=q3;have hc2:=hc1.ext k9;refine Zv (Al l32_i1 l34_i1 Tryz.underlying46 Jy i2 i3)<|Zv (Ad rfl Jy rfl hc2)<|D5 Jy fun b5 w8 hx7 hg3 hb8=>?_;have k13:=K0_i1.tr hx7;refine D8 rfl rfl rfl Jy hb8 rfl rfl (ble rfl) fun w9 hch1 hb9=>?_;have k16:=Ext.chg k13 hch1 (Nat.le_trans K0_i1.size hg3);have hb10:Bx w9 b5 176 [.int .i64 x5.1.1.1.1,.int .i64 x5.1.1.1.2,.int .i64 x5.1.1.2,.int .i64 x5.1.2.1.1,.int .i64 x5.1.2.1.2,.int .i64 x5.1.2.2,.bool x5.2]:=hb9;refine nl<|wp_seq<|?_;have hz:=bs hB1;obtain⟨⟨y3,y4⟩,hB3,hB1⟩:=hz;refine ct (fun L w=>∃v4 v5:Value,L 7=v4/\PB 173 w9.heap.size w v4 y3/\L 8=v5/\PB 173 w9.heap.size w v5 y4/\v4≠v5/\L 3=.func (.func 295) [].toArray [].toArray/\L 4=.bool y1/\L 32=.slice (some ⟨b4,f1,none⟩) x0.1.length cq1/\L 33=.int .i64 (x0.1.length:Int)/\L 34=.int .i64 y2/\Ext w9 w) ?_ ?_
    ·refine Ff [] (.pure true 0 (.pure true 1 (.pure false 2 (.pure true 3 (.pure true 4 (.pure false 5 (.eff 6 (.eff 7 (.eff 8 (.eff 9 .fin .stop) .stop) .stop) (.eff 7 (.eff 6 (.eff 8 (.eff 9 .fin .stop) .stop) .stop) .stop)))))))) mixed (by kernel_rfl) (fun w15 hx11=>?_);have hb21:=hb10.ext hx11;refine Zp rfl (fun _=>AX rfl Nz)<|Zp rfl (fun _=>C9 rfl rfl Tryz.underlying174 Bq (by decide) (by decide))<|Zq rfl (fun _ hS=>Ad rfl Bq rfl ((Bx.cs (hb21.ext (hS.resolve_left nofun))).sub 0 3)) (Ext.refl _)<|Zp rfl (fun _=>AX rfl Nz)<|Zp rfl (fun _=>C9 rfl rfl Tryz.underlying174 Bq (by decide) (by decide))<|Zq rfl (fun _ hS=>Ad rfl Bq rfl ((Bx.cs (hb21.ext (hS.resolve_left nofun))).sub 3 3)) (Ext.refl _)<|?_;refine pe rfl ?_ ?_
     ·refine D5 Bq fun b8 w16 hx12 hg6 hb22=>?_;have k53:=hx11.tr hx12;refine nl ⟨fun _ _=>hx12,?_⟩;refine Br rfl<|D5 Bq fun b9 w17 hx13 hg7 hb23=>?_;have k58:=k53.tr hx13;have k59:=hx12.tr hx13;have hb24:=hb22.ext hx13;refine nl ⟨fun _ _=>k59,?_⟩;refine Br rfl<|D8 rfl rfl rfl Bq hb24 rfl rfl (ble rfl) fun w18 hch4 hb25=>?_;have k64:=Ext.chg k58 hch4 (Nat.le_trans hx11.size hg6);have k65:=Ext.chg k59 hch4 (Nat.le_trans (Nat.le_refl _) hg6);have hb26:=Bx.chg hb23 hch4 (Ne.symm (Nat.ne_of_lt (Nat.lt_of_lt_of_le hb22.lt hg7)));have hb27:Bx w18 b8 173 [.int .i64 x5.1.1.1.1,.int .i64 x5.1.1.1.2,.int .i64 x5.1.1.2]:=hb25;refine nl ⟨fun _ _=>k65,?_⟩;refine Br rfl<|D8 rfl rfl rfl Bq hb26 rfl rfl (ble rfl) fun w19 hch5 hb28=>?_;have k70:=Ext.chg k64 hch5 (Nat.le_trans hx11.size (Nat.le_trans hx12.size hg7));have k71:=Ext.chg k65 hch5 (Nat.le_trans (Nat.le_refl _) (Nat.le_trans hx12.size hg7));have hb29:=Bx.chg hb27 hch5 (Nat.ne_of_lt (Nat.lt_of_lt_of_le hb22.lt hg7));have hb30:Bx w19 b9 173 [.int .i64 x5.1.2.1.1,.int .i64 x5.1.2.1.2,.int .i64 x5.1.2.2]:=hb28;refine nl ⟨fun _ _=>k71,?_⟩;cases hB3;refine lf<|?_;exact⟨_,_,rfl,⟨_,_,rfl,(Nat.le_trans hx11.size hg6),hb29,[.int .i64 x5.1.1.1.1]++[.int .i64 x5.1.1.1.2],[.int .i64 x5.1.1.2],rfl,⟨[.int .i64 x5.1.1.1.1],[.int .i64 x5.1.1.1.2],rfl,rfl,rfl⟩,rfl⟩,rfl,⟨_,_,rfl,(Nat.le_trans hx11.size (Nat.le_trans hx12.size hg7)),hb30,[.int .i64 x5.1.2.1.1]++[.int .i64 x5.1.2.1.2],[.int .i64 x5.1.2.2],rfl,⟨[.int .i64 x5.1.2.1.1],[.int .i64 x5.1.2.1.2],rfl,rfl,rfl⟩,rfl⟩,(Zx (Nat.ne_of_lt (Nat.lt_of_lt_of_le hb22.lt hg7))),l3_i1,l4_i1,l32_i1,l33_i1,l34_i1,k70⟩
     refine pm rfl ?_ ?_
     ·refine D5 Bq fun b10 w20 hx14 hg8 hb31=>?_;have k76:=hx11.tr hx14;refine nl ⟨fun _ _=>hx14,?_⟩;refine Br rfl<|D5 Bq fun b11 w21 hx15 hg9 hb32=>?_;have k81:=k76.tr hx15;have k82:=hx14.tr hx15;refine nl ⟨fun _ _=>k82,?_⟩;refine Br rfl<|D8 rfl rfl rfl Bq hb32 rfl rfl (ble rfl) fun w22 hch6 hb34=>?_;have k87:=Ext.chg k81 hch6 (Nat.le_trans k76.size hg9);have k88:=Ext.chg k82 hch6 (Nat.le_trans hx14.size hg9);have k89:=Ext.chg hx15 hch6 (Nat.le_trans (Nat.le_refl _) hg9);have hb35:=hb31.ext k89;have hb36:Bx w22 b11 173 [.int .i64 x5.1.1.1.1,.int .i64 x5.1.1.1.2,.int .i64 x5.1.1.2]:=hb34;refine nl ⟨fun _ _=>k88,?_⟩;refine Br rfl<|D8 rfl rfl rfl Bq hb35 rfl rfl (ble rfl) fun w23 hch7 hb37=>?_;have k94:=Ext.chg k87 hch7 (Nat.le_trans hx11.size hg8);have k95:=Ext.chg k88 hch7 (Nat.le_trans (Nat.le_refl _) hg8);have hb38:=Bx.chg hb36 hch7 (Ne.symm (Nat.ne_of_lt (Nat.lt_of_lt_of_le hb31.lt hg9)));have hb39:Bx w23 b10 173 [.int .i64 x5.1.2.1.1,.int .i64 x5.1.2.1.2,.int .i64 x5.1.2.2]:=hb37;refine nl ⟨fun _ _=>k95,?_⟩;cases hB3;refine lf<|?_;exact⟨_,_,rfl,⟨_,_,rfl,(Nat.le_trans hx11.size (Nat.le_trans hx14.size hg9)),hb38,[.int .i64 x5.1.1.1.1]++[.int .i64 x5.1.1.1.2],[.int .i64 x5.1.1.2],rfl,⟨[.int .i64 x5.1.1.1.1],[.int .i64 x5.1.1.1.2],rfl,rfl,rfl⟩,rfl⟩,rfl,⟨_,_,rfl,(Nat.le_trans hx11.size hg8),hb39,[.int .i64 x5.1.2.1.1]++[.int .i64 x5.1.2.1.2],[.int .i64 x5.1.2.2],rfl,⟨[.int .i64 x5.1.2.1.1],[.int .i64 x5.1.2.1.2],rfl,rfl,rfl⟩,rfl⟩,(Zx (Ne.symm (Nat.ne_of_lt (Nat.lt_of_lt_of_le hb31.lt hg9)))),l3_i1,l4_i1,l32_i1,l33_i1,l34_i1,k94⟩
     trivial
    rintro L w24⟨v4,v5,l7_j1,P7_j1,l8_j1,P8_j1,N7_8_j1,l3_j1,l4_j1,l32_j1,l33_j1,l34_j1,K0_j1⟩;have k98:=k16.tr K0_j1;obtain⟨b12,cs3,rfl,hg10,hb40,q4⟩:=P7_j1;obtain⟨_,_,rfl,⟨_,_,rfl,rfl,rfl⟩,rfl⟩:=q4;obtain⟨b13,cs4,rfl,hg11,hb41,q5⟩:=P8_j1;obtain⟨_,_,rfl,⟨_,_,rfl,rfl,rfl⟩,rfl⟩:=q5;refine bS hB1 fun y5 hB4 hB1=>ct (fun L w=>L 4=.bool y5/\L 3=.func (.func 295) [].toArray [].toArray/\L 32=.slice (some ⟨b4,f1,none⟩) x0.1.length cq1/\L 33=.int .i64 (x0.1.length:Int)/\L 34=.int .i64 y2/\Ext w24 w) ?_ ?_
    ·refine Ff [] (.pure true 0 (.pure true 1 (.pure true 2 (.pure false 3 (.pure true 4 (.pure false 5 (.eff 6 (.eff 7 (.pure true 8 (.pure true 9 (.pure true 10 (.pure true 11 (.pure false 12 (.pure true 14 (.pure true 15 (.pure false 16 (.eff 13 (.eff 17 (.eff 18 (.eff 19 (.pure true 20 (.pure true 21 .fin)) .stop) .stop) .stop) .stop))))))))) .stop) .stop))))))) mixed (by kernel_rfl) (fun w29 hx20=>?_);have hb48:=hb40.ext hx20;have hb49:=hb41.ext hx20;refine Zn rfl<|Zn rfl<|Or.elim (Bool.eq_false_or_eq_true y1) (fun h4=>?_) (fun h4=>?_)
     ·have hB4:=Ah hB4 h4;refine KL rfl rfl rfl rfl rfl l4_j1 (bt h4) rfl (fun _ _=>AX l7_j1 Ik) (.inl rfl)<|KL rfl rfl rfl rfl rfl l4_j1 (bt h4) rfl (fun _ hS=>Ad rfl KF rfl ((Bx.cs (hb48.ext (hS.resolve_left nofun))).sub 0 2)) (.inr (Ext.refl _))<|KL rfl rfl rfl rfl rfl l4_j1 (bt h4) rfl (fun _ _=>AX l8_j1 Ik) (.inl rfl)<|KL rfl rfl rfl rfl rfl l4_j1 (bt h4) rfl (fun _ hS=>Ad rfl KF rfl ((Bx.cs (hb49.ext (hS.resolve_left nofun))).sub 0 2)) (.inr (Ext.refl _))<|Br rfl<|mJ rfl rfl rfl rfl l4_j1 (bt h4)<|Gq (cs:=[.int .i64 y3.1.1,.int .i64 y3.1.2,.int .i64 y4.1.1,.int .i64 y4.1.2]) Tryz.underlying32 KF rfl (pc rfl (pc rfl pn)) rfl rfl rfl rfl rfl fun b14 w30 hx21 hg12 hb50=>?_;have k126:=hx20.tr hx21;have o3:Row (α:=(Int×Int)) 35 w29.heap.size w30 (.slice (some ⟨b14,0,none⟩) 2 2) [(y3.1.1,y3.1.2),(y4.1.1,y4.1.2)]:=Row.lit hg12 hb50 rfl (ble rfl);refine nl ⟨fun _ _=>hx21,?_⟩;refine bS hB4 fun x8 Ex8 hB4=>Br rfl<|mJ rfl rfl rfl rfl l4_j1 (bt h4)<|Zc (xc Qy (mc rfl (mc rfl (mc rfl mn)))) (Vu o3.rv Ex8) ?_;rintro _ w31⟨rfl,hx22⟩;have k132:=k126.tr hx22;have k133:=hx21.tr hx22;refine nl ⟨fun _ _=>k133,?_⟩;refine Zp rfl (fun _=>GD l4_j1 h4 rfl)<|Zn rfl<|Or.elim (Bool.eq_false_or_eq_true x8) (fun h5=>?_) (fun h5=>?_)
      ·have hB4:=Ah hB4 h5;refine Yt rfl (bt h5) (fun _=>Cv)<|Yt rfl (bt h5) (fun _=>AX l7_j1 JL)<|Yi rfl (bt h5) (fun _ hS=>AR rfl CX ((Bx.cs (hb48.ext (hS.resolve_left nofun))).at 2 rfl)) k133<|Yt rfl (bt h5) (fun _=>Cv)<|Yt rfl (bt h5) (fun _=>AX l8_j1 JL)<|Yi rfl (bt h5) (fun _ hS=>AR rfl CX ((Bx.cs (hb49.ext (hS.resolve_left nofun))).at 2 rfl)) k133<|bS hB4 fun x9 Ex9 hB4=>Br rfl<|Gt rfl (bt h5)<|Zc (PD l3_j1 Qx (mc rfl mn) rfl) (Vt Ex9) ?_;rintro _ w32⟨u2,rfl,r37,hx23⟩;have k139:=k132.tr hx23;have k140:=k133.tr hx23;have hz:=id r37;obtain⟨_,rfl,_,_,rfl,rfl,rfl⟩:=hz;refine nl ⟨fun _ _=>k140,?_⟩;refine bS hB4 fun x10 Ex10 hB4=>Br rfl<|Gt rfl (bt h5)<|Zc (PD l3_j1 Qx (mc rfl mn) rfl) (Vt Ex10) ?_;rintro _ w33⟨u3,rfl,r39,hx24⟩;have k146:=k139.tr hx24;have k147:=k140.tr hx24;have hz:=id r39;obtain⟨_,rfl,_,_,rfl,rfl,rfl⟩:=hz;refine nl ⟨fun _ _=>k147,?_⟩;refine Br rfl<|Gt rfl (bt h5)<|Gq (cs:=[.int .i64 x9.1,.int .i64 x9.2,.int .i64 x10.1,.int .i64 x10.2]) Tryz.underlying32 KF rfl (pc rfl (pc rfl pn)) rfl rfl rfl rfl rfl fun b15 w34 hx25 hg13 hb55=>?_;have k153:=k146.tr hx25;have k154:=k147.tr hx25;have o4:Row (α:=(Int×Int)) 35 w33.heap.size w34 (.slice (some ⟨b15,0,none⟩) 2 2) [x9,x10]:=Row.lit hg13 hb55 rfl (ble rfl);refine nl ⟨fun _ _=>k154,?_⟩;refine bS hB4 fun x11 Ex11 hB4=>Br rfl<|Gt rfl (bt h5)<|Zc (xc Qy (mc rfl (mc rfl (mc rfl mn)))) (Vu o4.rv Ex11) ?_;rintro _ w35⟨rfl,hx26⟩;have k160:=k153.tr hx26;have k161:=k154.tr hx26;refine nl ⟨fun _ _=>k161,?_⟩;refine Zp rfl (fun _=>GD rfl h5 rfl)<|Zp rfl (fun _=>GU)<|?_;cases hB4;refine lf<|?_;exact⟨rfl,l3_j1,l32_j1,l33_j1,l34_j1,k160⟩
      ·have hB4:=Ai hB4 h5;refine Yf rfl (Ae h5)<|Yf rfl (Ae h5)<|Yh rfl (Ae h5) k133<|Yf rfl (Ae h5)<|Yf rfl (Ae h5)<|Yh rfl (Ae h5) k133<|Br rfl<|Gk rfl (Ae h5)<|nl ⟨fun _ _=>k133,?_⟩;refine Br rfl<|Gk rfl (Ae h5)<|nl ⟨fun _ _=>k133,?_⟩;refine Br rfl<|Gk rfl (Ae h5)<|nl ⟨fun _ _=>k133,?_⟩;refine Br rfl<|Gk rfl (Ae h5)<|nl ⟨fun _ _=>k133,?_⟩;refine Zp rfl (fun _=>H8 rfl h5 rfl)<|Zp rfl (fun _=>GU)<|?_;cases hB4;refine lf<|?_;exact⟨rfl,l3_j1,l32_j1,l33_j1,l34_j1,k132⟩
     ·have hB4:=Ai hB4 h4;refine KD rfl rfl rfl rfl rfl l4_j1 (Ae h4) rfl (.inl rfl)<|KD rfl rfl rfl rfl rfl l4_j1 (Ae h4) rfl (.inr (Ext.refl _))<|KD rfl rfl rfl rfl rfl l4_j1 (Ae h4) rfl (.inl rfl)<|KD rfl rfl rfl rfl rfl l4_j1 (Ae h4) rfl (.inr (Ext.refl _))<|Br rfl<|iK rfl rfl rfl rfl l4_j1 (Ae h4) rfl<|nl ⟨fun _ _=>(Ext.refl _),?_⟩;refine Br rfl<|iK rfl rfl rfl rfl l4_j1 (Ae h4) rfl<|nl ⟨fun _ _=>(Ext.refl _),?_⟩;refine Zp rfl (fun _=>H8 l4_j1 h4 rfl)<|Zn rfl<|Or.elim (Bool.eq_false_or_eq_true false) (fun h6=>?_) (fun h6=>?_)
      ·have hB4:=Ah hB4 h6;refine Yt rfl (bt h6) (fun _=>Cv)<|Yt rfl (bt h6) (fun _=>AX l7_j1 JL)<|Yi rfl (bt h6) (fun _ hS=>AR rfl CX ((Bx.cs (hb48.ext (hS.resolve_left nofun))).at 2 rfl)) (Ext.refl _)<|Yt rfl (bt h6) (fun _=>Cv)<|Yt rfl (bt h6) (fun _=>AX l8_j1 JL)<|Yi rfl (bt h6) (fun _ hS=>AR rfl CX ((Bx.cs (hb49.ext (hS.resolve_left nofun))).at 2 rfl)) (Ext.refl _)<|bS hB4 fun x12 Ex12 hB4=>Br rfl<|Gt rfl (bt h6)<|Zc (PD l3_j1 Qx (mc rfl mn) rfl) (Vt Ex12) ?_;rintro _ w36⟨u4,rfl,r45,hx27⟩;have k168:=hx20.tr hx27;have hz:=id r45;obtain⟨_,rfl,_,_,rfl,rfl,rfl⟩:=hz;refine nl ⟨fun _ _=>hx27,?_⟩;refine bS hB4 fun x13 Ex13 hB4=>Br rfl<|Gt rfl (bt h6)<|Zc (PD l3_j1 Qx (mc rfl mn) rfl) (Vt Ex13) ?_;rintro _ w37⟨u5,rfl,r47,hx28⟩;have k174:=k168.tr hx28;have k175:=hx27.tr hx28;have hz:=id r47;obtain⟨_,rfl,_,_,rfl,rfl,rfl⟩:=hz;refine nl ⟨fun _ _=>k175,?_⟩;refine Br rfl<|Gt rfl (bt h6)<|Gq (cs:=[.int .i64 x12.1,.int .i64 x12.2,.int .i64 x13.1,.int .i64 x13.2]) Tryz.underlying32 KF rfl (pc rfl (pc rfl pn)) rfl rfl rfl rfl rfl fun b16 w38 hx29 hg14 hb56=>?_;have k181:=k174.tr hx29;have k182:=k175.tr hx29;have o5:Row (α:=(Int×Int)) 35 w37.heap.size w38 (.slice (some ⟨b16,0,none⟩) 2 2) [x12,x13]:=Row.lit hg14 hb56 rfl (ble rfl);refine nl ⟨fun _ _=>k182,?_⟩;refine bS hB4 fun x14 Ex14 hB4=>Br rfl<|Gt rfl (bt h6)<|Zc (xc Qy (mc rfl (mc rfl (mc rfl mn)))) (Vu o5.rv Ex14) ?_;rintro _ w39⟨rfl,hx30⟩;have k188:=k181.tr hx30;have k189:=k182.tr hx30;refine nl ⟨fun _ _=>k189,?_⟩;refine Zp rfl (fun _=>GD rfl h6 rfl)<|Zp rfl (fun _=>GU)<|?_;cases hB4;refine lf<|?_;exact⟨rfl,l3_j1,l32_j1,l33_j1,l34_j1,k188⟩
      ·have hB4:=Ai hB4 h6;refine Yf rfl (Ae h6)<|Yf rfl (Ae h6)<|Yh rfl (Ae h6) (Ext.refl _)<|Yf rfl (Ae h6)<|Yf rfl (Ae h6)<|Yh rfl (Ae h6) (Ext.refl _)<|Br rfl<|Gk rfl (Ae h6)<|nl ⟨fun _ _=>(Ext.refl _),?_⟩;refine Br rfl<|Gk rfl (Ae h6)<|nl ⟨fun _ _=>(Ext.refl _),?_⟩;refine Br rfl<|Gk rfl (Ae h6)<|nl ⟨fun _ _=>(Ext.refl _),?_⟩;refine Br rfl<|Gk rfl (Ae h6)<|nl ⟨fun _ _=>(Ext.refl _),?_⟩;refine Zp rfl (fun _=>H8 rfl h6 rfl)<|Zp rfl (fun _=>GU)<|?_;cases hB4;refine lf<|?_;exact⟨rfl,l3_j1,l32_j1,l33_j1,l34_j1,hx20⟩
    rintro L w40⟨l4_j2,l3_j2,l32_j2,l33_j2,l34_j2,K0_j2⟩;have k193:=k98.tr K0_j2;refine rg<|Zv (Aw l34_j2 rfl)<|Zm<|nl<|lq m (Nat.lt_succ_self _)<|?_;exact⟨_,_,hB1,l4_j2,rfl,l3_j2,l32_j2,l33_j2,k193⟩
   ·have hB1:=Ai hB1 h3;refine wp_exit<|?_;cases hB1;refine lf<|?_;exact⟨l4_i1,K0_i1⟩
  rintro L w41⟨l4_j3,K0_j3⟩;have k196:=k7.tr K0_j3;refine wp_seq<|Zr<|Zm<|Zv (GV l4_j3)<|nl<|cnd rfl (fun h7=>?_) (fun h7=>?_)
  ·have hF:=Ah hF h7;refine Zr<|Za<|nl<|?_;cases hF;exact wp_ret<|Zw rfl rfl rfl ⟨rfl,k196⟩
  ·have hF:=Ai hF h7;refine wp_skip<|Zr<|Za<|nl<|?_;cases hF;exact wp_ret<|Zw rfl rfl rfl ⟨rfl,k196⟩
theorem xW{w0:World}{b0:Nat}{cs0:List Value}{x0:(DJ×(List (Int×Bool))×(Ar 16 (Ar 16 Int))×Opq×Opq)}(h0:Cs w0 b0 0 cs0)(q0:Enc.rep (fun _=>True) w0 cs0 x0){v1:Value}{x1:((Int×Int)×Int)}(r1:RV w0 v1 x1){v2:Value}{x2:((Int×Int)×Int)}(r2:RV w0 v2 x2){r:Bool}(hF:HY x0 x1 x2=some r):
  Calls Tryz.prog 297 [.pointer (some ⟨b0,0,none⟩),v1,v2].toArray w0 (BN fun v w'=>v=.bool r/\Ext w0 w'):=by
 unfold HY at hF;obtain⟨_,_,rfl,⟨_,_,rfl,⟨a1,cq1,rfl,p1,q4,e1⟩,_,_,rfl,rfl,_,_,rfl,rfl,rfl⟩,_,_,rfl,⟨a2,cq2,rfl,p2,q5,e2⟩,_,_,rfl,rfl,_,_,rfl,⟨a3,rfl,q6⟩,a4,rfl,q7⟩:=q0;have hz:=id r1;obtain⟨_,rfl,_,_,rfl,⟨_,_,rfl,rfl,rfl⟩,rfl⟩:=hz;have hz:=id r2;obtain⟨_,rfl,_,_,rfl,⟨_,_,rfl,rfl,rfl⟩,rfl⟩:=hz;refine BK (n:=56) Tryz.func297 rfl rfl rfl<|Zr<|Cw rfl rfl fun b4 w1 hx1 hg1 hb1=>?_;have h4:=h0.ext hx1;refine Cw rfl rfl fun b5 w2 hx2 hg2 hb2=>?_;have k1:=hx1.tr hx2;have hb3:=hb1.ext hx2;have h5:=h4.ext hx2;refine Za<|nl<|Zr<|Zv (AX rfl Ik)<|Zv (AX rfl KM)<|Zv (AR rfl CX ((Bx.cs hb3).at 0 rfl))<|Zv (AX rfl Ik)<|Zv (AX rfl KN)<|Zv (AR rfl CX ((Bx.cs hb2).at 1 rfl))<|Zv (IV rfl rfl)<|Zv (AX rfl Ik)<|Zv (AX rfl KM)<|Zv (AR rfl CX ((Bx.cs hb2).at 0 rfl))<|Zv (AX rfl Ik)<|Zv (AX rfl KN)<|Zv (AR rfl CX ((Bx.cs hb3).at 1 rfl))<|Zv (IV rfl rfl)<|Zv (mF rfl rfl)<|Za<|nl<|Zr<|Zv (AX rfl JL)<|Zv (AR rfl CX ((Bx.cs hb2).at 2 rfl))<|Zv (AX rfl JL)<|Zv (AR rfl CX ((Bx.cs hb3).at 2 rfl))<|Zv (IV rfl rfl)<|Za<|nl<|Zr<|Zm<|Zm<|Zv (Bc rfl)<|Zv (AX rfl Kk)<|Zv (AX rfl Nw)<|Zv (AR rfl CX (h5.at 1 rfl))<|Zv (Mf rfl rfl)<|Zm<|Zg rfl rfl (CB rfl) (fun hc=>Aq rfl)<|Zg rfl rfl (CB rfl) (fun hc=>Bc (mv hc rfl))<|Zg rfl rfl (CB rfl) (fun hc=>AX (mv hc rfl) Kk)<|Zg rfl rfl (CB rfl) (fun hc=>AX (mv hc rfl) Ny)<|Zg rfl rfl (CB rfl) (fun hc=>AX (mv hc rfl) KM)<|Zg rfl rfl (CB rfl) (fun hc=>AR (mv hc rfl) CX (h5.at 2 rfl))<|Zg rfl rfl (CB rfl) (fun hc=>Aq rfl)<|Zg rfl rfl (CB rfl) (fun hc=>Mf (mv hc rfl) (mv hc rfl))<|Zv (Ky rfl rfl rfl)<|Zm<|Zg rfl rfl (CB rfl) (fun hc=>Aq rfl)<|Zg rfl rfl (CB rfl) (fun hc=>Aq rfl)<|Zg rfl rfl (CB rfl) (fun hc=>Bc (mv hc rfl))<|Zg rfl rfl (CB rfl) (fun hc=>AX (mv hc rfl) Kk)<|Zg rfl rfl (CB rfl) (fun hc=>AX (mv hc rfl) Ny)<|Zg rfl rfl (CB rfl) (fun hc=>AX (mv hc rfl) KN)<|Zg rfl rfl (CB rfl) (fun hc=>AR (mv hc rfl) CX (h5.at 3 rfl))<|Zg rfl rfl (CB rfl) (fun hc=>Mf (mv hc rfl) (mv hc rfl))<|Zv (Ky rfl rfl rfl)<|Za<|nl<|?_;cases hF;exact wp_ret<|Zw rfl rfl rfl ⟨rfl,k1⟩
theorem oM{w0:World}{b0:Nat}{cs0:List Value}{x0:(DJ×(List (Int×Bool))×(Ar 16 (Ar 16 Int))×Opq×Opq)}(h0:Cs w0 b0 0 cs0)(q0:Enc.rep (fun _=>True) w0 cs0 x0){v1:Value}{x1:(Int×Bool)}(r1:RV w0 v1 x1){x2:Int}{r:((Int×Int)×Int)}(hF:Dj x0 x1 x2=some r):
  Calls Tryz.prog 298 [.pointer (some ⟨b0,0,none⟩),v1,.int .i64 x2].toArray w0 (BN fun v w'=>∃u0:Value,v=u0/\RV w' u0 r/\Ext w0 w'):=by
 unfold Dj at hF;obtain⟨_,_,rfl,⟨_,_,rfl,⟨a1,cq1,rfl,p1,q4,e1⟩,_,_,rfl,rfl,_,_,rfl,rfl,rfl⟩,_,_,rfl,⟨a2,cq2,rfl,p2,q5,e2⟩,_,_,rfl,rfl,_,_,rfl,⟨a3,rfl,q6⟩,a4,rfl,q7⟩:=q0;have r4:=RV.of1 p1 q4 e1;have hz:=id r1;obtain⟨_,rfl,_,_,rfl,rfl,rfl⟩:=hz;refine BK (n:=23) Tryz.func298 rfl rfl rfl<|Zr<|Cw rfl rfl fun b4 w1 hx1 hg1 hb1=>?_;have h4:=h0.ext hx1;refine D5 Bq fun b5 w2 hx2 hg2 hb2=>?_;have k1:=hx1.tr hx2;have hb3:=hb1.ext hx2;have h5:=h4.ext hx2;refine nl<|wp_seq<|Zr<|Zv (AX rfl Qt)<|Zv (AR rfl TM ((Bx.cs hb3).at 1 rfl))<|nl<|bS hF fun y1 hB1 hF=>ct (fun L w=>L 2=.int .i64 y1/\L 0=.pointer (some ⟨b0,0,none⟩)/\L 4=.pointer (some ⟨b4,0,none⟩)/\L 6=.pointer (some ⟨b5,0,none⟩)/\Ext w2 w) ?_ ?_
 ·refine cnd rfl (fun h6=>?_) (fun h6=>?_)
  ·have hB1:=Ah hB1 h6;refine rg<|Zm<|Zv (IV rfl rfl)<|Za<|nl<|?_;cases hB1;refine lf<|?_;exact⟨rfl,rfl,rfl,rfl,(Ext.refl _)⟩
  ·have hB1:=Ai hB1 h6;refine wp_skip<|?_;cases hB1;refine lf<|?_;exact⟨rfl,rfl,rfl,rfl,(Ext.refl _)⟩
 rintro L w3⟨l2_j1,l0_j1,l4_j1,l6_j1,K0_j1⟩;have k2:=k1.tr K0_j1;have h7:=h5.ext K0_j1;have hb4:=hb3.ext K0_j1;have hb5:=hb2.ext K0_j1;refine wp_seq<|Ff [12] (.pure true 0 (.pure true 1 (.pure true 2 (.pure true 3 (.pure false 4 (.pure true 5 (.pure false 6 (.pure true 7 (.pure true 8 (.pure true 9 (.pure true 10 (.pure false 11 (.eff 12 .fin .stop))))))))))))) mixed (by kernel_rfl) (fun w4 hx3=>?_);have k4:=k2.tr hx3;have hb6:=hb4.ext hx3;have hb7:=hb5.ext hx3;have h8:=h7.ext hx3;refine Zn rfl<|Zp rfl (fun _=>Bc l0_j1)<|Zp rfl (fun _=>AX rfl Kk)<|Zp rfl (fun _=>AX rfl Fg)<|Zq rfl (fun _ hS=>AR rfl I6 ((h8.ext (hS.resolve_left nofun)).at 0 rfl)) (Ext.refl _)<|Zp rfl (fun _=>AX l4_j1 Fh)<|Zq rfl (fun _ hS=>AR rfl Aa ((Bx.cs (hb6.ext (hS.resolve_left nofun))).at 0 rfl)) (Ext.refl _)<|Zn rfl<|bS hF fun x4 Ex4 hF=>?_;have hz:=(RV.els r4).ix Ex4;obtain⟨b6,f1,cs4,e3,i1,i2,q8,hc1⟩:=hz;cases e3;obtain⟨_,_,rfl,⟨_,_,rfl,⟨_,_,rfl,⟨_,_,rfl,rfl,rfl⟩,rfl⟩,_,_,rfl,⟨_,_,rfl,rfl,rfl⟩,rfl⟩,rfl⟩:=q8;have hc2:=hc1.ext k4;refine Zp rfl (fun _=>Al rfl rfl Tryz.underlying46 Jy i1 i2)<|Zp rfl (fun _=>AX rfl Nz)<|bS hF fun x5 Ex5 hF=>?_;have hq1:Cs w4 b6 (f1+x1.1.toNat*7+0) (List.flatMap Flat.enc (⟨[((x4.1.1.1.1,x4.1.1.1.2),x4.1.1.2),((x4.1.2.1.1,x4.1.2.1.2),x4.1.2.2)],rfl⟩:Ar 2 ((Int×Int)×Int)).l):=(hc2.sub 0 6);have hz:=Dx hq1 Ex5;obtain⟨i3,i4,hc3⟩:=hz;refine Zp rfl (fun _=>C9 rfl l2_j1 Tryz.underlying174 Bq i3 i4)<|Zq rfl (fun _ hS=>Ad rfl Bq rfl (hc3.ext (hS.resolve_left nofun))) (Ext.refl _)<|Br rfl<|D8 l6_j1 rfl rfl Bq hb7 rfl rfl (ble rfl) fun w5 hch1 hb8=>?_;have k7:=Ext.chg k4 hch1 (Nat.le_trans hx1.size hg2);have hb9:Bx w5 b5 173 [.int .i64 x5.1.1,.int .i64 x5.1.2,.int .i64 x5.2]:=hb8;refine nl ⟨fun h=>(h (by decide)).elim,?_⟩;cases hF;exact wp_ret<|rt rfl (.cell l6_j1 rfl Bq rfl (Bx.cs hb9) .nil) ⟨_,rfl,(show RV (α:=((Int×Int)×Int)) _ (.agg [.int .i64 x5.1.1,.int .i64 x5.1.2,.int .i64 x5.2].toArray) ((x5.1.1,x5.1.2),x5.2)from⟨_,rfl,[.int .i64 x5.1.1]++[.int .i64 x5.1.2],[.int .i64 x5.2],rfl,⟨[.int .i64 x5.1.1],[.int .i64 x5.1.2],rfl,rfl,rfl⟩,rfl⟩),k7⟩
theorem gN{w0:World}{v0:Value}{x0:DJ}(r0:RV w0 v0 x0){F:Nat}{r:Int}(hF:DF F x0=some r):
  Calls Tryz.prog 102 [v0].toArray w0 (BN fun v w'=>v=.int .i64 r/\Ext w0 w'):=by
 unfold DF at hF;have hz:=id r0;obtain⟨_,rfl,_,_,rfl,⟨a1,cq1,rfl,p1,q2,e1⟩,_,_,rfl,rfl,_,_,rfl,rfl,rfl⟩:=hz;have r2:=RV.of1 p1 q2 e1;refine BK (n:=63) Tryz.func102 rfl rfl rfl<|Zr<|Cw rfl rfl fun b2 w1 hx1 hg1 hb1=>Za<|nl<|wp_seq<|Zr<|Zv (AX rfl Fg)<|Zv (AR rfl I6 ((Bx.cs hb1).at 0 rfl))<|Zv (Ao rfl Tryz.underlying46)<|Zv (BL rfl rfl)<|Zm<|Zg rfl rfl (Be rfl) (fun hc=>AX rfl Fg)<|Zg rfl rfl (Be rfl) (fun hc=>AR (mv hc rfl) I6 ((Bx.cs hb1).at 0 rfl))<|Zg rfl rfl (Be rfl) (fun hc=>Ao (mv hc rfl) Tryz.underlying46)<|Zg rfl rfl (Be rfl) (fun hc=>Ig (mv hc rfl) rfl)<|Zv (JF rfl rfl rfl)<|nl<|cnd rfl (fun h2=>?_) (fun h2=>?_)
 ·have hF:=Ah hF h2;refine Zr<|Za<|nl<|?_;cases hF;exact wp_ret<|Zw rfl rfl rfl ⟨rfl,hx1⟩
 ·have hF:=Ai hF h2;refine wp_skip<|wp_seq<|Zr<|Za<|nl<|bS hF fun o1 hB1 hF=>ct (fun L w=>o1=.inr ()/\L 1=.pointer (some ⟨b2,0,none⟩)/\Ext w1 w) ?_ ?_
  ·refine wp_block<|lp (I:=fun m L w=>∃y1:Int,Cy F x0 m y1=some o1/\L 3=.int .i64 y1/\L 1=.pointer (some ⟨b2,0,none⟩)/\Ext w1 w) F ⟨_,hB1,rfl,rfl,(Ext.refl _)⟩ ?_;rintro m L w2⟨y1,hB1,l3_i1,l1_i1,K0_i1⟩;rcases m with _|m
   ·rw[Cy]at hB1;cases hB1
   rw[Cy]at hB1;have k1:=hx1.tr K0_i1;have hb2:=hb1.ext K0_i1;refine wp_seq<|Zr<|Zm<|Zv (AX l1_i1 Fg)<|Zv (AR rfl I6 ((Bx.cs hb2).at 0 rfl))<|Zv (Ao rfl Tryz.underlying46)<|Zv (BL l3_i1 rfl)<|nl<|cnd rfl (fun h3=>?_) (fun h3=>?_)
   ·have hB1:=Ah hB1 h3;refine wp_skip<|wp_seq<|wp_block<|Zr<|Za<|nl<|bS hB1 fun o2 hB3 hB1=>ct (fun L w=>o2=.inr ()/\L 1=.pointer (some ⟨b2,0,none⟩)/\L 3=.int .i64 y1/\Ext w2 w) ?_ ?_
    ·refine wp_block<|lp (I:=fun m L w=>∃y2:Int,Bp F x0 y1 m y2=some o2/\L 4=.int .i64 y2/\L 1=.pointer (some ⟨b2,0,none⟩)/\L 3=.int .i64 y1/\Ext w2 w) F ⟨_,hB3,rfl,l1_i1,l3_i1,(Ext.refl _)⟩ ?_;rintro m L w3⟨y2,hB3,l4_i2,l1_i2,l3_i2,K0_i2⟩;rcases m with _|m
     ·rw[Bp]at hB3;cases hB3
     rw[Bp]at hB3;have k2:=k1.tr K0_i2;have hb3:=hb2.ext K0_i2;refine wp_seq<|Zr<|Zm<|Zv (BL l4_i2 rfl)<|nl<|cnd rfl (fun h4=>?_) (fun h4=>?_)
     ·have hB3:=Ah hB3 h4;refine wp_skip<|wp_seq<|wp_block<|Zr<|Zv (AX l1_i2 Fg)<|Zv (AR rfl I6 ((Bx.cs hb3).at 0 rfl))<|Zm<|Zm<|bS hB3 fun x2 Ex2 hB3=>?_;have hz:=(RV.els r2).ix Ex2;obtain⟨b3,f1,cs2,e2,i3,i4,q3,hc1⟩:=hz;cases e2;obtain⟨_,_,rfl,⟨_,_,rfl,⟨_,_,rfl,⟨_,_,rfl,rfl,rfl⟩,rfl⟩,_,_,rfl,⟨_,_,rfl,rfl,rfl⟩,rfl⟩,rfl⟩:=q3;have hc2:=hc1.ext k2;refine Zv (Al rfl l3_i2 Tryz.underlying46 Jy i3 i4)<|Zv (AX rfl Nz)<|bS hB3 fun x3 Ex3 hB3=>?_;have hq1:Cs w3 b3 (f1+y1.toNat*7+0) (List.flatMap Flat.enc (⟨[((x2.1.1.1.1,x2.1.1.1.2),x2.1.1.2),((x2.1.2.1.1,x2.1.2.1.2),x2.1.2.2)],rfl⟩:Ar 2 ((Int×Int)×Int)).l):=(hc2.sub 0 6);have hz:=Dx hq1 Ex3;obtain⟨i5,i6,hc3⟩:=hz;refine Zv (C9 rfl l4_i2 Tryz.underlying174 Bq i5 i6)<|Zv (Ad rfl Bq rfl hc3)<|D5 Bq fun b4 w4 hx2 hg2 hb4=>?_;have k4:=k2.tr hx2;have k6:=K0_i2.tr hx2;refine D8 rfl rfl rfl Bq hb4 rfl rfl (ble rfl) fun w5 hch1 hb6=>?_;have k7:=Ext.chg k4 hch1 (Nat.le_trans k2.size hg2);have k9:=Ext.chg k6 hch1 (Nat.le_trans K0_i2.size hg2);have hb8:Bx w5 b4 173 [.int .i64 x3.1.1,.int .i64 x3.1.2,.int .i64 x3.2]:=hb6;refine nl<|Zr<|Zv (AX rfl Ik)<|Zv (Ad rfl KF rfl ((Bx.cs hb8).sub 0 2))<|bS hB3 fun x4 Ex4 hB3=>Zc (xc iR (mc rfl (mc rfl (mc rfl mn)))) (oK (show RV (α:=(Int×Int)) _ (.agg [.int .i64 x3.1.1,.int .i64 x3.1.2].toArray) (x3.1.1,x3.1.2)from⟨_,rfl,[.int .i64 x3.1.1],[.int .i64 x3.1.2],rfl,rfl,rfl⟩) Ex4) ?_;rintro _ w6⟨rfl,hx3⟩;have k11:=k7.tr hx3;have k13:=k9.tr hx3;have hb10:=hb8.ext hx3;refine Zv (GV rfl)<|Zm<|Zg rfl rfl (Be rfl) (fun hc=>AX rfl JL)<|Zg rfl rfl (Be rfl) (fun hc=>AR (mv hc rfl) CX ((Bx.cs hb10).at 2 rfl))<|Zg rfl rfl (Be rfl) (fun hc=>BL (mv hc rfl) rfl)<|Zv (JF rfl rfl rfl)<|Zm<|Zg rfl rfl (Be rfl) (fun hc=>AX rfl JL)<|Zg rfl rfl (Be rfl) (fun hc=>AR (mv hc rfl) CX ((Bx.cs hb10).at 2 rfl))<|Zg rfl rfl (Be rfl) (fun hc=>Ig (mv hc rfl) rfl)<|Zv (JF rfl rfl rfl)<|nl<|cnd rfl (fun h5=>?_) (fun h5=>?_)
      ·have hB3:=Ah hB3 h5;refine Zr<|Za<|nl<|?_;cases hB3;have hB1:=(show some _=some _ from hB1);cases hB1;have hF:=(show some _=some _ from hF);cases hF;exact wp_ret<|Zw rfl rfl rfl ⟨rfl,k11⟩
      ·have hB3:=Ai hB3 h5;refine wp_skip<|rg<|Zm<|Zv (Aw l4_i2 rfl)<|Za<|nl<|lq m (Nat.lt_succ_self _)<|?_;exact⟨_,hB3,rfl,l1_i2,l3_i2,k13⟩
     ·have hB3:=Ai hB3 h4;refine wp_exit<|?_;cases hB3;refine lf<|?_;exact⟨rfl,l1_i2,l3_i2,K0_i2⟩
    rintro L w7⟨rfl,l1_j1,l3_j1,K0_j1⟩;have k16:=K0_i1.tr K0_j1;refine rg<|Zm<|Zv (Aw l3_j1 rfl)<|Za<|nl<|lq m (Nat.lt_succ_self _)<|?_;exact⟨_,hB1,rfl,l1_j1,k16⟩
   ·have hB1:=Ai hB1 h3;refine wp_exit<|?_;cases hB1;refine lf<|?_;exact⟨rfl,l1_i1,K0_i1⟩
  rintro L w8⟨rfl,l1_j2,K0_j2⟩;have k17:=hx1.tr K0_j2;have hb12:=hb1.ext K0_j2;refine wp_seq<|Zr<|Zv (AX l1_j2 Nw)<|Zv (AR rfl CX ((Bx.cs hb12).at 1 rfl))<|Zv (BL rfl rfl)<|Zm<|Zg rfl rfl (Be rfl) (fun hc=>AX l1_j2 Nw)<|Zg rfl rfl (Be rfl) (fun hc=>AR (mv hc rfl) CX ((Bx.cs hb12).at 1 rfl))<|Zg rfl rfl (Be rfl) (fun hc=>Ig (mv hc rfl) rfl)<|Zv (JF rfl rfl rfl)<|Zm<|Zg rfl rfl (Be rfl) (fun hc=>AX l1_j2 Ny)<|Zg rfl rfl (Be rfl) (fun hc=>Ad (mv hc rfl) KF rfl ((Bx.cs hb12).sub 2 2))<|bS hF fun x5 Ex5 hF=>gc rfl rfl rfl rfl (Be rfl) rfl (fun hc=>xc iR (mc (mv hc rfl) (mc rfl (mc rfl mn)))) (fun hc=>(oK (show RV (α:=(Int×Int)) _ (.agg [.int .i64 x0.2.2.1,.int .i64 x0.2.2.2].toArray) (x0.2.2.1,x0.2.2.2)from⟨_,rfl,[.int .i64 x0.2.2.1],[.int .i64 x0.2.2.2],rfl,rfl,rfl⟩) (Ot Ex5 hc))) (fun v2 w9 hy1 hn1=>?_);have hx4:Ext w8 w9:=gx (fun h=>(hy1 h).2) (fun h=>(hn1 h).2▸Ext.refl _);have e3:=Ou (fun h=>(hy1 h).1) (fun h=>(hn1 h).1);have k18:=k17.tr hx4;refine Zg rfl rfl (Be rfl) (fun hc=>GV (mv hc e3))<|Zv (JF rfl rfl rfl)<|nl<|cnd rfl (fun h6=>?_) (fun h6=>?_)
  ·have hF:=Ah hF h6;refine Zr<|Za<|nl<|?_;cases hF;exact wp_ret<|Zw rfl rfl rfl ⟨rfl,k18⟩
  ·have hF:=Ai hF h6;refine wp_skip<|Zr<|Za<|nl<|?_;cases hF;exact wp_ret<|Zw rfl rfl rfl ⟨rfl,k18⟩
theorem xX{w0:World}{v0:Value}{x0:(Int×Bool)}(r0:RV w0 v0 x0){b1:Nat}{cs1:List Value}{x1:(Int×Bool)}(h1:Cs w0 b1 0 cs1)(q1:Enc.rep (fun _=>True) w0 cs1 x1){r:Bool}(hF:GY x0 x1=some r):
  Calls Tryz.prog 219 [v0,.pointer (some ⟨b1,0,none⟩)].toArray w0 (BN fun v w'=>v=.bool r/\Ext w0 w'):=by
 unfold GY at hF;have hz:=id r0;obtain⟨_,rfl,_,_,rfl,rfl,rfl⟩:=hz;obtain⟨_,_,rfl,rfl,rfl⟩:=q1;refine BK (n:=7) Tryz.func219 rfl rfl rfl<|Zr<|Cw rfl rfl fun b3 w1 hx1 hg1 hb1=>?_;have h3:=h1.ext hx1;refine Za<|nl<|Zr<|Zv (Ad rfl BU rfl (Bx.cs hb1))<|Zv (Ad rfl BU rfl h3)<|Zv (Xy (α:=(Int×Bool)) (a:=(x0.1,x0.2)) (b:=(x1.1,x1.2)) rfl vT di rfl rfl rfl rfl rfl)<|Za<|nl<|?_;cases hF;exact wp_ret<|Zw rfl rfl rfl ⟨rfl,hx1⟩
theorem xY{w0:World}{v0:Value}{x0:(List (Int×Bool))}(r0:RV w0 v0 x0){v1:Value}{x1:(Int×Bool)->Option Bool}(h1:FnB Tryz.prog (Int×Bool) w0 v1 x1){F:Nat}{r:Int}(hF:Fs F x0 x1=some r):
  Calls Tryz.prog 218 [v0,v1].toArray w0 (BN fun v w'=>v=.int .i64 r/\Ext w0 w'):=by
 unfold Fs at hF;have hz:=r0.sl;obtain⟨a1,cq1,rfl,-,-,-⟩:=hz;refine BK (n:=19) Tryz.func218 rfl rfl rfl<|Zr<|Za<|nl<|wp_seq<|Zr<|Zm<|Zv (Ao rfl Tryz.underlying51)<|Zm<|nl<|bS hF fun o1 hB1 hF=>ct (fun L w=>o1=.inr ()/\Ext w0 w) ?_ ?_
 ·refine wp_block<|lp (I:=fun m L w=>∃y1:Int,CG F x0 x1 m y1=some o1/\L 9=.int .i64 y1/\L 1=v1/\L 7=.slice a1 x0.length cq1/\L 8=.int .i64 (x0.length:Int)/\Ext w0 w) F ⟨_,hB1,rfl,rfl,rfl,rfl,(Ext.refl _)⟩ ?_;rintro m L w1⟨y1,hB1,l9_i1,l1_i1,l7_i1,l8_i1,K0_i1⟩;rcases m with _|m
  ·rw[CG]at hB1;cases hB1
  rw[CG]at hB1;have h3:=h1.ext K0_i1;refine Zr<|Zv (BL l9_i1 l8_i1)<|nl<|wp_seq<|cnd rfl (fun h4=>?_) (fun h4=>?_)
  ·have hB1:=Ah hB1 h4;refine wp_skip<|wp_seq<|wp_block<|Zr<|Zm<|bS hB1 fun x3 Ex3 hB1=>?_;have hz:=(RV.els r0).ix Ex3;obtain⟨b3,f1,cs3,e1,i2,i3,q3,hc1⟩:=hz;cases e1;obtain⟨_,_,rfl,rfl,rfl⟩:=q3;have hc2:=hc1.ext K0_i1;refine Zv (Al l7_i1 l9_i1 Tryz.underlying51 BU i2 i3)<|Zv (Ad rfl BU rfl hc2)<|D5 BU fun b4 w2 hx1 hg1 hb1=>?_;have k1:=K0_i1.tr hx1;refine Za<|D8 rfl rfl rfl BU hb1 rfl rfl (ble rfl) fun w3 hch1 hb2=>?_;have k2:=Ext.chg k1 hch1 (Nat.le_trans K0_i1.size hg1);have k3:=Ext.chg hx1 hch1 (Nat.le_trans (Nat.le_refl _) hg1);have h6:=h3.ext k3;have hb3:Bx w3 b4 56 [.int .i64 x3.1,.bool x3.2]:=hb2;refine nl<|Zr<|Zm<|Zv (Ad rfl BU rfl (Bx.cs hb3))<|bS hB1 fun x4 Ex4 hB1=>?_;have hz:=id h6;obtain⟨g1,fs1,cs4,e2,hg2,hu1⟩:=hz;refine Zc (PD (l1_i1.trans e2) hg2 (mc rfl mn) rfl) (hu1 _ _ _ _ (Ext.refl _) (show RV (α:=(Int×Bool)) _ (.agg [.int .i64 x3.1,.bool x3.2].toArray) (x3.1,x3.2)from⟨_,rfl,[.int .i64 x3.1],[.bool x3.2],rfl,rfl,rfl⟩) Ex4) ?_;rintro _ w4⟨rfl,hx2⟩;have k4:=k2.tr hx2;refine nl<|cnd rfl (fun h8=>?_) (fun h8=>?_)
   ·have hB1:=Ah hB1 h8;refine Zr<|Zm<|Za<|nl<|?_;cases hB1;have hF:=(show some _=some _ from hF);cases hF;exact wp_ret<|rt rfl (.tmp l9_i1 rfl .nil) ⟨rfl,k4⟩
   ·have hB1:=Ai hB1 h8;refine wp_skip<|rg<|Zv (Aw l9_i1 rfl)<|Zm<|nl<|lq m (Nat.lt_succ_self _)<|?_;exact⟨_,hB1,rfl,l1_i1,l7_i1,l8_i1,k4⟩
  ·have hB1:=Ai hB1 h4;refine wp_exit<|?_;cases hB1;refine lf<|?_;exact⟨rfl,K0_i1⟩
 rintro L w5⟨rfl,K0_j1⟩;refine Zr<|Za<|nl<|?_;cases hF;exact wp_ret<|Zw rfl rfl rfl ⟨rfl,K0_j1⟩
theorem xZ{w0:World}{b0:Nat}{cs0:List Value}{x0:(DJ×(List (Int×Bool))×(Ar 16 (Ar 16 Int))×Opq×Opq)}(h0:Cs w0 b0 0 cs0)(q0:Enc.rep (fun _=>True) w0 cs0 x0){v1:Value}{x1:(Int×Bool)}(r1:RV w0 v1 x1){F:Nat}{r:Int}(hF:GL F x0 x1=some r):
  Calls Tryz.prog 114 [.pointer (some ⟨b0,0,none⟩),v1].toArray w0 (BN fun v w'=>v=.int .i64 r/\Ext w0 w'):=by
 unfold GL at hF;obtain⟨_,_,rfl,⟨_,_,rfl,⟨a1,cq1,rfl,p1,q3,e1⟩,_,_,rfl,rfl,_,_,rfl,rfl,rfl⟩,_,_,rfl,⟨a2,cq2,rfl,p2,q4,e2⟩,_,_,rfl,rfl,_,_,rfl,⟨a3,rfl,q5⟩,a4,rfl,q6⟩:=q0;have r4:=RV.of1 p2 q4 e2;have hz:=id r1;obtain⟨_,rfl,_,_,rfl,rfl,rfl⟩:=hz;refine BK (n:=11) Tryz.func114 rfl rfl rfl<|Zr<|Cw rfl rfl fun b3 w1 hx1 hg1 hb1=>?_;have r6:=r4.ext hx1;have h3:=h0.ext hx1;refine Za<|nl<|Zr<|Zm<|Zv (Bc rfl)<|Zv (AX rfl FO)<|Zv (AR rfl Jf (h3.at 4 rfl))<|Zv (Uy mn (mc rfl mn))<|bS hF fun x3 Ex3 hF=>Zc (xc qx (mc rfl (mc rfl mn))) (xY r6 ⟨219,[],[.pointer (some ⟨b3,0,none⟩)],rfl,qy,fun w' u x b hk hu hp=>xX hu (Bx.cs (hb1.ext hk)) ⟨[.int .i64 x1.1],[.bool x1.2],rfl,rfl,rfl⟩ hp⟩ Ex3) ?_;rintro _ w2⟨rfl,hx2⟩;have k1:=hx1.tr hx2;refine Za<|nl<|?_;cases hF;exact wp_ret<|Zw rfl rfl rfl ⟨rfl,k1⟩
theorem oN{w0:World}{b0:Nat}{cs0:List Value}{x0:(DJ×(List (Int×Bool))×(Ar 16 (Ar 16 Int))×Opq×Opq)}(h0:Cs w0 b0 0 cs0)(q0:Enc.rep (fun _=>True) w0 cs0 x0){v1:Value}{x1:(Int×Int)}(r1:RV w0 v1 x1){x2:Int}{r:(Int×Int)}(hF:JH x0 x1 x2=some r):
  Calls Tryz.prog 272 [.pointer (some ⟨b0,0,none⟩),v1,.int .i64 x2].toArray w0 (BN fun v w'=>∃u0:Value,v=u0/\RV w' u0 r/\Ext w0 w'):=by
 unfold JH at hF;obtain⟨_,_,rfl,⟨_,_,rfl,⟨a1,cq1,rfl,p1,q4,e1⟩,_,_,rfl,rfl,_,_,rfl,rfl,rfl⟩,_,_,rfl,⟨a2,cq2,rfl,p2,q5,e2⟩,_,_,rfl,rfl,_,_,rfl,⟨a3,rfl,q6⟩,a4,rfl,q7⟩:=q0;have r5:=RV.of1 p2 q5 e2;have hz:=id r1;obtain⟨_,rfl,_,_,rfl,rfl,rfl⟩:=hz;refine BK (n:=21) Tryz.func272 rfl rfl rfl<|Zr<|Cw rfl rfl fun b4 w1 hx1 hg1 hb1=>?_;have h4:=h0.ext hx1;refine D5 Cz fun b5 w2 hx2 hg2 hb2=>?_;have k1:=hx1.tr hx2;have hb3:=hb1.ext hx2;have h5:=h4.ext hx2;refine nl<|wp_seq<|Ff [14] (.pure true 0 (.pure false 1 (.pure true 2 (.pure true 3 (.pure true 4 (.pure false 5 (.pure true 6 (.pure true 7 (.pure true 8 (.pure false 9 (.pure true 10 (.pure true 11 (.pure true 12 (.pure true 13 (.eff 14 .fin .stop))))))))))))))) mixed (by kernel_rfl) (fun w3 hx3=>?_);have k2:=k1.tr hx3;have hb4:=hb3.ext hx3;have hb5:=hb2.ext hx3;have h6:=h5.ext hx3;refine Zp rfl (fun _=>AX rfl P5)<|Zq rfl (fun _ hS=>AR rfl Aa ((Bx.cs (hb4.ext (hS.resolve_left nofun))).at 0 rfl)) (Ext.refl _)<|Zn rfl<|Zp rfl (fun _=>Bc rfl)<|Zp rfl (fun _=>AX rfl FO)<|Zq rfl (fun _ hS=>AR rfl Jf ((h6.ext (hS.resolve_left nofun)).at 4 rfl)) (Ext.refl _)<|Zn rfl<|bS hF fun x4 Ex4 hF=>?_;have hz:=(RV.els r5).ix Ex4;obtain⟨b6,f1,cs4,e3,i1,i2,q8,hc1⟩:=hz;cases e3;obtain⟨_,_,rfl,rfl,rfl⟩:=q8;have hc2:=hc1.ext k2;refine Zp rfl (fun _=>Al rfl rfl Tryz.underlying51 BU i1 i2)<|Zp rfl (fun _=>AX rfl Fh)<|Zq rfl (fun _ hS=>AR rfl Aa ((hc2.ext (hS.resolve_left nofun)).at 0 rfl)) (Ext.refl _)<|bS hF fun x5 Ex5 hF=>Zp rfl (fun _=>U5 rfl rfl Ex5)<|Zp rfl (fun _=>wQ rfl rfl)<|Zn rfl<|Zp rfl (fun _=>IW (r:=[.int .i64 (PK .i64 x1.1 x5),.int .i64 x2]) Cz Qv (pc rfl (pc rfl pn)) rfl)<|Br rfl<|D8 rfl rfl rfl Cz hb5 rfl rfl (ble rfl) fun w4 hch1 hb6=>?_;have k4:=Ext.chg k2 hch1 (Nat.le_trans hx1.size hg2);have hb7:Bx w4 b5 326 [.int .i64 (PK .i64 x1.1 x5),.int .i64 x2]:=hb6;refine nl ⟨fun h=>(h (by decide)).elim,?_⟩;cases hF;exact wp_ret<|rt rfl (.cell rfl rfl Cz rfl (Bx.cs hb7) .nil) ⟨_,rfl,(show RV (α:=(Int×Int)) _ (.agg [.int .i64 (PK .i64 x1.1 x5),.int .i64 x2].toArray) (PK .i64 x1.1 x5,x2)from⟨_,rfl,[.int .i64 (PK .i64 x1.1 x5)],[.int .i64 x2],rfl,rfl,rfl⟩),k4⟩
theorem xe{w0:World}{x0:Int}{b1:Nat}{cs1:List Value}{x1:(Int×Int)}(h1:Cs w0 b1 0 cs1)(q1:Enc.rep (fun _=>True) w0 cs1 x1){b2:Nat}{cs2:List Value}{x2:(Ob (DJ×(List (Int×Bool))×(Ar 16 (Ar 16 Int))×Opq×Opq))}(h2:Cs w0 b2 0 cs2)(q2:Enc.rep (fun _=>True) w0 cs2 x2){r:Bool}(hF:Hl x0 x1 x2=some r):
  Calls Tryz.prog 309 [.int .i64 x0,.pointer (some ⟨b1,0,none⟩),.pointer (some ⟨b2,0,none⟩)].toArray w0 (BN fun v w'=>v=.bool r/\Ext w0 w'):=by
 unfold Hl at hF;obtain⟨_,_,rfl,rfl,rfl⟩:=q1;have q4:=q2;have hz:=Ja q4;obtain⟨a1,rfl,r4⟩:=hz;refine BK (n:=18) Tryz.func309 rfl rfl rfl<|Zr<|Za<|nl<|wp_seq<|Ff [] (.pure true 0 (.pure false 1 (.pure false 2 (.pure true 3 (.pure true 4 (.pure false 5 (.pure true 6 (.pure true 7 (.pure true 8 (.pure false 9 (.pure true 10 (.pure true 11 (.pure true 12 (.pure true 13 .fin)))))))))))))) mixed (by kernel_rfl) (fun w1 hx1=>?_);have h4:=h1.ext hx1;have h5:=h2.ext hx1;refine Zp rfl (fun _=>AX rfl P5)<|Zq rfl (fun _ hS=>AR rfl Aa ((h4.ext (hS.resolve_left nofun)).at 0 rfl)) (Ext.refl _)<|Zq rfl (fun _ hS=>AR rfl Em ((h5.ext (hS.resolve_left nofun)).at 0 rfl)) (Ext.refl _)<|bS hF fun x4 Ex4 hF=>?_;have hz:=OM r4 Ex4;obtain⟨b4,cs4,e1,q5,hc1⟩:=hz;cases e1;obtain⟨_,_,rfl,⟨_,_,rfl,⟨a2,cq1,rfl,p1,q6,e2⟩,_,_,rfl,rfl,_,_,rfl,rfl,rfl⟩,_,_,rfl,⟨a3,cq2,rfl,p2,q7,e3⟩,_,_,rfl,rfl,_,_,rfl,⟨a4,rfl,q8⟩,a5,rfl,q9⟩:=q5;have r7:=RV.of1 p2 q7 e3;have hc2:=hc1.ext hx1;refine Zp rfl (fun _=>Bc rfl)<|Zp rfl (fun _=>AX rfl FO)<|Zq rfl (fun _ hS=>AR rfl Jf ((hc2.ext (hS.resolve_left nofun)).at 4 rfl)) (Ext.refl _)<|Zn rfl<|bS hF fun x5 Ex5 hF=>?_;have hz:=(RV.els r7).ix Ex5;obtain⟨b5,f1,cs5,e4,i1,i2,q10,hc3⟩:=hz;cases e4;obtain⟨_,_,rfl,rfl,rfl⟩:=q10;have hc4:=hc3.ext hx1;refine Zp rfl (fun _=>Al rfl rfl Tryz.underlying51 BU i1 i2)<|Zp rfl (fun _=>AX rfl Fh)<|Zq rfl (fun _ hS=>AR rfl Aa ((hc4.ext (hS.resolve_left nofun)).at 0 rfl)) (Ext.refl _)<|bS hF fun x6 Ex6 hF=>Zp rfl (fun _=>mY rfl rfl Ex6)<|Zp rfl (fun _=>eD rfl rfl)<|Zp rfl (fun _=>FE rfl rfl)<|Zp rfl (fun _=>GU)<|?_;cases hF;exact wp_ret<|Zw rfl rfl rfl ⟨rfl,hx1⟩
abbrev Pg:=(Int×Int)×Int
abbrev OB:=(Pg×Pg)×Bool
abbrev BB:=List OB×Int×(Int×Int)
abbrev Am:=Int×Bool
abbrev ET:=Ar 16 (Ar 16 Int)
abbrev BV:=BB×List Am×ET×Opq×Opq
abbrev Az:=Int×Int
def Ir(a1:Option Addr)(c1:Nat)(c:BB)(sv:Value)(X:ET)(ma mu:Nat):List Value:=
 [.slice a1 c.1.length c1,.int .i64 c.2.1,.int .i64 c.2.2.1,.int .i64 c.2.2.2,sv]++(X.l.flatMap Flat.enc++[.map (some ma),.map (some mu)])
theorem Og{a1:Option Addr}{c1:Nat}{c:BB}{sv:Value}{X:ET}{ma mu:Nat}:(Ir a1 c1 c sv X ma mu).length=263:=by
 unfold Ir;rw[List.length_append,List.length_append,BJ]
 rfl
theorem MG{ok:Nat->Prop}{w:World}{a1:Option Addr}{c1:Nat}{c:BB}{sv:Value}{X:ET}{ma mu:Nat}{st:List Am}(h1:RVo ok w (.slice a1 c.1.length c1) c.1)(h2:RVo ok w sv st):
  Enc.rep ok w (Ir a1 c1 c sv X ma mu) ((c,st,X,.mk,.mk):BV):=by
 obtain⟨a,cc,rfl,h3,h4,h5⟩:=RVo.sl.1 h2;obtain⟨a',cc',e,h6,h7,h8⟩:=RVo.sl.1 h1;cases e;exact⟨[.slice a1 c.1.length c1,.int .i64 c.2.1,.int .i64 c.2.2.1,.int .i64 c.2.2.2],[.slice a st.length cc]++(X.l.flatMap Flat.enc++([.map (some ma)]++[.map (some mu)])),rfl,
  ⟨[.slice a1 c.1.length c1],[.int .i64 c.2.1]++([.int .i64 c.2.2.1]++[.int .i64 c.2.2.2]),rfl,⟨a1,c1,rfl,h6,h7,h8⟩,[.int .i64 c.2.1],[.int .i64 c.2.2.1]++[.int .i64 c.2.2.2],rfl,rfl,[.int .i64 c.2.2.1],[.int .i64 c.2.2.2],rfl,rfl,rfl⟩,
  ⟨[.slice a st.length cc],X.l.flatMap Flat.enc++([.map (some ma)]++[.map (some mu)]),rfl,⟨a,cc,rfl,h3,h4,h5⟩,X.l.flatMap Flat.enc,[.map (some ma)]++[.map (some mu)],rfl,rfl,[.map (some ma)],[.map (some mu)],rfl,⟨_,rfl,rfl⟩,_,rfl,rfl⟩⟩
def TbP(N:Nat)(w:World)(v:Value)(x:BV)(b ma mu:Nat):Prop:=
 v=.pointer (some ⟨b,0,none⟩)/\RVo (fun q=>q≠ma/\q≠mu) w v (⟨some x⟩:Ob BV)/\w.cell? ⟨b,261,none⟩=some (.map (some ma))/\w.cell? ⟨b,262,none⟩=some (.map (some mu))/\
 Mp (κ:=Az) (ν:=Int) w ma []/\Mp (κ:=Az) (ν:=Int) w mu []/\ma≠mu/\N<=ma/\N<=mu
def TbN(N:Nat)(w:World)(v:Value)(x:Ob BV):Prop:=∃y b ma mu,x=⟨some y⟩/\TbP N w v y b ma mu
theorem HZ{w w':World}{b o:Nat}{c:Value}(h:w.cell? ⟨b,o,none⟩=some c)(k:Ext w w'):w'.cell? ⟨b,o,none⟩=some c:=by
 have hlt:=World.block_lt_of_cell? w _ h;exact(World.cell?_of_block (a:=⟨b,o,none⟩) (k.block b hlt)).trans h
theorem TbN.ext{N:Nat}{w w':World}{v:Value}{x:Ob BV}(h:TbN N w v x)(k:Ext w w'):TbN N w' v x:=by
 obtain⟨y,b,ma,mu,rfl,h1,h2,h3,h4,h5,h6,h7⟩:=h;exact⟨y,b,ma,mu,rfl,h1,h2.ext k,HZ h3 k,HZ h4 k,h5.ext k,h6.ext k,h7⟩
theorem TbN.mono{N M:Nat}{w:World}{v:Value}{x:Ob BV}(h:TbN N w v x)(hM:M<=N):TbN M w v x:=by
 obtain⟨y,b,ma,mu,rfl,h1,h2,h3,h4,h5,h6,h7,h8,h9⟩:=h;exact⟨y,b,ma,mu,rfl,h1,h2,h3,h4,h5,h6,h7,Nat.le_trans hM h8,Nat.le_trans hM h9⟩
theorem TbN.rv{N:Nat}{w:World}{v:Value}{x:Ob BV}(h:TbN N w v x):RV w v x:=by
 obtain⟨y,b,ma,mu,rfl,h1,h2,h3⟩:=h;exact h2.rv
def MH(P:List OB):Nat->Int->List Am->Option (List Am)
 |0,_,_=>none
 |m+1,i,st=>
  if decide (i<(P.length:Int))=true then
   (ix P i)>>=fun p=>
   (app 16 st ([(i,false)]:List Am))>>=fun s1=>
   if p.2=true then(app 16 s1 ([(i,true)]:List Am))>>=fun s2=>MH P m (AZ (i+1)) s2
   else MH P m (AZ (i+1)) s1
  else some st
def Vv(x:BV)(p q:Am):Option Bool:=
 if(!decide (p.1=q.1))=true then(Dj x p 1)>>=fun e=>(Dj x q 0)>>=fun d=>HY x e d
 else some false
def MI(c:BB)(st:List Am)(i:Int)(p:Am):Nat->Int->ET->Option ET
 |0,_,_=>none
 |m+1,k,X=>
  if decide (k<(st.length:Int))=true then
   (ix st k)>>=fun q=>
   (Vv (c,st,X,.mk,.mk) p q)>>=fun f=>
   if f=true then(ix X.l i)>>=fun r=>(ix r.l k)>>=fun _=>MI c st i p m (AZ (k+1)) (EN X i (EN r k 1))
   else MI c st i p m (AZ (k+1)) X
  else some X
def Nf(F:Nat)(c:BB)(st:List Am):Nat->Int->ET->Option ET
 |0,_,_=>none
 |m+1,i,X=>
  if decide (i<(st.length:Int))=true then
   (ix st i)>>=fun p=>(MI c st i p F 0 X)>>=fun Y=>Nf F c st m (AZ (i+1)) Y
  else some X
def Hz(F:Nat)(c:BB):Option (Ob BV):=
 (MH c.1 F 0 [])>>=fun st=>(Nf F c st F 0 (Ar.fill 16 (Ar.fill 16 0)))>>=fun X=>some ⟨some (c,st,X,.mk,.mk)⟩
theorem ZL(l1 l2 l3:List Value)(o:Nat)(vs:List Value)(h:o+vs.length<=l2.length):Md.BX (l1++(l2++l3)) (l1.length+o) vs=l1++(Md.BX l2 o vs++l3):=by
 have hl:(Md.BX l2 o vs).length=l2.length:=by simp only[Md.BX,List.length_append,List.length_take,List.length_drop];omega
 apply List.ext_getElem?;intro j;rw[Gs (by simp only[List.length_append];omega)];by_cases h1:j<l1.length
 ·rw[if_neg (by omega),List.getElem?_append_left h1,List.getElem?_append_left h1]
 ·rw[List.getElem?_append_right (l₁:=l1) (l₂:=l2++l3) (by omega),List.getElem?_append_right (l₁:=l1) (l₂:=Md.BX l2 o vs++l3) (by omega)]
  by_cases h2:j-l1.length<l2.length
  ·rw[List.getElem?_append_left h2,List.getElem?_append_left (by omega),Gs h]
   by_cases h3:o<=j-l1.length/\j-l1.length<o+vs.length
   ·rw[if_pos h3,if_pos (by omega),show j-(l1.length+o)=j-l1.length-o by omega]
   ·rw[if_neg h3,if_neg (by omega)]
  ·rw[if_neg (by omega),List.getElem?_append_right (l₁:=l2) (by omega),List.getElem?_append_right (l₁:=Md.BX l2 o vs) (by omega),hl]
theorem XA{X:ET}{i k:Int}{r:Ar 16 Int}{v:Int}(hi:ix X.l i=some r)(hk:0<=k)(hk2:k<16):
  Md.BX (X.l.flatMap Flat.enc) (i.toNat*16+k.toNat) [.int .i64 v]=(EN X i (EN r k v)).l.flatMap Flat.enc:=by
 obtain⟨i0,i1,i2⟩:=Fx hi;have hX:X.l.length=16:=X.h;have hr:r.l.length=16:=r.h;have hfX:(X.l.flatMap Flat.enc).length=16*16:=by rw[BJ];rfl
 have hfr:(r.l.flatMap Flat.enc).length=16:=by rw[BJ];rfl
 have e1:(EN X i (EN r k v)).l.flatMap Flat.enc=Md.BX (X.l.flatMap Flat.enc) (i.toNat*Enc.n (Ar 16 Int)) (Flat.enc (EN r k v)):=(Jw X.l i.toNat (EN r k v) (by omega)).symm;have e2:Flat.enc (EN r k v)=Md.BX (r.l.flatMap Flat.enc) (k.toNat*Enc.n Int) (Flat.enc v):=(Jw r.l k.toNat v (by omega)).symm;have n1:Enc.n (Ar 16 Int)=16:=rfl;have n2:Enc.n Int=1:=rfl;have hl2:(Flat.enc (EN r k v)).length=16:=by rw[Flat.len];rfl
 rw[e1,n1];apply List.ext_getElem?;intro j;rw[Gs (by simp only[List.length_singleton];omega),Gs (by omega),hl2];by_cases h:i.toNat*16<=j/\j<i.toNat*16+16
 ·rw[if_pos h,e2,n2,Nat.mul_one]
  have h3:(Flat.enc v:List Value)=[.int .i64 v]:=rfl;rw[h3,Gs (by simp only[List.length_singleton];omega)];simp only[List.length_singleton];by_cases h2:j=i.toNat*16+k.toNat
  ·rw[if_pos (by omega),if_pos (by omega),h2]
   simp
  ·rw[if_neg (by omega),if_neg (by omega)]
   have hj:j-i.toNat*16<(Flat.enc r:List Value).length:=by rw[Flat.len,n1];omega
   have:=MR X.l i.toNat r (j-i.toNat*16) _ i2 (List.getElem?_eq_getElem hj);rw[n1,show i.toNat*16+(j-i.toNat*16)=j by omega]at this;rw[this];exact(List.getElem?_eq_getElem hj).symm
 ·rw[if_neg h,if_neg (by simp only[List.length_singleton];omega)]
theorem ZM{a1:Option Addr}{c1:Nat}{c:BB}{sv:Value}{X:ET}{ma mu:Nat}{i k:Int}{r:Ar 16 Int}{v:Int}(hi:ix X.l i=some r)(hk:0<=k)(hk2:k<16):
  Md.BX (Ir a1 c1 c sv X ma mu) (5+(i.toNat*16+k.toNat)) [.int .i64 v]=Ir a1 c1 c sv (EN X i (EN r k v)) ma mu:=by
 unfold Ir;have:=ZL [.slice a1 c.1.length c1,.int .i64 c.2.1,.int .i64 c.2.2.1,.int .i64 c.2.2.2,sv] (X.l.flatMap Flat.enc) [.map (some ma),.map (some mu)] (i.toNat*16+k.toNat) [.int .i64 v] (by
  obtain⟨i0,i1,i2⟩:=Fx hi;have hX:X.l.length=16:=X.h;rw[BJ,show Enc.n (Ar 16 Int)=16 from rfl,List.length_singleton];omega)
 rw[XA hi hk hk2]at this;exact this
section
structure NT(w0 w:World)(base b4:Nat)(a1:Option Addr)(c1:Nat)(c:BB)(sv:Value)(st:List Am)(X:ET)(ma mu:Nat):Prop where
 bx:Bx w b4 199 (Ir a1 c1 c sv X ma mu)
 row:Row 56 base w sv st
 ma:Mp (κ:=Az) (ν:=Int) w ma []
 mu:Mp (κ:=Az) (ν:=Int) w mu []
 ext:Ext w0 w
 size:base<=w.heap.size
section
variable {w0 w w1 w2:World}{base b4:Nat}{a1:Option Addr}{c1:Nat}{c:BB}{sv sv':Value}{st st':List Am}{X:ET}{ma mu:Nat}
theorem NT.go(h:NT w0 w base b4 a1 c1 c sv st X ma mu)(k:Ext w w1):NT w0 w1 base b4 a1 c1 c sv st X ma mu:=
 ⟨h.bx.ext k,h.row.ext k,h.ma.ext k,h.mu.ext k,h.ext.tr k,Nat.le_trans h.size k.size⟩
theorem NT.steps(h:NT w0 w base b4 a1 c1 c sv st X ma mu)(hw0:w0.heap.size<=base)(h0:w0.heap.size<=b4)(h4:b4<base)(ha:ma<base)(hu:mu<base)(o:Row 56 base w1 sv' st')(hB:Below base w w1)(hc:Chg b4 w1 w2)(hb:Bx w2 b4 199 (Md.BX (Ir a1 c1 c sv X ma mu) 4 [sv'])):
  NT w0 w2 base b4 a1 c1 c sv' st' X ma mu:=by
 have hx:Bx w1 b4 199 (Ir a1 c1 c sv X ma mu):=h.bx.below hB h4;exact⟨hb,o.chg hc h4,(h.ma.below hB ha).chgb hc hx,(h.mu.below hB hu).chgb hc hx,Ext.chg (h.ext.trans (hB.mono hw0)) hc h0,by rw[hc.size];exact Nat.le_trans h.size hB.size⟩
theorem NT.fit{Y:ET}(h:NT w0 w base b4 a1 c1 c sv st X ma mu)(h0:w0.heap.size<=b4)(h4:b4<base)(hc:Chg b4 w w1)(hb:Bx w1 b4 199 (Ir a1 c1 c sv Y ma mu)):NT w0 w1 base b4 a1 c1 c sv st Y ma mu:=
 ⟨hb,h.row.chg hc h4,h.ma.chgb hc h.bx,h.mu.chgb hc h.bx,h.ext.chg hc h0,by rw[hc.size];exact h.size⟩
end
set_option maxHeartbeats 8000000 in
set_option maxRecDepth 20000 in
theorem tC{w0:World}{v0:Value}{x0:BB}(r0:RV w0 v0 x0){F:Nat}{r:Ob BV}(hF:Hz F x0=some r):
  Calls Tryz.prog 215 [v0].toArray w0 (BN fun v w'=>∃b a1 c1 sv st X ma mu base,v=.pointer (some ⟨b,0,none⟩)/\r=⟨some (x0,st,X,.mk,.mk)⟩/\NT w0 w' base b a1 c1 x0 sv st X ma mu/\RVo (·<w0.heap.size) w0 (.slice a1 x0.1.length c1) x0.1/\
   w0.heap.size<=b/\b<base/\w0.heap.size<=ma/\ma<base/\w0.heap.size<=mu/\mu<base/\ma≠mu):=by
 unfold Hz at hF;refine bS hF fun st hS hF=>bS hF fun X hX hF=>?_;cases hF;have hz:=id r0;obtain⟨_,rfl,_,_,rfl,⟨a1,c1,rfl,p1,q3,e1⟩,_,_,rfl,rfl,_,_,rfl,rfl,rfl⟩:=hz;have r3:=RV.of1 p1 q3 e1;refine BK (n:=96) Tryz.func215 rfl rfl rfl<|Zr<|Cw rfl rfl fun b1 w1 hx1 hg1 hb1=>Za<|nl<|Zr<|Zv (Ad rfl Ij rfl (Bx.cs hb1))<|YI (κ:=Az) (ν:=Int) fun ma w2 hx2 hg2 hm2=>YI (κ:=Az) (ν:=Int) fun mu w3 hx3 hg3 hm3=>Zv (IW (r:=Ir a1 c1 x0 (.slice none 0 0) (Ar.fill 16 (Ar.fill 16 0)) ma mu) qK qL (pc rfl (pc rfl (pc rfl pn))) rfl)<|Cw rfl rfl fun b4 w4 hx4 hg4 hb4=>?_;have k3:Ext w0 w3:=(hx1.tr hx2).tr hx3;have hlma:=hm2.lt;have hlmu:=hm3.lt;have hlb:=hb4.lt;have z1:=hx1.size;have z2:=hx2.size;have z3:=hx3.size;have z4:=hx4.size;have T0:NT w0 w4 w4.heap.size b4 a1 c1 x0 (.slice none 0 0) [] (Ar.fill 16 (Ar.fill 16 0)) ma mu:=⟨hb4,Row.nil,(hm2.ext hx3).ext hx4,hm3.ext hx4,k3.tr hx4,Nat.le_refl _⟩;have hw0:w0.heap.size<=w4.heap.size:=by omega
 have h0b:w0.heap.size<=b4:=by omega
 have h0a:w0.heap.size<=ma:=by omega
 have h0u:w0.heap.size<=mu:=by omega
 have hab:ma<w4.heap.size:=by omega
 have hub:mu<w4.heap.size:=by omega
 have hne:ma≠mu:=by omega
 generalize hbase:w4.heap.size=base at T0 hw0 hab hub hlb;refine Za<|nl<|wp_seq<|Zr<|Zm<|Zv (Bc rfl)<|Zv (AX rfl Kk)<|Zv (AX rfl Fg)<|Zv (AR rfl I6 ((Bx.cs hb4).at 0 rfl))<|Zv (Ao rfl Tryz.underlying46)<|Zm<|nl<|ct (fun L w=>∃sv,L 3=.pointer (some ⟨b4,0,none⟩)/\NT w0 w base b4 a1 c1 x0 sv st (Ar.fill 16 (Ar.fill 16 0)) ma mu) ?_ ?_
 ·refine wp_block<|lp (I:=fun m L w=>∃(i:Int)(BI:List Am)(sv:Value),MH x0.1 m i BI=some st/\L 21=.int .i64 i/\L 20=.int .i64 (x0.1.length:Int)/\L 19=.slice a1 x0.1.length c1/\L 3=.pointer (some ⟨b4,0,none⟩)/\NT w0 w base b4 a1 c1 x0 sv BI (Ar.fill 16 (Ar.fill 16 0)) ma mu) F
   ⟨_,_,_,hS,rfl,rfl,rfl,rfl,T0⟩ ?_
  rintro m L w⟨i,BI,sv,hB,l21,l20,l19,l3,T⟩;rcases m with _|m
  ·rw[MH]at hB;cases hB
  rw[MH]at hB;refine Zr<|Zv (BL l21 l20)<|nl<|wp_seq<|cnd rfl (fun h6=>?_) (fun h6=>?_)
  ·have hB:=Ah hB h6
   refine bS hB fun p Ep hB=>bS hB fun s1 E1 hB=>?_;have hz:=(RV.els (r3.ext T.ext)).ix Ep;obtain⟨b5,off5,cs5,e,i1,i2,q5,hc5⟩:=hz;cases e;obtain rfl:=Flat.iff.1 q5;refine wp_skip<|wp_seq<|wp_block<|Zr<|Zm<|Zv (Al l19 l21 Tryz.underlying46 Jy i1 i2)<|Zv (Ad rfl Jy rfl hc5)<|D5 Jy fun b6 w5 hx5 hg5 hb6=>Zv (Xw l21)<|D8 rfl rfl rfl Jy hb6 rfl rfl (ble rfl) fun w6 hch6 hb7=>?_;have kx6:Ext w w6:=hx5.chg hch6 hg5;have T6:=T.go kx6;refine nl<|Zr<|Zv (Aq l3)<|Zv (Aq l3)<|Zv (Bc rfl)<|Zv (AX rfl FO)<|Zv (AR rfl Jf ((Bx.cs T6.bx).at 4 rfl))<|Zm<|Zv (IW (r:=[.int .i64 i,.bool false]) BU mK (pc rfl pn) rfl)<|Gq (cs:=[.int .i64 i,.bool false]) Tryz.underlying51 BU rfl (pc rfl pn) rfl rfl rfl rfl rfl fun b8 w7 hx7 hg7 hb8=>?_;have o7:Row (α:=Am) 56 w6.heap.size w7 (.slice (some ⟨b8,0,none⟩) 1 1) [(i,false)]:=Row.lit hg7 hb8 rfl (ble rfl);have T7:=T6.go hx7;refine KY (l:=BI) (k:=([(i,false)]:List Am)) rfl rfl Tryz.underlying51 BU rfl rfl T7.row (RV.els o7.rv) E1 T7.size fun v8 w8 o8 hB8 hg8 hw8=>?_;have hz:=RV.sl o8.rv;obtain⟨a8,c8,rfl,-,-,-⟩:=hz;refine Zv (Bc rfl)<|Zv (AX rfl FO)<|D8 rfl rfl rfl Jf (T7.bx.below hB8 hlb) rfl rfl (by rw[Og];exact ble rfl) fun w9 hch9 hb9=>?_;have T9:=T7.steps hw0 h0b hlb hab hub o8 hB8 hch9 hb9;have hb7x:Bx w9 b6 176 (Flat.enc p):=by
    have h1:Bx w6 b6 176 (Flat.enc p):=hb7;have hs:=T.size;exact((h1.ext hx7).gr hg8 (T.row.ne_new hg5)).chg hch9 (by omega)
   refine nl<|Zr<|Zv (AX rfl SG)<|Zv (AR rfl TM ((Bx.cs hb7x).at 6 rfl))<|nl<|cnd rfl (fun hl=>?_) (fun hl=>?_)
   ·have hB:=Ah hB hl
    refine bS hB fun s2 E2 hB=>rg<|Zv (Aq l3)<|Zv (Aq l3)<|Zv (Bc rfl)<|Zv (AX rfl FO)<|Zv (AR rfl Jf ((Bx.cs T9.bx).at 4 rfl))<|Zm<|Zv (IW (r:=[.int .i64 i,.bool true]) BU mK (pc rfl (pc rfl pn)) rfl)<|Gq (cs:=[.int .i64 i,.bool true]) Tryz.underlying51 BU rfl (pc rfl pn) rfl rfl rfl rfl rfl fun b8 w7 hx7 hg7 hb8=>?_;have o7:Row (α:=Am) 56 w9.heap.size w7 (.slice (some ⟨b8,0,none⟩) 1 1) [(i,true)]:=Row.lit hg7 hb8 rfl (ble rfl);have T7:=T9.go hx7;refine KY (l:=s1) (k:=([(i,true)]:List Am)) rfl rfl Tryz.underlying51 BU rfl rfl T7.row (RV.els o7.rv) E2 T7.size fun v8 w8 o8 hB8 hg8 hw8=>?_;have hz:=RV.sl o8.rv;obtain⟨a8,c8,rfl,-,-,-⟩:=hz;refine Zv (Bc rfl)<|Zv (AX rfl FO)<|D8 rfl rfl rfl Jf (T7.bx.below hB8 hlb) rfl rfl (by rw[Og];exact ble rfl) fun w9 hch9 hb9=>?_;have T9:=T7.steps hw0 h0b hlb hab hub o8 hB8 hch9 hb9;refine nl<|rg<|Zv (Aw l21 rfl)<|Zm<|nl<|lq m (Nat.lt_succ_self _) ⟨_,_,_,hB,rfl,l20,l19,l3,T9⟩
   ·have hB:=Ai hB hl
    refine wp_skip<|rg<|Zv (Aw l21 rfl)<|Zm<|nl<|lq m (Nat.lt_succ_self _) ⟨_,_,_,hB,rfl,l20,l19,l3,T9⟩
  ·have hB:=Ai hB h6
   cases hB;exact wp_exit<|lf ⟨_,l3,T⟩
 rintro L w5⟨sv,l3,T5⟩;clear hS;have hz:=RV.sl T5.row.rv;obtain⟨a5,c5,rfl,-,-,-⟩:=hz;refine wp_seq<|Zr<|Zv (Aq l3)<|Zv (Bc rfl)<|Zv (AX rfl FO)<|Zv (AR rfl Jf ((Bx.cs T5.bx).at 4 rfl))<|Zv (Ao rfl Tryz.underlying51)<|Zm<|nl<|ct (fun L w=>L 3=.pointer (some ⟨b4,0,none⟩)/\NT w0 w base b4 a1 c1 x0 (.slice a5 st.length c5) st X ma mu) ?_ ?_
 ·refine wp_block<|lp (I:=fun m L w=>∃(i:Int)(Y:ET),Nf F x0 st m i Y=some X/\L 56=.int .i64 i/\L 55=.int .i64 (st.length:Int)/\L 54=.slice a5 st.length c5/\L 3=.pointer (some ⟨b4,0,none⟩)/\NT w0 w base b4 a1 c1 x0 (.slice a5 st.length c5) st Y ma mu) F
   ⟨_,_,hX,rfl,rfl,rfl,l3,T5⟩ ?_
  rintro m L w⟨i,Y,hB,l56,l55,l54,l3,T⟩;rcases m with _|m
  ·rw[Nf]at hB;cases hB
  rw[Nf]at hB;refine Zr<|Zv (BL l56 l55)<|nl<|wp_seq<|cnd rfl (fun h6=>?_) (fun h6=>?_)
  ·have hB:=Ah hB h6
   refine bS hB fun p Ep hB=>bS hB fun Y2 E3 hB=>?_;have hz:=(RV.els T.row.rv).ix Ep;obtain⟨b5,off5,cs5,e,i1,i2,q5,hc5⟩:=hz;cases e;obtain rfl:=Flat.iff.1 q5;refine wp_skip<|wp_seq<|wp_block<|Zr<|Zm<|Zv (Al l54 l56 Tryz.underlying51 BU i1 i2)<|Zv (Ad rfl BU rfl hc5)<|D5 BU fun b6 w6 hx6 hg6 hb6=>Zv (Xw l56)<|D8 rfl rfl rfl BU hb6 rfl rfl (ble rfl) fun w7 hch7 hb7=>?_;have kx7:Ext w w7:=hx6.chg hch7 hg6;have T7:=T.go kx7;have hb7x:Bx w7 b6 56 (Flat.enc p):=hb7;have hzs:=T.size;have h6b:base<=b6:=by omega
   refine nl<|Zr<|Zv (Aq l3)<|Zv (Bc rfl)<|Zv (AX rfl FO)<|Zv (AR rfl Jf ((Bx.cs T7.bx).at 4 rfl))<|Zv (Ao rfl Tryz.underlying51)<|Zm<|nl<|ct (fun L w=>L 56=.int .i64 i/\L 55=.int .i64 (st.length:Int)/\L 54=.slice (some ⟨b5,off5,none⟩) st.length c5/\L 3=.pointer (some ⟨b4,0,none⟩)/\NT w0 w base b4 a1 c1 x0 (.slice (some ⟨b5,off5,none⟩) st.length c5) st Y2 ma mu) ?_ ?_
   ·refine wp_block<|lp (I:=fun m L w=>∃(k:Int)(Y:ET),MI x0 st i p m k Y=some Y2/\L 66=.int .i64 k/\L 65=.int .i64 (st.length:Int)/\L 64=.slice (some ⟨b5,off5,none⟩) st.length c5/\L 7=.pointer (some ⟨b6,0,none⟩)/\L 6=.int .i64 i/\Bx w b6 56 (Flat.enc p)/\
      L 56=.int .i64 i/\L 55=.int .i64 (st.length:Int)/\L 54=.slice (some ⟨b5,off5,none⟩) st.length c5/\L 3=.pointer (some ⟨b4,0,none⟩)/\NT w0 w base b4 a1 c1 x0 (.slice (some ⟨b5,off5,none⟩) st.length c5) st Y ma mu) F
     ⟨_,_,E3,rfl,rfl,rfl,rfl,rfl,hb7x,l56,l55,l54,l3,T7⟩ ?_
    clear hB T T7 E3 hc5 hb7 hb7x;rintro m L w⟨k,Y,hB,l66,l65,l64,l7,l6,hbp,l56,l55,l54,l3,T⟩;rcases m with _|m
    ·rw[MI]at hB;cases hB
    rw[MI]at hB;refine Zr<|Zv (BL l66 l65)<|nl<|wp_seq<|cnd rfl (fun h6=>?_) (fun h6=>?_)
    ·have hB:=Ah hB h6
     refine bS hB fun q Eq hB=>bS hB fun f Ef hB=>?_;have hz:=Gd T.row.rv Eq;obtain⟨cs8,i3,i4,q8,hc8⟩:=hz;obtain rfl:=Flat.iff.1 q8;refine wp_skip<|wp_seq<|wp_block<|Zr<|Zm<|Zv (Al l64 l66 Tryz.underlying51 BU i3 i4)<|Zv (Ad rfl BU rfl hc8)<|D5 BU fun b9 w8 hx8 hg8 hb8=>Zv (Xw l66)<|D8 rfl rfl rfl BU hb8 rfl rfl (ble rfl) fun w9 hch9 hb9=>?_;have kx9:Ext w w9:=hx8.chg hch9 hg8;have T9:=T.go kx9;have hbq:Bx w9 b9 56 (Flat.enc q):=hb9;have hbp9:=hbp.ext kx9;refine nl<|wp_seq<|Ff [] (.pure true 0 (.pure false 1 (.pure true 2 (.pure false 3 (.pure true 4 (.pure true 5 (.pure true 6 (.pure true 7 (.pure false 8 (.pure true 10 (.pure false 11 (.eff 9 (.eff 12 (.eff 13 (.pure true 14 .fin) .stop) .stop) .stop)))))))))))) mixed (by kernel_rfl) (fun wd hxd=>?_);have Td:=T9.go hxd;have dq:=hbq.ext hxd;have dp:=hbp9.ext hxd;refine Zp rfl (fun _=>AX l7 Fh)<|Zq rfl (fun _ hS=>AR rfl Aa ((Bx.cs (dp.ext (hS.resolve_left nofun))).at 0 rfl)) (Ext.refl _)<|Zp rfl (fun _=>AX rfl Fh)<|Zq rfl (fun _ hS=>AR rfl Aa ((Bx.cs (dq.ext (hS.resolve_left nofun))).at 0 rfl)) (Ext.refl _)<|Zp rfl (fun _=>FH rfl rfl)<|Zn rfl<|?_;have Ef':(if(!decide (p.1=q.1))=true then(Dj (x0,st,Y,.mk,.mk) p 1)>>=fun e=>(Dj (x0,st,Y,.mk,.mk) q 0)>>=fun d=>HY (x0,st,Y,.mk,.mk) e d else some false)=some f:=Ef;refine Or.elim (Bool.eq_false_or_eq_true (!decide (p.1=q.1))) (fun hg=>?_) (fun hg=>?_)
     ·have Ef':=Ah Ef' hg
      have hz:=bs Ef';obtain⟨e,Ee,Ef'⟩:=hz;have hz:=bs Ef';obtain⟨d,Ed,Ef'⟩:=hz;refine Yt rfl (bt hg) (fun _=>Aq l3)<|Yt rfl (bt hg) (fun _=>Aq l3)<|Yi rfl (bt hg) (fun _ hS=>Ad l7 BU rfl (Bx.cs (dp.ext (hS.resolve_left nofun)))) (Ext.refl _)<|Yt rfl (bt hg) (fun _=>Aq l3)<|Yi rfl (bt hg) (fun _ hS=>Ad rfl BU rfl (Bx.cs (dq.ext (hS.resolve_left nofun)))) (Ext.refl _)<|Br rfl<|Gt rfl (bt hg)<|Zc (xc iZ (mc rfl<|mc rfl<|mc rfl mn)) (oM (x0:=(x0,st,Y,.mk,.mk)) (Bx.cs Td.bx) (MG (r3.ext Td.ext) Td.row.rv) (x1:=p) ⟨_,rfl,Flat.iff.2 rfl⟩ Ee) ?_;rintro _ wE⟨uE,rfl,rE,hxE⟩;have TE:=Td.go hxE;refine nl ⟨fun _ h=>h.tr hxE,?_⟩;refine Br rfl<|Gt rfl (bt hg)<|Zc (xc iZ (mc rfl<|mc rfl<|mc rfl mn)) (oM (x0:=(x0,st,Y,.mk,.mk)) (Bx.cs TE.bx) (MG (r3.ext TE.ext) TE.row.rv) (x1:=q) ⟨_,rfl,Flat.iff.2 rfl⟩ Ed) ?_;rintro _ wG⟨uG,rfl,rG,hxG⟩;have TG:=TE.go hxG;refine nl ⟨fun _ h=>h.tr hxG,?_⟩;refine Br rfl<|Gt rfl (bt hg)<|Zc (xc rJ (mc rfl<|mc rfl<|mc rfl mn)) (xW (x0:=(x0,st,Y,.mk,.mk)) (Bx.cs TG.bx) (MG (r3.ext TG.ext) TG.row.rv) (rE.ext hxG) rG Ef') ?_;rintro _ wH⟨rfl,hxH⟩;have TH:=TG.go hxH;have hbp':=((dp.ext hxE).ext hxG).ext hxH;refine nl ⟨fun _ h=>h.tr hxH,?_⟩;refine Zp rfl (fun _=>GD rfl hg rfl)<|cnd rfl (fun hf=>?_) (fun hf=>?_)
      ·have hB:=Ah hB hf
       refine bS hB fun r Er hB=>bS hB fun y0 Ey hB=>?_;have hz:=Dx (Cs.mid (l1:=[.slice a1 x0.1.length c1,.int .i64 x0.2.1,.int .i64 x0.2.2.1,.int .i64 x0.2.2.2,.slice (some ⟨b5,off5,none⟩) st.length c5]) (X:=Y) (l2:=[.map (some ma),.map (some mu)]) (Bx.cs TH.bx)) Er;obtain⟨j1,j2,hc1⟩:=hz;have hz:=Dx (X:=r) hc1 Ey;obtain⟨j3,j4,hc2⟩:=hz;refine rg<|Zv (Aq l3)<|Zv (Aq l6)<|Zm<|Zv (Bc rfl)<|Zv (AX rfl Pz)<|Zv (C9 rfl rfl Tryz.underlying196 Py j1 j2)<|Zv (C9 rfl rfl Tryz.underlying195 Aa j3 j4)<|D8 (vs:=[.int .i64 1]) rfl rfl rfl Aa TH.bx rfl rfl (by rw[Og,List.length_singleton];omega) fun wK hchK hbK=>?_;rw[show 0+5+i.toNat*16+k.toNat*1=5+(i.toNat*16+k.toNat) by omega,ZM Er j3 j4]at hbK;have T':=TH.fit h0b hlb hchK hbK;have hbp':=hbp'.chg hchK (by omega);refine nl<|rg<|Zv (Aw l66 rfl)<|Zm<|nl<|lq m (Nat.lt_succ_self _) ⟨_,_,hB,rfl,l65,l64,l7,l6,hbp',l56,l55,l54,l3,T'⟩
      ·have hB:=Ai hB hf
       have T':=TH;refine wp_skip<|rg<|Zv (Aw l66 rfl)<|Zm<|nl<|lq m (Nat.lt_succ_self _) ⟨_,_,hB,rfl,l65,l64,l7,l6,hbp',l56,l55,l54,l3,T'⟩
     ·have Ef':=Ai Ef' hg
      cases Ef';refine Yf rfl (Ae hg)<|Yf rfl (Ae hg)<|Yh rfl (Ae hg) (Ext.refl _)<|Yf rfl (Ae hg)<|Yh rfl (Ae hg) (Ext.refl _)<|Br rfl<|Gk rfl (Ae hg)<|nl ⟨fun _ h=>h,?_⟩;refine Br rfl<|Gk rfl (Ae hg)<|nl ⟨fun _ h=>h,?_⟩;refine Br rfl<|Gk rfl (Ae hg)<|nl ⟨fun _ h=>h,?_⟩;refine Zp rfl (fun _=>H8 rfl hg rfl)<|cnd rfl (fun hf=>by cases hf) (fun hf=>?_);have hB:=Ai hB rfl;have hbp':=dp;have T':=Td;refine wp_skip<|rg<|Zv (Aw l66 rfl)<|Zm<|nl<|lq m (Nat.lt_succ_self _) ⟨_,_,hB,rfl,l65,l64,l7,l6,hbp',l56,l55,l54,l3,T'⟩
    ·have hB:=Ai hB h6
     cases hB;exact wp_exit<|lf ⟨l56,l55,l54,l3,T⟩
   ·rintro L w8⟨l56,l55,l54,l3,T8⟩
    refine rg<|Zv (Aw l56 rfl)<|Zm<|nl<|lq m (Nat.lt_succ_self _) ⟨_,_,hB,rfl,l55,l54,l3,T8⟩
  ·have hB:=Ai hB h6
   cases hB;exact wp_exit<|lf ⟨l3,T⟩
 rintro L w6⟨l3,T6⟩;refine Zr<|Zv (Aq l3)<|Za<|nl<|wp_ret<|Zw rfl rfl rfl ?_;exact⟨b4,a1,c1,_,st,X,ma,mu,base,rfl,rfl,T6,r3.old,h0b,hlb,h0a,hab,h0u,hub,hne⟩
theorem Rp{w:World}{b:Nat}{a1:Option Addr}{c1:Nat}{c:BB}{sv:Value}{X:ET}{ma mu:Nat}(h:Bx w b 199 (Ir a1 c1 c sv X ma mu)):w.cell? ⟨b,261,none⟩=some (.map (some ma))/\w.cell? ⟨b,262,none⟩=some (.map (some mu)):=by
 have h3:=Cs.end3 (l1:=[.slice a1 c.1.length c1,.int .i64 c.2.1,.int .i64 c.2.2.1,.int .i64 c.2.2.2,sv]) (X:=X) (l2:=[.map (some ma),.map (some mu)]) (Bx.cs h);exact⟨h3.at 0 rfl,h3.at 1 rfl⟩
theorem tF{w0:World}{v0:Value}{x0:BB}(r0:RV w0 v0 x0){F:Nat}{r:Ob BV}(hF:Hz F x0=some r):
  Calls Tryz.prog 215 [v0].toArray w0 (BN fun v w'=>∃u0:Value,v=u0/\RV w' u0 r/\TbN w0.heap.size w' u0 r/\Ext w0 w'):=by
 refine Calls.mono (tC r0 hF) fun e w' he=>?_;obtain⟨v,rfl,b,a1,c1,sv,st,X,ma,mu,base,rfl,rfl,T,r3,h0b,hb,h0a,ha,h0u,hu,hne⟩:=he;have hpos:0<263:=by decide
 have hb1:=Ne.symm (T.ma.not_cells T.bx);have hb2:=Ne.symm (T.mu.not_cells T.bx);have hrep:Enc.rep (fun q=>q≠ma/\q≠mu) w' (Ir a1 c1 x0 sv X ma mu) ((x0,st,X,.mk,.mk):BV):=
  MG ((r3.ext T.ext).mono fun q _ hq=>⟨by omega,by omega⟩) (T.row.rvo.mono fun q _ hq=>⟨by omega,by omega⟩)
 have hT:TbN w0.heap.size w' (.pointer (some ⟨b,0,none⟩)) (⟨some (x0,st,X,.mk,.mk)⟩:Ob BV):=
  ⟨_,b,ma,mu,rfl,rfl,⟨_,rfl,_,rfl,b,_,rfl,⟨hb1,hb2⟩,T.bx.lt,hrep,Bx.cs T.bx⟩,(Rp T.bx).1,(Rp T.bx).2,T.ma,T.mu,hne,h0a,h0u⟩
 exact⟨_,rfl,_,rfl,hT.rv,hT,T.ext⟩
end
end Go.Proofs.YtfmelbioccbdoaaGreat
end
section
namespace Go.Proofs.YtfmelbioccbdoaaGreat
open Go Go.Md Go.RowKit
def Bh(F:Nat)(x0:(List (Int×Bool)))(x1:((Int×Bool)->Option Bool)):Nat->Int->Option (Sum Int (Unit))
 |0,_=>none
 |m+1,y1=>
  if(decide (y1<(x0.length:Int)))=true then
   (ix x0 y1)>>=fun x3=>
   (x1 (x3.1,x3.2))>>=fun x4=>
   if x4=true then
    some (.inl y1)
   else
    Bh F x0 x1 m (AZ (y1+1))
  else
   some (.inr ())
def D6(F:Nat)(x0:(List (Int×Bool)))(x1:((Int×Bool)->Option Bool)):Option Int:=
 ((Bh F x0 x1 F 0)>>=fun o=>match o with
  |.inl r=>some r
  |.inr ()=>
   some (-1))
def Ce(F:Nat)(x0:(List (Int×Bool)))(x1:((Int×Bool)->Option Bool)):Option Bool:=
 (D6 F x0 x1)>>=fun x3=>
 some (decide (0<=x3))
def LZ(F:Nat)(x0:(Int×Bool))(x1:(Ob (DJ×(List (Int×Bool))×(Ar 16 (Ar 16 Int))×Opq×Opq))):Option Bool:=
 (x1.v)>>=fun x3=>
 (GL F ((x3.1.1,x3.1.2.1,(x3.1.2.2.1,x3.1.2.2.2)),x3.2.1,x3.2.2.1,Opq.mk,Opq.mk) (x0.1,x0.2))>>=fun x4=>
 some (decide (x4<0))
def Jp(F:Nat)(x0:DJ)(x1:(List (Int×Bool))):Option ((Ob (DJ×(List (Int×Bool))×(Ar 16 (Ar 16 Int))×Opq×Opq))×Int):=
 (GX F (x0.1,x0.2.1,(x0.2.2.1,x0.2.2.2)))>>=fun x3=>
 if(!decide (x3=0))=true then
  some ((⟨none⟩:(Ob (DJ×(List (Int×Bool))×(Ar 16 (Ar 16 Int))×Opq×Opq))),x3)
 else
  (Hz F (x0.1,x0.2.1,(x0.2.2.1,x0.2.2.2)))>>=fun x4=>
  (Ce F x1 (fun y=>LZ F y x4))>>=fun x5=>
  if x5=true then
   some ((⟨none⟩:(Ob (DJ×(List (Int×Bool))×(Ar 16 (Ar 16 Int))×Opq×Opq))),2)
  else
   some (x4,0)
end Go.Proofs.YtfmelbioccbdoaaGreat
end
section
namespace Go.Proofs.YtfmelbioccbdoaaGreat
open Go Go.Md Go.RowKit
attribute [local irreducible] Go.wpList Go.Code.wp Go.Calls Go.Md.FN Go.Md.Mt Go.Md.Gf Go.Md.EO Go.Code.wpIn
theorem xf{w0:World}{v0:Value}{x0:(List (Int×Bool))}(r0:RV w0 v0 x0){v1:Value}{x1:(Int×Bool)->Option Bool}(h1:FnB Tryz.prog (Int×Bool) w0 v1 x1){F:Nat}{r:Int}(hF:D6 F x0 x1=some r):
  Calls Tryz.prog 299 [v0,v1].toArray w0 (BN fun v w'=>v=.int .i64 r/\Ext w0 w'):=by
 unfold D6 at hF;have hz:=r0.sl;obtain⟨a1,cq1,rfl,-,-,-⟩:=hz;refine BK (n:=19) Tryz.func299 rfl rfl rfl<|Zr<|Za<|nl<|wp_seq<|Zr<|Zm<|Zv (Ao rfl Tryz.underlying51)<|Zm<|nl<|bS hF fun o1 hB1 hF=>ct (fun L w=>o1=.inr ()/\Ext w0 w) ?_ ?_
 ·refine wp_block<|lp (I:=fun m L w=>∃y1:Int,Bh F x0 x1 m y1=some o1/\L 8=.int .i64 y1/\L 0=.slice a1 x0.length cq1/\L 1=v1/\L 7=.int .i64 (x0.length:Int)/\Ext w0 w) F ⟨_,hB1,rfl,rfl,rfl,rfl,(Ext.refl _)⟩ ?_;rintro m L w1⟨y1,hB1,l8_i1,l0_i1,l1_i1,l7_i1,K0_i1⟩;rcases m with _|m
  ·rw[Bh]at hB1;cases hB1
  rw[Bh]at hB1;have h3:=h1.ext K0_i1;refine Zr<|Zv (BL l8_i1 l7_i1)<|nl<|wp_seq<|cnd rfl (fun h4=>?_) (fun h4=>?_)
  ·have hB1:=Ah hB1 h4;refine wp_skip<|wp_seq<|wp_block<|Zr<|Zm<|Za<|nl<|Zr<|Zm<|Zm<|Zm<|bS hB1 fun x3 Ex3 hB1=>?_;have hz:=(RV.els r0).ix Ex3;obtain⟨b3,f1,cs3,e1,i2,i3,q3,hc1⟩:=hz;cases e1;obtain⟨_,_,rfl,rfl,rfl⟩:=q3;have hc2:=hc1.ext K0_i1;refine Zv (Al l0_i1 l8_i1 Tryz.underlying51 BU i2 i3)<|Zv (Ad rfl BU rfl hc2)<|bS hB1 fun x4 Ex4 hB1=>?_;have hz:=id h3;obtain⟨g1,fs1,cs4,e2,hg1,hu1⟩:=hz;refine Zc (PD (l1_i1.trans e2) hg1 (mc rfl mn) rfl) (hu1 _ _ _ _ (Ext.refl _) (show RV (α:=(Int×Bool)) _ (.agg [.int .i64 x3.1,.bool x3.2].toArray) (x3.1,x3.2)from⟨_,rfl,[.int .i64 x3.1],[.bool x3.2],rfl,rfl,rfl⟩) Ex4) ?_;rintro _ w2⟨rfl,hx1⟩;have k1:=K0_i1.tr hx1;refine nl<|cnd rfl (fun h6=>?_) (fun h6=>?_)
   ·have hB1:=Ah hB1 h6;refine Zr<|Zm<|Za<|nl<|?_;cases hB1;have hF:=(show some _=some _ from hF);cases hF;exact wp_ret<|rt rfl (.tmp l8_i1 rfl .nil) ⟨rfl,k1⟩
   ·have hB1:=Ai hB1 h6;refine wp_skip<|rg<|Zv (Aw l8_i1 rfl)<|Zm<|nl<|lq m (Nat.lt_succ_self _)<|?_;exact⟨_,hB1,rfl,l0_i1,l1_i1,l7_i1,k1⟩
  ·have hB1:=Ai hB1 h4;refine wp_exit<|?_;cases hB1;refine lf<|?_;exact⟨rfl,K0_i1⟩
 rintro L w3⟨rfl,K0_j1⟩;refine Zr<|Za<|nl<|?_;cases hF;exact wp_ret<|Zw rfl rfl rfl ⟨rfl,K0_j1⟩
theorem xg{w0:World}{v0:Value}{x0:(List (Int×Bool))}(r0:RV w0 v0 x0){v1:Value}{x1:(Int×Bool)->Option Bool}(h1:FnB Tryz.prog (Int×Bool) w0 v1 x1){F:Nat}{r:Bool}(hF:Ce F x0 x1=some r):
  Calls Tryz.prog 216 [v0,v1].toArray w0 (BN fun v w'=>v=.bool r/\Ext w0 w'):=by
 unfold Ce at hF;have hz:=r0.sl;obtain⟨a1,cq1,rfl,-,-,-⟩:=hz;refine BK (n:=9) Tryz.func216 rfl rfl rfl<|Zr<|Za<|nl<|Zr<|Zm<|Zm<|bS hF fun x3 Ex3 hF=>Zc (xc rM (mc rfl (mc rfl mn))) (xf r0 h1 Ex3) ?_;rintro _ w1⟨rfl,hx1⟩;refine Zv (Kw rfl rfl)<|Za<|nl<|?_;cases hF;exact wp_ret<|Zw rfl rfl rfl ⟨rfl,hx1⟩
theorem xk{w0:World}{v0:Value}{x0:(Int×Bool)}(r0:RV w0 v0 x0){b1:Nat}{cs1:List Value}{x1:(Ob (DJ×(List (Int×Bool))×(Ar 16 (Ar 16 Int))×Opq×Opq))}(h1:Cs w0 b1 0 cs1)(q1:Enc.rep (fun _=>True) w0 cs1 x1){F:Nat}{r:Bool}(hF:LZ F x0 x1=some r):
  Calls Tryz.prog 217 [v0,.pointer (some ⟨b1,0,none⟩)].toArray w0 (BN fun v w'=>v=.bool r/\Ext w0 w'):=by
 unfold LZ at hF;have hz:=id r0;obtain⟨_,rfl,_,_,rfl,rfl,rfl⟩:=hz;have q3:=q1;have hz:=Ja q3;obtain⟨a1,rfl,r3⟩:=hz;refine BK (n:=8) Tryz.func217 rfl rfl rfl<|Zr<|Cw rfl rfl fun b3 w1 hx1 hg1 hb1=>?_;have h3:=h1.ext hx1;refine Za<|nl<|Zr<|Zv (AR rfl Em (h3.at 0 rfl))<|Zv (Ad rfl BU rfl (Bx.cs hb1))<|bS hF fun x3 Ex3 hF=>?_;have hz:=OM r3 Ex3;obtain⟨b4,cs3,e1,q4,hc1⟩:=hz;cases e1;obtain⟨_,_,rfl,⟨_,_,rfl,⟨a2,cq1,rfl,p1,q5,e2⟩,_,_,rfl,rfl,_,_,rfl,rfl,rfl⟩,_,_,rfl,⟨a3,cq2,rfl,p2,q6,e3⟩,_,_,rfl,rfl,_,_,rfl,⟨a4,rfl,q7⟩,a5,rfl,q8⟩:=q4;have r6:=RV.of1 p1 q5 e2;have r7:=RV.of1 p2 q6 e3;have hc2:=hc1.ext hx1;have r8:=r6.ext hx1;have r9:=r7.ext hx1;refine bS hF fun x4 Ex4 hF=>Zc (xc qa (mc rfl (mc rfl mn))) (xZ (x0:=((x3.1.1,x3.1.2.1,(x3.1.2.2.1,x3.1.2.2.2)),x3.2.1,x3.2.2.1,Opq.mk,Opq.mk)) hc2 ⟨[.slice a2 x3.1.1.length cq1]++([.int .i64 x3.1.2.1]++([.int .i64 x3.1.2.2.1]++[.int .i64 x3.1.2.2.2])),[.slice a3 x3.2.1.length cq2]++(((List.flatMap Flat.enc x3.2.2.1.l))++([a4]++[a5])),rfl,⟨[.slice a2 x3.1.1.length cq1],[.int .i64 x3.1.2.1]++([.int .i64 x3.1.2.2.1]++[.int .i64 x3.1.2.2.2]),rfl,r8.rep1,[.int .i64 x3.1.2.1],[.int .i64 x3.1.2.2.1]++[.int .i64 x3.1.2.2.2],rfl,rfl,[.int .i64 x3.1.2.2.1],[.int .i64 x3.1.2.2.2],rfl,rfl,rfl⟩,[.slice a3 x3.2.1.length cq2],((List.flatMap Flat.enc x3.2.2.1.l))++([a4]++[a5]),rfl,r9.rep1,(List.flatMap Flat.enc x3.2.2.1.l),[a4]++[a5],rfl,rfl,[a4],[a5],rfl,⟨_,rfl,q7⟩,_,rfl,q8⟩ (show RV (α:=(Int×Bool)) _ (.agg [.int .i64 x0.1,.bool x0.2].toArray) (x0.1,x0.2)from⟨_,rfl,[.int .i64 x0.1],[.bool x0.2],rfl,rfl,rfl⟩) Ex4) ?_;rintro _ w2⟨rfl,hx2⟩;have k1:=hx1.tr hx2;refine Zv (BL rfl rfl)<|Za<|nl<|?_;cases hF;exact wp_ret<|Zw rfl rfl rfl ⟨rfl,k1⟩
end Go.Proofs.YtfmelbioccbdoaaGreat
end
section
namespace Go.Proofs.YtfmelbioccbdoaaGreat
open Go Go.Md Go.RowKit
attribute [local irreducible] Go.wpList Go.Code.wp Go.Calls Go.Md.FN Go.Md.Mt Go.Md.Gf Go.Md.EO Go.Code.wpIn Go.wpListIn
section
structure Tb(N:Nat)(w:World)(b ma mu:Nat)(x:BV):Prop where
 size:N<=w.heap.size
 rv:RVo (fun q=>q<N/\q≠ma/\q≠mu) w (.pointer (some ⟨b,0,none⟩)) (⟨some x⟩:Ob BV)
 ca:w.cell? ⟨b,261,none⟩=some (.map (some ma))
 cu:w.cell? ⟨b,262,none⟩=some (.map (some mu))
 la:ma<N
 lu:mu<N
 ne:ma≠mu
section
variable {N:Nat}{w w1:World}{b ma mu c d:Nat}{x:BV}
theorem Tb.lb(h:Tb N w b ma mu x):b<N/\b≠ma/\b≠mu:=by
 have hz:=PG h.rv rfl;obtain⟨b',ds,e,h1,_,_⟩:=hz;cases e;exact h1
theorem Tb.belx(h:Tb N w b ma mu x)(k:BelX N c d w w1)(hc:c=ma\/c=mu\/N<=c)(hd:d=ma\/d=mu\/N<=d):Tb N w1 b ma mu x:=by
 have hb:=h.lb;have e:w1.heap[b]?=w.heap[b]?:=k.block b hb.1 (by omega) (by omega);exact⟨Nat.le_trans h.size k.size,h.rv.keep (fun q hq _=>k.block q hq.1 (by omega) (by omega)) k.size,(World.cell?_of_block (a:=⟨b,261,none⟩) e).trans h.ca,(World.cell?_of_block (a:=⟨b,262,none⟩) e).trans h.cu,h.la,h.lu,h.ne⟩
theorem Tb.belp{ok:Nat->Prop}{M:Nat}(h:Tb N w b ma mu x)(k:BelP ok M w w1)(hM:N<=M)(hk:∀q,q<N->q≠ma->q≠mu->ok q):Tb N w1 b ma mu x:=by
 have hb:=h.lb;have e:w1.heap[b]?=w.heap[b]?:=k.block b (by omega) (hk b hb.1 hb.2.1 hb.2.2);exact⟨Nat.le_trans h.size k.size,h.rv.keep (fun q hq _=>k.block q (by omega) (hk q hq.1 hq.2.1 hq.2.2)) k.size,(World.cell?_of_block (a:=⟨b,261,none⟩) e).trans h.ca,(World.cell?_of_block (a:=⟨b,262,none⟩) e).trans h.cu,h.la,h.lu,h.ne⟩
theorem Tb.ext(h:Tb N w b ma mu x)(k:Ext w w1):Tb N w1 b ma mu x:=h.belx (c:=ma) (d:=ma) (BelX.of k h.size) (.inl rfl) (.inl rfl)
theorem Tb.mono{M:Nat}(h:Tb N w b ma mu x)(hM:N<=M)(hs:M<=w.heap.size):Tb M w b ma mu x:=
 ⟨hs,h.rv.mono fun q _ hq=>⟨by omega,hq.2⟩,h.ca,h.cu,Nat.lt_of_lt_of_le h.la hM,Nat.lt_of_lt_of_le h.lu hM,h.ne⟩
theorem Tb.cs(h:Tb N w b ma mu x):∃cs,Cs w b 0 cs/\Enc.rep (fun _=>True) w cs x:=by
 have hz:=PG h.rv rfl;obtain⟨b',ds,e,_,h1,h2⟩:=hz;cases e;exact⟨ds,h2,Enc.mono (fun _ _ _=>trivial) h1⟩
theorem Tb.steps(h:Tb N w b ma mu x):∃a k,w.cell? ⟨b,4,none⟩=some (.slice a x.2.1.length k)/\RVo (fun q=>q<N/\q≠ma/\q≠mu) w (.slice a x.2.1.length k) x.2.1:=by
 have hz:=PG h.rv rfl;obtain⟨b',ds,e,_,h1,h2⟩:=hz;cases e;obtain⟨_,_,rfl,⟨_,_,rfl,⟨a1,c1,rfl,p1,q3,e1⟩,_,_,rfl,rfl,_,_,rfl,rfl,rfl⟩,_,_,rfl,⟨a2,c2,rfl,p2,q4,e2⟩,_⟩:=h1;exact⟨a2,c2,h2.at 4 rfl,RVo.sl.2 ⟨a2,c2,rfl,p2,q4,e2⟩⟩
theorem Tb.pieces(h:Tb N w b ma mu x):∃a k,w.cell? ⟨b,0,none⟩=some (.slice a x.1.1.length k)/\RVo (fun q=>q<N/\q≠ma/\q≠mu) w (.slice a x.1.1.length k) x.1.1:=by
 have hz:=PG h.rv rfl;obtain⟨b',ds,e,_,h1,h2⟩:=hz;cases e;obtain⟨_,_,rfl,⟨_,_,rfl,⟨a1,c1,rfl,p1,q3,e1⟩,_,_,rfl,rfl,_,_,rfl,rfl,rfl⟩,_,_,rfl,⟨a2,c2,rfl,p2,q4,e2⟩,_⟩:=h1;exact⟨a1,c1,h2.at 0 rfl,RVo.sl.2 ⟨a1,c1,rfl,p1,q3,e1⟩⟩
theorem Tb.fits(h:Tb N w b ma mu x):Cs w b 5 (x.2.2.1.l.flatMap Flat.enc):=by
 have hz:=PG h.rv rfl;obtain⟨b',ds,e,_,h1,h2⟩:=hz;cases e;obtain⟨_,_,rfl,⟨_,_,rfl,⟨a1,c1,rfl,p1,q3,e1⟩,_,_,rfl,rfl,_,_,rfl,rfl,rfl⟩,_,_,rfl,⟨a2,c2,rfl,p2,q4,e2⟩,_,_,rfl,rfl,_⟩:=h1;exact(h2.snd.snd).fst
theorem TbP.tb{M:Nat}{v:Value}(h:TbP M w v x b ma mu):v=.pointer (some ⟨b,0,none⟩)/\Tb w.heap.size w b ma mu x/\Mp (κ:=Az) (ν:=Int) w ma []/\Mp (κ:=Az) (ν:=Int) w mu []:=by
 obtain⟨rfl,h1,h2,h3,h4,h5,h6,_⟩:=h;refine⟨rfl,⟨Nat.le_refl _,?_,h2,h3,h4.lt,h5.lt,h6⟩,h4,h5⟩;obtain⟨cs,e,h7⟩:=h1;refine⟨cs,e,?_⟩;obtain⟨a,e1,b',ds,e2,h8,h9,h10,h11⟩:=h7;exact⟨a,e1,b',ds,e2,⟨h9,h8⟩,h9,Enc.mono (fun q hq hok=>⟨hq,hok⟩) h10,h11⟩
end
def Um(x:BV)(s:Az)(k:Int):Option Bool:=
 (Hl k s ⟨some x⟩)>>=fun f=>
 if f=true then
  (if decide (s.2=-1)=true then some true else(ix x.2.2.1.l s.2)>>=fun r=>(ix r.l k)>>=fun y=>some (decide (y=1)))
 else some false
def Iu(x:BV)(s:Az):Nat->Nat->Option (List Az)
 |0,_=>some []
 |n+1,k=>(Um x s k)>>=fun f=>(Iu x s n (k+1))>>=fun t=>if f=true then(JH x s k)>>=fun u=>some (u::t)else some t
def GR(x:BV)(s:Az):Option (List Az):=
 if(!decide (s.2=-1))=true then(ix x.2.2.1.l s.2)>>=fun r=>if decide (r=Ar.fill 16 0)=true then some []else Iu x s x.2.1.length 0
 else Iu x s x.2.1.length 0
set_option maxHeartbeats 8000000 in
theorem oO{m:Nat}{w:World}{bs bt bf b ma mu N:Nat}{ok:Nat->Prop}{x:BV}{s:Az}{l:List Az}(hs:Bx w bs 326 (Flat.enc s))(ht:Bx w bt 177 [.pointer (some ⟨b,0,none⟩)])(hf:Bx w bf 236 [.func (.func 309) #[] #[.pointer (some ⟨bs,0,none⟩),.pointer (some ⟨bt,0,none⟩)]])
  (n1:ok bs) (n2:ok bt) (n3:ok bf) (hT:Tb N w b ma mu x) (hok:∀q,q<N->q≠ma->q≠mu->ok q) (hL:GR x s=some l):
  K3 Tryz.prog (BelP ok w.heap.size) m 310 #[.pointer (some ⟨bs,0,none⟩),.pointer (some ⟨bt,0,none⟩),.pointer (some ⟨bf,0,none⟩)] (l.map fun u=>#[fv u]) w:=by
 intro ll J Jx W kW hJ hJx hY h0;have KW:BelP ok w.heap.size w W:=BelP.of kW (Nat.le_refl _);have TW:=hT.ext kW;have dsW:=hs.ext kW;have dtW:=ht.ext kW;refine(callsIn_wide.2 ?_:CallsIn Fence.wide m Tryz.prog 310 ([.func (.yield ll) #[] #[],.pointer (some ⟨bs,0,none⟩),.pointer (some ⟨bt,0,none⟩),.pointer (some ⟨bf,0,none⟩)].toArray) W _);refine Calls.mono (R:=BN fun v W'=>J (l.map fun u=>#[fv u]).length W'\/Jx W') ?_ ?_
 rotate_left
 ·rintro e W'⟨v,rfl,h⟩
  exact⟨⟨v,rfl⟩,h⟩
 unfold GR at hL;refine BK (n:=58) Tryz.func310 rfl rfl rfl<|wp_seq<|ct (fun L w'=>L 0=.func (.yield ll) #[] #[]/\L 1=.pointer (some ⟨bs,0,none⟩)/\L 2=.pointer (some ⟨bt,0,none⟩)/\L 3=.pointer (some ⟨bf,0,none⟩)/\Ext W w'/\Iu x s x.2.1.length 0=some l) ?_ ?_
 ·refine wp_seq<|Ff [] (.pure true 0 (.pure false 1 (.pure true 2 (.pure true 3 (.pure false 4 (.pure true 5 (.pure false 6 (.pure true 7 (.pure true 8 (.pure true 9 (.pure false 10 (.pure true 11 (.pure true 12 (.pure true 13 .fin)))))))))))))) mixed (by kernel_rfl) (fun wd hxd=>?_)
  have ds:=dsW.ext hxd;have dt:=dtW.ext hxd;have Td:=TW.ext hxd;refine Zp rfl (fun _=>AX rfl Kl)<|Zq rfl (fun _ hS=>AR rfl Aa ((Bx.cs (ds.ext (hS.resolve_left nofun))).at 1 rfl)) (Ext.refl _)<|Zp rfl (fun _=>FH rfl rfl)<|Zn rfl<|Or.elim (Bool.eq_false_or_eq_true (!decide (s.2=-1))) (fun hg=>?_) (fun hg=>?_)
  ·have hL:=Ah hL hg
   refine bS hL fun r Er hL=>?_;have hz:=Dx Td.fits Er;obtain⟨j1,j2,hc1⟩:=hz;refine Yi rfl (Md.bt hg) (fun _ hS=>AR rfl Em ((Bx.cs (dt.ext (hS.resolve_left nofun))).at 0 rfl)) (Ext.refl _)<|Yt rfl (Md.bt hg) (fun _=>AX rfl Kl)<|Yi rfl (Md.bt hg) (fun _ hS=>AR rfl Aa ((Bx.cs (ds.ext (hS.resolve_left nofun))).at 1 rfl)) (Ext.refl _)<|Yt rfl (Md.bt hg) (fun _=>Bc rfl)<|Yt rfl (Md.bt hg) (fun _=>AX rfl Pz)<|Yt rfl (Md.bt hg) (fun _=>C9 rfl rfl Tryz.underlying196 Py j1 j2)<|Yi rfl (Md.bt hg) (fun _ hS=>Ad rfl Py (BJ r) (hc1.ext (hS.resolve_left nofun))) (Ext.refl _)<|Yt rfl (Md.bt hg) (fun _=>iJ (r:=List.flatMap Flat.enc (Ar.fill 16 0:Ar 16 Int).l) Py Tryz.underlying195 Aa pn rfl)<|Yt rfl (Md.bt hg) (fun _=>Xy (α:=Ar 16 Int) (a:=r) (b:=Ar.fill 16 0) rfl qV qU rfl rfl rfl rfl rfl)<|Zp rfl (fun _=>GD rfl hg rfl)<|cnd rfl (fun hq=>?_) (fun hq=>?_)
   ·have hL:=Ah hL hq
    cases hL;exact wp_ret<|rt rfl .nil (.inl (hJ 0 _ _ h0 hxd))
   ·have hL:=Ai hL hq
    exact wp_skip<|lf ⟨rfl,rfl,rfl,rfl,hxd,hL⟩
  ·have hL:=Ai hL hg
   refine Yh rfl (Ae hg) (Ext.refl _)<|Yf rfl (Ae hg)<|Yh rfl (Ae hg) (Ext.refl _)<|Yf rfl (Ae hg)<|Yf rfl (Ae hg)<|Yf rfl (Ae hg)<|Yh rfl (Ae hg) (Ext.refl _)<|Yf rfl (Ae hg)<|Yf rfl (Ae hg)<|Zp rfl (fun _=>H8 rfl hg rfl)<|cnd rfl (fun hq=>by cases hq) (fun hq=>?_);exact wp_skip<|lf ⟨rfl,rfl,rfl,rfl,hxd,hL⟩
 clear hL;rintro L w2⟨l0,l1,l2,l3,k2,hL⟩;have T2:=TW.ext k2;have dt2:=dtW.ext k2;have hz:=T2.steps;obtain⟨a2,c2,h4,hsl⟩:=hz;have hlen:=(RVo.rv hsl).cap;have hj2:J 0 w2:=hJ 0 _ _ h0 k2;have K2:BelP ok w.heap.size w w2:=BelP.of (kW.tr k2) (Nat.le_refl _);refine Zr<|Zv (AR l2 Em ((Bx.cs dt2).at 0 rfl))<|Zv (Bc rfl)<|Zv (AX rfl FO)<|Zv (AR rfl Jf h4)<|Zv (Ao rfl Tryz.underlying51)<|Zm<|nl<|wp_block<|lp (I:=fun m' L w1=>∃(k:Nat)(Cj t:List Az),k+m'=x.2.1.length/\Iu x s m' k=some t/\l=Cj++t/\L 25=.int .i64 (k:Int)/\L 24=.int .i64 (x.2.1.length:Int)/\L 0=.func (.yield ll) #[] #[]/\L 1=.pointer (some ⟨bs,0,none⟩)/\L 2=.pointer (some ⟨bt,0,none⟩)/\L 3=.pointer (some ⟨bf,0,none⟩)/\J Cj.length w1/\BelP ok w.heap.size w w1) x.2.1.length
  ⟨0,[],l,by simp,hL,rfl,rfl,rfl,l0,l1,l2,l3,hj2,K2⟩ ?_
 clear l0 l1 l2 l3 hL;rintro m' L w1⟨k,Cj,t,hk,hB,hl,l25,l24,l0,l1,l2,l3,hj,hx⟩;refine Zr<|Zv (BL l25 l24)<|nl<|wp_seq<|cnd rfl (fun hc0=>?_) (fun hc0=>?_)
 ·have hc0:(k:Int)<(x.2.1.length:Int):=by simpa using hc0
  obtain⟨n,rfl⟩:∃n,m'=n+1:=⟨m'-1,by omega⟩;rw[Iu]at hB;refine bS hB fun f Ef hB=>?_;have hz:=Md.bs hB;obtain⟨t',Et,hB⟩:=hz;unfold Um at Ef;have hz:=Md.bs Ef;obtain⟨f0,Ef0,Ef⟩:=hz;have hadd:AZ ((k:Int)+1)=((k+1:Nat):Int):=by
   have hmx:x.2.1.length<=maxLen:=by omega
   rw[AZ,IntWalk.i64_in _ (by unfold maxLen at hmx;omega)]
   rfl
  have hNw:=hx.size;refine wp_skip<|wp_seq<|wp_block<|Zr<|Zv (Aq l25)<|Za<|nl<|wp_seq<|wV (m:=m) (fun wd w'=>Ext wd w') [26] (.pure false 0 (.pure true 1 (.eff 2 (.pure true 3 (.pure true 4 (.pure false 5 (.pure true 6 (.pure true 7 (.pure false 8 (.pure true 9 (.pure false 10 (.pure true 11 (.pure true 12 (.pure true 13 (.pure true 14 (.pure true 15 (.pure false 16 (.pure true 17 (.pure true 18 (.pure true 19 (.pure true 20 (.pure true 21 (.pure false 22 (.pure false 23 (.pure true 24 (.eff 25 (.eff 26 (.pure true 27 (.pure true 28 .fin)) .stop) .stop))))))))))))))))))))))) .stop))) mixed (by kernel_rfl) (fun wd hxd=>?_);have hxd':=hx.ext hxd hNw;have ds:=hs.belp hxd' hs.lt n1;have dt:=ht.belp hxd' ht.lt n2;have df:=hf.belp hxd' hf.lt n3;have Td:=hT.belp hxd' hT.size hok;have hjd:=hJ _ _ _ hj hxd;refine Mh rfl rfl rfl (fun _ hS=>AR l3 X3 ((Bx.cs (df.ext (hS.resolve_left nofun))).at 0 rfl)) (.inr (Ext.refl _))<|Mh rfl rfl rfl (fun _ _=>Cv) (.inl rfl)<|YN rfl<|Zc (PD (fs:=[]) (cs:=[.pointer (some ⟨bs,0,none⟩),.pointer (some ⟨bt,0,none⟩)]) rfl rR (mc rfl mn) rfl) (xe (x1:=s) (x2:=(⟨some x⟩:Ob BV)) (Bx.cs ds) (Flat.iff.2 rfl) (Bx.cs dt) (Db Td.rv.rv) Ef0) ?_;rintro _ w3⟨rfl,hx3⟩;refine nl ⟨fun _ h=>h.tr hx3,?_⟩;have kd3:=hxd.tr hx3;have hx3':=hx.ext kd3 hNw;have hjd3:=hJ _ _ _ hj kd3;have ds3:=ds.ext hx3;have dt3:=dt.ext hx3;have Td3:=Td.ext hx3;refine Mh rfl rfl rfl (fun _ _=>Cv) (.inl rfl)<|?_;have skip_:∀(L':Fr),f=false->L' 24=.int .i64 (x.2.1.length:Int)->L' 0=.func (.yield ll) #[] #[]->L' 1=.pointer (some ⟨bs,0,none⟩)->L' 2=.pointer (some ⟨bt,0,none⟩)->L' 3=.pointer (some ⟨bf,0,none⟩)->
    ∃(k':Nat)(Cj t:List Az),k'+n=x.2.1.length/\Iu x s n k'=some t/\l=Cj++t/\Value.int .i64 (AZ ((k:Int)+1))=.int .i64 (k':Int)/\L' 24=.int .i64 (x.2.1.length:Int)/\L' 0=.func (.yield ll) #[] #[]/\L' 1=.pointer (some ⟨bs,0,none⟩)/\L' 2=.pointer (some ⟨bt,0,none⟩)/\L' 3=.pointer (some ⟨bf,0,none⟩)/\J Cj.length w3/\BelP ok w.heap.size w w3:=by
   intro L' hf0 h24 h0 h1 h2 h3;have hB:=Ai hB hf0;cases hB;exact⟨k+1,Cj,_,by omega,Et,hl,congrArg _ hadd,h24,h0,h1,h2,h3,hjd3,hx3'⟩
  refine Or.elim (Bool.eq_false_or_eq_true f0) (fun hf0=>?_) (fun hf0=>?_)
  ·have Ef:=Ah Ef hf0
   refine F7 rfl rfl rfl rfl rfl rfl (Md.bt hf0) rfl (fun _ _=>AX l1 Kl) (.inl rfl)<|F7 rfl rfl rfl rfl rfl rfl (Md.bt hf0) rfl (fun _ hS=>AR rfl Aa ((Bx.cs (ds.ext (hS.resolve_left nofun))).at 1 rfl)) (.inr hx3)<|F7 rfl rfl rfl rfl rfl rfl (Md.bt hf0) rfl (fun _ _=>FE rfl rfl) (.inl rfl)<|F7 rfl rfl rfl rfl rfl rfl (Md.bt hf0) rfl (fun _ _=>Cv) (.inl rfl)<|Or.elim (Bool.eq_false_or_eq_true (decide (s.2=-1))) (fun hs2=>?_) (fun hs2=>?_)
   ·have Ef:=Ah Ef hs2
    obtain rfl:true=f:=by cases Ef;rfl
    refine EC rfl rfl rfl rfl rfl rfl (Bl hs2) rfl (.inr hx3)<|EC rfl rfl rfl rfl rfl rfl (Bl hs2) rfl (.inl rfl)<|EC rfl rfl rfl rfl rfl rfl (Bl hs2) rfl (.inr hx3)<|EC rfl rfl rfl rfl rfl rfl (Bl hs2) rfl (.inl rfl)<|EC rfl rfl rfl rfl rfl rfl (Bl hs2) rfl (.inl rfl)<|EC rfl rfl rfl rfl rfl rfl (Bl hs2) rfl (.inl rfl)<|EC rfl rfl rfl rfl rfl rfl (Bl hs2) rfl (.inl rfl)<|EC rfl rfl rfl rfl rfl rfl (Bl hs2) rfl (.inl rfl)<|EC rfl rfl rfl rfl rfl rfl (Bl hs2) rfl (.inr hx3)<|EC rfl rfl rfl rfl rfl rfl (Bl hs2) rfl (.inl rfl)<|F7 rfl rfl rfl rfl rfl rfl (Md.bt hf0) rfl (fun _ _=>GD rfl hs2 rfl) (.inl rfl)<|Mh rfl rfl rfl (fun _ _=>GD rfl hf0 rfl) (.inl rfl)<|Mh rfl rfl rfl (fun _ _=>Cv) (.inl rfl)<|?_;have hf:true=true:=rfl;have hB:=Ah hB hf;refine bS hB fun u Eu hB=>?_;cases hB;have hz:=Td3.cs;obtain⟨cs3,hc3,hr3⟩:=hz;refine F7 rfl rfl rfl rfl rfl rfl (Md.bt hf) rfl (fun _ _=>Aq l0) (.inl rfl)<|F7 rfl rfl rfl rfl rfl rfl (Md.bt hf) rfl (fun _ hS=>AR l2 Em ((Bx.cs (dt.ext (hS.resolve_left nofun))).at 0 rfl)) (.inr hx3)<|F7 rfl rfl rfl rfl rfl rfl (Md.bt hf) rfl (fun _ hS=>Ad l1 Cz rfl (Bx.cs (ds.ext (hS.resolve_left nofun)))) (.inr hx3)<|F7 rfl rfl rfl rfl rfl rfl (Md.bt hf) rfl (fun _ _=>Cv) (.inl rfl)<|YN rfl<|Gt rfl (Md.bt hf)<|Zc (xc iY (mc rfl<|mc rfl<|mc rfl mn)) (oN (x0:=x) hc3 hr3 (x1:=s) ⟨_,rfl,Flat.iff.2 rfl⟩ Eu) ?_;rintro _ w4⟨u0,rfl,ru,hx4⟩;refine nl ⟨fun _ h=>h.tr hx4,?_⟩;obtain⟨cu,rfl,hu⟩:=ru;obtain rfl:=Flat.iff.1 hu;have hus:(l.map fun u=>(#[fv u]:Array Value))[Cj.length]?=some #[fv u]:=by
     rw[List.getElem?_map,hl,List.getElem?_append_right (Nat.le_refl _),Nat.sub_self]
     rfl
    have hz:=hY Cj.length #[fv u] w4 hus (hJ _ _ _ hjd3 hx4);obtain⟨fn,tmps,assign,body,hy,hR⟩:=hz;refine uN rfl rfl rfl rfl rfl rfl (Md.bt hf) rfl (by decide) (iw rfl (mc rfl mn) hy) hR fun e w5 he=>?_;rcases he with⟨rfl,hj5,k5⟩|⟨rfl,hj5⟩
    ·refine⟨_,rfl,?_⟩
     refine F7 rfl rfl rfl rfl rfl rfl (Md.bt hf) rfl (fun _ _=>GV rfl) (.inl rfl)<|Mh rfl rfl rfl (fun _ _=>GD rfl hf rfl) (.inl rfl)<|cnd rfl (fun h=>by cases h) (fun _=>?_);refine wp_skip<|rg<|Zv (Aw l25 rfl)<|Zm<|nl<|lq n (Nat.lt_succ_self _) ⟨k+1,Cj++[u],t',by omega,Et,by rw[hl,List.append_assoc];rfl,congrArg _ hadd,l24,l0,l1,l2,l3,?_,(hx3'.ext hx4 (Nat.le_trans hNw kd3.size)).trans k5⟩;rw[List.length_append];exact hj5
    ·refine⟨_,rfl,?_⟩
     refine F7 rfl rfl rfl rfl rfl rfl (Md.bt hf) rfl (fun _ _=>GV rfl) (.inl rfl)<|Mh rfl rfl rfl (fun _ _=>GD rfl hf rfl) (.inl rfl)<|cnd rfl (fun _=>?_) (fun h=>by cases h);exact wp_ret<|rt rfl .nil (.inr hj5)
   ·have Ef:=Ai Ef hs2
    have hz:=Md.bs Ef;obtain⟨r,Er,Ef⟩:=hz;have hz:=Md.bs Ef;obtain⟨y,Ey,Ef⟩:=hz;obtain rfl:decide (y=1)=f:=by cases Ef;rfl
    have hz:=Dx Td.fits Er;obtain⟨j1,j2,hc1⟩:=hz;have hz:=Dx (X:=r) hc1 Ey;obtain⟨j3,j4,hc2⟩:=hz;refine F7 rfl rfl rfl rfl rfl rfl (Md.bf hs2) rfl (fun _ hS=>AR l2 Em ((Bx.cs (dt.ext (hS.resolve_left nofun))).at 0 rfl)) (.inr hx3)<|F7 rfl rfl rfl rfl rfl rfl (Md.bf hs2) rfl (fun _ _=>AX l1 Kl) (.inl rfl)<|F7 rfl rfl rfl rfl rfl rfl (Md.bf hs2) rfl (fun _ hS=>AR rfl Aa ((Bx.cs (ds.ext (hS.resolve_left nofun))).at 1 rfl)) (.inr hx3)<|F7 rfl rfl rfl rfl rfl rfl (Md.bf hs2) rfl (fun _ _=>Cv) (.inl rfl)<|F7 rfl rfl rfl rfl rfl rfl (Md.bf hs2) rfl (fun _ _=>Bc rfl) (.inl rfl)<|F7 rfl rfl rfl rfl rfl rfl (Md.bf hs2) rfl (fun _ _=>AX rfl Pz) (.inl rfl)<|F7 rfl rfl rfl rfl rfl rfl (Md.bf hs2) rfl (fun _ _=>C9 rfl rfl Tryz.underlying196 Py j1 j2) (.inl rfl)<|F7 rfl rfl rfl rfl rfl rfl (Md.bf hs2) rfl (fun _ _=>C9 rfl rfl Tryz.underlying195 Aa j3 j4) (.inl rfl)<|F7 rfl rfl rfl rfl rfl rfl (Md.bf hs2) rfl (fun _ hS=>AR rfl Aa ((hc2.ext (hS.resolve_left nofun)).at 0 rfl)) (.inr hx3)<|F7 rfl rfl rfl rfl rfl rfl (Md.bf hs2) rfl (fun _ _=>FE rfl rfl) (.inl rfl)<|F7 rfl rfl rfl rfl rfl rfl (Md.bt hf0) rfl (fun _ _=>H8 rfl hs2 rfl) (.inl rfl)<|Mh rfl rfl rfl (fun _ _=>GD rfl hf0 rfl) (.inl rfl)<|Mh rfl rfl rfl (fun _ _=>Cv) (.inl rfl)<|Or.elim (Bool.eq_false_or_eq_true (decide (y=1))) (fun hf=>?_) (fun hf=>?_)
    ·skip
     have hB:=Ah hB hf;refine bS hB fun u Eu hB=>?_;cases hB;have hz:=Td3.cs;obtain⟨cs3,hc3,hr3⟩:=hz;refine F7 rfl rfl rfl rfl rfl rfl (Md.bt hf) rfl (fun _ _=>Aq l0) (.inl rfl)<|F7 rfl rfl rfl rfl rfl rfl (Md.bt hf) rfl (fun _ hS=>AR l2 Em ((Bx.cs (dt.ext (hS.resolve_left nofun))).at 0 rfl)) (.inr hx3)<|F7 rfl rfl rfl rfl rfl rfl (Md.bt hf) rfl (fun _ hS=>Ad l1 Cz rfl (Bx.cs (ds.ext (hS.resolve_left nofun)))) (.inr hx3)<|F7 rfl rfl rfl rfl rfl rfl (Md.bt hf) rfl (fun _ _=>Cv) (.inl rfl)<|YN rfl<|Gt rfl (Md.bt hf)<|Zc (xc iY (mc rfl<|mc rfl<|mc rfl mn)) (oN (x0:=x) hc3 hr3 (x1:=s) ⟨_,rfl,Flat.iff.2 rfl⟩ Eu) ?_;rintro _ w4⟨u0,rfl,ru,hx4⟩;refine nl ⟨fun _ h=>h.tr hx4,?_⟩;obtain⟨cu,rfl,hu⟩:=ru;obtain rfl:=Flat.iff.1 hu;have hus:(l.map fun u=>(#[fv u]:Array Value))[Cj.length]?=some #[fv u]:=by
      rw[List.getElem?_map,hl,List.getElem?_append_right (Nat.le_refl _),Nat.sub_self]
      rfl
     have hz:=hY Cj.length #[fv u] w4 hus (hJ _ _ _ hjd3 hx4);obtain⟨fn,tmps,assign,body,hy,hR⟩:=hz;refine uN rfl rfl rfl rfl rfl rfl (Md.bt hf) rfl (by decide) (iw rfl (mc rfl mn) hy) hR fun e w5 he=>?_;rcases he with⟨rfl,hj5,k5⟩|⟨rfl,hj5⟩
     ·refine⟨_,rfl,?_⟩
      refine F7 rfl rfl rfl rfl rfl rfl (Md.bt hf) rfl (fun _ _=>GV rfl) (.inl rfl)<|Mh rfl rfl rfl (fun _ _=>GD rfl hf rfl) (.inl rfl)<|cnd rfl (fun h=>by cases h) (fun _=>?_);refine wp_skip<|rg<|Zv (Aw l25 rfl)<|Zm<|nl<|lq n (Nat.lt_succ_self _) ⟨k+1,Cj++[u],t',by omega,Et,by rw[hl,List.append_assoc];rfl,congrArg _ hadd,l24,l0,l1,l2,l3,?_,(hx3'.ext hx4 (Nat.le_trans hNw kd3.size)).trans k5⟩;rw[List.length_append];exact hj5
     ·refine⟨_,rfl,?_⟩
      refine F7 rfl rfl rfl rfl rfl rfl (Md.bt hf) rfl (fun _ _=>GV rfl) (.inl rfl)<|Mh rfl rfl rfl (fun _ _=>GD rfl hf rfl) (.inl rfl)<|cnd rfl (fun _=>?_) (fun h=>by cases h);exact wp_ret<|rt rfl .nil (.inr hj5)
    ·refine EC rfl rfl rfl rfl rfl rfl (Ae hf) rfl (.inl rfl)<|EC rfl rfl rfl rfl rfl rfl (Ae hf) rfl (.inr hx3)<|EC rfl rfl rfl rfl rfl rfl (Ae hf) rfl (.inr hx3)<|EC rfl rfl rfl rfl rfl rfl (Ae hf) rfl (.inl rfl)<|?_
     refine YO rfl rfl rfl rfl rfl rfl (Ae hf) rfl<|YO rfl rfl rfl rfl rfl rfl (Ae hf) rfl<|EC rfl rfl rfl rfl rfl rfl (Ae hf) rfl (.inl rfl)<|Mh rfl rfl rfl (fun _ _=>H8 rfl hf rfl) (.inl rfl)<|cnd rfl (fun h=>by cases h) (fun _=>?_);refine wp_skip<|rg<|Zv (Aw l25 rfl)<|Zm<|nl<|lq n (Nat.lt_succ_self _) (skip_ _ hf l24 l0 l1 l2 l3)
  ·have Ef:=Ai Ef hf0
   obtain rfl:false=f:=by cases Ef;rfl
   refine EC rfl rfl rfl rfl rfl rfl (Ae hf0) rfl (.inl rfl)<|EC rfl rfl rfl rfl rfl rfl (Ae hf0) rfl (.inr hx3)<|EC rfl rfl rfl rfl rfl rfl (Ae hf0) rfl (.inl rfl)<|EC rfl rfl rfl rfl rfl rfl (Ae hf0) rfl (.inl rfl)<|EC rfl rfl rfl rfl rfl rfl Md.bu rfl (.inr hx3)<|EC rfl rfl rfl rfl rfl rfl Md.bu rfl (.inl rfl)<|EC rfl rfl rfl rfl rfl rfl Md.bu rfl (.inr hx3)<|EC rfl rfl rfl rfl rfl rfl Md.bu rfl (.inl rfl)<|EC rfl rfl rfl rfl rfl rfl Md.bu rfl (.inl rfl)<|EC rfl rfl rfl rfl rfl rfl Md.bu rfl (.inl rfl)<|EC rfl rfl rfl rfl rfl rfl Md.bu rfl (.inl rfl)<|EC rfl rfl rfl rfl rfl rfl Md.bu rfl (.inl rfl)<|EC rfl rfl rfl rfl rfl rfl Md.bu rfl (.inr hx3)<|EC rfl rfl rfl rfl rfl rfl Md.bu rfl (.inl rfl)<|EC rfl rfl rfl rfl rfl rfl (Ae hf0) rfl (.inl rfl)<|Mh rfl rfl rfl (fun _ _=>H8 rfl hf0 rfl) (.inl rfl)<|Mh rfl rfl rfl (fun _ _=>Cv) (.inl rfl)<|EC rfl rfl rfl rfl rfl rfl (Ae rfl) rfl (.inl rfl)<|EC rfl rfl rfl rfl rfl rfl (Ae rfl) rfl (.inr hx3)<|EC rfl rfl rfl rfl rfl rfl (Ae rfl) rfl (.inr hx3)<|EC rfl rfl rfl rfl rfl rfl (Ae rfl) rfl (.inl rfl)<|YO rfl rfl rfl rfl rfl rfl (Ae rfl) rfl<|YO rfl rfl rfl rfl rfl rfl (Ae rfl) rfl<|EC rfl rfl rfl rfl rfl rfl (Ae rfl) rfl (.inl rfl)<|Mh rfl rfl rfl (fun _ _=>H8 rfl rfl rfl) (.inl rfl)<|cnd rfl (fun h=>by cases h) (fun _=>?_);refine wp_skip<|rg<|Zv (Aw l25 rfl)<|Zm<|nl<|lq n (Nat.lt_succ_self _) (skip_ _ rfl l24 l0 l1 l2 l3)
 ·have hc0:¬(k:Int)<(x.2.1.length:Int):=by simpa using hc0
  obtain rfl:m'=0:=by omega
  rw[Iu]at hB;cases hB;refine wp_exit<|uF rfl .nil (.inl ?_);rw[List.length_map,hl,List.append_nil];exact hj
end
def BhV(lo:Nat)(w:World)(v:Value)(s:Az)(b:Nat):Prop:=∃bs bt bf,v=.func (.func 310) #[] #[.pointer (some ⟨bs,0,none⟩),.pointer (some ⟨bt,0,none⟩),.pointer (some ⟨bf,0,none⟩)]/\
 Bx w bs 326 (Flat.enc s)/\Bx w bt 177 [.pointer (some ⟨b,0,none⟩)]/\Bx w bf 236 [.func (.func 309) #[] #[.pointer (some ⟨bs,0,none⟩),.pointer (some ⟨bt,0,none⟩)]]/\lo<=bs/\lo<=bt/\lo<=bf
theorem BhV.go{lo:Nat}{w:World}{v:Value}{s:Az}{b ma mu N:Nat}{ok:Nat->Prop}{x:BV}{l:List Az}(h:BhV lo w v s b)(hT:Tb N w b ma mu x)(hok:∀q,q<N->q≠ma->q≠mu->ok q)(hlo:∀q,lo<=q->ok q)(hL:GR x s=some l)(m:Nat):
  ∃gf cs,v=.func (.func gf) #[] cs/\AU Tryz.prog gf/\K3 Tryz.prog (BelP ok w.heap.size) m gf cs (l.map fun u=>#[fv u]) w:=by
 obtain⟨bs,bt,bf,rfl,h1,h2,h3,h4,h5,h6⟩:=h;exact⟨310,_,rfl,rT,oO h1 h2 h3 (hlo _ h4) (hlo _ h5) (hlo _ h6) hT hok hL⟩
theorem gP{w0:World}{b:Nat}{s:Az}:Calls Tryz.prog 229 [.pointer (some ⟨b,0,none⟩),fv s].toArray w0 (BN fun v w'=>BhV w0.heap.size w' v s b/\Ext w0 w'):=by
 refine BK (n:=8) Tryz.func229 rfl rfl rfl<|Zr<|Cw rfl rfl fun bt w1 hx1 hg1 hb1=>Cw rfl (Jh s) fun bs w2 hx2 hg2 hb2=>Za<|nl<|Zr<|Zv (Uy (l:=[]) (k:=[.pointer (some ⟨bs,0,none⟩),.pointer (some ⟨bt,0,none⟩)]) rfl rfl)<|D5 X3 fun bf w3 hx3 hg3 hb3=>D8 rfl rfl rfl X3 hb3 rfl rfl (ble rfl) fun w4 hch4 hb4=>?_;have s1:=hx1.size;have s2:=hx2.size;have s3:=hx3.size;have k3:Ext w0 w4:=((hx1.tr hx2).tr hx3).chg hch4 (by omega);have l1:=hb1.lt;have l2:=hb2.lt;refine nl<|Zr<|Zv (Uy (l:=[]) (k:=[.pointer (some ⟨bs,0,none⟩),.pointer (some ⟨bt,0,none⟩),.pointer (some ⟨bf,0,none⟩)]) rfl rfl)<|Za<|nl<|wp_ret<|Zw rfl rfl rfl ⟨⟨bs,bt,bf,rfl,?_,?_,?_,by omega,hg1,by omega⟩,k3⟩
 ·exact(hb2.ext hx3).chg hch4 (by omega)
 ·exact((hb1.ext hx2).ext hx3).chg hch4 (by omega)
 ·exact hb4
abbrev Ba:=List (Az×Int)
def Ll(f:Ba->Az->Option (Int×Ba)):List Az->Int->Ba->Option (Int×Ba)
 |[],n,A=>some (n,A)
 |u::l,n,A=>(f A u)>>=fun q=>Ll f l (AZ (n+q.1)) q.2
def Ch(x:BV):Nat->Ba->Az->Option (Int×Ba)
 |0,_,_=>none
 |m+1,A,s=>
  (shl .i64 1 (x.1.1.length:Int))>>=fun p=>
  if decide (s.1=AZ (p-1))=true then some (1,A)
  else
   (L6 s)>>=fun _=>
   if IY A s=true then some (A8 0 A s,A)
   else(GR x s)>>=fun l=>(Ll (fun A u=>Ch x m A u) l 0 A)>>=fun r=>some (r.1,BM r.2 s r.1)
theorem bG(w:World):(zeroValue 2).run Tryz.prog w=.ok (fv (0:Int)) w:=TI.zv (α:=Int) (d:=0) CX rfl rfl w
set_option maxHeartbeats 8000000 in
theorem gQ{x:BV}:∀(m:Nat){w0:World}{b ma mu N:Nat}{A:Ba}{s:Az}{r:Int×Ba},Tb N w0 b ma mu x->Mp w0 ma A->Ch x m A s=some r->
  Calls Tryz.prog 226 [.pointer (some ⟨b,0,none⟩),fv s].toArray w0 (BN fun v w'=>v=.int .i64 r.1/\Mp w' ma r.2/\BelP (fun q=>q≠ma) w0.heap.size w0 w'):=by
 intro m
 induction m with
 |zero=>intro w0 b ma mu N A s r _ _ hF;rw[Ch]at hF;cases hF
 |succ m ih=>
  intro w0 b ma mu N A s r hT0 hm0 hF;rw[Ch]at hF;refine bS hF fun p Ep hF=>Ud (m:=9) (n:=47) Tryz.func226 rfl rfl rfl<|Zr<|Cw rfl rfl fun bt w1 hx1 hg1 hb1=>Cw rfl (Jh s) fun bs w2 hx2 hg2 hb2=>?_;have k2:=hx1.tr hx2;have T2:=hT0.ext k2;have hm2:=hm0.ext k2;have hb1:=hb1.ext hx2;have z1:=hx1.size;have z2:=hx2.size;have l1:=hb1.lt;have l2:=hb2.lt;have la:=hm0.lt;have hz:=T2.pieces;obtain⟨a1,c1,h4,hs4⟩:=hz;refine Za<|nl<|wp_seq<|wp_seq<|Ff [] (.pure true 0 (.pure false 1 (.pure false 2 (.pure true 3 (.pure true 4 (.pure true 5 (.pure false 6 (.pure true 7 (.pure true 8 (.pure true 9 (.pure true 10 .fin))))))))))) mixed (by kernel_rfl) (fun wd hxd=>?_);have k3:=k2.tr hxd;have ds:=hb2.ext hxd;have dt:=hb1.ext hxd;refine Zp rfl (fun _=>AX rfl P5)<|Zq rfl (fun _ hS=>AR rfl Aa ((Bx.cs (ds.ext (hS.resolve_left nofun))).at 0 rfl)) (Ext.refl _)<|Zq rfl (fun _ hS=>AR rfl Em ((Bx.cs (dt.ext (hS.resolve_left nofun))).at 0 rfl)) (Ext.refl _)<|Zp rfl (fun _=>Bc rfl)<|Zp rfl (fun _=>AX rfl Kk)<|Zp rfl (fun _=>AX rfl Fg)<|Zq rfl (fun _ hS=>AR rfl I6 (HZ (HZ h4 hxd) (hS.resolve_left nofun))) (Ext.refl _)<|Zp rfl (fun _=>Ao rfl Tryz.underlying46)<|Zp rfl (fun _=>U5 rfl rfl Ep)<|Zp rfl (fun _=>IV rfl rfl)<|Zp rfl (fun _=>FE rfl rfl)<|cnd rfl (fun hc=>?_) (fun hc=>?_)
  ·have hF:=Ah hF hc
   cases hF;refine Zr<|Za<|nl<|wp_ret<|Qc (B:=w0.heap.size) rfl Mks.nil fun w' hk=>⟨_,.tmp rfl rfl .nil,rfl,?_,?_⟩
   ·exact(hm2.ext hxd).tak hk
   ·exact(BelP.of k3 (Nat.le_refl _)).tak hk (Nat.le_refl _)
  have hF:=Ai hF hc;refine bS hF fun _ Ek hF=>?_;have hkey:=Ji Ek;have hm3:=hm2.ext hxd;have T3:=T2.ext hxd;refine wp_skip<|wp_seq<|wp_seq<|Ff [] (.pure false 0 (.pure true 1 (.pure true 2 (.pure false 3 (.pure false 4 (.pure false 5 (.pure true 6 (.pure true 7 (.pure true 8 (.pure true 9 (.pure true 10 .fin))))))))))) mixed (by kernel_rfl) (fun we hxe=>?_);have es:=ds.ext hxe;have et:=dt.ext hxe;have Te:=T3.ext hxe;have hme:=hm3.ext hxe;have k4:=k3.tr hxe;refine Zq rfl (fun _ hS=>AR rfl Em ((Bx.cs (et.ext (hS.resolve_left nofun))).at 0 rfl)) (Ext.refl _)<|Zp rfl (fun _=>Bc rfl)<|Zp rfl (fun _=>AX rfl XI)<|Zq rfl (fun _ hS=>AR rfl UY (HZ Te.ca (hS.resolve_left nofun))) (Ext.refl _)<|Zq rfl (fun _ hS=>Ad rfl Cz (Flat.len s) (Bx.cs (es.ext (hS.resolve_left nofun)))) (Ext.refl _)<|Zq rfl (fun _ hS=>YH (d:=(0:Int)) Tryz.underlying197 Ue (bG _) (hme.ext (hS.resolve_left nofun)) hkey rfl rfl) (Ext.refl _)<|Zn rfl<|Zp rfl (fun _=>Cq (vs:=[fv (A8 0 A s),.bool (IY A s)]) rfl rfl)<|Zp rfl (fun _=>Cq (vs:=[fv (A8 0 A s),.bool (IY A s)]) rfl rfl)<|Zp rfl (fun _=>GU)<|Zp rfl (fun _=>GU)<|Zr<|Zm<|nl<|cnd rfl (fun hh=>?_) (fun hh=>?_)
  ·have hF:=Ah hF hh
   cases hF;refine Zr<|Zm<|Za<|nl<|wp_ret<|Qc (B:=w0.heap.size) rfl Mks.nil fun w' hk=>⟨_,.tmp rfl rfl .nil,rfl,?_,?_⟩
   ·exact hme.tak hk
   ·exact(BelP.of k4 (Nat.le_refl _)).tak hk (Nat.le_refl _)
  have hF:=Ai hF hh;refine bS hF fun l El hF=>?_;have hz:=Md.bs hF;obtain⟨r',Er,hF⟩:=hz;cases hF;refine wp_skip<|Zr<|D5 CX fun b7 w4 hx4 hg4 hb4=>D8 rfl rfl rfl CX hb4 rfl rfl (ble rfl) fun w5 hch5 hb5=>?_;have kx5:Ext we w5:=hx4.chg hch5 hg4;have k5:=k4.tr kx5;have T5:=Te.ext kx5;have hm5:=hme.ext kx5;have fs:=es.ext kx5;have ft:=et.ext kx5;have h7:Bx w5 b7 2 [.int .i64 0]:=hb5;refine nl<|wp_seq<|Zr<|Zv (AR rfl Em ((Bx.cs ft).at 0 rfl))<|Zv (Ad rfl Cz (Flat.len s) (Bx.cs fs))<|Zc (xc YA (mc rfl<|mc rfl mn)) (gP (b:=b) (s:=s)) fun v w6 hv=>?_;obtain⟨hbh,hx6⟩:=hv;have k6:=k5.tr hx6;have T6:=T5.ext hx6;have hm6:=hm5.ext hx6;have gs:=fs.ext hx6;have gt:=ft.ext hx6;have g7:=h7.ext hx6;have y4:=k4.size;have y5:=hx4.size;have y6:=hx6.size;have z5:=k5.size;have z7:=h7.lt;have zt:=dt.lt;have zs:=ds.lt;have ye:=hxe.size;have yd:=hxd.size;have hma6:ma<w6.heap.size:=by have:=hm6.lt;exact this
  have hNs:=hT0.size;have hn7:b7≠ma:=fun e=>(hm5.not_cells h7) e.symm;have hnt:bt≠ma:=fun e=>(hm6.not_cells gt) e.symm;have hb7w0:w0.heap.size<=b7:=by omega
  have hseq:=hbh.go (N:=N) (ok:=fun q=>q≠ma/\q≠b7) T6 (fun q h1 h2 h3=>⟨h2,by omega⟩) (fun q h1=>⟨by omega,by omega⟩) El 8;refine nl<|wp_block<|rangeB (α:=Az) (xs:=l) (m:=9) (by decide) rfl KpOk.belp hseq rfl rfl rfl Cz rfl
   (fun k W=>∃(n:Int)(A':Ba),Ll (fun A u=>Ch x m A u) (l.drop k) n A'=some r'/\Bx W b7 2 [.int .i64 n]/\Mp W ma A'/\BelP (fun q=>q≠ma/\q≠b7) w6.heap.size w6 W/\w6.heap.size<=W.heap.size)
   (fun _ _=>False) (fun k=>Okb.ex fun _=>Okb.ex fun _=>Okb.pure.and (Okb.bx.and ((Okb.mp hma6).and ((Okb.belp (Nat.le_refl _) (Nat.le_refl _)).and Okb.size)))) (fun _=>Okb.pure) ⟨0,A,Er,g7,hm6,BelP.refl,Nat.le_refl _⟩ ?round (fun k W h=>by obtain⟨_,_,_,_,_,_,h⟩:=h;exact h) ?done (fun _ _ _ _ h _=>h.elim)
  case round=>
   rintro ll k u A1 W b8 hu⟨n,A',hB,i1,i2,i3,i4⟩ hA hg8 hg8' hb8;rw[MX hu,Ll]at hB;refine bS hB fun q Eq hB=>?_;have i1:=i1.asg hA;have i2:=i2.asg hA hma6;have i3:=i3.asg hA i4 (Nat.le_refl _);have hW:w6.heap.size<=W.heap.size:=i3.size;refine wpIn_block<|Ug (fun wd w'=>BelP (fun q=>q≠ma) wd.heap.size wd w') [5] (.pure false 0 (.pure false 1 (.pure false 2 (.eff 3 (.pure true 4 (.eff 5 .fin .stop)) .stop)))) mixed (by kernel_rfl) (fun wg hxg=>?_);have j7:=i1.ext hxg;have j8:=hb8.ext hxg;have i3g:=i3.ext hxg hW;have jt:=gt.belp i3g gt.lt ⟨hnt,by omega⟩;have jm:=i2.ext hxg;have Tg:=T6.belp i3g T6.size (fun q h1 h2 h3=>⟨h2,by omega⟩);have hn8:b8≠ma:=by omega
   refine Zq rfl (fun _ hS=>AR rfl CX ((Bx.cs (j7.belp (hS.resolve_left nofun) j7.lt hn7)).at 0 rfl)) BelP.refl<|Zq rfl (fun _ hS=>AR rfl Em ((Bx.cs (jt.belp (hS.resolve_left nofun) jt.lt hnt)).at 0 rfl)) BelP.refl<|Zq rfl (fun _ hS=>Ad rfl Cz (Flat.len u) (Bx.cs (j8.belp (hS.resolve_left nofun) j8.lt hn8))) BelP.refl<|Br rfl<|Zc (xc Ub (mc rfl<|mc rfl mn)) (ih Tg jm Eq) ?_;rintro _ w7⟨rfl,hm7,hp7⟩;have j77:=j7.belp hp7 j7.lt hn7;refine nl ⟨fun _ h=>h.trans hp7,?_⟩;refine Zp rfl (fun _=>Aw rfl rfl)<|Br rfl<|D8 rfl rfl rfl CX j77 rfl rfl (ble rfl) fun w8 hch8 hb8'=>nl ⟨fun h=>(h (by decide)).elim,?_⟩;have hg:=hxg.size;have e1:BelP (fun q=>q≠ma/\q≠b7) w6.heap.size W w8:=((BelP.of hxg hW).trans (hp7.weak fun q h1 h2=>⟨by omega,h2.1⟩)).chg hch8 (.inr fun h=>h.2 rfl);refine⟨((hxg.kf).trans (hp7.kf fun q h1=>by omega)).chgc hch8 (.inl (by omega)),e1,_,q.2,hB,hb8',hm7.chgb hch8 j77,i3.trans e1,?_⟩;rw[hch8.size];exact Nat.le_trans hW (Nat.le_trans hg hp7.size)
  case done=>
   rintro D' W hD⟨n,A',hB,i1,i2,i3,i4⟩ hK;rw[List.drop_length,Ll]at hB;cases hB;have hs7:=gs.belp i3 gs.lt ⟨fun e=>(hm6.not_cells gs) e.symm,by omega⟩;have ht7:=gt.belp i3 gt.lt ⟨hnt,by omega⟩;have T7:=T6.belp i3 T6.size (fun q h1 h2 h3=>⟨h2,by omega⟩);refine wp_seq<|Ff [6] (.pure false 0 (.pure true 1 (.pure true 2 (.pure false 3 (.pure false 4 (.pure false 5 (.eff 6 .fin .stop))))))) mixed (by kernel_rfl) (fun wf hxf=>?_);have ks:=hs7.ext hxf;have kt:=ht7.ext hxf;have k7:=i1.ext hxf;have Tf:=T7.ext hxf;have hmf:=i2.ext hxf;refine Zq rfl (fun _ hS=>AR rfl Em ((Bx.cs (kt.ext (hS.resolve_left nofun))).at 0 rfl)) (Ext.refl _)<|Zp rfl (fun _=>Bc rfl)<|Zp rfl (fun _=>AX rfl XI)<|Zq rfl (fun _ hS=>AR rfl UY (HZ Tf.ca (hS.resolve_left nofun))) (Ext.refl _)<|Zq rfl (fun _ hS=>Ad rfl Cz (Flat.len s) (Bx.cs (ks.ext (hS.resolve_left nofun)))) (Ext.refl _)<|Zq rfl (fun _ hS=>AR rfl CX ((Bx.cs (k7.ext (hS.resolve_left nofun))).at 0 rfl)) (Ext.refl _)<|Br rfl<|U0 (k:=s) (v:=n) rfl rfl rfl Tryz.underlying197 Ue hmf hkey fun w8 hch8 hm8=>nl ⟨fun h=>(h (by decide)).elim,?_⟩;have k8:=k7.chg hch8 hn7;refine Zr<|Zv (AR rfl CX ((Bx.cs k8).at 0 rfl))<|Za<|nl<|?_;have M:Mks w0.heap.size ({target:=.collected D',args:=#[]}::[]) w8:=by
    have h1:Mks w0.heap.size ({target:=.collected D',args:=#[]}::[]) W:=Mks.cons (w:=w6) Mks.nil Mks.nil (by omega) hD hK;exact(h1.ext hxf).chg hch8 hmf.nd
   refine wp_ret<|Qc rfl M fun w' hk=>⟨_,.tmp rfl rfl .nil,rfl,hm8.tak hk,?_⟩;exact((((BelP.of k6 (Nat.le_refl _)).trans (i3.weak fun q h1 h2=>⟨by omega,h2,by omega⟩)).ext hxf (by omega)).chg hch8 (.inr fun h=>h rfl)).tak hk (Nat.le_refl _)
theorem gT{x:BV}{m:Nat}{w0:World}{b ma mu N:Nat}{A:Ba}{r:Int×Ba}(hT:Tb N w0 b ma mu x)(hm:Mp w0 ma A)(hF:Ch x m A (0,-1)=some r):
  Calls Tryz.prog 117 [.pointer (some ⟨b,0,none⟩)].toArray w0 (BN fun v w'=>v=.int .i64 r.1/\Mp w' ma r.2/\BelP (fun q=>q≠ma) w0.heap.size w0 w'):=by
 refine BK (n:=6) Tryz.func117 rfl rfl rfl<|Zr<|Za<|nl<|Zr<|Zm<|Zv (IW (r:=[.int .i64 0,.int .i64 (-1)]) Cz Qv (pc rfl pn) rfl)<|Zc (xc Ub (mc rfl<|mc rfl mn)) (gQ m hT hm hF) ?_;rintro _ w1⟨rfl,h1,h2⟩;refine Za<|nl<|wp_ret<|Zw rfl rfl rfl ⟨rfl,h1,h2⟩
def Jq(x:BV)(f:Ba->Az->Option (Int×Ba))(old last:Int):Nat->Nat->Int->Ba->Option (Int×Ba)
 |0,_,n,U=>some (n,U)
 |m+1,k,n,U=>
  (ix x.2.1 (k:Int))>>=fun st=>(shr .i64 old st.1)>>=fun y=>
  if decide (band .i64 y 1=1)=true then
   (ix x.2.2.1.l (k:Int))>>=fun r=>(ix r.l last)>>=fun z=>
   if decide (z=1)=true then(f U (old,(k:Int)))>>=fun q=>Jq x f old last m (k+1) (AZ (n+q.1)) q.2
   else Jq x f old last m (k+1) n U
  else Jq x f old last m (k+1) n U
def Gz(x:BV):Nat->Ba->Az->Option (Int×Ba)
 |0,_,_=>none
 |m+1,U,s=>
  (ix x.2.1 s.2)>>=fun st=>(shl .i64 1 st.1)>>=fun p=>
  if decide (NM .i64 s.1 p=0)=true then some (1,U)
  else
   (L6 s)>>=fun _=>
   if IY U s=true then some (A8 0 U s,U)
   else(Jq x (fun U u=>Gz x m U u) (NM .i64 s.1 p) s.2 x.2.1.length 0 0 U)>>=fun r=>some (r.1,BM r.2 s r.1)
set_option maxHeartbeats 8000000 in
theorem xq{x:BV}:∀(m:Nat){w0:World}{b ma mu N:Nat}{U:Ba}{s:Az}{r:Int×Ba},Tb N w0 b ma mu x->Mp w0 mu U->Gz x m U s=some r->
  Calls Tryz.prog 228 [.pointer (some ⟨b,0,none⟩),fv s].toArray w0 (BN fun v w'=>v=.int .i64 r.1/\Mp w' mu r.2/\BelP (fun q=>q≠mu) w0.heap.size w0 w'):=by
 intro m
 induction m with
 |zero=>intro w0 b ma mu N U s r _ _ hF;rw[Gz]at hF;cases hF
 |succ m ih=>
  intro w0 b ma mu N U s r hT0 hm0 hF;rw[Gz]at hF;refine bS hF fun st Es hF=>bS hF fun p Ep hF=>BK (n:=80) Tryz.func228 rfl rfl rfl<|Zr<|Cw rfl (Jh s) fun bs w1 hx1 hg1 hb1=>Za<|nl<|wp_seq<|Ff [] (.pure true 0 (.pure false 1 (.pure true 2 (.pure true 3 (.pure true 4 (.pure false 5 (.pure true 6 (.pure false 7 (.pure true 8 (.pure true 9 (.pure false 10 (.pure true 11 (.pure true 12 (.pure true 13 .fin)))))))))))))) mixed (by kernel_rfl) (fun wd hxd=>?_);have k3:=hx1.tr hxd;have T3:=hT0.ext k3;have hm3:=hm0.ext k3;have ds:=hb1.ext hxd;have hz:=T3.steps;obtain⟨a1,c1,h4,hs4⟩:=hz;have hz:=(RVo.sl.1 hs4);obtain⟨a1',c1',e3,_,hcap,els⟩:=hz;cases e3;have hz:=Els.ix els Es;obtain⟨b5,off5,cs5,rfl,i1,i2,q5,hc5⟩:=hz;obtain rfl:=Flat.iff.1 q5;refine Zp rfl (fun _=>AX rfl P5)<|Zq rfl (fun _ hS=>AR rfl Aa ((Bx.cs (ds.ext (hS.resolve_left nofun))).at 0 rfl)) (Ext.refl _)<|Zn rfl<|Zp rfl (fun _=>Bc rfl)<|Zp rfl (fun _=>AX rfl FO)<|Zq rfl (fun _ hS=>AR rfl Jf (HZ h4 (hS.resolve_left nofun))) (Ext.refl _)<|Zp rfl (fun _=>AX rfl Kl)<|Zq rfl (fun _ hS=>AR rfl Aa ((Bx.cs (ds.ext (hS.resolve_left nofun))).at 1 rfl)) (Ext.refl _)<|Zp rfl (fun _=>Al rfl rfl Tryz.underlying51 BU i1 i2)<|Zp rfl (fun _=>AX rfl Fh)<|Zq rfl (fun _ hS=>AR rfl Aa ((hc5.ext (hS.resolve_left nofun)).at 0 rfl)) (Ext.refl _)<|Zp rfl (fun _=>U5 rfl rfl Ep)<|Zp rfl (fun _=>sG rfl rfl)<|Zp rfl (fun _=>GU)<|wp_seq<|Zr<|Zm<|Zv (FE rfl rfl)<|nl<|cnd rfl (fun hc=>?_) (fun hc=>?_)
  ·have hF:=Ah hF hc
   cases hF;exact Zr<|Za<|nl<|wp_ret<|Zw rfl rfl rfl ⟨rfl,hm3,BelP.of k3 (Nat.le_refl _)⟩
  have hF:=Ai hF hc;refine bS hF fun _ Ek hF=>?_;have hkey:=Ji Ek;generalize hold:NM .i64 s.1 p=old at hF hc;refine wp_skip<|wp_seq<|wp_seq<|Ff [] (.pure true 0 (.pure true 1 (.pure true 2 (.pure false 3 (.pure false 4 (.pure false 5 (.pure true 6 (.pure true 7 (.pure true 8 (.pure true 9 (.pure true 10 .fin))))))))))) mixed (by kernel_rfl) (fun we hxe=>?_);have es:=ds.ext hxe;have Te:=T3.ext hxe;have hme:=hm3.ext hxe;have k4:=k3.tr hxe;refine Zn rfl<|Zp rfl (fun _=>Bc rfl)<|Zp rfl (fun _=>AX rfl XJ)<|Zq rfl (fun _ hS=>AR rfl UY (HZ Te.cu (hS.resolve_left nofun))) (Ext.refl _)<|Zq rfl (fun _ hS=>Ad rfl Cz (Flat.len s) (Bx.cs (es.ext (hS.resolve_left nofun)))) (Ext.refl _)<|Zq rfl (fun _ hS=>YH (d:=(0:Int)) Tryz.underlying197 Ue (bG _) (hme.ext (hS.resolve_left nofun)) hkey rfl rfl) (Ext.refl _)<|Zn rfl<|Zp rfl (fun _=>Cq (vs:=[fv (A8 0 U s),.bool (IY U s)]) rfl rfl)<|Zp rfl (fun _=>Cq (vs:=[fv (A8 0 U s),.bool (IY U s)]) rfl rfl)<|Zp rfl (fun _=>GU)<|Zp rfl (fun _=>GU)<|Zr<|Zm<|nl<|cnd rfl (fun hh=>?_) (fun hh=>?_)
  ·have hF:=Ah hF hh
   cases hF;exact Zr<|Zm<|Za<|nl<|wp_ret<|Zw rfl rfl rfl ⟨rfl,hme,BelP.of k4 (Nat.le_refl _)⟩
  have hF:=Ai hF hh;have hz:=Md.bs hF;obtain⟨r',Er,hF⟩:=hz;cases hF;have h5:=HZ h4 hxe;have hl5:=hs4.ext hxe;have hnb:bs≠mu:=fun e=>(hme.not_cells es) e.symm;have z0:=k4.size;refine wp_skip<|Zr<|Za<|nl<|wp_seq<|Zr<|Zm<|Zv (Bc rfl)<|Zv (AX rfl FO)<|Zv (AR rfl Jf h5)<|Zv (Ao rfl Tryz.underlying51)<|Zm<|nl<|ct (fun L w=>L 8=.int .i64 r'.1/\L 0=.pointer (some ⟨b,0,none⟩)/\L 3=.pointer (some ⟨bs,0,none⟩)/\Mp w mu r'.2/\BelP (fun q=>q≠mu) we.heap.size we w) ?_ ?_
  ·refine wp_block<|lp (I:=fun m' L w=>∃(k:Nat)(n:Int)(U':Ba),k+m'=x.2.1.length/\Jq x (fun U u=>Gz x m U u) old s.2 m' k n U'=some r'/\L 42=.int .i64 (k:Int)/\L 41=.int .i64 (x.2.1.length:Int)/\L 40=.slice (some ⟨b5,off5,none⟩) x.2.1.length c1/\L 5=.int .i64 old/\
     L 8=.int .i64 n/\L 0=.pointer (some ⟨b,0,none⟩)/\L 3=.pointer (some ⟨bs,0,none⟩)/\Mp w mu U'/\BelP (fun q=>q≠mu) we.heap.size we w) x.2.1.length
    ⟨0,0,U,by simp,Er,rfl,rfl,rfl,rfl,rfl,rfl,rfl,hme,BelP.refl⟩ ?_
   clear Er hme;rintro m' L w1⟨k,n,U',hk,hB,l42,l41,l40,l5,l8,l0,l3,hm,hx⟩;refine Zr<|Zv (BL l42 l41)<|nl<|wp_seq<|cnd rfl (fun hc0=>?_) (fun hc0=>?_)
   ·have hc0:(k:Int)<(x.2.1.length:Int):=by simpa using hc0
    obtain⟨n',rfl⟩:∃n',m'=n'+1:=⟨m'-1,by omega⟩;rw[Jq]at hB;refine bS hB fun st1 Es1 hB=>bS hB fun y Ey hB=>?_;have hadd:AZ ((k:Int)+1)=((k+1:Nat):Int):=by
     have hmx:x.2.1.length<=maxLen:=by omega
     rw[AZ,IntWalk.i64_in _ (by unfold maxLen at hmx;omega)]
     rfl
    have sl1:RVo (fun q=>q<N/\q≠ma/\q≠mu) w1 (.slice (some ⟨b5,off5,none⟩) x.2.1.length c1) x.2.1:=hl5.keep (fun q hq h=>hx.block q h hq.2.2) hx.size;have hz:=Gd sl1.rv Es1;obtain⟨cs6,i3,i4,q6,hc6⟩:=hz;obtain rfl:=Flat.iff.1 q6;refine wp_skip<|wp_seq<|wp_block<|Zr<|Zm<|Zv (Al l40 l42 Tryz.underlying51 BU i3 i4)<|Zv (Ad rfl BU rfl hc6)<|D5 BU fun b10 w2 hx2 hg2 hb2=>Zv (Xw l42)<|D8 rfl rfl rfl BU hb2 rfl rfl (ble rfl) fun w3 hch3 hb3=>?_;have kx3:Ext w1 w3:=hx2.chg hch3 hg2;have hbx:Bx w3 b10 56 (Flat.enc st1):=hb3;refine nl<|wp_seq<|Ff [] (.pure true 0 (.pure true 1 (.pure false 2 (.pure true 3 (.pure true 4 (.pure true 5 (.pure true 6 (.pure true 7 (.pure true 8 (.pure true 9 (.pure false 10 (.pure true 11 (.pure true 12 (.pure true 13 (.pure true 14 (.pure false 15 (.pure true 16 (.pure true 17 .fin)))))))))))))))))) mixed (by kernel_rfl) (fun wg hxg=>?_);have kxg:=kx3.tr hxg;have hxg':=hx.ext kxg hx.size;have dg:=hbx.ext hxg;have sg:=es.belp hxg' es.lt hnb;have Tg:=Te.belp hxg' Te.size (fun q h1 h2 h3=>h3);have mg:=hm.ext kxg;refine Zp rfl (fun _=>Aq l5)<|Zp rfl (fun _=>AX rfl Fh)<|Zq rfl (fun _ hS=>AR rfl Aa ((Bx.cs (dg.ext (hS.resolve_left nofun))).at 0 rfl)) (Ext.refl _)<|Zp rfl (fun _=>mY rfl rfl Ey)<|Zp rfl (fun _=>eD rfl rfl)<|Zp rfl (fun _=>FE rfl rfl)<|Zn rfl<|Or.elim (Bool.eq_false_or_eq_true (decide (band .i64 y 1=1))) (fun hg=>?_) (fun hg=>?_)
    ·have hB:=Ah hB hg
     refine bS hB fun r Er hB=>bS hB fun z Ez hB=>?_;have hz:=Dx Tg.fits Er;obtain⟨j1,j2,hc1⟩:=hz;have hz:=Dx (X:=r) hc1 Ez;obtain⟨j3,j4,hc2⟩:=hz;refine Yt rfl (Md.bt hg) (fun _=>Aq l0)<|Yt rfl (Md.bt hg) (fun _=>Cv)<|Yt rfl (Md.bt hg) (fun _=>AX l3 Kl)<|Yi rfl (Md.bt hg) (fun _ hS=>AR rfl Aa ((Bx.cs (sg.ext (hS.resolve_left nofun))).at 1 rfl)) (Ext.refl _)<|Yt rfl (Md.bt hg) (fun _=>Bc rfl)<|Yt rfl (Md.bt hg) (fun _=>AX rfl Pz)<|Yt rfl (Md.bt hg) (fun _=>C9 rfl rfl Tryz.underlying196 Py j1 j2)<|Yt rfl (Md.bt hg) (fun _=>C9 rfl rfl Tryz.underlying195 Aa j3 j4)<|Yi rfl (Md.bt hg) (fun _ hS=>AR rfl Aa ((hc2.ext (hS.resolve_left nofun)).at 0 rfl)) (Ext.refl _)<|Yt rfl (Md.bt hg) (fun _=>FE rfl rfl)<|Zp rfl (fun _=>GD rfl hg rfl)<|cnd rfl (fun hf=>?_) (fun hf=>?_)
     ·have hB:=Ah hB hf
      refine bS hB fun q Eq hB=>rg<|Zv (Aq l8)<|Zv (Aq l0)<|Zv (Aq l5)<|Zm<|Zv (IW (r:=[.int .i64 old,.int .i64 (k:Int)]) Cz Qv (pc rfl (pc rfl pn)) rfl)<|Zc (xc iT (mc rfl<|mc rfl mn)) (ih Tg mg Eq) ?_;rintro _ w5⟨rfl,hm5,hp5⟩;refine Zv (Aw rfl rfl)<|Za<|nl<|rg<|Zv (Aw l42 rfl)<|Zm<|nl<|?_;have hsz:=hxg'.size;exact lq n' (Nat.lt_succ_self _) ⟨k+1,_,q.2,by omega,hB,congrArg _ hadd,l41,l40,l5,rfl,l0,l3,hm5,hxg'.trans (hp5.mono hsz)⟩
     ·have hB:=Ai hB hf
      refine wp_skip<|rg<|Zv (Aw l42 rfl)<|Zm<|nl<|lq n' (Nat.lt_succ_self _) ⟨k+1,n,U',by omega,hB,congrArg _ hadd,l41,l40,l5,l8,l0,l3,mg,hxg'⟩
    ·have hB:=Ai hB hg
     refine Yf rfl (Ae hg)<|Yf rfl (Ae hg)<|Yf rfl (Ae hg)<|Yh rfl (Ae hg) (Ext.refl _)<|Yf rfl (Ae hg)<|Yf rfl (Ae hg)<|Yf rfl (Ae hg)<|Yf rfl (Ae hg)<|Yh rfl (Ae hg) (Ext.refl _)<|Yf rfl (Ae hg)<|Zp rfl (fun _=>H8 rfl hg rfl)<|cnd rfl (fun hf=>by cases hf) (fun hf=>?_);refine wp_skip<|rg<|Zv (Aw l42 rfl)<|Zm<|nl<|lq n' (Nat.lt_succ_self _) ⟨k+1,n,U',by omega,hB,congrArg _ hadd,l41,l40,l5,l8,l0,l3,mg,hxg'⟩
   ·have hc0:¬(k:Int)<(x.2.1.length:Int):=by simpa using hc0
    obtain rfl:m'=0:=by omega
    rw[Jq]at hB;cases hB;exact wp_exit<|lf ⟨l8,l0,l3,hm,hx⟩
  rintro L w5⟨l8,l0,l3,hm,hx⟩;refine wp_seq<|Ff [6] (.pure true 0 (.pure true 1 (.pure true 2 (.pure false 3 (.pure false 4 (.pure true 5 (.eff 6 .fin .stop))))))) mixed (by kernel_rfl) (fun wf hxf=>?_);have hxf':=hx.ext hxf hx.size;have ks:=es.belp hxf' es.lt hnb;have Tf:=Te.belp hxf' Te.size (fun q h1 h2 h3=>h3);have hmf:=hm.ext hxf;refine Zp rfl (fun _=>Aq l0)<|Zp rfl (fun _=>Bc rfl)<|Zp rfl (fun _=>AX rfl XJ)<|Zq rfl (fun _ hS=>AR rfl UY (HZ Tf.cu (hS.resolve_left nofun))) (Ext.refl _)<|Zq rfl (fun _ hS=>Ad l3 Cz (Flat.len s) (Bx.cs (ks.ext (hS.resolve_left nofun)))) (Ext.refl _)<|Zp rfl (fun _=>Aq l8)<|Br rfl<|U0 (k:=s) (v:=r'.1) rfl rfl rfl Tryz.underlying197 Ue hmf hkey fun w8 hch8 hm8=>nl ⟨fun h=>(h (by decide)).elim,?_⟩;refine Zr<|Zv (Aq l8)<|Za<|nl<|wp_ret<|Zw rfl rfl rfl ⟨rfl,hm8,?_⟩;exact((BelP.of k4 (Nat.le_refl _)).trans (hxf'.mono z0)).chg hch8 (.inr fun h=>h rfl)
def JS(own step:Int):Nat->Nat->List Az
 |0,_=>[]
 |n+1,k=>if(!decide (band .i64 (k:Int) own=0))=true then((k:Int),step)::JS own step n (k+1)else JS own step n (k+1)
def JU(x:BV)(step:Int):Option (List Az):=
 (ix x.2.1 step)>>=fun st=>(shl .i64 1 st.1)>>=fun own=>(shl .i64 1 (x.1.1.length:Int))>>=fun top=>
 if decide (0<=top/\top<=1000000)=true then some (JS own step top.toNat 0)else none
set_option maxHeartbeats 8000000 in
theorem oP{m:Nat}{w:World}{bt b3 b ma mu N:Nat}{ok:Nat->Prop}{x:BV}{step:Int}{l:List Az}(ht:Bx w bt 177 [.pointer (some ⟨b,0,none⟩)])(h3:Bx w b3 3 [.int .i64 step])
  (n1:ok bt) (n2:ok b3) (hT:Tb N w b ma mu x) (hok:∀q,q<N->q≠ma->q≠mu->ok q) (hL:JU x step=some l):
  K3 Tryz.prog (BelP ok w.heap.size) m 308 #[.pointer (some ⟨bt,0,none⟩),.pointer (some ⟨b3,0,none⟩)] (l.map fun u=>#[fv u]) w:=by
 intro ll J Jx W kW hJ hJx hY h0;have KW:BelP ok w.heap.size w W:=BelP.of kW (Nat.le_refl _);have TW:=hT.ext kW;have dtW:=ht.ext kW;have d3W:=h3.ext kW;refine(callsIn_wide.2 ?_:CallsIn Fence.wide m Tryz.prog 308 ([.func (.yield ll) #[] #[],.pointer (some ⟨bt,0,none⟩),.pointer (some ⟨b3,0,none⟩)].toArray) W _);refine Calls.mono (R:=BN fun v W'=>J (l.map fun u=>#[fv u]).length W'\/Jx W') ?_ ?_
 rotate_left
 ·rintro e W'⟨v,rfl,h⟩
  exact⟨⟨v,rfl⟩,h⟩
 unfold JU at hL;refine bS hL fun st Es hL=>bS hL fun own Eo hL=>bS hL fun top Et hL=>?_;have hz:=zB hL;obtain⟨htop,hL⟩:=hz;cases hL;have htop:0<=top/\top<=1000000:=by simpa using htop
 refine BK (n:=38) Tryz.func308 rfl rfl rfl<|wp_seq<|Ff [] (.pure false 0 (.pure true 1 (.pure true 2 (.pure false 3 (.pure false 4 (.pure true 5 (.pure true 6 (.pure false 7 (.pure true 8 (.pure true 9 .fin)))))))))) mixed (by kernel_rfl) (fun wd hxd=>?_);have dt:=dtW.ext hxd;have d3:=d3W.ext hxd;have Td:=TW.ext hxd;have hz:=Td.steps;obtain⟨a1,c1,h4,hs4⟩:=hz;have hz:=(RVo.sl.1 hs4);obtain⟨a1',c1',e3,_,hcap,els⟩:=hz;cases e3;have hz:=Els.ix els Es;obtain⟨b5,off5,cs5,rfl,i1,i2,q5,hc5⟩:=hz;obtain rfl:=Flat.iff.1 q5;have hz:=Td.pieces;obtain⟨a6,c6,h6,hs6⟩:=hz;refine Zq rfl (fun _ hS=>AR rfl Em ((Bx.cs (dt.ext (hS.resolve_left nofun))).at 0 rfl)) (Ext.refl _)<|Zp rfl (fun _=>Bc rfl)<|Zp rfl (fun _=>AX rfl FO)<|Zq rfl (fun _ hS=>AR rfl Jf (HZ h4 (hS.resolve_left nofun))) (Ext.refl _)<|Zq rfl (fun _ hS=>AR rfl Aa ((Bx.cs (d3.ext (hS.resolve_left nofun))).at 0 rfl)) (Ext.refl _)<|Zp rfl (fun _=>Al rfl rfl Tryz.underlying51 BU i1 i2)<|Zp rfl (fun _=>AX rfl Fh)<|Zq rfl (fun _ hS=>AR rfl Aa ((hc5.ext (hS.resolve_left nofun)).at 0 rfl)) (Ext.refl _)<|Zp rfl (fun _=>U5 rfl rfl Eo)<|Zp rfl (fun _=>GU)<|Zr<|Zv (AR rfl Em ((Bx.cs dt).at 0 rfl))<|Zv (Bc rfl)<|Zv (AX rfl Kk)<|Zv (AX rfl Fg)<|Zv (AR rfl I6 h6)<|Zv (Ao rfl Tryz.underlying46)<|Zv (U5 rfl rfl Et)<|Zm<|nl<|?_;have hjd:J 0 wd:=hJ 0 _ _ h0 hxd;have Kd:BelP ok w.heap.size w wd:=BelP.of (kW.tr hxd) (Nat.le_refl _);refine wp_block<|lp (I:=fun m' L w1=>∃(k:Nat)(Cj:List Az),k+m'=top.toNat/\JS own step top.toNat 0=Cj++JS own step m' k/\L 22=.int .i64 (k:Int)/\L 21=.int .i64 top/\L 4=.int .i64 own/\L 0=.func (.yield ll) #[] #[]/\L 1=.pointer (some ⟨bt,0,none⟩)/\L 2=.pointer (some ⟨b3,0,none⟩)/\J Cj.length w1/\BelP ok w.heap.size w w1) top.toNat
  ⟨0,[],by simp,rfl,rfl,rfl,rfl,rfl,rfl,rfl,hjd,Kd⟩ ?_
 rintro m' L w1⟨k,Cj,hk,hl,l22,l21,l4,l0,l1,l2,hj,hx⟩;refine Zr<|Zv (BL l22 l21)<|nl<|wp_seq<|cnd rfl (fun hc0=>?_) (fun hc0=>?_)
 ·have hc0:(k:Int)<top:=by simpa using hc0
  obtain⟨n,rfl⟩:∃n,m'=n+1:=⟨m'-1,by omega⟩;rw[JS]at hl;have hadd:AZ ((k:Int)+1)=((k+1:Nat):Int):=by
   rw[AZ,IntWalk.i64_in _ (by omega)]
   rfl
  have d31:=h3.belp hx h3.lt n2;refine wp_skip<|wp_seq<|wp_block<|Zr<|Zv (Aq l22)<|Za<|nl<|wp_seq<|uJ (m:=m)<|LF rfl rfl nofun Cv<|LF rfl rfl nofun (Aq l4)<|LF rfl rfl nofun (eD rfl rfl)<|LF rfl rfl nofun (FH rfl rfl)<|LF rfl rfl nofun Cv<|Or.elim (Bool.eq_false_or_eq_true (!decide (band .i64 (k:Int) own=0))) (fun hg=>?_) (fun hg=>?_)
  ·rw[if_pos hg]at hl
   have hus:((JS own step top.toNat 0).map fun u=>(#[fv u]:Array Value))[Cj.length]?=some #[fv (((k:Int),step):Az)]:=by
    rw[List.getElem?_map,hl,List.getElem?_append_right (Nat.le_refl _),Nat.sub_self]
    rfl
   have hz:=hY Cj.length _ w1 hus hj;obtain⟨fn,tmps,assign,body,hy,hR⟩:=hz;refine U6 rfl rfl rfl rfl rfl (Md.bt hg)<|LF rfl rfl nofun (Aq l0)<|U6 rfl rfl rfl rfl rfl (Md.bt hg)<|LF rfl rfl nofun Cv<|U6 rfl rfl rfl rfl rfl (Md.bt hg)<|LF rfl rfl nofun (AR l2 Aa ((Bx.cs d31).at 0 rfl))<|U6 rfl rfl rfl rfl rfl (Md.bt hg)<|LF rfl rfl nofun (IW (r:=[.int .i64 (k:Int),.int .i64 step]) Cz Qv (pc rfl (pc rfl pn)) rfl)<|U6 rfl rfl rfl rfl rfl (Md.bt hg)<|uK rfl rfl nofun (iw rfl (mc rfl mn) hy) hR fun e w5 he=>?_;rcases he with⟨rfl,hj5,k5⟩|⟨rfl,hj5⟩
   ·refine⟨_,rfl,U6 rfl rfl rfl rfl rfl (Md.bt hg)<|LF rfl rfl nofun (GV rfl)<|LF rfl rfl nofun (GD rfl hg rfl)<|Zy<|cnd rfl (fun h=>by cases h) (fun _=>?_)⟩
    refine wp_skip<|rg<|Zv (Aw l22 rfl)<|Zm<|nl<|lq n (Nat.lt_succ_self _) ⟨k+1,Cj++[((k:Int),step)],by omega,by rw[hl,List.append_assoc];rfl,congrArg _ hadd,l21,l4,l0,l1,l2,?_,hx.trans k5⟩;rw[List.length_append];exact hj5
   ·refine⟨_,rfl,U6 rfl rfl rfl rfl rfl (Md.bt hg)<|LF rfl rfl nofun (GV rfl)<|LF rfl rfl nofun (GD rfl hg rfl)<|Zy<|cnd rfl (fun _=>?_) (fun h=>by cases h)⟩
    exact wp_ret<|rt rfl .nil (.inr hj5)
  ·rw[if_neg (by rw[hg];simp)]at hl
   refine XO rfl rfl rfl rfl rfl (Ae hg) rfl<|XO rfl rfl rfl rfl rfl (Ae hg) rfl<|XO rfl rfl rfl rfl rfl (Ae hg) rfl<|XO rfl rfl rfl rfl rfl (Ae hg) rfl<|XO rfl rfl rfl rfl rfl (Ae hg) rfl<|XO rfl rfl rfl rfl rfl (Ae hg) rfl<|LF rfl rfl nofun (H8 rfl hg rfl)<|Zy<|cnd rfl (fun h=>by cases h) (fun _=>?_);refine wp_skip<|rg<|Zv (Aw l22 rfl)<|Zm<|nl<|lq n (Nat.lt_succ_self _) ⟨k+1,Cj,by omega,hl,congrArg _ hadd,l21,l4,l0,l1,l2,hj,hx⟩
 ·have hc0:¬(k:Int)<top:=by simpa using hc0
  obtain rfl:m'=0:=by omega
  rw[JS]at hl;refine wp_exit<|uF rfl .nil (.inl ?_);rw[List.length_map,hl,List.append_nil];exact hj
def StV(lo:Nat)(w:World)(v:Value)(step:Int)(b:Nat):Prop:=∃bt b3,v=.func (.func 308) #[] #[.pointer (some ⟨bt,0,none⟩),.pointer (some ⟨b3,0,none⟩)]/\
 Bx w bt 177 [.pointer (some ⟨b,0,none⟩)]/\Bx w b3 3 [.int .i64 step]/\lo<=bt/\lo<=b3
theorem StV.go{lo:Nat}{w:World}{v:Value}{step:Int}{b ma mu N:Nat}{ok:Nat->Prop}{x:BV}{l:List Az}(h:StV lo w v step b)(hT:Tb N w b ma mu x)(hok:∀q,q<N->q≠ma->q≠mu->ok q)(hlo:∀q,lo<=q->ok q)(hL:JU x step=some l)(m:Nat):
  ∃gf cs,v=.func (.func gf) #[] cs/\AU Tryz.prog gf/\K3 Tryz.prog (BelP ok w.heap.size) m gf cs (l.map fun u=>#[fv u]) w:=by
 obtain⟨bt,b3,rfl,h2,h3,h5,h6⟩:=h;exact⟨308,_,rfl,rQ,oP h2 h3 (hlo _ h5) (hlo _ h6) hT hok hL⟩
theorem xu{w0:World}{b:Nat}{step:Int}:Calls Tryz.prog 227 [.pointer (some ⟨b,0,none⟩),.int .i64 step].toArray w0 (BN fun v w'=>StV w0.heap.size w' v step b/\Ext w0 w'):=by
 refine BK (n:=6) Tryz.func227 rfl rfl rfl<|Zr<|Cw rfl rfl fun bt w1 hx1 hg1 hb1=>Cw rfl rfl fun b3 w2 hx2 hg2 hb2=>?_;have s1:=hx1.size;refine Za<|nl<|Zr<|Zv (Uy (l:=[]) (k:=[.pointer (some ⟨bt,0,none⟩),.pointer (some ⟨b3,0,none⟩)]) rfl rfl)<|Za<|nl<|wp_ret<|Zw rfl rfl rfl ⟨⟨bt,b3,rfl,hb1.ext hx2,hb2,hg1,by omega⟩,hx1.tr hx2⟩
def LP(x:BV)(m:Nat):List Az->Int->Ba->Option (Option Az×Int×Ba)
 |[],n,A=>some (none,n,A)
 |u::l,n,A=>(Ch x m A u)>>=fun q=>if decide (n<q.1)=true then some (some u,n,q.2)else LP x m l (AZ (n-q.1)) q.2
def LB(x:BV)(m:Nat):Nat->Az->Int->List Am->Ba->Option (List Am×Ba)
 |0,_,_,out,A=>some (out,A)
 |k+1,now,n,out,A=>
  (GR x now)>>=fun l=>(LP x m l n A)>>=fun q=>
  (ix x.2.1 (q.1.getD now).2)>>=fun st=>(app 16 out ([st]:List Am))>>=fun o=>LB x m k (q.1.getD now) q.2.1 o q.2.2
def Oh(x:BV)(m:Nat)(A:Ba)(n:Int):Option (List Am×Ba):=
 (LB x m x.1.1.length (0,-1) n [] A)>>=fun r=>(mks 16 (r.1.length:Int) ((0,false):Am))>>=fun z=>some (J4 z r.1,r.2)
theorem Els.okb{α:Type}[Enc α]{ok:Nat->Prop}{w:World}{b off:Nat}{l:List α}{i:Int}{y:α}(h:Els α ok w (some ⟨b,off,none⟩) l)(hi:ix l i=some y):ok b:=by
 rcases h with rfl|⟨b',o',e,h1,_⟩
 ·have:=(Fx hi).2.1
  have:=(Fx hi).1;simp at*
  omega
 ·cases e
  exact h1
set_option maxHeartbeats 16000000 in
theorem xw{x:BV}{m:Nat}{w0:World}{b ma mu N:Nat}{A:Ba}{num:Int}{r:List Am×Ba}(hT0:Tb N w0 b ma mu x)(ha0:Mp w0 ma A)(hF:Oh x m A num=some r):
  Calls Tryz.prog 119 [.pointer (some ⟨b,0,none⟩),.int .i64 num].toArray w0 (BN fun v w'=>Row 56 w0.heap.size w' v r.1/\Mp w' ma r.2/\BelP (fun q=>q≠ma) w0.heap.size w0 w'):=by
 unfold Oh at hF;refine bS hF fun r1 Er hF=>bS hF fun z Ez hF=>?_;cases hF;refine Ud (m:=9) (n:=55) Tryz.func119 rfl rfl rfl<|Zr<|Cw rfl rfl fun bt w1 hx1 hg1 hb1=>Cw rfl rfl fun b3 w2 hx2 hg2 hb2=>?_;have k2:=hx1.tr hx2;have l1:=hb1.lt;have hb1:=hb1.ext hx2;refine Za<|nl<|Zr<|Za<|nl<|Zr<|Zv (IW (r:=[.int .i64 0,.int .i64 (-1)]) Cz Qv (pc rfl pn) rfl)<|D5 Cz fun b6 w3 hx3 hg3 hb3=>D8 rfl rfl rfl Cz hb3 rfl rfl (ble rfl) fun w4 hch4 hb4=>?_;have kx4:Ext w2 w4:=hx3.chg hch4 hg3;have k4:=k2.tr kx4;have h6:Bx w4 b6 326 (Flat.enc ((0,-1):Az)):=hb4;have ht:=hb1.ext kx4;have h3:=hb2.ext kx4;have T4:=hT0.ext k4;have ha4:=ha0.ext k4;have l2:=hb2.lt;have l6:=h6.lt;have lt:=ht.lt;have l3:=h3.lt;have z1:=hx1.size;have z2:=k2.size;have z4:=k4.size;have la:=ha0.lt;have na6:b6≠ma:=fun e=>(ha4.not_cells h6) e.symm;have nat:bt≠ma:=fun e=>(ha4.not_cells ht) e.symm;have na3:b3≠ma:=fun e=>(ha4.not_cells h3) e.symm;have n36:b3≠b6:=by omega
 have Xn:bt≠b3:=by omega
 have nt6:bt≠b6:=by omega
 generalize hbase:w4.heap.size=base at l6 lt l3;have hNs:=hT0.size;have hNb:N<=base:=by omega
 have hab:ma<base:=by omega
 have hw0:w0.heap.size<=base:=by omega
 have g3:w0.heap.size<=b3:=by omega
 have g6:w0.heap.size<=b6:=by omega
 have hz:=T4.pieces;obtain⟨a1,c1,h4,hs4⟩:=hz;have hlen:=(RVo.rv hs4).cap;refine nl<|wp_seq<|Zr<|Zv (AR rfl Em ((Bx.cs ht).at 0 rfl))<|Zv (Bc rfl)<|Zv (AX rfl Kk)<|Zv (AX rfl Fg)<|Zv (AR rfl I6 h4)<|Zv (Ao rfl Tryz.underlying46)<|Zm<|nl<|mh w0.heap.size (fun L w=>∃v,L 5=v/\Row 56 base w v r1.1/\Mp w ma r1.2/\BelP (fun q=>q≠ma) w0.heap.size w0 w) ?_ ?_
 ·refine wp_block<|uM w0.heap.size (I:=fun m' L w=>∃(k:Nat)(now:Az)(n:Int)(out:List Am)(A':Ba)(v:Value),k+m'=x.1.1.length/\LB x m m' now n out A'=some r1/\L 18=.int .i64 (k:Int)/\L 17=.int .i64 (x.1.1.length:Int)/\L 2=.pointer (some ⟨bt,0,none⟩)/\L 3=.pointer (some ⟨b3,0,none⟩)/\L 6=.pointer (some ⟨b6,0,none⟩)/\L 5=v/\
    Bx w bt 177 [.pointer (some ⟨b,0,none⟩)]/\Bx w b3 2 [.int .i64 n]/\Bx w b6 326 (Flat.enc now)/\Row 56 base w v out/\Mp w ma A'/\Tb N w b ma mu x/\BelP (fun q=>q≠ma) w0.heap.size w0 w/\base<=w.heap.size) x.1.1.length Mks.nil
   ⟨0,_,_,_,_,_,by simp,Er,rfl,rfl,rfl,rfl,rfl,rfl,ht,h3,h6,Row.nil,ha4,T4,BelP.of k4 (Nat.le_refl _),Nat.le_of_eq hbase.symm⟩ ?_
  clear Er ht h3 h6 ha4 T4 h4 hs4;rintro m' L D w hM⟨k,now,n,out,A',v,hk,hB,l18,l17,l2',l3',l6',l5,ht,h3,h6,ho,ha,T,hx,hbs⟩;refine Zr<|Zv (BL l18 l17)<|nl<|wp_seq<|cnd rfl (fun hc0=>?_) (fun hc0=>?_)
  ·have hc0:(k:Int)<(x.1.1.length:Int):=by simpa using hc0
   obtain⟨k',rfl⟩:∃k',m'=k'+1:=⟨m'-1,by omega⟩;rw[LB]at hB;refine bS hB fun l El hB=>bS hB fun q Eq hB=>bS hB fun st Est hB=>bS hB fun o Eo hB=>?_;have hadd:AZ ((k:Int)+1)=((k+1:Nat):Int):=by
    have hmx:x.1.1.length<=maxLen:=by omega
    rw[AZ,IntWalk.i64_in _ (by unfold maxLen at hmx;omega)]
    rfl
   refine wp_skip<|wp_seq<|wp_block<|wp_scope_straight<|Zr<|Zv (Ad l6' Cz (Flat.len now) (Bx.cs h6))<|D5 Cz fun b7 w5 hx5 hg5 hb5=>SI (u:=now) rfl rfl Cz rfl hb5 rfl fun w6 hch6 hb6=>?_;have kx6:Ext w w6:=hx5.chg hch6 hg5;have ht6:=ht.ext kx6;have h36:=h3.ext kx6;have h66:=h6.ext kx6;have hv6:=ho.lt;have lw:=ho.own_lt;have l7:=hb6.lt;have zx:=kx6.size;have nb7:base<=b7:=by omega
   refine nl<|wp_seq<|wp_label<|wp_seq<|mh w0.heap.size (fun L w'=>L 2=.pointer (some ⟨bt,0,none⟩)/\L 3=.pointer (some ⟨b3,0,none⟩)/\L 5=v/\L 6=.pointer (some ⟨b6,0,none⟩)/\L 7=.pointer (some ⟨b7,0,none⟩)/\L 17=.int .i64 (x.1.1.length:Int)/\L 18=.int .i64 (k:Int)/\
    Bx w' b7 326 (Flat.enc (q.1.getD now))/\Bx w' b3 2 [.int .i64 q.2.1]/\Mp w' ma q.2.2/\BelP (fun q=>q≠ma/\q≠b3/\q≠b7) w6.heap.size w6 w') ?_ ?_
   ·refine Zr<|Zv (AR l2' Em ((Bx.cs ht6).at 0 rfl))<|Zv (Ad l6' Cz (Flat.len now) (Bx.cs h66))<|Zc (xc YA (mc rfl<|mc rfl mn)) (gP (b:=b) (s:=now)) fun v7 w7 hv=>?_
    obtain⟨hbh,hx7⟩:=hv;have ht7:=ht6.ext hx7;have h37:=h36.ext hx7;have h77:=hb6.ext hx7;have ha7:=(ha.ext kx6).ext hx7;have T7:=(T.ext kx6).ext hx7;have z7:=hx7.size;have hM7:=(hM.ext kx6).ext hx7;have hla7:ma<w7.heap.size:=by omega
    have hseq:=hbh.go (N:=N) (ok:=fun q=>q≠ma/\q≠b3/\q≠b7) T7 (fun q h1 h2 h3=>⟨h2,by omega,by omega⟩) (fun q h1=>⟨by omega,by omega,by omega⟩) El 8;refine nl<|wp_block<|rangeB (α:=Az) (xs:=l) (m:=9) (by decide) rfl KpOk.belp hseq rfl rfl rfl Cz rfl
     (fun k W=>∃(n':Int)(A1:Ba),LP x m (l.drop k) n' A1=some q/\Bx W b3 2 [.int .i64 n']/\Bx W b7 326 (Flat.enc now)/\Mp W ma A1/\BelP (fun q=>q≠ma/\q≠b3/\q≠b7) w7.heap.size w7 W/\w7.heap.size<=W.heap.size/\Mks w0.heap.size D W)
     (fun c W=>c=.exit 2/\∃u,q.1=some u/\Bx W b3 2 [.int .i64 q.2.1]/\Bx W b7 326 (Flat.enc u)/\Mp W ma q.2.2/\BelP (fun q=>q≠ma/\q≠b3/\q≠b7) w7.heap.size w7 W/\Mks w0.heap.size D W)
     (fun k=>Okb.ex fun _=>Okb.ex fun _=>Okb.pure.and (Okb.bx.and (Okb.bx.and ((Okb.mp hla7).and ((Okb.belp (Nat.le_refl _) (Nat.le_refl _)).and (Okb.size.and (Okb.mks hM7 rfl)))))))
     (fun c=>Okb.pure.and (Okb.ex fun _=>Okb.pure.and (Okb.bx.and (Okb.bx.and ((Okb.mp hla7).and ((Okb.belp (Nat.le_refl _) (Nat.le_refl _)).and (Okb.mks hM7 rfl)))))))
     ⟨n,A',Eq,h37,h77,ha7,BelP.refl,Nat.le_refl _,hM7⟩ ?round (fun k W h=>by obtain⟨_,_,_,_,_,_,_,h,_⟩:=h;exact h) ?done ?stop
    case round=>
     rintro ll k1 u A1 W b8 hu⟨n',A2,hB2,i1,i2,i3,i4,i5,i6⟩ hA hg8 hg8' hb8;rw[MX hu,LP]at hB2;refine bS hB2 fun p Ep hB2=>?_;have i1:=i1.asg hA;have i2:=i2.asg hA;have i3:=i3.asg hA hla7;have i4:=i4.asg hA i5 (Nat.le_refl _);have i6:=i6.asg hA;have hW:w7.heap.size<=W.heap.size:=i4.size;have jt:=ht7.belp i4 ht7.lt ⟨nat,Xn,by omega⟩;have Tg:=T7.belp i4 T7.size (fun q h1 h2 h3=>⟨h2,by omega,by omega⟩);have na8:b8≠ma:=by omega
     have na7:b7≠ma:=by omega
     have n38:b3≠b7:=by omega
     refine wpIn_block<|wpIn_seq<|Ov rfl<|Zv (AR l2' Em ((Bx.cs jt).at 0 rfl))<|Zv (Ad rfl Cz (Flat.len u) (Bx.cs hb8))<|Zc (xc Ub (mc rfl<|mc rfl mn)) (gQ m Tg i3 Ep) ?_;rintro _ w8⟨rfl,hm8,hp8⟩;have hs8:=hp8.size;have j3:=i1.belp hp8 i1.lt na3;have j7:=i2.belp hp8 i2.lt na7;have j8:=hb8.belp hp8 hb8.lt na8;have p8:BelP (fun q=>q≠ma/\q≠b3/\q≠b7) w7.heap.size W w8:=hp8.weak fun q h1 h2=>⟨by omega,h2.1⟩;have kf8:KeepsFrom w7.heap.size W w8:=hp8.kf fun q h1=>by omega
     have m8:Mks w0.heap.size D w8:=i6.belp hp8 (fun q h1=>by omega);refine Za<|nl<|wpIn_seq<|wpIn_seq<|Ov rfl<|Zv (AR l3' CX ((Bx.cs j3).at 0 rfl))<|Zm<|Zv (BL rfl rfl)<|nl<|dx rfl (fun hf=>?_) (fun hf=>?_)
     ·have hB2:=Ah hB2 hf
      cases hB2;refine wpIn_seq<|Ov rfl<|Zv (Ad rfl Cz (Flat.len u) (Bx.cs j8))<|SI (u:=u) rfl rfl Cz rfl j7 (Flat.len now) fun w9 hch9 hb9=>nl<|wpIn_exit ⟨kf8.chgc hch9 (.inl (by omega)),rfl,u,rfl,j3.chg hch9 n38,hb9,hm8.chgb hch9 j7,(i4.trans p8).chg hch9 (.inr fun h=>h.2.2 rfl),m8.chg hch9 j7.nd⟩
     ·have hB2:=Ai hB2 hf
      refine wpIn_skip<|Ov rfl<|Zv (AR l3' CX ((Bx.cs j3).at 0 rfl))<|Zm<|Zv (IV rfl rfl)<|D8 l3' rfl rfl CX j3 rfl rfl (ble rfl) fun w9 hch9 hb9=>nl ⟨kf8.chgc hch9 (.inl (by omega)),p8.chg hch9 (.inr fun h=>h.2.1 rfl),_,p.2,hB2,hb9,j7.chg hch9 (Ne.symm n38),hm8.chgb hch9 j3,(i4.trans p8).chg hch9 (.inr fun h=>h.2.1 rfl),?_,m8.chg hch9 j3.nd⟩;rw[hch9.size];omega
    case done=>
     rintro D' W hD⟨n',A2,hB2,i1,i2,i3,i4,i5,i6⟩ hK;rw[List.drop_length,LP]at hB2;cases hB2;exact jA (Mks.cons hM7 i6 (by omega) hD hK) ⟨l2',l3',l5,l6',rfl,l17,l18,i2,i1,i3,(BelP.of hx7 (Nat.le_refl _)).trans (i4.mono z7)⟩
    case stop=>
     rintro D' c W hD⟨rfl,u,hu,i1,i2,i3,i4,i6⟩ hK;refine wp_exit<|jA (Mks.cons hM7 i6 (by omega) hD hK) ⟨l2',l3',l5,l6',rfl,l17,l18,?_,i1,i3,(BelP.of hx7 (Nat.le_refl _)).trans (i4.mono z7)⟩;rw[hu];exact i2
   rintro L D w8 hM8⟨l2',l3',l5,l6',l7',l17,l18,h7,h3',hm8,hp8⟩;generalize hnx:q.1.getD now=nx at Est hB h7;have o6:=ho.ext kx6;have o8:=o6.belp hp8 (fun q hq=>⟨o6.own_lt q hq,by have:=hv6 q hq;omega,by have:=hv6 q hq;omega,by have:=hv6 q hq;omega⟩);have ht8:=ht6.belp hp8 ht6.lt ⟨nat,Xn,by omega⟩;have h68:=h66.belp hp8 h66.lt ⟨na6,Ne.symm n36,by omega⟩;have T8:=(T.ext kx6).belp hp8 (T.ext kx6).size (fun q h1 h2 h3=>⟨h2,by omega,by omega⟩);have hs8:=hp8.size;refine Zr<|Zv (Ad l7' Cz (Flat.len nx) (Bx.cs h7))<|SI (u:=nx) l6' rfl Cz rfl h68 (Flat.len now) fun w9 hch9 hb9=>nl<|?_;have o9:=o8.chg hch9 l6;have ht9:=ht8.chg hch9 nt6;have h39:=h3'.chg hch9 n36;have hm9:=hm8.chgb hch9 h68;have T9:=T8.belp (ok:=fun q=>q≠b6) (M:=w8.heap.size) (BelP.refl.chg hch9 (.inr fun h=>h rfl)) T8.size (fun q h1 h2 h3=>by omega);have hM9:=hM8.chg hch9 h68.nd;have hx9:BelP (fun q=>q≠ma) w0.heap.size w0 w9:=(((hx.ext kx6 (by omega)).trans (hp8.weak fun q h1 h2=>⟨by omega,h2,by omega,by omega⟩))).chg hch9 (.inl g6);have hs9:w9.heap.size=w8.heap.size:=hch9.size;refine wP (B:=base) [] (.pure true 0 (.pure false 1 (.pure true 2 (.pure true 3 (.pure false 4 (.pure true 5 (.pure false 6 (.pure true 7 (.pure false 8 (.eff 9 (.eff 10 (.pure true 11 .fin) .stop) .stop)))))))))) mixed (by kernel_rfl) (fun wd hxd=>?_);have od:=o9.ext hxd;have td:=ht9.ext hxd;have d3:=h39.ext hxd;have d6:=hb9.ext hxd;have md:=hm9.ext hxd;have Td:=T9.ext hxd;have zd:=hxd.size;have hz:=Td.steps;obtain⟨a2,c2,h4,hs4⟩:=hz;have hz:=(RVo.sl.1 hs4);obtain⟨a2',c2',e3,_,_,els⟩:=hz;cases e3;have hz:=Els.ix els Est;obtain⟨b5,off5,cs5,rfl,i1,i2,q5,hc5⟩:=hz;obtain rfl:=Flat.iff.1 q5;have hb5:=(Els.okb els Est).1;have hbN:=Td.lb.1;refine Zp rfl (fun _=>Aq l5)<|Zq rfl (fun _ hS=>AR l2' Em ((Bx.cs (td.below (hS.resolve_left nofun) lt)).at 0 rfl)) (Below.refl _ _)<|Zp rfl (fun _=>Bc rfl)<|Zp rfl (fun _=>AX rfl FO)<|pv rfl rfl rfl (fun w' hS=>AR rfl Jf ((World.cell?_of_block (a:=⟨b,4,none⟩) ((hS.resolve_left nofun).block b (by show b<base;omega))).trans h4)) (.inr (Below.refl _ _))<|?_;refine Zp rfl (fun _=>AX l6' Kl)<|Zq rfl (fun _ hS=>AR rfl Aa ((Bx.cs (d6.below (hS.resolve_left nofun) l6)).at 1 rfl)) (Below.refl _ _)<|Zp rfl (fun _=>Al rfl rfl Tryz.underlying51 BU i1 i2)<|Zq rfl (fun _ hS=>Ad rfl BU (Flat.len st) (hc5.below (hS.resolve_left nofun) (by omega))) (Below.refl _ _)<|?_;refine Br rfl<|Gq (cs:=[.int .i64 st.1,.bool st.2]) Tryz.underlying51 BU rfl (pc rfl pn) rfl rfl rfl rfl rfl fun b9 wE hxE hgE hbE=>nl ⟨fun _ h=>h.trans (hxE.mono (by omega)),?_⟩;have oE:Row (α:=Am) 56 wd.heap.size wE (.slice (some ⟨b9,0,none⟩) 1 1) [st]:=Row.lit hgE hbE rfl (ble rfl);have zE:=hxE.size;refine Br rfl<|KY (l:=out) (k:=([st]:List Am)) rfl rfl Tryz.underlying51 BU rfl rfl (od.ext hxE) (RV.els oE.rv) Eo (by omega) fun vF wF oF hBF hgF hwF=>nl ⟨fun _ h=>h.trans hBF,?_⟩;refine Zp rfl (fun _=>GU)<|rg<|Zv (Aw l18 rfl)<|Zm<|nl<|?_;have hMF:Mks w0.heap.size D wF:=((hM9.ext hxd).ext hxE).gr hgF (od.ext hxE).nd;have hsF:=hBF.size;have hxF:Below base w9 wF:=(hxd.mono (by omega)).trans ((hxE.mono (by omega)).trans hBF);refine uL k' (Nat.lt_succ_self _) hMF ⟨k+1,nx,q.2.1,o,q.2.2,vF,by omega,hB,congrArg _ hadd,l17,l2',l3',l6',rfl,ht9.below hxF lt,h39.below hxF l3,hb9.below hxF l6,oF,hm9.below hxF hab,?_,?_,by omega⟩
   ·exact T9.belp (ok:=fun _=>True) (M:=base) ⟨hxF.os,hxF.tape,hxF.output,hxF.size,fun q hq _=>hxF.block q hq⟩ hNb (fun _ _ _ _=>trivial)
   ·exact hx9.trans ⟨hxF.os,hxF.tape,hxF.output,hxF.size,fun q hq _=>hxF.block q (by omega)⟩
  ·have hc0:¬(k:Int)<(x.1.1.length:Int):=by simpa using hc0
   obtain rfl:m'=0:=by omega
   rw[LB]at hB;cases hB;exact wp_exit<|jA hM ⟨v,l5,ho,ha,hx⟩
 rintro L D w5 hM⟨v,l5,ho,ha,hx⟩;have hz:=RV.sl ho.rv;obtain⟨a5,c5,rfl,-,-,-⟩:=hz;have z5:=hx.size;refine Zr<|Zv (Aq l5)<|Zv (Ao rfl Tryz.underlying51)<|eH (α:=Am) (z0:=(0,false)) rfl rfl Tryz.underlying51 BU rfl rfl rfl Ez fun b10 w10 hx10 o10=>Za<|nl<|Zr<|Zm<|Zv (Aq l5)<|mo (l:=z) (k:=r1.1) rfl rfl Tryz.underlying51 BU o10 (ho.ext hx10).rv fun w11 cq hch11 o11=>nl<|Zr<|Zm<|Za<|nl<|?_;have hge:=(o10.lt b10 rfl).1;have M:Mks w0.heap.size D w11:=(hM.ext hx10).chg hch11 (o10.nd b10 rfl);refine wp_ret<|Qc rfl M fun w' hk=>⟨_,.tmp rfl rfl .nil,(o11.bnd z5).tak hk,((ha.ext hx10).chg hch11 (by omega)).tak hk,?_⟩;exact(((hx.ext hx10 z5)).chg hch11 (.inl (by omega))).tak hk (Nat.le_refl _)
end Go.Proofs.YtfmelbioccbdoaaGreat
end
section
namespace Go.Md
open Go Go.RowKit
section
section
variable {P:Program}{Q:Exit->Act->World->Prop}{m n:Nat}{L:Fr}{D:List Deferred}{w:World}
theorem kN{g:Operand}{ps:List Nat}{assign body:Code}{gf:FuncId}{cs:Array Value}{us:List (Array Value)}{Kp:World->World->Prop}(hm:1<=m)(hKp:KpOk w.heap.size Kp)
  (hg:ev n L g=.func (.func gf) #[] cs) (hc:AU P gf) (hseq:K3 P Kp (m-1) gf cs us w) (hps:∀u∈us,u.size=ps.length)
  (I:Nat->World->Prop) (Ix:Code->World->Prop) (hI:∀k,Okb w.heap.size (I k)) (hIx:∀c,Okb w.heap.size (Ix c)) (h0:I 0 w)
  (hround:∀(l k:Nat)(u:Array Value)(A:World)(K:Act->World->Prop),w.heap.size<l->us[k]?=some u->I k A->
   (∀a' W,Ext A W->(∀W2 o,W.heap[l]?=some o->o.isCells=false->(∀ds,o≠.deferred ds)->Chg l W W2->(∃r,W2.heap[l]?=some (.loop r))->body.wpIn (RF l) (m-1-1) P (NN w.heap.size Kp (I (k+1)) Ix W2) a' W2)->K a' W)->
   assign.wpIn (RF l) (m-1-1) P (Exit.then K (fun _ _ _=>False)) (act n ((ps.zip u.toList).foldl (fun L(p,v)=>upd L p v) L) []) A)
  (hdone:∀D' W,w.heap.size<=D'->I us.length W->W.heap[D']?=some (.deferred (some []))->Q .normal (act n L ({target:=.collected D',args:=#[]}::D)) W)
  (hstop:∀D' c W,w.heap.size<=D'->Ix c W->W.heap[D']?=some (.deferred (some []))->c.wp P Q (act n L ({target:=.collected D',args:=#[]}::D)) W):
  (Code.rangeFunc g ps.toArray assign body).wp P Q (act n L D) w:=by
 refine(wpIn_wide (n:=m)).1 (wpIn_rangeFunc fun fn hfn=>?_);generalize hrec:(fun(st:LoopState)(pe:Option Code)=>({state:=st,pending:=pe,fn:=fn,tmps:=(act n L D).tmps,params:=ps.toArray,assign:=assign,body:=body,defers:=w.heap.size}:Loop))=rec;have hrec':∀st pe,rec st pe={state:=st,pending:=pe,fn:=fn,tmps:=(act n L D).tmps,params:=ps.toArray,assign:=assign,body:=body,defers:=w.heap.size}:=fun st pe=>by rw[<-hrec]
 generalize hB:w.heap.size=B at*
 have hx1:Ext w (w.alloc (.deferred (some []))):=Ext.alloc _ _;have hx2:=hx1.tr (Ext.alloc (w.alloc (.deferred (some []))) (.loop (rec .ready none)));have hL1:((w.alloc (.deferred (some []))).alloc (.loop (rec .ready none))).heap[B+1]?=some (.loop (rec .ready none)):=by
  have:=World.alloc_heap_new (w.alloc (.deferred (some []))) (.loop (rec .ready none));rwa [World.size_alloc,hB]at this
 have hK1:((w.alloc (.deferred (some []))).alloc (.loop (rec .ready none))).heap[B]?=some (.deferred (some [])):=by
  have:=World.alloc_heap_new w (.deferred (some []));rw[hB]at this;exact((Ext.alloc (w.alloc (.deferred (some []))) (.loop (rec .ready none))).block B (by simp[hB])).trans this
 generalize hW1:(w.alloc (.deferred (some []))).alloc (.loop (rec .ready none))=W1 at*
 refine⟨B+1,[{target:=.collected B,args:=#[]}],W1,{target:=.fn (.func gf) cs,args:=#[.func (.yield (B+1)) #[] #[]]},W1,gf,#[.func (.yield (B+1)) #[] #[]]++cs,W1,?_,?_,?_,?_,fun _=>hm,?_⟩
 ·rw[show Fence.wide.round=none from rfl,run_enterLoop_outer,hB,<-hrec',hW1]
 ·simp only[EX,resolve,Deferred.ofValue,hg]
  simp[ev]
 ·intro f' _
  exact trivial
 ·simp[invoke,Ih hc]
 refine(hseq (B+1) (fun k A=>I k A/\A.heap[B+1]?=some (.loop (rec .ready none))/\A.heap[B]?=some (.deferred (some [])))
  (fun A=>∃c,Ix c A/\A.heap[B+1]?=some (.loop (rec .done (some c)))/\A.heap[B]?=some (.deferred (some []))) W1 hx2
  (fun k A C h e=>⟨(hI k).ext h.1 e,(e.block _ (Array.getElem?_eq_some_iff.1 h.2.1).1).trans h.2.1,(e.block _ (Array.getElem?_eq_some_iff.1 h.2.2).1).trans h.2.2⟩)
  (fun A C⟨c,h1,h2,h3⟩ e=>⟨c,(hIx c).ext h1 e,(e.block _ (Array.getElem?_eq_some_iff.1 h2).1).trans h2,(e.block _ (Array.getElem?_eq_some_iff.1 h3).1).trans h3⟩)
  ?_ ⟨(hI 0).ext h0 hx2,hL1,hK1⟩).mono ?_
 ·rintro k u A hu⟨hi,hl,hk⟩;have hy:=run_yield (P:=P) (args:=u) hl (by rw[hrec'];simpa using hps u (List.mem_of_getElem? hu));rw[hrec']at hy;refine⟨fn,_,assign,body,hy,roundIn_of_wpIn hfn ?_⟩;have hact:({tmps:=((ps.toArray.zip u).foldl (fun t(p,v)=>t.setIfInBounds p v) (act n L D).tmps),defers:=[]}:Act)=act n ((ps.zip u.toList).foldl (fun L(p,v)=>upd L p v) L) []:=by
   have:=NK (n:=n) (D:=D) (ps:=ps) (vs:=u.toList) L;rw[<-Array.foldl_toList,Array.toList_zip];simp only at this⊢;rw[this]
   rfl
  refine(congrArg (fun q=>Code.wpIn (RF (B+1)) (m-1-1) P assign _ q A) hact).mpr ?_;refine hround (B+1) k u A _ (Nat.lt_succ_self _) hu hi fun a' W hAW hbd=>?_;have hl1:=(hAW.block _ (Array.getElem?_eq_some_iff.1 hl).1).trans hl;have hk1:=(hAW.block _ (Array.getElem?_eq_some_iff.1 hk).1).trans hk;refine⟨_,run_beginRound hl1 (by rw[hrec']),?_⟩;obtain⟨c1,c2⟩:=KH (o':=.loop {rec .ready none with state:=.busy}) hl1;have hk2:=(c1.other B (by omega)).trans hk1;generalize hW2:W.putObj (B+1) (.loop {rec .ready none with state:=.busy})=W2 at*
  refine wpIn_mono (hbd W2 _ hl1 rfl nofun c1 ⟨_,c2⟩) ?_;have fin:∀(jump:Option Code)(W3:World),KeepsFrom B W2 W3->(Instr.endRound (B+1) jump).run P W3=.ok (.bool jump.isNone) (W3.putObj (B+1) (.loop (rec (if jump.isNone then .ready else .done) jump)))/\
    W3.heap[B+1]?=some (.loop {rec .ready none with state:=.busy})/\Chg (B+1) W3 (W3.putObj (B+1) (.loop (rec (if jump.isNone then .ready else .done) jump)))/\
    (W3.putObj (B+1) (.loop (rec (if jump.isNone then .ready else .done) jump))).heap[B+1]?=some (.loop (rec (if jump.isNone then .ready else .done) jump))/\
    (W3.putObj (B+1) (.loop (rec (if jump.isNone then .ready else .done) jump))).heap[B]?=some (.deferred (some [])):=fun jump W3 hk3=>by
   have hl3:=hk3.same _ _ (by omega) c2 rfl;have hd3:=hk3.same _ _ (Nat.le_refl _) hk2 rfl;have he:=run_endRound (P:=P) jump hl3;obtain⟨e1,e2⟩:=KH (o':=.loop (rec (if jump.isNone then .ready else .done) jump)) hl3;refine⟨?_,hl3,e1,e2,(e1.other B (by omega)).trans hd3⟩;simp only[hrec']at he⊢;exact he
  rintro e a3 W3 hp;cases e with
  |normal=>
   obtain⟨hk3,hb3,hi3⟩:=hp;obtain⟨hr,hl3,e1,hl4,hd4⟩:=fin none W3 hk3;have hBA:B<=A.heap.size:=Nat.le_of_lt (Nat.lt_of_succ_lt (Array.getElem?_eq_some_iff.1 hl).1);exact⟨_,_,hr,.inl ⟨rfl,⟨(hI (k+1)).put hi3 (by omega) hl3 rfl e1,hl4,hd4⟩,hKp.trans (hKp.ext hBA hAW) (hKp.trans (hKp.put (by omega) hl1 c1) (hKp.trans hb3 (hKp.put (by omega) hl3 e1)))⟩⟩
  |ret=>
   obtain⟨hk3,hi3⟩:=hp;obtain⟨hr,hl3,e1,hl4,hd4⟩:=fin (some .ret) W3 hk3;exact⟨_,_,hr,.inr ⟨rfl,.ret,(hIx _).put hi3 (by omega) hl3 rfl e1,hl4,hd4⟩⟩
  |exit id=>
   obtain⟨hk3,hi3⟩:=hp;obtain⟨hr,hl3,e1,hl4,hd4⟩:=fin (some (.exit id)) W3 hk3;exact⟨_,_,hr,.inr ⟨rfl,.exit id,(hIx _).put hi3 (by omega) hl3 rfl e1,hl4,hd4⟩⟩
  |goto t=>exact hp.elim
  |panic ch=>exact hp.elim
  |outgrown=>exact hp.elim
 ·rintro e W2⟨⟨v,rfl⟩,⟨hi,hl,hk⟩|⟨c,hi,hl,hk⟩⟩
  ·obtain⟨e1,_⟩:=KH (o':=.loop {rec .ready none with state:=.exhausted}) hl
   exact⟨none,_,by have:=run_endLoop (P:=P) hl (by rw[hrec'];simp);simpa only[hrec']using this,hdone B _ (Nat.le_refl _) ((hI _).put hi (by omega) hl rfl e1) ((e1.other B (by omega)).trans hk)⟩
  ·obtain⟨e1,_⟩:=KH (o':=.loop {rec .done (some c)with state:=.exhausted}) hl
   exact⟨some c,_,by have:=run_endLoop (P:=P) hl (by rw[hrec'];simp);simpa only[hrec']using this,wpIn_wide.2 (hstop B c _ (Nat.le_refl _) ((hIx c).put hi (by omega) hl rfl e1) ((e1.other B (by omega)).trans hk))⟩
theorem kP{l0:Nat}{r0:Loop}(hl0:w.heap[l0]?=some (.loop r0)){g:Operand}{ps:List Nat}{assign body:Code}{gf:FuncId}{cs:Array Value}{us:List (Array Value)}{Kp:World->World->Prop}(hm:1<=m)(hKp:KpOk w.heap.size Kp)
  (hg:ev n L g=.func (.func gf) #[] cs) (hc:AU P gf) (hseq:K3 P Kp (m-1) gf cs us w) (hps:∀u∈us,u.size=ps.length)
  (I:Nat->World->Prop) (Ix:Code->World->Prop) (hI:∀k,Okb w.heap.size (I k)) (hIx:∀c,Okb w.heap.size (Ix c)) (h0:I 0 w)
  (hround:∀(l k:Nat)(u:Array Value)(A:World)(K:Act->World->Prop),w.heap.size<=l->us[k]?=some u->I k A->
   (∀a' W,Ext A W->(∀W2 o,W.heap[l]?=some o->o.isCells=false->(∀ds,o≠.deferred ds)->Chg l W W2->(∃r,W2.heap[l]?=some (.loop r))->body.wpIn (RF l) (m-1-1) P (NN w.heap.size Kp (I (k+1)) Ix W2) a' W2)->K a' W)->
   assign.wpIn (RF l) (m-1-1) P (Exit.then K (fun _ _ _=>False)) (act n ((ps.zip u.toList).foldl (fun L(p,v)=>upd L p v) L) []) A)
  (hdone:∀W,I us.length W->Q .normal (act n L D) W)
  (hstop:∀c W,Ix c W->c.wpIn (RF l0) m P Q (act n L D) W):
  (Code.rangeFunc g ps.toArray assign body).wpIn (RF l0) m P Q (act n L D) w:=by
 refine wpIn_rangeFunc fun fn hfn=>?_;generalize hrec:(fun(st:LoopState)(pe:Option Code)=>({state:=st,pending:=pe,fn:=fn,tmps:=(act n L D).tmps,params:=ps.toArray,assign:=assign,body:=body,defers:=r0.defers}:Loop))=rec;have hrec':∀st pe,rec st pe={state:=st,pending:=pe,fn:=fn,tmps:=(act n L D).tmps,params:=ps.toArray,assign:=assign,body:=body,defers:=r0.defers}:=fun st pe=>by rw[<-hrec]
 generalize hB:w.heap.size=B at*
 have hx2:Ext w (w.alloc (.loop (rec .ready none))):=Ext.alloc _ _;have hL1:(w.alloc (.loop (rec .ready none))).heap[B]?=some (.loop (rec .ready none)):=by
  have:=World.alloc_heap_new w (.loop (rec .ready none));rwa [hB]at this
 generalize hW1:w.alloc (.loop (rec .ready none))=W1 at*
 refine⟨B,[],W1,{target:=.fn (.func gf) cs,args:=#[.func (.yield B) #[] #[]]},W1,gf,#[.func (.yield B) #[] #[]]++cs,W1,?_,?_,?_,?_,fun _=>hm,?_⟩
 ·rw[show(RF l0).round=some l0 from rfl,run_enterLoop_inner hl0,hB,<-hrec',hW1]
 ·simp only[EX,resolve,Deferred.ofValue,hg]
  simp[ev]
 ·intro f' _
  exact trivial
 ·simp[invoke,Ih hc]
 refine CallsIn.inRound l0 ((hseq B (fun k A=>I k A/\A.heap[B]?=some (.loop (rec .ready none))) (fun A=>∃c,Ix c A/\A.heap[B]?=some (.loop (rec .done (some c)))) W1 hx2
  (fun k A C h e=>⟨(hI k).ext h.1 e,(e.block _ (Array.getElem?_eq_some_iff.1 h.2).1).trans h.2⟩)
  (fun A C⟨c,h1,h2⟩ e=>⟨c,(hIx c).ext h1 e,(e.block _ (Array.getElem?_eq_some_iff.1 h2).1).trans h2⟩)
  ?_ ⟨(hI 0).ext h0 hx2,hL1⟩).mono ?_)
 ·rintro k u A hu⟨hi,hl⟩;have hy:=run_yield (P:=P) (args:=u) hl (by rw[hrec'];simpa using hps u (List.mem_of_getElem? hu));rw[hrec']at hy;refine⟨fn,_,assign,body,hy,roundIn_of_wpIn hfn ?_⟩;have hact:({tmps:=((ps.toArray.zip u).foldl (fun t(p,v)=>t.setIfInBounds p v) (act n L D).tmps),defers:=[]}:Act)=act n ((ps.zip u.toList).foldl (fun L(p,v)=>upd L p v) L) []:=by
   have:=NK (n:=n) (D:=D) (ps:=ps) (vs:=u.toList) L;rw[<-Array.foldl_toList,Array.toList_zip];simp only at this⊢;rw[this]
   rfl
  refine(congrArg (fun q=>Code.wpIn (RF B) (m-1-1) P assign _ q A) hact).mpr ?_;refine hround B k u A _ (Nat.le_refl _) hu hi fun a' W hAW hbd=>?_;have hl1:=(hAW.block _ (Array.getElem?_eq_some_iff.1 hl).1).trans hl;refine⟨_,run_beginRound hl1 (by rw[hrec']),?_⟩;obtain⟨c1,c2⟩:=KH (o':=.loop {rec .ready none with state:=.busy}) hl1;generalize hW2:W.putObj B (.loop {rec .ready none with state:=.busy})=W2 at*
  refine wpIn_mono (hbd W2 _ hl1 rfl nofun c1 ⟨_,c2⟩) ?_;have fin:∀(jump:Option Code)(W3:World),KeepsFrom B W2 W3->(Instr.endRound B jump).run P W3=.ok (.bool jump.isNone) (W3.putObj B (.loop (rec (if jump.isNone then .ready else .done) jump)))/\
    W3.heap[B]?=some (.loop {rec .ready none with state:=.busy})/\Chg B W3 (W3.putObj B (.loop (rec (if jump.isNone then .ready else .done) jump)))/\
    (W3.putObj B (.loop (rec (if jump.isNone then .ready else .done) jump))).heap[B]?=some (.loop (rec (if jump.isNone then .ready else .done) jump)):=fun jump W3 hk3=>by
   have hl3:=hk3.same _ _ (Nat.le_refl _) c2 rfl;have he:=run_endRound (P:=P) jump hl3;obtain⟨e1,e2⟩:=KH (o':=.loop (rec (if jump.isNone then .ready else .done) jump)) hl3;refine⟨?_,hl3,e1,e2⟩;simp only[hrec']at he⊢;exact he
  rintro e a3 W3 hp;cases e with
  |normal=>
   obtain⟨hk3,hb3,hi3⟩:=hp;obtain⟨hr,hl3,e1,hl4⟩:=fin none W3 hk3;have hBA:B<=A.heap.size:=Nat.le_of_lt (Array.getElem?_eq_some_iff.1 hl).1;exact⟨_,_,hr,.inl ⟨rfl,⟨(hI (k+1)).put hi3 (by omega) hl3 rfl e1,hl4⟩,hKp.trans (hKp.ext hBA hAW) (hKp.trans (hKp.put (by omega) hl1 c1) (hKp.trans hb3 (hKp.put (by omega) hl3 e1)))⟩⟩
  |ret=>
   obtain⟨hk3,hi3⟩:=hp;obtain⟨hr,hl3,e1,hl4⟩:=fin (some .ret) W3 hk3;exact⟨_,_,hr,.inr ⟨rfl,.ret,(hIx _).put hi3 (by omega) hl3 rfl e1,hl4⟩⟩
  |exit id=>
   obtain⟨hk3,hi3⟩:=hp;obtain⟨hr,hl3,e1,hl4⟩:=fin (some (.exit id)) W3 hk3;exact⟨_,_,hr,.inr ⟨rfl,.exit id,(hIx _).put hi3 (by omega) hl3 rfl e1,hl4⟩⟩
  |goto t=>exact hp.elim
  |panic ch=>exact hp.elim
  |outgrown=>exact hp.elim
 ·rintro e W2⟨⟨v,rfl⟩,⟨hi,hl⟩|⟨c,hi,hl⟩⟩
  ·obtain⟨e1,_⟩:=KH (o':=.loop {rec .ready none with state:=.exhausted}) hl
   exact⟨none,_,by have:=run_endLoop (P:=P) hl (by rw[hrec'];simp);simpa only[hrec']using this,hdone _ ((hI _).put hi (Nat.le_refl _) hl rfl e1)⟩
  ·obtain⟨e1,_⟩:=KH (o':=.loop {rec .done (some c)with state:=.exhausted}) hl
   exact⟨some c,_,by have:=run_endLoop (P:=P) hl (by rw[hrec'];simp);simpa only[hrec']using this,hstop c _ ((hIx c).put hi (Nat.le_refl _) hl rfl e1)⟩
theorem kQ{α:Type}[Enc α][Flat α]{g:Operand}{p d id T bytes k':Nat}{agg:Bool}{z:List Value}{body:Code}{xs:List α}{Kp:World->World->Prop}{v:Value}{pos pos':String}{ty ty':TypeId}{af af':Array Edge}{m:Nat}(hm:8<=m)(hg:ev n L g=v)(hKp:KpOk w.heap.size Kp)(hs:∃gf cs,v=.func (.func gf) #[] cs/\AU P gf/\K3 P Kp (m-1) gf cs (xs.map fun x=>#[fv x]) w)(hp:Nat.blt p n=true)(hd:Nat.blt d n=true)(hpd:Nat.beq p d=false)
  (hT:TI P T agg k' bytes z) (hk':k'=Enc.n α)
  (I:Nat->World->Prop) (Ix:Code->World->Prop) (hI:∀k,Okb w.heap.size (I k)) (hIx:∀c,Okb w.heap.size (Ix c)) (h0:I 0 w)
  (hround:∀(l k:Nat)(x:α)(A W:World)(b:Nat),xs[k]?=some x->I k A->Asg w.heap.size A W->A.heap.size<=b->w.heap.size<=b->Bx W b T (Flat.enc x)->(∃r,W.heap[l]?=some (.loop r))->
   body.wpIn (RF l) (m-2) P (NN w.heap.size Kp (I (k+1)) Ix W) (act n (upd (upd L p (fv x)) d (.pointer (some ⟨b,0,none⟩))) []) W)
  (hsz:∀k A,I k A->w.heap.size<=A.heap.size)
  (hdone:∀D' W,w.heap.size<=D'->I xs.length W->W.heap[D']?=some (.deferred (some []))->Q .normal (act n L ({target:=.collected D',args:=#[]}::D)) W)
  (hstop:∀D' c W,w.heap.size<=D'->Ix c W->W.heap[D']?=some (.deferred (some []))->c.wp P Q (act n L ({target:=.collected D',args:=#[]}::D)) W):
  (Code.rangeFunc g #[p] (.region id #[{dst:=some d,op:=.alloc T,type:=ty,pos:=pos,after:=af,guard:=none},{dst:=none,op:=.store T (.tmp d) (.tmp p),type:=ty',pos:=pos',after:=af',guard:=none}] false) body).wp P Q (act n L D) w:=by
 obtain⟨gf,cs,rfl,hc,hs⟩:=hs;refine kN (m:=m) (ps:=[p]) (by omega) hKp hg hc hs (fun u hu=>by obtain⟨x,_,rfl⟩:=List.mem_map.1 hu;rfl) I Ix hI hIx h0 (fun l k u A K hl hu hi hK=>?_) (fun D' W h1 h2 h3=>hdone D' W h1 (by rwa [List.length_map]at h2) h3) hstop;rw[List.getElem?_map]at hu;obtain⟨x,hx,rfl⟩:=Option.map_eq_some_iff.1 hu;have hzl:=hT.zlen;refine Ov rfl<|D5 hT fun b w1 hx1 hg1 hb1=>?_;have e1:ev n (upd (upd L p (fv x)) d (.pointer (some ⟨b,0,none⟩))) (.tmp d)=.pointer (some ⟨b,0,none⟩):=by simp[ev,hd,upd]
 have e2:ev n (upd (upd L p (fv x)) d (.pointer (some ⟨b,0,none⟩))) (.tmp p)=fv x:=by
  simp only[ev,hp,upd,cond_true,hpd,cond_false];simp
 refine D8 e1 e2 (Jh x) hT hb1 (by rw[Flat.len,hk']) (List.all_eq_true.2 (Flat.one x)) (by rw[Flat.len,<-hk',hzl];omega) fun w2 hch hb2=>nl<|hK _ w2 (hx1.chg hch hg1) fun W2 o ho hc2 hnd hc3 hrc=>?_;have hb3:Bx w2 b T (Flat.enc x):=by
  have:BX z 0 (Flat.enc x)=Flat.enc x:=by simp[BX,Flat.len,<-hk',<-hzl]
  rwa [this]at hb2
 exact hround l k x A W2 b hx hi ⟨w2,l,o,by omega,hx1.chg hch hg1,ho,hc2,hnd,hc3⟩ hg1 (Nat.le_trans (hsz k A hi) hg1) (hb3.putne ho hc2 hc3) hrc
theorem kR{l0:Nat}{r0:Loop}(hl0:w.heap[l0]?=some (.loop r0)){α:Type}[Enc α][Flat α]{g:Operand}{p d id T bytes k':Nat}{agg:Bool}{z:List Value}{body:Code}{xs:List α}{Kp:World->World->Prop}{v:Value}{pos pos':String}{ty ty':TypeId}{af af':Array Edge}{m:Nat}(hm:8<=m)(hg:ev n L g=v)(hKp:KpOk w.heap.size Kp)(hs:∃gf cs,v=.func (.func gf) #[] cs/\AU P gf/\K3 P Kp (m-1) gf cs (xs.map fun x=>#[fv x]) w)(hp:Nat.blt p n=true)(hd:Nat.blt d n=true)(hpd:Nat.beq p d=false)
  (hT:TI P T agg k' bytes z) (hk':k'=Enc.n α)
  (I:Nat->World->Prop) (Ix:Code->World->Prop) (hI:∀k,Okb w.heap.size (I k)) (hIx:∀c,Okb w.heap.size (Ix c)) (h0:I 0 w)
  (hround:∀(l k:Nat)(x:α)(A W:World)(b:Nat),xs[k]?=some x->I k A->Asg w.heap.size A W->A.heap.size<=b->w.heap.size<=b->Bx W b T (Flat.enc x)->(∃r,W.heap[l]?=some (.loop r))->
   body.wpIn (RF l) (m-2) P (NN w.heap.size Kp (I (k+1)) Ix W) (act n (upd (upd L p (fv x)) d (.pointer (some ⟨b,0,none⟩))) []) W)
  (hsz:∀k A,I k A->w.heap.size<=A.heap.size)
  (hdone:∀W,I xs.length W->Q .normal (act n L D) W)
  (hstop:∀c W,Ix c W->c.wpIn (RF l0) m P Q (act n L D) W):
  (Code.rangeFunc g #[p] (.region id #[{dst:=some d,op:=.alloc T,type:=ty,pos:=pos,after:=af,guard:=none},{dst:=none,op:=.store T (.tmp d) (.tmp p),type:=ty',pos:=pos',after:=af',guard:=none}] false) body).wpIn (RF l0) m P Q (act n L D) w:=by
 obtain⟨gf,cs,rfl,hc,hs⟩:=hs;refine kP (m:=m) hl0 (ps:=[p]) (by omega) hKp hg hc hs (fun u hu=>by obtain⟨x,_,rfl⟩:=List.mem_map.1 hu;rfl) I Ix hI hIx h0 (fun l k u A K hl hu hi hK=>?_) (fun W h2=>hdone W (by rwa [List.length_map]at h2)) hstop;rw[List.getElem?_map]at hu;obtain⟨x,hx,rfl⟩:=Option.map_eq_some_iff.1 hu;have hzl:=hT.zlen;refine Ov rfl<|D5 hT fun b w1 hx1 hg1 hb1=>?_;have e1:ev n (upd (upd L p (fv x)) d (.pointer (some ⟨b,0,none⟩))) (.tmp d)=.pointer (some ⟨b,0,none⟩):=by simp[ev,hd,upd]
 have e2:ev n (upd (upd L p (fv x)) d (.pointer (some ⟨b,0,none⟩))) (.tmp p)=fv x:=by
  simp only[ev,hp,upd,cond_true,hpd,cond_false];simp
 refine D8 e1 e2 (Jh x) hT hb1 (by rw[Flat.len,hk']) (List.all_eq_true.2 (Flat.one x)) (by rw[Flat.len,<-hk',hzl];omega) fun w2 hch hb2=>nl<|hK _ w2 (hx1.chg hch hg1) fun W2 o ho hc2 hnd hc3 hrc=>?_;have hb3:Bx w2 b T (Flat.enc x):=by
  have:BX z 0 (Flat.enc x)=Flat.enc x:=by simp[BX,Flat.len,<-hk',<-hzl]
  rwa [this]at hb2
 exact hround l k x A W2 b hx hi ⟨w2,l,o,by omega,hx1.chg hch hg1,ho,hc2,hnd,hc3⟩ hg1 (Nat.le_trans (hsz k A hi) hg1) (hb3.putne ho hc2 hc3) hrc
end
end
section
section
variable {κ ν:Type}[DecidableEq κ][Enc κ][Flat κ][Key κ][Enc ν][Flat ν]
def MpS(w:World)(b:Nat)(l:List (κ×ν)):Prop:=
 ∃es clock,w.heap[b]?=some (.map es clock)/\es.toList.map (fun e=>(e.key,e.val))=l.map (fun p=>(fv p.1,fv p.2))/\(l.map (·.1)).Nodup/\(∀p∈l,Key.ok p.1=true)/\
  (es.toList.map (·.born)).Nodup/\∀e∈es.toList,e.born<clock
variable {w w':World}{b:Nat}{l:List (κ×ν)}
omit [DecidableEq κ]in
theorem MpS.mp(h:MpS w b l):Mp w b l:=by
 obtain⟨es,c,h1,h2,h3,h4,_⟩:=h;exact⟨es,c,h1,h2,h3,h4⟩
omit [DecidableEq κ]in
theorem MpS.same(h:MpS w b l)(k:w'.heap[b]?=w.heap[b]?):MpS w' b l:=by
 obtain⟨es,c,h1,h⟩:=h;exact⟨es,c,k.trans h1,h⟩
omit [DecidableEq κ]in
theorem MpS.lt(h:MpS w b l):b<w.heap.size:=by
 obtain⟨es,c,h1,_⟩:=h;exact(Array.getElem?_eq_some_iff.1 h1).1
omit [DecidableEq κ]in
theorem MpS.ext(h:MpS w b l)(k:Ext w w'):MpS w' b l:=h.same (k.block b h.lt)
omit [DecidableEq κ]in
theorem MpS.chg{c:Nat}(h:MpS w b l)(k:Chg c w w')(hne:b≠c):MpS w' b l:=h.same (k.other b hne)
omit [DecidableEq κ]in
theorem MpS.belp{ok:Nat->Prop}{N:Nat}(h:MpS w b l)(k:BelP ok N w w')(hb:b<N)(h1:ok b):MpS w' b l:=h.same (k.block b hb h1)
omit [DecidableEq κ]in
theorem MpS.tak{B:Nat}(h:MpS w b l)(k:Tak B w w'):MpS w' b l:=by
 obtain⟨es,c,h1,h⟩:=h;exact⟨es,c,k.old _ _ h1 nofun,h⟩
omit [DecidableEq κ]in
theorem MpS.asg{B:Nat}(h:MpS w b l)(k:Asg B w w')(hb:b<B):MpS w' b l:=by
 obtain⟨W1,q,o,hl,h1,h2,h3,_,h4⟩:=k;exact(h.ext h1).chg h4 (by omega)
omit [DecidableEq κ]in
theorem Okb.mps{B:Nat}(hb:b<B):Okb B (fun w=>MpS w b l):=⟨fun h k=>h.ext k,fun h hB _ _ k=>h.chg k (by omega)⟩
omit [DecidableEq κ]in
theorem MpS.below{B:Nat}(h:MpS w b l)(k:Below B w w')(hB:b<B):MpS w' b l:=h.same (k.block b hB)
omit [DecidableEq κ]in
theorem MpS.new(w:World):MpS (κ:=κ) (ν:=ν) (w.alloc (.map #[] 0)) w.heap.size []:=
 ⟨#[],0,by show(w.heap.push _)[w.heap.size]?=_;rw[Array.getElem?_push,if_pos rfl],rfl,by simp,by simp,by simp,by simp⟩
theorem bH(l:List (κ×ν))(k:κ)(d v:ν):A8 d (BM l k v) k=v:=by
 induction l with
 |nil=>simp[BM,A8]
 |cons p l ih=>
  obtain⟨a,c⟩:=p;by_cases h:a=k
  ·simp[BM,A8,h]
  ·simp[BM,A8,h,ih]
theorem bI(l:List (κ×ν))(k:κ)(u v:ν):BM (BM l k u) k v=BM l k v:=by
 induction l with
 |nil=>simp[BM]
 |cons p l ih=>
  obtain⟨a,c⟩:=p;by_cases h:a=k
  ·simp[BM,h]
  ·simp[BM,h,ih]
theorem UU{l:List MapEntry}(hn:(l.map (·.born)).Nodup){j:Nat}{e0:MapEntry}(h:l[j]?=some e0):l.findIdx? (fun e=>((e.born:Nat):Int)==((e0.born:Nat):Int))=some j:=by
 induction l generalizing j with
 |nil=>simp at h
 |cons a r ih=>
  simp only[List.map_cons,List.nodup_cons]at hn;cases j with
  |zero=>
   simp only[List.getElem?_cons_zero,Option.some.injEq]at h;subst h;simp[List.findIdx?_cons]
  |succ j=>
   simp only[List.getElem?_cons_succ]at h;have hne:a.born≠e0.born:=fun e1=>hn.1 (List.mem_map.2 ⟨e0,List.mem_of_getElem? h,e1.symm⟩);have hb:(((a.born:Nat):Int)==((e0.born:Nat):Int))=false:=by
    simp only[beq_eq_false_iff_ne,ne_eq,Int.natCast_inj];exact hne
   rw[List.findIdx?_cons,hb];simp[ih hn.2 h]
theorem Rq{P:Program}{t:TypeId}{j:Nat}{k:κ}{u v:ν}{es:Array MapEntry}{clock:Nat}{e0:MapEntry}(hb:w.heap[b]?=some (.map es clock))(he:es.toList.map (fun e=>(e.key,e.val))=l.map (fun p=>(fv p.1,fv p.2)))
  (hn:(l.map (·.1)).Nodup) (hok:∀p∈l,Key.ok p.1=true) (hs:(es.toList.map (·.born)).Nodup) (hc:∀e∈es.toList,e.born<clock) (hl:l[j]?=some (k,u)) (h0:es.toList[j]?=some e0):
  ∃w',(Instr.entryStore t (.map (some b)) (goInt e0.born) (fv v)).run P w=.ok () w'/\Chg b w w'/\MpS w' b (BM l k v):=by
 obtain⟨h5,h6⟩:=J3 (w:=w) (o:=.map (es.modify j (fun e'=>{e' with val:=fv v})) clock) hb;have hidx:es.findIdx? (fun e=>((e.born:Nat):Int)==((e0.born:Nat):Int))=some j:=by
  have:=UU hs h0;cases es;simpa using this
 have hmod:(es.modify j (fun e'=>{e' with val:=fv v})).toList=es.toList.set j {e0 with val:=fv v}:=by rw[Array.toList_modify,ChangeMaps.modify_eq_set _ _ _ e0 h0]
 obtain⟨p,hp,hk1,hk2⟩:=Qz he h0;rw[hl]at hp;cases hp;refine⟨_,?_,h5,_,_,h6,?_,Kz hn,fun p hp=>?_,?_,fun e h=>?_⟩
 ·simp[Instr.entryStore,MapKept.run_getObj_map hb,asInt,asIntOf,goInt,hidx,MapKept.run_setObj_map _ hb,Result.andThen,ChangeMaps.setBlock]
 ·rw[(J2 (d:=v) hn hl).2.2.1 v,hmod,List.map_set,he,List.map_set,hk1]
 ·rcases mput_keys hp with rfl|hp
  ·exact hok (k,u) (List.mem_of_getElem? hl)
  ·exact hok p hp
 ·rw[hmod,List.map_set]
  have:(es.toList.map (·.born)).set j e0.born=es.toList.map (·.born):=by
   apply List.ext_getElem?;intro i;rw[List.getElem?_set];split
   ·rename_i h;subst h
    rw[List.getElem?_map,h0];have:=(List.getElem?_eq_some_iff.1 h0).1;simpa using this
   ·rfl
  simp only at this⊢;rw[this];exact hs
 ·rw[hmod]at h
  rcases List.mem_or_eq_of_mem_set h with h|rfl
  ·exact hc e h
  ·exact hc e0 (List.mem_of_getElem? h0)
theorem bJ{P:Program}{t tk te:TypeId}{k:κ}{d:ν}(ht:P.underlying t=some (.map tk te))(K:KT P tk κ)(hz:(zeroValue te).run P w=.ok (fv d) w)(h:MpS w b l)(hk:Key.ok k=true):
  ∃(v0:Value)(st:Nat)(w1:World),(Instr.mapEntry t (.map (some b)) (fv k)).run P w=.ok (.tuple #[v0,goInt st]) w1/\Chg b w w1/\MpS w1 b (BM l k (A8 d l k))/\
   ∀v:ν,∃w2,(Instr.entryStore t (.map (some b)) (goInt st) (fv v)).run P w1=.ok () w2/\Chg b w1 w2/\MpS w2 b (BM l k v):=by
 obtain⟨es,c,hb,he,hn,hok,hs,hc⟩:=h;obtain⟨lk,hlk⟩:=K.of k hk;rcases Mp.find K he hok hk w with⟨h1,h2⟩|⟨j,u,h1,h2,e,h3,h4⟩
 ·obtain⟨h5,h6⟩:=J3 (w:=w) (o:=.map (es.push ⟨fv k,fv d,c⟩) (c+1)) hb
  obtain⟨g1,_,g3,_⟩:=JM (d:=d) h2;have he':(es.push ⟨fv k,fv d,c⟩).toList.map (fun e=>(e.key,e.val))=(l++[(k,d)]).map (fun p=>(fv p.1,fv p.2)):=by
   rw[Array.toList_push,List.map_append,he];simp
  have hn':((l++[(k,d)]).map (·.1)).Nodup:=by rw[<-g3];exact Kz hn
  have hok':∀p∈l++[(k,d)],Key.ok p.1=true:=fun p hp=>by
   rcases List.mem_append.1 hp with hp|hp
   ·exact hok p hp
   ·simp at hp;subst hp;exact hk
  have hs':((es.push ⟨fv k,fv d,c⟩).toList.map (·.born)).Nodup:=by
   simp only[Array.toList_push,List.map_append,List.map_cons,List.map_nil];refine List.nodup_append.2 ⟨hs,by simp,fun a ha q hq e1=>?_⟩;simp only[List.mem_singleton]at hq;obtain⟨x,hx,rfl⟩:=List.mem_map.1 ha;have:=hc x hx;omega
  have hc':∀e∈(es.push ⟨fv k,fv d,c⟩).toList,e.born<c+1:=fun e h=>by
   rw[Array.toList_push]at h;rcases List.mem_append.1 h with h|h
   ·have:=hc e h;omega
   ·simp at h;subst h;show c<c+1;omega
  have hlen:es.toList.length=l.length:=by have:=congrArg List.length he;simpa using this
  refine⟨fv d,c,_,?_,h5,?_,fun v=>?_⟩
  ·simp[Instr.mapEntry,run_underlying ht,MapKept.run_getObj_map hb,K.kd.check w false hlk,h1,hz,MapKept.run_setObj_map _ hb,Result.andThen,ChangeMaps.setBlock]
  ·rw[g1,g3]
   exact⟨_,_,h6,he',hn',hok',hs',hc'⟩
  ·have h7:=Rq (P:=P) (t:=t) (v:=v) (j:=l.length) (k:=k) (u:=d) (e0:=⟨fv k,fv d,c⟩) h6 he' hn' hok' hs' hc' (by simp) (by rw[Array.toList_push,<-hlen];simp)
   obtain⟨w2,r1,r2,r3⟩:=h7;refine⟨w2,r1,r2,?_⟩;rwa [<-g3 d,bI]at r3
 ·obtain⟨h5,h6⟩:=J3 (w:=w) (o:=.map (es.modify j (fun e'=>{e' with key:=fv k})) c) hb
  obtain⟨g1,_,g3,_⟩:=J2 (d:=d) hn h2;have h3':es.toList[j]?=some e:=by simpa using h3
  have hsame:es.modify j (fun e'=>{e' with key:=fv k})=es:=by
   apply Array.ext';rw[Array.toList_modify,ChangeMaps.modify_eq_set _ _ _ e h3'];have:({e with key:=fv k}:MapEntry)=e:=by rw[<-h4]
   rw[this];apply List.ext_getElem?;intro i;rw[List.getElem?_set];split
   ·rename_i h;subst h
    rw[h3'];split
    ·rfl
    ·rename_i h;exact(h (List.getElem?_eq_some_iff.1 h3').1).elim
   ·rfl
  have hput:BM l k u=l:=by
   rw[g3 u];apply List.ext_getElem?;intro i;rw[List.getElem?_set];split
   ·rename_i h;subst h
    rw[h2];split
    ·rfl
    ·rename_i h;exact(h (List.getElem?_eq_some_iff.1 h2).1).elim
   ·rfl
  rw[hsame]at h5 h6;refine⟨fv u,e.born,_,?_,h5,?_,fun v=>Rq (j:=j) (u:=u) h6 he hn hok hs hc h2 h3'⟩
  ·simp[Instr.mapEntry,run_underlying ht,MapKept.run_getObj_map hb,K.kd.check w false hlk,h1,h3,h4,K.kd.stays w hlk,hsame,MapKept.run_setObj_map _ hb,Result.andThen,ChangeMaps.setBlock]
  ·rw[g1,hput]
   exact⟨_,_,h6,he,hn,hok,hs,hc⟩
end
theorem Mks.belpd{B:Nat}{ok:Nat->Prop}{D:List Deferred}{w w1:World}(h:Mks B D w)(k:BelP ok w.heap.size w w1)(hk:∀q,B<=q->w.heap[q]?=some (.deferred (some []))->ok q):Mks B D w1:=by
 obtain⟨rs,e,hn,h⟩:=h;exact⟨rs,e,hn,fun r hr=>⟨(h r hr).1,(k.block r (Array.getElem?_eq_some_iff.1 (h r hr).2).1 (hk r (h r hr).1 (h r hr).2)).trans (h r hr).2⟩⟩
section
variable {P:Program}{Q:Exit->Act->World->Prop}{n:Nat}{L:Fr}{D:List Deferred}{w:World}{ops:Array Oper}{rest:List Oper}
variable {ty:TypeId}{pos:String}{af:Array Edge}{x y z:Operand}{t tk te:TypeId}
variable {κ ν:Type}[DecidableEq κ][Enc κ][Flat κ][Key κ][Enc ν][Flat ν]
theorem tH{d b:Nat}{l:List (κ×ν)}{k:κ}{u:ν}(hx:ev n L x=.map (some b))(hy:ev n L y=fv k)(ht:P.underlying t=some (.map tk te))(K:KT P tk κ)(hz:(zeroValue te).run P w=.ok (fv u) w)(h:MpS w b l)(hk:Key.ok k=true)
  (cont:∀(v0:Value)(st:Nat)w1,Chg b w w1->MpS w1 b (BM l k (A8 u l k))->(∀v:ν,∃w2,(Instr.entryStore t (.map (some b)) (goInt st) (fv v)).run P w1=.ok () w2/\Chg b w1 w2/\MpS w2 b (BM l k v))->
   wpList P ops Q rest (act n (upd L d (.tuple #[v0,goInt st])) D) w1):
  wpList P ops Q ({dst:=some d,op:=.mapEntry t x y,type:=ty,pos:=pos,after:=af,guard:=none}::rest) (act n L D) w:=by
 obtain⟨v0,st,w1,h1,h2,h3,h4⟩:=bJ ht K hz h hk;exact Zv (v:=.tuple #[v0,goInt st]) (w':=w1) (by simp[execOp,hx,hy,h1]) (cont v0 st w1 h2 h3 h4)
theorem tJ{b st:Nat}{v:ν}{w2:World}(hx:ev n L x=.map (some b))(hy:ev n L y=goInt st)(hz:ev n L z=fv v)(h:(Instr.entryStore t (.map (some b)) (goInt st) (fv v)).run P w=.ok () w2)(cont:wpList P ops Q rest (act n L D) w2):
  wpList P ops Q ({dst:=none,op:=.entryStore t x y z,type:=ty,pos:=pos,after:=af,guard:=none}::rest) (act n L D) w:=by
 refine wpList_plain rfl fun K hK=>?_;simp only[Oper.wp,EX,execOp,hx,hy,hz,Sem.run_bind,h,Result.andThen,Oper.upon];exact hK _ _ cont
theorem tK{d:Nat}(cont:∀b w',Ext w w'->w.heap.size<=b->MpS (κ:=κ) (ν:=ν) w' b []->wpList P ops Q rest (act n (upd L d (.map (some b))) D) w'):
  wpList P ops Q ({dst:=some d,op:=.makeMap t none,type:=ty,pos:=pos,after:=af,guard:=none}::rest) (act n L D) w:=
 Zv (v:=.map (some w.heap.size)) (w':=w.alloc (.map #[] 0)) (by simp[execOp,RowKit.run_makeMap]) (cont _ _ (Ext.alloc _ _) (Nat.le_refl _) (MpS.new w))
end
end
end Go.Md
end
section
namespace Go.Proofs.YtfmelbioccbdoaaGreat
open Go Go.Md Go.RowKit
attribute [local irreducible] Go.wpList Go.Code.wp Go.Calls Go.Md.FN Go.Md.Mt Go.Md.Gf Go.Md.EO Go.Code.wpIn Go.wpListIn
abbrev Ia:=List ((Int×Int)×Int)
def Ng(x:BV)(m:Nat)(ways step:Int):List Az->Ba->Ia->Option (Ba×Ia)
 |[],A,O=>some (A,O)
 |u::l,A,O=>
  (Ch x m A u)>>=fun q=>
  if decide (0<AZ (ways*q.1))=true then
   (L6 ((step,u.2):Int×Int))>>=fun _=>Ng x m ways step l q.2 (BM O (step,u.2) (AZ (A8 0 O (step,u.2)+AZ (ways*q.1))))
  else Ng x m ways step l q.2 O
def NC(x:BV)(m:Nat)(step:Int):List Az->Ba->Ba->Ia->Option (Ia×Ba×Ba)
 |[],A,U,O=>some (O,A,U)
 |s::l,A,U,O=>
  (Gz x m U s)>>=fun c=>(GR x s)>>=fun bl=>(Ng x m c.1 step bl A O)>>=fun r=>NC x m step l r.1 c.2 r.2
def ND(x:BV)(m:Nat):Nat->Nat->Ba->Ba->Ia->Option (Ia×Ba×Ba)
 |0,_,A,U,O=>some (O,A,U)
 |n+1,k,A,U,O=>(JU x (k:Int))>>=fun l=>(NC x m (k:Int) l A U O)>>=fun r=>ND x m n (k+1) r.2.1 r.2.2 r.1
def MJ(x:BV)(m:Nat)(A U:Ba):Option (Ia×Ba×Ba):=ND x m x.2.1.length 0 A U []
theorem bK{ok:Nat->Prop}{N:Nat}{w w':World}{l:Nat}{r:Loop}(h:w.heap[l]?=some (.loop r))(k:BelP ok N w w')(hl:l<N)(h1:ok l):w'.heap[l]?=some (.loop r):=(k.block l hl h1).trans h
theorem kS{κ ν:Type}[DecidableEq κ][Enc κ][Flat κ][Key κ][Enc ν][Flat ν]{w:World}{l b:Nat}{r:Loop}{x:List (κ×ν)}(h:w.heap[l]?=some (.loop r))(m:Mp w b x):l≠b:=by
 rintro rfl;obtain⟨es,c,h1,_⟩:=m;rw[h]at h1;cases h1
set_option maxHeartbeats 16000000 in
theorem yA{x:BV}{m:Nat}{w0:World}{b ma mu N:Nat}{A U:Ba}{r:Ia×Ba×Ba}(hT0:Tb N w0 b ma mu x)(ha0:Mp w0 ma A)(hu0:Mp w0 mu U)(hF:MJ x m A U=some r):
  Calls Tryz.prog 118 [.pointer (some ⟨b,0,none⟩)].toArray w0 (BN fun v w'=>∃bm,v=.map (some bm)/\w0.heap.size<=bm/\MpS w' bm r.1/\Mp w' ma r.2.1/\Mp w' mu r.2.2/\BelP (fun q=>q≠ma/\q≠mu) w0.heap.size w0 w'):=by
 unfold MJ at hF;refine Ud (m:=12) (n:=48) Tryz.func118 rfl rfl rfl<|Zr<|Cw rfl rfl fun b1 w1 hx1 hg1 hb1=>Za<|nl<|Zr<|tK (κ:=Int×Int) (ν:=Int) fun bm w2 hx2 hg2 hm2=>D5 UZ fun b3 w3 hx3 hg3 hb3=>D8 rfl rfl rfl UZ hb3 rfl rfl (ble rfl) fun w4 hch4 hb4=>?_;have kx4:Ext w2 w4:=hx3.chg hch4 hg3;have k2:=hx1.tr hx2;have k4:=k2.tr kx4;have t1:=(hb1.ext hx2).ext kx4;have h3:Bx w4 b3 203 [.map (some bm)]:=hb4;have mm:=hm2.ext kx4;have T4:=hT0.ext k4;have ha4:=ha0.ext k4;have hu4:=hu0.ext k4;have z1:=hx1.size;have z2:=k2.size;have z4:=k4.size;have zx4:=kx4.size;have la:=ha0.lt;have lu:=hu0.lt;have lt1:=hb1.lt;have lm:=hm2.lt;have l3:=h3.lt;have na1:b1≠ma:=fun e=>(ha4.not_cells t1) e.symm;have nu1:b1≠mu:=fun e=>(hu4.not_cells t1) e.symm;have nm1:b1≠bm:=fun e=>(mm.mp.not_cells t1) e.symm;have na3:b3≠ma:=fun e=>(ha4.not_cells h3) e.symm;have nu3:b3≠mu:=fun e=>(hu4.not_cells h3) e.symm;have nm3:b3≠bm:=fun e=>(mm.mp.not_cells h3) e.symm;have nmu:ma≠mu:=hT0.ne;have gm:w0.heap.size<=bm:=by omega
 have nma:bm≠ma:=by omega
 have num:bm≠mu:=by omega
 have hNs:=hT0.size;generalize hbase:w4.heap.size=base at l3;have hz:=T4.steps;obtain⟨a1,c1,h4,hs4⟩:=hz;have hlen:=(RVo.rv hs4).cap;refine nl<|wp_seq<|Zr<|Zv (AR rfl Em ((Bx.cs t1).at 0 rfl))<|Zv (Bc rfl)<|Zv (AX rfl FO)<|Zv (AR rfl Jf h4)<|Zv (Ao rfl Tryz.underlying51)<|Zm<|nl<|mh w0.heap.size (fun L w=>L 3=.pointer (some ⟨b3,0,none⟩)/\Bx w b3 203 [.map (some bm)]/\MpS w bm r.1/\Mp w ma r.2.1/\Mp w mu r.2.2/\BelP (fun q=>q≠ma/\q≠mu) w0.heap.size w0 w) ?_ ?_
 ·refine wp_block<|uM w0.heap.size (I:=fun m' L w=>∃(k:Nat)(A U:Ba)(O:Ia),k+m'=x.2.1.length/\ND x m m' k A U O=some r/\L 15=.int .i64 (k:Int)/\L 14=.int .i64 (x.2.1.length:Int)/\L 1=.pointer (some ⟨b1,0,none⟩)/\L 3=.pointer (some ⟨b3,0,none⟩)/\
    Bx w b1 177 [.pointer (some ⟨b,0,none⟩)]/\Bx w b3 203 [.map (some bm)]/\MpS w bm O/\Mp w ma A/\Mp w mu U/\Tb N w b ma mu x/\BelP (fun q=>q≠ma/\q≠mu) w0.heap.size w0 w/\base<=w.heap.size) x.2.1.length Mks.nil
   ⟨0,A,U,[],by simp,hF,rfl,rfl,rfl,rfl,t1,h3,mm,ha4,hu4,T4,BelP.of k4 (Nat.le_refl _),Nat.le_of_eq hbase.symm⟩ ?_
  clear hF t1 h3 mm ha4 hu4 T4 h4 hs4;rintro m' L D w hM⟨k,A,U,O,hk,hB,l15,l14,l1,l3',t1,h3,mm,ha,hu,T,hx,hbs⟩;refine Zr<|Zv (BL l15 l14)<|nl<|wp_seq<|cnd rfl (fun hc0=>?_) (fun hc0=>?_)
  ·have hc0:(k:Int)<(x.2.1.length:Int):=by simpa using hc0
   obtain⟨k',rfl⟩:∃k',m'=k'+1:=⟨m'-1,by omega⟩;rw[ND]at hB;refine bS hB fun l El hB=>bS hB fun r2 E2 hB=>?_;have hadd:AZ ((k:Int)+1)=((k+1:Nat):Int):=by
    have hmx:x.2.1.length<=maxLen:=by omega
    rw[AZ,IntWalk.i64_in _ (by unfold maxLen at hmx;omega)]
    rfl
   refine wp_skip<|wp_seq<|wp_block<|Zr<|Zv (Aq l15)<|D5 Aa fun b4 w5 hx5 hg5 hb5=>D8 rfl rfl rfl Aa hb5 rfl rfl (ble rfl) fun w6 hch6 hb6=>?_;have kx6:Ext w w6:=hx5.chg hch6 hg5;have h46:Bx w6 b4 3 [.int .i64 (k:Int)]:=hb6;have t6:=t1.ext kx6;have h36:=h3.ext kx6;have m6:=mm.ext kx6;have a6:=ha.ext kx6;have u6:=hu.ext kx6;have T6:=T.ext kx6;refine nl<|Zr<|Zv (AR l1 Em ((Bx.cs t6).at 0 rfl))<|Zv (AR rfl Aa ((Bx.cs h46).at 0 rfl))<|Zc (xc qz (mc rfl<|mc rfl mn)) (xu (b:=b) (step:=(k:Int))) fun v w7 hv=>?_;obtain⟨hst,hx7⟩:=hv;have kx7:=kx6.tr hx7;have h47:=h46.ext hx7;have t7:=t6.ext hx7;have h37:=h36.ext hx7;have m7:=m6.ext hx7;have a7:=a6.ext hx7;have u7:=u6.ext hx7;have T7:=T6.ext hx7;have hM7:=hM.ext kx7;have z6:=kx6.size;have z7:=hx7.size;have z07:=hx.size;have l47:=h47.lt;have g4:base<=b4:=by omega
   have na4:b4≠ma:=by omega
   have nu4:b4≠mu:=by omega
   have nm4:b4≠bm:=by omega
   have hla7:ma<w7.heap.size:=by omega
   have hlu7:mu<w7.heap.size:=by omega
   have hlm7:bm<w7.heap.size:=by omega
   have hseq:=hst.go (N:=N) (ok:=fun q=>q≠ma/\q≠mu/\q≠bm) T7 (fun q h1 h2 h3=>⟨h2,h3,by omega⟩) (fun q h1=>⟨by omega,by omega,by omega⟩) El 11;refine nl<|wp_block<|kQ (α:=Az) (xs:=l) (m:=12) (by decide) rfl KpOk.belp hseq rfl rfl rfl Cz rfl
    (fun j W=>∃(A U:Ba)(O:Ia),NC x m (k:Int) (l.drop j) A U O=some r2/\Mp W ma A/\Mp W mu U/\MpS W bm O/\BelP (fun q=>q≠ma/\q≠mu/\q≠bm) w7.heap.size w7 W/\w7.heap.size<=W.heap.size/\Mks w0.heap.size D W)
    (fun _ _=>False) (fun k=>Okb.ex fun _=>Okb.ex fun _=>Okb.ex fun _=>Okb.pure.and ((Okb.mp hla7).and ((Okb.mp hlu7).and ((Okb.mps hlm7).and ((Okb.belp (Nat.le_refl _) (Nat.le_refl _)).and (Okb.size.and (Okb.mks hM7 rfl))))))) (fun _=>Okb.pure)
    ⟨A,U,O,E2,a7,u7,m7,BelP.refl,Nat.le_refl _,hM7⟩ ?round (fun k W h=>by obtain⟨_,_,_,_,_,_,_,_,h,_⟩:=h;exact h) ?done (fun _ _ _ _ h _=>h.elim)
   case round=>
    rintro ll j s A1 W b5 hu'⟨A,U,O,hB2,i1,i2,i3,i4,i5,i6⟩ hA hg8 hg8' hb8⟨rec,hrec⟩;rw[MX hu',NC]at hB2;refine bS hB2 fun c Ec hB2=>bS hB2 fun bl Eb hB2=>bS hB2 fun r3 E3 hB2=>?_;have i1:=i1.asg hA hla7;have i2:=i2.asg hA hlu7;have i3:=i3.asg hA hlm7;have i4:=i4.asg hA i5 (Nat.le_refl _);have i6:=i6.asg hA;have hW:w7.heap.size<=W.heap.size:=i4.size;have jt:=t7.belp i4 t7.lt ⟨na1,nu1,nm1⟩;have Tg:=T7.belp i4 T7.size (fun q h1 h2 h3=>⟨h2,h3,by omega⟩);have nu5:b5≠mu:=by omega
    have na5:b5≠ma:=by omega
    have nm5:b5≠bm:=by omega
    refine wpIn_block<|wpIn_seq<|Ov rfl<|Zv (AR l1 Em ((Bx.cs jt).at 0 rfl))<|Zv (Ad rfl Cz (Flat.len s) (Bx.cs hb8))<|Zc (xc iT (mc rfl<|mc rfl mn)) (xq m Tg i2 Ec) ?_;rintro _ w8⟨rfl,hu8,hp8⟩;have hs8:=hp8.size;refine D5 CX fun b6 w9 hx9 hg9 hb9=>D8 rfl rfl rfl CX hb9 rfl rfl (ble rfl) fun w10 hch10 hb10=>?_;have kx10:Ext w8 w10:=hx9.chg hch10 hg9;have h6:Bx w10 b6 2 [.int .i64 c.1]:=hb10;have hp10:BelP (fun q=>q≠mu) W.heap.size W w10:=hp8.ext kx10 hs8;have hs10:=hp10.size;have j1:=jt.belp hp10 jt.lt nu1;have j8:=hb8.belp hp10 hb8.lt nu5;have Th:=Tg.belp hp10 Tg.size (fun q h1 h2 h3=>h3);refine nl<|wpIn_seq<|Ov rfl<|Zv (AR l1 Em ((Bx.cs j1).at 0 rfl))<|Zv (Ad rfl Cz (Flat.len s) (Bx.cs j8))<|Zc (xc YA (mc rfl<|mc rfl mn)) (gP (b:=b) (s:=s)) fun v2 w11 hv=>?_;obtain⟨hbh,hx11⟩:=hv;have hp11:BelP (fun q=>q≠mu) W.heap.size W w11:=hp10.ext hx11 hs10;have hs11:=hx11.size;have hl11:=bK hrec hp11 (Array.getElem?_eq_some_iff.1 hrec).1 (kS hrec i2);have a11:=i1.belp hp11 i1.lt nmu;have m11:=i3.belp hp11 i3.lt num;have u11:=(hu8.ext kx10).ext hx11;have T11:=Th.ext hx11;have g6:=h6.ext hx11;have q1:=j1.ext hx11;have q3:=(h37.belp i4 h37.lt ⟨na3,nu3,nm3⟩).belp hp11 (by have:=h37.lt;omega) nu3;have q4:=(h47.belp i4 h47.lt ⟨na4,nu4,nm4⟩).belp hp11 (by omega) nu4;have M11:Mks w0.heap.size D w11:=i6.belp hp11 (fun q h1=>by omega);have n6a:b6≠ma:=by omega
    have n6m:b6≠bm:=by omega
    have n6u:b6≠mu:=by omega
    have hla11:ma<w11.heap.size:=by omega
    have hlm11:bm<w11.heap.size:=by omega
    have hseq2:=hbh.go (N:=N) (ok:=fun q=>q≠ma/\q≠bm) T11 (fun q h1 h2 h3=>⟨h2,by omega⟩) (fun q h1=>by have:=kx10.size;exact⟨by omega,by omega⟩) Eb 9;refine nl<|wpIn_block<|kR hl11 (α:=Az) (xs:=bl) (m:=10) (by decide) rfl KpOk.belp hseq2 rfl rfl rfl Cz rfl
     (fun i V=>∃(A:Ba)(O:Ia),Ng x m c.1 (k:Int) (bl.drop i) A O=some r3/\Mp V ma A/\MpS V bm O/\BelP (fun q=>q≠ma/\q≠bm) w11.heap.size w11 V/\w11.heap.size<=V.heap.size)
     (fun _ _=>False) (fun k=>Okb.ex fun _=>Okb.ex fun _=>Okb.pure.and ((Okb.mp hla11).and ((Okb.mps hlm11).and ((Okb.belp (Nat.le_refl _) (Nat.le_refl _)).and Okb.size)))) (fun _=>Okb.pure)
     ⟨A,O,E3,a11,m11,BelP.refl,Nat.le_refl _⟩ ?round2 (fun k W h=>by obtain⟨_,_,_,_,_,_,h⟩:=h;exact h) ?done2 (fun _ _ h=>h.elim)
    case round2=>
     rintro lk i u A2 V b7 hv'⟨A,O,hB3,e1,e2,e3,e4⟩ hA2 hg7 hg7' hb7⟨rec2,hrec2⟩;rw[MX hv',Ng]at hB3;refine bS hB3 fun q Eq hB3=>?_;have e1:=e1.asg hA2 hla11;have e2:=e2.asg hA2 hlm11;have e3:=e3.asg hA2 e4 (Nat.le_refl _);have hV:w11.heap.size<=V.heap.size:=e3.size;refine wpIn_block<|wpIn_seq<|Ug (fun wd w'=>BelP (fun q=>q≠ma) wd.heap.size wd w') [] (.pure false 0 (.pure false 1 (.pure false 2 (.eff 3 (.pure true 4 (.pure true 5 .fin)) .stop)))) mixed (by kernel_rfl) (fun wg hxg=>?_);have e3g:=e3.ext hxg hV;have s6:=g6.belp e3g g6.lt ⟨n6a,n6m⟩;have s1:=q1.belp e3g q1.lt ⟨na1,nm1⟩;have s7:=hb7.ext hxg;have sT:=T11.belp e3g T11.size (fun q h1 h2 h3=>⟨h2,by omega⟩);have sa:=e1.ext hxg;have sm:=e2.ext hxg;have n7a:b7≠ma:=by omega
     have n7m:b7≠bm:=by omega
     have zg:=hxg.size;refine Zq rfl (fun _ hS=>AR rfl CX ((Bx.cs (s6.belp (hS.resolve_left nofun) s6.lt n6a)).at 0 rfl)) BelP.refl<|Zq rfl (fun _ hS=>AR l1 Em ((Bx.cs (s1.belp (hS.resolve_left nofun) s1.lt na1)).at 0 rfl)) BelP.refl<|Zq rfl (fun _ hS=>Ad rfl Cz (Flat.len u) (Bx.cs (s7.belp (hS.resolve_left nofun) s7.lt n7a))) BelP.refl<|Br rfl<|Zc (xc Ub (mc rfl<|mc rfl mn)) (gQ m sT sa Eq) ?_;rintro _ w12⟨rfl,ha12,hp12⟩;refine nl ⟨fun _ h=>h.trans hp12,?_⟩;refine Zp rfl (fun _=>mE rfl rfl)<|Zp rfl (fun _=>GU)<|?_;have z12:=hp12.size;have p12:BelP (fun q=>q≠ma/\q≠bm) w11.heap.size V w12:=(BelP.of hxg hV).trans (hp12.weak fun q h1 h2=>⟨by omega,h2.1⟩);have kf12:KeepsFrom w11.heap.size V w12:=hxg.kf.trans (hp12.kf fun q h1=>by omega);have mb12:=sm.belp hp12 sm.lt nma;refine wpIn_seq<|Ov rfl<|Zm<|Zv (Ig rfl rfl)<|nl<|dx rfl (fun hf=>?_) (fun hf=>?_)
     ·have hB3:=Ah hB3 hf
      refine bS hB3 fun _ Ek hB3=>?_;have hkey:=Ji Ek;have s3:=((q3.belp e3g q3.lt ⟨na3,nm3⟩).belp hp12 (by have:=q3.lt;omega) na3);have s4:=((q4.belp e3g q4.lt ⟨na4,nm4⟩).belp hp12 (by have:=q4.lt;omega) na4);have s7':=s7.belp hp12 s7.lt n7a;refine Ug (fun wd w'=>BelP (fun q=>q≠bm) wd.heap.size wd w'/\∃O',MpS w' bm O'/\A8 0 O' (((k:Int),u.2):Int×Int)=A8 0 O ((k:Int),u.2)) [10] (.pure false 0 (.pure false 1 (.pure true 2 (.pure false 3 (.pure true 4 (.pure false 5 (.pure true 6 (.pure true 7 (.eff 8 (.pure true 9 (.eff 10 .fin .stop)) .stop))))))))) mixed (by kernel_rfl) (fun wh hxh=>?_);have r3':=s3.ext hxh;have r4':=s4.ext hxh;have r7':=s7'.ext hxh;have rm:=mb12.ext hxh;have hS0:BelP (fun q=>q≠bm) wh.heap.size wh wh/\∃O',MpS wh bm O'/\A8 0 O' (((k:Int),u.2):Int×Int)=A8 0 O ((k:Int),u.2):=⟨BelP.refl,O,rm,rfl⟩;refine Zq rfl (fun _ hS=>AR l3' UZ ((Bx.cs (r3'.belp (hS.resolve_left nofun).1 r3'.lt nm3)).at 0 rfl)) hS0<|Zq rfl (fun _ hS=>AR rfl Aa ((Bx.cs (r4'.belp (hS.resolve_left nofun).1 r4'.lt nm4)).at 0 rfl)) hS0<|Zp rfl (fun _=>AX rfl Kl)<|Zq rfl (fun _ hS=>AR rfl Aa ((Bx.cs (r7'.belp (hS.resolve_left nofun).1 r7'.lt n7m)).at 1 rfl)) hS0<|Zp rfl (fun _=>IW (r:=[.int .i64 (k:Int),.int .i64 u.2]) Qu iL (pc rfl (pc rfl pn)) rfl)<|pv rfl rfl rfl (v:=fv (A8 0 O (((k:Int),u.2):Int×Int))) (fun w' hS=>by
       obtain⟨_,O',h1,h2⟩:=hS.resolve_left nofun;rw[<-h2];exact YG (d:=(0:Int)) Tryz.underlying203 Uf (bG _) h1.mp hkey rfl rfl) (.inr hS0)<|Zn rfl<|Zp rfl (fun _=>Aw rfl rfl)<|?_
      refine Br rfl<|tH (k:=(((k:Int),u.2):Int×Int)) (u:=(0:Int)) rfl rfl Tryz.underlying203 Uf (bG _) rm hkey fun v0 st w13 hch13 hm13 hes=>nl ⟨fun _ h=>⟨h.1.chg hch13 (.inr fun h=>h rfl),_,hm13,bH _ _ _ _⟩,?_⟩;obtain⟨w14,hrun,hch14,hm14⟩:=hes (AZ (A8 0 O (((k:Int),u.2):Int×Int)+AZ (c.1*q.1)));refine Zp rfl (fun _=>Cq (vs:=[v0,goInt st]) rfl rfl)<|Br rfl<|tJ rfl rfl rfl hrun<|nl ⟨fun h=>(h (by decide)).elim,?_⟩;have zh:=hxh.size;have ha14:=((ha12.ext hxh).chg hch13 (Ne.symm nma)).chg hch14 (Ne.symm nma);have p14:BelP (fun q=>q≠ma/\q≠bm) w11.heap.size V w14:=((p12.ext hxh (by omega)).chg hch13 (.inr fun h=>h.2 rfl)).chg hch14 (.inr fun h=>h.2 rfl);have kf14:KeepsFrom w11.heap.size V w14:=((kf12.ext hxh).chgc hch13 (.inl hlm11)).chgc hch14 (.inl hlm11);exact⟨kf14,p14,q.2,_,hB3,ha14,hm14,e3.trans p14,Nat.le_trans hV p14.size⟩
     ·have hB3:=Ai hB3 hf
      exact wpIn_skip ⟨kf12,p12,q.2,O,hB3,ha12,mb12,e3.trans p12,Nat.le_trans hV p12.size⟩
    case done2=>
     rintro V⟨A,O,hB3,e1,e2,e3,e4⟩;rw[List.drop_length,Ng]at hB3;cases hB3;have hl10:=kx10.size;have pV:BelP (fun q=>q≠ma/\q≠mu/\q≠bm) w7.heap.size W V:=(hp11.weak fun q h1 h2=>⟨by omega,h2.2.1⟩).trans (e3.weak fun q h1 h2=>⟨by omega,h2.1,h2.2.2⟩);have kfV:KeepsFrom w7.heap.size W V:=((hp8.kf fun q h1=>by omega).trans (kx10.kf.trans hx11.kf)).trans (e3.kf fun q h1=>⟨by omega,by omega⟩);refine⟨kfV,pV,A,c.2,O,hB2,e1,?_,e2,i4.trans pV,Nat.le_trans hW pV.size,?_⟩
     ·exact u11.belp e3 u11.lt ⟨Ne.symm nmu,Ne.symm num⟩
     ·refine M11.belpd (ok:=fun q=>q≠ma/\q≠bm) e3 (fun q h1 h2=>⟨by omega,fun e=>?_⟩)
      subst e;obtain⟨es,cl,h3,_⟩:=m11;rw[h2]at h3;cases h3
   case done=>
    rintro D' W hD⟨A,U,O,hB2,i1,i2,i3,i4,i5,i6⟩ hK;rw[List.drop_length,NC]at hB2;cases hB2;have hMW:=Mks.cons hM7 i6 (by omega) hD hK;refine rg<|Zv (Aw l15 rfl)<|Zm<|nl<|uL k' (Nat.lt_succ_self _) hMW ⟨k+1,A,U,O,by omega,hB,congrArg _ hadd,l14,l1,l3',t7.belp i4 t7.lt ⟨na1,nu1,nm1⟩,h37.belp i4 h37.lt ⟨na3,nu3,nm3⟩,i3,i1,i2,T7.belp i4 T7.size (fun q h1 h2 h3=>⟨h2,h3,by omega⟩),?_,by omega⟩;exact(hx.ext kx7 (by omega)).trans (i4.weak fun q h1 h2=>⟨by omega,h2.1,h2.2,by omega⟩)
  ·have hc0:¬(k:Int)<(x.2.1.length:Int):=by simpa using hc0
   obtain rfl:m'=0:=by omega
   rw[ND]at hB;cases hB;exact wp_exit<|jA hM ⟨l3',h3,mm,ha,hu,hx⟩
 rintro L D w hM⟨l3',h3,mm,ha,hu,hx⟩;refine Zr<|Zv (AR l3' UZ ((Bx.cs h3).at 0 rfl))<|Za<|nl<|wp_ret<|Qc rfl hM fun w' hk=>⟨_,.tmp rfl rfl .nil,bm,rfl,gm,mm.tak hk,ha.tak hk,hu.tak hk,hx.tak hk (Nat.le_refl _)⟩
end Go.Proofs.YtfmelbioccbdoaaGreat
end
section
namespace Go.Proofs.YtfmelbioccbdoaaGreat
open Go Go.Md Go.RowKit
attribute [local irreducible] Go.wpList Go.Code.wp Go.Calls Go.Md.FN Go.Md.Mt Go.Md.Gf Go.Md.EO Go.Code.wpIn
theorem ZN{w0:World}{v0:Value}{x0:DJ}(r0:RV w0 v0 x0){v1:Value}{x1:(List (Int×Bool))}(r1:RV w0 v1 x1){F:Nat}{r:((Ob (DJ×(List (Int×Bool))×(Ar 16 (Ar 16 Int))×Opq×Opq))×Int)}(hF:Jp F x0 x1=some r):
  Calls Tryz.prog 113 [v0,v1].toArray w0 (BN fun v w'=>∃u0:Value,v=.tuple #[u0,.int .i64 r.2]/\RV w' u0 r.1/\(r.2=0->TbN w0.heap.size w' u0 r.1)/\Ext w0 w'):=by
 unfold Jp at hF;have hz:=id r0;obtain⟨_,rfl,_,_,rfl,⟨a1,cq1,rfl,p1,q3,e1⟩,_,_,rfl,rfl,_,_,rfl,rfl,rfl⟩:=hz;have r3:=RV.of1 p1 q3 e1;have hz:=r1.sl;obtain⟨a2,cq2,rfl,-,-,-⟩:=hz;refine BK (n:=19) Tryz.func113 rfl rfl rfl<|Zr<|Cw rfl rfl fun b3 w1 hx1 hg1 hb1=>?_;have r4:=r1.ext hx1;have r5:=r3.ext hx1;have r6:=r0.ext hx1;refine Za<|Za<|nl<|wp_seq<|Zr<|Zv (Ad rfl Ij rfl (Bx.cs hb1))<|bS hF fun x3 Ex3 hF=>Zc (xc qm (mc rfl mn)) (xV (show RV (α:=DJ) _ (.agg [.slice a1 x0.1.length cq1,.int .i64 x0.2.1,.int .i64 x0.2.2.1,.int .i64 x0.2.2.2].toArray) (x0.1,x0.2.1,(x0.2.2.1,x0.2.2.2))from⟨_,rfl,[.slice a1 x0.1.length cq1],[.int .i64 x0.2.1]++([.int .i64 x0.2.2.1]++[.int .i64 x0.2.2.2]),rfl,r5.rep1,[.int .i64 x0.2.1],[.int .i64 x0.2.2.1]++[.int .i64 x0.2.2.2],rfl,rfl,[.int .i64 x0.2.2.1],[.int .i64 x0.2.2.2],rfl,rfl,rfl⟩) Ex3) ?_;rintro _ w2⟨rfl,hx2⟩;have k1:=hx1.tr hx2;have hb2:=hb1.ext hx2;have r7:=r5.ext hx2;have r8:=r4.ext hx2;refine Za<|nl<|Zr<|Zm<|Zv (FH rfl rfl)<|nl<|cnd rfl (fun h3=>?_) (fun h3=>?_)
 ·have hF:=Ah hF h3;refine Zr<|Zm<|Za<|Za<|nl<|?_;cases hF;exact wp_ret<|rt rfl (.tmp rfl rfl (.tmp rfl rfl .nil)) ⟨_,rfl,YD,(fun h=>by rw[show x3=0 from h]at h3;simp at h3),k1⟩
 ·have hF:=Ai hF h3;refine wp_skip<|Zr<|Zv (Ad rfl Ij rfl (Bx.cs hb2))<|bS hF fun x4 Ex4 hF=>Zc (xc qo (mc rfl mn)) (tF (show RV (α:=DJ) _ (.agg [.slice a1 x0.1.length cq1,.int .i64 x0.2.1,.int .i64 x0.2.2.1,.int .i64 x0.2.2.2].toArray) (x0.1,x0.2.1,(x0.2.2.1,x0.2.2.2))from⟨_,rfl,[.slice a1 x0.1.length cq1],[.int .i64 x0.2.1]++([.int .i64 x0.2.2.1]++[.int .i64 x0.2.2.2]),rfl,r7.rep1,[.int .i64 x0.2.1],[.int .i64 x0.2.2.1]++[.int .i64 x0.2.2.2],rfl,rfl,[.int .i64 x0.2.2.1],[.int .i64 x0.2.2.2],rfl,rfl,rfl⟩) Ex4) ?_;rintro _ w3⟨u1,rfl,r9,tN,hx3⟩;have k2:=k1.tr hx3;have r10:=r8.ext hx3;have hz:=P6 r9;obtain⟨a3,rfl⟩:=hz;refine D5 Em fun b4 w4 hx4 hg2 hb3=>?_;have k3:=k2.tr hx4;have r11:=r10.ext hx4;have r12:=r9.ext hx4;refine D8 rfl rfl rfl Em hb3 rfl rfl (ble rfl) fun w5 hch1 hb4=>?_;have k4:=Ext.chg k3 hch1 (Nat.le_trans k2.size hg2);have k5:=Ext.chg hx4 hch1 (Nat.le_trans (Nat.le_refl _) hg2);have r13:=r10.ext k5;have r14:=r9.ext k5;have hb5:Bx w5 b4 177 [.pointer a3]:=hb4;refine nl<|wp_seq<|Zr<|Zm<|Zv (Uy mn (mc rfl mn))<|bS hF fun x5 Ex5 hF=>Zc (xc qp (mc rfl (mc rfl mn))) (xg r13 ⟨217,[],[.pointer (some ⟨b4,0,none⟩)],rfl,qw,fun w' u x b hk hu hp=>xk hu (Bx.cs (hb5.ext hk)) (Db (r14.ext hk)) hp⟩ Ex5) ?_;rintro _ w6⟨rfl,hx5⟩;have k6:=k4.tr hx5;have k7:=k5.tr hx5;have hb6:=hb5.ext hx5;have r15:=r14.ext hx5;refine nl<|cnd rfl (fun h4=>?_) (fun h4=>?_)
  ·have hF:=Ah hF h4;refine Zr<|Za<|Za<|nl<|?_;cases hF;exact wp_ret<|rt rfl (.tmp rfl rfl (.tmp rfl rfl .nil)) ⟨_,rfl,YD,(fun h=>absurd h (by decide)),k6⟩
  ·have hF:=Ai hF h4;refine wp_skip<|Zr<|Zv (AR rfl Em ((Bx.cs hb6).at 0 rfl))<|Za<|Za<|nl<|?_;cases hF;exact wp_ret<|rt rfl (.tmp rfl rfl (.tmp rfl rfl .nil)) ⟨_,rfl,r15,(fun _=>((tN.ext k5).ext hx5).mono k1.size),k6⟩
end Go.Proofs.YtfmelbioccbdoaaGreat
end
section
namespace Go.Proofs.YtfmelbioccbdoaaGreat
open Go Go.Md Go.RowKit
attribute [local irreducible] Go.wpList Go.Code.wp Go.Calls Go.Md.FN Go.Md.Mt Go.Md.Gf Go.Md.EO Go.Code.wpIn Go.wpListIn
theorem TbN.get{M:Nat}{w:World}{v:Value}{x:Ob BV}(h:TbN M w v x):∃y b ma mu,x=⟨some y⟩/\v=.pointer (some ⟨b,0,none⟩)/\Tb w.heap.size w b ma mu y/\Mp (κ:=Az) (ν:=Int) w ma []/\Mp (κ:=Az) (ν:=Int) w mu []/\M<=ma/\M<=mu:=by
 obtain⟨y,b,ma,mu,rfl,hP⟩:=h;have h1:=hP.tb;obtain⟨_,_,_,_,_,_,_,h2,h3⟩:=hP;exact⟨y,b,ma,mu,rfl,h1.1,h1.2.1,h1.2.2.1,h1.2.2.2,h2,h3⟩
theorem BelP.extO{ok:Nat->Prop}{w0 w w':World}(h:Ext w0 w)(k:BelP ok w.heap.size w w')(hk:∀q,q<w0.heap.size->ok q):Ext w0 w':=h.trans (k.below h.size hk)
def KC(F:Nat)(c:BB):Option (Int×Int):=
 (Jp F c [])>>=fun o=>if(!decide (o.2=0))=true then some (0,o.2)else(o.1.v)>>=fun x=>(Ch x F [] (0,-1))>>=fun r=>some (r.1,0)
def Jr(F:Nat)(c:BB)(n:Int):Option (List Am×Int):=
 (Jp F c [])>>=fun o=>if(!decide (o.2=0))=true then some ([],o.2)else
 (o.1.v)>>=fun x=>
 if decide (n<0)=true then some ([],3)else
 (Ch x F [] (0,-1))>>=fun r=>if decide (r.1<=n)=true then some ([],3)else(Oh x F r.2 n)>>=fun q=>some (q.1,0)
theorem zJ{w0:World}{v0:Value}{x0:BB}(r0:RV w0 v0 x0){F:Nat}{r:Int×Int}(hF:KC F x0=some r):
  Calls Tryz.prog 36 [v0].toArray w0 (BN fun v w'=>v=.tuple #[.int .i64 r.1,.int .i64 r.2]/\Ext w0 w'):=by
 unfold KC at hF;refine bS hF fun o Eo hF=>?_;obtain⟨cs,rfl,hrep⟩:=r0;refine BK (n:=16) Tryz.func36 rfl rfl rfl<|Zr<|Cw rfl (Enc.cells hrep) fun b1 w1 hx1 hg1 hb1=>?_;have r1:RV w1 (.agg cs.toArray) x0:=RVo.ext ⟨cs,rfl,hrep⟩ hx1;refine Za<|Za<|nl<|Zr<|Zv (Ad rfl Ij (Enc.len hrep) (Bx.cs hb1))<|Zc (xc X5 (mc rfl (mc rfl mn))) (ZN r1 (RVo.nil (Nat.zero_le _)) Eo) ?_;rintro _ w2⟨u1,rfl,r7,tM,hx2⟩;have k2:=hx1.tr hx2;refine Zm<|Zv (Cq (vs:=[u1,.int .i64 o.2]) rfl rfl)<|Zv (Cq (vs:=[u1,.int .i64 o.2]) rfl rfl)<|Za<|Za<|nl<|wp_seq<|Zr<|Zm<|Zv (FH rfl rfl)<|nl<|cnd rfl (fun h3=>?_) (fun h3=>?_)
 ·have hF:=Ah hF h3
  cases hF;exact Zr<|Zm<|Za<|Za<|nl<|wp_ret<|rt rfl (.tmp rfl rfl (.tmp rfl rfl .nil)) ⟨rfl,k2⟩
 have hF:=Ai hF h3;have hz:=(tM (by simpa using h3)).get;obtain⟨y,b,ma,mu,e,rfl,hT,hma,hmu,ga,gu⟩:=hz;rw[e]at hF;have hz:=Md.bs hF;obtain⟨y',Ey,hF⟩:=hz;cases Ey;refine bS hF fun q Eq hF=>?_;cases hF;refine wp_skip<|Zr<|Zm<|Zc (xc X6 (mc rfl mn)) (gT hT hma Eq) ?_;rintro _ w3⟨rfl,hm3,hp3⟩;have s1:=hx1.size;exact Za<|Za<|nl<|wp_ret<|rt rfl (.tmp rfl rfl (.tmp rfl rfl .nil)) ⟨rfl,BelP.extO k2 hp3 (fun q h=>by omega)⟩
theorem uR{w0:World}{v0:Value}{x0:BB}(r0:RV w0 v0 x0){n:Int}{F:Nat}{r:List Am×Int}(hF:Jr F x0 n=some r):
  Calls Tryz.prog 38 [v0,.int .i64 n].toArray w0 (BN fun v w'=>∃u0:Value,v=.tuple #[u0,.int .i64 r.2]/\RV w' u0 r.1/\Ext w0 w'):=by
 unfold Jr at hF;refine bS hF fun o Eo hF=>?_;obtain⟨cs,rfl,hrep⟩:=r0;refine BK (n:=27) Tryz.func38 rfl rfl rfl<|Zr<|Cw rfl (Enc.cells hrep) fun b1 w1 hx1 hg1 hb1=>?_;have r1:RV w1 (.agg cs.toArray) x0:=RVo.ext ⟨cs,rfl,hrep⟩ hx1;refine Za<|Za<|nl<|Zr<|Zv (Ad rfl Ij (Enc.len hrep) (Bx.cs hb1))<|Zc (xc X5 (mc rfl (mc rfl mn))) (ZN r1 (RVo.nil (Nat.zero_le _)) Eo) ?_;rintro _ w2⟨u1,rfl,r7,tM,hx2⟩;have k2:=hx1.tr hx2;refine Zm<|Zv (Cq (vs:=[u1,.int .i64 o.2]) rfl rfl)<|Zv (Cq (vs:=[u1,.int .i64 o.2]) rfl rfl)<|Za<|Za<|nl<|wp_seq<|Zr<|Zm<|Zv (FH rfl rfl)<|nl<|cnd rfl (fun h3=>?_) (fun h3=>?_)
 ·have hF:=Ah hF h3
  cases hF;exact Zr<|Zm<|Za<|Za<|nl<|wp_ret<|rt rfl (.tmp rfl rfl (.tmp rfl rfl .nil)) ⟨_,rfl,RVo.nil (Nat.zero_le _),k2⟩
 have hF:=Ai hF h3;have hz:=(tM (by simpa using h3)).get;obtain⟨y,b,ma,mu,e,rfl,hT,hma,hmu,ga,gu⟩:=hz;rw[e]at hF;have hz:=Md.bs hF;obtain⟨y',Ey,hF⟩:=hz;cases Ey;have s1:=hx1.size;have s2:=hx2.size;refine wp_skip<|wp_seq<|Zr<|Zm<|Zv (BL rfl rfl)<|Zm<|Or.elim (Bool.eq_false_or_eq_true (decide (n<0))) (fun hg=>?_) (fun hg=>?_)
 ·have hF:=Ah hF hg
  cases hF;refine Gk rfl (Bl hg)<|Gk rfl (Bl hg)<|Gk rfl (Bl hg)<|Gk rfl (Bl hg)<|Zv (GD rfl hg rfl)<|nl<|cnd rfl (fun hf=>?_) (fun hf=>by cases hf);exact Zr<|Za<|Za<|nl<|wp_ret<|rt rfl (.tmp rfl rfl (.tmp rfl rfl .nil)) ⟨_,rfl,RVo.nil (Nat.zero_le _),k2⟩
 have hF:=Ai hF hg;refine bS hF fun q Eq hF=>Gt rfl (Md.bf hg)<|Zm<|Gt rfl (Md.bf hg)<|Zm<|Gt rfl (Md.bf hg)<|Zc (xc X6 (mc rfl mn)) (gT hT hma Eq) ?_;rintro _ w3⟨rfl,hm3,hp3⟩;have k3:=BelP.extO k2 hp3 (fun q h=>by omega);refine Gt rfl (Md.bf hg)<|Zv (Kw rfl rfl)<|Zv (H8 rfl hg rfl)<|nl<|cnd rfl (fun hf=>?_) (fun hf=>?_)
 ·have hF:=Ah hF hf
  cases hF;exact Zr<|Za<|Za<|nl<|wp_ret<|rt rfl (.tmp rfl rfl (.tmp rfl rfl .nil)) ⟨_,rfl,RVo.nil (Nat.zero_le _),k3⟩
 have hF:=Ai hF hf;refine bS hF fun p Ep hF=>?_;cases hF;have hT3:=hT.belp hp3 (Nat.le_refl _) (fun q h1 h2 h3=>h2);refine wp_skip<|Zr<|Zm<|Zm<|Zc (xc qd (mc rfl (mc rfl mn))) (xw hT3 hm3 Ep) ?_;rintro u w4⟨ho4,hm4,hp4⟩;have s3:=hp3.size;exact Za<|Za<|nl<|wp_ret<|rt rfl (.tmp rfl rfl (.tmp rfl rfl .nil)) ⟨_,rfl,ho4.rv,BelP.extO k3 hp4 (fun q h=>by omega)⟩

end Go.Proofs.YtfmelbioccbdoaaGreat
end
