/-
  Part 7 of 10 of what the last text stands on: lemmas about the model, pure functions, walks, laws in plain Lean; each part's own head says its condition. Merged by a program of our own.
-/
import Derived.Test.YtfmelbioccbdoaaGreatPieceListsQf
import Derived.Scope
import Derived.IntWalk
import Derived.RangeFuncNested
import Derived.Maps.RangeRun
set_option maxHeartbeats 0
set_option linter.all false
section
namespace Go.Proofs.YtfmelbioccbdoaaGreat
open Go Go.Md Go.RowKit
theorem O3{f:FuncId}(h:∀w,Calls Tryz.prog f #[] w fun e w'=>e=.returned (.bool true)/\Below w.heap.size w w'){w0:World}{r:Bool}(hr:some true=some r):
  Calls Tryz.prog f [].toArray w0 (A8 fun v w'=>v=.bool r/\Ext w0 w'):=by
 cases hr;exact(h w0).mono fun e w' h=>⟨_,h.1,rfl,h.2⟩
def OQ(_:Nat):Option Bool:=some true
theorem qh{w0:World}{F:Nat}{r:Bool}(hF:OQ F=some r):Calls Tryz.prog 86 [].toArray w0 (A8 fun v w'=>v=.bool r/\Ext w0 w'):=O3 nD hF
def OT(_:Nat):Option Bool:=some true
theorem qi{w0:World}{F:Nat}{r:Bool}(hF:OT F=some r):Calls Tryz.prog 87 [].toArray w0 (A8 fun v w'=>v=.bool r/\Ext w0 w'):=O3 nO hF
def OU(_:Nat):Option Bool:=some true
theorem qj{w0:World}{F:Nat}{r:Bool}(hF:OU F=some r):Calls Tryz.prog 88 [].toArray w0 (A8 fun v w'=>v=.bool r/\Ext w0 w'):=O3 nG hF
def OW(_:Nat):Option Bool:=some true
theorem nP{w0:World}{F:Nat}{r:Bool}(hF:OW F=some r):Calls Tryz.prog 116 [].toArray w0 (A8 fun v w'=>v=.bool r/\Ext w0 w'):=O3 jD hF
def MQ(F:Nat):Option Bool:=
 (OQ F)>>=fun x1=>
 (gd x1 (OT F) false)>>=fun x2=>
 (gd (x1&&x2) (OU F) false)>>=fun x3=>
 some ((x1&&x2)&&x3)
def Hr(x0:(Int×Int))(x1:Int)(x2:Int):Option Bool:=
 some (((decide (x1<=x0.1))&&(decide (x0.1<=x0.2)))&&(decide (x0.2<=x2)))
def Gv(x0:Bq)(x1:(Int×Bool)):Option Bool:=
 ((if(decide (0<=x1.1))=true then
  if(decide (x1.1<(x0.1.length:Int)))=true then
   if(!x1.2)=true then
    some true
   else
    (ix x0.1 x1.1)>>=fun x3=>
    some x3.2
  else
   some false
 else
  if false=true then
   if(!x1.2)=true then
    some true
   else
    (ix x0.1 x1.1)>>=fun x4=>
    some x4.2
  else
   some false:Option (Bool))>>=fun y1=>
 some y1)
def GY(x0:Bq)(x1:(Int×Bool)):Option (((Int×Int)×Int)×((Int×Int)×Int)):=
 (ix x0.1 x1.1)>>=fun x3=>
 if x1.2=true then
  some (((x3.1.2.1.1,x3.1.2.1.2),x3.1.2.2),((x3.1.1.1.1,x3.1.1.1.2),x3.1.1.2))
 else
  some (((x3.1.1.1.1,x3.1.1.1.2),x3.1.1.2),((x3.1.2.1.1,x3.1.2.1.2),x3.1.2.2))
def Ib(x0:Bq)(x1:(Int×Bool))(x2:(Int×Bool)):Option Bool:=
 (GY (x0.1,x0.2.1,(x0.2.2.1,x0.2.2.2)) (x1.1,x1.2))>>=fun x4=>
 (GY (x0.1,x0.2.1,(x0.2.2.1,x0.2.2.2)) (x2.1,x2.2))>>=fun x5=>
 some (((((!decide (x1.1=x2.1))&&(decide ((Aa (x4.2.1.1-x5.1.1.2))<=x0.2.1)))&&(decide ((Aa (x5.1.1.1-x4.2.1.2))<=x0.2.1)))&&(decide (x0.2.2.1<=(Aa (x5.1.2-x4.2.2)))))&&(decide ((Aa (x5.1.2-x4.2.2))<=x0.2.2.2)))
def FC(F:Nat)(x0:Bq):Nat->(List (Int×Bool))->Int->Option ((List (Int×Bool)))
 |0,_,_=>none
 |m+1,y1,y2=>
  if(decide (y2<(x0.1.length:Int)))=true then
   (((app 16 y1 ([(y2,false)]:List (Int×Bool)))>>=fun x2=>
   (ix x0.1 y2)>>=fun x3=>
   ((if x3.2=true then
    (app 16 x2 ([(y2,true)]:List (Int×Bool)))>>=fun x4=>
    some x4
   else
    some x2:Option ((List (Int×Bool))))>>=fun y4=>
   some y4):Option ((List (Int×Bool))))>>=fun y3=>
   FC F x0 m y3 (Aa (y2+1)))
  else
   some y1
def Ht(F:Nat)(x0:Bq):Option (List (Int×Bool)):=
 ((FC F x0 F ([]) 0)>>=fun z1=>
 some z1)
def Bv(x0:Int):Option (Int×Int):=
 some (x0,x0)
def Iw(x0:(Int×Int))(x1:Int)(x2:Int):Option Bool:=
 some (((decide (x0.1<x1))||(decide (x0.2<x0.1)))||(decide (x2<x0.2)))
def FE(F:Nat)(x0:Int)(x1:Int)(x2:(List (Int×Int))):Option Bool:=
 (Ck F x2 (fun y=>Iw y x0 x1))>>=fun x4=>
 some (!x4)
def CU(F:Nat)(x0:Bq):Nat->Bool->Int->Option (Bool)
 |0,_,_=>none
 |m+1,y1,y2=>
  if(decide (y2<(x0.1.length:Int)))=true then
   (ix x0.1 y2)>>=fun x5=>
   ((some (((x5.1.1.1.1,x5.1.1.1.2),x5.1.1.2),((x5.1.2.1.1,x5.1.2.1.2),x5.1.2.2)):Option (((Int×Int)×Int)×((Int×Int)×Int)))>>=fun(y3,y4)=>
   ((if y1=true then
    (FE F 0 1000 ([(y3.1.1,y3.1.2),(y4.1.1,y4.1.2)]:List (Int×Int)))>>=fun x8=>
    if x8=true then
     (Bv y3.2)>>=fun x9=>
     (Bv y4.2)>>=fun x10=>
     (FE F 0 100000 ([x9,x10]:List (Int×Int)))>>=fun x11=>
     some x11
    else
     some false
   else
    if false=true then
     (Bv y3.2)>>=fun x12=>
     (Bv y4.2)>>=fun x13=>
     (FE F 0 100000 ([x12,x13]:List (Int×Int)))>>=fun x14=>
     some x14
    else
     some false:Option (Bool))>>=fun y5=>
   CU F x0 m y5 (Aa (y2+1))))
  else
   some y1
def FJ(F:Nat)(x0:Bq):Option Int:=
 if((decide ((x0.1.length:Int)=0))||(decide (8<(x0.1.length:Int))))=true then
  some 6
 else
  (Bv x0.2.1)>>=fun x2=>
  (FE F 0 1000 ([x2]:List (Int×Int)))>>=fun x3=>
  (gd x3 (FE F (-100000) 100000 ([(x0.2.2.1,x0.2.2.2)]:List (Int×Int))) false)>>=fun x4=>
  ((CU F x0 F (x3&&x4) 0)>>=fun z1=>
  if(!z1)=true then
   some 2
  else
   some 0)
def Fx(x0:(Bq×(List (Int×Bool))×(Ar 16 (Ar 16 Int))×Opq×Opq))(x1:((Int×Int)×Int))(x2:((Int×Int)×Int)):Option Bool:=
 some (((decide ((if(Aa (x1.1.1-x2.1.2))<(Aa (x2.1.1-x1.1.2))then(Aa (x2.1.1-x1.1.2))else(Aa (x1.1.1-x2.1.2)))<=x0.1.2.1))&&(decide (x0.1.2.2.1<=(Aa (x2.2-x1.2)))))&&(decide ((Aa (x2.2-x1.2))<=x0.1.2.2.2)))
def DI(x0:(Bq×(List (Int×Bool))×(Ar 16 (Ar 16 Int))×Opq×Opq))(x1:(Int×Bool))(x2:Int):Option ((Int×Int)×Int):=
 ((if x1.2=true then
  some (Aa (1-x2))
 else
  some x2:Option (Int))>>=fun y1=>
 (ix x0.1.1 x1.1)>>=fun x4=>
 (ix ([((x4.1.1.1.1,x4.1.1.1.2),x4.1.1.2),((x4.1.2.1.1,x4.1.2.1.2),x4.1.2.2)]:List ((Int×Int)×Int)) y1)>>=fun x5=>
 some ((x5.1.1,x5.1.2),x5.2))
def BR(F:Nat)(x0:Bq)(y1:Int):Nat->Int->Option (Sum Int (Unit))
 |0,_=>none
 |m+1,y2=>
  if(decide (y2<2))=true then
   (ix x0.1 y1)>>=fun x2=>
   (ix ([((x2.1.1.1.1,x2.1.1.1.2),x2.1.1.2),((x2.1.2.1.1,x2.1.2.1.2),x2.1.2.2)]:List ((Int×Int)×Int)) y2)>>=fun x3=>
   (Hr (x3.1.1,x3.1.2) 0 1000)>>=fun x4=>
   if(((!x4)||(decide (x3.2<0)))||(decide (100000<x3.2)))=true then
    some (.inl 2)
   else
    BR F x0 y1 m (Aa (y2+1))
  else
   some (.inr ())
def Cg(F:Nat)(x0:Bq):Nat->Int->Option (Sum Int (Unit))
 |0,_=>none
 |m+1,y1=>
  if(decide (y1<(x0.1.length:Int)))=true then
   ((BR F x0 y1 F 0)>>=fun o=>match o with
    |.inl r=>some (.inl r)
    |.inr ()=>
     Cg F x0 m (Aa (y1+1)))
  else
   some (.inr ())
def Cm(F:Nat)(x0:Bq):Option Int:=
 if((decide ((x0.1.length:Int)<1))||(decide (8<(x0.1.length:Int))))=true then
  some 6
 else
  ((Cg F x0 F 0)>>=fun o=>match o with
   |.inl r=>some r
   |.inr ()=>
    (gd (!((decide (x0.2.1<0))||(decide (1000<x0.2.1)))) (Hr (x0.2.2.1,x0.2.2.2) (-100000) 100000) false)>>=fun x5=>
    if(((decide (x0.2.1<0))||(decide (1000<x0.2.1)))||(!x5))=true then
     some 2
    else
     some 0)
def FK(x0:(Int×Bool))(x1:(Int×Bool)):Option Bool:=
 some (decide ((x0.1,x0.2)=(x1.1,x1.2)))
def Bp(F:Nat)(x0:(List (Int×Bool)))(x1:((Int×Bool)->Option Bool)):Nat->Int->Option (Sum Int (Unit))
 |0,_=>none
 |m+1,y1=>
  if(decide (y1<(x0.length:Int)))=true then
   (ix x0 y1)>>=fun x3=>
   (x1 (x3.1,x3.2))>>=fun x4=>
   if x4=true then
    some (.inl y1)
   else
    Bp F x0 x1 m (Aa (y1+1))
  else
   some (.inr ())
def Ec(F:Nat)(x0:(List (Int×Bool)))(x1:((Int×Bool)->Option Bool)):Option Int:=
 ((Bp F x0 x1 F 0)>>=fun o=>match o with
  |.inl r=>some r
  |.inr ()=>
   some (-1))
def Ch(F:Nat)(x0:(Bq×(List (Int×Bool))×(Ar 16 (Ar 16 Int))×Opq×Opq))(x1:(Int×Bool)):Option Int:=
 (Ec F x0.2.1 (fun y=>FK y (x1.1,x1.2)))>>=fun x3=>
 some x3
def He(x0:(Bq×(List (Int×Bool))×(Ar 16 (Ar 16 Int))×Opq×Opq))(x1:(Int×Int))(x2:Int):Option (Int×Int):=
 (ix x0.2.1 x2)>>=fun x4=>
 (shl .i64 1 x4.1)>>=fun x5=>
 some (N7 .i64 x1.1 x5,x2)
def F3(x0:Int)(x1:(Int×Int))(x2:(Ob (Bq×(List (Int×Bool))×(Ar 16 (Ar 16 Int))×Opq×Opq))):Option Bool:=
 (x2.v)>>=fun x4=>
 (ix x4.2.1 x0)>>=fun x5=>
 (shr .i64 x1.1 x5.1)>>=fun x6=>
 some (decide ((band .i64 x6 1)=0))
end Go.Proofs.YtfmelbioccbdoaaGreat
end
section
namespace Go.Proofs.YtfmelbioccbdoaaGreat
open Go Go.Md Go.RowKit
attribute [local irreducible] Go.wpList Go.Code.wp Go.Calls Go.Md.C9 Go.Md.Mt Go.Md.Dz Go.Md.CW Go.Code.wpIn


theorem ql{w0:World}{v0:Value}{x0:(List (Int×Int))}(r0:RV w0 v0 x0){v1:Value}{x1:(Int×Int)->Option Bool}(h1:FnB Tryz.prog (Int×Int) w0 v1 x1){F:Nat}{r:Int}(hF:EB F x0 x1=some r):
  Calls Tryz.prog 329 [v0,v1].toArray w0 (A8 fun v w'=>v=.int .i64 r/\Ext w0 w'):=by
 unfold EB at hF;have hz:=r0.sl;obtain⟨a1,cq1,rfl,-,-,-⟩:=hz;refine A9 (n:=19) Tryz.func329 rfl rfl rfl<|Zr<|Za<|nl<|wp_seq<|Zr<|Zm<|Zv (BV rfl Tryz.underlying32)<|Zm<|nl<|bS hF fun o1 hB1 hF=>ct (fun L w=>o1=.inr ()/\Ext w0 w) ?_ ?_
 ·refine wp_block<|lp (I:=fun m L w=>∃y1:Int,Bc F x0 x1 m y1=some o1/\L 8=.int .i64 y1/\L 0=.slice a1 x0.length cq1/\L 1=v1/\L 7=.int .i64 (x0.length:Int)/\Ext w0 w) F ⟨_,hB1,rfl,rfl,rfl,rfl,(Ext.refl _)⟩ ?_;rintro m L w1⟨y1,hB1,l8_i1,l0_i1,l1_i1,l7_i1,K0_i1⟩;rcases m with _|m
  ·rw[Bc]at hB1;cases hB1
  rw[Bc]at hB1;have h3:=h1.ext K0_i1;refine Zr<|Zv (BU l8_i1 l7_i1)<|nl<|wp_seq<|cnd rfl (fun h4=>?_) (fun h4=>?_)
  ·have hB1:=Ah hB1 h4;refine wp_skip<|wp_seq<|wp_block<|Zr<|Zm<|Za<|nl<|Zr<|Zm<|Zm<|Zm<|bS hB1 fun x3 Ex3 hB1=>?_;have hz:=(RV.els r0).ix Ex3;obtain⟨b3,f1,cs3,e1,i2,i3,q3,hc1⟩:=hz;cases e1;obtain⟨_,_,rfl,rfl,rfl⟩:=q3;have hc2:=hc1.ext K0_i1;refine Zv (BG l0_i1 l8_i1 Tryz.underlying32 Ik i2 i3)<|Zv (Ab rfl Ik rfl hc2)<|bS hB1 fun x4 Ex4 hB1=>?_;have hz:=id h3;obtain⟨g1,fs1,cs4,e2,hg1,hu1⟩:=hz;refine Zc (Nn (l1_i1.trans e2) hg1 (mc rfl mn) rfl) (hu1 _ _ _ _ (Ext.refl _) (show RV (α:=(Int×Int)) _ (.agg [.int .i64 x3.1,.int .i64 x3.2].toArray) (x3.1,x3.2)from⟨_,rfl,[.int .i64 x3.1],[.int .i64 x3.2],rfl,rfl,rfl⟩) Ex4) ?_;rintro _ w2⟨rfl,hx1⟩;have k1:=K0_i1.tr hx1;refine nl<|cnd rfl (fun h6=>?_) (fun h6=>?_)
   ·have hB1:=Ah hB1 h6;refine Zr<|Zm<|Za<|nl<|?_;cases hB1;have hF:=(show some _=some _ from hF);cases hF;exact wp_ret<|rt rfl (.tmp l8_i1 rfl .nil) ⟨rfl,k1⟩
   ·have hB1:=Ai hB1 h6;refine wp_skip<|rg<|Zv (Bg l8_i1 rfl)<|Zm<|nl<|lq m (Nat.lt_succ_self _)<|?_;exact⟨_,hB1,rfl,l0_i1,l1_i1,l7_i1,k1⟩
  ·have hB1:=Ai hB1 h4;refine wp_exit<|?_;cases hB1;refine lf<|?_;exact⟨rfl,K0_i1⟩
 rintro L w3⟨rfl,K0_j1⟩;refine Zr<|Za<|nl<|?_;cases hF;exact wp_ret<|Zw rfl rfl rfl ⟨rfl,K0_j1⟩
theorem qm{w0:World}{v0:Value}{x0:(List (Int×Int))}(r0:RV w0 v0 x0){v1:Value}{x1:(Int×Int)->Option Bool}(h1:FnB Tryz.prog (Int×Int) w0 v1 x1){F:Nat}{r:Bool}(hF:Ck F x0 x1=some r):
  Calls Tryz.prog 279 [v0,v1].toArray w0 (A8 fun v w'=>v=.bool r/\Ext w0 w'):=by
 unfold Ck at hF;have hz:=r0.sl;obtain⟨a1,cq1,rfl,-,-,-⟩:=hz;refine A9 (n:=9) Tryz.func279 rfl rfl rfl<|Zr<|Za<|nl<|Zr<|Zm<|Zm<|bS hF fun x3 Ex3 hF=>Zc (xc mP (mc rfl (mc rfl mn))) (ql r0 h1 Ex3) ?_;rintro _ w1⟨rfl,hx1⟩;refine Zv (Jz rfl rfl)<|Za<|nl<|?_;cases hF;exact wp_ret<|Zw rfl rfl rfl ⟨rfl,hx1⟩
theorem jE{w0:World}{v0:Value}{x0:(Int×Int)}(r0:RV w0 v0 x0){x1:Int}{x2:Int}{r:Bool}(hF:Hr x0 x1 x2=some r):
  Calls Tryz.prog 211 [v0,.int .i64 x1,.int .i64 x2].toArray w0 (A8 fun v w'=>v=.bool r/\Ext w0 w'):=by
 unfold Hr at hF;have hz:=id r0;obtain⟨_,rfl,_,_,rfl,rfl,rfl⟩:=hz;refine A9 (n:=24) Tryz.func211 rfl rfl rfl<|Zr<|CO rfl rfl fun b4 w1 hx1 hg1 hb1=>Za<|nl<|Zr<|Zv (AV rfl Im)<|Zv (AQ rfl DX ((Bx.cs hb1).at 0 rfl))<|Zm<|Zv (Jz rfl rfl)<|Zm<|Zg rfl rfl (Bn rfl) (fun hc=>AV rfl Im)<|Zg rfl rfl (Bn rfl) (fun hc=>AQ (mv hc rfl) DX ((Bx.cs hb1).at 0 rfl))<|Zg rfl rfl (Bn rfl) (fun hc=>AV rfl Ip)<|Zg rfl rfl (Bn rfl) (fun hc=>AQ (mv hc rfl) DX ((Bx.cs hb1).at 1 rfl))<|Zg rfl rfl (Bn rfl) (fun hc=>Kk (mv hc rfl) (mv hc rfl))<|Zv (Kq rfl rfl rfl)<|Zm<|Zg rfl rfl (Bn rfl) (fun hc=>AV rfl Ip)<|Zg rfl rfl (Bn rfl) (fun hc=>AQ (mv hc rfl) DX ((Bx.cs hb1).at 1 rfl))<|Zg rfl rfl (Bn rfl) (fun hc=>BM rfl)<|Zg rfl rfl (Bn rfl) (fun hc=>Kk (mv hc rfl) (mv hc rfl))<|Zv (Kq rfl rfl rfl)<|Za<|nl<|?_;cases hF;exact wp_ret<|Zw rfl rfl rfl ⟨rfl,hx1⟩
theorem qo{w0:World}{v0:Value}{x0:Bq}(r0:RV w0 v0 x0){v1:Value}{x1:(Int×Bool)}(r1:RV w0 v1 x1){r:Bool}(hF:Gv x0 x1=some r):
  Calls Tryz.prog 120 [v0,v1].toArray w0 (A8 fun v w'=>v=.bool r/\Ext w0 w'):=by
 unfold Gv at hF;have hz:=id r0;obtain⟨_,rfl,_,_,rfl,⟨a1,cq1,rfl,p1,q3,e1⟩,_,_,rfl,rfl,_,_,rfl,rfl,rfl⟩:=hz;have r3:=RV.of1 p1 q3 e1;have hz:=id r1;obtain⟨_,rfl,_,_,rfl,rfl,rfl⟩:=hz;refine A9 (n:=30) Tryz.func120 rfl rfl rfl<|Zr<|CO rfl rfl fun b3 w1 hx1 hg1 hb1=>CO rfl rfl fun b4 w2 hx2 hg2 hb2=>?_;have k1:=hx1.tr hx2;have hb3:=hb1.ext hx2;refine Za<|nl<|wp_seq<|bS hF fun y1 hB1 hF=>ct (fun L w=>L 4=.bool y1/\Ext w2 w) ?_ ?_
 ·refine rg<|Zv (AV rfl EX)<|Zv (AQ rfl AY ((Bx.cs hb2).at 0 rfl))<|Zv (Jz rfl rfl)<|Zm<|Or.elim (Bool.eq_false_or_eq_true (decide (0<=x1.1))) (fun h3=>?_) (fun h3=>?_)
  ·have hB1:=Ah hB1 h3;refine Gt rfl (bt h3)<|Zv (AV rfl EX)<|Gt rfl (bt h3)<|Zv (AQ rfl AY ((Bx.cs hb2).at 0 rfl))<|Gt rfl (bt h3)<|Zv (AV rfl Dy)<|Gt rfl (bt h3)<|Zv (AQ rfl F6 ((Bx.cs hb3).at 0 rfl))<|Gt rfl (bt h3)<|Zv (BV rfl Tryz.underlying46)<|Gt rfl (bt h3)<|Zv (BU rfl rfl)<|Zv (DU rfl h3 rfl)<|Zm<|Or.elim (Bool.eq_false_or_eq_true (decide (x1.1<(x0.1.length:Int)))) (fun h4=>?_) (fun h4=>?_)
   ·have hB1:=Ah hB1 h4;refine Gt rfl (bt h4)<|Zv (AV rfl P5)<|Gt rfl (bt h4)<|Zv (AQ rfl MX ((Bx.cs hb2).at 1 rfl))<|Gt rfl (bt h4)<|Zv (EK rfl)<|Gt rfl (bt h4)<|Zm<|Or.elim (Bool.eq_false_or_eq_true (!x1.2)) (fun h5=>?_) (fun h5=>?_)
    ·have hB1:=Ah hB1 h5;refine Gk rfl (CY h5)<|Gk rfl (CY h5)<|Gk rfl (CY h5)<|Gk rfl (CY h5)<|Gk rfl (CY h5)<|Gk rfl (CY h5)<|Gk rfl (CY h5)<|Gt rfl (bt h4)<|Zv (DU rfl h5 rfl)<|Zv (DU rfl h4 rfl)<|Za<|nl<|?_;cases hB1;refine lf<|?_;exact⟨rfl,(Ext.refl _)⟩
    ·have hB1:=Ai hB1 h5;refine Gt rfl (bf h5)<|Zv (AV rfl Dy)<|Gt rfl (bf h5)<|Zv (AQ rfl F6 ((Bx.cs hb3).at 0 rfl))<|Gt rfl (bf h5)<|Zv (AV rfl EX)<|Gt rfl (bf h5)<|Zv (AQ rfl AY ((Bx.cs hb2).at 0 rfl))<|bS hB1 fun x3 Ex3 hB1=>?_;have hz:=(RV.els r3).ix Ex3;obtain⟨b5,f1,cs3,e2,i1,i2,q4,hc1⟩:=hz;cases e2;obtain⟨_,_,rfl,⟨_,_,rfl,⟨_,_,rfl,⟨_,_,rfl,rfl,rfl⟩,rfl⟩,_,_,rfl,⟨_,_,rfl,rfl,rfl⟩,rfl⟩,rfl⟩:=q4;have hc2:=hc1.ext k1;refine Gt rfl (bf h5)<|Zv (BG rfl rfl Tryz.underlying46 Hz i1 i2)<|Gt rfl (bf h5)<|Zv (AV rfl Oo)<|Gt rfl (bf h5)<|Zv (AQ rfl MX (hc2.at 6 rfl))<|Gt rfl (bt h4)<|Zv (EW rfl h5 rfl)<|Zv (DU rfl h4 rfl)<|Za<|nl<|?_;cases hB1;refine lf<|?_;exact⟨rfl,(Ext.refl _)⟩
   ·have hB1:=Ai hB1 h4;refine Gk rfl (AZ h4)<|Gk rfl (AZ h4)<|Gk rfl (AZ h4)<|Gk rfl (AZ h4)<|Gk rfl bu<|Gk rfl bu<|Gk rfl bu<|Gk rfl bu<|Gk rfl bu<|Gk rfl bu<|Gk rfl bu<|Gk rfl (AZ h4)<|Zv (EW rfl h4 rfl)<|Za<|nl<|?_;cases hB1;refine lf<|?_;exact⟨rfl,(Ext.refl _)⟩
  ·have hB1:=Ai hB1 h3;refine Gk rfl (AZ h3)<|Gk rfl (AZ h3)<|Gk rfl (AZ h3)<|Gk rfl (AZ h3)<|Gk rfl (AZ h3)<|Gk rfl (AZ h3)<|Zv (EW rfl h3 rfl)<|Zm<|Or.elim (Bool.eq_false_or_eq_true false) (fun h6=>?_) (fun h6=>?_)
   ·have hB1:=Ah hB1 h6;refine Gt rfl (bt h6)<|Zv (AV rfl P5)<|Gt rfl (bt h6)<|Zv (AQ rfl MX ((Bx.cs hb2).at 1 rfl))<|Gt rfl (bt h6)<|Zv (EK rfl)<|Gt rfl (bt h6)<|Zm<|Or.elim (Bool.eq_false_or_eq_true (!x1.2)) (fun h7=>?_) (fun h7=>?_)
    ·have hB1:=Ah hB1 h7;refine Gk rfl (CY h7)<|Gk rfl (CY h7)<|Gk rfl (CY h7)<|Gk rfl (CY h7)<|Gk rfl (CY h7)<|Gk rfl (CY h7)<|Gk rfl (CY h7)<|Gt rfl (bt h6)<|Zv (DU rfl h7 rfl)<|Zv (DU rfl h6 rfl)<|Za<|nl<|?_;cases hB1;refine lf<|?_;exact⟨rfl,(Ext.refl _)⟩
    ·have hB1:=Ai hB1 h7;refine Gt rfl (bf h7)<|Zv (AV rfl Dy)<|Gt rfl (bf h7)<|Zv (AQ rfl F6 ((Bx.cs hb3).at 0 rfl))<|Gt rfl (bf h7)<|Zv (AV rfl EX)<|Gt rfl (bf h7)<|Zv (AQ rfl AY ((Bx.cs hb2).at 0 rfl))<|bS hB1 fun x4 Ex4 hB1=>?_;have hz:=(RV.els r3).ix Ex4;obtain⟨b6,f2,cs4,e3,i3,i4,q5,hc3⟩:=hz;cases e3;obtain⟨_,_,rfl,⟨_,_,rfl,⟨_,_,rfl,⟨_,_,rfl,rfl,rfl⟩,rfl⟩,_,_,rfl,⟨_,_,rfl,rfl,rfl⟩,rfl⟩,rfl⟩:=q5;have hc4:=hc3.ext k1;refine Gt rfl (bf h7)<|Zv (BG rfl rfl Tryz.underlying46 Hz i3 i4)<|Gt rfl (bf h7)<|Zv (AV rfl Oo)<|Gt rfl (bf h7)<|Zv (AQ rfl MX (hc4.at 6 rfl))<|Gt rfl (bt h6)<|Zv (EW rfl h7 rfl)<|Zv (DU rfl h6 rfl)<|Za<|nl<|?_;cases hB1;refine lf<|?_;exact⟨rfl,(Ext.refl _)⟩
   ·have hB1:=Ai hB1 h6;refine Gk rfl (AZ h6)<|Gk rfl (AZ h6)<|Gk rfl (AZ h6)<|Gk rfl (AZ h6)<|Gk rfl bu<|Gk rfl bu<|Gk rfl bu<|Gk rfl bu<|Gk rfl bu<|Gk rfl bu<|Gk rfl bu<|Gk rfl (AZ h6)<|Zv (EW rfl h6 rfl)<|Za<|nl<|?_;cases hB1;refine lf<|?_;exact⟨rfl,(Ext.refl _)⟩
 rintro L w3⟨l4_j1,K0_j1⟩;have k2:=k1.tr K0_j1;cases hF;exact wp_ret<|rt rfl (.tmp l4_j1 rfl .nil) ⟨rfl,k2⟩
theorem jF{w0:World}{v0:Value}{x0:Bq}(r0:RV w0 v0 x0){v1:Value}{x1:(Int×Bool)}(r1:RV w0 v1 x1){r:(((Int×Int)×Int)×((Int×Int)×Int))}(hF:GY x0 x1=some r):
  Calls Tryz.prog 230 [v0,v1].toArray w0 (A8 fun v w'=>∃u0 u1:Value,v=.tuple #[u0,u1]/\RV w' u0 r.1/\RV w' u1 r.2/\Ext w0 w'):=by
 unfold GY at hF;have hz:=id r0;obtain⟨_,rfl,_,_,rfl,⟨a1,cq1,rfl,p1,q3,e1⟩,_,_,rfl,rfl,_,_,rfl,rfl,rfl⟩:=hz;have r3:=RV.of1 p1 q3 e1;have hz:=id r1;obtain⟨_,rfl,_,_,rfl,rfl,rfl⟩:=hz;refine A9 (n:=24) Tryz.func230 rfl rfl rfl<|Zr<|CO rfl rfl fun b3 w1 hx1 hg1 hb1=>CO rfl rfl fun b4 w2 hx2 hg2 hb2=>?_;have k1:=hx1.tr hx2;have hb3:=hb1.ext hx2;refine D9 BZ fun b5 w3 hx3 hg3 hb4=>?_;have k2:=k1.tr hx3;have hb5:=hb3.ext hx3;have hb6:=hb2.ext hx3;refine D9 BZ fun b6 w4 hx4 hg4 hb7=>?_;have k4:=k2.tr hx4;have hb8:=hb5.ext hx4;have hb9:=hb6.ext hx4;have hb10:=hb4.ext hx4;refine nl<|Zr<|Zv (AV rfl Dy)<|Zv (AQ rfl F6 ((Bx.cs hb8).at 0 rfl))<|Zv (AV rfl EX)<|Zv (AQ rfl AY ((Bx.cs hb9).at 0 rfl))<|bS hF fun x3 Ex3 hF=>?_;have hz:=(RV.els r3).ix Ex3;obtain⟨b7,f1,cs3,e2,i1,i2,q4,hc1⟩:=hz;cases e2;obtain⟨_,_,rfl,⟨_,_,rfl,⟨_,_,rfl,⟨_,_,rfl,rfl,rfl⟩,rfl⟩,_,_,rfl,⟨_,_,rfl,rfl,rfl⟩,rfl⟩,rfl⟩:=q4;have hc2:=hc1.ext k4;refine Zv (BG rfl rfl Tryz.underlying46 Hz i1 i2)<|Zv (AV rfl Mk)<|Zv (Ab rfl WO rfl (hc2.sub 0 6))<|D9 WO fun b8 w5 hx5 hg5 hb11=>?_;have k7:=k4.tr hx5;refine DC rfl rfl rfl WO hb11 rfl rfl (ble rfl) fun w6 hch1 hb15=>?_;have k11:=Ext.chg k7 hch1 (Nat.le_trans k4.size hg5);have k15:=Ext.chg hx5 hch1 (Nat.le_trans (Nat.le_refl _) hg5);have hb16:=hb9.ext k15;have hb17:=hb10.ext k15;have hb18:=hb7.ext k15;have hb19:Bx w6 b8 174 [.int .i64 x3.1.1.1.1,.int .i64 x3.1.1.1.2,.int .i64 x3.1.1.2,.int .i64 x3.1.2.1.1,.int .i64 x3.1.2.1.2,.int .i64 x3.1.2.2]:=hb15;refine nl<|wp_seq<|Zr<|Zv (AV rfl P5)<|Zv (AQ rfl MX ((Bx.cs hb16).at 1 rfl))<|nl<|cnd rfl (fun h3=>?_) (fun h3=>?_)
 ·have hF:=Ah hF h3;refine wp_seq<|Z5 (row:=(some b5)) [5] (.pure true 0 (.pure false 1 (.pure true 2 (.pure false 3 (.eff 4 (.eff 5 .fin .stop) .stop))))) mixed (by kernel_rfl) (fun w7 hx6=>?_);have k16:=k11.tr hx6;have hb20:=hb17.ext hx6;have hb21:=hb18.ext hx6;have hb22:=hb19.ext hx6;refine Zp rfl (fun _=>FV rfl rfl Tryz.underlying174 BZ (by decide) (by decide))<|Zq rfl (fun _ hS=>Ab rfl BZ rfl ((Bx.cs (Bx.gr hb22 (hS.resolve_left nofun) (fun e=>(Ne.symm (Nat.ne_of_lt (Nat.lt_of_lt_of_le hb10.lt hg5))) (Option.some.inj e)))).sub 3 3)) (Ext.gro (Ext.refl _))<|Zp rfl (fun _=>FV rfl rfl Tryz.underlying174 BZ (by decide) (by decide))<|Zq rfl (fun _ hS=>Ab rfl BZ rfl ((Bx.cs (Bx.gr hb22 (hS.resolve_left nofun) (fun e=>(Ne.symm (Nat.ne_of_lt (Nat.lt_of_lt_of_le hb10.lt hg5))) (Option.some.inj e)))).sub 0 3)) (Ext.gro (Ext.refl _))<|CR rfl<|DC rfl rfl rfl BZ hb20 rfl rfl (ble rfl) fun w8 hch2 hb23=>?_;have gS1:=World.grownBy.tr (Ext.gro (Ext.refl _)) (Chg.gro hch2);have k21:=Ext.chg k16 hch2 (Nat.le_trans k1.size hg3);have hb24:=Bx.chg hb21 hch2 (Ne.symm (Nat.ne_of_lt (Nat.lt_of_lt_of_le hb4.lt hg4)));have hb25:Bx w8 b5 173 [.int .i64 x3.1.2.1.1,.int .i64 x3.1.2.1.2,.int .i64 x3.1.2.2]:=hb23;refine nl ⟨fun _ _=>gS1,?_⟩;refine CR rfl<|DC rfl rfl rfl BZ hb24 rfl rfl (ble rfl) fun w9 hch3 hb26=>?_;have k24:=Ext.chg k21 hch3 (Nat.le_trans k1.size (Nat.le_trans hx3.size hg4));have hb27:=Bx.chg hb25 hch3 (Nat.ne_of_lt (Nat.lt_of_lt_of_le hb4.lt hg4));have hb28:Bx w9 b6 173 [.int .i64 x3.1.1.1.1,.int .i64 x3.1.1.1.2,.int .i64 x3.1.1.2]:=hb26;refine nl ⟨fun h=>(h (by decide)).elim,?_⟩;cases hF;exact wp_ret<|rt rfl (.cell rfl rfl BZ rfl (Bx.cs hb27) (.cell rfl rfl BZ rfl (Bx.cs hb28) .nil)) ⟨_,_,rfl,(show RV (α:=((Int×Int)×Int)) _ (.agg [.int .i64 x3.1.2.1.1,.int .i64 x3.1.2.1.2,.int .i64 x3.1.2.2].toArray) ((x3.1.2.1.1,x3.1.2.1.2),x3.1.2.2)from⟨_,rfl,[.int .i64 x3.1.2.1.1]++[.int .i64 x3.1.2.1.2],[.int .i64 x3.1.2.2],rfl,⟨[.int .i64 x3.1.2.1.1],[.int .i64 x3.1.2.1.2],rfl,rfl,rfl⟩,rfl⟩),(show RV (α:=((Int×Int)×Int)) _ (.agg [.int .i64 x3.1.1.1.1,.int .i64 x3.1.1.1.2,.int .i64 x3.1.1.2].toArray) ((x3.1.1.1.1,x3.1.1.1.2),x3.1.1.2)from⟨_,rfl,[.int .i64 x3.1.1.1.1]++[.int .i64 x3.1.1.1.2],[.int .i64 x3.1.1.2],rfl,⟨[.int .i64 x3.1.1.1.1],[.int .i64 x3.1.1.1.2],rfl,rfl,rfl⟩,rfl⟩),k24⟩
 ·have hF:=Ai hF h3;refine wp_skip<|wp_seq<|Z5 (row:=(some b5)) [5] (.pure true 0 (.pure false 1 (.pure true 2 (.pure false 3 (.eff 4 (.eff 5 .fin .stop) .stop))))) mixed (by kernel_rfl) (fun w10 hx7=>?_);have k27:=k11.tr hx7;have hb29:=hb17.ext hx7;have hb30:=hb18.ext hx7;have hb31:=hb19.ext hx7;refine Zp rfl (fun _=>FV rfl rfl Tryz.underlying174 BZ (by decide) (by decide))<|Zq rfl (fun _ hS=>Ab rfl BZ rfl ((Bx.cs (Bx.gr hb31 (hS.resolve_left nofun) (fun e=>(Ne.symm (Nat.ne_of_lt (Nat.lt_of_lt_of_le hb10.lt hg5))) (Option.some.inj e)))).sub 0 3)) (Ext.gro (Ext.refl _))<|Zp rfl (fun _=>FV rfl rfl Tryz.underlying174 BZ (by decide) (by decide))<|Zq rfl (fun _ hS=>Ab rfl BZ rfl ((Bx.cs (Bx.gr hb31 (hS.resolve_left nofun) (fun e=>(Ne.symm (Nat.ne_of_lt (Nat.lt_of_lt_of_le hb10.lt hg5))) (Option.some.inj e)))).sub 3 3)) (Ext.gro (Ext.refl _))<|CR rfl<|DC rfl rfl rfl BZ hb29 rfl rfl (ble rfl) fun w11 hch4 hb32=>?_;have gS2:=World.grownBy.tr (Ext.gro (Ext.refl _)) (Chg.gro hch4);have k32:=Ext.chg k27 hch4 (Nat.le_trans k1.size hg3);have hb33:=Bx.chg hb30 hch4 (Ne.symm (Nat.ne_of_lt (Nat.lt_of_lt_of_le hb4.lt hg4)));have hb34:Bx w11 b5 173 [.int .i64 x3.1.1.1.1,.int .i64 x3.1.1.1.2,.int .i64 x3.1.1.2]:=hb32;refine nl ⟨fun _ _=>gS2,?_⟩;refine CR rfl<|DC rfl rfl rfl BZ hb33 rfl rfl (ble rfl) fun w12 hch5 hb35=>?_;have k35:=Ext.chg k32 hch5 (Nat.le_trans k1.size (Nat.le_trans hx3.size hg4));have hb36:=Bx.chg hb34 hch5 (Nat.ne_of_lt (Nat.lt_of_lt_of_le hb4.lt hg4));have hb37:Bx w12 b6 173 [.int .i64 x3.1.2.1.1,.int .i64 x3.1.2.1.2,.int .i64 x3.1.2.2]:=hb35;refine nl ⟨fun h=>(h (by decide)).elim,?_⟩;cases hF;exact wp_ret<|rt rfl (.cell rfl rfl BZ rfl (Bx.cs hb36) (.cell rfl rfl BZ rfl (Bx.cs hb37) .nil)) ⟨_,_,rfl,(show RV (α:=((Int×Int)×Int)) _ (.agg [.int .i64 x3.1.1.1.1,.int .i64 x3.1.1.1.2,.int .i64 x3.1.1.2].toArray) ((x3.1.1.1.1,x3.1.1.1.2),x3.1.1.2)from⟨_,rfl,[.int .i64 x3.1.1.1.1]++[.int .i64 x3.1.1.1.2],[.int .i64 x3.1.1.2],rfl,⟨[.int .i64 x3.1.1.1.1],[.int .i64 x3.1.1.1.2],rfl,rfl,rfl⟩,rfl⟩),(show RV (α:=((Int×Int)×Int)) _ (.agg [.int .i64 x3.1.2.1.1,.int .i64 x3.1.2.1.2,.int .i64 x3.1.2.2].toArray) ((x3.1.2.1.1,x3.1.2.1.2),x3.1.2.2)from⟨_,rfl,[.int .i64 x3.1.2.1.1]++[.int .i64 x3.1.2.1.2],[.int .i64 x3.1.2.2],rfl,⟨[.int .i64 x3.1.2.1.1],[.int .i64 x3.1.2.1.2],rfl,rfl,rfl⟩,rfl⟩),k35⟩
theorem qp{w0:World}{v0:Value}{x0:Bq}(r0:RV w0 v0 x0){v1:Value}{x1:(Int×Bool)}(r1:RV w0 v1 x1){v2:Value}{x2:(Int×Bool)}(r2:RV w0 v2 x2){r:Bool}(hF:Ib x0 x1 x2=some r):
  Calls Tryz.prog 121 [v0,v1,v2].toArray w0 (A8 fun v w'=>v=.bool r/\Ext w0 w'):=by
 unfold Ib at hF;have hz:=id r0;obtain⟨_,rfl,_,_,rfl,⟨a1,cq1,rfl,p1,q4,e1⟩,_,_,rfl,rfl,_,_,rfl,rfl,rfl⟩:=hz;have r4:=RV.of1 p1 q4 e1;have hz:=id r1;obtain⟨_,rfl,_,_,rfl,rfl,rfl⟩:=hz;have hz:=id r2;obtain⟨_,rfl,_,_,rfl,rfl,rfl⟩:=hz;refine A9 (n:=72) Tryz.func121 rfl rfl rfl<|Zr<|CO rfl rfl fun b4 w1 hx1 hg1 hb1=>?_;have r7:=r4.ext hx1;refine CO rfl rfl fun b5 w2 hx2 hg2 hb2=>?_;have k1:=hx1.tr hx2;have hb3:=hb1.ext hx2;have r9:=r7.ext hx2;refine CO rfl rfl fun b6 w3 hx3 hg3 hb4=>?_;have k2:=k1.tr hx3;have hb5:=hb3.ext hx3;have r12:=r9.ext hx3;have hb6:=hb2.ext hx3;refine Za<|nl<|Zr<|Zv (Ab rfl Gc rfl (Bx.cs hb5))<|Zv (Ab rfl BK rfl (Bx.cs hb6))<|bS hF fun x4 Ex4 hF=>Zc (xc dH (mc rfl (mc rfl mn))) (jF (show RV (α:=Bq) _ (.agg [.slice a1 x0.1.length cq1,.int .i64 x0.2.1,.int .i64 x0.2.2.1,.int .i64 x0.2.2.2].toArray) (x0.1,x0.2.1,(x0.2.2.1,x0.2.2.2))from⟨_,rfl,[.slice a1 x0.1.length cq1],[.int .i64 x0.2.1]++([.int .i64 x0.2.2.1]++[.int .i64 x0.2.2.2]),rfl,r12.rep1,[.int .i64 x0.2.1],[.int .i64 x0.2.2.1]++[.int .i64 x0.2.2.2],rfl,rfl,[.int .i64 x0.2.2.1],[.int .i64 x0.2.2.2],rfl,rfl,rfl⟩) (show RV (α:=(Int×Bool)) _ (.agg [.int .i64 x1.1,.bool x1.2].toArray) (x1.1,x1.2)from⟨_,rfl,[.int .i64 x1.1],[.bool x1.2],rfl,rfl,rfl⟩) Ex4) ?_;rintro _ w4⟨u1,u2,rfl,r14,r15,hx4⟩;have k4:=k2.tr hx4;have hb7:=hb5.ext hx4;have r16:=r12.ext hx4;have hb8:=hb6.ext hx4;have hb9:=hb4.ext hx4;have hz:=id r14;obtain⟨_,rfl,_,_,rfl,⟨_,_,rfl,rfl,rfl⟩,rfl⟩:=hz;have hz:=id r15;obtain⟨_,rfl,_,_,rfl,⟨_,_,rfl,rfl,rfl⟩,rfl⟩:=hz;refine Zm<|Zv (FU rfl rfl)<|Zv (FU rfl rfl)<|D9 BZ fun b7 w5 hx5 hg4 hb10=>?_;have k7:=k4.tr hx5;refine D9 BZ fun b8 w6 hx6 hg5 hb14=>?_;have k10:=k7.tr hx6;have k13:=hx5.tr hx6;have hb18:=hb10.ext hx6;refine DC rfl rfl rfl BZ hb18 rfl rfl (ble rfl) fun w7 hch1 hb19=>?_;have k14:=Ext.chg k10 hch1 (Nat.le_trans k4.size hg4);have k17:=Ext.chg k13 hch1 (Nat.le_trans (Nat.le_refl _) hg4);have hb23:=Bx.chg hb14 hch1 (Ne.symm (Nat.ne_of_lt (Nat.lt_of_lt_of_le hb10.lt hg5)));have hb24:Bx w7 b7 173 [.int .i64 x4.1.1.1,.int .i64 x4.1.1.2,.int .i64 x4.1.2]:=hb19;refine DC rfl rfl rfl BZ hb23 rfl rfl (ble rfl) fun w8 hch2 hb25=>?_;have k18:=Ext.chg k14 hch2 (Nat.le_trans k4.size (Nat.le_trans hx5.size hg5));have k21:=Ext.chg k17 hch2 (Nat.le_trans (Nat.le_refl _) (Nat.le_trans hx5.size hg5));have hb26:=hb7.ext k21;have r25:=r16.ext k21;have hb27:=hb8.ext k21;have hb28:=hb9.ext k21;have hb29:Bx w8 b8 173 [.int .i64 x4.2.1.1,.int .i64 x4.2.1.2,.int .i64 x4.2.2]:=hb25;refine nl<|Zr<|Zv (Ab rfl Gc rfl (Bx.cs hb26))<|Zv (Ab rfl BK rfl (Bx.cs hb28))<|bS hF fun x5 Ex5 hF=>Zc (xc dH (mc rfl (mc rfl mn))) (jF (show RV (α:=Bq) _ (.agg [.slice a1 x0.1.length cq1,.int .i64 x0.2.1,.int .i64 x0.2.2.1,.int .i64 x0.2.2.2].toArray) (x0.1,x0.2.1,(x0.2.2.1,x0.2.2.2))from⟨_,rfl,[.slice a1 x0.1.length cq1],[.int .i64 x0.2.1]++([.int .i64 x0.2.2.1]++[.int .i64 x0.2.2.2]),rfl,r25.rep1,[.int .i64 x0.2.1],[.int .i64 x0.2.2.1]++[.int .i64 x0.2.2.2],rfl,rfl,[.int .i64 x0.2.2.1],[.int .i64 x0.2.2.2],rfl,rfl,rfl⟩) (show RV (α:=(Int×Bool)) _ (.agg [.int .i64 x2.1,.bool x2.2].toArray) (x2.1,x2.2)from⟨_,rfl,[.int .i64 x2.1],[.bool x2.2],rfl,rfl,rfl⟩) Ex5) ?_;rintro _ w9⟨u3,u4,rfl,r26,r27,hx7⟩;have k22:=k18.tr hx7;have hb30:=hb26.ext hx7;have hb31:=hb27.ext hx7;have hb32:=hb28.ext hx7;have hb33:=hb29.ext hx7;have hz:=id r26;obtain⟨_,rfl,_,_,rfl,⟨_,_,rfl,rfl,rfl⟩,rfl⟩:=hz;have hz:=id r27;obtain⟨_,rfl,_,_,rfl,⟨_,_,rfl,rfl,rfl⟩,rfl⟩:=hz;refine Zm<|Zv (FU rfl rfl)<|Zv (FU rfl rfl)<|D9 BZ fun b9 w10 hx8 hg6 hb34=>?_;have k26:=k22.tr hx8;refine D9 BZ fun b10 w11 hx9 hg7 hb39=>?_;have k30:=k26.tr hx9;have k34:=hx8.tr hx9;have hb44:=hb34.ext hx9;refine DC rfl rfl rfl BZ hb44 rfl rfl (ble rfl) fun w12 hch3 hb45=>?_;have k35:=Ext.chg k30 hch3 (Nat.le_trans k22.size hg6);have k39:=Ext.chg k34 hch3 (Nat.le_trans (Nat.le_refl _) hg6);have hb50:=Bx.chg hb39 hch3 (Ne.symm (Nat.ne_of_lt (Nat.lt_of_lt_of_le hb34.lt hg7)));have hb51:Bx w12 b9 173 [.int .i64 x5.1.1.1,.int .i64 x5.1.1.2,.int .i64 x5.1.2]:=hb45;refine DC rfl rfl rfl BZ hb50 rfl rfl (ble rfl) fun w13 hch4 hb52=>?_;have k40:=Ext.chg k35 hch4 (Nat.le_trans k22.size (Nat.le_trans hx8.size hg7));have k44:=Ext.chg k39 hch4 (Nat.le_trans (Nat.le_refl _) (Nat.le_trans hx8.size hg7));have hb53:=hb30.ext k44;have hb54:=hb31.ext k44;have hb55:=hb32.ext k44;have hb56:=hb33.ext k44;have hb57:=Bx.chg hb51 hch4 (Nat.ne_of_lt (Nat.lt_of_lt_of_le hb34.lt hg7));have hb58:Bx w13 b10 173 [.int .i64 x5.2.1.1,.int .i64 x5.2.1.2,.int .i64 x5.2.2]:=hb52;refine nl<|Zr<|Zv (AV rfl Hl)<|Zv (AQ rfl DX ((Bx.cs hb57).at 2 rfl))<|Zv (AV rfl Hl)<|Zv (AQ rfl DX ((Bx.cs hb56).at 2 rfl))<|Zv (F5 rfl rfl)<|Za<|nl<|Zr<|Zv (AV rfl EX)<|Zv (AQ rfl AY ((Bx.cs hb54).at 0 rfl))<|Zv (AV rfl EX)<|Zv (AQ rfl AY ((Bx.cs hb55).at 0 rfl))<|Zv (FT rfl rfl)<|Zm<|Zg rfl rfl (Bn rfl) (fun hc=>AV rfl Gs)<|Zg rfl rfl (Bn rfl) (fun hc=>AV (mv hc rfl) Im)<|Zg rfl rfl (Bn rfl) (fun hc=>AQ (mv hc rfl) DX ((Bx.cs hb56).at 0 rfl))<|Zg rfl rfl (Bn rfl) (fun hc=>AV rfl Gs)<|Zg rfl rfl (Bn rfl) (fun hc=>AV (mv hc rfl) Ip)<|Zg rfl rfl (Bn rfl) (fun hc=>AQ (mv hc rfl) DX ((Bx.cs hb57).at 1 rfl))<|Zg rfl rfl (Bn rfl) (fun hc=>F5 (mv hc rfl) (mv hc rfl))<|Zg rfl rfl (Bn rfl) (fun hc=>AV rfl MZ)<|Zg rfl rfl (Bn rfl) (fun hc=>AQ (mv hc rfl) DX ((Bx.cs hb53).at 1 rfl))<|Zg rfl rfl (Bn rfl) (fun hc=>Kk (mv hc rfl) (mv hc rfl))<|Zv (Kq rfl rfl rfl)<|Zm<|Zg rfl rfl (Bn rfl) (fun hc=>AV rfl Gs)<|Zg rfl rfl (Bn rfl) (fun hc=>AV (mv hc rfl) Im)<|Zg rfl rfl (Bn rfl) (fun hc=>AQ (mv hc rfl) DX ((Bx.cs hb57).at 0 rfl))<|Zg rfl rfl (Bn rfl) (fun hc=>AV rfl Gs)<|Zg rfl rfl (Bn rfl) (fun hc=>AV (mv hc rfl) Ip)<|Zg rfl rfl (Bn rfl) (fun hc=>AQ (mv hc rfl) DX ((Bx.cs hb56).at 1 rfl))<|Zg rfl rfl (Bn rfl) (fun hc=>F5 (mv hc rfl) (mv hc rfl))<|Zg rfl rfl (Bn rfl) (fun hc=>AV rfl MZ)<|Zg rfl rfl (Bn rfl) (fun hc=>AQ (mv hc rfl) DX ((Bx.cs hb53).at 1 rfl))<|Zg rfl rfl (Bn rfl) (fun hc=>Kk (mv hc rfl) (mv hc rfl))<|Zv (Kq rfl rfl rfl)<|Zm<|Zg rfl rfl (Bn rfl) (fun hc=>BM rfl)<|Zg rfl rfl (Bn rfl) (fun hc=>AV rfl Mc)<|Zg rfl rfl (Bn rfl) (fun hc=>AV (mv hc rfl) Im)<|Zg rfl rfl (Bn rfl) (fun hc=>AQ (mv hc rfl) DX ((Bx.cs hb53).at 2 rfl))<|Zg rfl rfl (Bn rfl) (fun hc=>Jz (mv hc rfl) (mv hc rfl))<|Zv (Kq rfl rfl rfl)<|Zm<|Zg rfl rfl (Bn rfl) (fun hc=>BM rfl)<|Zg rfl rfl (Bn rfl) (fun hc=>AV rfl Mc)<|Zg rfl rfl (Bn rfl) (fun hc=>AV (mv hc rfl) Ip)<|Zg rfl rfl (Bn rfl) (fun hc=>AQ (mv hc rfl) DX ((Bx.cs hb53).at 3 rfl))<|Zg rfl rfl (Bn rfl) (fun hc=>Kk (mv hc rfl) (mv hc rfl))<|Zv (Kq rfl rfl rfl)<|Za<|nl<|?_;cases hF;exact wp_ret<|Zw rfl rfl rfl ⟨rfl,k40⟩
theorem uN{w0:World}{v0:Value}{x0:Bq}(r0:RV w0 v0 x0){F:Nat}{r:(List (Int×Bool))}(hF:Ht F x0=some r):
  Calls Tryz.prog 71 [v0].toArray w0 (A8 fun v w'=>∃u0:Value,v=u0/\RV w' u0 r/\Ext w0 w'):=by
 unfold Ht at hF;have hz:=id r0;obtain⟨_,rfl,_,_,rfl,⟨a1,cq1,rfl,p1,q2,e1⟩,_,_,rfl,rfl,_,_,rfl,rfl,rfl⟩:=hz;have r2:=RV.of1 p1 q2 e1;refine A9 (n:=29) Tryz.func71 rfl rfl rfl<|Zr<|CO rfl rfl fun b2 w1 hx1 hg1 hb1=>Za<|nl<|Zr<|Za<|nl<|wp_seq<|Zr<|Za<|nl<|?_;have o1:Row (α:=(Int×Bool)) 56 w1.heap.size w1 (.slice none 0 0) []:=Row.nil;refine bS hF fun z1 hB1 hF=>ct (fun L w=>∃v3:Value,L 3=v3/\Row 56 w1.heap.size w v3 z1/\Ext w1 w) ?_ ?_
 ·refine wp_block<|lp (I:=fun m L w=>∃y1:(List (Int×Bool)),∃y2:Int,∃v2:Value,FC F x0 m y1 y2=some z1/\L 3=v2/\Row 56 w1.heap.size w v2 y1/\L 4=.int .i64 y2/\L 1=.pointer (some ⟨b2,0,none⟩)/\Ext w1 w) F ⟨_,_,_,hB1,rfl,o1,rfl,rfl,(Ext.refl _)⟩ ?_;rintro m L w2⟨y1,y2,v2,hB1,l3_i1,O3_i1,l4_i1,l1_i1,K0_i1⟩;rcases m with _|m
  ·rw[FC]at hB1;cases hB1
  rw[FC]at hB1;have k1:=hx1.tr K0_i1;have hb2:=hb1.ext K0_i1;have hz:=RV.sl O3_i1.rv;obtain⟨a2,cq2,rfl,-,-,-⟩:=hz;refine wp_seq<|Zr<|Zm<|Zv (AV l1_i1 Dy)<|Zv (AQ rfl F6 ((Bx.cs hb2).at 0 rfl))<|Zv (BV rfl Tryz.underlying46)<|Zv (BU l4_i1 rfl)<|nl<|cnd rfl (fun h2=>?_) (fun h2=>?_)
  ·have hB1:=Ah hB1 h2;refine wp_skip<|wp_seq<|bS hB1 fun y3 hB3 hB1=>ct (fun L w=>∃v4:Value,L 3=v4/\Row 56 w1.heap.size w v4 y3/\L 1=.pointer (some ⟨b2,0,none⟩)/\L 4=.int .i64 y2/\Ext w1 w) ?_ ?_
   ·refine wp_block<|Zr<|Zm<|Zm<|Zv (JL (r:=[.int .i64 y2,.bool false]) BK WN (pc l4_i1 pn) rfl)<|Gb (cs:=[.int .i64 y2,.bool false]) Tryz.underlying51 BK rfl (pc rfl pn) rfl rfl rfl rfl rfl fun b3 w3 hx2 hg2 hb3=>?_;have k2:=k1.tr hx2;have k3:=K0_i1.tr hx2;have O1:=O3_i1.ext hx2;have o3:Row (α:=(Int×Bool)) 56 w2.heap.size w3 (.slice (some ⟨b3,0,none⟩) 1 1) [(y2,false)]:=Row.lit hg2 hb3 rfl (ble rfl);refine bS hB3 fun x2 Ex2 hB3=>MI (l:=y1) (k:=([(y2,false)]:List (Int×Bool))) l3_i1 rfl Tryz.underlying51 BK rfl rfl O1 (RV.els o3.rv) Ex2 k3.size fun v5 w4 o4 hB4 hgr1 how1=>?_;have k4:=Ext.grow k2 hx1.size hB4;have k5:Ext w1 w4:=k3.trans hB4;have hb5:=hb1.ext k5;have hz:=RV.sl o4.rv;obtain⟨a3,cq3,rfl,-,-,-⟩:=hz;refine Za<|nl<|Zr<|Zv (AV l1_i1 Dy)<|Zv (AQ rfl F6 ((Bx.cs hb5).at 0 rfl))<|Zm<|bS hB3 fun x3 Ex3 hB3=>?_;have hz:=(RV.els r2).ix Ex3;obtain⟨b4,f1,cs2,e2,i2,i3,q3,hc1⟩:=hz;cases e2;obtain⟨_,_,rfl,⟨_,_,rfl,⟨_,_,rfl,⟨_,_,rfl,rfl,rfl⟩,rfl⟩,_,_,rfl,⟨_,_,rfl,rfl,rfl⟩,rfl⟩,rfl⟩:=q3;have hc2:=hc1.ext k4;refine Zv (BG rfl l4_i1 Tryz.underlying46 Hz i2 i3)<|Zv (AV rfl Oo)<|Zv (AQ rfl MX (hc2.at 6 rfl))<|nl<|bS hB3 fun y4 hB5 hB3=>ct (fun L w=>∃v6:Value,L 3=v6/\Row 56 w1.heap.size w v6 y4/\L 1=.pointer (some ⟨b2,0,none⟩)/\L 4=.int .i64 y2/\Ext w1 w) ?_ ?_
    ·refine cnd rfl (fun h3=>?_) (fun h3=>?_)
     ·have hB5:=Ah hB5 h3;refine rg<|Zm<|Zm<|Zv (JL (r:=[.int .i64 y2,.bool true]) BK WN (pc l4_i1 (pc rfl pn)) rfl)<|Gb (cs:=[.int .i64 y2,.bool true]) Tryz.underlying51 BK rfl (pc rfl pn) rfl rfl rfl rfl rfl fun b5 w5 hx3 hg3 hb6=>?_;have k7:=k5.tr hx3;have o5:=o4.ext hx3;have o6:Row (α:=(Int×Bool)) 56 w4.heap.size w5 (.slice (some ⟨b5,0,none⟩) 1 1) [(y2,true)]:=Row.lit hg3 hb6 rfl (ble rfl);refine bS hB5 fun x4 Ex4 hB5=>MI (l:=x2) (k:=([(y2,true)]:List (Int×Bool))) rfl rfl Tryz.underlying51 BK rfl rfl o5 (RV.els o6.rv) Ex4 k7.size fun v7 w6 o7 hB7 hgr2 how2=>?_;have k9:Ext w1 w6:=k7.trans hB7;have hz:=RV.sl o7.rv;obtain⟨a4,cq4,rfl,-,-,-⟩:=hz;refine Za<|nl<|?_;cases hB5;refine lf<|?_;exact⟨_,rfl,o7,l1_i1,l4_i1,k9⟩
     ·have hB5:=Ai hB5 h3;refine wp_skip<|?_;cases hB5;refine lf<|?_;exact⟨_,rfl,o4,l1_i1,l4_i1,k5⟩
    rintro L w7⟨v6,l3_j1,O3_j1,l1_j1,l4_j1,K0_j1⟩;have hz:=RV.sl O3_j1.rv;obtain⟨a5,cq5,rfl,-,-,-⟩:=hz;cases hB3;refine lf<|?_;exact⟨_,l3_j1,O3_j1,l1_j1,l4_j1,K0_j1⟩
   rintro L w8⟨v4,l3_j2,O3_j2,l1_j2,l4_j2,K0_j2⟩;have hz:=RV.sl O3_j2.rv;obtain⟨a6,cq6,rfl,-,-,-⟩:=hz;refine rg<|Zm<|Zv (Bg l4_j2 rfl)<|Za<|nl<|lq m (Nat.lt_succ_self _)<|?_;exact⟨_,_,_,hB1,l3_j2,O3_j2,rfl,l1_j2,K0_j2⟩
  ·have hB1:=Ai hB1 h2;refine wp_exit<|?_;cases hB1;refine lf<|?_;exact⟨_,l3_i1,O3_i1,K0_i1⟩
 rintro L w9⟨v3,l3_j3,O3_j3,K0_j3⟩;have k12:=hx1.tr K0_j3;have hz:=RV.sl O3_j3.rv;obtain⟨a7,cq7,rfl,-,-,-⟩:=hz;refine Zr<|Zm<|Za<|nl<|?_;cases hF;exact wp_ret<|rt rfl (.tmp l3_j3 rfl .nil) ⟨_,rfl,O3_j3.rv,k12⟩
theorem UW{w0:World}{x0:Int}{r:(Int×Int)}(hF:Bv x0=some r):
  Calls Tryz.prog 295 [.int .i64 x0].toArray w0 (A8 fun v w'=>∃u0:Value,v=u0/\RV w' u0 r/\Ext w0 w'):=by
 unfold Bv at hF;refine A9 (n:=6) Tryz.func295 rfl rfl rfl<|Zr<|D9 Ik fun b2 w1 hx1 hg1 hb1=>nl<|Zr<|Zm<|Zm<|Zv (JL (r:=[.int .i64 x0,.int .i64 x0]) Ik pQ (pc rfl (pc rfl pn)) rfl)<|DC rfl rfl rfl Ik hb1 rfl rfl (ble rfl) fun w2 hch1 hb2=>?_;have k1:=Ext.chg hx1 hch1 (Nat.le_trans (Nat.le_refl _) hg1);have hb3:Bx w2 b2 35 [.int .i64 x0,.int .i64 x0]:=hb2;refine nl<|?_;cases hF;exact wp_ret<|rt rfl (.cell rfl rfl Ik rfl (Bx.cs hb3) .nil) ⟨_,rfl,(show RV (α:=(Int×Int)) _ (.agg [.int .i64 x0,.int .i64 x0].toArray) (x0,x0)from⟨_,rfl,[.int .i64 x0],[.int .i64 x0],rfl,rfl,rfl⟩),k1⟩
theorem qw{w0:World}{v0:Value}{x0:(Int×Int)}(r0:RV w0 v0 x0){b1:Nat}{cs1:List Value}{x1:Int}(h1:Cs w0 b1 0 cs1)(q1:Enc.rep (fun _=>True) w0 cs1 x1){b2:Nat}{cs2:List Value}{x2:Int}(h2:Cs w0 b2 0 cs2)(q2:Enc.rep (fun _=>True) w0 cs2 x2){r:Bool}(hF:Iw x0 x1 x2=some r):
  Calls Tryz.prog 339 [v0,.pointer (some ⟨b1,0,none⟩),.pointer (some ⟨b2,0,none⟩)].toArray w0 (A8 fun v w'=>v=.bool r/\Ext w0 w'):=by
 unfold Iw at hF;have hz:=id r0;obtain⟨_,rfl,_,_,rfl,rfl,rfl⟩:=hz;obtain rfl:=q1;obtain rfl:=q2;refine A9 (n:=22) Tryz.func339 rfl rfl rfl<|Zr<|CO rfl rfl fun b4 w1 hx1 hg1 hb1=>?_;have h4:=h1.ext hx1;have h5:=h2.ext hx1;refine Za<|nl<|Zr<|Zv (AV rfl Im)<|Zv (AQ rfl DX ((Bx.cs hb1).at 0 rfl))<|Zv (AQ rfl DX (h4.at 0 rfl))<|Zv (BU rfl rfl)<|Zm<|Zg rfl rfl (Aq rfl) (fun hc=>AV rfl Im)<|Zg rfl rfl (Aq rfl) (fun hc=>AQ (mv hc rfl) DX ((Bx.cs hb1).at 0 rfl))<|Zg rfl rfl (Aq rfl) (fun hc=>AV rfl Ip)<|Zg rfl rfl (Aq rfl) (fun hc=>AQ (mv hc rfl) DX ((Bx.cs hb1).at 1 rfl))<|Zg rfl rfl (Aq rfl) (fun hc=>IC (mv hc rfl) (mv hc rfl))<|Zv (Gh rfl rfl rfl)<|Zm<|Zg rfl rfl (Aq rfl) (fun hc=>AV rfl Ip)<|Zg rfl rfl (Aq rfl) (fun hc=>AQ (mv hc rfl) DX ((Bx.cs hb1).at 1 rfl))<|Zg rfl rfl (Aq rfl) (fun hc=>AQ rfl DX (h5.at 0 rfl))<|Zg rfl rfl (Aq rfl) (fun hc=>IC (mv hc rfl) (mv hc rfl))<|Zv (Gh rfl rfl rfl)<|Za<|nl<|?_;cases hF;exact wp_ret<|Zw rfl rfl rfl ⟨rfl,hx1⟩
theorem UX{w0:World}{x0:Int}{x1:Int}{v2:Value}{x2:(List (Int×Int))}(r2:RV w0 v2 x2){F:Nat}{r:Bool}(hF:FE F x0 x1 x2=some r):
  Calls Tryz.prog 296 [.int .i64 x0,.int .i64 x1,v2].toArray w0 (A8 fun v w'=>v=.bool r/\Ext w0 w'):=by
 unfold FE at hF;have hz:=r2.sl;obtain⟨a1,cq1,rfl,-,-,-⟩:=hz;refine A9 (n:=11) Tryz.func296 rfl rfl rfl<|Zr<|CO rfl rfl fun b4 w1 hx1 hg1 hb1=>?_;have r4:=r2.ext hx1;refine CO rfl rfl fun b5 w2 hx2 hg2 hb2=>?_;have k1:=hx1.tr hx2;have hb3:=hb1.ext hx2;have r5:=r4.ext hx2;refine Za<|nl<|Zr<|Zm<|Zv (Lj mn (mc rfl (mc rfl mn)))<|bS hF fun x4 Ex4 hF=>Zc (xc mD (mc rfl (mc rfl mn))) (qm r5 ⟨339,[],[.pointer (some ⟨b4,0,none⟩),.pointer (some ⟨b5,0,none⟩)],rfl,mQ,fun w' u x b hk hu hp=>qw hu (Bx.cs (hb3.ext hk)) rfl (Bx.cs (hb2.ext hk)) rfl hp⟩ Ex4) ?_;rintro _ w3⟨rfl,hx3⟩;have k2:=k1.tr hx3;refine Zv (EK rfl)<|Za<|nl<|?_;cases hF;exact wp_ret<|Zw rfl rfl rfl ⟨rfl,k2⟩
theorem jG{w0:World}{v0:Value}{x0:Bq}(r0:RV w0 v0 x0){F:Nat}{r:Int}(hF:FJ F x0=some r):
  Calls Tryz.prog 214 [v0].toArray w0 (A8 fun v w'=>v=.int .i64 r/\Ext w0 w'):=by
 unfold FJ at hF;have hz:=id r0;obtain⟨_,rfl,_,_,rfl,⟨a1,cq1,rfl,p1,q2,e1⟩,_,_,rfl,rfl,_,_,rfl,rfl,rfl⟩:=hz;have r2:=RV.of1 p1 q2 e1;refine A9 (n:=68) Tryz.func214 rfl rfl rfl<|Zr<|CO rfl rfl fun b2 w1 hx1 hg1 hb1=>Za<|nl<|wp_seq<|Zr<|Zv (AV rfl Dy)<|Zv (AQ rfl F6 ((Bx.cs hb1).at 0 rfl))<|Zv (BV rfl Tryz.underlying46)<|Zv (EU rfl rfl)<|Zm<|Zg rfl rfl (Aq rfl) (fun hc=>AV rfl Dy)<|Zg rfl rfl (Aq rfl) (fun hc=>AQ (mv hc rfl) F6 ((Bx.cs hb1).at 0 rfl))<|Zg rfl rfl (Aq rfl) (fun hc=>BV (mv hc rfl) Tryz.underlying46)<|Zg rfl rfl (Aq rfl) (fun hc=>IC (mv hc rfl) rfl)<|Zv (Gh rfl rfl rfl)<|nl<|cnd rfl (fun h2=>?_) (fun h2=>?_)
 ·have hF:=Ah hF h2;refine Zr<|Za<|nl<|?_;cases hF;exact wp_ret<|Zw rfl rfl rfl ⟨rfl,hx1⟩
 ·have hF:=Ai hF h2;refine wp_skip<|Zr<|Za<|nl<|Zr<|Zm<|Zv (AV rfl MZ)<|Zv (AQ rfl DX ((Bx.cs hb1).at 1 rfl))<|bS hF fun x2 Ex2 hF=>Zc (Nn rfl P7 (mc rfl mn) rfl) (UW Ex2) ?_;rintro _ w2⟨u1,rfl,r5,hx2⟩;have k1:=hx1.tr hx2;have hb2:=hb1.ext hx2;have hz:=id r5;obtain⟨_,rfl,_,_,rfl,rfl,rfl⟩:=hz;refine Gb (cs:=[.int .i64 x2.1,.int .i64 x2.2]) Tryz.underlying32 Ik rfl (pc rfl pn) rfl rfl rfl rfl rfl fun b3 w3 hx3 hg2 hb3=>?_;have k2:=k1.tr hx3;have hb4:=hb2.ext hx3;have o1:Row (α:=(Int×Int)) 35 w2.heap.size w3 (.slice (some ⟨b3,0,none⟩) 1 1) [x2]:=Row.lit hg2 hb3 rfl (ble rfl);refine bS hF fun x3 Ex3 hF=>Zc (xc P8 (mc rfl (mc rfl (mc rfl mn)))) (UX o1.rv Ex3) ?_;rintro _ w4⟨rfl,hx4⟩;have k3:=k2.tr hx4;have hb5:=hb4.ext hx4;refine Zm<|Zg rfl rfl (Bn rfl) (fun hc=>AV rfl Mc)<|Zg rfl rfl (Bn rfl) (fun hc=>Ab (mv hc rfl) Ik rfl ((Bx.cs hb5).sub 2 2))<|gm (fun v w=>RV w v ([(x0.2.2.1,x0.2.2.2)]:List (Int×Int))/\Ext w4 w) rfl rfl rfl rfl (Bn rfl) rfl (fun hc=>Gb (cs:=[.int .i64 x0.2.2.1,.int .i64 x0.2.2.2]) Tryz.underlying32 Ik rfl (pc (mv hc rfl) pn) rfl rfl rfl rfl rfl fun b w' hx hg hb=>nl ⟨_,rfl,(Row.lit (base:=0) (l:=([(x0.2.2.1,x0.2.2.2)]:List (Int×Int))) (Nat.zero_le _) hb rfl (ble rfl)).rv,hx⟩) (fun v2 w5 hy1 hn1=>?_);have hx5:Ext w4 w5:=gx (fun h=>(hy1 h).2) (fun h=>(hn1 h).2▸Ext.refl _);have k5:=k3.tr hx5;have hb6:=hb5.ext hx5;refine bS hF fun x4 Ex4 hF=>gc rfl rfl rfl rfl (Bn rfl) rfl (fun hc=>xc P8 (mc rfl (mc rfl (mc rfl mn)))) (fun hc=>(UX ((hy1 hc).1) (Lg Ex4 hc))) (fun v3 w6 hy2 hn2=>?_);have hx6:Ext w5 w6:=gx (fun h=>(hy2 h).2) (fun h=>(hn2 h).2▸Ext.refl _);have e2:=Li (fun h=>(hy2 h).1) (fun h=>(hn2 h).1);have k7:=k5.tr hx6;have hb7:=hb6.ext hx6;refine Zv (Kq rfl e2 rfl)<|Za<|nl<|wp_seq<|Zr<|Zv (AV rfl Dy)<|Zv (AQ rfl F6 ((Bx.cs hb7).at 0 rfl))<|Zv (BV rfl Tryz.underlying46)<|Zm<|nl<|bS hF fun z1 hB1 hF=>ct (fun L w=>L 4=.bool z1/\Ext w6 w) ?_ ?_
  ·refine wp_block<|lp (I:=fun m L w=>∃y1:Bool,∃y2:Int,CU F x0 m y1 y2=some z1/\L 4=.bool y1/\L 34=.int .i64 y2/\L 3=.func (.func 295) [].toArray [].toArray/\L 32=.slice a1 x0.1.length cq1/\L 33=.int .i64 (x0.1.length:Int)/\Ext w6 w) F ⟨_,_,hB1,rfl,rfl,rfl,rfl,rfl,(Ext.refl _)⟩ ?_;rintro m L w7⟨y1,y2,hB1,l4_i1,l34_i1,l3_i1,l32_i1,l33_i1,K0_i1⟩;rcases m with _|m
   ·rw[CU]at hB1;cases hB1
   rw[CU]at hB1;have k9:=k7.tr K0_i1;refine Zr<|Zv (BU l34_i1 l33_i1)<|nl<|wp_seq<|cnd rfl (fun h3=>?_) (fun h3=>?_)
   ·have hB1:=Ah hB1 h3;refine wp_skip<|wp_seq<|wp_block<|Zr<|bS hB1 fun x5 Ex5 hB1=>?_;have hz:=(RV.els r2).ix Ex5;obtain⟨b4,f1,cs2,e3,i2,i3,q3,hc1⟩:=hz;cases e3;obtain⟨_,_,rfl,⟨_,_,rfl,⟨_,_,rfl,⟨_,_,rfl,rfl,rfl⟩,rfl⟩,_,_,rfl,⟨_,_,rfl,rfl,rfl⟩,rfl⟩,rfl⟩:=q3;have hc2:=hc1.ext k9;refine Zv (BG l32_i1 l34_i1 Tryz.underlying46 Hz i2 i3)<|Zv (Ab rfl Hz rfl hc2)<|D9 Hz fun b5 w8 hx7 hg3 hb8=>?_;have k13:=K0_i1.tr hx7;refine DC rfl rfl rfl Hz hb8 rfl rfl (ble rfl) fun w9 hch1 hb9=>?_;have k16:=Ext.chg k13 hch1 (Nat.le_trans K0_i1.size hg3);have hb10:Bx w9 b5 176 [.int .i64 x5.1.1.1.1,.int .i64 x5.1.1.1.2,.int .i64 x5.1.1.2,.int .i64 x5.1.2.1.1,.int .i64 x5.1.2.1.2,.int .i64 x5.1.2.2,.bool x5.2]:=hb9;refine nl<|wp_seq<|?_;have hz:=bs hB1;obtain⟨⟨y3,y4⟩,hB3,hB1⟩:=hz;refine ct (fun L w=>∃v4 v5:Value,L 7=v4/\PB 173 w9.heap.size w v4 y3/\L 8=v5/\PB 173 w9.heap.size w v5 y4/\v4≠v5/\L 3=.func (.func 295) [].toArray [].toArray/\L 4=.bool y1/\L 32=.slice (some ⟨b4,f1,none⟩) x0.1.length cq1/\L 33=.int .i64 (x0.1.length:Int)/\L 34=.int .i64 y2/\Ext w9 w) ?_ ?_
    ·refine Gq [] (.pure true 0 (.pure true 1 (.pure false 2 (.pure true 3 (.pure true 4 (.pure false 5 (.eff 6 (.eff 7 (.eff 8 (.eff 9 .fin .stop) .stop) .stop) (.eff 7 (.eff 6 (.eff 8 (.eff 9 .fin .stop) .stop) .stop) .stop)))))))) mixed (by kernel_rfl) (fun w15 hx11=>?_);have hb21:=hb10.ext hx11;refine Zp rfl (fun _=>AV rfl Mk)<|Zp rfl (fun _=>FV rfl rfl Tryz.underlying174 BZ (by decide) (by decide))<|Zq rfl (fun _ hS=>Ab rfl BZ rfl ((Bx.cs (hb21.ext (hS.resolve_left nofun))).sub 0 3)) (Ext.refl _)<|Zp rfl (fun _=>AV rfl Mk)<|Zp rfl (fun _=>FV rfl rfl Tryz.underlying174 BZ (by decide) (by decide))<|Zq rfl (fun _ hS=>Ab rfl BZ rfl ((Bx.cs (hb21.ext (hS.resolve_left nofun))).sub 3 3)) (Ext.refl _)<|?_;refine pe rfl ?_ ?_
     ·refine D9 BZ fun b8 w16 hx12 hg6 hb22=>?_;have k53:=hx11.tr hx12;refine nl ⟨fun _ _=>hx12,?_⟩;refine CR rfl<|D9 BZ fun b9 w17 hx13 hg7 hb23=>?_;have k58:=k53.tr hx13;have k59:=hx12.tr hx13;have hb24:=hb22.ext hx13;refine nl ⟨fun _ _=>k59,?_⟩;refine CR rfl<|DC rfl rfl rfl BZ hb24 rfl rfl (ble rfl) fun w18 hch4 hb25=>?_;have k64:=Ext.chg k58 hch4 (Nat.le_trans hx11.size hg6);have k65:=Ext.chg k59 hch4 (Nat.le_trans (Nat.le_refl _) hg6);have hb26:=Bx.chg hb23 hch4 (Ne.symm (Nat.ne_of_lt (Nat.lt_of_lt_of_le hb22.lt hg7)));have hb27:Bx w18 b8 173 [.int .i64 x5.1.1.1.1,.int .i64 x5.1.1.1.2,.int .i64 x5.1.1.2]:=hb25;refine nl ⟨fun _ _=>k65,?_⟩;refine CR rfl<|DC rfl rfl rfl BZ hb26 rfl rfl (ble rfl) fun w19 hch5 hb28=>?_;have k70:=Ext.chg k64 hch5 (Nat.le_trans hx11.size (Nat.le_trans hx12.size hg7));have k71:=Ext.chg k65 hch5 (Nat.le_trans (Nat.le_refl _) (Nat.le_trans hx12.size hg7));have hb29:=Bx.chg hb27 hch5 (Nat.ne_of_lt (Nat.lt_of_lt_of_le hb22.lt hg7));have hb30:Bx w19 b9 173 [.int .i64 x5.1.2.1.1,.int .i64 x5.1.2.1.2,.int .i64 x5.1.2.2]:=hb28;refine nl ⟨fun _ _=>k71,?_⟩;cases hB3;refine lf<|?_;exact⟨_,_,rfl,⟨_,_,rfl,(Nat.le_trans hx11.size hg6),hb29,[.int .i64 x5.1.1.1.1]++[.int .i64 x5.1.1.1.2],[.int .i64 x5.1.1.2],rfl,⟨[.int .i64 x5.1.1.1.1],[.int .i64 x5.1.1.1.2],rfl,rfl,rfl⟩,rfl⟩,rfl,⟨_,_,rfl,(Nat.le_trans hx11.size (Nat.le_trans hx12.size hg7)),hb30,[.int .i64 x5.1.2.1.1]++[.int .i64 x5.1.2.1.2],[.int .i64 x5.1.2.2],rfl,⟨[.int .i64 x5.1.2.1.1],[.int .i64 x5.1.2.1.2],rfl,rfl,rfl⟩,rfl⟩,(YG (Nat.ne_of_lt (Nat.lt_of_lt_of_le hb22.lt hg7))),l3_i1,l4_i1,l32_i1,l33_i1,l34_i1,k70⟩
     refine pm rfl ?_ ?_
     ·refine D9 BZ fun b10 w20 hx14 hg8 hb31=>?_;have k76:=hx11.tr hx14;refine nl ⟨fun _ _=>hx14,?_⟩;refine CR rfl<|D9 BZ fun b11 w21 hx15 hg9 hb32=>?_;have k81:=k76.tr hx15;have k82:=hx14.tr hx15;refine nl ⟨fun _ _=>k82,?_⟩;refine CR rfl<|DC rfl rfl rfl BZ hb32 rfl rfl (ble rfl) fun w22 hch6 hb34=>?_;have k87:=Ext.chg k81 hch6 (Nat.le_trans k76.size hg9);have k88:=Ext.chg k82 hch6 (Nat.le_trans hx14.size hg9);have k89:=Ext.chg hx15 hch6 (Nat.le_trans (Nat.le_refl _) hg9);have hb35:=hb31.ext k89;have hb36:Bx w22 b11 173 [.int .i64 x5.1.1.1.1,.int .i64 x5.1.1.1.2,.int .i64 x5.1.1.2]:=hb34;refine nl ⟨fun _ _=>k88,?_⟩;refine CR rfl<|DC rfl rfl rfl BZ hb35 rfl rfl (ble rfl) fun w23 hch7 hb37=>?_;have k94:=Ext.chg k87 hch7 (Nat.le_trans hx11.size hg8);have k95:=Ext.chg k88 hch7 (Nat.le_trans (Nat.le_refl _) hg8);have hb38:=Bx.chg hb36 hch7 (Ne.symm (Nat.ne_of_lt (Nat.lt_of_lt_of_le hb31.lt hg9)));have hb39:Bx w23 b10 173 [.int .i64 x5.1.2.1.1,.int .i64 x5.1.2.1.2,.int .i64 x5.1.2.2]:=hb37;refine nl ⟨fun _ _=>k95,?_⟩;cases hB3;refine lf<|?_;exact⟨_,_,rfl,⟨_,_,rfl,(Nat.le_trans hx11.size (Nat.le_trans hx14.size hg9)),hb38,[.int .i64 x5.1.1.1.1]++[.int .i64 x5.1.1.1.2],[.int .i64 x5.1.1.2],rfl,⟨[.int .i64 x5.1.1.1.1],[.int .i64 x5.1.1.1.2],rfl,rfl,rfl⟩,rfl⟩,rfl,⟨_,_,rfl,(Nat.le_trans hx11.size hg8),hb39,[.int .i64 x5.1.2.1.1]++[.int .i64 x5.1.2.1.2],[.int .i64 x5.1.2.2],rfl,⟨[.int .i64 x5.1.2.1.1],[.int .i64 x5.1.2.1.2],rfl,rfl,rfl⟩,rfl⟩,(YG (Ne.symm (Nat.ne_of_lt (Nat.lt_of_lt_of_le hb31.lt hg9)))),l3_i1,l4_i1,l32_i1,l33_i1,l34_i1,k94⟩
     trivial
    rintro L w24⟨v4,v5,l7_j1,P7_j1,l8_j1,P8_j1,N7_8_j1,l3_j1,l4_j1,l32_j1,l33_j1,l34_j1,K0_j1⟩;have k98:=k16.tr K0_j1;obtain⟨b12,cs3,rfl,hg10,hb40,q4⟩:=P7_j1;obtain⟨_,_,rfl,⟨_,_,rfl,rfl,rfl⟩,rfl⟩:=q4;obtain⟨b13,cs4,rfl,hg11,hb41,q5⟩:=P8_j1;obtain⟨_,_,rfl,⟨_,_,rfl,rfl,rfl⟩,rfl⟩:=q5;refine bS hB1 fun y5 hB4 hB1=>ct (fun L w=>L 4=.bool y5/\L 3=.func (.func 295) [].toArray [].toArray/\L 32=.slice (some ⟨b4,f1,none⟩) x0.1.length cq1/\L 33=.int .i64 (x0.1.length:Int)/\L 34=.int .i64 y2/\Ext w24 w) ?_ ?_
    ·refine Gq [] (.pure true 0 (.pure true 1 (.pure true 2 (.pure false 3 (.pure true 4 (.pure false 5 (.eff 6 (.eff 7 (.pure true 8 (.pure true 9 (.pure true 10 (.pure true 11 (.pure false 12 (.pure true 14 (.pure true 15 (.pure false 16 (.eff 13 (.eff 17 (.eff 18 (.eff 19 (.pure true 20 (.pure true 21 .fin)) .stop) .stop) .stop) .stop))))))))) .stop) .stop))))))) mixed (by kernel_rfl) (fun w29 hx20=>?_);have hb48:=hb40.ext hx20;have hb49:=hb41.ext hx20;refine Zn rfl<|Zn rfl<|Or.elim (Bool.eq_false_or_eq_true y1) (fun h4=>?_) (fun h4=>?_)
     ·have hB4:=Ah hB4 h4;refine Vo rfl rfl rfl rfl rfl l4_j1 (bt h4) rfl (fun _ _=>AV l7_j1 Gs) (.inl rfl)<|Vo rfl rfl rfl rfl rfl l4_j1 (bt h4) rfl (fun _ hS=>Ab rfl Ik rfl ((Bx.cs (hb48.ext (hS.resolve_left nofun))).sub 0 2)) (.inr (Ext.refl _))<|Vo rfl rfl rfl rfl rfl l4_j1 (bt h4) rfl (fun _ _=>AV l8_j1 Gs) (.inl rfl)<|Vo rfl rfl rfl rfl rfl l4_j1 (bt h4) rfl (fun _ hS=>Ab rfl Ik rfl ((Bx.cs (hb49.ext (hS.resolve_left nofun))).sub 0 2)) (.inr (Ext.refl _))<|CR rfl<|gW rfl rfl rfl rfl l4_j1 (bt h4)<|Gb (cs:=[.int .i64 y3.1.1,.int .i64 y3.1.2,.int .i64 y4.1.1,.int .i64 y4.1.2]) Tryz.underlying32 Ik rfl (pc rfl (pc rfl pn)) rfl rfl rfl rfl rfl fun b14 w30 hx21 hg12 hb50=>?_;have k126:=hx20.tr hx21;have o3:Row (α:=(Int×Int)) 35 w29.heap.size w30 (.slice (some ⟨b14,0,none⟩) 2 2) [(y3.1.1,y3.1.2),(y4.1.1,y4.1.2)]:=Row.lit hg12 hb50 rfl (ble rfl);refine nl ⟨fun _ _=>hx21,?_⟩;refine bS hB4 fun x8 Ex8 hB4=>CR rfl<|gW rfl rfl rfl rfl l4_j1 (bt h4)<|Zc (xc P8 (mc rfl (mc rfl (mc rfl mn)))) (UX o3.rv Ex8) ?_;rintro _ w31⟨rfl,hx22⟩;have k132:=k126.tr hx22;have k133:=hx21.tr hx22;refine nl ⟨fun _ _=>k133,?_⟩;refine Zp rfl (fun _=>DU l4_j1 h4 rfl)<|Zn rfl<|Or.elim (Bool.eq_false_or_eq_true x8) (fun h5=>?_) (fun h5=>?_)
      ·have hB4:=Ah hB4 h5;refine Yt rfl (bt h5) (fun _=>ET)<|Yt rfl (bt h5) (fun _=>AV l7_j1 Hl)<|Yi rfl (bt h5) (fun _ hS=>AQ rfl DX ((Bx.cs (hb48.ext (hS.resolve_left nofun))).at 2 rfl)) k133<|Yt rfl (bt h5) (fun _=>ET)<|Yt rfl (bt h5) (fun _=>AV l8_j1 Hl)<|Yi rfl (bt h5) (fun _ hS=>AQ rfl DX ((Bx.cs (hb49.ext (hS.resolve_left nofun))).at 2 rfl)) k133<|bS hB4 fun x9 Ex9 hB4=>CR rfl<|Gt rfl (bt h5)<|Zc (Nn l3_j1 P7 (mc rfl mn) rfl) (UW Ex9) ?_;rintro _ w32⟨u2,rfl,r37,hx23⟩;have k139:=k132.tr hx23;have k140:=k133.tr hx23;have hz:=id r37;obtain⟨_,rfl,_,_,rfl,rfl,rfl⟩:=hz;refine nl ⟨fun _ _=>k140,?_⟩;refine bS hB4 fun x10 Ex10 hB4=>CR rfl<|Gt rfl (bt h5)<|Zc (Nn l3_j1 P7 (mc rfl mn) rfl) (UW Ex10) ?_;rintro _ w33⟨u3,rfl,r39,hx24⟩;have k146:=k139.tr hx24;have k147:=k140.tr hx24;have hz:=id r39;obtain⟨_,rfl,_,_,rfl,rfl,rfl⟩:=hz;refine nl ⟨fun _ _=>k147,?_⟩;refine CR rfl<|Gt rfl (bt h5)<|Gb (cs:=[.int .i64 x9.1,.int .i64 x9.2,.int .i64 x10.1,.int .i64 x10.2]) Tryz.underlying32 Ik rfl (pc rfl (pc rfl pn)) rfl rfl rfl rfl rfl fun b15 w34 hx25 hg13 hb55=>?_;have k153:=k146.tr hx25;have k154:=k147.tr hx25;have o4:Row (α:=(Int×Int)) 35 w33.heap.size w34 (.slice (some ⟨b15,0,none⟩) 2 2) [x9,x10]:=Row.lit hg13 hb55 rfl (ble rfl);refine nl ⟨fun _ _=>k154,?_⟩;refine bS hB4 fun x11 Ex11 hB4=>CR rfl<|Gt rfl (bt h5)<|Zc (xc P8 (mc rfl (mc rfl (mc rfl mn)))) (UX o4.rv Ex11) ?_;rintro _ w35⟨rfl,hx26⟩;have k160:=k153.tr hx26;have k161:=k154.tr hx26;refine nl ⟨fun _ _=>k161,?_⟩;refine Zp rfl (fun _=>DU rfl h5 rfl)<|Zp rfl (fun _=>Ij)<|?_;cases hB4;refine lf<|?_;exact⟨rfl,l3_j1,l32_j1,l33_j1,l34_j1,k160⟩
      ·have hB4:=Ai hB4 h5;refine Yf rfl (AZ h5)<|Yf rfl (AZ h5)<|Yh rfl (AZ h5) k133<|Yf rfl (AZ h5)<|Yf rfl (AZ h5)<|Yh rfl (AZ h5) k133<|CR rfl<|Gk rfl (AZ h5)<|nl ⟨fun _ _=>k133,?_⟩;refine CR rfl<|Gk rfl (AZ h5)<|nl ⟨fun _ _=>k133,?_⟩;refine CR rfl<|Gk rfl (AZ h5)<|nl ⟨fun _ _=>k133,?_⟩;refine CR rfl<|Gk rfl (AZ h5)<|nl ⟨fun _ _=>k133,?_⟩;refine Zp rfl (fun _=>EW rfl h5 rfl)<|Zp rfl (fun _=>Ij)<|?_;cases hB4;refine lf<|?_;exact⟨rfl,l3_j1,l32_j1,l33_j1,l34_j1,k132⟩
     ·have hB4:=Ai hB4 h4;refine S9 rfl rfl rfl rfl rfl l4_j1 (AZ h4) rfl (.inl rfl)<|S9 rfl rfl rfl rfl rfl l4_j1 (AZ h4) rfl (.inr (Ext.refl _))<|S9 rfl rfl rfl rfl rfl l4_j1 (AZ h4) rfl (.inl rfl)<|S9 rfl rfl rfl rfl rfl l4_j1 (AZ h4) rfl (.inr (Ext.refl _))<|CR rfl<|bX rfl rfl rfl rfl l4_j1 (AZ h4) rfl<|nl ⟨fun _ _=>(Ext.refl _),?_⟩;refine CR rfl<|bX rfl rfl rfl rfl l4_j1 (AZ h4) rfl<|nl ⟨fun _ _=>(Ext.refl _),?_⟩;refine Zp rfl (fun _=>EW l4_j1 h4 rfl)<|Zn rfl<|Or.elim (Bool.eq_false_or_eq_true false) (fun h6=>?_) (fun h6=>?_)
      ·have hB4:=Ah hB4 h6;refine Yt rfl (bt h6) (fun _=>ET)<|Yt rfl (bt h6) (fun _=>AV l7_j1 Hl)<|Yi rfl (bt h6) (fun _ hS=>AQ rfl DX ((Bx.cs (hb48.ext (hS.resolve_left nofun))).at 2 rfl)) (Ext.refl _)<|Yt rfl (bt h6) (fun _=>ET)<|Yt rfl (bt h6) (fun _=>AV l8_j1 Hl)<|Yi rfl (bt h6) (fun _ hS=>AQ rfl DX ((Bx.cs (hb49.ext (hS.resolve_left nofun))).at 2 rfl)) (Ext.refl _)<|bS hB4 fun x12 Ex12 hB4=>CR rfl<|Gt rfl (bt h6)<|Zc (Nn l3_j1 P7 (mc rfl mn) rfl) (UW Ex12) ?_;rintro _ w36⟨u4,rfl,r45,hx27⟩;have k168:=hx20.tr hx27;have hz:=id r45;obtain⟨_,rfl,_,_,rfl,rfl,rfl⟩:=hz;refine nl ⟨fun _ _=>hx27,?_⟩;refine bS hB4 fun x13 Ex13 hB4=>CR rfl<|Gt rfl (bt h6)<|Zc (Nn l3_j1 P7 (mc rfl mn) rfl) (UW Ex13) ?_;rintro _ w37⟨u5,rfl,r47,hx28⟩;have k174:=k168.tr hx28;have k175:=hx27.tr hx28;have hz:=id r47;obtain⟨_,rfl,_,_,rfl,rfl,rfl⟩:=hz;refine nl ⟨fun _ _=>k175,?_⟩;refine CR rfl<|Gt rfl (bt h6)<|Gb (cs:=[.int .i64 x12.1,.int .i64 x12.2,.int .i64 x13.1,.int .i64 x13.2]) Tryz.underlying32 Ik rfl (pc rfl (pc rfl pn)) rfl rfl rfl rfl rfl fun b16 w38 hx29 hg14 hb56=>?_;have k181:=k174.tr hx29;have k182:=k175.tr hx29;have o5:Row (α:=(Int×Int)) 35 w37.heap.size w38 (.slice (some ⟨b16,0,none⟩) 2 2) [x12,x13]:=Row.lit hg14 hb56 rfl (ble rfl);refine nl ⟨fun _ _=>k182,?_⟩;refine bS hB4 fun x14 Ex14 hB4=>CR rfl<|Gt rfl (bt h6)<|Zc (xc P8 (mc rfl (mc rfl (mc rfl mn)))) (UX o5.rv Ex14) ?_;rintro _ w39⟨rfl,hx30⟩;have k188:=k181.tr hx30;have k189:=k182.tr hx30;refine nl ⟨fun _ _=>k189,?_⟩;refine Zp rfl (fun _=>DU rfl h6 rfl)<|Zp rfl (fun _=>Ij)<|?_;cases hB4;refine lf<|?_;exact⟨rfl,l3_j1,l32_j1,l33_j1,l34_j1,k188⟩
      ·have hB4:=Ai hB4 h6;refine Yf rfl (AZ h6)<|Yf rfl (AZ h6)<|Yh rfl (AZ h6) (Ext.refl _)<|Yf rfl (AZ h6)<|Yf rfl (AZ h6)<|Yh rfl (AZ h6) (Ext.refl _)<|CR rfl<|Gk rfl (AZ h6)<|nl ⟨fun _ _=>(Ext.refl _),?_⟩;refine CR rfl<|Gk rfl (AZ h6)<|nl ⟨fun _ _=>(Ext.refl _),?_⟩;refine CR rfl<|Gk rfl (AZ h6)<|nl ⟨fun _ _=>(Ext.refl _),?_⟩;refine CR rfl<|Gk rfl (AZ h6)<|nl ⟨fun _ _=>(Ext.refl _),?_⟩;refine Zp rfl (fun _=>EW rfl h6 rfl)<|Zp rfl (fun _=>Ij)<|?_;cases hB4;refine lf<|?_;exact⟨rfl,l3_j1,l32_j1,l33_j1,l34_j1,hx20⟩
    rintro L w40⟨l4_j2,l3_j2,l32_j2,l33_j2,l34_j2,K0_j2⟩;have k193:=k98.tr K0_j2;refine rg<|Zv (Bg l34_j2 rfl)<|Zm<|nl<|lq m (Nat.lt_succ_self _)<|?_;exact⟨_,_,hB1,l4_j2,rfl,l3_j2,l32_j2,l33_j2,k193⟩
   ·have hB1:=Ai hB1 h3;refine wp_exit<|?_;cases hB1;refine lf<|?_;exact⟨l4_i1,K0_i1⟩
  rintro L w41⟨l4_j3,K0_j3⟩;have k196:=k7.tr K0_j3;refine wp_seq<|Zr<|Zm<|Zv (EK l4_j3)<|nl<|cnd rfl (fun h7=>?_) (fun h7=>?_)
  ·have hF:=Ah hF h7;refine Zr<|Za<|nl<|?_;cases hF;exact wp_ret<|Zw rfl rfl rfl ⟨rfl,k196⟩
  ·have hF:=Ai hF h7;refine wp_skip<|Zr<|Za<|nl<|?_;cases hF;exact wp_ret<|Zw rfl rfl rfl ⟨rfl,k196⟩
theorem qx{w0:World}{b0:Nat}{cs0:List Value}{x0:(Bq×(List (Int×Bool))×(Ar 16 (Ar 16 Int))×Opq×Opq)}(h0:Cs w0 b0 0 cs0)(q0:Enc.rep (fun _=>True) w0 cs0 x0){v1:Value}{x1:((Int×Int)×Int)}(r1:RV w0 v1 x1){v2:Value}{x2:((Int×Int)×Int)}(r2:RV w0 v2 x2){r:Bool}(hF:Fx x0 x1 x2=some r):
  Calls Tryz.prog 297 [.pointer (some ⟨b0,0,none⟩),v1,v2].toArray w0 (A8 fun v w'=>v=.bool r/\Ext w0 w'):=by
 unfold Fx at hF;obtain⟨_,_,rfl,⟨_,_,rfl,⟨a1,cq1,rfl,p1,q4,e1⟩,_,_,rfl,rfl,_,_,rfl,rfl,rfl⟩,_,_,rfl,⟨a2,cq2,rfl,p2,q5,e2⟩,_,_,rfl,rfl,_,_,rfl,⟨a3,rfl,q6⟩,a4,rfl,q7⟩:=q0;have hz:=id r1;obtain⟨_,rfl,_,_,rfl,⟨_,_,rfl,rfl,rfl⟩,rfl⟩:=hz;have hz:=id r2;obtain⟨_,rfl,_,_,rfl,⟨_,_,rfl,rfl,rfl⟩,rfl⟩:=hz;refine A9 (n:=56) Tryz.func297 rfl rfl rfl<|Zr<|CO rfl rfl fun b4 w1 hx1 hg1 hb1=>?_;have h4:=h0.ext hx1;refine CO rfl rfl fun b5 w2 hx2 hg2 hb2=>?_;have k1:=hx1.tr hx2;have hb3:=hb1.ext hx2;have h5:=h4.ext hx2;refine Za<|nl<|Zr<|Zv (AV rfl Gs)<|Zv (AV rfl Im)<|Zv (AQ rfl DX ((Bx.cs hb3).at 0 rfl))<|Zv (AV rfl Gs)<|Zv (AV rfl Ip)<|Zv (AQ rfl DX ((Bx.cs hb2).at 1 rfl))<|Zv (F5 rfl rfl)<|Zv (AV rfl Gs)<|Zv (AV rfl Im)<|Zv (AQ rfl DX ((Bx.cs hb2).at 0 rfl))<|Zv (AV rfl Gs)<|Zv (AV rfl Ip)<|Zv (AQ rfl DX ((Bx.cs hb3).at 1 rfl))<|Zv (F5 rfl rfl)<|Zv (pI rfl rfl)<|Za<|nl<|Zr<|Zv (AV rfl Hl)<|Zv (AQ rfl DX ((Bx.cs hb2).at 2 rfl))<|Zv (AV rfl Hl)<|Zv (AQ rfl DX ((Bx.cs hb3).at 2 rfl))<|Zv (F5 rfl rfl)<|Za<|nl<|Zr<|Zm<|Zm<|Zv (Cv rfl)<|Zv (AV rfl JC)<|Zv (AV rfl MZ)<|Zv (AQ rfl DX (h5.at 1 rfl))<|Zv (Kk rfl rfl)<|Zm<|Zg rfl rfl (Bn rfl) (fun hc=>BM rfl)<|Zg rfl rfl (Bn rfl) (fun hc=>Cv (mv hc rfl))<|Zg rfl rfl (Bn rfl) (fun hc=>AV (mv hc rfl) JC)<|Zg rfl rfl (Bn rfl) (fun hc=>AV (mv hc rfl) Mc)<|Zg rfl rfl (Bn rfl) (fun hc=>AV (mv hc rfl) Im)<|Zg rfl rfl (Bn rfl) (fun hc=>AQ (mv hc rfl) DX (h5.at 2 rfl))<|Zg rfl rfl (Bn rfl) (fun hc=>BM rfl)<|Zg rfl rfl (Bn rfl) (fun hc=>Kk (mv hc rfl) (mv hc rfl))<|Zv (Kq rfl rfl rfl)<|Zm<|Zg rfl rfl (Bn rfl) (fun hc=>BM rfl)<|Zg rfl rfl (Bn rfl) (fun hc=>BM rfl)<|Zg rfl rfl (Bn rfl) (fun hc=>Cv (mv hc rfl))<|Zg rfl rfl (Bn rfl) (fun hc=>AV (mv hc rfl) JC)<|Zg rfl rfl (Bn rfl) (fun hc=>AV (mv hc rfl) Mc)<|Zg rfl rfl (Bn rfl) (fun hc=>AV (mv hc rfl) Ip)<|Zg rfl rfl (Bn rfl) (fun hc=>AQ (mv hc rfl) DX (h5.at 3 rfl))<|Zg rfl rfl (Bn rfl) (fun hc=>Kk (mv hc rfl) (mv hc rfl))<|Zv (Kq rfl rfl rfl)<|Za<|nl<|?_;cases hF;exact wp_ret<|Zw rfl rfl rfl ⟨rfl,k1⟩
theorem jH{w0:World}{b0:Nat}{cs0:List Value}{x0:(Bq×(List (Int×Bool))×(Ar 16 (Ar 16 Int))×Opq×Opq)}(h0:Cs w0 b0 0 cs0)(q0:Enc.rep (fun _=>True) w0 cs0 x0){v1:Value}{x1:(Int×Bool)}(r1:RV w0 v1 x1){x2:Int}{r:((Int×Int)×Int)}(hF:DI x0 x1 x2=some r):
  Calls Tryz.prog 298 [.pointer (some ⟨b0,0,none⟩),v1,.int .i64 x2].toArray w0 (A8 fun v w'=>∃u0:Value,v=u0/\RV w' u0 r/\Ext w0 w'):=by
 unfold DI at hF;obtain⟨_,_,rfl,⟨_,_,rfl,⟨a1,cq1,rfl,p1,q4,e1⟩,_,_,rfl,rfl,_,_,rfl,rfl,rfl⟩,_,_,rfl,⟨a2,cq2,rfl,p2,q5,e2⟩,_,_,rfl,rfl,_,_,rfl,⟨a3,rfl,q6⟩,a4,rfl,q7⟩:=q0;have r4:=RV.of1 p1 q4 e1;have hz:=id r1;obtain⟨_,rfl,_,_,rfl,rfl,rfl⟩:=hz;refine A9 (n:=23) Tryz.func298 rfl rfl rfl<|Zr<|CO rfl rfl fun b4 w1 hx1 hg1 hb1=>?_;have h4:=h0.ext hx1;refine D9 BZ fun b5 w2 hx2 hg2 hb2=>?_;have k1:=hx1.tr hx2;have hb3:=hb1.ext hx2;have h5:=h4.ext hx2;refine nl<|wp_seq<|Zr<|Zv (AV rfl P5)<|Zv (AQ rfl MX ((Bx.cs hb3).at 1 rfl))<|nl<|bS hF fun y1 hB1 hF=>ct (fun L w=>L 2=.int .i64 y1/\L 0=.pointer (some ⟨b0,0,none⟩)/\L 4=.pointer (some ⟨b4,0,none⟩)/\L 6=.pointer (some ⟨b5,0,none⟩)/\Ext w2 w) ?_ ?_
 ·refine cnd rfl (fun h6=>?_) (fun h6=>?_)
  ·have hB1:=Ah hB1 h6;refine rg<|Zm<|Zv (F5 rfl rfl)<|Za<|nl<|?_;cases hB1;refine lf<|?_;exact⟨rfl,rfl,rfl,rfl,(Ext.refl _)⟩
  ·have hB1:=Ai hB1 h6;refine wp_skip<|?_;cases hB1;refine lf<|?_;exact⟨rfl,rfl,rfl,rfl,(Ext.refl _)⟩
 rintro L w3⟨l2_j1,l0_j1,l4_j1,l6_j1,K0_j1⟩;have k2:=k1.tr K0_j1;have h7:=h5.ext K0_j1;have hb4:=hb3.ext K0_j1;have hb5:=hb2.ext K0_j1;refine wp_seq<|Gq [12] (.pure true 0 (.pure true 1 (.pure true 2 (.pure true 3 (.pure false 4 (.pure true 5 (.pure false 6 (.pure true 7 (.pure true 8 (.pure true 9 (.pure true 10 (.pure false 11 (.eff 12 .fin .stop))))))))))))) mixed (by kernel_rfl) (fun w4 hx3=>?_);have k4:=k2.tr hx3;have hb6:=hb4.ext hx3;have hb7:=hb5.ext hx3;have h8:=h7.ext hx3;refine Zn rfl<|Zp rfl (fun _=>Cv l0_j1)<|Zp rfl (fun _=>AV rfl JC)<|Zp rfl (fun _=>AV rfl Dy)<|Zq rfl (fun _ hS=>AQ rfl F6 ((h8.ext (hS.resolve_left nofun)).at 0 rfl)) (Ext.refl _)<|Zp rfl (fun _=>AV l4_j1 EX)<|Zq rfl (fun _ hS=>AQ rfl AY ((Bx.cs (hb6.ext (hS.resolve_left nofun))).at 0 rfl)) (Ext.refl _)<|Zn rfl<|bS hF fun x4 Ex4 hF=>?_;have hz:=(RV.els r4).ix Ex4;obtain⟨b6,f1,cs4,e3,i1,i2,q8,hc1⟩:=hz;cases e3;obtain⟨_,_,rfl,⟨_,_,rfl,⟨_,_,rfl,⟨_,_,rfl,rfl,rfl⟩,rfl⟩,_,_,rfl,⟨_,_,rfl,rfl,rfl⟩,rfl⟩,rfl⟩:=q8;have hc2:=hc1.ext k4;refine Zp rfl (fun _=>BG rfl rfl Tryz.underlying46 Hz i1 i2)<|Zp rfl (fun _=>AV rfl Mk)<|bS hF fun x5 Ex5 hF=>?_;have hq1:Cs w4 b6 (f1+x1.1.toNat*7+0) (List.flatMap Flat.enc (⟨[((x4.1.1.1.1,x4.1.1.1.2),x4.1.1.2),((x4.1.2.1.1,x4.1.2.1.2),x4.1.2.2)],rfl⟩:Ar 2 ((Int×Int)×Int)).l):=(hc2.sub 0 6);have hz:=Hw hq1 Ex5;obtain⟨i3,i4,hc3⟩:=hz;refine Zp rfl (fun _=>FV rfl l2_j1 Tryz.underlying174 BZ i3 i4)<|Zq rfl (fun _ hS=>Ab rfl BZ rfl (hc3.ext (hS.resolve_left nofun))) (Ext.refl _)<|CR rfl<|DC l6_j1 rfl rfl BZ hb7 rfl rfl (ble rfl) fun w5 hch1 hb8=>?_;have k7:=Ext.chg k4 hch1 (Nat.le_trans hx1.size hg2);have hb9:Bx w5 b5 173 [.int .i64 x5.1.1,.int .i64 x5.1.2,.int .i64 x5.2]:=hb8;refine nl ⟨fun h=>(h (by decide)).elim,?_⟩;cases hF;exact wp_ret<|rt rfl (.cell l6_j1 rfl BZ rfl (Bx.cs hb9) .nil) ⟨_,rfl,(show RV (α:=((Int×Int)×Int)) _ (.agg [.int .i64 x5.1.1,.int .i64 x5.1.2,.int .i64 x5.2].toArray) ((x5.1.1,x5.1.2),x5.2)from⟨_,rfl,[.int .i64 x5.1.1]++[.int .i64 x5.1.2],[.int .i64 x5.2],rfl,⟨[.int .i64 x5.1.1],[.int .i64 x5.1.2],rfl,rfl,rfl⟩,rfl⟩),k7⟩
theorem bA{w0:World}{v0:Value}{x0:Bq}(r0:RV w0 v0 x0){F:Nat}{r:Int}(hF:Cm F x0=some r):
  Calls Tryz.prog 102 [v0].toArray w0 (A8 fun v w'=>v=.int .i64 r/\Ext w0 w'):=by
 unfold Cm at hF;have hz:=id r0;obtain⟨_,rfl,_,_,rfl,⟨a1,cq1,rfl,p1,q2,e1⟩,_,_,rfl,rfl,_,_,rfl,rfl,rfl⟩:=hz;have r2:=RV.of1 p1 q2 e1;refine A9 (n:=63) Tryz.func102 rfl rfl rfl<|Zr<|CO rfl rfl fun b2 w1 hx1 hg1 hb1=>Za<|nl<|wp_seq<|Zr<|Zv (AV rfl Dy)<|Zv (AQ rfl F6 ((Bx.cs hb1).at 0 rfl))<|Zv (BV rfl Tryz.underlying46)<|Zv (BU rfl rfl)<|Zm<|Zg rfl rfl (Aq rfl) (fun hc=>AV rfl Dy)<|Zg rfl rfl (Aq rfl) (fun hc=>AQ (mv hc rfl) F6 ((Bx.cs hb1).at 0 rfl))<|Zg rfl rfl (Aq rfl) (fun hc=>BV (mv hc rfl) Tryz.underlying46)<|Zg rfl rfl (Aq rfl) (fun hc=>IC (mv hc rfl) rfl)<|Zv (Gh rfl rfl rfl)<|nl<|cnd rfl (fun h2=>?_) (fun h2=>?_)
 ·have hF:=Ah hF h2;refine Zr<|Za<|nl<|?_;cases hF;exact wp_ret<|Zw rfl rfl rfl ⟨rfl,hx1⟩
 ·have hF:=Ai hF h2;refine wp_skip<|wp_seq<|Zr<|Za<|nl<|bS hF fun o1 hB1 hF=>ct (fun L w=>o1=.inr ()/\L 1=.pointer (some ⟨b2,0,none⟩)/\Ext w1 w) ?_ ?_
  ·refine wp_block<|lp (I:=fun m L w=>∃y1:Int,Cg F x0 m y1=some o1/\L 3=.int .i64 y1/\L 1=.pointer (some ⟨b2,0,none⟩)/\Ext w1 w) F ⟨_,hB1,rfl,rfl,(Ext.refl _)⟩ ?_;rintro m L w2⟨y1,hB1,l3_i1,l1_i1,K0_i1⟩;rcases m with _|m
   ·rw[Cg]at hB1;cases hB1
   rw[Cg]at hB1;have k1:=hx1.tr K0_i1;have hb2:=hb1.ext K0_i1;refine wp_seq<|Zr<|Zm<|Zv (AV l1_i1 Dy)<|Zv (AQ rfl F6 ((Bx.cs hb2).at 0 rfl))<|Zv (BV rfl Tryz.underlying46)<|Zv (BU l3_i1 rfl)<|nl<|cnd rfl (fun h3=>?_) (fun h3=>?_)
   ·have hB1:=Ah hB1 h3;refine wp_skip<|wp_seq<|wp_block<|Zr<|Za<|nl<|bS hB1 fun o2 hB3 hB1=>ct (fun L w=>o2=.inr ()/\L 1=.pointer (some ⟨b2,0,none⟩)/\L 3=.int .i64 y1/\Ext w2 w) ?_ ?_
    ·refine wp_block<|lp (I:=fun m L w=>∃y2:Int,BR F x0 y1 m y2=some o2/\L 4=.int .i64 y2/\L 1=.pointer (some ⟨b2,0,none⟩)/\L 3=.int .i64 y1/\Ext w2 w) F ⟨_,hB3,rfl,l1_i1,l3_i1,(Ext.refl _)⟩ ?_;rintro m L w3⟨y2,hB3,l4_i2,l1_i2,l3_i2,K0_i2⟩;rcases m with _|m
     ·rw[BR]at hB3;cases hB3
     rw[BR]at hB3;have k2:=k1.tr K0_i2;have hb3:=hb2.ext K0_i2;refine wp_seq<|Zr<|Zm<|Zv (BU l4_i2 rfl)<|nl<|cnd rfl (fun h4=>?_) (fun h4=>?_)
     ·have hB3:=Ah hB3 h4;refine wp_skip<|wp_seq<|wp_block<|Zr<|Zv (AV l1_i2 Dy)<|Zv (AQ rfl F6 ((Bx.cs hb3).at 0 rfl))<|Zm<|Zm<|bS hB3 fun x2 Ex2 hB3=>?_;have hz:=(RV.els r2).ix Ex2;obtain⟨b3,f1,cs2,e2,i3,i4,q3,hc1⟩:=hz;cases e2;obtain⟨_,_,rfl,⟨_,_,rfl,⟨_,_,rfl,⟨_,_,rfl,rfl,rfl⟩,rfl⟩,_,_,rfl,⟨_,_,rfl,rfl,rfl⟩,rfl⟩,rfl⟩:=q3;have hc2:=hc1.ext k2;refine Zv (BG rfl l3_i2 Tryz.underlying46 Hz i3 i4)<|Zv (AV rfl Mk)<|bS hB3 fun x3 Ex3 hB3=>?_;have hq1:Cs w3 b3 (f1+y1.toNat*7+0) (List.flatMap Flat.enc (⟨[((x2.1.1.1.1,x2.1.1.1.2),x2.1.1.2),((x2.1.2.1.1,x2.1.2.1.2),x2.1.2.2)],rfl⟩:Ar 2 ((Int×Int)×Int)).l):=(hc2.sub 0 6);have hz:=Hw hq1 Ex3;obtain⟨i5,i6,hc3⟩:=hz;refine Zv (FV rfl l4_i2 Tryz.underlying174 BZ i5 i6)<|Zv (Ab rfl BZ rfl hc3)<|D9 BZ fun b4 w4 hx2 hg2 hb4=>?_;have k4:=k2.tr hx2;have k6:=K0_i2.tr hx2;refine DC rfl rfl rfl BZ hb4 rfl rfl (ble rfl) fun w5 hch1 hb6=>?_;have k7:=Ext.chg k4 hch1 (Nat.le_trans k2.size hg2);have k9:=Ext.chg k6 hch1 (Nat.le_trans K0_i2.size hg2);have hb8:Bx w5 b4 173 [.int .i64 x3.1.1,.int .i64 x3.1.2,.int .i64 x3.2]:=hb6;refine nl<|Zr<|Zv (AV rfl Gs)<|Zv (Ab rfl Ik rfl ((Bx.cs hb8).sub 0 2))<|bS hB3 fun x4 Ex4 hB3=>Zc (xc cZ (mc rfl (mc rfl (mc rfl mn)))) (jE (show RV (α:=(Int×Int)) _ (.agg [.int .i64 x3.1.1,.int .i64 x3.1.2].toArray) (x3.1.1,x3.1.2)from⟨_,rfl,[.int .i64 x3.1.1],[.int .i64 x3.1.2],rfl,rfl,rfl⟩) Ex4) ?_;rintro _ w6⟨rfl,hx3⟩;have k11:=k7.tr hx3;have k13:=k9.tr hx3;have hb10:=hb8.ext hx3;refine Zv (EK rfl)<|Zm<|Zg rfl rfl (Aq rfl) (fun hc=>AV rfl Hl)<|Zg rfl rfl (Aq rfl) (fun hc=>AQ (mv hc rfl) DX ((Bx.cs hb10).at 2 rfl))<|Zg rfl rfl (Aq rfl) (fun hc=>BU (mv hc rfl) rfl)<|Zv (Gh rfl rfl rfl)<|Zm<|Zg rfl rfl (Aq rfl) (fun hc=>AV rfl Hl)<|Zg rfl rfl (Aq rfl) (fun hc=>AQ (mv hc rfl) DX ((Bx.cs hb10).at 2 rfl))<|Zg rfl rfl (Aq rfl) (fun hc=>IC (mv hc rfl) rfl)<|Zv (Gh rfl rfl rfl)<|nl<|cnd rfl (fun h5=>?_) (fun h5=>?_)
      ·have hB3:=Ah hB3 h5;refine Zr<|Za<|nl<|?_;cases hB3;have hB1:=(show some _=some _ from hB1);cases hB1;have hF:=(show some _=some _ from hF);cases hF;exact wp_ret<|Zw rfl rfl rfl ⟨rfl,k11⟩
      ·have hB3:=Ai hB3 h5;refine wp_skip<|rg<|Zm<|Zv (Bg l4_i2 rfl)<|Za<|nl<|lq m (Nat.lt_succ_self _)<|?_;exact⟨_,hB3,rfl,l1_i2,l3_i2,k13⟩
     ·have hB3:=Ai hB3 h4;refine wp_exit<|?_;cases hB3;refine lf<|?_;exact⟨rfl,l1_i2,l3_i2,K0_i2⟩
    rintro L w7⟨rfl,l1_j1,l3_j1,K0_j1⟩;have k16:=K0_i1.tr K0_j1;refine rg<|Zm<|Zv (Bg l3_j1 rfl)<|Za<|nl<|lq m (Nat.lt_succ_self _)<|?_;exact⟨_,hB1,rfl,l1_j1,k16⟩
   ·have hB1:=Ai hB1 h3;refine wp_exit<|?_;cases hB1;refine lf<|?_;exact⟨rfl,l1_i1,K0_i1⟩
  rintro L w8⟨rfl,l1_j2,K0_j2⟩;have k17:=hx1.tr K0_j2;have hb12:=hb1.ext K0_j2;refine wp_seq<|Zr<|Zv (AV l1_j2 MZ)<|Zv (AQ rfl DX ((Bx.cs hb12).at 1 rfl))<|Zv (BU rfl rfl)<|Zm<|Zg rfl rfl (Aq rfl) (fun hc=>AV l1_j2 MZ)<|Zg rfl rfl (Aq rfl) (fun hc=>AQ (mv hc rfl) DX ((Bx.cs hb12).at 1 rfl))<|Zg rfl rfl (Aq rfl) (fun hc=>IC (mv hc rfl) rfl)<|Zv (Gh rfl rfl rfl)<|Zm<|Zg rfl rfl (Aq rfl) (fun hc=>AV l1_j2 Mc)<|Zg rfl rfl (Aq rfl) (fun hc=>Ab (mv hc rfl) Ik rfl ((Bx.cs hb12).sub 2 2))<|bS hF fun x5 Ex5 hF=>gc rfl rfl rfl rfl (Aq rfl) rfl (fun hc=>xc cZ (mc (mv hc rfl) (mc rfl (mc rfl mn)))) (fun hc=>(jE (show RV (α:=(Int×Int)) _ (.agg [.int .i64 x0.2.2.1,.int .i64 x0.2.2.2].toArray) (x0.2.2.1,x0.2.2.2)from⟨_,rfl,[.int .i64 x0.2.2.1],[.int .i64 x0.2.2.2],rfl,rfl,rfl⟩) (Lg Ex5 hc))) (fun v2 w9 hy1 hn1=>?_);have hx4:Ext w8 w9:=gx (fun h=>(hy1 h).2) (fun h=>(hn1 h).2▸Ext.refl _);have e3:=Li (fun h=>(hy1 h).1) (fun h=>(hn1 h).1);have k18:=k17.tr hx4;refine Zg rfl rfl (Aq rfl) (fun hc=>EK (mv hc e3))<|Zv (Gh rfl rfl rfl)<|nl<|cnd rfl (fun h6=>?_) (fun h6=>?_)
  ·have hF:=Ah hF h6;refine Zr<|Za<|nl<|?_;cases hF;exact wp_ret<|Zw rfl rfl rfl ⟨rfl,k18⟩
  ·have hF:=Ai hF h6;refine wp_skip<|Zr<|Za<|nl<|?_;cases hF;exact wp_ret<|Zw rfl rfl rfl ⟨rfl,k18⟩
theorem qy{w0:World}{v0:Value}{x0:(Int×Bool)}(r0:RV w0 v0 x0){b1:Nat}{cs1:List Value}{x1:(Int×Bool)}(h1:Cs w0 b1 0 cs1)(q1:Enc.rep (fun _=>True) w0 cs1 x1){r:Bool}(hF:FK x0 x1=some r):
  Calls Tryz.prog 219 [v0,.pointer (some ⟨b1,0,none⟩)].toArray w0 (A8 fun v w'=>v=.bool r/\Ext w0 w'):=by
 unfold FK at hF;have hz:=id r0;obtain⟨_,rfl,_,_,rfl,rfl,rfl⟩:=hz;obtain⟨_,_,rfl,rfl,rfl⟩:=q1;refine A9 (n:=7) Tryz.func219 rfl rfl rfl<|Zr<|CO rfl rfl fun b3 w1 hx1 hg1 hb1=>?_;have h3:=h1.ext hx1;refine Za<|nl<|Zr<|Zv (Ab rfl BK rfl (Bx.cs hb1))<|Zv (Ab rfl BK rfl h3)<|Zv (Sz (α:=(Int×Bool)) (a:=(x0.1,x0.2)) (b:=(x1.1,x1.2)) rfl pU pR rfl rfl rfl rfl rfl)<|Za<|nl<|?_;cases hF;exact wp_ret<|Zw rfl rfl rfl ⟨rfl,hx1⟩
theorem qz{w0:World}{v0:Value}{x0:(List (Int×Bool))}(r0:RV w0 v0 x0){v1:Value}{x1:(Int×Bool)->Option Bool}(h1:FnB Tryz.prog (Int×Bool) w0 v1 x1){F:Nat}{r:Int}(hF:Ec F x0 x1=some r):
  Calls Tryz.prog 218 [v0,v1].toArray w0 (A8 fun v w'=>v=.int .i64 r/\Ext w0 w'):=by
 unfold Ec at hF;have hz:=r0.sl;obtain⟨a1,cq1,rfl,-,-,-⟩:=hz;refine A9 (n:=19) Tryz.func218 rfl rfl rfl<|Zr<|Za<|nl<|wp_seq<|Zr<|Zm<|Zv (BV rfl Tryz.underlying51)<|Zm<|nl<|bS hF fun o1 hB1 hF=>ct (fun L w=>o1=.inr ()/\Ext w0 w) ?_ ?_
 ·refine wp_block<|lp (I:=fun m L w=>∃y1:Int,Bp F x0 x1 m y1=some o1/\L 9=.int .i64 y1/\L 1=v1/\L 7=.slice a1 x0.length cq1/\L 8=.int .i64 (x0.length:Int)/\Ext w0 w) F ⟨_,hB1,rfl,rfl,rfl,rfl,(Ext.refl _)⟩ ?_;rintro m L w1⟨y1,hB1,l9_i1,l1_i1,l7_i1,l8_i1,K0_i1⟩;rcases m with _|m
  ·rw[Bp]at hB1;cases hB1
  rw[Bp]at hB1;have h3:=h1.ext K0_i1;refine Zr<|Zv (BU l9_i1 l8_i1)<|nl<|wp_seq<|cnd rfl (fun h4=>?_) (fun h4=>?_)
  ·have hB1:=Ah hB1 h4;refine wp_skip<|wp_seq<|wp_block<|Zr<|Zm<|bS hB1 fun x3 Ex3 hB1=>?_;have hz:=(RV.els r0).ix Ex3;obtain⟨b3,f1,cs3,e1,i2,i3,q3,hc1⟩:=hz;cases e1;obtain⟨_,_,rfl,rfl,rfl⟩:=q3;have hc2:=hc1.ext K0_i1;refine Zv (BG l7_i1 l9_i1 Tryz.underlying51 BK i2 i3)<|Zv (Ab rfl BK rfl hc2)<|D9 BK fun b4 w2 hx1 hg1 hb1=>?_;have k1:=K0_i1.tr hx1;refine Za<|DC rfl rfl rfl BK hb1 rfl rfl (ble rfl) fun w3 hch1 hb2=>?_;have k2:=Ext.chg k1 hch1 (Nat.le_trans K0_i1.size hg1);have k3:=Ext.chg hx1 hch1 (Nat.le_trans (Nat.le_refl _) hg1);have h6:=h3.ext k3;have hb3:Bx w3 b4 56 [.int .i64 x3.1,.bool x3.2]:=hb2;refine nl<|Zr<|Zm<|Zv (Ab rfl BK rfl (Bx.cs hb3))<|bS hB1 fun x4 Ex4 hB1=>?_;have hz:=id h6;obtain⟨g1,fs1,cs4,e2,hg2,hu1⟩:=hz;refine Zc (Nn (l1_i1.trans e2) hg2 (mc rfl mn) rfl) (hu1 _ _ _ _ (Ext.refl _) (show RV (α:=(Int×Bool)) _ (.agg [.int .i64 x3.1,.bool x3.2].toArray) (x3.1,x3.2)from⟨_,rfl,[.int .i64 x3.1],[.bool x3.2],rfl,rfl,rfl⟩) Ex4) ?_;rintro _ w4⟨rfl,hx2⟩;have k4:=k2.tr hx2;refine nl<|cnd rfl (fun h8=>?_) (fun h8=>?_)
   ·have hB1:=Ah hB1 h8;refine Zr<|Zm<|Za<|nl<|?_;cases hB1;have hF:=(show some _=some _ from hF);cases hF;exact wp_ret<|rt rfl (.tmp l9_i1 rfl .nil) ⟨rfl,k4⟩
   ·have hB1:=Ai hB1 h8;refine wp_skip<|rg<|Zv (Bg l9_i1 rfl)<|Zm<|nl<|lq m (Nat.lt_succ_self _)<|?_;exact⟨_,hB1,rfl,l1_i1,l7_i1,l8_i1,k4⟩
  ·have hB1:=Ai hB1 h4;refine wp_exit<|?_;cases hB1;refine lf<|?_;exact⟨rfl,K0_i1⟩
 rintro L w5⟨rfl,K0_j1⟩;refine Zr<|Za<|nl<|?_;cases hF;exact wp_ret<|Zw rfl rfl rfl ⟨rfl,K0_j1⟩
theorem bB{w0:World}{b0:Nat}{cs0:List Value}{x0:(Bq×(List (Int×Bool))×(Ar 16 (Ar 16 Int))×Opq×Opq)}(h0:Cs w0 b0 0 cs0)(q0:Enc.rep (fun _=>True) w0 cs0 x0){v1:Value}{x1:(Int×Bool)}(r1:RV w0 v1 x1){F:Nat}{r:Int}(hF:Ch F x0 x1=some r):
  Calls Tryz.prog 114 [.pointer (some ⟨b0,0,none⟩),v1].toArray w0 (A8 fun v w'=>v=.int .i64 r/\Ext w0 w'):=by
 unfold Ch at hF;obtain⟨_,_,rfl,⟨_,_,rfl,⟨a1,cq1,rfl,p1,q3,e1⟩,_,_,rfl,rfl,_,_,rfl,rfl,rfl⟩,_,_,rfl,⟨a2,cq2,rfl,p2,q4,e2⟩,_,_,rfl,rfl,_,_,rfl,⟨a3,rfl,q5⟩,a4,rfl,q6⟩:=q0;have r4:=RV.of1 p2 q4 e2;have hz:=id r1;obtain⟨_,rfl,_,_,rfl,rfl,rfl⟩:=hz;refine A9 (n:=11) Tryz.func114 rfl rfl rfl<|Zr<|CO rfl rfl fun b3 w1 hx1 hg1 hb1=>?_;have r6:=r4.ext hx1;have h3:=h0.ext hx1;refine Za<|nl<|Zr<|Zm<|Zv (Cv rfl)<|Zv (AV rfl F8)<|Zv (AQ rfl Km (h3.at 4 rfl))<|Zv (Lj mn (mc rfl mn))<|bS hF fun x3 Ex3 hF=>Zc (xc lQ (mc rfl (mc rfl mn))) (qz r6 ⟨219,[],[.pointer (some ⟨b3,0,none⟩)],rfl,lS,fun w' u x b hk hu hp=>qy hu (Bx.cs (hb1.ext hk)) ⟨[.int .i64 x1.1],[.bool x1.2],rfl,rfl,rfl⟩ hp⟩ Ex3) ?_;rintro _ w2⟨rfl,hx2⟩;have k1:=hx1.tr hx2;refine Za<|nl<|?_;cases hF;exact wp_ret<|Zw rfl rfl rfl ⟨rfl,k1⟩
theorem jI{w0:World}{b0:Nat}{cs0:List Value}{x0:(Bq×(List (Int×Bool))×(Ar 16 (Ar 16 Int))×Opq×Opq)}(h0:Cs w0 b0 0 cs0)(q0:Enc.rep (fun _=>True) w0 cs0 x0){v1:Value}{x1:(Int×Int)}(r1:RV w0 v1 x1){x2:Int}{r:(Int×Int)}(hF:He x0 x1 x2=some r):
  Calls Tryz.prog 272 [.pointer (some ⟨b0,0,none⟩),v1,.int .i64 x2].toArray w0 (A8 fun v w'=>∃u0:Value,v=u0/\RV w' u0 r/\Ext w0 w'):=by
 unfold He at hF;obtain⟨_,_,rfl,⟨_,_,rfl,⟨a1,cq1,rfl,p1,q4,e1⟩,_,_,rfl,rfl,_,_,rfl,rfl,rfl⟩,_,_,rfl,⟨a2,cq2,rfl,p2,q5,e2⟩,_,_,rfl,rfl,_,_,rfl,⟨a3,rfl,q6⟩,a4,rfl,q7⟩:=q0;have r5:=RV.of1 p2 q5 e2;have hz:=id r1;obtain⟨_,rfl,_,_,rfl,rfl,rfl⟩:=hz;refine A9 (n:=21) Tryz.func272 rfl rfl rfl<|Zr<|CO rfl rfl fun b4 w1 hx1 hg1 hb1=>?_;have h4:=h0.ext hx1;refine D9 D6 fun b5 w2 hx2 hg2 hb2=>?_;have k1:=hx1.tr hx2;have hb3:=hb1.ext hx2;have h5:=h4.ext hx2;refine nl<|wp_seq<|Gq [14] (.pure true 0 (.pure false 1 (.pure true 2 (.pure true 3 (.pure true 4 (.pure false 5 (.pure true 6 (.pure true 7 (.pure true 8 (.pure false 9 (.pure true 10 (.pure true 11 (.pure true 12 (.pure true 13 (.eff 14 .fin .stop))))))))))))))) mixed (by kernel_rfl) (fun w3 hx3=>?_);have k2:=k1.tr hx3;have hb4:=hb3.ext hx3;have hb5:=hb2.ext hx3;have h6:=h5.ext hx3;refine Zp rfl (fun _=>AV rfl Qy)<|Zq rfl (fun _ hS=>AQ rfl AY ((Bx.cs (hb4.ext (hS.resolve_left nofun))).at 0 rfl)) (Ext.refl _)<|Zn rfl<|Zp rfl (fun _=>Cv rfl)<|Zp rfl (fun _=>AV rfl F8)<|Zq rfl (fun _ hS=>AQ rfl Km ((h6.ext (hS.resolve_left nofun)).at 4 rfl)) (Ext.refl _)<|Zn rfl<|bS hF fun x4 Ex4 hF=>?_;have hz:=(RV.els r5).ix Ex4;obtain⟨b6,f1,cs4,e3,i1,i2,q8,hc1⟩:=hz;cases e3;obtain⟨_,_,rfl,rfl,rfl⟩:=q8;have hc2:=hc1.ext k2;refine Zp rfl (fun _=>BG rfl rfl Tryz.underlying51 BK i1 i2)<|Zp rfl (fun _=>AV rfl EX)<|Zq rfl (fun _ hS=>AQ rfl AY ((hc2.ext (hS.resolve_left nofun)).at 0 rfl)) (Ext.refl _)<|bS hF fun x5 Ex5 hF=>Zp rfl (fun _=>Wm rfl rfl Ex5)<|Zp rfl (fun _=>qQ rfl rfl)<|Zn rfl<|Zp rfl (fun _=>JL (r:=[.int .i64 (N7 .i64 x1.1 x5),.int .i64 x2]) D6 SX (pc rfl (pc rfl pn)) rfl)<|CR rfl<|DC rfl rfl rfl D6 hb5 rfl rfl (ble rfl) fun w4 hch1 hb6=>?_;have k4:=Ext.chg k2 hch1 (Nat.le_trans hx1.size hg2);have hb7:Bx w4 b5 326 [.int .i64 (N7 .i64 x1.1 x5),.int .i64 x2]:=hb6;refine nl ⟨fun h=>(h (by decide)).elim,?_⟩;cases hF;exact wp_ret<|rt rfl (.cell rfl rfl D6 rfl (Bx.cs hb7) .nil) ⟨_,rfl,(show RV (α:=(Int×Int)) _ (.agg [.int .i64 (N7 .i64 x1.1 x5),.int .i64 x2].toArray) (N7 .i64 x1.1 x5,x2)from⟨_,rfl,[.int .i64 (N7 .i64 x1.1 x5)],[.int .i64 x2],rfl,rfl,rfl⟩),k4⟩
theorem rA{w0:World}{x0:Int}{b1:Nat}{cs1:List Value}{x1:(Int×Int)}(h1:Cs w0 b1 0 cs1)(q1:Enc.rep (fun _=>True) w0 cs1 x1){b2:Nat}{cs2:List Value}{x2:(Ob (Bq×(List (Int×Bool))×(Ar 16 (Ar 16 Int))×Opq×Opq))}(h2:Cs w0 b2 0 cs2)(q2:Enc.rep (fun _=>True) w0 cs2 x2){r:Bool}(hF:F3 x0 x1 x2=some r):
  Calls Tryz.prog 309 [.int .i64 x0,.pointer (some ⟨b1,0,none⟩),.pointer (some ⟨b2,0,none⟩)].toArray w0 (A8 fun v w'=>v=.bool r/\Ext w0 w'):=by
 unfold F3 at hF;obtain⟨_,_,rfl,rfl,rfl⟩:=q1;have q4:=q2;have hz:=dL q4;obtain⟨a1,rfl,r4⟩:=hz;refine A9 (n:=18) Tryz.func309 rfl rfl rfl<|Zr<|Za<|nl<|wp_seq<|Gq [] (.pure true 0 (.pure false 1 (.pure false 2 (.pure true 3 (.pure true 4 (.pure false 5 (.pure true 6 (.pure true 7 (.pure true 8 (.pure false 9 (.pure true 10 (.pure true 11 (.pure true 12 (.pure true 13 .fin)))))))))))))) mixed (by kernel_rfl) (fun w1 hx1=>?_);have h4:=h1.ext hx1;have h5:=h2.ext hx1;refine Zp rfl (fun _=>AV rfl Qy)<|Zq rfl (fun _ hS=>AQ rfl AY ((h4.ext (hS.resolve_left nofun)).at 0 rfl)) (Ext.refl _)<|Zq rfl (fun _ hS=>AQ rfl EI ((h5.ext (hS.resolve_left nofun)).at 0 rfl)) (Ext.refl _)<|bS hF fun x4 Ex4 hF=>?_;have hz:=WZ r4 Ex4;obtain⟨b4,cs4,e1,q5,hc1⟩:=hz;cases e1;obtain⟨_,_,rfl,⟨_,_,rfl,⟨a2,cq1,rfl,p1,q6,e2⟩,_,_,rfl,rfl,_,_,rfl,rfl,rfl⟩,_,_,rfl,⟨a3,cq2,rfl,p2,q7,e3⟩,_,_,rfl,rfl,_,_,rfl,⟨a4,rfl,q8⟩,a5,rfl,q9⟩:=q5;have r7:=RV.of1 p2 q7 e3;have hc2:=hc1.ext hx1;refine Zp rfl (fun _=>Cv rfl)<|Zp rfl (fun _=>AV rfl F8)<|Zq rfl (fun _ hS=>AQ rfl Km ((hc2.ext (hS.resolve_left nofun)).at 4 rfl)) (Ext.refl _)<|Zn rfl<|bS hF fun x5 Ex5 hF=>?_;have hz:=(RV.els r7).ix Ex5;obtain⟨b5,f1,cs5,e4,i1,i2,q10,hc3⟩:=hz;cases e4;obtain⟨_,_,rfl,rfl,rfl⟩:=q10;have hc4:=hc3.ext hx1;refine Zp rfl (fun _=>BG rfl rfl Tryz.underlying51 BK i1 i2)<|Zp rfl (fun _=>AV rfl EX)<|Zq rfl (fun _ hS=>AQ rfl AY ((hc4.ext (hS.resolve_left nofun)).at 0 rfl)) (Ext.refl _)<|bS hF fun x6 Ex6 hF=>Zp rfl (fun _=>qR rfl rfl Ex6)<|Zp rfl (fun _=>iC rfl rfl)<|Zp rfl (fun _=>EU rfl rfl)<|Zp rfl (fun _=>Ij)<|?_;cases hF;exact wp_ret<|Zw rfl rfl rfl ⟨rfl,hx1⟩
abbrev OX:=(Int×Int)×Int
abbrev M7:=(OX×OX)×Bool
abbrev Aw:=List M7×Int×(Int×Int)
abbrev Aj:=Int×Bool
abbrev Dv:=Ar 16 (Ar 16 Int)
abbrev Bl:=Aw×List Aj×Dv×Opq×Opq
abbrev BD:=Int×Int
def Gw(a1:Option Addr)(c1:Nat)(c:Aw)(sv:Value)(X:Dv)(ma mu:Nat):List Value:=
 [.slice a1 c.1.length c1,.int .i64 c.2.1,.int .i64 c.2.2.1,.int .i64 c.2.2.2,sv]++(X.l.flatMap Flat.enc++[.map (some ma),.map (some mu)])
theorem Ng{a1:Option Addr}{c1:Nat}{c:Aw}{sv:Value}{X:Dv}{ma mu:Nat}:(Gw a1 c1 c sv X ma mu).length=263:=by
 unfold Gw;rw[List.length_append,List.length_append,Ir]
 rfl
theorem K3{ok:Nat->Prop}{w:World}{a1:Option Addr}{c1:Nat}{c:Aw}{sv:Value}{X:Dv}{ma mu:Nat}{st:List Aj}(h1:RVo ok w (.slice a1 c.1.length c1) c.1)(h2:RVo ok w sv st):
  Enc.rep ok w (Gw a1 c1 c sv X ma mu) ((c,st,X,.mk,.mk):Bl):=by
 obtain⟨a,cc,rfl,h3,h4,h5⟩:=RVo.sl.1 h2;obtain⟨a',cc',e,h6,h7,h8⟩:=RVo.sl.1 h1;cases e;exact⟨[.slice a1 c.1.length c1,.int .i64 c.2.1,.int .i64 c.2.2.1,.int .i64 c.2.2.2],[.slice a st.length cc]++(X.l.flatMap Flat.enc++([.map (some ma)]++[.map (some mu)])),rfl,
  ⟨[.slice a1 c.1.length c1],[.int .i64 c.2.1]++([.int .i64 c.2.2.1]++[.int .i64 c.2.2.2]),rfl,⟨a1,c1,rfl,h6,h7,h8⟩,[.int .i64 c.2.1],[.int .i64 c.2.2.1]++[.int .i64 c.2.2.2],rfl,rfl,[.int .i64 c.2.2.1],[.int .i64 c.2.2.2],rfl,rfl,rfl⟩,
  ⟨[.slice a st.length cc],X.l.flatMap Flat.enc++([.map (some ma)]++[.map (some mu)]),rfl,⟨a,cc,rfl,h3,h4,h5⟩,X.l.flatMap Flat.enc,[.map (some ma)]++[.map (some mu)],rfl,rfl,[.map (some ma)],[.map (some mu)],rfl,⟨_,rfl,rfl⟩,_,rfl,rfl⟩⟩
def TbP(N:Nat)(w:World)(v:Value)(x:Bl)(b ma mu:Nat):Prop:=
 v=.pointer (some ⟨b,0,none⟩)/\RVo (fun q=>q≠ma/\q≠mu) w v (⟨some x⟩:Ob Bl)/\w.cell? ⟨b,261,none⟩=some (.map (some ma))/\w.cell? ⟨b,262,none⟩=some (.map (some mu))/\
 Mp (κ:=BD) (ν:=Int) w ma []/\Mp (κ:=BD) (ν:=Int) w mu []/\ma≠mu/\N<=ma/\N<=mu
def TbN(N:Nat)(w:World)(v:Value)(x:Ob Bl):Prop:=∃y b ma mu,x=⟨some y⟩/\TbP N w v y b ma mu
theorem I8{w w':World}{b o:Nat}{c:Value}(h:w.cell? ⟨b,o,none⟩=some c)(k:Ext w w'):w'.cell? ⟨b,o,none⟩=some c:=by
 have hlt:=World.block_lt_of_cell? w _ h;exact(World.cell?_of_block (a:=⟨b,o,none⟩) (k.block b hlt)).trans h
theorem TbN.ext{N:Nat}{w w':World}{v:Value}{x:Ob Bl}(h:TbN N w v x)(k:Ext w w'):TbN N w' v x:=by
 obtain⟨y,b,ma,mu,rfl,h1,h2,h3,h4,h5,h6,h7⟩:=h;exact⟨y,b,ma,mu,rfl,h1,h2.ext k,I8 h3 k,I8 h4 k,h5.ext k,h6.ext k,h7⟩
theorem TbN.mono{N M:Nat}{w:World}{v:Value}{x:Ob Bl}(h:TbN N w v x)(hM:M<=N):TbN M w v x:=by
 obtain⟨y,b,ma,mu,rfl,h1,h2,h3,h4,h5,h6,h7,h8,h9⟩:=h;exact⟨y,b,ma,mu,rfl,h1,h2,h3,h4,h5,h6,h7,Nat.le_trans hM h8,Nat.le_trans hM h9⟩
theorem TbN.rv{N:Nat}{w:World}{v:Value}{x:Ob Bl}(h:TbN N w v x):RV w v x:=by
 obtain⟨y,b,ma,mu,rfl,h1,h2,h3⟩:=h;exact h2.rv
def K4(P:List M7):Nat->Int->List Aj->Option (List Aj)
 |0,_,_=>none
 |m+1,i,st=>
  if decide (i<(P.length:Int))=true then
   (ix P i)>>=fun p=>
   (app 16 st ([(i,false)]:List Aj))>>=fun s1=>
   if p.2=true then(app 16 s1 ([(i,true)]:List Aj))>>=fun s2=>K4 P m (Aa (i+1)) s2
   else K4 P m (Aa (i+1)) s1
  else some st
def UY(x:Bl)(p q:Aj):Option Bool:=
 if(!decide (p.1=q.1))=true then(DI x p 1)>>=fun e=>(DI x q 0)>>=fun d=>Fx x e d
 else some false
def K5(c:Aw)(st:List Aj)(i:Int)(p:Aj):Nat->Int->Dv->Option Dv
 |0,_,_=>none
 |m+1,k,X=>
  if decide (k<(st.length:Int))=true then
   (ix st k)>>=fun q=>
   (UY (c,st,X,.mk,.mk) p q)>>=fun f=>
   if f=true then(ix X.l i)>>=fun r=>(ix r.l k)>>=fun _=>K5 c st i p m (Aa (k+1)) (Cc X i (Cc r k 1))
   else K5 c st i p m (Aa (k+1)) X
  else some X
def MC(F:Nat)(c:Aw)(st:List Aj):Nat->Int->Dv->Option Dv
 |0,_,_=>none
 |m+1,i,X=>
  if decide (i<(st.length:Int))=true then
   (ix st i)>>=fun p=>(K5 c st i p F 0 X)>>=fun Y=>MC F c st m (Aa (i+1)) Y
  else some X
def FX(F:Nat)(c:Aw):Option (Ob Bl):=
 (K4 c.1 F 0 [])>>=fun st=>(MC F c st F 0 (Ar.fill 16 (Ar.fill 16 0)))>>=fun X=>some ⟨some (c,st,X,.mk,.mk)⟩
theorem Xu(l1 l2 l3:List Value)(o:Nat)(vs:List Value)(h:o+vs.length<=l2.length):Md.BX (l1++(l2++l3)) (l1.length+o) vs=l1++(Md.BX l2 o vs++l3):=by
 have hl:(Md.BX l2 o vs).length=l2.length:=by simp only[Md.BX,List.length_append,List.length_take,List.length_drop];omega
 apply List.ext_getElem?;intro j;rw[G6 (by simp only[List.length_append];omega)];by_cases h1:j<l1.length
 ·rw[if_neg (by omega),List.getElem?_append_left h1,List.getElem?_append_left h1]
 ·rw[List.getElem?_append_right (l₁:=l1) (l₂:=l2++l3) (by omega),List.getElem?_append_right (l₁:=l1) (l₂:=Md.BX l2 o vs++l3) (by omega)]
  by_cases h2:j-l1.length<l2.length
  ·rw[List.getElem?_append_left h2,List.getElem?_append_left (by omega),G6 h]
   by_cases h3:o<=j-l1.length/\j-l1.length<o+vs.length
   ·rw[if_pos h3,if_pos (by omega),show j-(l1.length+o)=j-l1.length-o by omega]
   ·rw[if_neg h3,if_neg (by omega)]
  ·rw[if_neg (by omega),List.getElem?_append_right (l₁:=l2) (by omega),List.getElem?_append_right (l₁:=Md.BX l2 o vs) (by omega),hl]
theorem Vg{X:Dv}{i k:Int}{r:Ar 16 Int}{v:Int}(hi:ix X.l i=some r)(hk:0<=k)(hk2:k<16):
  Md.BX (X.l.flatMap Flat.enc) (i.toNat*16+k.toNat) [.int .i64 v]=(Cc X i (Cc r k v)).l.flatMap Flat.enc:=by
 obtain⟨i0,i1,i2⟩:=Dt hi;have hX:X.l.length=16:=X.h;have hr:r.l.length=16:=r.h;have hfX:(X.l.flatMap Flat.enc).length=16*16:=by rw[Ir];rfl
 have hfr:(r.l.flatMap Flat.enc).length=16:=by rw[Ir];rfl
 have e1:(Cc X i (Cc r k v)).l.flatMap Flat.enc=Md.BX (X.l.flatMap Flat.enc) (i.toNat*Enc.n (Ar 16 Int)) (Flat.enc (Cc r k v)):=(JM X.l i.toNat (Cc r k v) (by omega)).symm;have e2:Flat.enc (Cc r k v)=Md.BX (r.l.flatMap Flat.enc) (k.toNat*Enc.n Int) (Flat.enc v):=(JM r.l k.toNat v (by omega)).symm;have n1:Enc.n (Ar 16 Int)=16:=rfl;have n2:Enc.n Int=1:=rfl;have hl2:(Flat.enc (Cc r k v)).length=16:=by rw[Flat.len];rfl
 rw[e1,n1];apply List.ext_getElem?;intro j;rw[G6 (by simp only[List.length_singleton];omega),G6 (by omega),hl2];by_cases h:i.toNat*16<=j/\j<i.toNat*16+16
 ·rw[if_pos h,e2,n2,Nat.mul_one]
  have h3:(Flat.enc v:List Value)=[.int .i64 v]:=rfl;rw[h3,G6 (by simp only[List.length_singleton];omega)];simp only[List.length_singleton];by_cases h2:j=i.toNat*16+k.toNat
  ·rw[if_pos (by omega),if_pos (by omega),h2]
   simp
  ·rw[if_neg (by omega),if_neg (by omega)]
   have hj:j-i.toNat*16<(Flat.enc r:List Value).length:=by rw[Flat.len,n1];omega
   have:=MV X.l i.toNat r (j-i.toNat*16) _ i2 (List.getElem?_eq_getElem hj);rw[n1,show i.toNat*16+(j-i.toNat*16)=j by omega]at this;rw[this];exact(List.getElem?_eq_getElem hj).symm
 ·rw[if_neg h,if_neg (by simp only[List.length_singleton];omega)]
theorem Xv{a1:Option Addr}{c1:Nat}{c:Aw}{sv:Value}{X:Dv}{ma mu:Nat}{i k:Int}{r:Ar 16 Int}{v:Int}(hi:ix X.l i=some r)(hk:0<=k)(hk2:k<16):
  Md.BX (Gw a1 c1 c sv X ma mu) (5+(i.toNat*16+k.toNat)) [.int .i64 v]=Gw a1 c1 c sv (Cc X i (Cc r k v)) ma mu:=by
 unfold Gw;have:=Xu [.slice a1 c.1.length c1,.int .i64 c.2.1,.int .i64 c.2.2.1,.int .i64 c.2.2.2,sv] (X.l.flatMap Flat.enc) [.map (some ma),.map (some mu)] (i.toNat*16+k.toNat) [.int .i64 v] (by
  obtain⟨i0,i1,i2⟩:=Dt hi;have hX:X.l.length=16:=X.h;rw[Ir,show Enc.n (Ar 16 Int)=16 from rfl,List.length_singleton];omega)
 rw[Vg hi hk hk2]at this;exact this
section
structure NT(w0 w:World)(base b4:Nat)(a1:Option Addr)(c1:Nat)(c:Aw)(sv:Value)(st:List Aj)(X:Dv)(ma mu:Nat):Prop where
 bx:Bx w b4 199 (Gw a1 c1 c sv X ma mu)
 row:Row 56 base w sv st
 ma:Mp (κ:=BD) (ν:=Int) w ma []
 mu:Mp (κ:=BD) (ν:=Int) w mu []
 ext:Ext w0 w
 size:base<=w.heap.size
section
variable {w0 w w1 w2:World}{base b4:Nat}{a1:Option Addr}{c1:Nat}{c:Aw}{sv sv':Value}{st st':List Aj}{X:Dv}{ma mu:Nat}
theorem NT.go(h:NT w0 w base b4 a1 c1 c sv st X ma mu)(k:Ext w w1):NT w0 w1 base b4 a1 c1 c sv st X ma mu:=
 ⟨h.bx.ext k,h.row.ext k,h.ma.ext k,h.mu.ext k,h.ext.tr k,Nat.le_trans h.size k.size⟩
theorem NT.steps(h:NT w0 w base b4 a1 c1 c sv st X ma mu)(hw0:w0.heap.size<=base)(h0:w0.heap.size<=b4)(h4:b4<base)(ha:ma<base)(hu:mu<base)(o:Row 56 base w1 sv' st')(hB:Below base w w1)(hc:Chg b4 w1 w2)(hb:Bx w2 b4 199 (Md.BX (Gw a1 c1 c sv X ma mu) 4 [sv'])):
  NT w0 w2 base b4 a1 c1 c sv' st' X ma mu:=by
 have hx:Bx w1 b4 199 (Gw a1 c1 c sv X ma mu):=h.bx.below hB h4;exact⟨hb,o.chg hc h4,(h.ma.below hB ha).chgb hc hx,(h.mu.below hB hu).chgb hc hx,Ext.chg (h.ext.trans (hB.mono hw0)) hc h0,by rw[hc.size];exact Nat.le_trans h.size hB.size⟩
theorem NT.fit{Y:Dv}(h:NT w0 w base b4 a1 c1 c sv st X ma mu)(h0:w0.heap.size<=b4)(h4:b4<base)(hc:Chg b4 w w1)(hb:Bx w1 b4 199 (Gw a1 c1 c sv Y ma mu)):NT w0 w1 base b4 a1 c1 c sv st Y ma mu:=
 ⟨hb,h.row.chg hc h4,h.ma.chgb hc h.bx,h.mu.chgb hc h.bx,h.ext.chg hc h0,by rw[hc.size];exact h.size⟩
end
set_option maxHeartbeats 8000000 in
set_option maxRecDepth 20000 in
theorem nQ{w0:World}{v0:Value}{x0:Aw}(r0:RV w0 v0 x0){F:Nat}{r:Ob Bl}(hF:FX F x0=some r):
  Calls Tryz.prog 215 [v0].toArray w0 (A8 fun v w'=>∃b a1 c1 sv st X ma mu base,v=.pointer (some ⟨b,0,none⟩)/\r=⟨some (x0,st,X,.mk,.mk)⟩/\NT w0 w' base b a1 c1 x0 sv st X ma mu/\RVo (·<w0.heap.size) w0 (.slice a1 x0.1.length c1) x0.1/\
   w0.heap.size<=b/\b<base/\w0.heap.size<=ma/\ma<base/\w0.heap.size<=mu/\mu<base/\ma≠mu):=by
 unfold FX at hF;refine bS hF fun st hS hF=>bS hF fun X hX hF=>?_;cases hF;have hz:=id r0;obtain⟨_,rfl,_,_,rfl,⟨a1,c1,rfl,p1,q3,e1⟩,_,_,rfl,rfl,_,_,rfl,rfl,rfl⟩:=hz;have r3:=RV.of1 p1 q3 e1;refine A9 (n:=96) Tryz.func215 rfl rfl rfl<|Zr<|CO rfl rfl fun b1 w1 hx1 hg1 hb1=>Za<|nl<|Zr<|Zv (Ab rfl Gc rfl (Bx.cs hb1))<|gq (κ:=BD) (ν:=Int) fun ma w2 hx2 hg2 hm2=>gq (κ:=BD) (ν:=Int) fun mu w3 hx3 hg3 hm3=>Zv (JL (r:=Gw a1 c1 x0 (.slice none 0 0) (Ar.fill 16 (Ar.fill 16 0)) ma mu) kX kY (pc rfl (pc rfl (pc rfl pn))) rfl)<|CO rfl rfl fun b4 w4 hx4 hg4 hb4=>?_;have k3:Ext w0 w3:=(hx1.tr hx2).tr hx3;have hlma:=hm2.lt;have hlmu:=hm3.lt;have hlb:=hb4.lt;have z1:=hx1.size;have z2:=hx2.size;have z3:=hx3.size;have z4:=hx4.size;have T0:NT w0 w4 w4.heap.size b4 a1 c1 x0 (.slice none 0 0) [] (Ar.fill 16 (Ar.fill 16 0)) ma mu:=⟨hb4,Row.nil,(hm2.ext hx3).ext hx4,hm3.ext hx4,k3.tr hx4,Nat.le_refl _⟩;have hw0:w0.heap.size<=w4.heap.size:=by omega
 have h0b:w0.heap.size<=b4:=by omega
 have h0a:w0.heap.size<=ma:=by omega
 have h0u:w0.heap.size<=mu:=by omega
 have hab:ma<w4.heap.size:=by omega
 have hub:mu<w4.heap.size:=by omega
 have hne:ma≠mu:=by omega
 generalize hbase:w4.heap.size=base at T0 hw0 hab hub hlb;refine Za<|nl<|wp_seq<|Zr<|Zm<|Zv (Cv rfl)<|Zv (AV rfl JC)<|Zv (AV rfl Dy)<|Zv (AQ rfl F6 ((Bx.cs hb4).at 0 rfl))<|Zv (BV rfl Tryz.underlying46)<|Zm<|nl<|ct (fun L w=>∃sv,L 3=.pointer (some ⟨b4,0,none⟩)/\NT w0 w base b4 a1 c1 x0 sv st (Ar.fill 16 (Ar.fill 16 0)) ma mu) ?_ ?_
 ·refine wp_block<|lp (I:=fun m L w=>∃(i:Int)(BJ:List Aj)(sv:Value),K4 x0.1 m i BJ=some st/\L 21=.int .i64 i/\L 20=.int .i64 (x0.1.length:Int)/\L 19=.slice a1 x0.1.length c1/\L 3=.pointer (some ⟨b4,0,none⟩)/\NT w0 w base b4 a1 c1 x0 sv BJ (Ar.fill 16 (Ar.fill 16 0)) ma mu) F
   ⟨_,_,_,hS,rfl,rfl,rfl,rfl,T0⟩ ?_
  rintro m L w⟨i,BJ,sv,hB,l21,l20,l19,l3,T⟩;rcases m with _|m
  ·rw[K4]at hB;cases hB
  rw[K4]at hB;refine Zr<|Zv (BU l21 l20)<|nl<|wp_seq<|cnd rfl (fun h6=>?_) (fun h6=>?_)
  ·have hB:=Ah hB h6
   refine bS hB fun p Ep hB=>bS hB fun s1 E1 hB=>?_;have hz:=(RV.els (r3.ext T.ext)).ix Ep;obtain⟨b5,off5,cs5,e,i1,i2,q5,hc5⟩:=hz;cases e;obtain rfl:=Flat.iff.1 q5;refine wp_skip<|wp_seq<|wp_block<|Zr<|Zm<|Zv (BG l19 l21 Tryz.underlying46 Hz i1 i2)<|Zv (Ab rfl Hz rfl hc5)<|D9 Hz fun b6 w5 hx5 hg5 hb6=>Zv (WM l21)<|DC rfl rfl rfl Hz hb6 rfl rfl (ble rfl) fun w6 hch6 hb7=>?_;have kx6:Ext w w6:=hx5.chg hch6 hg5;have T6:=T.go kx6;refine nl<|Zr<|Zv (BM l3)<|Zv (BM l3)<|Zv (Cv rfl)<|Zv (AV rfl F8)<|Zv (AQ rfl Km ((Bx.cs T6.bx).at 4 rfl))<|Zm<|Zv (JL (r:=[.int .i64 i,.bool false]) BK WN (pc rfl pn) rfl)<|Gb (cs:=[.int .i64 i,.bool false]) Tryz.underlying51 BK rfl (pc rfl pn) rfl rfl rfl rfl rfl fun b8 w7 hx7 hg7 hb8=>?_;have o7:Row (α:=Aj) 56 w6.heap.size w7 (.slice (some ⟨b8,0,none⟩) 1 1) [(i,false)]:=Row.lit hg7 hb8 rfl (ble rfl);have T7:=T6.go hx7;refine MI (l:=BJ) (k:=([(i,false)]:List Aj)) rfl rfl Tryz.underlying51 BK rfl rfl T7.row (RV.els o7.rv) E1 T7.size fun v8 w8 o8 hB8 hg8 hw8=>?_;have hz:=RV.sl o8.rv;obtain⟨a8,c8,rfl,-,-,-⟩:=hz;refine Zv (Cv rfl)<|Zv (AV rfl F8)<|DC rfl rfl rfl Km (T7.bx.below hB8 hlb) rfl rfl (by rw[Ng];exact ble rfl) fun w9 hch9 hb9=>?_;have T9:=T7.steps hw0 h0b hlb hab hub o8 hB8 hch9 hb9;have hb7x:Bx w9 b6 176 (Flat.enc p):=by
    have h1:Bx w6 b6 176 (Flat.enc p):=hb7;have hs:=T.size;exact((h1.ext hx7).gr hg8 (T.row.ne_new hg5)).chg hch9 (by omega)
   refine nl<|Zr<|Zv (AV rfl Oo)<|Zv (AQ rfl MX ((Bx.cs hb7x).at 6 rfl))<|nl<|cnd rfl (fun hl=>?_) (fun hl=>?_)
   ·have hB:=Ah hB hl
    refine bS hB fun s2 E2 hB=>rg<|Zv (BM l3)<|Zv (BM l3)<|Zv (Cv rfl)<|Zv (AV rfl F8)<|Zv (AQ rfl Km ((Bx.cs T9.bx).at 4 rfl))<|Zm<|Zv (JL (r:=[.int .i64 i,.bool true]) BK WN (pc rfl (pc rfl pn)) rfl)<|Gb (cs:=[.int .i64 i,.bool true]) Tryz.underlying51 BK rfl (pc rfl pn) rfl rfl rfl rfl rfl fun b8 w7 hx7 hg7 hb8=>?_;have o7:Row (α:=Aj) 56 w9.heap.size w7 (.slice (some ⟨b8,0,none⟩) 1 1) [(i,true)]:=Row.lit hg7 hb8 rfl (ble rfl);have T7:=T9.go hx7;refine MI (l:=s1) (k:=([(i,true)]:List Aj)) rfl rfl Tryz.underlying51 BK rfl rfl T7.row (RV.els o7.rv) E2 T7.size fun v8 w8 o8 hB8 hg8 hw8=>?_;have hz:=RV.sl o8.rv;obtain⟨a8,c8,rfl,-,-,-⟩:=hz;refine Zv (Cv rfl)<|Zv (AV rfl F8)<|DC rfl rfl rfl Km (T7.bx.below hB8 hlb) rfl rfl (by rw[Ng];exact ble rfl) fun w9 hch9 hb9=>?_;have T9:=T7.steps hw0 h0b hlb hab hub o8 hB8 hch9 hb9;refine nl<|rg<|Zv (Bg l21 rfl)<|Zm<|nl<|lq m (Nat.lt_succ_self _) ⟨_,_,_,hB,rfl,l20,l19,l3,T9⟩
   ·have hB:=Ai hB hl
    refine wp_skip<|rg<|Zv (Bg l21 rfl)<|Zm<|nl<|lq m (Nat.lt_succ_self _) ⟨_,_,_,hB,rfl,l20,l19,l3,T9⟩
  ·have hB:=Ai hB h6
   cases hB;exact wp_exit<|lf ⟨_,l3,T⟩
 rintro L w5⟨sv,l3,T5⟩;clear hS;have hz:=RV.sl T5.row.rv;obtain⟨a5,c5,rfl,-,-,-⟩:=hz;refine wp_seq<|Zr<|Zv (BM l3)<|Zv (Cv rfl)<|Zv (AV rfl F8)<|Zv (AQ rfl Km ((Bx.cs T5.bx).at 4 rfl))<|Zv (BV rfl Tryz.underlying51)<|Zm<|nl<|ct (fun L w=>L 3=.pointer (some ⟨b4,0,none⟩)/\NT w0 w base b4 a1 c1 x0 (.slice a5 st.length c5) st X ma mu) ?_ ?_
 ·refine wp_block<|lp (I:=fun m L w=>∃(i:Int)(Y:Dv),MC F x0 st m i Y=some X/\L 56=.int .i64 i/\L 55=.int .i64 (st.length:Int)/\L 54=.slice a5 st.length c5/\L 3=.pointer (some ⟨b4,0,none⟩)/\NT w0 w base b4 a1 c1 x0 (.slice a5 st.length c5) st Y ma mu) F
   ⟨_,_,hX,rfl,rfl,rfl,l3,T5⟩ ?_
  rintro m L w⟨i,Y,hB,l56,l55,l54,l3,T⟩;rcases m with _|m
  ·rw[MC]at hB;cases hB
  rw[MC]at hB;refine Zr<|Zv (BU l56 l55)<|nl<|wp_seq<|cnd rfl (fun h6=>?_) (fun h6=>?_)
  ·have hB:=Ah hB h6
   refine bS hB fun p Ep hB=>bS hB fun Y2 E3 hB=>?_;have hz:=(RV.els T.row.rv).ix Ep;obtain⟨b5,off5,cs5,e,i1,i2,q5,hc5⟩:=hz;cases e;obtain rfl:=Flat.iff.1 q5;refine wp_skip<|wp_seq<|wp_block<|Zr<|Zm<|Zv (BG l54 l56 Tryz.underlying51 BK i1 i2)<|Zv (Ab rfl BK rfl hc5)<|D9 BK fun b6 w6 hx6 hg6 hb6=>Zv (WM l56)<|DC rfl rfl rfl BK hb6 rfl rfl (ble rfl) fun w7 hch7 hb7=>?_;have kx7:Ext w w7:=hx6.chg hch7 hg6;have T7:=T.go kx7;have hb7x:Bx w7 b6 56 (Flat.enc p):=hb7;have hzs:=T.size;have h6b:base<=b6:=by omega
   refine nl<|Zr<|Zv (BM l3)<|Zv (Cv rfl)<|Zv (AV rfl F8)<|Zv (AQ rfl Km ((Bx.cs T7.bx).at 4 rfl))<|Zv (BV rfl Tryz.underlying51)<|Zm<|nl<|ct (fun L w=>L 56=.int .i64 i/\L 55=.int .i64 (st.length:Int)/\L 54=.slice (some ⟨b5,off5,none⟩) st.length c5/\L 3=.pointer (some ⟨b4,0,none⟩)/\NT w0 w base b4 a1 c1 x0 (.slice (some ⟨b5,off5,none⟩) st.length c5) st Y2 ma mu) ?_ ?_
   ·refine wp_block<|lp (I:=fun m L w=>∃(k:Int)(Y:Dv),K5 x0 st i p m k Y=some Y2/\L 66=.int .i64 k/\L 65=.int .i64 (st.length:Int)/\L 64=.slice (some ⟨b5,off5,none⟩) st.length c5/\L 7=.pointer (some ⟨b6,0,none⟩)/\L 6=.int .i64 i/\Bx w b6 56 (Flat.enc p)/\
      L 56=.int .i64 i/\L 55=.int .i64 (st.length:Int)/\L 54=.slice (some ⟨b5,off5,none⟩) st.length c5/\L 3=.pointer (some ⟨b4,0,none⟩)/\NT w0 w base b4 a1 c1 x0 (.slice (some ⟨b5,off5,none⟩) st.length c5) st Y ma mu) F
     ⟨_,_,E3,rfl,rfl,rfl,rfl,rfl,hb7x,l56,l55,l54,l3,T7⟩ ?_
    clear hB T T7 E3 hc5 hb7 hb7x;rintro m L w⟨k,Y,hB,l66,l65,l64,l7,l6,hbp,l56,l55,l54,l3,T⟩;rcases m with _|m
    ·rw[K5]at hB;cases hB
    rw[K5]at hB;refine Zr<|Zv (BU l66 l65)<|nl<|wp_seq<|cnd rfl (fun h6=>?_) (fun h6=>?_)
    ·have hB:=Ah hB h6
     refine bS hB fun q Eq hB=>bS hB fun f Ef hB=>?_;have hz:=JB T.row.rv Eq;obtain⟨cs8,i3,i4,q8,hc8⟩:=hz;obtain rfl:=Flat.iff.1 q8;refine wp_skip<|wp_seq<|wp_block<|Zr<|Zm<|Zv (BG l64 l66 Tryz.underlying51 BK i3 i4)<|Zv (Ab rfl BK rfl hc8)<|D9 BK fun b9 w8 hx8 hg8 hb8=>Zv (WM l66)<|DC rfl rfl rfl BK hb8 rfl rfl (ble rfl) fun w9 hch9 hb9=>?_;have kx9:Ext w w9:=hx8.chg hch9 hg8;have T9:=T.go kx9;have hbq:Bx w9 b9 56 (Flat.enc q):=hb9;have hbp9:=hbp.ext kx9;refine nl<|wp_seq<|Gq [] (.pure true 0 (.pure false 1 (.pure true 2 (.pure false 3 (.pure true 4 (.pure true 5 (.pure true 6 (.pure true 7 (.pure false 8 (.pure true 10 (.pure false 11 (.eff 9 (.eff 12 (.eff 13 (.pure true 14 .fin) .stop) .stop) .stop)))))))))))) mixed (by kernel_rfl) (fun wd hxd=>?_);have Td:=T9.go hxd;have dq:=hbq.ext hxd;have dp:=hbp9.ext hxd;refine Zp rfl (fun _=>AV l7 EX)<|Zq rfl (fun _ hS=>AQ rfl AY ((Bx.cs (dp.ext (hS.resolve_left nofun))).at 0 rfl)) (Ext.refl _)<|Zp rfl (fun _=>AV rfl EX)<|Zq rfl (fun _ hS=>AQ rfl AY ((Bx.cs (dq.ext (hS.resolve_left nofun))).at 0 rfl)) (Ext.refl _)<|Zp rfl (fun _=>FT rfl rfl)<|Zn rfl<|?_;have Ef':(if(!decide (p.1=q.1))=true then(DI (x0,st,Y,.mk,.mk) p 1)>>=fun e=>(DI (x0,st,Y,.mk,.mk) q 0)>>=fun d=>Fx (x0,st,Y,.mk,.mk) e d else some false)=some f:=Ef;refine Or.elim (Bool.eq_false_or_eq_true (!decide (p.1=q.1))) (fun hg=>?_) (fun hg=>?_)
     ·have Ef':=Ah Ef' hg
      have hz:=bs Ef';obtain⟨e,Ee,Ef'⟩:=hz;have hz:=bs Ef';obtain⟨d,Ed,Ef'⟩:=hz;refine Yt rfl (bt hg) (fun _=>BM l3)<|Yt rfl (bt hg) (fun _=>BM l3)<|Yi rfl (bt hg) (fun _ hS=>Ab l7 BK rfl (Bx.cs (dp.ext (hS.resolve_left nofun)))) (Ext.refl _)<|Yt rfl (bt hg) (fun _=>BM l3)<|Yi rfl (bt hg) (fun _ hS=>Ab rfl BK rfl (Bx.cs (dq.ext (hS.resolve_left nofun)))) (Ext.refl _)<|CR rfl<|Gt rfl (bt hg)<|Zc (xc dK (mc rfl<|mc rfl<|mc rfl mn)) (jH (x0:=(x0,st,Y,.mk,.mk)) (Bx.cs Td.bx) (K3 (r3.ext Td.ext) Td.row.rv) (x1:=p) ⟨_,rfl,Flat.iff.2 rfl⟩ Ee) ?_;rintro _ wE⟨uE,rfl,rE,hxE⟩;have TE:=Td.go hxE;refine nl ⟨fun _ h=>h.tr hxE,?_⟩;refine CR rfl<|Gt rfl (bt hg)<|Zc (xc dK (mc rfl<|mc rfl<|mc rfl mn)) (jH (x0:=(x0,st,Y,.mk,.mk)) (Bx.cs TE.bx) (K3 (r3.ext TE.ext) TE.row.rv) (x1:=q) ⟨_,rfl,Flat.iff.2 rfl⟩ Ed) ?_;rintro _ wG⟨uG,rfl,rG,hxG⟩;have TG:=TE.go hxG;refine nl ⟨fun _ h=>h.tr hxG,?_⟩;refine CR rfl<|Gt rfl (bt hg)<|Zc (xc mE (mc rfl<|mc rfl<|mc rfl mn)) (qx (x0:=(x0,st,Y,.mk,.mk)) (Bx.cs TG.bx) (K3 (r3.ext TG.ext) TG.row.rv) (rE.ext hxG) rG Ef') ?_;rintro _ wH⟨rfl,hxH⟩;have TH:=TG.go hxH;have hbp':=((dp.ext hxE).ext hxG).ext hxH;refine nl ⟨fun _ h=>h.tr hxH,?_⟩;refine Zp rfl (fun _=>DU rfl hg rfl)<|cnd rfl (fun hf=>?_) (fun hf=>?_)
      ·have hB:=Ah hB hf
       refine bS hB fun r Er hB=>bS hB fun y0 Ey hB=>?_;have hz:=Hw (Cs.mid (l1:=[.slice a1 x0.1.length c1,.int .i64 x0.2.1,.int .i64 x0.2.2.1,.int .i64 x0.2.2.2,.slice (some ⟨b5,off5,none⟩) st.length c5]) (X:=Y) (l2:=[.map (some ma),.map (some mu)]) (Bx.cs TH.bx)) Er;obtain⟨j1,j2,hc1⟩:=hz;have hz:=Hw (X:=r) hc1 Ey;obtain⟨j3,j4,hc2⟩:=hz;refine rg<|Zv (BM l3)<|Zv (BM l6)<|Zm<|Zv (Cv rfl)<|Zv (AV rfl Ot)<|Zv (FV rfl rfl Tryz.underlying196 Oq j1 j2)<|Zv (FV rfl rfl Tryz.underlying195 AY j3 j4)<|DC (vs:=[.int .i64 1]) rfl rfl rfl AY TH.bx rfl rfl (by rw[Ng,List.length_singleton];omega) fun wK hchK hbK=>?_;rw[show 0+5+i.toNat*16+k.toNat*1=5+(i.toNat*16+k.toNat) by omega,Xv Er j3 j4]at hbK;have T':=TH.fit h0b hlb hchK hbK;have hbp':=hbp'.chg hchK (by omega);refine nl<|rg<|Zv (Bg l66 rfl)<|Zm<|nl<|lq m (Nat.lt_succ_self _) ⟨_,_,hB,rfl,l65,l64,l7,l6,hbp',l56,l55,l54,l3,T'⟩
      ·have hB:=Ai hB hf
       have T':=TH;refine wp_skip<|rg<|Zv (Bg l66 rfl)<|Zm<|nl<|lq m (Nat.lt_succ_self _) ⟨_,_,hB,rfl,l65,l64,l7,l6,hbp',l56,l55,l54,l3,T'⟩
     ·have Ef':=Ai Ef' hg
      cases Ef';refine Yf rfl (AZ hg)<|Yf rfl (AZ hg)<|Yh rfl (AZ hg) (Ext.refl _)<|Yf rfl (AZ hg)<|Yh rfl (AZ hg) (Ext.refl _)<|CR rfl<|Gk rfl (AZ hg)<|nl ⟨fun _ h=>h,?_⟩;refine CR rfl<|Gk rfl (AZ hg)<|nl ⟨fun _ h=>h,?_⟩;refine CR rfl<|Gk rfl (AZ hg)<|nl ⟨fun _ h=>h,?_⟩;refine Zp rfl (fun _=>EW rfl hg rfl)<|cnd rfl (fun hf=>by cases hf) (fun hf=>?_);have hB:=Ai hB rfl;have hbp':=dp;have T':=Td;refine wp_skip<|rg<|Zv (Bg l66 rfl)<|Zm<|nl<|lq m (Nat.lt_succ_self _) ⟨_,_,hB,rfl,l65,l64,l7,l6,hbp',l56,l55,l54,l3,T'⟩
    ·have hB:=Ai hB h6
     cases hB;exact wp_exit<|lf ⟨l56,l55,l54,l3,T⟩
   ·rintro L w8⟨l56,l55,l54,l3,T8⟩
    refine rg<|Zv (Bg l56 rfl)<|Zm<|nl<|lq m (Nat.lt_succ_self _) ⟨_,_,hB,rfl,l55,l54,l3,T8⟩
  ·have hB:=Ai hB h6
   cases hB;exact wp_exit<|lf ⟨l3,T⟩
 rintro L w6⟨l3,T6⟩;refine Zr<|Zv (BM l3)<|Za<|nl<|wp_ret<|Zw rfl rfl rfl ?_;exact⟨b4,a1,c1,_,st,X,ma,mu,base,rfl,rfl,T6,r3.old,h0b,hlb,h0a,hab,h0u,hub,hne⟩
theorem Qj{w:World}{b:Nat}{a1:Option Addr}{c1:Nat}{c:Aw}{sv:Value}{X:Dv}{ma mu:Nat}(h:Bx w b 199 (Gw a1 c1 c sv X ma mu)):w.cell? ⟨b,261,none⟩=some (.map (some ma))/\w.cell? ⟨b,262,none⟩=some (.map (some mu)):=by
 have h3:=Cs.end3 (l1:=[.slice a1 c.1.length c1,.int .i64 c.2.1,.int .i64 c.2.2.1,.int .i64 c.2.2.2,sv]) (X:=X) (l2:=[.map (some ma),.map (some mu)]) (Bx.cs h);exact⟨h3.at 0 rfl,h3.at 1 rfl⟩
theorem dm{w0:World}{v0:Value}{x0:Aw}(r0:RV w0 v0 x0){F:Nat}{r:Ob Bl}(hF:FX F x0=some r):
  Calls Tryz.prog 215 [v0].toArray w0 (A8 fun v w'=>∃u0:Value,v=u0/\RV w' u0 r/\TbN w0.heap.size w' u0 r/\Ext w0 w'):=by
 refine Calls.mono (nQ r0 hF) fun e w' he=>?_;obtain⟨v,rfl,b,a1,c1,sv,st,X,ma,mu,base,rfl,rfl,T,r3,h0b,hb,h0a,ha,h0u,hu,hne⟩:=he;have hpos:0<263:=by decide
 have hb1:=Ne.symm (T.ma.not_cells T.bx);have hb2:=Ne.symm (T.mu.not_cells T.bx);have hrep:Enc.rep (fun q=>q≠ma/\q≠mu) w' (Gw a1 c1 x0 sv X ma mu) ((x0,st,X,.mk,.mk):Bl):=
  K3 ((r3.ext T.ext).mono fun q _ hq=>⟨by omega,by omega⟩) (T.row.rvo.mono fun q _ hq=>⟨by omega,by omega⟩)
 have hT:TbN w0.heap.size w' (.pointer (some ⟨b,0,none⟩)) (⟨some (x0,st,X,.mk,.mk)⟩:Ob Bl):=
  ⟨_,b,ma,mu,rfl,rfl,⟨_,rfl,_,rfl,b,_,rfl,⟨hb1,hb2⟩,T.bx.lt,hrep,Bx.cs T.bx⟩,(Qj T.bx).1,(Qj T.bx).2,T.ma,T.mu,hne,h0a,h0u⟩
 exact⟨_,rfl,_,rfl,hT.rv,hT,T.ext⟩
theorem rC{w0:World}{v0:Value}{x0:Aw}(r0:RV w0 v0 x0){F:Nat}{r:Ob Bl}(hF:FX F x0=some r):
  Calls Tryz.prog 215 [v0].toArray w0 (A8 fun v w'=>∃u0:Value,v=u0/\RV w' u0 r/\Ext w0 w'):=by
 refine Calls.mono (dm r0 hF) fun e w' he=>?_;obtain⟨v,rfl,u,rfl,h1,_,h2⟩:=he;exact⟨_,rfl,_,rfl,h1,h2⟩
end
end Go.Proofs.YtfmelbioccbdoaaGreat
end
section
namespace Go.Proofs.YtfmelbioccbdoaaGreat
open Go Go.Md Go.RowKit
def BO(F:Nat)(x0:(List (Int×Bool)))(x1:((Int×Bool)->Option Bool)):Nat->Int->Option (Sum Int (Unit))
 |0,_=>none
 |m+1,y1=>
  if(decide (y1<(x0.length:Int)))=true then
   (ix x0 y1)>>=fun x3=>
   (x1 (x3.1,x3.2))>>=fun x4=>
   if x4=true then
    some (.inl y1)
   else
    BO F x0 x1 m (Aa (y1+1))
  else
   some (.inr ())
def Db(F:Nat)(x0:(List (Int×Bool)))(x1:((Int×Bool)->Option Bool)):Option Int:=
 ((BO F x0 x1 F 0)>>=fun o=>match o with
  |.inl r=>some r
  |.inr ()=>
   some (-1))
def CQ(F:Nat)(x0:(List (Int×Bool)))(x1:((Int×Bool)->Option Bool)):Option Bool:=
 (Db F x0 x1)>>=fun x3=>
 some (decide (0<=x3))
def Ev(F:Nat)(x0:(List Int))(x1:Int):Nat->Int->Option (Sum Int (Unit))
 |0,_=>none
 |m+1,y1=>
  if(decide (y1<(x0.length:Int)))=true then
   (ix x0 y1)>>=fun x3=>
   if(decide (x1=x3))=true then
    some (.inl y1)
   else
    Ev F x0 x1 m (Aa (y1+1))
  else
   some (.inr ())
def slices_Index_int(F:Nat)(x0:(List Int))(x1:Int):Option Int:=
 ((Ev F x0 x1 F 0)>>=fun o=>match o with
  |.inl r=>some r
  |.inr ()=>
   some (-1))
def slices_Contains_int(F:Nat)(x0:(List Int))(x1:Int):Option Bool:=
 (slices_Index_int F x0 x1)>>=fun x3=>
 some (decide (0<=x3))
def KU(F:Nat)(x0:(Int×Bool))(x1:(Ob (Bq×(List (Int×Bool))×(Ar 16 (Ar 16 Int))×Opq×Opq))):Option Bool:=
 (x1.v)>>=fun x3=>
 (Ch F ((x3.1.1,x3.1.2.1,(x3.1.2.2.1,x3.1.2.2.2)),x3.2.1,x3.2.2.1,Opq.mk,Opq.mk) (x0.1,x0.2))>>=fun x4=>
 some (decide (x4<0))
def Fq(F:Nat)(x0:Bq)(x1:(List (Int×Bool))):Option ((Ob (Bq×(List (Int×Bool))×(Ar 16 (Ar 16 Int))×Opq×Opq))×Int):=
 (FJ F (x0.1,x0.2.1,(x0.2.2.1,x0.2.2.2)))>>=fun x3=>
 if(!decide (x3=0))=true then
  some ((⟨none⟩:(Ob (Bq×(List (Int×Bool))×(Ar 16 (Ar 16 Int))×Opq×Opq))),x3)
 else
  (FX F (x0.1,x0.2.1,(x0.2.2.1,x0.2.2.2)))>>=fun x4=>
  (CQ F x1 (fun y=>KU F y x4))>>=fun x5=>
  if x5=true then
   some ((⟨none⟩:(Ob (Bq×(List (Int×Bool))×(Ar 16 (Ar 16 Int))×Opq×Opq))),2)
  else
   some (x4,0)
def JH(F:Nat)(x0:Bq)(x1:(Int×Bool))(x2:(Int×Bool)):Option (Bool×Int):=
 (Fq F (x0.1,x0.2.1,(x0.2.2.1,x0.2.2.2)) ([(x1.1,x1.2),(x2.1,x2.2)]:List (Int×Bool)))>>=fun x4=>
 if(!decide (x4.2=0))=true then
  some (false,x4.2)
 else
  (x4.1.v)>>=fun x5=>
  (Ch F ((x5.1.1,x5.1.2.1,(x5.1.2.2.1,x5.1.2.2.2)),x5.2.1,x5.2.2.1,Opq.mk,Opq.mk) (x1.1,x1.2))>>=fun x6=>
  (ix x5.2.2.1.l x6)>>=fun x7=>
  (Ch F ((x5.1.1,x5.1.2.1,(x5.1.2.2.1,x5.1.2.2.2)),x5.2.1,x5.2.2.1,Opq.mk,Opq.mk) (x2.1,x2.2))>>=fun x8=>
  (ix x7.l x8)>>=fun x9=>
  some (decide (x9=1),0)
end Go.Proofs.YtfmelbioccbdoaaGreat
end
section
namespace Go.Proofs.YtfmelbioccbdoaaGreat
open Go Go.Md Go.RowKit
attribute [local irreducible] Go.wpList Go.Code.wp Go.Calls Go.Md.C9 Go.Md.Mt Go.Md.Dz Go.Md.CW Go.Code.wpIn
theorem rD{w0:World}{v0:Value}{x0:(List (Int×Bool))}(r0:RV w0 v0 x0){v1:Value}{x1:(Int×Bool)->Option Bool}(h1:FnB Tryz.prog (Int×Bool) w0 v1 x1){F:Nat}{r:Int}(hF:Db F x0 x1=some r):
  Calls Tryz.prog 299 [v0,v1].toArray w0 (A8 fun v w'=>v=.int .i64 r/\Ext w0 w'):=by
 unfold Db at hF;have hz:=r0.sl;obtain⟨a1,cq1,rfl,-,-,-⟩:=hz;refine A9 (n:=19) Tryz.func299 rfl rfl rfl<|Zr<|Za<|nl<|wp_seq<|Zr<|Zm<|Zv (BV rfl Tryz.underlying51)<|Zm<|nl<|bS hF fun o1 hB1 hF=>ct (fun L w=>o1=.inr ()/\Ext w0 w) ?_ ?_
 ·refine wp_block<|lp (I:=fun m L w=>∃y1:Int,BO F x0 x1 m y1=some o1/\L 8=.int .i64 y1/\L 0=.slice a1 x0.length cq1/\L 1=v1/\L 7=.int .i64 (x0.length:Int)/\Ext w0 w) F ⟨_,hB1,rfl,rfl,rfl,rfl,(Ext.refl _)⟩ ?_;rintro m L w1⟨y1,hB1,l8_i1,l0_i1,l1_i1,l7_i1,K0_i1⟩;rcases m with _|m
  ·rw[BO]at hB1;cases hB1
  rw[BO]at hB1;have h3:=h1.ext K0_i1;refine Zr<|Zv (BU l8_i1 l7_i1)<|nl<|wp_seq<|cnd rfl (fun h4=>?_) (fun h4=>?_)
  ·have hB1:=Ah hB1 h4;refine wp_skip<|wp_seq<|wp_block<|Zr<|Zm<|Za<|nl<|Zr<|Zm<|Zm<|Zm<|bS hB1 fun x3 Ex3 hB1=>?_;have hz:=(RV.els r0).ix Ex3;obtain⟨b3,f1,cs3,e1,i2,i3,q3,hc1⟩:=hz;cases e1;obtain⟨_,_,rfl,rfl,rfl⟩:=q3;have hc2:=hc1.ext K0_i1;refine Zv (BG l0_i1 l8_i1 Tryz.underlying51 BK i2 i3)<|Zv (Ab rfl BK rfl hc2)<|bS hB1 fun x4 Ex4 hB1=>?_;have hz:=id h3;obtain⟨g1,fs1,cs4,e2,hg1,hu1⟩:=hz;refine Zc (Nn (l1_i1.trans e2) hg1 (mc rfl mn) rfl) (hu1 _ _ _ _ (Ext.refl _) (show RV (α:=(Int×Bool)) _ (.agg [.int .i64 x3.1,.bool x3.2].toArray) (x3.1,x3.2)from⟨_,rfl,[.int .i64 x3.1],[.bool x3.2],rfl,rfl,rfl⟩) Ex4) ?_;rintro _ w2⟨rfl,hx1⟩;have k1:=K0_i1.tr hx1;refine nl<|cnd rfl (fun h6=>?_) (fun h6=>?_)
   ·have hB1:=Ah hB1 h6;refine Zr<|Zm<|Za<|nl<|?_;cases hB1;have hF:=(show some _=some _ from hF);cases hF;exact wp_ret<|rt rfl (.tmp l8_i1 rfl .nil) ⟨rfl,k1⟩
   ·have hB1:=Ai hB1 h6;refine wp_skip<|rg<|Zv (Bg l8_i1 rfl)<|Zm<|nl<|lq m (Nat.lt_succ_self _)<|?_;exact⟨_,hB1,rfl,l0_i1,l1_i1,l7_i1,k1⟩
  ·have hB1:=Ai hB1 h4;refine wp_exit<|?_;cases hB1;refine lf<|?_;exact⟨rfl,K0_i1⟩
 rintro L w3⟨rfl,K0_j1⟩;refine Zr<|Za<|nl<|?_;cases hF;exact wp_ret<|Zw rfl rfl rfl ⟨rfl,K0_j1⟩
theorem jJ{w0:World}{v0:Value}{x0:(List (Int×Bool))}(r0:RV w0 v0 x0){v1:Value}{x1:(Int×Bool)->Option Bool}(h1:FnB Tryz.prog (Int×Bool) w0 v1 x1){F:Nat}{r:Bool}(hF:CQ F x0 x1=some r):
  Calls Tryz.prog 216 [v0,v1].toArray w0 (A8 fun v w'=>v=.bool r/\Ext w0 w'):=by
 unfold CQ at hF;have hz:=r0.sl;obtain⟨a1,cq1,rfl,-,-,-⟩:=hz;refine A9 (n:=9) Tryz.func216 rfl rfl rfl<|Zr<|Za<|nl<|Zr<|Zm<|Zm<|bS hF fun x3 Ex3 hF=>Zc (xc mF (mc rfl (mc rfl mn))) (rD r0 h1 Ex3) ?_;rintro _ w1⟨rfl,hx1⟩;refine Zv (Jz rfl rfl)<|Za<|nl<|?_;cases hF;exact wp_ret<|Zw rfl rfl rfl ⟨rfl,hx1⟩
theorem rF{w0:World}{v0:Value}{x0:(List Int)}(r0:RV w0 v0 x0){x1:Int}{F:Nat}{r:Int}(hF:slices_Index_int F x0 x1=some r):
  Calls Tryz.prog 250 [v0,.int .i64 x1].toArray w0 (A8 fun v w'=>v=.int .i64 r/\Ext w0 w'):=by
 unfold slices_Index_int at hF;have hz:=r0.sl;obtain⟨a1,cq1,rfl,-,-,-⟩:=hz;refine A9 (n:=19) Tryz.func250 rfl rfl rfl<|Zr<|Za<|nl<|wp_seq<|Zr<|Zm<|Zv (BV rfl Tryz.underlying41)<|Zm<|nl<|bS hF fun o1 hB1 hF=>ct (fun L w=>o1=.inr ()/\Ext w0 w) ?_ ?_
 ·refine wp_block<|lp (I:=fun m L w=>∃y1:Int,Ev F x0 x1 m y1=some o1/\L 8=.int .i64 y1/\L 0=.slice a1 x0.length cq1/\L 1=.int .i64 x1/\L 7=.int .i64 (x0.length:Int)/\Ext w0 w) F ⟨_,hB1,rfl,rfl,rfl,rfl,(Ext.refl _)⟩ ?_;rintro m L w1⟨y1,hB1,l8_i1,l0_i1,l1_i1,l7_i1,K0_i1⟩;rcases m with _|m
  ·rw[Ev]at hB1;cases hB1
  rw[Ev]at hB1;refine Zr<|Zv (BU l8_i1 l7_i1)<|nl<|wp_seq<|cnd rfl (fun h3=>?_) (fun h3=>?_)
  ·have hB1:=Ah hB1 h3;refine wp_skip<|wp_seq<|wp_block<|Zr<|Zm<|Za<|nl<|Zr<|Zm<|Zm<|Zm<|bS hB1 fun x3 Ex3 hB1=>?_;have hz:=(RV.els r0).ix Ex3;obtain⟨b3,f1,cs3,e1,i2,i3,q3,hc1⟩:=hz;cases e1;obtain rfl:=q3;have hc2:=hc1.ext K0_i1;refine Zv (BG l0_i1 l8_i1 Tryz.underlying41 AY i2 i3)<|Zv (AQ rfl AY (hc2.at 0 rfl))<|Zv (EU l1_i1 rfl)<|nl<|cnd rfl (fun h4=>?_) (fun h4=>?_)
   ·have hB1:=Ah hB1 h4;refine Zr<|Zm<|Za<|nl<|?_;cases hB1;have hF:=(show some _=some _ from hF);cases hF;exact wp_ret<|rt rfl (.tmp l8_i1 rfl .nil) ⟨rfl,K0_i1⟩
   ·have hB1:=Ai hB1 h4;refine wp_skip<|rg<|Zv (Bg l8_i1 rfl)<|Zm<|nl<|lq m (Nat.lt_succ_self _)<|?_;exact⟨_,hB1,rfl,l0_i1,l1_i1,l7_i1,K0_i1⟩
  ·have hB1:=Ai hB1 h3;refine wp_exit<|?_;cases hB1;refine lf<|?_;exact⟨rfl,K0_i1⟩
 rintro L w2⟨rfl,K0_j1⟩;refine Zr<|Za<|nl<|?_;cases hF;exact wp_ret<|Zw rfl rfl rfl ⟨rfl,K0_j1⟩
theorem jK{w0:World}{v0:Value}{x0:(List Int)}(r0:RV w0 v0 x0){x1:Int}{F:Nat}{r:Bool}(hF:slices_Contains_int F x0 x1=some r):
  Calls Tryz.prog 144 [v0,.int .i64 x1].toArray w0 (A8 fun v w'=>v=.bool r/\Ext w0 w'):=by
 unfold slices_Contains_int at hF;have hz:=r0.sl;obtain⟨a1,cq1,rfl,-,-,-⟩:=hz;refine A9 (n:=9) Tryz.func144 rfl rfl rfl<|Zr<|Za<|nl<|Zr<|Zm<|Zm<|bS hF fun x3 Ex3 hF=>Zc (xc lY (mc rfl (mc rfl mn))) (rF r0 Ex3) ?_;rintro _ w1⟨rfl,hx1⟩;refine Zv (Jz rfl rfl)<|Za<|nl<|?_;cases hF;exact wp_ret<|Zw rfl rfl rfl ⟨rfl,hx1⟩
theorem jL{w0:World}{v0:Value}{x0:(Int×Bool)}(r0:RV w0 v0 x0){b1:Nat}{cs1:List Value}{x1:(Ob (Bq×(List (Int×Bool))×(Ar 16 (Ar 16 Int))×Opq×Opq))}(h1:Cs w0 b1 0 cs1)(q1:Enc.rep (fun _=>True) w0 cs1 x1){F:Nat}{r:Bool}(hF:KU F x0 x1=some r):
  Calls Tryz.prog 217 [v0,.pointer (some ⟨b1,0,none⟩)].toArray w0 (A8 fun v w'=>v=.bool r/\Ext w0 w'):=by
 unfold KU at hF;have hz:=id r0;obtain⟨_,rfl,_,_,rfl,rfl,rfl⟩:=hz;have q3:=q1;have hz:=dL q3;obtain⟨a1,rfl,r3⟩:=hz;refine A9 (n:=8) Tryz.func217 rfl rfl rfl<|Zr<|CO rfl rfl fun b3 w1 hx1 hg1 hb1=>?_;have h3:=h1.ext hx1;refine Za<|nl<|Zr<|Zv (AQ rfl EI (h3.at 0 rfl))<|Zv (Ab rfl BK rfl (Bx.cs hb1))<|bS hF fun x3 Ex3 hF=>?_;have hz:=WZ r3 Ex3;obtain⟨b4,cs3,e1,q4,hc1⟩:=hz;cases e1;obtain⟨_,_,rfl,⟨_,_,rfl,⟨a2,cq1,rfl,p1,q5,e2⟩,_,_,rfl,rfl,_,_,rfl,rfl,rfl⟩,_,_,rfl,⟨a3,cq2,rfl,p2,q6,e3⟩,_,_,rfl,rfl,_,_,rfl,⟨a4,rfl,q7⟩,a5,rfl,q8⟩:=q4;have r6:=RV.of1 p1 q5 e2;have r7:=RV.of1 p2 q6 e3;have hc2:=hc1.ext hx1;have r8:=r6.ext hx1;have r9:=r7.ext hx1;refine bS hF fun x4 Ex4 hF=>Zc (xc WV (mc rfl (mc rfl mn))) (bB (x0:=((x3.1.1,x3.1.2.1,(x3.1.2.2.1,x3.1.2.2.2)),x3.2.1,x3.2.2.1,Opq.mk,Opq.mk)) hc2 ⟨[.slice a2 x3.1.1.length cq1]++([.int .i64 x3.1.2.1]++([.int .i64 x3.1.2.2.1]++[.int .i64 x3.1.2.2.2])),[.slice a3 x3.2.1.length cq2]++(((List.flatMap Flat.enc x3.2.2.1.l))++([a4]++[a5])),rfl,⟨[.slice a2 x3.1.1.length cq1],[.int .i64 x3.1.2.1]++([.int .i64 x3.1.2.2.1]++[.int .i64 x3.1.2.2.2]),rfl,r8.rep1,[.int .i64 x3.1.2.1],[.int .i64 x3.1.2.2.1]++[.int .i64 x3.1.2.2.2],rfl,rfl,[.int .i64 x3.1.2.2.1],[.int .i64 x3.1.2.2.2],rfl,rfl,rfl⟩,[.slice a3 x3.2.1.length cq2],((List.flatMap Flat.enc x3.2.2.1.l))++([a4]++[a5]),rfl,r9.rep1,(List.flatMap Flat.enc x3.2.2.1.l),[a4]++[a5],rfl,rfl,[a4],[a5],rfl,⟨_,rfl,q7⟩,_,rfl,q8⟩ (show RV (α:=(Int×Bool)) _ (.agg [.int .i64 x0.1,.bool x0.2].toArray) (x0.1,x0.2)from⟨_,rfl,[.int .i64 x0.1],[.bool x0.2],rfl,rfl,rfl⟩) Ex4) ?_;rintro _ w2⟨rfl,hx2⟩;have k1:=hx1.tr hx2;refine Zv (BU rfl rfl)<|Za<|nl<|?_;cases hF;exact wp_ret<|Zw rfl rfl rfl ⟨rfl,k1⟩
theorem rH{w0:World}{v0:Value}{x0:Bq}(r0:RV w0 v0 x0){v1:Value}{x1:(List (Int×Bool))}(r1:RV w0 v1 x1){F:Nat}{r:((Ob (Bq×(List (Int×Bool))×(Ar 16 (Ar 16 Int))×Opq×Opq))×Int)}(hF:Fq F x0 x1=some r):
  Calls Tryz.prog 113 [v0,v1].toArray w0 (A8 fun v w'=>∃u0:Value,v=.tuple #[u0,.int .i64 r.2]/\RV w' u0 r.1/\Ext w0 w'):=by
 unfold Fq at hF;have hz:=id r0;obtain⟨_,rfl,_,_,rfl,⟨a1,cq1,rfl,p1,q3,e1⟩,_,_,rfl,rfl,_,_,rfl,rfl,rfl⟩:=hz;have r3:=RV.of1 p1 q3 e1;have hz:=r1.sl;obtain⟨a2,cq2,rfl,-,-,-⟩:=hz;refine A9 (n:=19) Tryz.func113 rfl rfl rfl<|Zr<|CO rfl rfl fun b3 w1 hx1 hg1 hb1=>?_;have r4:=r1.ext hx1;have r5:=r3.ext hx1;refine Za<|Za<|nl<|wp_seq<|Zr<|Zv (Ab rfl Gc rfl (Bx.cs hb1))<|bS hF fun x3 Ex3 hF=>Zc (xc dA (mc rfl mn)) (jG (show RV (α:=Bq) _ (.agg [.slice a1 x0.1.length cq1,.int .i64 x0.2.1,.int .i64 x0.2.2.1,.int .i64 x0.2.2.2].toArray) (x0.1,x0.2.1,(x0.2.2.1,x0.2.2.2))from⟨_,rfl,[.slice a1 x0.1.length cq1],[.int .i64 x0.2.1]++([.int .i64 x0.2.2.1]++[.int .i64 x0.2.2.2]),rfl,r5.rep1,[.int .i64 x0.2.1],[.int .i64 x0.2.2.1]++[.int .i64 x0.2.2.2],rfl,rfl,[.int .i64 x0.2.2.1],[.int .i64 x0.2.2.2],rfl,rfl,rfl⟩) Ex3) ?_;rintro _ w2⟨rfl,hx2⟩;have k1:=hx1.tr hx2;have hb2:=hb1.ext hx2;have r7:=r5.ext hx2;have r8:=r4.ext hx2;refine Za<|nl<|Zr<|Zm<|Zv (FT rfl rfl)<|nl<|cnd rfl (fun h3=>?_) (fun h3=>?_)
 ·have hF:=Ah hF h3;refine Zr<|Zm<|Za<|Za<|nl<|?_;cases hF;exact wp_ret<|rt rfl (.tmp rfl rfl (.tmp rfl rfl .nil)) ⟨_,rfl,Sc,k1⟩
 ·have hF:=Ai hF h3;refine wp_skip<|Zr<|Zv (Ab rfl Gc rfl (Bx.cs hb2))<|bS hF fun x4 Ex4 hF=>Zc (xc dB (mc rfl mn)) (rC (show RV (α:=Bq) _ (.agg [.slice a1 x0.1.length cq1,.int .i64 x0.2.1,.int .i64 x0.2.2.1,.int .i64 x0.2.2.2].toArray) (x0.1,x0.2.1,(x0.2.2.1,x0.2.2.2))from⟨_,rfl,[.slice a1 x0.1.length cq1],[.int .i64 x0.2.1]++([.int .i64 x0.2.2.1]++[.int .i64 x0.2.2.2]),rfl,r7.rep1,[.int .i64 x0.2.1],[.int .i64 x0.2.2.1]++[.int .i64 x0.2.2.2],rfl,rfl,[.int .i64 x0.2.2.1],[.int .i64 x0.2.2.2],rfl,rfl,rfl⟩) Ex4) ?_;rintro _ w3⟨u1,rfl,r9,hx3⟩;have k2:=k1.tr hx3;have r10:=r8.ext hx3;have hz:=WY r9;obtain⟨a3,rfl⟩:=hz;refine D9 EI fun b4 w4 hx4 hg2 hb3=>?_;have k3:=k2.tr hx4;refine DC rfl rfl rfl EI hb3 rfl rfl (ble rfl) fun w5 hch1 hb4=>?_;have k4:=Ext.chg k3 hch1 (Nat.le_trans k2.size hg2);have k5:=Ext.chg hx4 hch1 (Nat.le_trans (Nat.le_refl _) hg2);have r13:=r10.ext k5;have r14:=r9.ext k5;have hb5:Bx w5 b4 177 [.pointer a3]:=hb4;refine nl<|wp_seq<|Zr<|Zm<|Zv (Lj mn (mc rfl mn))<|bS hF fun x5 Ex5 hF=>Zc (xc dD (mc rfl (mc rfl mn))) (jJ r13 ⟨217,[],[.pointer (some ⟨b4,0,none⟩)],rfl,dF,fun w' u x b hk hu hp=>jL hu (Bx.cs (hb5.ext hk)) (P9 (r14.ext hk)) hp⟩ Ex5) ?_;rintro _ w6⟨rfl,hx5⟩;have k6:=k4.tr hx5;have hb6:=hb5.ext hx5;have r15:=r14.ext hx5;refine nl<|cnd rfl (fun h4=>?_) (fun h4=>?_)
  ·have hF:=Ah hF h4;refine Zr<|Za<|Za<|nl<|?_;cases hF;exact wp_ret<|rt rfl (.tmp rfl rfl (.tmp rfl rfl .nil)) ⟨_,rfl,Sc,k6⟩
  ·have hF:=Ai hF h4;refine wp_skip<|Zr<|Zv (AQ rfl EI ((Bx.cs hb6).at 0 rfl))<|Za<|Za<|nl<|?_;cases hF;exact wp_ret<|rt rfl (.tmp rfl rfl (.tmp rfl rfl .nil)) ⟨_,rfl,r15,k6⟩
theorem uO{w0:World}{v0:Value}{x0:Bq}(r0:RV w0 v0 x0){v1:Value}{x1:(Int×Bool)}(r1:RV w0 v1 x1){v2:Value}{x2:(Int×Bool)}(r2:RV w0 v2 x2){F:Nat}{r:(Bool×Int)}(hF:JH F x0 x1 x2=some r):
  Calls Tryz.prog 33 [v0,v1,v2].toArray w0 (A8 fun v w'=>v=.tuple #[.bool r.1,.int .i64 r.2]/\Ext w0 w'):=by
 unfold JH at hF;have hz:=id r0;obtain⟨_,rfl,_,_,rfl,⟨a1,cq1,rfl,p1,q4,e1⟩,_,_,rfl,rfl,_,_,rfl,rfl,rfl⟩:=hz;have r4:=RV.of1 p1 q4 e1;have hz:=id r1;obtain⟨_,rfl,_,_,rfl,rfl,rfl⟩:=hz;have hz:=id r2;obtain⟨_,rfl,_,_,rfl,rfl,rfl⟩:=hz;refine A9 (n:=34) Tryz.func33 rfl rfl rfl<|Zr<|CO rfl rfl fun b4 w1 hx1 hg1 hb1=>?_;have r7:=r4.ext hx1;refine CO rfl rfl fun b5 w2 hx2 hg2 hb2=>?_;have k1:=hx1.tr hx2;have hb3:=hb1.ext hx2;have r9:=r7.ext hx2;refine CO rfl rfl fun b6 w3 hx3 hg3 hb4=>?_;have k2:=k1.tr hx3;have hb5:=hb3.ext hx3;have r12:=r9.ext hx3;have hb6:=hb2.ext hx3;refine Za<|Za<|nl<|Zr<|Zv (Ab rfl Gc rfl (Bx.cs hb5))<|Zv (Ab rfl BK rfl (Bx.cs hb6))<|Zv (Ab rfl BK rfl (Bx.cs hb4))<|Gb (cs:=[.int .i64 x1.1,.bool x1.2,.int .i64 x2.1,.bool x2.2]) Tryz.underlying51 BK rfl (pc rfl (pc rfl pn)) rfl rfl rfl rfl rfl fun b7 w4 hx4 hg4 hb7=>?_;have k4:=k2.tr hx4;have hb8:=hb6.ext hx4;have hb9:=hb4.ext hx4;have r14:=r12.ext hx4;have o1:Row (α:=(Int×Bool)) 56 w3.heap.size w4 (.slice (some ⟨b7,0,none⟩) 2 2) [(x1.1,x1.2),(x2.1,x2.2)]:=Row.lit hg4 hb7 rfl (ble rfl);refine bS hF fun x4 Ex4 hF=>Zc (xc WU (mc rfl (mc rfl mn))) (rH (show RV (α:=Bq) _ (.agg [.slice a1 x0.1.length cq1,.int .i64 x0.2.1,.int .i64 x0.2.2.1,.int .i64 x0.2.2.2].toArray) (x0.1,x0.2.1,(x0.2.2.1,x0.2.2.2))from⟨_,rfl,[.slice a1 x0.1.length cq1],[.int .i64 x0.2.1]++([.int .i64 x0.2.2.1]++[.int .i64 x0.2.2.2]),rfl,r14.rep1,[.int .i64 x0.2.1],[.int .i64 x0.2.2.1]++[.int .i64 x0.2.2.2],rfl,rfl,[.int .i64 x0.2.2.1],[.int .i64 x0.2.2.2],rfl,rfl,rfl⟩) o1.rv Ex4) ?_;rintro _ w5⟨u1,rfl,r16,hx5⟩;have k7:=k4.tr hx5;have hb10:=hb8.ext hx5;have hb11:=hb9.ext hx5;have hz:=WY r16;obtain⟨a2,rfl⟩:=hz;refine Zm<|Zv (FU rfl rfl)<|Zv (FU rfl rfl)<|Za<|Za<|nl<|wp_seq<|Zr<|Zm<|Zv (FT rfl rfl)<|nl<|cnd rfl (fun h4=>?_) (fun h4=>?_)
 ·have hF:=Ah hF h4;refine Zr<|Zm<|Za<|Za<|nl<|?_;cases hF;exact wp_ret<|rt rfl (.tmp rfl rfl (.tmp rfl rfl .nil)) ⟨rfl,k7⟩
 ·have hF:=Ai hF h4;refine wp_skip<|wp_seq<|Gq [] (.pure true 0 (.pure true 1 (.pure false 2 (.pure true 4 (.pure false 5 (.pure true 7 (.pure true 8 (.eff 3 (.pure true 9 (.eff 6 (.pure true 10 (.eff 11 (.pure true 12 (.pure true 13 (.pure true 14 .fin))) .stop)) .stop)) .stop)))))))) mixed (by kernel_rfl) (fun w6 hx6=>?_);have k11:=k7.tr hx6;have hb12:=hb10.ext hx6;have hb13:=hb11.ext hx6;have r17:=r16.ext hx6;refine Zn rfl<|Zn rfl<|Zq rfl (fun _ hS=>Ab rfl BK rfl (Bx.cs (hb12.ext (hS.resolve_left nofun)))) (Ext.refl _)<|Zn rfl<|Zq rfl (fun _ hS=>Ab rfl BK rfl (Bx.cs (hb13.ext (hS.resolve_left nofun)))) (Ext.refl _)<|bS hF fun x5 Ex5 hF=>?_;have hz:=WZ r17 Ex5;obtain⟨b8,cs4,e2,q5,hc1⟩:=hz;cases e2;obtain⟨_,_,rfl,⟨_,_,rfl,⟨a3,cq2,rfl,p2,q6,e3⟩,_,_,rfl,rfl,_,_,rfl,rfl,rfl⟩,_,_,rfl,⟨a4,cq3,rfl,p3,q7,e4⟩,_,_,rfl,rfl,_,_,rfl,⟨a5,rfl,q8⟩,a6,rfl,q9⟩:=q5;have r18:=RV.of1 p2 q6 e3;have r19:=RV.of1 p3 q7 e4;refine Zp rfl (fun _=>Cv rfl)<|Zp rfl (fun _=>AV rfl Ot)<|bS hF fun x6 Ex6 hF=>CR rfl<|Zc (xc WV (mc rfl (mc rfl mn))) (bB (x0:=((x5.1.1,x5.1.2.1,(x5.1.2.2.1,x5.1.2.2.2)),x5.2.1,x5.2.2.1,Opq.mk,Opq.mk)) hc1 ⟨[.slice a3 x5.1.1.length cq2]++([.int .i64 x5.1.2.1]++([.int .i64 x5.1.2.2.1]++[.int .i64 x5.1.2.2.2])),[.slice a4 x5.2.1.length cq3]++(((List.flatMap Flat.enc x5.2.2.1.l))++([a5]++[a6])),rfl,⟨[.slice a3 x5.1.1.length cq2],[.int .i64 x5.1.2.1]++([.int .i64 x5.1.2.2.1]++[.int .i64 x5.1.2.2.2]),rfl,r18.rep1,[.int .i64 x5.1.2.1],[.int .i64 x5.1.2.2.1]++[.int .i64 x5.1.2.2.2],rfl,rfl,[.int .i64 x5.1.2.2.1],[.int .i64 x5.1.2.2.2],rfl,rfl,rfl⟩,[.slice a4 x5.2.1.length cq3],((List.flatMap Flat.enc x5.2.2.1.l))++([a5]++[a6]),rfl,r19.rep1,(List.flatMap Flat.enc x5.2.2.1.l),[a5]++[a6],rfl,rfl,[a5],[a6],rfl,⟨_,rfl,q8⟩,_,rfl,q9⟩ (show RV (α:=(Int×Bool)) _ (.agg [.int .i64 x1.1,.bool x1.2].toArray) (x1.1,x1.2)from⟨_,rfl,[.int .i64 x1.1],[.bool x1.2],rfl,rfl,rfl⟩) Ex6) ?_;rintro _ w7⟨rfl,hx7⟩;have k15:=k11.tr hx7;have r20:=r18.ext hx7;have r21:=r19.ext hx7;have hc2:=hc1.ext hx7;refine nl ⟨fun _ _=>hx7,?_⟩;have hc3:Cs w7 b8 (0+5) (List.flatMap Flat.enc x5.2.2.1.l):=Cs.mid (l1:=[.slice a3 x5.1.1.length cq2,.int .i64 x5.1.2.1,.int .i64 x5.1.2.2.1,.int .i64 x5.1.2.2.2,.slice a4 x5.2.1.length cq3]) (X:=x5.2.2.1) (l2:=[a5,a6]) hc2;refine bS hF fun x7 Ex7 hF=>?_;have hz:=Hw hc3 Ex7;obtain⟨i1,i2,hc4⟩:=hz;refine Zp rfl (fun _=>FV rfl rfl Tryz.underlying196 Oq i1 i2)<|bS hF fun x8 Ex8 hF=>CR rfl<|Zc (xc WV (mc rfl (mc rfl mn))) (bB (x0:=((x5.1.1,x5.1.2.1,(x5.1.2.2.1,x5.1.2.2.2)),x5.2.1,x5.2.2.1,Opq.mk,Opq.mk)) hc2 ⟨[.slice a3 x5.1.1.length cq2]++([.int .i64 x5.1.2.1]++([.int .i64 x5.1.2.2.1]++[.int .i64 x5.1.2.2.2])),[.slice a4 x5.2.1.length cq3]++(((List.flatMap Flat.enc x5.2.2.1.l))++([a5]++[a6])),rfl,⟨[.slice a3 x5.1.1.length cq2],[.int .i64 x5.1.2.1]++([.int .i64 x5.1.2.2.1]++[.int .i64 x5.1.2.2.2]),rfl,r20.rep1,[.int .i64 x5.1.2.1],[.int .i64 x5.1.2.2.1]++[.int .i64 x5.1.2.2.2],rfl,rfl,[.int .i64 x5.1.2.2.1],[.int .i64 x5.1.2.2.2],rfl,rfl,rfl⟩,[.slice a4 x5.2.1.length cq3],((List.flatMap Flat.enc x5.2.2.1.l))++([a5]++[a6]),rfl,r21.rep1,(List.flatMap Flat.enc x5.2.2.1.l),[a5]++[a6],rfl,rfl,[a5],[a6],rfl,⟨_,rfl,q8⟩,_,rfl,q9⟩ (show RV (α:=(Int×Bool)) _ (.agg [.int .i64 x2.1,.bool x2.2].toArray) (x2.1,x2.2)from⟨_,rfl,[.int .i64 x2.1],[.bool x2.2],rfl,rfl,rfl⟩) Ex8) ?_;rintro _ w8⟨rfl,hx8⟩;have k19:=k15.tr hx8;have k23:=hx7.tr hx8;have hc5:=hc4.ext hx8;refine nl ⟨fun _ _=>k23,?_⟩;refine bS hF fun x9 Ex9 hF=>?_;have hz:=Hw hc5 Ex9;obtain⟨i3,i4,hc6⟩:=hz;refine Zp rfl (fun _=>FV rfl rfl Tryz.underlying195 AY i3 i4)<|CR rfl<|Zv (AQ rfl AY (hc6.at 0 rfl))<|nl ⟨fun _ _=>k23,?_⟩;refine Zp rfl (fun _=>EU rfl rfl)<|Zp rfl (fun _=>Ij)<|Zp rfl (fun _=>Ij)<|?_;cases hF;exact wp_ret<|rt rfl (.tmp rfl rfl (.tmp rfl rfl .nil)) ⟨rfl,k19⟩
end Go.Proofs.YtfmelbioccbdoaaGreat
end
section
namespace Go.Proofs.YtfmelbioccbdoaaGreat
open Go Go.Md Go.RowKit
attribute [local irreducible] Go.wpList Go.Code.wp Go.Calls Go.Md.C9 Go.Md.Mt Go.Md.Dz Go.Md.CW Go.Code.wpIn Go.wpListIn
section
structure Tb(N:Nat)(w:World)(b ma mu:Nat)(x:Bl):Prop where
 size:N<=w.heap.size
 rv:RVo (fun q=>q<N/\q≠ma/\q≠mu) w (.pointer (some ⟨b,0,none⟩)) (⟨some x⟩:Ob Bl)
 ca:w.cell? ⟨b,261,none⟩=some (.map (some ma))
 cu:w.cell? ⟨b,262,none⟩=some (.map (some mu))
 la:ma<N
 lu:mu<N
 ne:ma≠mu
section
variable {N:Nat}{w w1:World}{b ma mu c d:Nat}{x:Bl}
theorem Tb.lb(h:Tb N w b ma mu x):b<N/\b≠ma/\b≠mu:=by
 have hz:=Nz h.rv rfl;obtain⟨b',ds,e,h1,_,_⟩:=hz;cases e;exact h1
theorem Tb.belx(h:Tb N w b ma mu x)(k:BelX N c d w w1)(hc:c=ma\/c=mu\/N<=c)(hd:d=ma\/d=mu\/N<=d):Tb N w1 b ma mu x:=by
 have hb:=h.lb;have e:w1.heap[b]?=w.heap[b]?:=k.block b hb.1 (by omega) (by omega);exact⟨Nat.le_trans h.size k.size,h.rv.keep (fun q hq _=>k.block q hq.1 (by omega) (by omega)) k.size,(World.cell?_of_block (a:=⟨b,261,none⟩) e).trans h.ca,(World.cell?_of_block (a:=⟨b,262,none⟩) e).trans h.cu,h.la,h.lu,h.ne⟩
theorem Tb.belp{ok:Nat->Prop}{M:Nat}(h:Tb N w b ma mu x)(k:BelP ok M w w1)(hM:N<=M)(hk:∀q,q<N->q≠ma->q≠mu->ok q):Tb N w1 b ma mu x:=by
 have hb:=h.lb;have e:w1.heap[b]?=w.heap[b]?:=k.block b (by omega) (hk b hb.1 hb.2.1 hb.2.2);exact⟨Nat.le_trans h.size k.size,h.rv.keep (fun q hq _=>k.block q (by omega) (hk q hq.1 hq.2.1 hq.2.2)) k.size,(World.cell?_of_block (a:=⟨b,261,none⟩) e).trans h.ca,(World.cell?_of_block (a:=⟨b,262,none⟩) e).trans h.cu,h.la,h.lu,h.ne⟩
theorem Tb.ext(h:Tb N w b ma mu x)(k:Ext w w1):Tb N w1 b ma mu x:=h.belx (c:=ma) (d:=ma) (BelX.of k h.size) (.inl rfl) (.inl rfl)
theorem Tb.mono{M:Nat}(h:Tb N w b ma mu x)(hM:N<=M)(hs:M<=w.heap.size):Tb M w b ma mu x:=
 ⟨hs,h.rv.mono fun q _ hq=>⟨by omega,hq.2⟩,h.ca,h.cu,Nat.lt_of_lt_of_le h.la hM,Nat.lt_of_lt_of_le h.lu hM,h.ne⟩
theorem Tb.cs(h:Tb N w b ma mu x):∃cs,Cs w b 0 cs/\Enc.rep (fun _=>True) w cs x:=by
 have hz:=Nz h.rv rfl;obtain⟨b',ds,e,_,h1,h2⟩:=hz;cases e;exact⟨ds,h2,Enc.mono (fun _ _ _=>trivial) h1⟩
theorem Tb.steps(h:Tb N w b ma mu x):∃a k,w.cell? ⟨b,4,none⟩=some (.slice a x.2.1.length k)/\RVo (fun q=>q<N/\q≠ma/\q≠mu) w (.slice a x.2.1.length k) x.2.1:=by
 have hz:=Nz h.rv rfl;obtain⟨b',ds,e,_,h1,h2⟩:=hz;cases e;obtain⟨_,_,rfl,⟨_,_,rfl,⟨a1,c1,rfl,p1,q3,e1⟩,_,_,rfl,rfl,_,_,rfl,rfl,rfl⟩,_,_,rfl,⟨a2,c2,rfl,p2,q4,e2⟩,_⟩:=h1;exact⟨a2,c2,h2.at 4 rfl,RVo.sl.2 ⟨a2,c2,rfl,p2,q4,e2⟩⟩
theorem Tb.pieces(h:Tb N w b ma mu x):∃a k,w.cell? ⟨b,0,none⟩=some (.slice a x.1.1.length k)/\RVo (fun q=>q<N/\q≠ma/\q≠mu) w (.slice a x.1.1.length k) x.1.1:=by
 have hz:=Nz h.rv rfl;obtain⟨b',ds,e,_,h1,h2⟩:=hz;cases e;obtain⟨_,_,rfl,⟨_,_,rfl,⟨a1,c1,rfl,p1,q3,e1⟩,_,_,rfl,rfl,_,_,rfl,rfl,rfl⟩,_,_,rfl,⟨a2,c2,rfl,p2,q4,e2⟩,_⟩:=h1;exact⟨a1,c1,h2.at 0 rfl,RVo.sl.2 ⟨a1,c1,rfl,p1,q3,e1⟩⟩
theorem Tb.fits(h:Tb N w b ma mu x):Cs w b 5 (x.2.2.1.l.flatMap Flat.enc):=by
 have hz:=Nz h.rv rfl;obtain⟨b',ds,e,_,h1,h2⟩:=hz;cases e;obtain⟨_,_,rfl,⟨_,_,rfl,⟨a1,c1,rfl,p1,q3,e1⟩,_,_,rfl,rfl,_,_,rfl,rfl,rfl⟩,_,_,rfl,⟨a2,c2,rfl,p2,q4,e2⟩,_,_,rfl,rfl,_⟩:=h1;exact(h2.snd.snd).fst
theorem TbP.tb{M:Nat}{v:Value}(h:TbP M w v x b ma mu):v=.pointer (some ⟨b,0,none⟩)/\Tb w.heap.size w b ma mu x/\Mp (κ:=BD) (ν:=Int) w ma []/\Mp (κ:=BD) (ν:=Int) w mu []:=by
 obtain⟨rfl,h1,h2,h3,h4,h5,h6,_⟩:=h;refine⟨rfl,⟨Nat.le_refl _,?_,h2,h3,h4.lt,h5.lt,h6⟩,h4,h5⟩;obtain⟨cs,e,h7⟩:=h1;refine⟨cs,e,?_⟩;obtain⟨a,e1,b',ds,e2,h8,h9,h10,h11⟩:=h7;exact⟨a,e1,b',ds,e2,⟨h9,h8⟩,h9,Enc.mono (fun q hq hok=>⟨hq,hok⟩) h10,h11⟩
end
def Sn(x:Bl)(s:BD)(k:Int):Option Bool:=
 (F3 k s ⟨some x⟩)>>=fun f=>
 if f=true then
  (if decide (s.2=-1)=true then some true else(ix x.2.2.1.l s.2)>>=fun r=>(ix r.l k)>>=fun y=>some (decide (y=1)))
 else some false
def Gx(x:Bl)(s:BD):Nat->Nat->Option (List BD)
 |0,_=>some []
 |n+1,k=>(Sn x s k)>>=fun f=>(Gx x s n (k+1))>>=fun t=>if f=true then(He x s k)>>=fun u=>some (u::t)else some t
def Gg(x:Bl)(s:BD):Option (List BD):=
 if(!decide (s.2=-1))=true then(ix x.2.2.1.l s.2)>>=fun r=>if decide (r=Ar.fill 16 0)=true then some []else Gx x s x.2.1.length 0
 else Gx x s x.2.1.length 0
set_option maxHeartbeats 8000000 in
theorem jM{m:Nat}{w:World}{bs bt bf b ma mu N:Nat}{ok:Nat->Prop}{x:Bl}{s:BD}{l:List BD}(hs:Bx w bs 326 (Flat.enc s))(ht:Bx w bt 177 [.pointer (some ⟨b,0,none⟩)])(hf:Bx w bf 236 [.func (.func 309) #[] #[.pointer (some ⟨bs,0,none⟩),.pointer (some ⟨bt,0,none⟩)]])
  (n1:ok bs) (n2:ok bt) (n3:ok bf) (hT:Tb N w b ma mu x) (hok:∀q,q<N->q≠ma->q≠mu->ok q) (hL:Gg x s=some l):
  KC Tryz.prog (BelP ok w.heap.size) m 310 #[.pointer (some ⟨bs,0,none⟩),.pointer (some ⟨bt,0,none⟩),.pointer (some ⟨bf,0,none⟩)] (l.map fun u=>#[fv u]) w:=by
 intro ll J Jx W kW hJ hJx hY h0;have KW:BelP ok w.heap.size w W:=BelP.of kW (Nat.le_refl _);have TW:=hT.ext kW;have dsW:=hs.ext kW;have dtW:=ht.ext kW;refine(callsIn_wide.2 ?_:CallsIn Fence.wide m Tryz.prog 310 ([.func (.yield ll) #[] #[],.pointer (some ⟨bs,0,none⟩),.pointer (some ⟨bt,0,none⟩),.pointer (some ⟨bf,0,none⟩)].toArray) W _);refine Calls.mono (R:=A8 fun v W'=>J (l.map fun u=>#[fv u]).length W'\/Jx W') ?_ ?_
 rotate_left
 ·rintro e W'⟨v,rfl,h⟩
  exact⟨⟨v,rfl⟩,h⟩
 unfold Gg at hL;refine A9 (n:=58) Tryz.func310 rfl rfl rfl<|wp_seq<|ct (fun L w'=>L 0=.func (.yield ll) #[] #[]/\L 1=.pointer (some ⟨bs,0,none⟩)/\L 2=.pointer (some ⟨bt,0,none⟩)/\L 3=.pointer (some ⟨bf,0,none⟩)/\Ext W w'/\Gx x s x.2.1.length 0=some l) ?_ ?_
 ·refine wp_seq<|Gq [] (.pure true 0 (.pure false 1 (.pure true 2 (.pure true 3 (.pure false 4 (.pure true 5 (.pure false 6 (.pure true 7 (.pure true 8 (.pure true 9 (.pure false 10 (.pure true 11 (.pure true 12 (.pure true 13 .fin)))))))))))))) mixed (by kernel_rfl) (fun wd hxd=>?_)
  have ds:=dsW.ext hxd;have dt:=dtW.ext hxd;have Td:=TW.ext hxd;refine Zp rfl (fun _=>AV rfl Mq)<|Zq rfl (fun _ hS=>AQ rfl AY ((Bx.cs (ds.ext (hS.resolve_left nofun))).at 1 rfl)) (Ext.refl _)<|Zp rfl (fun _=>FT rfl rfl)<|Zn rfl<|Or.elim (Bool.eq_false_or_eq_true (!decide (s.2=-1))) (fun hg=>?_) (fun hg=>?_)
  ·have hL:=Ah hL hg
   refine bS hL fun r Er hL=>?_;have hz:=Hw Td.fits Er;obtain⟨j1,j2,hc1⟩:=hz;refine Yi rfl (Md.bt hg) (fun _ hS=>AQ rfl EI ((Bx.cs (dt.ext (hS.resolve_left nofun))).at 0 rfl)) (Ext.refl _)<|Yt rfl (Md.bt hg) (fun _=>AV rfl Mq)<|Yi rfl (Md.bt hg) (fun _ hS=>AQ rfl AY ((Bx.cs (ds.ext (hS.resolve_left nofun))).at 1 rfl)) (Ext.refl _)<|Yt rfl (Md.bt hg) (fun _=>Cv rfl)<|Yt rfl (Md.bt hg) (fun _=>AV rfl Ot)<|Yt rfl (Md.bt hg) (fun _=>FV rfl rfl Tryz.underlying196 Oq j1 j2)<|Yi rfl (Md.bt hg) (fun _ hS=>Ab rfl Oq (Ir r) (hc1.ext (hS.resolve_left nofun))) (Ext.refl _)<|Yt rfl (Md.bt hg) (fun _=>kS (r:=List.flatMap Flat.enc (Ar.fill 16 0:Ar 16 Int).l) Oq Tryz.underlying195 AY pn rfl)<|Yt rfl (Md.bt hg) (fun _=>Sz (α:=Ar 16 Int) (a:=r) (b:=Ar.fill 16 0) rfl ku kr rfl rfl rfl rfl rfl)<|Zp rfl (fun _=>DU rfl hg rfl)<|cnd rfl (fun hq=>?_) (fun hq=>?_)
   ·have hL:=Ah hL hq
    cases hL;exact wp_ret<|rt rfl .nil (.inl (hJ 0 _ _ h0 hxd))
   ·have hL:=Ai hL hq
    exact wp_skip<|lf ⟨rfl,rfl,rfl,rfl,hxd,hL⟩
  ·have hL:=Ai hL hg
   refine Yh rfl (AZ hg) (Ext.refl _)<|Yf rfl (AZ hg)<|Yh rfl (AZ hg) (Ext.refl _)<|Yf rfl (AZ hg)<|Yf rfl (AZ hg)<|Yf rfl (AZ hg)<|Yh rfl (AZ hg) (Ext.refl _)<|Yf rfl (AZ hg)<|Yf rfl (AZ hg)<|Zp rfl (fun _=>EW rfl hg rfl)<|cnd rfl (fun hq=>by cases hq) (fun hq=>?_);exact wp_skip<|lf ⟨rfl,rfl,rfl,rfl,hxd,hL⟩
 clear hL;rintro L w2⟨l0,l1,l2,l3,k2,hL⟩;have T2:=TW.ext k2;have dt2:=dtW.ext k2;have hz:=T2.steps;obtain⟨a2,c2,h4,hsl⟩:=hz;have hlen:=(RVo.rv hsl).cap;have hj2:J 0 w2:=hJ 0 _ _ h0 k2;have K2:BelP ok w.heap.size w w2:=BelP.of (kW.tr k2) (Nat.le_refl _);refine Zr<|Zv (AQ l2 EI ((Bx.cs dt2).at 0 rfl))<|Zv (Cv rfl)<|Zv (AV rfl F8)<|Zv (AQ rfl Km h4)<|Zv (BV rfl Tryz.underlying51)<|Zm<|nl<|wp_block<|lp (I:=fun m' L w1=>∃(k:Nat)(pre t:List BD),k+m'=x.2.1.length/\Gx x s m' k=some t/\l=pre++t/\L 25=.int .i64 (k:Int)/\L 24=.int .i64 (x.2.1.length:Int)/\L 0=.func (.yield ll) #[] #[]/\L 1=.pointer (some ⟨bs,0,none⟩)/\L 2=.pointer (some ⟨bt,0,none⟩)/\L 3=.pointer (some ⟨bf,0,none⟩)/\J pre.length w1/\BelP ok w.heap.size w w1) x.2.1.length
  ⟨0,[],l,by simp,hL,rfl,rfl,rfl,l0,l1,l2,l3,hj2,K2⟩ ?_
 clear l0 l1 l2 l3 hL;rintro m' L w1⟨k,pre,t,hk,hB,hl,l25,l24,l0,l1,l2,l3,hj,hx⟩;refine Zr<|Zv (BU l25 l24)<|nl<|wp_seq<|cnd rfl (fun hc0=>?_) (fun hc0=>?_)
 ·have hc0:(k:Int)<(x.2.1.length:Int):=by simpa using hc0
  obtain⟨n,rfl⟩:∃n,m'=n+1:=⟨m'-1,by omega⟩;rw[Gx]at hB;refine bS hB fun f Ef hB=>?_;have hz:=Md.bs hB;obtain⟨t',Et,hB⟩:=hz;unfold Sn at Ef;have hz:=Md.bs Ef;obtain⟨f0,Ef0,Ef⟩:=hz;have hadd:Aa ((k:Int)+1)=((k+1:Nat):Int):=by
   have hmx:x.2.1.length<=maxLen:=by omega
   rw[Aa,IntWalk.i64_in _ (by unfold maxLen at hmx;omega)]
   rfl
  have hNw:=hx.size;refine wp_skip<|wp_seq<|wp_block<|Zr<|Zv (BM l25)<|Za<|nl<|wp_seq<|qU (m:=m) (fun wd w'=>Ext wd w') [26] (.pure false 0 (.pure true 1 (.eff 2 (.pure true 3 (.pure true 4 (.pure false 5 (.pure true 6 (.pure true 7 (.pure false 8 (.pure true 9 (.pure false 10 (.pure true 11 (.pure true 12 (.pure true 13 (.pure true 14 (.pure true 15 (.pure false 16 (.pure true 17 (.pure true 18 (.pure true 19 (.pure true 20 (.pure true 21 (.pure false 22 (.pure false 23 (.pure true 24 (.eff 25 (.eff 26 (.pure true 27 (.pure true 28 .fin)) .stop) .stop))))))))))))))))))))))) .stop))) mixed (by kernel_rfl) (fun wd hxd=>?_);have hxd':=hx.ext hxd hNw;have ds:=hs.belp hxd' hs.lt n1;have dt:=ht.belp hxd' ht.lt n2;have df:=hf.belp hxd' hf.lt n3;have Td:=hT.belp hxd' hT.size hok;have hjd:=hJ _ _ _ hj hxd;refine LM rfl rfl rfl (fun _ hS=>AQ l3 Ou ((Bx.cs (df.ext (hS.resolve_left nofun))).at 0 rfl)) (.inr (Ext.refl _))<|LM rfl rfl rfl (fun _ _=>ET) (.inl rfl)<|Wt rfl<|Zc (Nn (fs:=[]) (cs:=[.pointer (some ⟨bs,0,none⟩),.pointer (some ⟨bt,0,none⟩)]) rfl mH (mc rfl mn) rfl) (rA (x1:=s) (x2:=(⟨some x⟩:Ob Bl)) (Bx.cs ds) (Flat.iff.2 rfl) (Bx.cs dt) (P9 Td.rv.rv) Ef0) ?_;rintro _ w3⟨rfl,hx3⟩;refine nl ⟨fun _ h=>h.tr hx3,?_⟩;have kd3:=hxd.tr hx3;have hx3':=hx.ext kd3 hNw;have hjd3:=hJ _ _ _ hj kd3;have ds3:=ds.ext hx3;have dt3:=dt.ext hx3;have Td3:=Td.ext hx3;refine LM rfl rfl rfl (fun _ _=>ET) (.inl rfl)<|?_;have skip_:∀(L':Fr),f=false->L' 24=.int .i64 (x.2.1.length:Int)->L' 0=.func (.yield ll) #[] #[]->L' 1=.pointer (some ⟨bs,0,none⟩)->L' 2=.pointer (some ⟨bt,0,none⟩)->L' 3=.pointer (some ⟨bf,0,none⟩)->
    ∃(k':Nat)(pre t:List BD),k'+n=x.2.1.length/\Gx x s n k'=some t/\l=pre++t/\Value.int .i64 (Aa ((k:Int)+1))=.int .i64 (k':Int)/\L' 24=.int .i64 (x.2.1.length:Int)/\L' 0=.func (.yield ll) #[] #[]/\L' 1=.pointer (some ⟨bs,0,none⟩)/\L' 2=.pointer (some ⟨bt,0,none⟩)/\L' 3=.pointer (some ⟨bf,0,none⟩)/\J pre.length w3/\BelP ok w.heap.size w w3:=by
   intro L' hf0 h24 h0 h1 h2 h3;have hB:=Ai hB hf0;cases hB;exact⟨k+1,pre,_,by omega,Et,hl,congrArg _ hadd,h24,h0,h1,h2,h3,hjd3,hx3'⟩
  refine Or.elim (Bool.eq_false_or_eq_true f0) (fun hf0=>?_) (fun hf0=>?_)
  ·have Ef:=Ah Ef hf0
   refine Ei rfl rfl rfl rfl rfl rfl (Md.bt hf0) rfl (fun _ _=>AV l1 Mq) (.inl rfl)<|Ei rfl rfl rfl rfl rfl rfl (Md.bt hf0) rfl (fun _ hS=>AQ rfl AY ((Bx.cs (ds.ext (hS.resolve_left nofun))).at 1 rfl)) (.inr hx3)<|Ei rfl rfl rfl rfl rfl rfl (Md.bt hf0) rfl (fun _ _=>EU rfl rfl) (.inl rfl)<|Ei rfl rfl rfl rfl rfl rfl (Md.bt hf0) rfl (fun _ _=>ET) (.inl rfl)<|Or.elim (Bool.eq_false_or_eq_true (decide (s.2=-1))) (fun hs2=>?_) (fun hs2=>?_)
   ·have Ef:=Ah Ef hs2
    obtain rfl:true=f:=by cases Ef;rfl
    refine Dh rfl rfl rfl rfl rfl rfl (CY hs2) rfl (.inr hx3)<|Dh rfl rfl rfl rfl rfl rfl (CY hs2) rfl (.inl rfl)<|Dh rfl rfl rfl rfl rfl rfl (CY hs2) rfl (.inr hx3)<|Dh rfl rfl rfl rfl rfl rfl (CY hs2) rfl (.inl rfl)<|Dh rfl rfl rfl rfl rfl rfl (CY hs2) rfl (.inl rfl)<|Dh rfl rfl rfl rfl rfl rfl (CY hs2) rfl (.inl rfl)<|Dh rfl rfl rfl rfl rfl rfl (CY hs2) rfl (.inl rfl)<|Dh rfl rfl rfl rfl rfl rfl (CY hs2) rfl (.inl rfl)<|Dh rfl rfl rfl rfl rfl rfl (CY hs2) rfl (.inr hx3)<|Dh rfl rfl rfl rfl rfl rfl (CY hs2) rfl (.inl rfl)<|Ei rfl rfl rfl rfl rfl rfl (Md.bt hf0) rfl (fun _ _=>DU rfl hs2 rfl) (.inl rfl)<|LM rfl rfl rfl (fun _ _=>DU rfl hf0 rfl) (.inl rfl)<|LM rfl rfl rfl (fun _ _=>ET) (.inl rfl)<|?_;have hf:true=true:=rfl;have hB:=Ah hB hf;refine bS hB fun u Eu hB=>?_;cases hB;have hz:=Td3.cs;obtain⟨cs3,hc3,hr3⟩:=hz;refine Ei rfl rfl rfl rfl rfl rfl (Md.bt hf) rfl (fun _ _=>BM l0) (.inl rfl)<|Ei rfl rfl rfl rfl rfl rfl (Md.bt hf) rfl (fun _ hS=>AQ l2 EI ((Bx.cs (dt.ext (hS.resolve_left nofun))).at 0 rfl)) (.inr hx3)<|Ei rfl rfl rfl rfl rfl rfl (Md.bt hf) rfl (fun _ hS=>Ab l1 D6 rfl (Bx.cs (ds.ext (hS.resolve_left nofun)))) (.inr hx3)<|Ei rfl rfl rfl rfl rfl rfl (Md.bt hf) rfl (fun _ _=>ET) (.inl rfl)<|Wt rfl<|Gt rfl (Md.bt hf)<|Zc (xc dJ (mc rfl<|mc rfl<|mc rfl mn)) (jI (x0:=x) hc3 hr3 (x1:=s) ⟨_,rfl,Flat.iff.2 rfl⟩ Eu) ?_;rintro _ w4⟨u0,rfl,ru,hx4⟩;refine nl ⟨fun _ h=>h.tr hx4,?_⟩;obtain⟨cu,rfl,hu⟩:=ru;obtain rfl:=Flat.iff.1 hu;have hus:(l.map fun u=>(#[fv u]:Array Value))[pre.length]?=some #[fv u]:=by
     rw[List.getElem?_map,hl,List.getElem?_append_right (Nat.le_refl _),Nat.sub_self]
     rfl
    have hz:=hY pre.length #[fv u] w4 hus (hJ _ _ _ hjd3 hx4);obtain⟨fn,tmps,assign,body,hy,hR⟩:=hz;refine oN rfl rfl rfl rfl rfl rfl (Md.bt hf) rfl (by decide) (dM rfl (mc rfl mn) hy) hR fun e w5 he=>?_;rcases he with⟨rfl,hj5,k5⟩|⟨rfl,hj5⟩
    ·refine⟨_,rfl,?_⟩
     refine Ei rfl rfl rfl rfl rfl rfl (Md.bt hf) rfl (fun _ _=>EK rfl) (.inl rfl)<|LM rfl rfl rfl (fun _ _=>DU rfl hf rfl) (.inl rfl)<|cnd rfl (fun h=>by cases h) (fun _=>?_);refine wp_skip<|rg<|Zv (Bg l25 rfl)<|Zm<|nl<|lq n (Nat.lt_succ_self _) ⟨k+1,pre++[u],t',by omega,Et,by rw[hl,List.append_assoc];rfl,congrArg _ hadd,l24,l0,l1,l2,l3,?_,(hx3'.ext hx4 (Nat.le_trans hNw kd3.size)).trans k5⟩;rw[List.length_append];exact hj5
    ·refine⟨_,rfl,?_⟩
     refine Ei rfl rfl rfl rfl rfl rfl (Md.bt hf) rfl (fun _ _=>EK rfl) (.inl rfl)<|LM rfl rfl rfl (fun _ _=>DU rfl hf rfl) (.inl rfl)<|cnd rfl (fun _=>?_) (fun h=>by cases h);exact wp_ret<|rt rfl .nil (.inr hj5)
   ·have Ef:=Ai Ef hs2
    have hz:=Md.bs Ef;obtain⟨r,Er,Ef⟩:=hz;have hz:=Md.bs Ef;obtain⟨y,Ey,Ef⟩:=hz;obtain rfl:decide (y=1)=f:=by cases Ef;rfl
    have hz:=Hw Td.fits Er;obtain⟨j1,j2,hc1⟩:=hz;have hz:=Hw (X:=r) hc1 Ey;obtain⟨j3,j4,hc2⟩:=hz;refine Ei rfl rfl rfl rfl rfl rfl (Md.bf hs2) rfl (fun _ hS=>AQ l2 EI ((Bx.cs (dt.ext (hS.resolve_left nofun))).at 0 rfl)) (.inr hx3)<|Ei rfl rfl rfl rfl rfl rfl (Md.bf hs2) rfl (fun _ _=>AV l1 Mq) (.inl rfl)<|Ei rfl rfl rfl rfl rfl rfl (Md.bf hs2) rfl (fun _ hS=>AQ rfl AY ((Bx.cs (ds.ext (hS.resolve_left nofun))).at 1 rfl)) (.inr hx3)<|Ei rfl rfl rfl rfl rfl rfl (Md.bf hs2) rfl (fun _ _=>ET) (.inl rfl)<|Ei rfl rfl rfl rfl rfl rfl (Md.bf hs2) rfl (fun _ _=>Cv rfl) (.inl rfl)<|Ei rfl rfl rfl rfl rfl rfl (Md.bf hs2) rfl (fun _ _=>AV rfl Ot) (.inl rfl)<|Ei rfl rfl rfl rfl rfl rfl (Md.bf hs2) rfl (fun _ _=>FV rfl rfl Tryz.underlying196 Oq j1 j2) (.inl rfl)<|Ei rfl rfl rfl rfl rfl rfl (Md.bf hs2) rfl (fun _ _=>FV rfl rfl Tryz.underlying195 AY j3 j4) (.inl rfl)<|Ei rfl rfl rfl rfl rfl rfl (Md.bf hs2) rfl (fun _ hS=>AQ rfl AY ((hc2.ext (hS.resolve_left nofun)).at 0 rfl)) (.inr hx3)<|Ei rfl rfl rfl rfl rfl rfl (Md.bf hs2) rfl (fun _ _=>EU rfl rfl) (.inl rfl)<|Ei rfl rfl rfl rfl rfl rfl (Md.bt hf0) rfl (fun _ _=>EW rfl hs2 rfl) (.inl rfl)<|LM rfl rfl rfl (fun _ _=>DU rfl hf0 rfl) (.inl rfl)<|LM rfl rfl rfl (fun _ _=>ET) (.inl rfl)<|Or.elim (Bool.eq_false_or_eq_true (decide (y=1))) (fun hf=>?_) (fun hf=>?_)
    ·skip
     have hB:=Ah hB hf;refine bS hB fun u Eu hB=>?_;cases hB;have hz:=Td3.cs;obtain⟨cs3,hc3,hr3⟩:=hz;refine Ei rfl rfl rfl rfl rfl rfl (Md.bt hf) rfl (fun _ _=>BM l0) (.inl rfl)<|Ei rfl rfl rfl rfl rfl rfl (Md.bt hf) rfl (fun _ hS=>AQ l2 EI ((Bx.cs (dt.ext (hS.resolve_left nofun))).at 0 rfl)) (.inr hx3)<|Ei rfl rfl rfl rfl rfl rfl (Md.bt hf) rfl (fun _ hS=>Ab l1 D6 rfl (Bx.cs (ds.ext (hS.resolve_left nofun)))) (.inr hx3)<|Ei rfl rfl rfl rfl rfl rfl (Md.bt hf) rfl (fun _ _=>ET) (.inl rfl)<|Wt rfl<|Gt rfl (Md.bt hf)<|Zc (xc dJ (mc rfl<|mc rfl<|mc rfl mn)) (jI (x0:=x) hc3 hr3 (x1:=s) ⟨_,rfl,Flat.iff.2 rfl⟩ Eu) ?_;rintro _ w4⟨u0,rfl,ru,hx4⟩;refine nl ⟨fun _ h=>h.tr hx4,?_⟩;obtain⟨cu,rfl,hu⟩:=ru;obtain rfl:=Flat.iff.1 hu;have hus:(l.map fun u=>(#[fv u]:Array Value))[pre.length]?=some #[fv u]:=by
      rw[List.getElem?_map,hl,List.getElem?_append_right (Nat.le_refl _),Nat.sub_self]
      rfl
     have hz:=hY pre.length #[fv u] w4 hus (hJ _ _ _ hjd3 hx4);obtain⟨fn,tmps,assign,body,hy,hR⟩:=hz;refine oN rfl rfl rfl rfl rfl rfl (Md.bt hf) rfl (by decide) (dM rfl (mc rfl mn) hy) hR fun e w5 he=>?_;rcases he with⟨rfl,hj5,k5⟩|⟨rfl,hj5⟩
     ·refine⟨_,rfl,?_⟩
      refine Ei rfl rfl rfl rfl rfl rfl (Md.bt hf) rfl (fun _ _=>EK rfl) (.inl rfl)<|LM rfl rfl rfl (fun _ _=>DU rfl hf rfl) (.inl rfl)<|cnd rfl (fun h=>by cases h) (fun _=>?_);refine wp_skip<|rg<|Zv (Bg l25 rfl)<|Zm<|nl<|lq n (Nat.lt_succ_self _) ⟨k+1,pre++[u],t',by omega,Et,by rw[hl,List.append_assoc];rfl,congrArg _ hadd,l24,l0,l1,l2,l3,?_,(hx3'.ext hx4 (Nat.le_trans hNw kd3.size)).trans k5⟩;rw[List.length_append];exact hj5
     ·refine⟨_,rfl,?_⟩
      refine Ei rfl rfl rfl rfl rfl rfl (Md.bt hf) rfl (fun _ _=>EK rfl) (.inl rfl)<|LM rfl rfl rfl (fun _ _=>DU rfl hf rfl) (.inl rfl)<|cnd rfl (fun _=>?_) (fun h=>by cases h);exact wp_ret<|rt rfl .nil (.inr hj5)
    ·refine Dh rfl rfl rfl rfl rfl rfl (AZ hf) rfl (.inl rfl)<|Dh rfl rfl rfl rfl rfl rfl (AZ hf) rfl (.inr hx3)<|Dh rfl rfl rfl rfl rfl rfl (AZ hf) rfl (.inr hx3)<|Dh rfl rfl rfl rfl rfl rfl (AZ hf) rfl (.inl rfl)<|?_
     refine Wu rfl rfl rfl rfl rfl rfl (AZ hf) rfl<|Wu rfl rfl rfl rfl rfl rfl (AZ hf) rfl<|Dh rfl rfl rfl rfl rfl rfl (AZ hf) rfl (.inl rfl)<|LM rfl rfl rfl (fun _ _=>EW rfl hf rfl) (.inl rfl)<|cnd rfl (fun h=>by cases h) (fun _=>?_);refine wp_skip<|rg<|Zv (Bg l25 rfl)<|Zm<|nl<|lq n (Nat.lt_succ_self _) (skip_ _ hf l24 l0 l1 l2 l3)
  ·have Ef:=Ai Ef hf0
   obtain rfl:false=f:=by cases Ef;rfl
   refine Dh rfl rfl rfl rfl rfl rfl (AZ hf0) rfl (.inl rfl)<|Dh rfl rfl rfl rfl rfl rfl (AZ hf0) rfl (.inr hx3)<|Dh rfl rfl rfl rfl rfl rfl (AZ hf0) rfl (.inl rfl)<|Dh rfl rfl rfl rfl rfl rfl (AZ hf0) rfl (.inl rfl)<|Dh rfl rfl rfl rfl rfl rfl Md.bu rfl (.inr hx3)<|Dh rfl rfl rfl rfl rfl rfl Md.bu rfl (.inl rfl)<|Dh rfl rfl rfl rfl rfl rfl Md.bu rfl (.inr hx3)<|Dh rfl rfl rfl rfl rfl rfl Md.bu rfl (.inl rfl)<|Dh rfl rfl rfl rfl rfl rfl Md.bu rfl (.inl rfl)<|Dh rfl rfl rfl rfl rfl rfl Md.bu rfl (.inl rfl)<|Dh rfl rfl rfl rfl rfl rfl Md.bu rfl (.inl rfl)<|Dh rfl rfl rfl rfl rfl rfl Md.bu rfl (.inl rfl)<|Dh rfl rfl rfl rfl rfl rfl Md.bu rfl (.inr hx3)<|Dh rfl rfl rfl rfl rfl rfl Md.bu rfl (.inl rfl)<|Dh rfl rfl rfl rfl rfl rfl (AZ hf0) rfl (.inl rfl)<|LM rfl rfl rfl (fun _ _=>EW rfl hf0 rfl) (.inl rfl)<|LM rfl rfl rfl (fun _ _=>ET) (.inl rfl)<|Dh rfl rfl rfl rfl rfl rfl (AZ rfl) rfl (.inl rfl)<|Dh rfl rfl rfl rfl rfl rfl (AZ rfl) rfl (.inr hx3)<|Dh rfl rfl rfl rfl rfl rfl (AZ rfl) rfl (.inr hx3)<|Dh rfl rfl rfl rfl rfl rfl (AZ rfl) rfl (.inl rfl)<|Wu rfl rfl rfl rfl rfl rfl (AZ rfl) rfl<|Wu rfl rfl rfl rfl rfl rfl (AZ rfl) rfl<|Dh rfl rfl rfl rfl rfl rfl (AZ rfl) rfl (.inl rfl)<|LM rfl rfl rfl (fun _ _=>EW rfl rfl rfl) (.inl rfl)<|cnd rfl (fun h=>by cases h) (fun _=>?_);refine wp_skip<|rg<|Zv (Bg l25 rfl)<|Zm<|nl<|lq n (Nat.lt_succ_self _) (skip_ _ rfl l24 l0 l1 l2 l3)
 ·have hc0:¬(k:Int)<(x.2.1.length:Int):=by simpa using hc0
  obtain rfl:m'=0:=by omega
  rw[Gx]at hB;cases hB;refine wp_exit<|gU rfl .nil (.inl ?_);rw[List.length_map,hl,List.append_nil];exact hj
end
def BhV(lo:Nat)(w:World)(v:Value)(s:BD)(b:Nat):Prop:=∃bs bt bf,v=.func (.func 310) #[] #[.pointer (some ⟨bs,0,none⟩),.pointer (some ⟨bt,0,none⟩),.pointer (some ⟨bf,0,none⟩)]/\
 Bx w bs 326 (Flat.enc s)/\Bx w bt 177 [.pointer (some ⟨b,0,none⟩)]/\Bx w bf 236 [.func (.func 309) #[] #[.pointer (some ⟨bs,0,none⟩),.pointer (some ⟨bt,0,none⟩)]]/\lo<=bs/\lo<=bt/\lo<=bf
theorem BhV.go{lo:Nat}{w:World}{v:Value}{s:BD}{b ma mu N:Nat}{ok:Nat->Prop}{x:Bl}{l:List BD}(h:BhV lo w v s b)(hT:Tb N w b ma mu x)(hok:∀q,q<N->q≠ma->q≠mu->ok q)(hlo:∀q,lo<=q->ok q)(hL:Gg x s=some l)(m:Nat):
  ∃gf cs,v=.func (.func gf) #[] cs/\AR Tryz.prog gf/\KC Tryz.prog (BelP ok w.heap.size) m gf cs (l.map fun u=>#[fv u]) w:=by
 obtain⟨bs,bt,bf,rfl,h1,h2,h3,h4,h5,h6⟩:=h;exact⟨310,_,rfl,mI,jM h1 h2 h3 (hlo _ h4) (hlo _ h5) (hlo _ h6) hT hok hL⟩
theorem jO{w0:World}{b:Nat}{s:BD}:Calls Tryz.prog 229 [.pointer (some ⟨b,0,none⟩),fv s].toArray w0 (A8 fun v w'=>BhV w0.heap.size w' v s b/\Ext w0 w'):=by
 refine A9 (n:=8) Tryz.func229 rfl rfl rfl<|Zr<|CO rfl rfl fun bt w1 hx1 hg1 hb1=>CO rfl (NI s) fun bs w2 hx2 hg2 hb2=>Za<|nl<|Zr<|Zv (Lj (l:=[]) (k:=[.pointer (some ⟨bs,0,none⟩),.pointer (some ⟨bt,0,none⟩)]) rfl rfl)<|D9 Ou fun bf w3 hx3 hg3 hb3=>DC rfl rfl rfl Ou hb3 rfl rfl (ble rfl) fun w4 hch4 hb4=>?_;have s1:=hx1.size;have s2:=hx2.size;have s3:=hx3.size;have k3:Ext w0 w4:=((hx1.tr hx2).tr hx3).chg hch4 (by omega);have l1:=hb1.lt;have l2:=hb2.lt;refine nl<|Zr<|Zv (Lj (l:=[]) (k:=[.pointer (some ⟨bs,0,none⟩),.pointer (some ⟨bt,0,none⟩),.pointer (some ⟨bf,0,none⟩)]) rfl rfl)<|Za<|nl<|wp_ret<|Zw rfl rfl rfl ⟨⟨bs,bt,bf,rfl,?_,?_,?_,by omega,hg1,by omega⟩,k3⟩
 ·exact(hb2.ext hx3).chg hch4 (by omega)
 ·exact((hb1.ext hx2).ext hx3).chg hch4 (by omega)
 ·exact hb4
abbrev EN:=List (BD×Int)
def Kg(f:EN->BD->Option (Int×EN)):List BD->Int->EN->Option (Int×EN)
 |[],n,A=>some (n,A)
 |u::l,n,A=>(f A u)>>=fun q=>Kg f l (Aa (n+q.1)) q.2
def DL(x:Bl):Nat->EN->BD->Option (Int×EN)
 |0,_,_=>none
 |m+1,A,s=>
  (shl .i64 1 (x.1.1.length:Int))>>=fun p=>
  if decide (s.1=Aa (p-1))=true then some (1,A)
  else
   (PL s)>>=fun _=>
   if JO A s=true then some (BQ 0 A s,A)
   else(Gg x s)>>=fun l=>(Kg (fun A u=>DL x m A u) l 0 A)>>=fun r=>some (r.1,BL r.2 s r.1)
theorem uP(w:World):(zeroValue 2).run Tryz.prog w=.ok (fv (0:Int)) w:=TI.zv (α:=Int) (d:=0) DX rfl rfl w
set_option maxHeartbeats 8000000 in
theorem jP{x:Bl}:∀(m:Nat){w0:World}{b ma mu N:Nat}{A:EN}{s:BD}{r:Int×EN},Tb N w0 b ma mu x->Mp w0 ma A->DL x m A s=some r->
  Calls Tryz.prog 226 [.pointer (some ⟨b,0,none⟩),fv s].toArray w0 (A8 fun v w'=>v=.int .i64 r.1/\Mp w' ma r.2/\BelP (fun q=>q≠ma) w0.heap.size w0 w'):=by
 intro m
 induction m with
 |zero=>intro w0 b ma mu N A s r _ _ hF;rw[DL]at hF;cases hF
 |succ m ih=>
  intro w0 b ma mu N A s r hT0 hm0 hF;rw[DL]at hF;refine bS hF fun p Ep hF=>Wj (m:=9) (n:=47) Tryz.func226 rfl rfl rfl<|Zr<|CO rfl rfl fun bt w1 hx1 hg1 hb1=>CO rfl (NI s) fun bs w2 hx2 hg2 hb2=>?_;have k2:=hx1.tr hx2;have T2:=hT0.ext k2;have hm2:=hm0.ext k2;have hb1:=hb1.ext hx2;have z1:=hx1.size;have z2:=hx2.size;have l1:=hb1.lt;have l2:=hb2.lt;have la:=hm0.lt;have hz:=T2.pieces;obtain⟨a1,c1,h4,hs4⟩:=hz;refine Za<|nl<|wp_seq<|wp_seq<|Gq [] (.pure true 0 (.pure false 1 (.pure false 2 (.pure true 3 (.pure true 4 (.pure true 5 (.pure false 6 (.pure true 7 (.pure true 8 (.pure true 9 (.pure true 10 .fin))))))))))) mixed (by kernel_rfl) (fun wd hxd=>?_);have k3:=k2.tr hxd;have ds:=hb2.ext hxd;have dt:=hb1.ext hxd;refine Zp rfl (fun _=>AV rfl Qy)<|Zq rfl (fun _ hS=>AQ rfl AY ((Bx.cs (ds.ext (hS.resolve_left nofun))).at 0 rfl)) (Ext.refl _)<|Zq rfl (fun _ hS=>AQ rfl EI ((Bx.cs (dt.ext (hS.resolve_left nofun))).at 0 rfl)) (Ext.refl _)<|Zp rfl (fun _=>Cv rfl)<|Zp rfl (fun _=>AV rfl JC)<|Zp rfl (fun _=>AV rfl Dy)<|Zq rfl (fun _ hS=>AQ rfl F6 (I8 (I8 h4 hxd) (hS.resolve_left nofun))) (Ext.refl _)<|Zp rfl (fun _=>BV rfl Tryz.underlying46)<|Zp rfl (fun _=>Wm rfl rfl Ep)<|Zp rfl (fun _=>F5 rfl rfl)<|Zp rfl (fun _=>EU rfl rfl)<|cnd rfl (fun hc=>?_) (fun hc=>?_)
  ·have hF:=Ah hF hc
   cases hF;refine Zr<|Za<|nl<|wp_ret<|TK (B:=w0.heap.size) rfl Mks.nil fun w' hk=>⟨_,.tmp rfl rfl .nil,rfl,?_,?_⟩
   ·exact(hm2.ext hxd).tak hk
   ·exact(BelP.of k3 (Nat.le_refl _)).tak hk (Nat.le_refl _)
  have hF:=Ai hF hc;refine bS hF fun _ Ek hF=>?_;have hkey:=TL Ek;have hm3:=hm2.ext hxd;have T3:=T2.ext hxd;refine wp_skip<|wp_seq<|wp_seq<|Gq [] (.pure false 0 (.pure true 1 (.pure true 2 (.pure false 3 (.pure false 4 (.pure false 5 (.pure true 6 (.pure true 7 (.pure true 8 (.pure true 9 (.pure true 10 .fin))))))))))) mixed (by kernel_rfl) (fun we hxe=>?_);have es:=ds.ext hxe;have et:=dt.ext hxe;have Te:=T3.ext hxe;have hme:=hm3.ext hxe;have k4:=k3.tr hxe;refine Zq rfl (fun _ hS=>AQ rfl EI ((Bx.cs (et.ext (hS.resolve_left nofun))).at 0 rfl)) (Ext.refl _)<|Zp rfl (fun _=>Cv rfl)<|Zp rfl (fun _=>AV rfl Vp)<|Zq rfl (fun _ hS=>AQ rfl bZ (I8 Te.ca (hS.resolve_left nofun))) (Ext.refl _)<|Zq rfl (fun _ hS=>Ab rfl D6 (Flat.len s) (Bx.cs (es.ext (hS.resolve_left nofun)))) (Ext.refl _)<|Zq rfl (fun _ hS=>mR (d:=(0:Int)) Tryz.underlying197 dR (uP _) (hme.ext (hS.resolve_left nofun)) hkey rfl rfl) (Ext.refl _)<|Zn rfl<|Zp rfl (fun _=>FU (vs:=[fv (BQ 0 A s),.bool (JO A s)]) rfl rfl)<|Zp rfl (fun _=>FU (vs:=[fv (BQ 0 A s),.bool (JO A s)]) rfl rfl)<|Zp rfl (fun _=>Ij)<|Zp rfl (fun _=>Ij)<|Zr<|Zm<|nl<|cnd rfl (fun hh=>?_) (fun hh=>?_)
  ·have hF:=Ah hF hh
   cases hF;refine Zr<|Zm<|Za<|nl<|wp_ret<|TK (B:=w0.heap.size) rfl Mks.nil fun w' hk=>⟨_,.tmp rfl rfl .nil,rfl,?_,?_⟩
   ·exact hme.tak hk
   ·exact(BelP.of k4 (Nat.le_refl _)).tak hk (Nat.le_refl _)
  have hF:=Ai hF hh;refine bS hF fun l El hF=>?_;have hz:=Md.bs hF;obtain⟨r',Er,hF⟩:=hz;cases hF;refine wp_skip<|Zr<|D9 DX fun b7 w4 hx4 hg4 hb4=>DC rfl rfl rfl DX hb4 rfl rfl (ble rfl) fun w5 hch5 hb5=>?_;have kx5:Ext we w5:=hx4.chg hch5 hg4;have k5:=k4.tr kx5;have T5:=Te.ext kx5;have hm5:=hme.ext kx5;have fs:=es.ext kx5;have ft:=et.ext kx5;have h7:Bx w5 b7 2 [.int .i64 0]:=hb5;refine nl<|wp_seq<|Zr<|Zv (AQ rfl EI ((Bx.cs ft).at 0 rfl))<|Zv (Ab rfl D6 (Flat.len s) (Bx.cs fs))<|Zc (xc dG (mc rfl<|mc rfl mn)) (jO (b:=b) (s:=s)) fun v w6 hv=>?_;obtain⟨hbh,hx6⟩:=hv;have k6:=k5.tr hx6;have T6:=T5.ext hx6;have hm6:=hm5.ext hx6;have gs:=fs.ext hx6;have gt:=ft.ext hx6;have g7:=h7.ext hx6;have y4:=k4.size;have y5:=hx4.size;have y6:=hx6.size;have z5:=k5.size;have z7:=h7.lt;have zt:=dt.lt;have zs:=ds.lt;have ye:=hxe.size;have yd:=hxd.size;have hma6:ma<w6.heap.size:=by have:=hm6.lt;exact this
  have hNs:=hT0.size;have hn7:b7≠ma:=fun e=>(hm5.not_cells h7) e.symm;have hnt:bt≠ma:=fun e=>(hm6.not_cells gt) e.symm;have hb7w0:w0.heap.size<=b7:=by omega
  have hseq:=hbh.go (N:=N) (ok:=fun q=>q≠ma/\q≠b7) T6 (fun q h1 h2 h3=>⟨h2,by omega⟩) (fun q h1=>⟨by omega,by omega⟩) El 8;refine nl<|wp_block<|rangeB (α:=BD) (xs:=l) (m:=9) (by decide) rfl KpOk.belp hseq rfl rfl rfl D6 rfl
   (fun k W=>∃(n:Int)(A':EN),Kg (fun A u=>DL x m A u) (l.drop k) n A'=some r'/\Bx W b7 2 [.int .i64 n]/\Mp W ma A'/\BelP (fun q=>q≠ma/\q≠b7) w6.heap.size w6 W/\w6.heap.size<=W.heap.size)
   (fun _ _=>False) (fun k=>Okb.ex fun _=>Okb.ex fun _=>Okb.pure.and (Okb.bx.and ((Okb.mp hma6).and ((Okb.belp (Nat.le_refl _) (Nat.le_refl _)).and Okb.size)))) (fun _=>Okb.pure) ⟨0,A,Er,g7,hm6,BelP.refl,Nat.le_refl _⟩ ?round (fun k W h=>by obtain⟨_,_,_,_,_,_,h⟩:=h;exact h) ?done (fun _ _ _ _ h _=>h.elim)
  case round=>
   rintro ll k u A1 W b8 hu⟨n,A',hB,i1,i2,i3,i4⟩ hA hg8 hg8' hb8;rw[Q0 hu,Kg]at hB;refine bS hB fun q Eq hB=>?_;have i1:=i1.asg hA;have i2:=i2.asg hA hma6;have i3:=i3.asg hA i4 (Nat.le_refl _);have hW:w6.heap.size<=W.heap.size:=i3.size;refine wpIn_block<|dQ (fun wd w'=>BelP (fun q=>q≠ma) wd.heap.size wd w') [5] (.pure false 0 (.pure false 1 (.pure false 2 (.eff 3 (.pure true 4 (.eff 5 .fin .stop)) .stop)))) mixed (by kernel_rfl) (fun wg hxg=>?_);have j7:=i1.ext hxg;have j8:=hb8.ext hxg;have i3g:=i3.ext hxg hW;have jt:=gt.belp i3g gt.lt ⟨hnt,by omega⟩;have jm:=i2.ext hxg;have Tg:=T6.belp i3g T6.size (fun q h1 h2 h3=>⟨h2,by omega⟩);have hn8:b8≠ma:=by omega
   refine Zq rfl (fun _ hS=>AQ rfl DX ((Bx.cs (j7.belp (hS.resolve_left nofun) j7.lt hn7)).at 0 rfl)) BelP.refl<|Zq rfl (fun _ hS=>AQ rfl EI ((Bx.cs (jt.belp (hS.resolve_left nofun) jt.lt hnt)).at 0 rfl)) BelP.refl<|Zq rfl (fun _ hS=>Ab rfl D6 (Flat.len u) (Bx.cs (j8.belp (hS.resolve_left nofun) j8.lt hn8))) BelP.refl<|CR rfl<|Zc (xc WX (mc rfl<|mc rfl mn)) (ih Tg jm Eq) ?_;rintro _ w7⟨rfl,hm7,hp7⟩;have j77:=j7.belp hp7 j7.lt hn7;refine nl ⟨fun _ h=>h.trans hp7,?_⟩;refine Zp rfl (fun _=>Bg rfl rfl)<|CR rfl<|DC rfl rfl rfl DX j77 rfl rfl (ble rfl) fun w8 hch8 hb8'=>nl ⟨fun h=>(h (by decide)).elim,?_⟩;have hg:=hxg.size;have e1:BelP (fun q=>q≠ma/\q≠b7) w6.heap.size W w8:=((BelP.of hxg hW).trans (hp7.weak fun q h1 h2=>⟨by omega,h2.1⟩)).chg hch8 (.inr fun h=>h.2 rfl);refine⟨((hxg.kf).trans (hp7.kf fun q h1=>by omega)).chgc hch8 (.inl (by omega)),e1,_,q.2,hB,hb8',hm7.chgb hch8 j77,i3.trans e1,?_⟩;rw[hch8.size];exact Nat.le_trans hW (Nat.le_trans hg hp7.size)
  case done=>
   rintro D' W hD⟨n,A',hB,i1,i2,i3,i4⟩ hK;rw[List.drop_length,Kg]at hB;cases hB;have hs7:=gs.belp i3 gs.lt ⟨fun e=>(hm6.not_cells gs) e.symm,by omega⟩;have ht7:=gt.belp i3 gt.lt ⟨hnt,by omega⟩;have T7:=T6.belp i3 T6.size (fun q h1 h2 h3=>⟨h2,by omega⟩);refine wp_seq<|Gq [6] (.pure false 0 (.pure true 1 (.pure true 2 (.pure false 3 (.pure false 4 (.pure false 5 (.eff 6 .fin .stop))))))) mixed (by kernel_rfl) (fun wf hxf=>?_);have ks:=hs7.ext hxf;have kt:=ht7.ext hxf;have k7:=i1.ext hxf;have Tf:=T7.ext hxf;have hmf:=i2.ext hxf;refine Zq rfl (fun _ hS=>AQ rfl EI ((Bx.cs (kt.ext (hS.resolve_left nofun))).at 0 rfl)) (Ext.refl _)<|Zp rfl (fun _=>Cv rfl)<|Zp rfl (fun _=>AV rfl Vp)<|Zq rfl (fun _ hS=>AQ rfl bZ (I8 Tf.ca (hS.resolve_left nofun))) (Ext.refl _)<|Zq rfl (fun _ hS=>Ab rfl D6 (Flat.len s) (Bx.cs (ks.ext (hS.resolve_left nofun)))) (Ext.refl _)<|Zq rfl (fun _ hS=>AQ rfl DX ((Bx.cs (k7.ext (hS.resolve_left nofun))).at 0 rfl)) (Ext.refl _)<|CR rfl<|qL (k:=s) (v:=n) rfl rfl rfl Tryz.underlying197 dR hmf hkey fun w8 hch8 hm8=>nl ⟨fun h=>(h (by decide)).elim,?_⟩;have k8:=k7.chg hch8 hn7;refine Zr<|Zv (AQ rfl DX ((Bx.cs k8).at 0 rfl))<|Za<|nl<|?_;have M:Mks w0.heap.size ({target:=.collected D',args:=#[]}::[]) w8:=by
    have h1:Mks w0.heap.size ({target:=.collected D',args:=#[]}::[]) W:=Mks.cons (w:=w6) Mks.nil Mks.nil (by omega) hD hK;exact(h1.ext hxf).chg hch8 hmf.nd
   refine wp_ret<|TK rfl M fun w' hk=>⟨_,.tmp rfl rfl .nil,rfl,hm8.tak hk,?_⟩;exact((((BelP.of k6 (Nat.le_refl _)).trans (i3.weak fun q h1 h2=>⟨by omega,h2,by omega⟩)).ext hxf (by omega)).chg hch8 (.inr fun h=>h rfl)).tak hk (Nat.le_refl _)
theorem jQ{x:Bl}{m:Nat}{w0:World}{b ma mu N:Nat}{A:EN}{r:Int×EN}(hT:Tb N w0 b ma mu x)(hm:Mp w0 ma A)(hF:DL x m A (0,-1)=some r):
  Calls Tryz.prog 117 [.pointer (some ⟨b,0,none⟩)].toArray w0 (A8 fun v w'=>v=.int .i64 r.1/\Mp w' ma r.2/\BelP (fun q=>q≠ma) w0.heap.size w0 w'):=by
 refine A9 (n:=6) Tryz.func117 rfl rfl rfl<|Zr<|Za<|nl<|Zr<|Zm<|Zv (JL (r:=[.int .i64 0,.int .i64 (-1)]) D6 SX (pc rfl pn) rfl)<|Zc (xc WX (mc rfl<|mc rfl mn)) (jP m hT hm hF) ?_;rintro _ w1⟨rfl,h1,h2⟩;refine Za<|nl<|wp_ret<|Zw rfl rfl rfl ⟨rfl,h1,h2⟩
def JI(own step:Int):Nat->Nat->List BD
 |0,_=>[]
 |n+1,k=>if(!decide (band .i64 (k:Int) own=0))=true then((k:Int),step)::JI own step n (k+1)else JI own step n (k+1)
def MR(x:Bl)(step:Int):Option (List BD):=
 (ix x.2.1 step)>>=fun st=>(shl .i64 1 st.1)>>=fun own=>(shl .i64 1 (x.1.1.length:Int))>>=fun top=>
 if decide (0<=top/\top<=1000000)=true then some (JI own step top.toNat 0)else none
set_option maxHeartbeats 8000000 in
theorem jR{m:Nat}{w:World}{bt b3 b ma mu N:Nat}{ok:Nat->Prop}{x:Bl}{step:Int}{l:List BD}(ht:Bx w bt 177 [.pointer (some ⟨b,0,none⟩)])(h3:Bx w b3 3 [.int .i64 step])
  (n1:ok bt) (n2:ok b3) (hT:Tb N w b ma mu x) (hok:∀q,q<N->q≠ma->q≠mu->ok q) (hL:MR x step=some l):
  KC Tryz.prog (BelP ok w.heap.size) m 308 #[.pointer (some ⟨bt,0,none⟩),.pointer (some ⟨b3,0,none⟩)] (l.map fun u=>#[fv u]) w:=by
 intro ll J Jx W kW hJ hJx hY h0;have KW:BelP ok w.heap.size w W:=BelP.of kW (Nat.le_refl _);have TW:=hT.ext kW;have dtW:=ht.ext kW;have d3W:=h3.ext kW;refine(callsIn_wide.2 ?_:CallsIn Fence.wide m Tryz.prog 308 ([.func (.yield ll) #[] #[],.pointer (some ⟨bt,0,none⟩),.pointer (some ⟨b3,0,none⟩)].toArray) W _);refine Calls.mono (R:=A8 fun v W'=>J (l.map fun u=>#[fv u]).length W'\/Jx W') ?_ ?_
 rotate_left
 ·rintro e W'⟨v,rfl,h⟩
  exact⟨⟨v,rfl⟩,h⟩
 unfold MR at hL;refine bS hL fun st Es hL=>bS hL fun own Eo hL=>bS hL fun top Et hL=>?_;have hz:=tu hL;obtain⟨htop,hL⟩:=hz;cases hL;have htop:0<=top/\top<=1000000:=by simpa using htop
 refine A9 (n:=38) Tryz.func308 rfl rfl rfl<|wp_seq<|Gq [] (.pure false 0 (.pure true 1 (.pure true 2 (.pure false 3 (.pure false 4 (.pure true 5 (.pure true 6 (.pure false 7 (.pure true 8 (.pure true 9 .fin)))))))))) mixed (by kernel_rfl) (fun wd hxd=>?_);have dt:=dtW.ext hxd;have d3:=d3W.ext hxd;have Td:=TW.ext hxd;have hz:=Td.steps;obtain⟨a1,c1,h4,hs4⟩:=hz;have hz:=(RVo.sl.1 hs4);obtain⟨a1',c1',e3,_,hcap,els⟩:=hz;cases e3;have hz:=Els.ix els Es;obtain⟨b5,off5,cs5,rfl,i1,i2,q5,hc5⟩:=hz;obtain rfl:=Flat.iff.1 q5;have hz:=Td.pieces;obtain⟨a6,c6,h6,hs6⟩:=hz;refine Zq rfl (fun _ hS=>AQ rfl EI ((Bx.cs (dt.ext (hS.resolve_left nofun))).at 0 rfl)) (Ext.refl _)<|Zp rfl (fun _=>Cv rfl)<|Zp rfl (fun _=>AV rfl F8)<|Zq rfl (fun _ hS=>AQ rfl Km (I8 h4 (hS.resolve_left nofun))) (Ext.refl _)<|Zq rfl (fun _ hS=>AQ rfl AY ((Bx.cs (d3.ext (hS.resolve_left nofun))).at 0 rfl)) (Ext.refl _)<|Zp rfl (fun _=>BG rfl rfl Tryz.underlying51 BK i1 i2)<|Zp rfl (fun _=>AV rfl EX)<|Zq rfl (fun _ hS=>AQ rfl AY ((hc5.ext (hS.resolve_left nofun)).at 0 rfl)) (Ext.refl _)<|Zp rfl (fun _=>Wm rfl rfl Eo)<|Zp rfl (fun _=>Ij)<|Zr<|Zv (AQ rfl EI ((Bx.cs dt).at 0 rfl))<|Zv (Cv rfl)<|Zv (AV rfl JC)<|Zv (AV rfl Dy)<|Zv (AQ rfl F6 h6)<|Zv (BV rfl Tryz.underlying46)<|Zv (Wm rfl rfl Et)<|Zm<|nl<|?_;have hjd:J 0 wd:=hJ 0 _ _ h0 hxd;have Kd:BelP ok w.heap.size w wd:=BelP.of (kW.tr hxd) (Nat.le_refl _);refine wp_block<|lp (I:=fun m' L w1=>∃(k:Nat)(pre:List BD),k+m'=top.toNat/\JI own step top.toNat 0=pre++JI own step m' k/\L 22=.int .i64 (k:Int)/\L 21=.int .i64 top/\L 4=.int .i64 own/\L 0=.func (.yield ll) #[] #[]/\L 1=.pointer (some ⟨bt,0,none⟩)/\L 2=.pointer (some ⟨b3,0,none⟩)/\J pre.length w1/\BelP ok w.heap.size w w1) top.toNat
  ⟨0,[],by simp,rfl,rfl,rfl,rfl,rfl,rfl,rfl,hjd,Kd⟩ ?_
 rintro m' L w1⟨k,pre,hk,hl,l22,l21,l4,l0,l1,l2,hj,hx⟩;refine Zr<|Zv (BU l22 l21)<|nl<|wp_seq<|cnd rfl (fun hc0=>?_) (fun hc0=>?_)
 ·have hc0:(k:Int)<top:=by simpa using hc0
  obtain⟨n,rfl⟩:∃n,m'=n+1:=⟨m'-1,by omega⟩;rw[JI]at hl;have hadd:Aa ((k:Int)+1)=((k+1:Nat):Int):=by
   rw[Aa,IntWalk.i64_in _ (by omega)]
   rfl
  have d31:=h3.belp hx h3.lt n2;refine wp_skip<|wp_seq<|wp_block<|Zr<|Zv (BM l22)<|Za<|nl<|wp_seq<|oK (m:=m)<|FZ rfl rfl nofun ET<|FZ rfl rfl nofun (BM l4)<|FZ rfl rfl nofun (iC rfl rfl)<|FZ rfl rfl nofun (FT rfl rfl)<|FZ rfl rfl nofun ET<|Or.elim (Bool.eq_false_or_eq_true (!decide (band .i64 (k:Int) own=0))) (fun hg=>?_) (fun hg=>?_)
  ·rw[if_pos hg]at hl
   have hus:((JI own step top.toNat 0).map fun u=>(#[fv u]:Array Value))[pre.length]?=some #[fv (((k:Int),step):BD)]:=by
    rw[List.getElem?_map,hl,List.getElem?_append_right (Nat.le_refl _),Nat.sub_self]
    rfl
   have hz:=hY pre.length _ w1 hus hj;obtain⟨fn,tmps,assign,body,hy,hR⟩:=hz;refine LK rfl rfl rfl rfl rfl (Md.bt hg)<|FZ rfl rfl nofun (BM l0)<|LK rfl rfl rfl rfl rfl (Md.bt hg)<|FZ rfl rfl nofun ET<|LK rfl rfl rfl rfl rfl (Md.bt hg)<|FZ rfl rfl nofun (AQ l2 AY ((Bx.cs d31).at 0 rfl))<|LK rfl rfl rfl rfl rfl (Md.bt hg)<|FZ rfl rfl nofun (JL (r:=[.int .i64 (k:Int),.int .i64 step]) D6 SX (pc rfl (pc rfl pn)) rfl)<|LK rfl rfl rfl rfl rfl (Md.bt hg)<|oL rfl rfl nofun (dM rfl (mc rfl mn) hy) hR fun e w5 he=>?_;rcases he with⟨rfl,hj5,k5⟩|⟨rfl,hj5⟩
   ·refine⟨_,rfl,LK rfl rfl rfl rfl rfl (Md.bt hg)<|FZ rfl rfl nofun (EK rfl)<|FZ rfl rfl nofun (DU rfl hg rfl)<|TD<|cnd rfl (fun h=>by cases h) (fun _=>?_)⟩
    refine wp_skip<|rg<|Zv (Bg l22 rfl)<|Zm<|nl<|lq n (Nat.lt_succ_self _) ⟨k+1,pre++[((k:Int),step)],by omega,by rw[hl,List.append_assoc];rfl,congrArg _ hadd,l21,l4,l0,l1,l2,?_,hx.trans k5⟩;rw[List.length_append];exact hj5
   ·refine⟨_,rfl,LK rfl rfl rfl rfl rfl (Md.bt hg)<|FZ rfl rfl nofun (EK rfl)<|FZ rfl rfl nofun (DU rfl hg rfl)<|TD<|cnd rfl (fun _=>?_) (fun h=>by cases h)⟩
    exact wp_ret<|rt rfl .nil (.inr hj5)
  ·rw[if_neg (by rw[hg];simp)]at hl
   refine KY rfl rfl rfl rfl rfl (AZ hg) rfl<|KY rfl rfl rfl rfl rfl (AZ hg) rfl<|KY rfl rfl rfl rfl rfl (AZ hg) rfl<|KY rfl rfl rfl rfl rfl (AZ hg) rfl<|KY rfl rfl rfl rfl rfl (AZ hg) rfl<|KY rfl rfl rfl rfl rfl (AZ hg) rfl<|FZ rfl rfl nofun (EW rfl hg rfl)<|TD<|cnd rfl (fun h=>by cases h) (fun _=>?_);refine wp_skip<|rg<|Zv (Bg l22 rfl)<|Zm<|nl<|lq n (Nat.lt_succ_self _) ⟨k+1,pre,by omega,hl,congrArg _ hadd,l21,l4,l0,l1,l2,hj,hx⟩
 ·have hc0:¬(k:Int)<top:=by simpa using hc0
  obtain rfl:m'=0:=by omega
  rw[JI]at hl;refine wp_exit<|gU rfl .nil (.inl ?_);rw[List.length_map,hl,List.append_nil];exact hj
def StV(lo:Nat)(w:World)(v:Value)(step:Int)(b:Nat):Prop:=∃bt b3,v=.func (.func 308) #[] #[.pointer (some ⟨bt,0,none⟩),.pointer (some ⟨b3,0,none⟩)]/\
 Bx w bt 177 [.pointer (some ⟨b,0,none⟩)]/\Bx w b3 3 [.int .i64 step]/\lo<=bt/\lo<=b3
theorem StV.go{lo:Nat}{w:World}{v:Value}{step:Int}{b ma mu N:Nat}{ok:Nat->Prop}{x:Bl}{l:List BD}(h:StV lo w v step b)(hT:Tb N w b ma mu x)(hok:∀q,q<N->q≠ma->q≠mu->ok q)(hlo:∀q,lo<=q->ok q)(hL:MR x step=some l)(m:Nat):
  ∃gf cs,v=.func (.func gf) #[] cs/\AR Tryz.prog gf/\KC Tryz.prog (BelP ok w.heap.size) m gf cs (l.map fun u=>#[fv u]) w:=by
 obtain⟨bt,b3,rfl,h2,h3,h5,h6⟩:=h;exact⟨308,_,rfl,mG,jR h2 h3 (hlo _ h5) (hlo _ h6) hT hok hL⟩
def KH(x:Bl)(m:Nat):List BD->Int->EN->Option (Option BD×Int×EN)
 |[],n,A=>some (none,n,A)
 |u::l,n,A=>(DL x m A u)>>=fun q=>if decide (n<q.1)=true then some (some u,n,q.2)else KH x m l (Aa (n-q.1)) q.2
def JY(x:Bl)(m:Nat):Nat->BD->Int->List Aj->EN->Option (List Aj×EN)
 |0,_,_,out,A=>some (out,A)
 |k+1,now,n,out,A=>
  (Gg x now)>>=fun l=>(KH x m l n A)>>=fun q=>
  (ix x.2.1 (q.1.getD now).2)>>=fun st=>(app 16 out ([st]:List Aj))>>=fun o=>JY x m k (q.1.getD now) q.2.1 o q.2.2
def Nh(x:Bl)(m:Nat)(A:EN)(n:Int):Option (List Aj×EN):=
 (JY x m x.1.1.length (0,-1) n [] A)>>=fun r=>(mks 16 (r.1.length:Int) ((0,false):Aj))>>=fun z=>some (KO z r.1,r.2)
theorem Els.okb{α:Type}[Enc α]{ok:Nat->Prop}{w:World}{b off:Nat}{l:List α}{i:Int}{y:α}(h:Els α ok w (some ⟨b,off,none⟩) l)(hi:ix l i=some y):ok b:=by
 rcases h with rfl|⟨b',o',e,h1,_⟩
 ·have:=(Dt hi).2.1
  have:=(Dt hi).1;simp at*
  omega
 ·cases e
  exact h1
set_option maxHeartbeats 16000000 in
theorem rJ{x:Bl}{m:Nat}{w0:World}{b ma mu N:Nat}{A:EN}{num:Int}{r:List Aj×EN}(hT0:Tb N w0 b ma mu x)(ha0:Mp w0 ma A)(hF:Nh x m A num=some r):
  Calls Tryz.prog 119 [.pointer (some ⟨b,0,none⟩),.int .i64 num].toArray w0 (A8 fun v w'=>Row 56 w0.heap.size w' v r.1/\Mp w' ma r.2/\BelP (fun q=>q≠ma) w0.heap.size w0 w'):=by
 unfold Nh at hF;refine bS hF fun r1 Er hF=>bS hF fun z Ez hF=>?_;cases hF;refine Wj (m:=9) (n:=55) Tryz.func119 rfl rfl rfl<|Zr<|CO rfl rfl fun bt w1 hx1 hg1 hb1=>CO rfl rfl fun b3 w2 hx2 hg2 hb2=>?_;have k2:=hx1.tr hx2;have l1:=hb1.lt;have hb1:=hb1.ext hx2;refine Za<|nl<|Zr<|Za<|nl<|Zr<|Zv (JL (r:=[.int .i64 0,.int .i64 (-1)]) D6 SX (pc rfl pn) rfl)<|D9 D6 fun b6 w3 hx3 hg3 hb3=>DC rfl rfl rfl D6 hb3 rfl rfl (ble rfl) fun w4 hch4 hb4=>?_;have kx4:Ext w2 w4:=hx3.chg hch4 hg3;have k4:=k2.tr kx4;have h6:Bx w4 b6 326 (Flat.enc ((0,-1):BD)):=hb4;have ht:=hb1.ext kx4;have h3:=hb2.ext kx4;have T4:=hT0.ext k4;have ha4:=ha0.ext k4;have l2:=hb2.lt;have l6:=h6.lt;have lt:=ht.lt;have l3:=h3.lt;have z1:=hx1.size;have z2:=k2.size;have z4:=k4.size;have la:=ha0.lt;have na6:b6≠ma:=fun e=>(ha4.not_cells h6) e.symm;have nat:bt≠ma:=fun e=>(ha4.not_cells ht) e.symm;have na3:b3≠ma:=fun e=>(ha4.not_cells h3) e.symm;have n36:b3≠b6:=by omega
 have V9:bt≠b3:=by omega
 have nt6:bt≠b6:=by omega
 generalize hbase:w4.heap.size=base at l6 lt l3;have hNs:=hT0.size;have hNb:N<=base:=by omega
 have hab:ma<base:=by omega
 have hw0:w0.heap.size<=base:=by omega
 have g3:w0.heap.size<=b3:=by omega
 have g6:w0.heap.size<=b6:=by omega
 have hz:=T4.pieces;obtain⟨a1,c1,h4,hs4⟩:=hz;have hlen:=(RVo.rv hs4).cap;refine nl<|wp_seq<|Zr<|Zv (AQ rfl EI ((Bx.cs ht).at 0 rfl))<|Zv (Cv rfl)<|Zv (AV rfl JC)<|Zv (AV rfl Dy)<|Zv (AQ rfl F6 h4)<|Zv (BV rfl Tryz.underlying46)<|Zm<|nl<|iD w0.heap.size (fun L w=>∃v,L 5=v/\Row 56 base w v r1.1/\Mp w ma r1.2/\BelP (fun q=>q≠ma) w0.heap.size w0 w) ?_ ?_
 ·refine wp_block<|uH w0.heap.size (I:=fun m' L w=>∃(k:Nat)(now:BD)(n:Int)(out:List Aj)(A':EN)(v:Value),k+m'=x.1.1.length/\JY x m m' now n out A'=some r1/\L 18=.int .i64 (k:Int)/\L 17=.int .i64 (x.1.1.length:Int)/\L 2=.pointer (some ⟨bt,0,none⟩)/\L 3=.pointer (some ⟨b3,0,none⟩)/\L 6=.pointer (some ⟨b6,0,none⟩)/\L 5=v/\
    Bx w bt 177 [.pointer (some ⟨b,0,none⟩)]/\Bx w b3 2 [.int .i64 n]/\Bx w b6 326 (Flat.enc now)/\Row 56 base w v out/\Mp w ma A'/\Tb N w b ma mu x/\BelP (fun q=>q≠ma) w0.heap.size w0 w/\base<=w.heap.size) x.1.1.length Mks.nil
   ⟨0,_,_,_,_,_,by simp,Er,rfl,rfl,rfl,rfl,rfl,rfl,ht,h3,h6,Row.nil,ha4,T4,BelP.of k4 (Nat.le_refl _),Nat.le_of_eq hbase.symm⟩ ?_
  clear Er ht h3 h6 ha4 T4 h4 hs4;rintro m' L D w hM⟨k,now,n,out,A',v,hk,hB,l18,l17,l2',l3',l6',l5,ht,h3,h6,ho,ha,T,hx,hbs⟩;refine Zr<|Zv (BU l18 l17)<|nl<|wp_seq<|cnd rfl (fun hc0=>?_) (fun hc0=>?_)
  ·have hc0:(k:Int)<(x.1.1.length:Int):=by simpa using hc0
   obtain⟨k',rfl⟩:∃k',m'=k'+1:=⟨m'-1,by omega⟩;rw[JY]at hB;refine bS hB fun l El hB=>bS hB fun q Eq hB=>bS hB fun st Est hB=>bS hB fun o Eo hB=>?_;have hadd:Aa ((k:Int)+1)=((k+1:Nat):Int):=by
    have hmx:x.1.1.length<=maxLen:=by omega
    rw[Aa,IntWalk.i64_in _ (by unfold maxLen at hmx;omega)]
    rfl
   refine wp_skip<|wp_seq<|wp_block<|wp_scope_straight<|Zr<|Zv (Ab l6' D6 (Flat.len now) (Bx.cs h6))<|D9 D6 fun b7 w5 hx5 hg5 hb5=>TM (u:=now) rfl rfl D6 rfl hb5 rfl fun w6 hch6 hb6=>?_;have kx6:Ext w w6:=hx5.chg hch6 hg5;have ht6:=ht.ext kx6;have h36:=h3.ext kx6;have h66:=h6.ext kx6;have hv6:=ho.lt;have lw:=ho.own_lt;have l7:=hb6.lt;have zx:=kx6.size;have nb7:base<=b7:=by omega
   refine nl<|wp_seq<|wp_label<|wp_seq<|iD w0.heap.size (fun L w'=>L 2=.pointer (some ⟨bt,0,none⟩)/\L 3=.pointer (some ⟨b3,0,none⟩)/\L 5=v/\L 6=.pointer (some ⟨b6,0,none⟩)/\L 7=.pointer (some ⟨b7,0,none⟩)/\L 17=.int .i64 (x.1.1.length:Int)/\L 18=.int .i64 (k:Int)/\
    Bx w' b7 326 (Flat.enc (q.1.getD now))/\Bx w' b3 2 [.int .i64 q.2.1]/\Mp w' ma q.2.2/\BelP (fun q=>q≠ma/\q≠b3/\q≠b7) w6.heap.size w6 w') ?_ ?_
   ·refine Zr<|Zv (AQ l2' EI ((Bx.cs ht6).at 0 rfl))<|Zv (Ab l6' D6 (Flat.len now) (Bx.cs h66))<|Zc (xc dG (mc rfl<|mc rfl mn)) (jO (b:=b) (s:=now)) fun v7 w7 hv=>?_
    obtain⟨hbh,hx7⟩:=hv;have ht7:=ht6.ext hx7;have h37:=h36.ext hx7;have h77:=hb6.ext hx7;have ha7:=(ha.ext kx6).ext hx7;have T7:=(T.ext kx6).ext hx7;have z7:=hx7.size;have hM7:=(hM.ext kx6).ext hx7;have hla7:ma<w7.heap.size:=by omega
    have hseq:=hbh.go (N:=N) (ok:=fun q=>q≠ma/\q≠b3/\q≠b7) T7 (fun q h1 h2 h3=>⟨h2,by omega,by omega⟩) (fun q h1=>⟨by omega,by omega,by omega⟩) El 8;refine nl<|wp_block<|rangeB (α:=BD) (xs:=l) (m:=9) (by decide) rfl KpOk.belp hseq rfl rfl rfl D6 rfl
     (fun k W=>∃(n':Int)(A1:EN),KH x m (l.drop k) n' A1=some q/\Bx W b3 2 [.int .i64 n']/\Bx W b7 326 (Flat.enc now)/\Mp W ma A1/\BelP (fun q=>q≠ma/\q≠b3/\q≠b7) w7.heap.size w7 W/\w7.heap.size<=W.heap.size/\Mks w0.heap.size D W)
     (fun c W=>c=.exit 2/\∃u,q.1=some u/\Bx W b3 2 [.int .i64 q.2.1]/\Bx W b7 326 (Flat.enc u)/\Mp W ma q.2.2/\BelP (fun q=>q≠ma/\q≠b3/\q≠b7) w7.heap.size w7 W/\Mks w0.heap.size D W)
     (fun k=>Okb.ex fun _=>Okb.ex fun _=>Okb.pure.and (Okb.bx.and (Okb.bx.and ((Okb.mp hla7).and ((Okb.belp (Nat.le_refl _) (Nat.le_refl _)).and (Okb.size.and (Okb.mks hM7 rfl)))))))
     (fun c=>Okb.pure.and (Okb.ex fun _=>Okb.pure.and (Okb.bx.and (Okb.bx.and ((Okb.mp hla7).and ((Okb.belp (Nat.le_refl _) (Nat.le_refl _)).and (Okb.mks hM7 rfl)))))))
     ⟨n,A',Eq,h37,h77,ha7,BelP.refl,Nat.le_refl _,hM7⟩ ?round (fun k W h=>by obtain⟨_,_,_,_,_,_,_,h,_⟩:=h;exact h) ?done ?stop
    case round=>
     rintro ll k1 u A1 W b8 hu⟨n',A2,hB2,i1,i2,i3,i4,i5,i6⟩ hA hg8 hg8' hb8;rw[Q0 hu,KH]at hB2;refine bS hB2 fun p Ep hB2=>?_;have i1:=i1.asg hA;have i2:=i2.asg hA;have i3:=i3.asg hA hla7;have i4:=i4.asg hA i5 (Nat.le_refl _);have i6:=i6.asg hA;have hW:w7.heap.size<=W.heap.size:=i4.size;have jt:=ht7.belp i4 ht7.lt ⟨nat,V9,by omega⟩;have Tg:=T7.belp i4 T7.size (fun q h1 h2 h3=>⟨h2,by omega,by omega⟩);have na8:b8≠ma:=by omega
     have na7:b7≠ma:=by omega
     have n38:b3≠b7:=by omega
     refine wpIn_block<|wpIn_seq<|Mr rfl<|Zv (AQ l2' EI ((Bx.cs jt).at 0 rfl))<|Zv (Ab rfl D6 (Flat.len u) (Bx.cs hb8))<|Zc (xc WX (mc rfl<|mc rfl mn)) (jP m Tg i3 Ep) ?_;rintro _ w8⟨rfl,hm8,hp8⟩;have hs8:=hp8.size;have j3:=i1.belp hp8 i1.lt na3;have j7:=i2.belp hp8 i2.lt na7;have j8:=hb8.belp hp8 hb8.lt na8;have p8:BelP (fun q=>q≠ma/\q≠b3/\q≠b7) w7.heap.size W w8:=hp8.weak fun q h1 h2=>⟨by omega,h2.1⟩;have kf8:KeepsFrom w7.heap.size W w8:=hp8.kf fun q h1=>by omega
     have m8:Mks w0.heap.size D w8:=i6.belp hp8 (fun q h1=>by omega);refine Za<|nl<|wpIn_seq<|wpIn_seq<|Mr rfl<|Zv (AQ l3' DX ((Bx.cs j3).at 0 rfl))<|Zm<|Zv (BU rfl rfl)<|nl<|Wi rfl (fun hf=>?_) (fun hf=>?_)
     ·have hB2:=Ah hB2 hf
      cases hB2;refine wpIn_seq<|Mr rfl<|Zv (Ab rfl D6 (Flat.len u) (Bx.cs j8))<|TM (u:=u) rfl rfl D6 rfl j7 (Flat.len now) fun w9 hch9 hb9=>nl<|wpIn_exit ⟨kf8.chgc hch9 (.inl (by omega)),rfl,u,rfl,j3.chg hch9 n38,hb9,hm8.chgb hch9 j7,(i4.trans p8).chg hch9 (.inr fun h=>h.2.2 rfl),m8.chg hch9 j7.nd⟩
     ·have hB2:=Ai hB2 hf
      refine wpIn_skip<|Mr rfl<|Zv (AQ l3' DX ((Bx.cs j3).at 0 rfl))<|Zm<|Zv (F5 rfl rfl)<|DC l3' rfl rfl DX j3 rfl rfl (ble rfl) fun w9 hch9 hb9=>nl ⟨kf8.chgc hch9 (.inl (by omega)),p8.chg hch9 (.inr fun h=>h.2.1 rfl),_,p.2,hB2,hb9,j7.chg hch9 (Ne.symm n38),hm8.chgb hch9 j3,(i4.trans p8).chg hch9 (.inr fun h=>h.2.1 rfl),?_,m8.chg hch9 j3.nd⟩;rw[hch9.size];omega
    case done=>
     rintro D' W hD⟨n',A2,hB2,i1,i2,i3,i4,i5,i6⟩ hK;rw[List.drop_length,KH]at hB2;cases hB2;exact YK (Mks.cons hM7 i6 (by omega) hD hK) ⟨l2',l3',l5,l6',rfl,l17,l18,i2,i1,i3,(BelP.of hx7 (Nat.le_refl _)).trans (i4.mono z7)⟩
    case stop=>
     rintro D' c W hD⟨rfl,u,hu,i1,i2,i3,i4,i6⟩ hK;refine wp_exit<|YK (Mks.cons hM7 i6 (by omega) hD hK) ⟨l2',l3',l5,l6',rfl,l17,l18,?_,i1,i3,(BelP.of hx7 (Nat.le_refl _)).trans (i4.mono z7)⟩;rw[hu];exact i2
   rintro L D w8 hM8⟨l2',l3',l5,l6',l7',l17,l18,h7,h3',hm8,hp8⟩;generalize hnx:q.1.getD now=nx at Est hB h7;have o6:=ho.ext kx6;have o8:=o6.belp hp8 (fun q hq=>⟨o6.own_lt q hq,by have:=hv6 q hq;omega,by have:=hv6 q hq;omega,by have:=hv6 q hq;omega⟩);have ht8:=ht6.belp hp8 ht6.lt ⟨nat,V9,by omega⟩;have h68:=h66.belp hp8 h66.lt ⟨na6,Ne.symm n36,by omega⟩;have T8:=(T.ext kx6).belp hp8 (T.ext kx6).size (fun q h1 h2 h3=>⟨h2,by omega,by omega⟩);have hs8:=hp8.size;refine Zr<|Zv (Ab l7' D6 (Flat.len nx) (Bx.cs h7))<|TM (u:=nx) l6' rfl D6 rfl h68 (Flat.len now) fun w9 hch9 hb9=>nl<|?_;have o9:=o8.chg hch9 l6;have ht9:=ht8.chg hch9 nt6;have h39:=h3'.chg hch9 n36;have hm9:=hm8.chgb hch9 h68;have T9:=T8.belp (ok:=fun q=>q≠b6) (M:=w8.heap.size) (BelP.refl.chg hch9 (.inr fun h=>h rfl)) T8.size (fun q h1 h2 h3=>by omega);have hM9:=hM8.chg hch9 h68.nd;have hx9:BelP (fun q=>q≠ma) w0.heap.size w0 w9:=(((hx.ext kx6 (by omega)).trans (hp8.weak fun q h1 h2=>⟨by omega,h2,by omega,by omega⟩))).chg hch9 (.inl g6);have hs9:w9.heap.size=w8.heap.size:=hch9.size;refine qP (B:=base) [] (.pure true 0 (.pure false 1 (.pure true 2 (.pure true 3 (.pure false 4 (.pure true 5 (.pure false 6 (.pure true 7 (.pure false 8 (.eff 9 (.eff 10 (.pure true 11 .fin) .stop) .stop)))))))))) mixed (by kernel_rfl) (fun wd hxd=>?_);have od:=o9.ext hxd;have td:=ht9.ext hxd;have d3:=h39.ext hxd;have d6:=hb9.ext hxd;have md:=hm9.ext hxd;have Td:=T9.ext hxd;have zd:=hxd.size;have hz:=Td.steps;obtain⟨a2,c2,h4,hs4⟩:=hz;have hz:=(RVo.sl.1 hs4);obtain⟨a2',c2',e3,_,_,els⟩:=hz;cases e3;have hz:=Els.ix els Est;obtain⟨b5,off5,cs5,rfl,i1,i2,q5,hc5⟩:=hz;obtain rfl:=Flat.iff.1 q5;have hb5:=(Els.okb els Est).1;have hbN:=Td.lb.1;refine Zp rfl (fun _=>BM l5)<|Zq rfl (fun _ hS=>AQ l2' EI ((Bx.cs (td.below (hS.resolve_left nofun) lt)).at 0 rfl)) (Below.refl _ _)<|Zp rfl (fun _=>Cv rfl)<|Zp rfl (fun _=>AV rfl F8)<|pv rfl rfl rfl (fun w' hS=>AQ rfl Km ((World.cell?_of_block (a:=⟨b,4,none⟩) ((hS.resolve_left nofun).block b (by show b<base;omega))).trans h4)) (.inr (Below.refl _ _))<|?_;refine Zp rfl (fun _=>AV l6' Mq)<|Zq rfl (fun _ hS=>AQ rfl AY ((Bx.cs (d6.below (hS.resolve_left nofun) l6)).at 1 rfl)) (Below.refl _ _)<|Zp rfl (fun _=>BG rfl rfl Tryz.underlying51 BK i1 i2)<|Zq rfl (fun _ hS=>Ab rfl BK (Flat.len st) (hc5.below (hS.resolve_left nofun) (by omega))) (Below.refl _ _)<|?_;refine CR rfl<|Gb (cs:=[.int .i64 st.1,.bool st.2]) Tryz.underlying51 BK rfl (pc rfl pn) rfl rfl rfl rfl rfl fun b9 wE hxE hgE hbE=>nl ⟨fun _ h=>h.trans (hxE.mono (by omega)),?_⟩;have oE:Row (α:=Aj) 56 wd.heap.size wE (.slice (some ⟨b9,0,none⟩) 1 1) [st]:=Row.lit hgE hbE rfl (ble rfl);have zE:=hxE.size;refine CR rfl<|MI (l:=out) (k:=([st]:List Aj)) rfl rfl Tryz.underlying51 BK rfl rfl (od.ext hxE) (RV.els oE.rv) Eo (by omega) fun vF wF oF hBF hgF hwF=>nl ⟨fun _ h=>h.trans hBF,?_⟩;refine Zp rfl (fun _=>Ij)<|rg<|Zv (Bg l18 rfl)<|Zm<|nl<|?_;have hMF:Mks w0.heap.size D wF:=((hM9.ext hxd).ext hxE).gr hgF (od.ext hxE).nd;have hsF:=hBF.size;have hxF:Below base w9 wF:=(hxd.mono (by omega)).trans ((hxE.mono (by omega)).trans hBF);refine uF k' (Nat.lt_succ_self _) hMF ⟨k+1,nx,q.2.1,o,q.2.2,vF,by omega,hB,congrArg _ hadd,l17,l2',l3',l6',rfl,ht9.below hxF lt,h39.below hxF l3,hb9.below hxF l6,oF,hm9.below hxF hab,?_,?_,by omega⟩
   ·exact T9.belp (ok:=fun _=>True) (M:=base) ⟨hxF.os,hxF.tape,hxF.output,hxF.size,fun q hq _=>hxF.block q hq⟩ hNb (fun _ _ _ _=>trivial)
   ·exact hx9.trans ⟨hxF.os,hxF.tape,hxF.output,hxF.size,fun q hq _=>hxF.block q (by omega)⟩
  ·have hc0:¬(k:Int)<(x.1.1.length:Int):=by simpa using hc0
   obtain rfl:m'=0:=by omega
   rw[JY]at hB;cases hB;exact wp_exit<|YK hM ⟨v,l5,ho,ha,hx⟩
 rintro L D w5 hM⟨v,l5,ho,ha,hx⟩;have hz:=RV.sl ho.rv;obtain⟨a5,c5,rfl,-,-,-⟩:=hz;have z5:=hx.size;refine Zr<|Zv (BM l5)<|Zv (BV rfl Tryz.underlying51)<|Z4 (α:=Aj) (z0:=(0,false)) rfl rfl Tryz.underlying51 BK rfl rfl rfl Ez fun b10 w10 hx10 o10=>Za<|nl<|Zr<|Zm<|Zv (BM l5)<|iG (l:=z) (k:=r1.1) rfl rfl Tryz.underlying51 BK o10 (ho.ext hx10).rv fun w11 cq hch11 o11=>nl<|Zr<|Zm<|Za<|nl<|?_;have hge:=(o10.lt b10 rfl).1;have M:Mks w0.heap.size D w11:=(hM.ext hx10).chg hch11 (o10.nd b10 rfl);refine wp_ret<|TK rfl M fun w' hk=>⟨_,.tmp rfl rfl .nil,(o11.bnd z5).tak hk,((ha.ext hx10).chg hch11 (by omega)).tak hk,?_⟩;exact(((hx.ext hx10 z5)).chg hch11 (.inl (by omega))).tak hk (Nat.le_refl _)
end Go.Proofs.YtfmelbioccbdoaaGreat
end
section
namespace Go.Md
open Go Go.RowKit
section
section
variable {P:Program}{Q:Exit->Act->World->Prop}{m n:Nat}{L:Fr}{D:List Deferred}{w:World}
end
end
section
section
variable {κ ν:Type}[DecidableEq κ][Enc κ][Flat κ][Key κ][Enc ν][Flat ν]
def MpS(w:World)(b:Nat)(l:List (κ×ν)):Prop:=
 ∃es clock,w.heap[b]?=some (.map es clock)/\es.toList.map (fun e=>(e.key,e.val))=l.map (fun p=>(fv p.1,fv p.2))/\(l.map (·.1)).Nodup/\(∀p∈l,Key.ok p.1=true)/\
  (es.toList.map (·.born)).Nodup/\∀e∈es.toList,e.born<clock
variable {w w':World}{b:Nat}{l:List (κ×ν)}
omit [DecidableEq κ]in
theorem MpS.mp(h:MpS w b l):Mp w b l:=by
 obtain⟨es,c,h1,h2,h3,h4,_⟩:=h;exact⟨es,c,h1,h2,h3,h4⟩
omit [DecidableEq κ]in
theorem MpS.same(h:MpS w b l)(k:w'.heap[b]?=w.heap[b]?):MpS w' b l:=by
 obtain⟨es,c,h1,h⟩:=h;exact⟨es,c,k.trans h1,h⟩
omit [DecidableEq κ]in
theorem MpS.lt(h:MpS w b l):b<w.heap.size:=by
 obtain⟨es,c,h1,_⟩:=h;exact(Array.getElem?_eq_some_iff.1 h1).1
omit [DecidableEq κ]in
theorem MpS.ext(h:MpS w b l)(k:Ext w w'):MpS w' b l:=h.same (k.block b h.lt)
omit [DecidableEq κ]in
theorem MpS.chg{c:Nat}(h:MpS w b l)(k:Chg c w w')(hne:b≠c):MpS w' b l:=h.same (k.other b hne)
omit [DecidableEq κ]in
theorem MpS.belp{ok:Nat->Prop}{N:Nat}(h:MpS w b l)(k:BelP ok N w w')(hb:b<N)(h1:ok b):MpS w' b l:=h.same (k.block b hb h1)
omit [DecidableEq κ]in
theorem MpS.tak{B:Nat}(h:MpS w b l)(k:Tak B w w'):MpS w' b l:=by
 obtain⟨es,c,h1,h⟩:=h;exact⟨es,c,k.old _ _ h1 nofun,h⟩
omit [DecidableEq κ]in
theorem MpS.asg{B:Nat}(h:MpS w b l)(k:Asg B w w')(hb:b<B):MpS w' b l:=by
 obtain⟨W1,q,o,hl,h1,h2,h3,_,h4⟩:=k;exact(h.ext h1).chg h4 (by omega)
omit [DecidableEq κ]in
theorem Okb.mps{B:Nat}(hb:b<B):Okb B (fun w=>MpS w b l):=⟨fun h k=>h.ext k,fun h hB _ _ k=>h.chg k (by omega)⟩
omit [DecidableEq κ]in
theorem MpS.below{B:Nat}(h:MpS w b l)(k:Below B w w')(hB:b<B):MpS w' b l:=h.same (k.block b hB)
omit [DecidableEq κ]in
theorem MpS.new(w:World):MpS (κ:=κ) (ν:=ν) (w.alloc (.map #[] 0)) w.heap.size []:=
 ⟨#[],0,by show(w.heap.push _)[w.heap.size]?=_;rw[Array.getElem?_push,if_pos rfl],rfl,by simp,by simp,by simp,by simp⟩
end
section
variable {P:Program}{Q:Exit->Act->World->Prop}{n:Nat}{L:Fr}{D:List Deferred}{w:World}{ops:Array Oper}{rest:List Oper}
variable {ty:TypeId}{pos:String}{af:Array Edge}{x y z:Operand}{t tk te:TypeId}
variable {κ ν:Type}[DecidableEq κ][Enc κ][Flat κ][Key κ][Enc ν][Flat ν]
theorem nR{d:Nat}(cont:∀b w',Ext w w'->w.heap.size<=b->MpS (κ:=κ) (ν:=ν) w' b []->wpList P ops Q rest (act n (upd L d (.map (some b))) D) w'):
  wpList P ops Q ({dst:=some d,op:=.makeMap t none,type:=ty,pos:=pos,after:=af,guard:=none}::rest) (act n L D) w:=
 Zv (v:=.map (some w.heap.size)) (w':=w.alloc (.map #[] 0)) (by simp[execOp,RowKit.run_makeMap]) (cont _ _ (Ext.alloc _ _) (Nat.le_refl _) (MpS.new w))
end
end
end Go.Md
end
section
namespace Go.Proofs.YtfmelbioccbdoaaGreat
open Go Go.Md Go.RowKit
attribute [local irreducible] Go.wpList Go.Code.wp Go.Calls Go.Md.C9 Go.Md.Mt Go.Md.Dz Go.Md.CW Go.Code.wpIn Go.wpListIn
abbrev oQ:=List ((Int×Int)×Int)
end Go.Proofs.YtfmelbioccbdoaaGreat
end
section
namespace Go.Proofs.YtfmelbioccbdoaaGreat
open Go Go.Md Go.RowKit
attribute [local irreducible] Go.wpList Go.Code.wp Go.Calls Go.Md.C9 Go.Md.Mt Go.Md.Dz Go.Md.CW Go.Code.wpIn
theorem dw{w0:World}{v0:Value}{x0:Bq}(r0:RV w0 v0 x0){v1:Value}{x1:(List (Int×Bool))}(r1:RV w0 v1 x1){F:Nat}{r:((Ob (Bq×(List (Int×Bool))×(Ar 16 (Ar 16 Int))×Opq×Opq))×Int)}(hF:Fq F x0 x1=some r):
  Calls Tryz.prog 113 [v0,v1].toArray w0 (A8 fun v w'=>∃u0:Value,v=.tuple #[u0,.int .i64 r.2]/\RV w' u0 r.1/\(r.2=0->TbN w0.heap.size w' u0 r.1)/\Ext w0 w'):=by
 unfold Fq at hF;have hz:=id r0;obtain⟨_,rfl,_,_,rfl,⟨a1,cq1,rfl,p1,q3,e1⟩,_,_,rfl,rfl,_,_,rfl,rfl,rfl⟩:=hz;have r3:=RV.of1 p1 q3 e1;have hz:=r1.sl;obtain⟨a2,cq2,rfl,-,-,-⟩:=hz;refine A9 (n:=19) Tryz.func113 rfl rfl rfl<|Zr<|CO rfl rfl fun b3 w1 hx1 hg1 hb1=>?_;have r4:=r1.ext hx1;have r5:=r3.ext hx1;have r6:=r0.ext hx1;refine Za<|Za<|nl<|wp_seq<|Zr<|Zv (Ab rfl Gc rfl (Bx.cs hb1))<|bS hF fun x3 Ex3 hF=>Zc (xc dA (mc rfl mn)) (jG (show RV (α:=Bq) _ (.agg [.slice a1 x0.1.length cq1,.int .i64 x0.2.1,.int .i64 x0.2.2.1,.int .i64 x0.2.2.2].toArray) (x0.1,x0.2.1,(x0.2.2.1,x0.2.2.2))from⟨_,rfl,[.slice a1 x0.1.length cq1],[.int .i64 x0.2.1]++([.int .i64 x0.2.2.1]++[.int .i64 x0.2.2.2]),rfl,r5.rep1,[.int .i64 x0.2.1],[.int .i64 x0.2.2.1]++[.int .i64 x0.2.2.2],rfl,rfl,[.int .i64 x0.2.2.1],[.int .i64 x0.2.2.2],rfl,rfl,rfl⟩) Ex3) ?_;rintro _ w2⟨rfl,hx2⟩;have k1:=hx1.tr hx2;have hb2:=hb1.ext hx2;have r7:=r5.ext hx2;have r8:=r4.ext hx2;refine Za<|nl<|Zr<|Zm<|Zv (FT rfl rfl)<|nl<|cnd rfl (fun h3=>?_) (fun h3=>?_)
 ·have hF:=Ah hF h3;refine Zr<|Zm<|Za<|Za<|nl<|?_;cases hF;exact wp_ret<|rt rfl (.tmp rfl rfl (.tmp rfl rfl .nil)) ⟨_,rfl,Sc,(fun h=>by rw[show x3=0 from h]at h3;simp at h3),k1⟩
 ·have hF:=Ai hF h3;refine wp_skip<|Zr<|Zv (Ab rfl Gc rfl (Bx.cs hb2))<|bS hF fun x4 Ex4 hF=>Zc (xc dB (mc rfl mn)) (dm (show RV (α:=Bq) _ (.agg [.slice a1 x0.1.length cq1,.int .i64 x0.2.1,.int .i64 x0.2.2.1,.int .i64 x0.2.2.2].toArray) (x0.1,x0.2.1,(x0.2.2.1,x0.2.2.2))from⟨_,rfl,[.slice a1 x0.1.length cq1],[.int .i64 x0.2.1]++([.int .i64 x0.2.2.1]++[.int .i64 x0.2.2.2]),rfl,r7.rep1,[.int .i64 x0.2.1],[.int .i64 x0.2.2.1]++[.int .i64 x0.2.2.2],rfl,rfl,[.int .i64 x0.2.2.1],[.int .i64 x0.2.2.2],rfl,rfl,rfl⟩) Ex4) ?_;rintro _ w3⟨u1,rfl,r9,tN,hx3⟩;have k2:=k1.tr hx3;have r10:=r8.ext hx3;have hz:=WY r9;obtain⟨a3,rfl⟩:=hz;refine D9 EI fun b4 w4 hx4 hg2 hb3=>?_;have k3:=k2.tr hx4;have r11:=r10.ext hx4;have r12:=r9.ext hx4;refine DC rfl rfl rfl EI hb3 rfl rfl (ble rfl) fun w5 hch1 hb4=>?_;have k4:=Ext.chg k3 hch1 (Nat.le_trans k2.size hg2);have k5:=Ext.chg hx4 hch1 (Nat.le_trans (Nat.le_refl _) hg2);have r13:=r10.ext k5;have r14:=r9.ext k5;have hb5:Bx w5 b4 177 [.pointer a3]:=hb4;refine nl<|wp_seq<|Zr<|Zm<|Zv (Lj mn (mc rfl mn))<|bS hF fun x5 Ex5 hF=>Zc (xc dD (mc rfl (mc rfl mn))) (jJ r13 ⟨217,[],[.pointer (some ⟨b4,0,none⟩)],rfl,dF,fun w' u x b hk hu hp=>jL hu (Bx.cs (hb5.ext hk)) (P9 (r14.ext hk)) hp⟩ Ex5) ?_;rintro _ w6⟨rfl,hx5⟩;have k6:=k4.tr hx5;have k7:=k5.tr hx5;have hb6:=hb5.ext hx5;have r15:=r14.ext hx5;refine nl<|cnd rfl (fun h4=>?_) (fun h4=>?_)
  ·have hF:=Ah hF h4;refine Zr<|Za<|Za<|nl<|?_;cases hF;exact wp_ret<|rt rfl (.tmp rfl rfl (.tmp rfl rfl .nil)) ⟨_,rfl,Sc,(fun h=>absurd h (by decide)),k6⟩
  ·have hF:=Ai hF h4;refine wp_skip<|Zr<|Zv (AQ rfl EI ((Bx.cs hb6).at 0 rfl))<|Za<|Za<|nl<|?_;cases hF;exact wp_ret<|rt rfl (.tmp rfl rfl (.tmp rfl rfl .nil)) ⟨_,rfl,r15,(fun _=>((tN.ext k5).ext hx5).mono k1.size),k6⟩
end Go.Proofs.YtfmelbioccbdoaaGreat
end
section
namespace Go.Proofs.YtfmelbioccbdoaaGreat
open Go Go.Md Go.RowKit
attribute [local irreducible] Go.wpList Go.Code.wp Go.Calls Go.Md.C9 Go.Md.Mt Go.Md.Dz Go.Md.CW Go.Code.wpIn Go.wpListIn
theorem TbN.get{M:Nat}{w:World}{v:Value}{x:Ob Bl}(h:TbN M w v x):∃y b ma mu,x=⟨some y⟩/\v=.pointer (some ⟨b,0,none⟩)/\Tb w.heap.size w b ma mu y/\Mp (κ:=BD) (ν:=Int) w ma []/\Mp (κ:=BD) (ν:=Int) w mu []/\M<=ma/\M<=mu:=by
 obtain⟨y,b,ma,mu,rfl,hP⟩:=h;have h1:=hP.tb;obtain⟨_,_,_,_,_,_,_,h2,h3⟩:=hP;exact⟨y,b,ma,mu,rfl,h1.1,h1.2.1,h1.2.2.1,h1.2.2.2,h2,h3⟩
theorem BelP.extO{ok:Nat->Prop}{w0 w w':World}(h:Ext w0 w)(k:BelP ok w.heap.size w w')(hk:∀q,q<w0.heap.size->ok q):Ext w0 w':=h.trans (k.below h.size hk)
def Ic(F:Nat)(c:Aw):Option (Int×Int):=
 (Fq F c [])>>=fun o=>if(!decide (o.2=0))=true then some (0,o.2)else(o.1.v)>>=fun x=>(DL x F [] (0,-1))>>=fun r=>some (r.1,0)
def KJ(F:Nat)(c:Aw)(n:Int):Option (List Aj×Int):=
 (Fq F c [])>>=fun o=>if(!decide (o.2=0))=true then some ([],o.2)else
 (o.1.v)>>=fun x=>
 if decide (n<0)=true then some ([],3)else
 (DL x F [] (0,-1))>>=fun r=>if decide (r.1<=n)=true then some ([],3)else(Nh x F r.2 n)>>=fun q=>some (q.1,0)
theorem uQ{w0:World}{v0:Value}{x0:Aw}(r0:RV w0 v0 x0){F:Nat}{r:Int×Int}(hF:Ic F x0=some r):
  Calls Tryz.prog 36 [v0].toArray w0 (A8 fun v w'=>v=.tuple #[.int .i64 r.1,.int .i64 r.2]/\Ext w0 w'):=by
 unfold Ic at hF;refine bS hF fun o Eo hF=>?_;obtain⟨cs,rfl,hrep⟩:=r0;refine A9 (n:=16) Tryz.func36 rfl rfl rfl<|Zr<|CO rfl (Enc.cells hrep) fun b1 w1 hx1 hg1 hb1=>?_;have r1:RV w1 (.agg cs.toArray) x0:=RVo.ext ⟨cs,rfl,hrep⟩ hx1;refine Za<|Za<|nl<|Zr<|Zv (Ab rfl Gc (Enc.len hrep) (Bx.cs hb1))<|Zc (xc WU (mc rfl (mc rfl mn))) (dw r1 (RVo.nil (Nat.zero_le _)) Eo) ?_;rintro _ w2⟨u1,rfl,r7,tM,hx2⟩;have k2:=hx1.tr hx2;refine Zm<|Zv (FU (vs:=[u1,.int .i64 o.2]) rfl rfl)<|Zv (FU (vs:=[u1,.int .i64 o.2]) rfl rfl)<|Za<|Za<|nl<|wp_seq<|Zr<|Zm<|Zv (FT rfl rfl)<|nl<|cnd rfl (fun h3=>?_) (fun h3=>?_)
 ·have hF:=Ah hF h3
  cases hF;exact Zr<|Zm<|Za<|Za<|nl<|wp_ret<|rt rfl (.tmp rfl rfl (.tmp rfl rfl .nil)) ⟨rfl,k2⟩
 have hF:=Ai hF h3;have hz:=(tM (by simpa using h3)).get;obtain⟨y,b,ma,mu,e,rfl,hT,hma,hmu,ga,gu⟩:=hz;rw[e]at hF;have hz:=Md.bs hF;obtain⟨y',Ey,hF⟩:=hz;cases Ey;refine bS hF fun q Eq hF=>?_;cases hF;refine wp_skip<|Zr<|Zm<|Zc (xc bg (mc rfl mn)) (jQ hT hma Eq) ?_;rintro _ w3⟨rfl,hm3,hp3⟩;have s1:=hx1.size;exact Za<|Za<|nl<|wp_ret<|rt rfl (.tmp rfl rfl (.tmp rfl rfl .nil)) ⟨rfl,BelP.extO k2 hp3 (fun q h=>by omega)⟩
theorem uR{w0:World}{v0:Value}{x0:Aw}(r0:RV w0 v0 x0){n:Int}{F:Nat}{r:List Aj×Int}(hF:KJ F x0 n=some r):
  Calls Tryz.prog 38 [v0,.int .i64 n].toArray w0 (A8 fun v w'=>∃u0:Value,v=.tuple #[u0,.int .i64 r.2]/\RV w' u0 r.1/\Ext w0 w'):=by
 unfold KJ at hF;refine bS hF fun o Eo hF=>?_;obtain⟨cs,rfl,hrep⟩:=r0;refine A9 (n:=27) Tryz.func38 rfl rfl rfl<|Zr<|CO rfl (Enc.cells hrep) fun b1 w1 hx1 hg1 hb1=>?_;have r1:RV w1 (.agg cs.toArray) x0:=RVo.ext ⟨cs,rfl,hrep⟩ hx1;refine Za<|Za<|nl<|Zr<|Zv (Ab rfl Gc (Enc.len hrep) (Bx.cs hb1))<|Zc (xc WU (mc rfl (mc rfl mn))) (dw r1 (RVo.nil (Nat.zero_le _)) Eo) ?_;rintro _ w2⟨u1,rfl,r7,tM,hx2⟩;have k2:=hx1.tr hx2;refine Zm<|Zv (FU (vs:=[u1,.int .i64 o.2]) rfl rfl)<|Zv (FU (vs:=[u1,.int .i64 o.2]) rfl rfl)<|Za<|Za<|nl<|wp_seq<|Zr<|Zm<|Zv (FT rfl rfl)<|nl<|cnd rfl (fun h3=>?_) (fun h3=>?_)
 ·have hF:=Ah hF h3
  cases hF;exact Zr<|Zm<|Za<|Za<|nl<|wp_ret<|rt rfl (.tmp rfl rfl (.tmp rfl rfl .nil)) ⟨_,rfl,RVo.nil (Nat.zero_le _),k2⟩
 have hF:=Ai hF h3;have hz:=(tM (by simpa using h3)).get;obtain⟨y,b,ma,mu,e,rfl,hT,hma,hmu,ga,gu⟩:=hz;rw[e]at hF;have hz:=Md.bs hF;obtain⟨y',Ey,hF⟩:=hz;cases Ey;have s1:=hx1.size;have s2:=hx2.size;refine wp_skip<|wp_seq<|Zr<|Zm<|Zv (BU rfl rfl)<|Zm<|Or.elim (Bool.eq_false_or_eq_true (decide (n<0))) (fun hg=>?_) (fun hg=>?_)
 ·have hF:=Ah hF hg
  cases hF;refine Gk rfl (CY hg)<|Gk rfl (CY hg)<|Gk rfl (CY hg)<|Gk rfl (CY hg)<|Zv (DU rfl hg rfl)<|nl<|cnd rfl (fun hf=>?_) (fun hf=>by cases hf);exact Zr<|Za<|Za<|nl<|wp_ret<|rt rfl (.tmp rfl rfl (.tmp rfl rfl .nil)) ⟨_,rfl,RVo.nil (Nat.zero_le _),k2⟩
 have hF:=Ai hF hg;refine bS hF fun q Eq hF=>Gt rfl (Md.bf hg)<|Zm<|Gt rfl (Md.bf hg)<|Zm<|Gt rfl (Md.bf hg)<|Zc (xc bg (mc rfl mn)) (jQ hT hma Eq) ?_;rintro _ w3⟨rfl,hm3,hp3⟩;have k3:=BelP.extO k2 hp3 (fun q h=>by omega);refine Gt rfl (Md.bf hg)<|Zv (Jz rfl rfl)<|Zv (EW rfl hg rfl)<|nl<|cnd rfl (fun hf=>?_) (fun hf=>?_)
 ·have hF:=Ah hF hf
  cases hF;exact Zr<|Za<|Za<|nl<|wp_ret<|rt rfl (.tmp rfl rfl (.tmp rfl rfl .nil)) ⟨_,rfl,RVo.nil (Nat.zero_le _),k3⟩
 have hF:=Ai hF hf;refine bS hF fun p Ep hF=>?_;cases hF;have hT3:=hT.belp hp3 (Nat.le_refl _) (fun q h1 h2 h3=>h2);refine wp_skip<|Zr<|Zm<|Zm<|Zc (xc lF (mc rfl (mc rfl mn))) (rJ hT3 hm3 Ep) ?_;rintro u w4⟨ho4,hm4,hp4⟩;have s3:=hp3.size;exact Za<|Za<|nl<|wp_ret<|rt rfl (.tmp rfl rfl (.tmp rfl rfl .nil)) ⟨_,rfl,ho4.rv,BelP.extO k3 hp4 (fun q h=>by omega)⟩

end Go.Proofs.YtfmelbioccbdoaaGreat
end
section
namespace Go.Md
open Go Go.RowKit
section
section
variable {κ ν:Type}[DecidableEq κ][Enc κ][Flat κ][Key κ][Enc ν][Flat ν]
def Rg(w:World)(r b:Nat)(l:List (κ×ν))(lf:κ->Bool):Prop:=
 ∃es clock seen,w.heap[r]?=some (.mapIter (some b) clock seen clock)/\w.heap[b]?=some (.map es clock)/\es.toList.map (fun e=>(e.key,e.val))=l.map (fun p=>(fv p.1,fv p.2))/\(l.map (·.1)).Nodup/\(∀p∈l,Key.ok p.1=true)/\
  (es.toList.map (·.born)).Nodup/\(∀e∈es.toList,e.born<clock)/\∀(i:Nat)(e:MapEntry)(p:κ×ν),es.toList[i]?=some e->l[i]?=some p->seen.contains e.born=!lf p.1
variable {w w':World}{r b:Nat}{l:List (κ×ν)}{lf:κ->Bool}
omit [DecidableEq κ]in
theorem Rg.mps(h:Rg w r b l lf):MpS w b l:=by
 obtain⟨es,c,s,_,h2,h3,h4,h5,h6,h7,_⟩:=h;exact⟨es,c,h2,h3,h4,h5,h6,h7⟩
omit [DecidableEq κ]in
theorem Rg.same(h:Rg w r b l lf)(k1:w'.heap[r]?=w.heap[r]?)(k2:w'.heap[b]?=w.heap[b]?):Rg w' r b l lf:=by
 obtain⟨es,c,s,h1,h2,h⟩:=h;exact⟨es,c,s,k1.trans h1,k2.trans h2,h⟩
omit [DecidableEq κ]in
theorem Rg.ltr(h:Rg w r b l lf):r<w.heap.size:=by
 obtain⟨es,c,s,h1,_⟩:=h;exact(Array.getElem?_eq_some_iff.1 h1).1
omit [DecidableEq κ]in
theorem Rg.ext(h:Rg w r b l lf)(k:Ext w w'):Rg w' r b l lf:=h.same (k.block r h.ltr) (k.block b h.mps.lt)
omit [DecidableEq κ]in
theorem Rg.chg{c:Nat}(h:Rg w r b l lf)(k:Chg c w w')(h1:r≠c)(h2:b≠c):Rg w' r b l lf:=h.same (k.other r h1) (k.other b h2)
omit [DecidableEq κ]in
theorem Rg.new(h:MpS w b l):Rg (w.alloc (.mapIter (some b) ((match w.heap[b]? with|some (.map _ c)=>c|_=>0)) #[] (match w.heap[b]? with|some (.map _ c)=>c|_=>0))) w.heap.size b l (fun _=>true):=by
 obtain⟨es,c,h1,h2,h3,h4,h5,h6⟩:=h;rw[h1];refine⟨es,c,#[],heap_alloc_new _ _,?_,h2,h3,h4,h5,h6,fun i e p _ _=>by simp⟩;rw[heap_alloc_old _ _ (Array.getElem?_eq_some_iff.1 h1).1];exact h1
theorem Rg.next{P:Program}{ty:TypeId}(h:Rg w r b l lf):
  ((∀p∈l,lf p.1=false)/\(Instr.next (.pointer (some ⟨r,0,none⟩)) false ty).run P w=.ok (.tuple #[.bool false]) w)\/
  ∃p w',p∈l/\lf p.1=true/\(Instr.next (.pointer (some ⟨r,0,none⟩)) false ty).run P w=.ok (.tuple #[.bool true,fv p.1,fv p.2]) w'/\BelP (fun q=>q≠r) w.heap.size w w'/\w'.heap.size=w.heap.size/\
   (Instr.entry (.pointer (some ⟨r,0,none⟩))).run P w'=.ok (.tuple #[fv p.1,fv p.2]) w'/\Rg w' r b l (fun k=>lf k&& !decide (k=p.1)):=by
 obtain⟨es,c,seen,h1,h2,h3,h4,h5,h6,h7,h8⟩:=h;have hlen:es.toList.length=l.length:=by have:=congrArg List.length h3;simpa using this
 have hrb:r≠b:=by rintro rfl;rw[h1]at h2;cases h2
 rcases run_next_at (P:=P) w ty r b c c seen es c h1 h2 h7 (Nat.le_refl _)with⟨g1,g2⟩|⟨e,he,w1,hw1,g2⟩
 ·refine .inl ⟨fun p hp=>?_,g2⟩
  obtain⟨i,hi,rfl⟩:=List.getElem_of_mem hp;have hi':i<es.toList.length:=by omega
  have:=h8 i es.toList[i] l[i] (List.getElem?_eq_getElem hi') (List.getElem?_eq_getElem hi);cases hlf:lf l[i].1 with
  |false=>rfl
  |true=>
   rw[hlf]at this;have hm:es.toList[i]∈(leftOf es seen).toList:=by
    unfold leftOf;simp only[Array.toList_filter,List.mem_filter];exact⟨List.getElem_mem _,by rw[this];rfl⟩
   have h0:(leftOf es seen).toList=[]:=by
    apply List.eq_nil_of_length_eq_zero;simpa using g1
   rw[h0]at hm;cases hm
 ·have hm:e∈es.toList/\seen.contains e.born=false:=by
   unfold leftOf at he;simp only[Array.toList_filter,List.mem_filter]at he;exact⟨he.1,by simpa using he.2⟩
  obtain⟨i,hi,rfl⟩:=List.getElem_of_mem hm.1;have hil:i<l.length:=by omega
  obtain⟨p,hp,e1,e2⟩:=Si h3 (List.getElem?_eq_getElem hi);have hlf:=h8 i _ p (List.getElem?_eq_getElem hi) hp;rw[hm.2]at hlf;have hlt:lf p.1=true:=by
   cases h:lf p.1 with
   |true=>rfl
   |false=>rw[h]at hlf;cases hlf
  have hr1:w1.heap[r]?=some (.mapIter (some b) c seen c):=by rcases hw1 with rfl|rfl<;>exact h1
  have hb1:w1.heap[b]?=some (.map es c):=by rcases hw1 with rfl|rfl<;>exact h2
  have hrl:r<w1.heap.size:=(Array.getElem?_eq_some_iff.1 hr1).1;have hset:(ChangeMaps.setBlock w1 r (.mapIter (some b) c (seen.push es.toList[i].born) c)).heap[r]?=some (.mapIter (some b) c (seen.push es.toList[i].born) c):=by
   simp[ChangeMaps.setBlock,hrl]
  have hoth:∀q,q≠r->(ChangeMaps.setBlock w1 r (.mapIter (some b) c (seen.push es.toList[i].born) c)).heap[q]?=w.heap[q]?:=fun q hq=>by
   have:(ChangeMaps.setBlock w1 r (.mapIter (some b) c (seen.push es.toList[i].born) c)).heap[q]?=w1.heap[q]?:=by
    simp only[ChangeMaps.setBlock];rw[Array.getElem?_setIfInBounds_ne (Ne.symm hq)]
   rw[this];rcases hw1 with rfl|rfl<;>rfl
  have hsz:(ChangeMaps.setBlock w1 r (.mapIter (some b) c (seen.push es.toList[i].born) c)).heap.size=w.heap.size:=by
   simp only[ChangeMaps.setBlock,Array.size_setIfInBounds];rcases hw1 with rfl|rfl<;>rfl
  refine .inr ⟨p,_,List.mem_of_getElem? hp,hlt,by rw[<-e1,<-e2];exact g2,⟨?_,?_,?_,by rw[hsz];exact Nat.le_refl _,fun q _ hq=>hoth q hq⟩,hsz,?_,?_⟩
  ·rcases hw1 with rfl|rfl<;>rfl
  ·rcases hw1 with rfl|rfl<;>rfl
  ·rcases hw1 with rfl|rfl<;>rfl
  ·rw[<-e1,<-e2]
   exact run_entry_at _ r b c seen es c _ hset ((hoth b (Ne.symm hrb)).trans h2) hm.1 h6
  ·refine⟨es,c,_,hset,(hoth b (Ne.symm hrb)).trans h2,h3,h4,h5,h6,h7,fun j e p2 he2 hp2=>?_⟩
   have hj:=h8 j e p2 he2 hp2;by_cases hij:j=i
   ·subst hij
    rw[List.getElem?_eq_getElem hi]at he2;cases he2;rw[hp]at hp2;cases hp2;simp
   ·have hne:e.born≠es.toList[i].born:=fun eb=>by
     have h9:=List.pairwise_iff_getElem.1 h6;have hjl:j<es.toList.length:=(List.getElem?_eq_some_iff.1 he2).1;have he3:es.toList[j]=e:=by rw[List.getElem?_eq_getElem hjl]at he2;exact Option.some.inj he2
     rcases Nat.lt_or_gt_of_ne hij with h|h
     ·have:=h9 j i (by simpa using hjl) (by simpa using hi) h
      simp only[List.getElem_map]at this;rw[he3]at this;exact this eb
     ·have:=h9 i j (by simpa using hi) (by simpa using hjl) h
      simp only[List.getElem_map]at this;rw[he3]at this;exact this eb.symm
    have hnk:p2.1≠p.1:=fun ek=>by
     have h9:=List.pairwise_iff_getElem.1 h4;have hjl:j<l.length:=(List.getElem?_eq_some_iff.1 hp2).1;have hp3:l[j]=p2:=by rw[List.getElem?_eq_getElem hjl]at hp2;exact Option.some.inj hp2
     have hp4:l[i]=p:=by rw[List.getElem?_eq_getElem hil]at hp;exact Option.some.inj hp
     rcases Nat.lt_or_gt_of_ne hij with h|h
     ·have:=h9 j i (by simpa using hjl) (by simpa using hil) h
      simp only[List.getElem_map]at this;rw[hp3,hp4]at this;exact this ek
     ·have:=h9 i j (by simpa using hil) (by simpa using hjl) h
      simp only[List.getElem_map]at this;rw[hp3,hp4]at this;exact this ek.symm
    have:(seen.push es.toList[i].born).contains e.born=seen.contains e.born:=by
     have hb1:(e.born==es.toList[i].born)=false:=by simpa using hne
     have hb2:(es.toList[i].born==e.born)=false:=by simpa using Ne.symm hne
     rw[Array.contains_push];simp only[hb1,hb2,Bool.or_false,Bool.false_or]
    rw[this,hj];simp[hnk]
theorem Rg.del{P:Program}{t tk te ty:TypeId}{k:κ}(ht:P.underlying t=some (.map tk te))(K:KT P tk κ)(h:Rg w r b l lf)(hk:Key.ok k=true):
  ∃w',(Builtin.delete_ #[t,tk] ty #[.map (some b),fv k]).run P w=.ok (.tuple #[]) w'/\Chg b w w'/\Rg w' r b (EA l k) lf:=by
 obtain⟨es,c,seen,h1,hb,he,hn,hok,hs,hc,h8⟩:=h;have hrb:r≠b:=by rintro rfl;rw[h1]at hb;cases hb
 obtain⟨lk,hlk⟩:=K.of k hk;have hok':∀p∈EA l k,Key.ok p.1=true:=fun p hp=>hok p (Pf hp);rcases Mp.find K he hok hk w with⟨g1,g2⟩|⟨j,u,g1,g2,e,g3,g4⟩
 ·obtain⟨h5,h6⟩:=K9 (w:=w) (o:=.map es c) hb
  refine⟨_,?_,h5,es,c,seen,(h5.other r hrb).trans h1,h6,?_⟩
  ·simp[Builtin.delete_,run_underlying ht,MapKept.run_getObj_map hb,K.kd.check w _ hlk,g1,MapKept.run_setObj_map _ hb,Result.andThen,ChangeMaps.setBlock]
  ·by_cases hl:l=[]
   ·subst hl
    exact⟨he,by simp[EA],by simp[EA],hs,hc,fun i e p _ hp=>by simp[EA]at hp⟩
   ·obtain⟨p,hp⟩:=List.exists_mem_of_ne_nil l hl
    have hm:EA l k=l:=(JD (d:=p.2) g2).2.2.2;rw[hm];exact⟨he,hn,hok,hs,hc,h8⟩
 ·obtain⟨h5,h6⟩:=K9 (w:=w) (o:=.map (es.eraseIdxIfInBounds j) c) hb
  have hjs:j<es.size:=(Array.getElem?_eq_some_iff.1 g3).1;have hsub:(es.eraseIdxIfInBounds j).toList=es.toList.eraseIdx j:=by
   unfold Array.eraseIdxIfInBounds;rw[dif_pos hjs];simp
  have hm:EA l k=l.eraseIdx j:=(J7 (d:=u) hn g2).2.2.2;refine⟨_,?_,h5,_,c,seen,(h5.other r hrb).trans h1,h6,?_,QA hn,hok',?_,?_,?_⟩
  ·simp[Builtin.delete_,run_underlying ht,MapKept.run_getObj_map hb,K.kd.check w _ hlk,g1,MapKept.run_setObj_map _ hb,Result.andThen,ChangeMaps.setBlock]
  ·rw[hm,hsub,ChangeMaps.map_eraseIdx,he,ChangeMaps.map_eraseIdx]
  ·rw[hsub,ChangeMaps.map_eraseIdx]
   exact hs.sublist (List.eraseIdx_sublist _ _)
  ·intro e he2
   rw[hsub]at he2;exact hc e (List.mem_of_mem_eraseIdx he2)
  ·intro i e p he2 hp2
   rw[hsub,List.getElem?_eraseIdx]at he2;rw[hm,List.getElem?_eraseIdx]at hp2;split at he2
   ·rename_i h;rw[if_pos h]at hp2;exact h8 i e p he2 hp2
   ·rename_i h;rw[if_neg h]at hp2;exact h8 (i+1) e p he2 hp2
theorem PZ{k:κ}:∀{l:List (κ×ν)},(l.map (·.1)).Nodup->EA l k=l.filter (fun p=>!decide (p.1=k))
 |[],_=>rfl
 |(a,c)::l,h=>by
  simp only[List.map_cons,List.nodup_cons]at h;by_cases e:a=k
  ·subst e
   have:l.filter (fun p=>!decide (p.1=a))=l:=List.filter_eq_self.2 fun p hp=>by
    have:p.1≠a:=fun e=>h.1 (List.mem_map.2 ⟨p,hp,e⟩);simp[this]
   simp[EA,this]
  ·simp[EA,e,PZ h.2]
end
section
variable {P:Program}{Q:Exit->Act->World->Prop}{n:Nat}{L:Fr}{D:List Deferred}{w:World}{ops:Array Oper}{rest:List Oper}
variable {ty:TypeId}{pos:String}{af:Array Edge}{x y:Operand}{t tk te:TypeId}
variable {κ ν:Type}[DecidableEq κ][Enc κ][Flat κ][Key κ][Enc ν][Flat ν]
omit [DecidableEq κ]in
theorem rM{d b:Nat}{l:List (κ×ν)}(hx:ev n L x=.map (some b))(ht:P.underlying t=some (.map tk te))(h:MpS w b l)
  (cont:∀r w',Ext w w'->w.heap.size<=r->Rg w' r b l (fun _=>true)->wpList P ops Q rest (act n (upd L d (.pointer (some ⟨r,0,none⟩))) D) w'):
  wpList P ops Q ({dst:=some d,op:=.range t x,type:=ty,pos:=pos,after:=af,guard:=none}::rest) (act n L D) w:=by
 have hR:=Rg.new h;obtain⟨es,c,h1,_⟩:=h;rw[h1]at hR;exact Zv (by simp[execOp,hx,run_range_map w t tk te b es c ht h1]) (cont _ _ (Ext.alloc _ _) (Nat.le_refl _) hR)
theorem rO{d r b:Nat}{l:List (κ×ν)}{lf:κ->Bool}(hx:ev n L x=.pointer (some ⟨r,0,none⟩))(h:Rg w r b l lf)
  (h0:(∀p∈l,lf p.1=false)->wpList P ops Q rest (act n (upd L d (.tuple #[.bool false])) D) w)
  (h1:∀p w',p∈l->lf p.1=true->BelP (fun q=>q≠r) w.heap.size w w'->w'.heap.size=w.heap.size->(Instr.entry (.pointer (some ⟨r,0,none⟩))).run P w'=.ok (.tuple #[fv p.1,fv p.2]) w'->Rg w' r b l (fun k=>lf k&& !decide (k=p.1))->
   wpList P ops Q rest (act n (upd L d (.tuple #[.bool true,fv p.1,fv p.2])) D) w'):
  wpList P ops Q ({dst:=some d,op:=.next x false,type:=ty,pos:=pos,after:=af,guard:=none}::rest) (act n L D) w:=by
 rcases h.next (P:=P) (ty:=ty)with⟨g1,g2⟩|⟨p,w',g1,g2,g3,g4,g5,g6,g7⟩
 ·exact Zv (by simp[execOp,hx,g2]) (h0 g1)
 ·exact Zv (by simp[execOp,hx,g3]) (h1 p w' g1 g2 g4 g5 g6 g7)
omit [DecidableEq κ] [Key κ]in
theorem rP{d r:Nat}{k:κ}{v:ν}(hx:ev n L x=.pointer (some ⟨r,0,none⟩))(h:(Instr.entry (.pointer (some ⟨r,0,none⟩))).run P w=.ok (.tuple #[fv k,fv v]) w):
  (execOp (ev n L) {dst:=some d,op:=.entry x,type:=ty,pos:=pos,after:=af,guard:=none}).run P w=.ok (.value (.tuple #[fv k,fv v])) w:=by
 simp[execOp,hx,h]
theorem nS{r b:Nat}{l:List (κ×ν)}{lf:κ->Bool}{k:κ}(hx:ev n L x=.map (some b))(hy:ev n L y=fv k)(ht:P.underlying t=some (.map tk te))(K:KT P tk κ)(h:Rg w r b l lf)(hk:Key.ok k=true)
  (cont:∀w',Chg b w w'->Rg w' r b (EA l k) lf->wpList P ops Q rest (act n L D) w'):
  wpList P ops Q ({dst:=none,op:=.call {callee:=.builtin .delete,args:=#[x,y],argTypes:=#[t,tk]},type:=ty,pos:=pos,after:=af,guard:=none}::rest) (act n L D) w:=by
 obtain⟨w',hr,h1,h2⟩:=h.del (P:=P) (ty:=ty) ht K hk;refine wpList_plain rfl fun K hK=>?_;simp only[Oper.wp,FI,execOp,resolve,invoke,Go.builtin,List.map_toArray,List.map_cons,List.map_nil,hx,hy,Sem.run_bind,Sem.run_pure,hr,Result.andThen,Oper.upon];exact hK _ _ (cont w' h1 h2)
end
end
end Go.Md
end
section
namespace Go.Proofs.YtfmelbioccbdoaaGreat
open Go Go.Md Go.RowKit
attribute [local irreducible] Go.wpList Go.Code.wp Go.Calls Go.Md.C9 Go.Md.Mt Go.Md.Dz Go.Md.CW Go.Code.wpIn Go.wpListIn
theorem Tb.below{N B:Nat}{w w1:World}{b ma mu:Nat}{x:Bl}(h:Tb N w b ma mu x)(k:Below B w w1)(hB:N<=B):Tb N w1 b ma mu x:=
 h.belp (ok:=fun _=>True) (M:=B) ⟨k.os,k.tape,k.output,k.size,fun q hq _=>k.block q hq⟩ hB (fun _ _ _ _=>trivial)

end Go.Proofs.YtfmelbioccbdoaaGreat
end
section
namespace Go.Proofs.YtfmelbioccbdoaaGreat
open Go Go.Md Go.RowKit
def EG(F:Nat)(x0:Bq):Option Bool:=
 (gd (decide ((x0.1.length:Int)<=20)) (Cm F (x0.1,x0.2.1,(x0.2.2.1,x0.2.2.2))) 0)>>=fun x2=>
 some ((decide ((x0.1.length:Int)<=20))&&(decide (x2=0)))
def Dk(F:Nat)(x0:Bq)(x1:(List (Int×Bool))):Nat->Int->Option (Sum Int (Unit))
 |0,_=>none
 |m+1,y1=>
  if(decide (y1<(x1.length:Int)))=true then
   (ix x1 y1)>>=fun x5=>
   (Gv (x0.1,x0.2.1,(x0.2.2.1,x0.2.2.2)) (x5.1,x5.2))>>=fun x6=>
   if(!x6)=true then
    some (.inl 2)
   else
    Dk F x0 x1 m (Aa (y1+1))
  else
   some (.inr ())
def Dl(F:Nat)(x1:(List (Int×Bool)))(y2:Int):Nat->Int->Option (Sum Int (Unit))
 |0,_=>none
 |m+1,y3=>
  if(decide (y3<y2))=true then
   (ix x1 y2)>>=fun x7=>
   (ix x1 y3)>>=fun x8=>
   if(decide (x7.1=x8.1))=true then
    some (.inl 11)
   else
    Dl F x1 y2 m (Aa (y3+1))
  else
   some (.inr ())
def Dm(F:Nat)(x1:(List (Int×Bool))):Nat->Int->Option (Sum Int (Unit))
 |0,_=>none
 |m+1,y2=>
  if(decide (y2<(x1.length:Int)))=true then
   ((Dl F x1 y2 F 0)>>=fun o=>match o with
    |.inl r=>some (.inl r)
    |.inr ()=>
     Dm F x1 m (Aa (y2+1)))
  else
   some (.inr ())
def Dn(F:Nat)(x0:Bq)(x1:(List (Int×Bool))):Nat->Int->Option (Sum Int (Unit))
 |0,_=>none
 |m+1,y4=>
  if(decide (y4<(x1.length:Int)))=true then
   (ix x1 (Aa (y4-1)))>>=fun x9=>
   (ix x1 y4)>>=fun x10=>
   (Ib (x0.1,x0.2.1,(x0.2.2.1,x0.2.2.2)) (x9.1,x9.2) (x10.1,x10.2))>>=fun x11=>
   if(!x11)=true then
    some (.inl 18)
   else
    Dn F x0 x1 m (Aa (y4+1))
  else
   some (.inr ())
def FO(F:Nat)(x0:Bq)(x1:(List (Int×Bool))):Option Int:=
 (Cm F (x0.1,x0.2.1,(x0.2.2.1,x0.2.2.2)))>>=fun x3=>
 if(!decide (x3=0))=true then
  (Cm F (x0.1,x0.2.1,(x0.2.2.1,x0.2.2.2)))>>=fun x4=>
  some x4
 else
  if(!decide ((x1.length:Int)=(x0.1.length:Int)))=true then
   some 15
  else
   ((Dk F x0 x1 F 0)>>=fun o=>match o with
    |.inl r=>some r
    |.inr ()=>
     ((Dm F x1 F 0)>>=fun o=>match o with
      |.inl r=>some r
      |.inr ()=>
       ((Dn F x0 x1 F 1)>>=fun o=>match o with
        |.inl r=>some r
        |.inr ()=>
         some 0)))
end Go.Proofs.YtfmelbioccbdoaaGreat
end
