/-
  Part 11 of 12 of what the last text stands on: lemmas about the model, pure functions, walks, laws in plain Lean; each part's own head says its condition. Merged by a program of our own.
-/
import Derived.Test.YtfmelbioccbdoaaGreatJoinedWordsQj
import Derived.IntWalk
import Derived.KernelRfl
set_option maxHeartbeats 0
set_option linter.all false
section
namespace Go.Proofs.YtfmelbioccbdoaaGreat
open Go Go.Md Go.RowKit
theorem works_c5{f:FuncId}(h:∀w,Calls Tryz.prog f #[] w fun e w'=>e=.returned (.bool true)/\Below w.heap.size w w'){w0:World}{r:Bool}(hr:some true=some r):
  Calls Tryz.prog f [].toArray w0 (BN fun v w'=>v=.bool r/\Ext w0 w'):=by
 cases hr;exact(h w0).mono fun e w' h=>⟨_,h.1,rfl,h.2⟩
def Ph(_:Nat):Option Bool:=some true
theorem tO{w0:World}{F:Nat}{r:Bool}(hF:Ph F=some r):Calls Tryz.prog 135 [].toArray w0 (BN fun v w'=>v=.bool r/\Ext w0 w'):=works_c5 oZ hF
def JV(F:Nat):Option Bool:=
 (Nt F)>>=fun x1=>
 (gd x1 (Pf F) false)>>=fun x2=>
 (gd (x1&&x2) (Ph F) false)>>=fun x3=>
 some ((x1&&x2)&&x3)
def DY(F:Nat)(x9:((List (Int×Bool))×Int))(x12:((List ((Int×Bool)×(Int×Bool)))×Int))(y5:Int):Nat->Bool->Int->Option (Bool)
 |0,_,_=>none
 |m+1,y10,y11=>
  if(decide (y11<(x12.1.length:Int)))=true then
   ((if y10=true then
    some true
   else
    (ix x12.1 y11)>>=fun x19=>
    (ix x9.1 (AZ (y5-1)))>>=fun x20=>
    (ix x9.1 y5)>>=fun x21=>
    some (decide (((x19.1.1,x19.1.2),(x19.2.1,x19.2.2))=((x20.1,x20.2),(x21.1,x21.2)))):Option (Bool))>>=fun y12=>
   DY F x9 x12 y5 m y12 (AZ (y11+1)))
  else
   some y10
def Ci(F:Nat)(x9:((List (Int×Bool))×Int))(x11:((List (Int×Bool))×Int))(x12:((List ((Int×Bool)×(Int×Bool)))×Int)):Nat->(List Int)->(List Int)->Int->Int->Int->Option ((List Int)×(List Int)×Int)
 |0,_,_,_,_,_=>none
 |m+1,y1,y2,y3,y4,y5=>
  if(decide (y5<(x9.1.length:Int)))=true then
   (((ix x9.1 y5)>>=fun x15=>
   (app 8 y1 ([AZ (x15.1+1)]:List Int))>>=fun x16=>
   (ix x11.1 y5)>>=fun x17=>
   (app 8 y2 ([AZ (x17.1+1)]:List Int))>>=fun x18=>
   if(decide (y5=0))=true then
    some (x16,x18,y3,y4)
   else
    ((DY F x9 x12 y5 F false 0)>>=fun z4=>
    ((if z4=true then
     some (AZ (y3+1))
    else
     some 1:Option (Int))>>=fun y13=>
    some (x16,x18,y13,if y4<y13 then y13 else y4))):Option ((List Int)×(List Int)×Int×Int))>>=fun(y6,y7,y8,y9)=>
   Ci F x9 x11 x12 m y6 y7 y8 y9 (AZ (y5+1)))
  else
   some (y1,y2,y4)
def GZ(F:Nat)(x0:DJ)(x1:Int)(x2:Int):Option Bool:=
 (FT F (x0.1,x0.2.1,(x0.2.2.1,x0.2.2.2)))>>=fun x4=>
 if((!x4)||(decide (6<(x0.1.length:Int))))=true then
  (JV F)>>=fun x5=>
  some x5
 else
  (KC F (x0.1,x0.2.1,(x0.2.2.1,x0.2.2.2)))>>=fun x6=>
  if((!decide (x6.2=0))||(decide (x6.1<0)))=true then
   some false
  else
   if(decide (x6.1=0))=true then
    (JV F)>>=fun x7=>
    some x7
   else
    (rem (AZ x1) x6.1)>>=fun x8=>
    (Jr F (x0.1,x0.2.1,(x0.2.2.1,x0.2.2.2)) x8)>>=fun x9=>
    (rem (AZ x2) x6.1)>>=fun x10=>
    (Jr F (x0.1,x0.2.1,(x0.2.2.1,x0.2.2.2)) x10)>>=fun x11=>
    (H6 F (x0.1,x0.2.1,(x0.2.2.1,x0.2.2.2)))>>=fun x12=>
    (gd (!(((!decide (x9.2=0))||(!decide (x11.2=0)))||(!decide (x12.2=0)))) (FC F (x0.1,x0.2.1,(x0.2.2.1,x0.2.2.2)) x9.1) 0)>>=fun x13=>
    (gd (!((((!decide (x9.2=0))||(!decide (x11.2=0)))||(!decide (x12.2=0)))||(!decide (x13=0)))) (FC F (x0.1,x0.2.1,(x0.2.2.1,x0.2.2.2)) x11.1) 0)>>=fun x14=>
    if(((((!decide (x9.2=0))||(!decide (x11.2=0)))||(!decide (x12.2=0)))||(!decide (x13=0)))||(!decide (x14=0)))=true then
     some false
    else
     ((Ci F x9 x11 x12 F ([]) ([]) 1 1 0)>>=fun(z1,z2,z3)=>
     (Jl F (⟨[]⟩:(Uno (List (Ar 2 Int)))) ([z1,z2]:List (List Int)))>>=fun x22=>
     (Jk F (⟨[]⟩:(Uno (List (Ar 2 Int)))) ([z1,z2]:List (List Int)))>>=fun x23=>
     (K8 F (⟨[]⟩:(Uno (List (Ar 2 Int)))) ([z1,z2]:List (List Int)))>>=fun x24=>
     (Jm F (⟨[]⟩:(Uno (List (Ar 2 Int)))) ([z1,z2]:List (List Int)))>>=fun x25=>
     (gd (!(((((((!decide (x22.2=0))||(!decide (x23.2=0)))||(!decide (x24.2=0)))||(!decide (x25.2=0)))||(!decide ((x22.1.length:Int)=(x9.1.length:Int))))||(decide ((x23.1.length:Int)<z3)))||(decide ((x9.1.length:Int)<(x23.1.length:Int))))) (FU F (⟨[]⟩:(Uno (List (Ar 2 Int)))) ([z1,z2]:List (List Int)) x23.1) 0)>>=fun x26=>
     if((((((((!decide (x22.2=0))||(!decide (x23.2=0)))||(!decide (x24.2=0)))||(!decide (x25.2=0)))||(!decide ((x22.1.length:Int)=(x9.1.length:Int))))||(decide ((x23.1.length:Int)<z3)))||(decide ((x9.1.length:Int)<(x23.1.length:Int))))||(!decide (x26=0)))=true then
      some false
     else
      (rem (AZ x1) x6.1)>>=fun x27=>
      (rem (AZ x2) x6.1)>>=fun x28=>
      (gd ((!(decide (x27=x28)))||(((decide ((x23.1.length:Int)=(x9.1.length:Int)))&&(decide (x24.1=1)))&&(decide ((x25.1.length:Int)=(x9.1.length:Int))))) (JV F) false)>>=fun x29=>
      some (((!(decide (x27=x28)))||(((decide ((x23.1.length:Int)=(x9.1.length:Int)))&&(decide (x24.1=1)))&&(decide ((x25.1.length:Int)=(x9.1.length:Int)))))&&x29))
end Go.Proofs.YtfmelbioccbdoaaGreat
end
section
namespace Go.Proofs.YtfmelbioccbdoaaGreat
open Go Go.Md Go.RowKit
attribute [local irreducible] Go.wpList Go.Code.wp Go.Calls Go.Md.FN Go.Md.Mt Go.Md.Gf Go.Md.EO Go.Code.wpIn
theorem tQ(F:Nat):∀(mr:Nat){w0 wi:World}(hk:Ext w0 wi){b0:Nat}{cs0:List Value}{x0:((Ob ((Uno (List (Ar 2 Int)))×(Ar 101 Int)))×(List (List Int))×(List (Ar 4 Int)))}(h0:Cs w0 b0 0 cs0)(q0:Enc.rep (fun _=>True) w0 cs0 x0){v1:Value}{x1:(Ar 4 Int)}(r1:RV w0 v1 x1){b2:Nat}{x2:(List ((Ar 4 Int)×Int))}(g2:w0.heap.size<=b2)(m2:Mp wi b2 x2){r:(Int×(List ((Ar 4 Int)×Int)))}(hF:CY F mr x0 x1 x2=some r),
  Calls Tryz.prog 238 [.pointer (some ⟨b0,0,none⟩),v1,.map (some b2)].toArray wi (BN fun v w'=>v=.int .i64 r.1/\Mp w' b2 r.2/\BelP (fun q=>q≠b2) wi.heap.size wi w'):=by
 intro mr
 induction mr with
 |zero=>
  intro w0 wi hk b0 cs0 x0 h0 q0 v1 x1 r1 b2 x2 g2 m2 r hF;rw[CY]at hF;cases hF
 |succ mr ih=>
 intro w0 wi hk b0 cs0 x0 h0 q0 v1 x1 r1 b2 x2 g2 m2 r hF;rw[CY]at hF;obtain⟨_,_,rfl,q4,_,_,rfl,⟨a2,cq1,rfl,p1,q5,e1⟩,a3,cq2,rfl,p2,q6,e2⟩:=q0;have hz:=Ja q4;obtain⟨a1,rfl,r4⟩:=hz;have r5:=RV.of1 p1 q5 e1;have r6:=RV.of1 p2 q6 e2;have hz:=id r1;obtain⟨_,rfl,rfl⟩:=hz;have r7:=r4.ext hk;have r8:=r5.ext hk;have r9:=r6.ext hk;have h4:=h0.ext hk;have Z0:wi.heap.size<=wi.heap.size:=Nat.le_refl _;have BP0:BelP (fun q=>q≠b2) wi.heap.size wi wi:=BelP.refl;refine BK (n:=77) Tryz.func238 rfl rfl rfl<|Zr<|Cw rfl rfl fun b4 w1 hx1 hg1 hb1=>?_;have k1:=hk.tr hx1;have zs1:=Nat.le_trans Z0 hx1.size;have BP1:=BP0.ext hx1 BP0.size;have m1:=m2.ext hx1;have r11:=r7.ext hx1;have r12:=r8.ext hx1;have r13:=r9.ext hx1;have h5:=h4.ext hx1;refine Za<|nl<|wp_seq<|Zr<|Zv (Ad rfl Au (BJ _) (Bx.cs hb1))<|Zv (iJ (r:=List.flatMap Flat.enc (Ar.fill 4 0:(Ar 4 Int)).l) Au Tryz.underlying223 Aa pn rfl)<|Zv (Xy (α:=(Ar 4 Int)) (a:=x1) (b:=(Ar.fill 4 0:(Ar 4 Int))) rfl qX qW rfl rfl rfl rfl rfl)<|nl<|cnd rfl (fun h6=>?_) (fun h6=>?_)
 ·have hF:=Ah hF h6;refine Zr<|Za<|nl<|?_;cases hF;exact wp_ret<|Zw rfl rfl rfl ⟨rfl,m1,BP1⟩
 ·have hF:=Ai hF h6;refine wp_skip<|wp_seq<|Zr<|Zm<|Zv (Ad rfl Au (BJ _) (Bx.cs hb1))<|bS hF fun x4 Ex4 hF=>Zv (YH (k:=x1) (d:=0) Tryz.underlying341 jC (TI.zv Aa rfl rfl _) m1 (Ji Ex4) rfl rfl)<|Zm<|Zv (Cq rfl rfl)<|Zv (Cq rfl rfl)<|Za<|Za<|nl<|Zr<|Zm<|nl<|cnd rfl (fun h7=>?_) (fun h7=>?_)
  ·have hF:=Ah hF h7;refine Zr<|Zm<|Za<|nl<|?_;cases hF;exact wp_ret<|Zw rfl rfl rfl ⟨rfl,m1,BP1⟩
  ·have hF:=Ai hF h7;refine wp_skip<|Zr<|Za<|nl<|Zr<|Zv (Ad rfl Au (BJ _) (Bx.cs hb1))<|D5 Au fun b5 w2 hx2 hg2 hb2=>?_;have zs2:=Nat.le_trans zs1 hx2.size;have BP2:=BP1.ext hx2 BP1.size;have hb4:Bx w2 b5 223 (List.flatMap Flat.enc ((Ar.fill 4 0:(Ar 4 Int))).l):=hb2;refine Nk rfl rfl Au hb4 (BJ _) (BJ _) (IZ _) fun w3 hch1 hb5=>?_;have k6:=Ext.chg hx2 hch1 (Nat.le_trans (Nat.le_refl _) hg2);have zs3:=Nat.le_trans zs2 (Nat.le_of_eq hch1.size.symm);have BP3:=BP2.chg hch1 (.inl (Nat.le_trans hx1.size hg2));have h9:=h5.ext k6;have hb7:Bx w3 b5 223 (List.flatMap Flat.enc x1.l):=hb5;refine nl<|wp_seq<|Zr<|Zm<|Zv (Bc rfl)<|Zv (AX rfl Jz)<|Zv (AR rfl OL (h9.at 1 rfl))<|Zv (Ao rfl Tryz.underlying78)<|Zm<|nl<|bS hF fun o1 hB1 hF=>ct (fun L w=>∃z1:(Ar 4 Int),o1=.inr z1/\Bx w b5 223 (List.flatMap Flat.enc z1.l)/\L 0=.pointer (some ⟨b0,0,none⟩)/\L 2=.map (some b2)/\L 4=.pointer (some ⟨b4,0,none⟩)/\L 9=.int .i64 0/\L 10=.pointer (some ⟨b5,0,none⟩)/\wi.heap.size<=w.heap.size/\Ext w1 w/\BelP (fun q=>q≠b2) wi.heap.size wi w) ?_ ?_
   ·refine wp_block<|lp (I:=fun m L w=>∃y1:Int,∃y2:(Ar 4 Int),DC F x0 x1 x2 m y1 y2=some o1/\L 31=.int .i64 y1/\Bx w b5 223 (List.flatMap Flat.enc y2.l)/\L 0=.pointer (some ⟨b0,0,none⟩)/\L 2=.map (some b2)/\L 4=.pointer (some ⟨b4,0,none⟩)/\L 9=.int .i64 0/\L 10=.pointer (some ⟨b5,0,none⟩)/\L 30=.int .i64 (x0.2.1.length:Int)/\wi.heap.size<=w.heap.size/\Ext w1 w/\BelP (fun q=>q≠b2) wi.heap.size wi w) F ⟨_,_,hB1,rfl,hb7,rfl,rfl,rfl,rfl,rfl,rfl,zs3,k6,BP3⟩ ?_;rintro m L w4⟨y1,y2,hB1,l31_i1,B10_i1,l0_i1,l2_i1,l4_i1,l9_i1,l10_i1,l30_i1,Z0_i1,K0_i1,BP_i1⟩;rcases m with _|m
    ·rw[DC]at hB1;cases hB1
    rw[DC]at hB1;have m4:=m1.ext K0_i1;have hb8:=hb1.ext K0_i1;refine Zr<|Zv (BL l31_i1 l30_i1)<|nl<|wp_seq<|cnd rfl (fun h11=>?_) (fun h11=>?_)
    ·have hB1:=Ah hB1 h11;refine wp_skip<|wp_seq<|wp_block<|Zr<|Zm<|Za<|nl<|wp_seq<|Zr<|Zm<|bS hB1 fun x5 Ex5 hB1=>?_;have hz:=Dx (Bx.cs hb8) Ex5;obtain⟨i2,i3,hc1⟩:=hz;refine Zv (C9 l4_i1 l31_i1 Tryz.underlying223 Aa i2 i3)<|Zv (AR rfl Aa (hc1.at 0 rfl))<|Zv (FE rfl rfl)<|nl<|cnd rfl (fun h12=>?_) (fun h12=>?_)
     ·have hB1:=Ah hB1 h12;refine Zr<|Za<|nl<|?_;cases hB1;have hF:=(show some _=some _ from hF);cases hF;exact wp_ret<|Zw rfl rfl rfl ⟨rfl,m4,BP_i1⟩
     ·have hB1:=Ai hB1 h12;refine wp_skip<|rg<|Zm<|bS hB1 fun x6 Ex6 hB1=>?_;have hz:=Dx (Bx.cs B10_i1) Ex6;obtain⟨i4,i5,hc2⟩:=hz;refine Zv (C9 l10_i1 l31_i1 Tryz.underlying223 Aa i4 i5)<|Zv (AR rfl Aa (hc2.at 0 rfl))<|Zv (IV rfl rfl)<|bS hB1 fun x7 Ex7 hB1=>?_;have hz:=Dx (Bx.cs B10_i1) Ex7;obtain⟨i6,i7,hc3⟩:=hz;refine Zv (C9 l10_i1 l31_i1 Tryz.underlying223 Aa i6 i7)<|Xx (X:=y2) (v:=AZ (x6-1)) rfl rfl rfl Aa B10_i1 Ex7 fun w5 hch2 hb9=>?_;have k11:=Ext.chg K0_i1 hch2 (Nat.le_trans (Nat.le_refl _) hg2);have zs4:=Nat.le_trans Z0_i1 (Nat.le_of_eq hch2.size.symm);have BP4:=BP_i1.chg hch2 (.inl (Nat.le_trans hx1.size hg2));refine nl<|rg<|Zv (Aw l31_i1 rfl)<|Zm<|nl<|lq m (Nat.lt_succ_self _)<|?_;exact⟨_,_,hB1,rfl,hb9,l0_i1,l2_i1,l4_i1,l9_i1,l10_i1,l30_i1,zs4,k11,BP4⟩
    ·have hB1:=Ai hB1 h11;refine wp_exit<|?_;cases hB1;refine lf<|?_;exact⟨_,rfl,B10_i1,l0_i1,l2_i1,l4_i1,l9_i1,l10_i1,Z0_i1,K0_i1,BP_i1⟩
   rintro L w6⟨z1,rfl,B10_j1,l0_j1,l2_j1,l4_j1,l9_j1,l10_j1,Z0_j1,K0_j1,BP_j1⟩;have k12:=k1.tr K0_j1;have r27:=r11.ext K0_j1;have r28:=r12.ext K0_j1;have r29:=r13.ext K0_j1;have h14:=h5.ext K0_j1;have m6:=m1.ext K0_j1;have hb11:=hb1.ext K0_j1;refine wp_seq<|Zr<|Zm<|Zv (Ad l10_j1 Au (BJ _) (Bx.cs B10_j1))<|bS hF fun x8 Ex8 hF=>Zc (xc iV (mc l0_j1 (mc rfl mn))) (nN (x0:=(x0.1,x0.2.1,x0.2.2)) h14 ⟨[.pointer a1],[.slice a2 x0.2.1.length cq1]++[.slice a3 x0.2.2.length cq2],rfl,(Db r27),[.slice a2 x0.2.1.length cq1],[.slice a3 x0.2.2.length cq2],rfl,r28.rep1,r29.rep1⟩ (show RV (α:=(Ar 4 Int)) _ (.agg (List.flatMap Flat.enc z1.l).toArray) z1 from⟨_,rfl,rfl⟩) Ex8) ?_;rintro _ w7⟨rfl,hx3⟩;have k14:=k12.tr hx3;have zs5:=Nat.le_trans Z0_j1 hx3.size;have BP5:=BP_j1.ext hx3 BP_j1.size;have m7:=m6.ext hx3;have hb12:=hb11.ext hx3;have B1:=B10_j1.ext hx3;have h15:=h14.ext hx3;refine nl<|?_;have hz:=bs hF;obtain⟨⟨y3,y4⟩,hB6,hF⟩:=hz;refine ct (fun L w=>L 9=.int .i64 y3/\Bx w b4 223 (List.flatMap Flat.enc (x1).l)/\Mp w b2 y4/\L 2=.map (some b2)/\L 4=.pointer (some ⟨b4,0,none⟩)/\wi.heap.size<=w.heap.size/\Ext w0 w/\BelP (fun q=>q≠b2) wi.heap.size wi w) ?_ ?_
   ·refine cnd rfl (fun h16=>?_) (fun h16=>?_)
    ·have hB6:=Ah hB6 h16;refine rg<|Zm<|Zv (Ad l10_j1 Au (BJ _) (Bx.cs B1))<|Zm<|bS hB6 fun x9 Ex9 hB6=>Zc (xc YC (mc l0_j1 (mc rfl (mc l2_j1 mn)))) (ih k14 h0 ⟨[.pointer a1],[.slice a2 x0.2.1.length cq1]++[.slice a3 x0.2.2.length cq2],rfl,(Db r4),[.slice a2 x0.2.1.length cq1],[.slice a3 x0.2.2.length cq2],rfl,r5.rep1,r6.rep1⟩ (show RV (α:=(Ar 4 Int)) _ (.agg (List.flatMap Flat.enc z1.l).toArray) z1 from⟨_,rfl,rfl⟩) g2 m7 Ex9) ?_;rintro _ w8⟨rfl,hm1,hB8⟩;have hz:=BelP.split hB8 m7.lt;obtain⟨w9,hx4,hch3⟩:=hz;have k17:=k14.tr hx4;have zs6:=Nat.le_trans zs5 hx4.size;have BP6:=BP5.ext hx4 BP5.size;have m8:=m7.ext hx4;have hb13:=hb12.ext hx4;have k20:=Ext.chg k17 hch3 (Nat.le_trans (Nat.le_refl _) g2);have zs7:=Nat.le_trans zs6 (Nat.le_of_eq hch3.size.symm);have BP7:=BP6.chg hch3 (.inr fun h=>h rfl);have hb14:=Bx.chgm hb13 hch3 m8;refine Zv (Aw rfl rfl)<|Za<|nl<|?_;cases hB6;refine lf<|?_;exact⟨rfl,hb14,hm1,l2_j1,l4_j1,zs7,k20,BP7⟩
    ·have hB6:=Ai hB6 h16;refine Zr<|Zm<|Zv (Bc l0_j1)<|Zv (AX rfl Jz)<|Zv (AR rfl OL (h15.at 1 rfl))<|Zv (Ao rfl Tryz.underlying78)<|Zm<|nl<|?_;have hz:=bs hB6;obtain⟨⟨z2,z3⟩,hB10,hB6⟩:=hz;refine ct (fun L w=>L 9=.int .i64 z2/\Bx w b4 223 (List.flatMap Flat.enc (x1).l)/\Mp w b2 z3/\L 2=.map (some b2)/\L 4=.pointer (some ⟨b4,0,none⟩)/\wi.heap.size<=w.heap.size/\Ext w0 w/\BelP (fun q=>q≠b2) wi.heap.size wi w) ?_ ?_
     ·refine wp_block<|lp (I:=fun m L w=>∃y5:Int,∃y6:Int,∃y7:(List ((Ar 4 Int)×Int)),Dt F (CY F mr) x0 x1 m y5 y6 y7=some (z2,z3)/\L 9=.int .i64 y5/\L 57=.int .i64 y6/\Bx w b4 223 (List.flatMap Flat.enc (x1).l)/\Mp w b2 y7/\L 0=.pointer (some ⟨b0,0,none⟩)/\L 2=.map (some b2)/\L 4=.pointer (some ⟨b4,0,none⟩)/\L 56=.int .i64 (x0.2.1.length:Int)/\wi.heap.size<=w.heap.size/\Ext w0 w/\BelP (fun q=>q≠b2) wi.heap.size wi w) F ⟨_,_,_,hB10,l9_j1,rfl,hb12,m7,l0_j1,l2_j1,l4_j1,rfl,zs5,k14,BP5⟩ ?_;rintro m L w10⟨y5,y6,y7,hB10,l9_i8,l57_i8,B4_i8,Q9000_i8,l0_i8,l2_i8,l4_i8,l56_i8,Z0_i8,K0_i8,BP_i8⟩;rcases m with _|m
      ·rw[Dt]at hB10;cases hB10
      rw[Dt]at hB10;refine Zr<|Zv (BL l57_i8 l56_i8)<|nl<|wp_seq<|cnd rfl (fun h18=>?_) (fun h18=>?_)
      ·have hB10:=Ah hB10 h18;refine wp_skip<|wp_seq<|wp_block<|Zr<|Zm<|Za<|nl<|Zr<|Zv (Ad l4_i8 Au (BJ _) (Bx.cs B4_i8))<|D5 Au fun b6 w11 hx5 hg3 hb15=>?_;have k21:=K0_i8.tr hx5;have zs8:=Nat.le_trans Z0_i8 hx5.size;have BP8:=BP_i8.ext hx5 BP_i8.size;have hb17:Bx w11 b6 223 (List.flatMap Flat.enc ((Ar.fill 4 0:(Ar 4 Int))).l):=hb15;refine Nk rfl rfl Au hb17 (BJ _) (BJ _) (IZ _) fun w12 hch4 hb18=>?_;have k22:=Ext.chg k21 hch4 (Nat.le_trans K0_i8.size hg3);have k23:=Ext.chg hx5 hch4 (Nat.le_trans (Nat.le_refl _) hg3);have zs9:=Nat.le_trans zs8 (Nat.le_of_eq hch4.size.symm);have BP9:=BP8.chg hch4 (.inl (Nat.le_trans Z0_i8 hg3));have hb20:Bx w12 b6 223 (List.flatMap Flat.enc x1.l):=hb18;refine nl<|Zr<|Zm<|bS hB10 fun x10 Ex10 hB10=>?_;have hz:=Dx (Bx.cs hb20) Ex10;obtain⟨i9,i10,hc4⟩:=hz;refine Zv (C9 rfl l57_i8 Tryz.underlying223 Aa i9 i10)<|Zv (AR rfl Aa (hc4.at 0 rfl))<|Zv (IV rfl rfl)<|bS hB10 fun x11 Ex11 hB10=>?_;have hz:=Dx (Bx.cs hb20) Ex11;obtain⟨i11,i12,hc5⟩:=hz;refine Zv (C9 rfl l57_i8 Tryz.underlying223 Aa i11 i12)<|Xx (X:=x1) (v:=AZ (x10-1)) rfl rfl rfl Aa hb20 Ex11 fun w13 hch5 hb21=>?_;have k24:=Ext.chg k22 hch5 (Nat.le_trans K0_i8.size hg3);have k25:=Ext.chg k23 hch5 (Nat.le_trans (Nat.le_refl _) hg3);have zs10:=Nat.le_trans zs9 (Nat.le_of_eq hch5.size.symm);have BP10:=BP9.chg hch5 (.inl (Nat.le_trans Z0_i8 hg3));have Q3:=Q9000_i8.ext k25;have hb22:=B4_i8.ext k25;refine nl<|rg<|Zm<|Zm<|Zv (Ad rfl Au (BJ _) (Bx.cs hb21))<|Zm<|bS hB10 fun x12 Ex12 hB10=>Zc (xc YC (mc l0_i8 (mc rfl (mc l2_i8 mn)))) (ih k24 h0 ⟨[.pointer a1],[.slice a2 x0.2.1.length cq1]++[.slice a3 x0.2.2.length cq2],rfl,(Db r4),[.slice a2 x0.2.1.length cq1],[.slice a3 x0.2.2.length cq2],rfl,r5.rep1,r6.rep1⟩ (show RV (α:=(Ar 4 Int)) _ (.agg (List.flatMap Flat.enc (EN x1 y6 (AZ (x10-1))).l).toArray) (EN x1 y6 (AZ (x10-1)))from⟨_,rfl,rfl⟩) g2 Q3 Ex12) ?_;rintro _ w14⟨rfl,hm2,hB12⟩;have hz:=BelP.split hB12 Q3.lt;obtain⟨w15,hx6,hch6⟩:=hz;have k26:=k24.tr hx6;have zs11:=Nat.le_trans zs10 hx6.size;have BP11:=BP10.ext hx6 BP10.size;have Q4:=Q3.ext hx6;have hb23:=hb22.ext hx6;have k28:=Ext.chg k26 hch6 (Nat.le_trans (Nat.le_refl _) g2);have zs12:=Nat.le_trans zs11 (Nat.le_of_eq hch6.size.symm);have BP12:=BP11.chg hch6 (.inr fun h=>h rfl);have hb24:=Bx.chgm hb23 hch6 Q4;refine bS hB10 fun x13 Ex13 hB10=>Zc (xc iW (mc l9_i8 (mc rfl mn))) (nL Ex13) ?_;rintro _ w16⟨rfl,hx7⟩;have k29:=k28.tr hx7;have zs13:=Nat.le_trans zs12 hx7.size;have BP13:=BP12.ext hx7 BP12.size;have hm3:=hm2.ext hx7;have hb25:=hb24.ext hx7;refine Za<|nl<|rg<|Zv (Aw l57_i8 rfl)<|Zm<|nl<|lq m (Nat.lt_succ_self _)<|?_;exact⟨_,_,_,hB10,rfl,rfl,hb25,hm3,l0_i8,l2_i8,l4_i8,l56_i8,zs13,k29,BP13⟩
      ·have hB10:=Ai hB10 h18;refine wp_exit<|?_;cases hB10;refine lf<|?_;exact⟨l9_i8,B4_i8,Q9000_i8,l2_i8,l4_i8,Z0_i8,K0_i8,BP_i8⟩
     rintro L w17⟨l9_j2,B4_j2,Q9000_j2,l2_j2,l4_j2,Z0_j2,K0_j2,BP_j2⟩;cases hB6;refine lf<|?_;exact⟨l9_j2,B4_j2,Q9000_j2,l2_j2,l4_j2,Z0_j2,K0_j2,BP_j2⟩
   rintro L w18⟨l9_j3,B4_j3,Q9000_j3,l2_j3,l4_j3,Z0_j3,K0_j3,BP_j3⟩;refine Zr<|Zm<|Zv (Ad l4_j3 Au (BJ _) (Bx.cs B4_j3))<|Zm<|bS hF fun x14 Ex14 hF=>U0 (k:=x1) (v:=y3) l2_j3 rfl (uO l9_j3) Tryz.underlying341 jC Q9000_j3 (Ji Ex14) fun w19 hch7 hm4=>?_;have BP14:=BP_j3.chg hch7 (.inr fun h=>h rfl);refine nl<|Zr<|Zm<|Za<|nl<|?_;cases hF;exact wp_ret<|rt rfl (.tmp l9_j3 rfl .nil) ⟨rfl,hm4,BP14⟩
theorem yE{w0 wi:World}(hk:Ext w0 wi){b0:Nat}{cs0:List Value}{x0:((Ob ((Uno (List (Ar 2 Int)))×(Ar 101 Int)))×(List (List Int))×(List (Ar 4 Int)))}(h0:Cs w0 b0 0 cs0)(q0:Enc.rep (fun _=>True) w0 cs0 x0){v1:Value}{x1:(Ar 4 Int)}(r1:RV w0 v1 x1){b2:Nat}{x2:(List ((Ar 4 Int)×Int))}(g2:w0.heap.size<=b2)(m2:Mp wi b2 x2){F:Nat}{r:(Int×(List ((Ar 4 Int)×Int)))}(hF:KZ F x0 x1 x2=some r):
  Calls Tryz.prog 238 [.pointer (some ⟨b0,0,none⟩),v1,.map (some b2)].toArray wi (BN fun v w'=>v=.int .i64 r.1/\Mp w' b2 r.2/\BelP (fun q=>q≠b2) wi.heap.size wi w'):=tQ F F hk h0 q0 r1 g2 m2 hF
theorem gU{w0:World}{b0:Nat}{cs0:List Value}{x0:((Ob ((Uno (List (Ar 2 Int)))×(Ar 101 Int)))×(List (List Int))×(List (Ar 4 Int)))}(h0:Cs w0 b0 0 cs0)(q0:Enc.rep (fun _=>True) w0 cs0 x0){F:Nat}{r:(List Int)}(hF:BA F x0=some r):
  Calls Tryz.prog 130 [.pointer (some ⟨b0,0,none⟩)].toArray w0 (BN fun v w'=>∃u0:Value,v=u0/\RV w' u0 r/\Ext w0 w'):=by
 unfold BA at hF;obtain⟨_,_,rfl,q2,_,_,rfl,⟨a2,cq1,rfl,p1,q3,e1⟩,a3,cq2,rfl,p2,q4,e2⟩:=q0;have hz:=Ja q2;obtain⟨a1,rfl,r2⟩:=hz;have r3:=RV.of1 p1 q3 e1;have r4:=RV.of1 p2 q4 e2;refine BK (n:=27) Tryz.func130 rfl rfl rfl<|Zr<|Za<|nl<|Zr<|YI (κ:=(Ar 4 Int)) (ν:=Int) fun b2 w1 hx1 hg1 hm1=>?_;have h2:=h0.ext hx1;refine Za<|nl<|Zr<|Za<|nl<|wp_seq<|Zr<|Zm<|Zv (Bc rfl)<|Zv (AX rfl GJ)<|Zv (AR rfl I7 (h2.at 2 rfl))<|Zv (Ao rfl Tryz.underlying214)<|Zm<|nl<|?_;have o1:Row (α:=Int) 3 w1.heap.size w1 (.slice none 0 0) []:=Row.nil;have hz:=bs hF;obtain⟨⟨z1,z2⟩,hB1,hF⟩:=hz;refine ct (fun L w=>∃v3:Value,L 4=v3/\Row 3 w1.heap.size w v3 z1/\Mp w b2 z2/\w1.heap.size<=w.heap.size/\Ext w0 w) ?_ ?_
 ·refine wp_block<|lp (I:=fun m L w=>∃y1:(List Int),∃y2:Int,∃y3:(List ((Ar 4 Int)×Int)),∃v2:Value,Du F x0 m y1 y2 y3=some (z1,z2)/\L 4=v2/\Row 3 w1.heap.size w v2 y1/\L 13=.int .i64 y2/\Mp w b2 y3/\L 0=.pointer (some ⟨b0,0,none⟩)/\L 3=.map (some b2)/\L 11=.slice a3 x0.2.2.length cq2/\L 12=.int .i64 (x0.2.2.length:Int)/\w1.heap.size<=w.heap.size/\Ext w0 w) F ⟨_,_,_,_,hB1,rfl,o1,rfl,hm1,rfl,rfl,rfl,rfl,(Nat.le_refl _),hx1⟩ ?_;rintro m L w2⟨y1,y2,y3,v2,hB1,l4_i1,O4_i1,l13_i1,Q9000_i1,l0_i1,l3_i1,l11_i1,l12_i1,Z0_i1,K0_i1⟩;rcases m with _|m
  ·rw[Du]at hB1;cases hB1
  rw[Du]at hB1;have hz:=RV.sl O4_i1.rv;obtain⟨a4,cq3,rfl,-,-,-⟩:=hz;refine Zr<|Zv (BL l13_i1 l12_i1)<|nl<|wp_seq<|cnd rfl (fun h4=>?_) (fun h4=>?_)
  ·have hB1:=Ah hB1 h4;refine wp_skip<|wp_seq<|wp_block<|Zr<|bS hB1 fun x2 Ex2 hB1=>?_;have hz:=(RV.els r4).ix Ex2;obtain⟨b3,f1,cs2,e3,i2,i3,q5,hc1⟩:=hz;cases e3;obtain rfl:=q5;have hc2:=hc1.ext K0_i1;refine Zv (Al l11_i1 l13_i1 Tryz.underlying214 Au i2 i3)<|Zv (Ad rfl Au (BJ _) hc2)<|D5 Au fun b4 w3 hx2 hg2 hb1=>?_;have k1:=K0_i1.tr hx2;have zs1:=Nat.le_trans Z0_i1 hx2.size;have hb2:Bx w3 b4 223 (List.flatMap Flat.enc ((Ar.fill 4 0:(Ar 4 Int))).l):=hb1;refine Nk rfl rfl Au hb2 (BJ _) (BJ _) (IZ _) fun w4 hch1 hb3=>?_;have k2:=Ext.chg k1 hch1 (Nat.le_trans K0_i1.size hg2);have k3:=Ext.chg hx2 hch1 (Nat.le_trans (Nat.le_refl _) hg2);have zs2:=Nat.le_trans zs1 (Nat.le_of_eq hch1.size.symm);have Q2:=Q9000_i1.ext k3;have O2:=O4_i1.ext k3;have hb4:Bx w4 b4 223 (List.flatMap Flat.enc x2.l):=hb3;refine nl<|rg<|Zm<|Zm<|Zv (Ad rfl Au (BJ _) (Bx.cs hb4))<|Zm<|bS hB1 fun x3 Ex3 hB1=>Zc (xc YC (mc l0_i1 (mc rfl (mc l3_i1 mn)))) (yE k2 h0 ⟨[.pointer a1],[.slice a2 x0.2.1.length cq1]++[.slice (some ⟨b3,f1,none⟩) x0.2.2.length cq2],rfl,(Db r2),[.slice a2 x0.2.1.length cq1],[.slice (some ⟨b3,f1,none⟩) x0.2.2.length cq2],rfl,r3.rep1,r4.rep1⟩ (show RV (α:=(Ar 4 Int)) _ (.agg (List.flatMap Flat.enc x2.l).toArray) x2 from⟨_,rfl,rfl⟩) hg1 Q2 Ex3) ?_;rintro _ w5⟨rfl,hm2,hB3⟩;have hz:=BelP.split hB3 Q2.lt;obtain⟨w6,hx3,hch2⟩:=hz;have k4:=k2.tr hx3;have zs3:=Nat.le_trans zs2 hx3.size;have Q3:=Q2.ext hx3;have O3:=O2.ext hx3;have k6:=Ext.chg k4 hch2 (Nat.le_trans (Nat.le_refl _) hg1);have zs4:=Nat.le_trans zs3 (Nat.le_of_eq hch2.size.symm);have o3:=Row.chgm O3 hch2 Q3;refine Zv (Aw rfl rfl)<|Gq (cs:=[.int .i64 (AZ (1+x3.1))]) Tryz.underlying41 Aa rfl (pc rfl pn) rfl rfl rfl rfl rfl fun b5 w7 hx4 hg3 hb5=>?_;have k7:=k6.tr hx4;have zs5:=Nat.le_trans zs4 hx4.size;have hm3:=hm2.ext hx4;have O4:=o3.ext hx4;have o4:Row (α:=Int) 3 w5.heap.size w7 (.slice (some ⟨b5,0,none⟩) 1 1) [AZ (1+x3.1)]:=Row.lit hg3 hb5 rfl (ble rfl);refine bS hB1 fun x4 Ex4 hB1=>KY (l:=y1) (k:=([AZ (1+x3.1)]:List Int)) l4_i1 rfl Tryz.underlying41 Aa rfl rfl O4 (RV.els o4.rv) Ex4 zs5 fun v4 w8 o5 hB4 hgr1 how1=>?_;have k8:=Ext.grow k7 hx1.size hB4;have zs6:=Nat.le_trans zs5 hgr1.size;have hm4:=Mp.grr hm3 hgr1 O4;have hz:=RV.sl o5.rv;obtain⟨a5,cq4,rfl,-,-,-⟩:=hz;refine Za<|nl<|rg<|Zv (Aw l13_i1 rfl)<|Zm<|nl<|lq m (Nat.lt_succ_self _)<|?_;exact⟨_,_,_,_,hB1,rfl,o5,rfl,hm4,l0_i1,l3_i1,l11_i1,l12_i1,zs6,k8⟩
  ·have hB1:=Ai hB1 h4;refine wp_exit<|?_;cases hB1;refine lf<|?_;exact⟨_,l4_i1,O4_i1,Q9000_i1,Z0_i1,K0_i1⟩
 rintro L w9⟨v3,l4_j1,O4_j1,Q9000_j1,Z0_j1,K0_j1⟩;have hz:=RV.sl O4_j1.rv;obtain⟨a6,cq5,rfl,-,-,-⟩:=hz;refine Zr<|Zm<|Za<|nl<|?_;cases hF;exact wp_ret<|rt rfl (.tmp l4_j1 rfl .nil) ⟨_,rfl,O4_j1.rv,K0_j1⟩
theorem gV{w0:World}{b0:Nat}{cs0:List Value}{x0:((Ob ((Uno (List (Ar 2 Int)))×(Ar 101 Int)))×(List (List Int))×(List (Ar 4 Int)))}(h0:Cs w0 b0 0 cs0)(q0:Enc.rep (fun _=>True) w0 cs0 x0){F:Nat}{r:(List (Int×Int))}(hF:CO F x0=some r):
  Calls Tryz.prog 125 [.pointer (some ⟨b0,0,none⟩)].toArray w0 (BN fun v w'=>∃u0:Value,v=u0/\RV w' u0 r/\Ext w0 w'):=by
 unfold CO at hF;obtain⟨_,_,rfl,q2,_,_,rfl,⟨a2,cq1,rfl,p1,q3,e1⟩,a3,cq2,rfl,p2,q4,e2⟩:=q0;have hz:=Ja q2;obtain⟨a1,rfl,r2⟩:=hz;have r3:=RV.of1 p1 q3 e1;have r4:=RV.of1 p2 q4 e2;refine BK (n:=181) Tryz.func125 rfl rfl rfl<|Zr<|Za<|nl<|Zr<|Zm<|bS hF fun x2 Ex2 hF=>Zc (xc X9 (mc rfl mn)) (gU (x0:=(x0.1,x0.2.1,x0.2.2)) h0 ⟨[.pointer a1],[.slice a2 x0.2.1.length cq1]++[.slice a3 x0.2.2.length cq2],rfl,(Db r2),[.slice a2 x0.2.1.length cq1],[.slice a3 x0.2.2.length cq2],rfl,r3.rep1,r4.rep1⟩ Ex2) ?_;rintro _ w1⟨u1,rfl,r5,hx1⟩;have r6:=r2.ext hx1;have r7:=r3.ext hx1;have r8:=r4.ext hx1;have h2:=h0.ext hx1;have hz:=RV.sl r5;obtain⟨a4,cq3,rfl,-,-,-⟩:=hz;refine Za<|nl<|Zr<|Za<|nl<|wp_seq<|Zr<|Zm<|Zv (Ao rfl Tryz.underlying41)<|Zm<|nl<|bS hF fun z1 hB1 hF=>ct (fun L w=>L 4=.int .i64 z1/\L 0=.pointer (some ⟨b0,0,none⟩)/\L 3=.slice a4 x2.length cq3/\Ext w1 w) ?_ ?_
 ·refine wp_block<|lp (I:=fun m L w=>∃y1:Int,∃y2:Int,Eg F x2 m y1 y2=some z1/\L 4=.int .i64 y1/\L 18=.int .i64 y2/\L 0=.pointer (some ⟨b0,0,none⟩)/\L 3=.slice a4 x2.length cq3/\L 16=.slice a4 x2.length cq3/\L 17=.int .i64 (x2.length:Int)/\Ext w1 w) F ⟨_,_,hB1,rfl,rfl,rfl,rfl,rfl,rfl,(Ext.refl _)⟩ ?_;rintro m L w2⟨y1,y2,hB1,l4_i1,l18_i1,l0_i1,l3_i1,l16_i1,l17_i1,K0_i1⟩;rcases m with _|m
  ·rw[Eg]at hB1;cases hB1
  rw[Eg]at hB1;refine Zr<|Zv (BL l18_i1 l17_i1)<|nl<|wp_seq<|cnd rfl (fun h4=>?_) (fun h4=>?_)
  ·have hB1:=Ah hB1 h4;refine wp_skip<|wp_seq<|wp_block<|Zr<|bS hB1 fun x3 Ex3 hB1=>?_;have hz:=(RV.els r5).ix Ex3;obtain⟨b2,f1,cs2,e3,i2,i3,q5,hc1⟩:=hz;cases e3;obtain rfl:=q5;have hc2:=hc1.ext K0_i1;refine Zv (Al l16_i1 l18_i1 Tryz.underlying41 Aa i2 i3)<|Zv (AR rfl Aa (hc2.at 0 rfl))<|Za<|nl<|rg<|Zm<|Zm<|bS hB1 fun x4 Ex4 hB1=>Zc (xc iW (mc l4_i1 (mc rfl mn))) (nL Ex4) ?_;rintro _ w3⟨rfl,hx2⟩;have k3:=K0_i1.tr hx2;refine Za<|nl<|rg<|Zv (Aw l18_i1 rfl)<|Zm<|nl<|lq m (Nat.lt_succ_self _)<|?_;exact⟨_,_,hB1,rfl,rfl,l0_i1,l3_i1,l16_i1,l17_i1,k3⟩
  ·have hB1:=Ai hB1 h4;refine wp_exit<|?_;cases hB1;refine lf<|?_;exact⟨l4_i1,l0_i1,l3_i1,K0_i1⟩
 rintro L w4⟨l4_j1,l0_j1,l3_j1,K0_j1⟩;have k4:=hx1.tr K0_j1;have r17:=r6.ext K0_j1;have r18:=r7.ext K0_j1;have r19:=r8.ext K0_j1;have h6:=h2.ext K0_j1;refine Zr<|Zm<|Zv (Bc l0_j1)<|Zv (AX rfl GJ)<|Zv (AR rfl I7 (h6.at 2 rfl))<|Zv (Ao rfl Tryz.underlying214)<|bS hF fun x5 Ex5 hF=>eH (α:=(Int×Int)) (z0:=(0,0)) rfl rfl Tryz.underlying216 Hg rfl rfl rfl Ex5 fun b3 w5 hx3 o2=>?_;have h7:=h6.ext hx3;refine Za<|nl<|wp_seq<|Zr<|Zm<|Zv (Bc l0_j1)<|Zv (AX rfl GJ)<|Zv (AR rfl I7 (h7.at 2 rfl))<|Zv (Ao rfl Tryz.underlying214)<|Zm<|nl<|bS hF fun z2 hB4 hF=>ct (fun L w=>L 7=(.slice (some ⟨b3,0,none⟩) x5.length x5.length)/\Row 225 w4.heap.size w (.slice (some ⟨b3,0,none⟩) x5.length x5.length) z2/\L 0=.pointer (some ⟨b0,0,none⟩)/\L 3=.slice a4 x2.length cq3/\L 4=.int .i64 z1/\Ext w4 w) ?_ ?_
 ·refine wp_block<|lp (I:=fun m L w=>∃y3:(List (Int×Int)),∃y4:Int,Ei F x0 x2 m y3 y4=some z2/\L 7=(.slice (some ⟨b3,0,none⟩) x5.length x5.length)/\Row 225 w4.heap.size w (.slice (some ⟨b3,0,none⟩) x5.length x5.length) y3/\L 37=.int .i64 y4/\L 0=.pointer (some ⟨b0,0,none⟩)/\L 3=.slice a4 x2.length cq3/\L 4=.int .i64 z1/\L 35=.slice a3 x0.2.2.length cq2/\L 36=.int .i64 (x0.2.2.length:Int)/\Ext w4 w) F ⟨_,_,hB4,rfl,o2,rfl,l0_j1,l3_j1,l4_j1,rfl,rfl,hx3⟩ ?_;rintro m L w6⟨y3,y4,hB4,l7_i4,O7_i4,l37_i4,l0_i4,l3_i4,l4_i4,l35_i4,l36_i4,K0_i4⟩;rcases m with _|m
  ·rw[Ei]at hB4;cases hB4
  rw[Ei]at hB4;have k7:=k4.tr K0_i4;have k8:=K0_j1.tr K0_i4;refine Zr<|Zv (BL l37_i4 l36_i4)<|nl<|wp_seq<|cnd rfl (fun h9=>?_) (fun h9=>?_)
  ·have hB4:=Ah hB4 h9;refine wp_skip<|wp_seq<|wp_block<|Zr<|Zm<|bS hB4 fun x6 Ex6 hB4=>?_;have hz:=(RV.els r4).ix Ex6;obtain⟨b4,f2,cs3,e4,i5,i6,q6,hc3⟩:=hz;cases e4;obtain rfl:=q6;have hc4:=hc3.ext k7;refine Zv (Al l35_i4 l37_i4 Tryz.underlying214 Au i5 i6)<|Zv (Ad rfl Au (BJ _) hc4)<|D5 Au fun b5 w7 hx4 hg1 hb1=>?_;have k10:=k8.tr hx4;have k11:=K0_i4.tr hx4;have hb2:Bx w7 b5 223 (List.flatMap Flat.enc ((Ar.fill 4 0:(Ar 4 Int))).l):=hb1;refine Za<|Nk rfl rfl Au hb2 (BJ _) (BJ _) (IZ _) fun w8 hch1 hb3=>?_;have k13:=Ext.chg k10 hch1 (Nat.le_trans k8.size hg1);have k14:=Ext.chg k11 hch1 (Nat.le_trans K0_i4.size hg1);have k15:=Ext.chg hx4 hch1 (Nat.le_trans (Nat.le_refl _) hg1);have O2:=O7_i4.ext k15;have hb4:Bx w8 b5 223 (List.flatMap Flat.enc x6.l):=hb3;refine nl<|wp_seq<|Zr<|Zm<|Zm<|bS hB4 fun x7 Ex7 hB4=>?_;have hz:=(RV.els r5).ix Ex7;obtain⟨b6,f3,cs4,e5,i7,i8,q7,hc5⟩:=hz;cases e5;obtain rfl:=q7;have hc6:=hc5.ext k13;refine Zv (Al l3_i4 l37_i4 Tryz.underlying41 Aa i7 i8)<|Zv (AR rfl Aa (hc6.at 0 rfl))<|Zv (FE rfl rfl)<|nl<|bS hB4 fun y5 hB6 hB4=>ct (fun L w=>L 7=(.slice (some ⟨b3,0,none⟩) x5.length x5.length)/\Row 225 w4.heap.size w (.slice (some ⟨b3,0,none⟩) x5.length x5.length) y5/\Bx w b5 223 (List.flatMap Flat.enc (x6).l)/\L 0=.pointer (some ⟨b0,0,none⟩)/\L 3=.slice (some ⟨b6,f3,none⟩) x2.length cq3/\L 4=.int .i64 z1/\L 8=.int .i64 y4/\L 9=.pointer (some ⟨b5,0,none⟩)/\L 35=.slice (some ⟨b4,f2,none⟩) x0.2.2.length cq2/\L 36=.int .i64 (x0.2.2.length:Int)/\L 37=.int .i64 y4/\Ext w4 w) ?_ ?_
   ·refine cnd rfl (fun h12=>?_) (fun h12=>?_)
    ·have hB6:=Ah hB6 h12;refine rg<|Zm<|Zm<|bS hB6 fun x8 Ex8 hB6=>?_;have hz:=Gd O2.rv Ex8;obtain⟨cs5,i9,i10,q8,hc7⟩:=hz;obtain⟨_,_,rfl,rfl,rfl⟩:=q8;have i11:y4<(x5.length:Int):=by rw[(RV.cap O2.rv).1];exact i10
     refine Zv (Al l7_i4 l37_i4 Tryz.underlying216 Hg i9 i11)<|Zv (AX rfl MS)<|Uh (l:=y3) (1,x8.2) 0 rfl rfl rfl rfl rfl CX O2 Ex8 rfl (by decide) fun w9 hch2 o4=>?_;have k18:=Ext.chg k14 hch2 (Nat.le_trans (Nat.le_refl _) (Row.ge O2));have hb5:=Bx.chg hb4 hch2 (fun e=>(O7_i4.ne_new hg1) (congrArg some e));refine nl<|?_;cases hB6;refine lf<|?_;exact⟨l7_i4,o4,hb5,l0_i4,l3_i4,l4_i4,l37_i4,rfl,l35_i4,l36_i4,l37_i4,k18⟩
    ·have hB6:=Ai hB6 h12;refine wp_skip<|?_;cases hB6;refine lf<|?_;exact⟨l7_i4,O2,hb4,l0_i4,l3_i4,l4_i4,l37_i4,rfl,l35_i4,l36_i4,l37_i4,k14⟩
   rintro L w10⟨l7_j2,O7_j2,B9_j2,l0_j2,l3_j2,l4_j2,l8_j2,l9_j2,l35_j2,l36_j2,l37_j2,K0_j2⟩;have h14:=h6.ext K0_j2;refine Zr<|Zm<|Zv (Bc l0_j2)<|Zv (AX rfl GJ)<|Zv (AR rfl I7 (h14.at 2 rfl))<|Zm<|Zm<|bS hB4 fun x9 Ex9 hB4=>?_;have hz:=wX r4 Ex9 Tryz.underlying214 Au;obtain⟨a5,r45,hr1⟩:=hz;refine Zv (hr1 _ _ _ _ _ _ _ _ _ _ _ rfl l8_j2 l8_j2)<|Zv (Ao rfl Tryz.underlying214)<|Zm<|nl<|bS hB4 fun z3 hB9 hB4=>ct (fun L w=>L 7=(.slice (some ⟨b3,0,none⟩) x5.length x5.length)/\Row 225 w4.heap.size w (.slice (some ⟨b3,0,none⟩) x5.length x5.length) z3/\L 0=.pointer (some ⟨b0,0,none⟩)/\L 3=.slice (some ⟨b6,f3,none⟩) x2.length cq3/\L 4=.int .i64 z1/\L 35=.slice (some ⟨b4,f2,none⟩) x0.2.2.length cq2/\L 36=.int .i64 (x0.2.2.length:Int)/\L 37=.int .i64 y4/\Ext w4 w) ?_ ?_
   ·refine wp_block<|lp (I:=fun m L w=>∃y6:(List (Int×Int)),∃y7:Int,Eh F x0 x2 x6 x9 y4 m y6 y7=some z3/\L 7=(.slice (some ⟨b3,0,none⟩) x5.length x5.length)/\Row 225 w4.heap.size w (.slice (some ⟨b3,0,none⟩) x5.length x5.length) y6/\L 59=.int .i64 y7/\Bx w b5 223 (List.flatMap Flat.enc (x6).l)/\L 0=.pointer (some ⟨b0,0,none⟩)/\L 3=.slice (some ⟨b6,f3,none⟩) x2.length cq3/\L 4=.int .i64 z1/\L 8=.int .i64 y4/\L 9=.pointer (some ⟨b5,0,none⟩)/\L 35=.slice (some ⟨b4,f2,none⟩) x0.2.2.length cq2/\L 36=.int .i64 (x0.2.2.length:Int)/\L 37=.int .i64 y4/\L 57=.slice a5 x9.length x9.length/\L 58=.int .i64 (x9.length:Int)/\Ext w4 w) F ⟨_,_,hB9,l7_j2,O7_j2,rfl,B9_j2,l0_j2,l3_j2,l4_j2,l8_j2,l9_j2,l35_j2,l36_j2,l37_j2,rfl,rfl,K0_j2⟩ ?_;rintro m L w11⟨y6,y7,hB9,l7_i12,O7_i12,l59_i12,B9_i12,l0_i12,l3_i12,l4_i12,l8_i12,l9_i12,l35_i12,l36_i12,l37_i12,l57_i12,l58_i12,K0_i12⟩;rcases m with _|m
    ·rw[Eh]at hB9;cases hB9
    rw[Eh]at hB9;have k21:=k4.tr K0_i12;have k22:=K0_j1.tr K0_i12;have r47:=r17.ext K0_i12;have r48:=r18.ext K0_i12;have r49:=r19.ext K0_i12;have h15:=h6.ext K0_i12;refine Zr<|Zv (BL l59_i12 l58_i12)<|nl<|wp_seq<|cnd rfl (fun h16=>?_) (fun h16=>?_)
    ·have hB9:=Ah hB9 h16;refine wp_skip<|wp_seq<|bS hB9 fun y8 hB11 hB9=>ct (fun L w=>L 7=(.slice (some ⟨b3,0,none⟩) x5.length x5.length)/\Row 225 w4.heap.size w (.slice (some ⟨b3,0,none⟩) x5.length x5.length) y8/\Bx w b5 223 (List.flatMap Flat.enc (x6).l)/\L 0=.pointer (some ⟨b0,0,none⟩)/\L 3=.slice (some ⟨b6,f3,none⟩) x2.length cq3/\L 4=.int .i64 z1/\L 8=.int .i64 y4/\L 9=.pointer (some ⟨b5,0,none⟩)/\L 35=.slice (some ⟨b4,f2,none⟩) x0.2.2.length cq2/\L 36=.int .i64 (x0.2.2.length:Int)/\L 37=.int .i64 y4/\L 57=.slice a5 x9.length x9.length/\L 58=.int .i64 (x9.length:Int)/\L 59=.int .i64 y7/\Ext w4 w) ?_ ?_
     ·refine wp_block<|Zr<|Zm<|bS hB11 fun x10 Ex10 hB11=>?_;have hz:=(RV.els r45).ix Ex10;obtain⟨b7,f4,cs6,e6,i13,i14,q9,hc8⟩:=hz;cases e6;obtain rfl:=q9;have hc9:=hc8.ext k21;refine Zv (Al l57_i12 l59_i12 Tryz.underlying214 Au i13 i14)<|Zv (Ad rfl Au (BJ _) hc9)<|D5 Au fun b8 w12 hx5 hg2 hb6=>?_;have k24:=k22.tr hx5;have k25:=K0_i12.tr hx5;have hb8:Bx w12 b8 223 (List.flatMap Flat.enc ((Ar.fill 4 0:(Ar 4 Int))).l):=hb6;refine Za<|Nk rfl rfl Au hb8 (BJ _) (BJ _) (IZ _) fun w13 hch3 hb9=>?_;have k27:=Ext.chg k24 hch3 (Nat.le_trans k22.size hg2);have k28:=Ext.chg k25 hch3 (Nat.le_trans K0_i12.size hg2);have k29:=Ext.chg hx5 hch3 (Nat.le_trans (Nat.le_refl _) hg2);have hb10:=B9_i12.ext k29;have r57:=r47.ext k29;have r58:=r48.ext k29;have r59:=r49.ext k29;have h18:=h15.ext k29;have O4:=O7_i12.ext k29;have hb11:Bx w13 b8 223 (List.flatMap Flat.enc x10.l):=hb9;refine nl<|wp_seq<|Ff [] (.pure true 0 (.pure true 1 (.pure true 2 (.pure false 3 (.pure true 4 (.pure true 5 (.pure true 6 (.pure true 7 (.pure false 8 (.pure true 9 (.pure true 10 (.pure true 11 (.pure false 12 (.pure false 13 (.eff 14 (.pure true 15 .fin) .stop))))))))))))))) mixed (by kernel_rfl) (fun w14 hx6=>?_);have k31:=k27.tr hx6;have k32:=k28.tr hx6;have hb12:=hb10.ext hx6;have hb13:=hb11.ext hx6;have r62:=r57.ext hx6;have r63:=r58.ext hx6;have r64:=r59.ext hx6;have h19:=h18.ext hx6;have O5:=O4.ext hx6;refine Zn rfl<|Zn rfl<|bS hB11 fun x11 Ex11 hB11=>?_;have hz:=Gd r5 Ex11;obtain⟨cs7,i15,i16,q10,hc10⟩:=hz;obtain rfl:=q10;have hc11:=hc10.ext k31;refine Zp rfl (fun _=>Al l3_i12 l59_i12 Tryz.underlying41 Aa i15 i16)<|Zq rfl (fun _ hS=>AR rfl Aa ((hc11.ext (hS.resolve_left nofun)).at 0 rfl)) (Ext.refl _)<|Zp rfl (fun _=>Aw rfl rfl)<|Zn rfl<|Zn rfl<|bS hB11 fun x12 Ex12 hB11=>?_;have hz:=Gd r5 Ex12;obtain⟨cs8,i17,i18,q11,hc12⟩:=hz;obtain rfl:=q11;have hc13:=hc12.ext k31;refine Zp rfl (fun _=>Al l3_i12 l8_i12 Tryz.underlying41 Aa i17 i18)<|Zq rfl (fun _ hS=>AR rfl Aa ((hc13.ext (hS.resolve_left nofun)).at 0 rfl)) (Ext.refl _)<|Zp rfl (fun _=>FE rfl rfl)<|Zn rfl<|mH rfl rfl rfl rfl rfl (CB rfl) rfl (fun hc=>(fun _ _=>Aq l0_i12)) (.inl rfl)<|mH rfl rfl rfl rfl rfl (CB rfl) rfl (fun hc=>(fun _ hS=>Ad rfl Au (BJ _) (Bx.cs (hb13.ext (hS.resolve_left nofun))))) (.inr (Ext.refl _))<|mH rfl rfl rfl rfl rfl (CB rfl) rfl (fun hc=>(fun _ hS=>Ad l9_i12 Au (BJ _) (Bx.cs (hb12.ext (hS.resolve_left nofun))))) (.inr (Ext.refl _))<|bS hB11 fun x13 Ex13 hB11=>Br rfl<|gc rfl rfl rfl rfl (CB rfl) rfl (fun hc=>xc Qw (mc (mv hc rfl) (mc (mv hc rfl) (mc (mv hc rfl) mn)))) (fun hc=>(VG (x0:=(x0.1,x0.2.1,x0.2.2)) h19 ⟨[.pointer a1],[.slice a2 x0.2.1.length cq1]++[.slice (some ⟨b4,f2,none⟩) x0.2.2.length cq2],rfl,(Db r62),[.slice a2 x0.2.1.length cq1],[.slice (some ⟨b4,f2,none⟩) x0.2.2.length cq2],rfl,r63.rep1,r64.rep1⟩ (show RV (α:=(Ar 4 Int)) _ (.agg (List.flatMap Flat.enc x10.l).toArray) x10 from⟨_,rfl,rfl⟩) (show RV (α:=(Ar 4 Int)) _ (.agg (List.flatMap Flat.enc x6.l).toArray) x6 from⟨_,rfl,rfl⟩) (Ot Ex13 hc))) (fun v2 w15 hy1 hn1=>?_);have hx7:Ext w14 w15:=gx (fun h=>(hy1 h).2) (fun h=>(hn1 h).2▸Ext.refl _);have e7:=Ou (fun h=>(hy1 h).1) (fun h=>(hn1 h).1);have k36:=k32.tr hx7;have hb14:=hb12.ext hx7;have O6:=O5.ext hx7;refine nl ⟨fun _ _=>hx7,?_⟩;refine Zp rfl (fun _=>Ky rfl e7 rfl)<|bS hB11 fun y9 hB12 hB11=>ct (fun L w=>L 7=(.slice (some ⟨b3,0,none⟩) x5.length x5.length)/\Row 225 w4.heap.size w (.slice (some ⟨b3,0,none⟩) x5.length x5.length) y9/\Bx w b5 223 (List.flatMap Flat.enc (x6).l)/\L 0=.pointer (some ⟨b0,0,none⟩)/\L 3=.slice (some ⟨b6,f3,none⟩) x2.length cq3/\L 4=.int .i64 z1/\L 8=.int .i64 y4/\L 9=.pointer (some ⟨b5,0,none⟩)/\L 35=.slice (some ⟨b4,f2,none⟩) x0.2.2.length cq2/\L 36=.int .i64 (x0.2.2.length:Int)/\L 37=.int .i64 y4/\L 57=.slice (some ⟨b7,f4,none⟩) x9.length x9.length/\L 58=.int .i64 (x9.length:Int)/\L 59=.int .i64 y7/\Ext w4 w) ?_ ?_
      ·refine cnd rfl (fun h21=>?_) (fun h21=>?_)
       ·have hB12:=Ah hB12 h21;refine Ff [13] (.pure true 0 (.pure true 1 (.pure true 2 (.pure true 3 (.pure false 4 (.pure true 5 (.pure true 6 (.pure true 7 (.pure true 8 (.pure false 9 (.pure true 10 (.pure true 11 (.pure true 12 (.eff 13 .fin .stop)))))))))))))) mixed (by kernel_rfl) (fun w16 hx8=>?_);have k40:=k36.tr hx8;have hb15:=hb14.ext hx8;have O7:=O6.ext hx8;refine Zn rfl<|Zn rfl<|bS hB12 fun x14 Ex14 hB12=>?_;have hz:=Gd O7.rv Ex14;obtain⟨cs9,i19,i20,q12,hc14⟩:=hz;obtain⟨_,_,rfl,rfl,rfl⟩:=q12;have i21:y4<(x5.length:Int):=by rw[(RV.cap O7.rv).1];exact i20
        refine Zp rfl (fun _=>Al l7_i12 l8_i12 Tryz.underlying216 Hg i19 i21)<|Zp rfl (fun _=>AX rfl MS)<|Zq rfl (fun _ hS=>AR rfl CX ((hc14.ext (hS.resolve_left nofun)).at 0 rfl)) (Ext.refl _)<|Zn rfl<|Zn rfl<|bS hB12 fun x15 Ex15 hB12=>?_;have hz:=Gd O7.rv Ex15;obtain⟨cs10,i22,i23,q13,hc15⟩:=hz;obtain⟨_,_,rfl,rfl,rfl⟩:=q13;have i24:y7<(x5.length:Int):=by rw[(RV.cap O7.rv).1];exact i23
        refine Zp rfl (fun _=>Al l7_i12 l59_i12 Tryz.underlying216 Hg i22 i24)<|Zp rfl (fun _=>AX rfl MS)<|Zq rfl (fun _ hS=>AR rfl CX ((hc15.ext (hS.resolve_left nofun)).at 0 rfl)) (Ext.refl _)<|Zp rfl (fun _=>Aw rfl rfl)<|bS hB12 fun x16 Ex16 hB12=>?_;have hz:=Gd O7.rv Ex16;obtain⟨cs11,i25,i26,q14,hc16⟩:=hz;obtain⟨_,_,rfl,rfl,rfl⟩:=q14;have i27:y4<(x5.length:Int):=by rw[(RV.cap O7.rv).1];exact i26
        refine Zp rfl (fun _=>Al l7_i12 l8_i12 Tryz.underlying216 Hg i25 i27)<|Zp rfl (fun _=>AX rfl MS)<|Br rfl<|Uh (l:=y6) (AZ (x14.1+x15.1),x16.2) 0 rfl rfl rfl rfl rfl CX O7 Ex16 rfl (by decide) fun w17 hch4 o6=>?_;have k45:=Ext.chg k40 hch4 (Nat.le_trans (Nat.le_refl _) (Row.ge O7));have hb16:=Bx.chg hb15 hch4 (fun e=>(O7_i4.ne_new hg1) (congrArg some e));refine nl ⟨fun h=>(h (by decide)).elim,?_⟩;cases hB12;refine lf<|?_;exact⟨l7_i12,o6,hb16,l0_i12,l3_i12,l4_i12,l8_i12,l9_i12,l35_i12,l36_i12,l37_i12,l57_i12,l58_i12,l59_i12,k45⟩
       ·have hB12:=Ai hB12 h21;refine wp_skip<|?_;cases hB12;refine lf<|?_;exact⟨l7_i12,O6,hb14,l0_i12,l3_i12,l4_i12,l8_i12,l9_i12,l35_i12,l36_i12,l37_i12,l57_i12,l58_i12,l59_i12,k36⟩
      rintro L w18⟨l7_j3,O7_j3,B9_j3,l0_j3,l3_j3,l4_j3,l8_j3,l9_j3,l35_j3,l36_j3,l37_j3,l57_j3,l58_j3,l59_j3,K0_j3⟩;cases hB11;refine lf<|?_;exact⟨l7_j3,O7_j3,B9_j3,l0_j3,l3_j3,l4_j3,l8_j3,l9_j3,l35_j3,l36_j3,l37_j3,l57_j3,l58_j3,l59_j3,K0_j3⟩
     rintro L w19⟨l7_j4,O7_j4,B9_j4,l0_j4,l3_j4,l4_j4,l8_j4,l9_j4,l35_j4,l36_j4,l37_j4,l57_j4,l58_j4,l59_j4,K0_j4⟩;refine rg<|Zv (Aw l59_j4 rfl)<|Zm<|nl<|lq m (Nat.lt_succ_self _)<|?_;exact⟨_,_,hB9,l7_j4,O7_j4,rfl,B9_j4,l0_j4,l3_j4,l4_j4,l8_j4,l9_j4,l35_j4,l36_j4,l37_j4,l57_j4,l58_j4,K0_j4⟩
    ·have hB9:=Ai hB9 h16;refine wp_exit<|?_;cases hB9;refine lf<|?_;exact⟨l7_i12,O7_i12,l0_i12,l3_i12,l4_i12,l35_i12,l36_i12,l37_i12,K0_i12⟩
   rintro L w20⟨l7_j5,O7_j5,l0_j5,l3_j5,l4_j5,l35_j5,l36_j5,l37_j5,K0_j5⟩;refine rg<|Zv (Aw l37_j5 rfl)<|Zm<|nl<|lq m (Nat.lt_succ_self _)<|?_;exact⟨_,_,hB4,l7_j5,O7_j5,rfl,l0_j5,l3_j5,l4_j5,l35_j5,l36_j5,K0_j5⟩
  ·have hB4:=Ai hB4 h9;refine wp_exit<|?_;cases hB4;refine lf<|?_;exact⟨l7_i4,O7_i4,l0_i4,l3_i4,l4_i4,K0_i4⟩
 rintro L w21⟨l7_j6,O7_j6,l0_j6,l3_j6,l4_j6,K0_j6⟩;have h27:=h6.ext K0_j6;refine wp_seq<|Zr<|Zm<|Zv (Bc l0_j6)<|Zv (AX rfl GJ)<|Zv (AR rfl I7 (h27.at 2 rfl))<|Zv (Ao rfl Tryz.underlying214)<|Zv (IV rfl rfl)<|Za<|nl<|bS hF fun z4 hB17 hF=>ct (fun L w=>L 7=(.slice (some ⟨b3,0,none⟩) x5.length x5.length)/\Row 225 w4.heap.size w (.slice (some ⟨b3,0,none⟩) x5.length x5.length) z4/\Ext w4 w) ?_ ?_
 ·refine wp_block<|lp (I:=fun m L w=>∃y10:(List (Int×Int)),∃y11:Int,Dl F x0 x2 z1 m y10 y11=some z4/\L 7=(.slice (some ⟨b3,0,none⟩) x5.length x5.length)/\Row 225 w4.heap.size w (.slice (some ⟨b3,0,none⟩) x5.length x5.length) y10/\L 12=.int .i64 y11/\L 0=.pointer (some ⟨b0,0,none⟩)/\L 3=.slice a4 x2.length cq3/\L 4=.int .i64 z1/\Ext w4 w) F ⟨_,_,hB17,l7_j6,O7_j6,rfl,l0_j6,l3_j6,l4_j6,K0_j6⟩ ?_;rintro m L w22⟨y10,y11,hB17,l7_i28,O7_i28,l12_i28,l0_i28,l3_i28,l4_i28,K0_i28⟩;rcases m with _|m
  ·rw[Dl]at hB17;cases hB17
  rw[Dl]at hB17;have k55:=K0_j1.tr K0_i28;refine wp_seq<|Zr<|Zm<|Zv (Kw l12_i28 rfl)<|nl<|cnd rfl (fun h29=>?_) (fun h29=>?_)
  ·have hB17:=Ah hB17 h29;refine wp_skip<|wp_seq<|wp_block<|wp_seq<|Zr<|Zm<|Zm<|bS hB17 fun x17 Ex17 hB17=>?_;have hz:=(RV.els r5).ix Ex17;obtain⟨b9,f5,cs12,e8,i29,i30,q15,hc17⟩:=hz;cases e8;obtain rfl:=q15;have hc18:=hc17.ext k55;refine Zv (Al l3_i28 l12_i28 Tryz.underlying41 Aa i29 i30)<|Zv (AR rfl Aa (hc18.at 0 rfl))<|Zm<|Zv (FE rfl l4_i28)<|nl<|bS hB17 fun y12 hB19 hB17=>ct (fun L w=>L 7=(.slice (some ⟨b3,0,none⟩) x5.length x5.length)/\Row 225 w4.heap.size w (.slice (some ⟨b3,0,none⟩) x5.length x5.length) y12/\L 0=.pointer (some ⟨b0,0,none⟩)/\L 3=.slice (some ⟨b9,f5,none⟩) x2.length cq3/\L 4=.int .i64 z1/\L 12=.int .i64 y11/\Ext w4 w) ?_ ?_
   ·refine cnd rfl (fun h30=>?_) (fun h30=>?_)
    ·have hB19:=Ah hB19 h30;refine rg<|Zm<|Zm<|bS hB19 fun x18 Ex18 hB19=>?_;have hz:=Gd O7_i28.rv Ex18;obtain⟨cs13,i31,i32,q16,hc19⟩:=hz;obtain⟨_,_,rfl,rfl,rfl⟩:=q16;have i33:y11<(x5.length:Int):=by rw[(RV.cap O7_i28.rv).1];exact i32
     refine Zv (Al l7_i28 l12_i28 Tryz.underlying216 Hg i31 i33)<|Zv (AX rfl MU)<|Uh (l:=y10) (x18.1,1) 1 rfl rfl rfl rfl rfl CX O7_i28 Ex18 rfl (by decide) fun w23 hch5 o8=>?_;have k58:=Ext.chg K0_i28 hch5 (Nat.le_trans (Nat.le_refl _) (Row.ge O7_i28));refine nl<|?_;cases hB19;refine lf<|?_;exact⟨l7_i28,o8,l0_i28,l3_i28,l4_i28,l12_i28,k58⟩
    ·have hB19:=Ai hB19 h30;refine wp_skip<|?_;cases hB19;refine lf<|?_;exact⟨l7_i28,O7_i28,l0_i28,l3_i28,l4_i28,l12_i28,K0_i28⟩
   rintro L w24⟨l7_j7,O7_j7,l0_j7,l3_j7,l4_j7,l12_j7,K0_j7⟩;refine Zr<|Zm<|Zv (Aw l12_j7 rfl)<|Za<|nl<|bS hB17 fun z5 hB22 hB17=>ct (fun L w=>L 7=(.slice (some ⟨b3,0,none⟩) x5.length x5.length)/\Row 225 w4.heap.size w (.slice (some ⟨b3,0,none⟩) x5.length x5.length) z5/\L 0=.pointer (some ⟨b0,0,none⟩)/\L 3=.slice (some ⟨b9,f5,none⟩) x2.length cq3/\L 4=.int .i64 z1/\L 12=.int .i64 y11/\Ext w4 w) ?_ ?_
   ·refine wp_block<|lp (I:=fun m L w=>∃y13:(List (Int×Int)),∃y14:Int,Ej F x0 x2 y11 m y13 y14=some z5/\L 7=(.slice (some ⟨b3,0,none⟩) x5.length x5.length)/\Row 225 w4.heap.size w (.slice (some ⟨b3,0,none⟩) x5.length x5.length) y13/\L 13=.int .i64 y14/\L 0=.pointer (some ⟨b0,0,none⟩)/\L 3=.slice (some ⟨b9,f5,none⟩) x2.length cq3/\L 4=.int .i64 z1/\L 12=.int .i64 y11/\Ext w4 w) F ⟨_,_,hB22,l7_j7,O7_j7,rfl,l0_j7,l3_j7,l4_j7,l12_j7,K0_j7⟩ ?_;rintro m L w25⟨y13,y14,hB22,l7_i34,O7_i34,l13_i34,l0_i34,l3_i34,l4_i34,l12_i34,K0_i34⟩;rcases m with _|m
    ·rw[Ej]at hB22;cases hB22
    rw[Ej]at hB22;have k61:=k4.tr K0_i34;have k62:=K0_j1.tr K0_i34;have r112:=r17.ext K0_i34;have r113:=r18.ext K0_i34;have r114:=r19.ext K0_i34;have h33:=h6.ext K0_i34;refine wp_seq<|Zr<|Zm<|Zm<|Zv (Bc l0_i34)<|Zv (AX rfl GJ)<|Zv (AR rfl I7 (h33.at 2 rfl))<|Zv (Ao rfl Tryz.underlying214)<|Zv (BL l13_i34 rfl)<|nl<|cnd rfl (fun h34=>?_) (fun h34=>?_)
    ·have hB22:=Ah hB22 h34;refine wp_skip<|wp_seq<|bS hB22 fun y15 hB24 hB22=>ct (fun L w=>L 7=(.slice (some ⟨b3,0,none⟩) x5.length x5.length)/\Row 225 w4.heap.size w (.slice (some ⟨b3,0,none⟩) x5.length x5.length) y15/\L 0=.pointer (some ⟨b0,0,none⟩)/\L 3=.slice (some ⟨b9,f5,none⟩) x2.length cq3/\L 4=.int .i64 z1/\L 12=.int .i64 y11/\L 13=.int .i64 y14/\Ext w4 w) ?_ ?_
     ·refine wp_block<|wp_seq<|bS hB24 fun y16 hB25 hB24=>ct (fun L w=>L 166=.bool y16/\L 0=.pointer (some ⟨b0,0,none⟩)/\L 3=.slice (some ⟨b9,f5,none⟩) x2.length cq3/\L 4=.int .i64 z1/\L 7=.slice (some ⟨b3,0,none⟩) x5.length x5.length/\L 12=.int .i64 y11/\L 13=.int .i64 y14/\w4.heap.size<=w.heap.size/\Ext w25 w) ?_ ?_
      ·refine Ff [] (.pure true 0 (.pure true 1 (.pure true 2 (.pure false 3 (.pure true 4 (.pure true 5 (.pure true 6 (.pure true 7 (.pure false 8 (.pure true 9 (.pure true 10 (.pure true 11 (.pure true 12 (.pure true 13 (.pure true 14 (.pure false 15 (.pure true 16 (.pure true 17 (.pure true 18 (.pure true 19 (.pure false 20 (.pure true 21 (.pure true 22 (.pure true 23 (.pure true 24 (.pure true 25 (.pure true 26 (.pure true 27 (.pure false 28 (.pure true 29 (.pure true 30 (.pure false 31 (.pure true 32 (.pure true 33 (.pure true 34 (.pure false 35 (.pure true 36 (.pure true 37 (.pure false 38 (.eff 39 (.pure true 40 .fin) .stop)))))))))))))))))))))))))))))))))))))))) mixed (by kernel_rfl) (fun w27 hx10=>?_);have k66:=k61.tr hx10;have k67:=k62.tr hx10;have k68:=K0_i34.tr hx10;have r120:=r112.ext hx10;have r121:=r113.ext hx10;have r122:=r114.ext hx10;have h36:=h33.ext hx10;have O9:=O7_i34.ext hx10;refine Zn rfl<|Zn rfl<|bS hB25 fun x21 Ex21 hB25=>?_;have hz:=Gd O9.rv Ex21;obtain⟨cs16,i41,i42,q19,hc22⟩:=hz;obtain⟨_,_,rfl,rfl,rfl⟩:=q19;have i43:y14<(x5.length:Int):=by rw[(RV.cap O9.rv).1];exact i42
       refine Zp rfl (fun _=>Al l7_i34 l13_i34 Tryz.underlying216 Hg i41 i43)<|Zq rfl (fun _ hS=>Ad rfl Hg rfl (hc22.ext (hS.resolve_left nofun))) (Ext.refl _)<|Zn rfl<|Zn rfl<|bS hB25 fun x22 Ex22 hB25=>?_;have hz:=Gd O9.rv Ex22;obtain⟨cs17,i44,i45,q20,hc23⟩:=hz;obtain⟨_,_,rfl,rfl,rfl⟩:=q20;have i46:y14<(x5.length:Int):=by rw[(RV.cap O9.rv).1];exact i45
       refine Zp rfl (fun _=>Al l7_i34 l13_i34 Tryz.underlying216 Hg i44 i46)<|Zp rfl (fun _=>AX rfl MS)<|Zq rfl (fun _ hS=>AR rfl CX ((hc23.ext (hS.resolve_left nofun)).at 0 rfl)) (Ext.refl _)<|Zp rfl (fun _=>IW (r:=[.int .i64 x22.1,.int .i64 0]) Hg qP (pc rfl (pc rfl pn)) rfl)<|Zp rfl (fun _=>vR (α:=(Int×Int)) (a:=(x21.1,x21.2)) (b:=(x22.1,0)) rfl qZ qY rfl rfl rfl rfl rfl)<|Zn rfl<|Or.elim (Bool.eq_false_or_eq_true (!decide ((x21.1,x21.2)=(x22.1,0)))) (fun h37=>?_) (fun h37=>?_)
       ·have hB25:=Ah hB25 h37;refine Yt rfl (bt h37) (fun _=>Cv)<|Yt rfl (bt h37) (fun _=>Cv)<|bS hB25 fun x23 Ex23 hB25=>?_;have hz:=Gd r5 Ex23;obtain⟨cs18,i47,i48,q21,hc24⟩:=hz;obtain rfl:=q21;have hc25:=hc24.ext k67;refine Yt rfl (bt h37) (fun _=>Al l3_i34 l12_i34 Tryz.underlying41 Aa i47 i48)<|Yi rfl (bt h37) (fun _ hS=>AR rfl Aa ((hc25.ext (hS.resolve_left nofun)).at 0 rfl)) (Ext.refl _)<|Yt rfl (bt h37) (fun _=>Aw rfl rfl)<|Yt rfl (bt h37) (fun _=>Cv)<|Yt rfl (bt h37) (fun _=>Cv)<|bS hB25 fun x24 Ex24 hB25=>?_;have hz:=Gd r5 Ex24;obtain⟨cs19,i49,i50,q22,hc26⟩:=hz;obtain rfl:=q22;have hc27:=hc26.ext k67;refine Yt rfl (bt h37) (fun _=>Al l3_i34 l13_i34 Tryz.underlying41 Aa i49 i50)<|Yi rfl (bt h37) (fun _ hS=>AR rfl Aa ((hc27.ext (hS.resolve_left nofun)).at 0 rfl)) (Ext.refl _)<|Yt rfl (bt h37) (fun _=>FE rfl rfl)<|Zp rfl (fun _=>GD rfl h37 rfl)<|Zn rfl<|Or.elim (Bool.eq_false_or_eq_true (decide ((AZ (x23+1))=x24))) (fun h38=>?_) (fun h38=>?_)
        ·have hB25:=Ah hB25 h38;refine Yt rfl (bt h38) (fun _=>Cv)<|Yt rfl (bt h38) (fun _=>Cv)<|Yt rfl (bt h38) (fun _=>Bc l0_i34)<|Yt rfl (bt h38) (fun _=>AX rfl GJ)<|Yi rfl (bt h38) (fun _ hS=>AR rfl I7 ((h36.ext (hS.resolve_left nofun)).at 2 rfl)) (Ext.refl _)<|Yt rfl (bt h38) (fun _=>Cv)<|bS hB25 fun x25 Ex25 hB25=>?_;have hz:=(RV.els r4).ix Ex25;obtain⟨b10,f6,cs20,e9,i51,i52,q23,hc28⟩:=hz;cases e9;obtain rfl:=q23;have hc29:=hc28.ext k66;refine Yt rfl (bt h38) (fun _=>Al rfl l12_i34 Tryz.underlying214 Au i51 i52)<|Yi rfl (bt h38) (fun _ hS=>Ad rfl Au (BJ _) (hc29.ext (hS.resolve_left nofun))) (Ext.refl _)<|Yt rfl (bt h38) (fun _=>Cv)<|Yt rfl (bt h38) (fun _=>Bc l0_i34)<|Yt rfl (bt h38) (fun _=>AX rfl GJ)<|Yi rfl (bt h38) (fun _ hS=>AR rfl I7 ((h36.ext (hS.resolve_left nofun)).at 2 rfl)) (Ext.refl _)<|Yt rfl (bt h38) (fun _=>Cv)<|bS hB25 fun x26 Ex26 hB25=>?_;have hz:=Gd r4 Ex26;obtain⟨cs21,i53,i54,q24,hc30⟩:=hz;obtain rfl:=q24;have hc31:=hc30.ext k66;refine Yt rfl (bt h38) (fun _=>Al rfl l13_i34 Tryz.underlying214 Au i53 i54)<|Yi rfl (bt h38) (fun _ hS=>Ad rfl Au (BJ _) (hc31.ext (hS.resolve_left nofun))) (Ext.refl _)<|bS hB25 fun x27 Ex27 hB25=>Br rfl<|Gt rfl (bt h38)<|Zc (xc Qw (mc l0_i34 (mc rfl (mc rfl mn)))) (VG (x0:=(x0.1,x0.2.1,x0.2.2)) h36 ⟨[.pointer a1],[.slice a2 x0.2.1.length cq1]++[.slice (some ⟨b10,f6,none⟩) x0.2.2.length cq2],rfl,(Db r120),[.slice a2 x0.2.1.length cq1],[.slice (some ⟨b10,f6,none⟩) x0.2.2.length cq2],rfl,r121.rep1,r122.rep1⟩ (show RV (α:=(Ar 4 Int)) _ (.agg (List.flatMap Flat.enc x25.l).toArray) x25 from⟨_,rfl,rfl⟩) (show RV (α:=(Ar 4 Int)) _ (.agg (List.flatMap Flat.enc x26.l).toArray) x26 from⟨_,rfl,rfl⟩) Ex27) ?_;rintro _ w28⟨rfl,hx11⟩;have k71:=k68.tr hx11;have k72:=hx10.tr hx11;refine nl ⟨fun _ _=>hx11,?_⟩;refine Zp rfl (fun _=>GD rfl h38 rfl)<|?_;cases hB25;refine lf<|?_;exact⟨rfl,l0_i34,l3_i34,l4_i34,l7_i34,l12_i34,l13_i34,k71.size,k72⟩
        ·have hB25:=Ai hB25 h38;refine Yf rfl (Ae h38)<|Yf rfl (Ae h38)<|Yf rfl (Ae h38)<|Yf rfl (Ae h38)<|Yh rfl (Ae h38) (Ext.refl _)<|Yf rfl (Ae h38)<|Yf rfl (Ae h38)<|Yh rfl (Ae h38) (Ext.refl _)<|Yf rfl (Ae h38)<|Yf rfl (Ae h38)<|Yf rfl (Ae h38)<|Yh rfl (Ae h38) (Ext.refl _)<|Yf rfl (Ae h38)<|Yf rfl (Ae h38)<|Yh rfl (Ae h38) (Ext.refl _)<|Br rfl<|Gk rfl (Ae h38)<|nl ⟨fun _ _=>(Ext.refl _),?_⟩;refine Zp rfl (fun _=>H8 rfl h38 rfl)<|?_;cases hB25;refine lf<|?_;exact⟨rfl,l0_i34,l3_i34,l4_i34,l7_i34,l12_i34,l13_i34,k68.size,hx10⟩
       ·have hB25:=Ai hB25 h37;refine Yf rfl (Ae h37)<|Yf rfl (Ae h37)<|Yf rfl (Ae h37)<|Yh rfl (Ae h37) (Ext.refl _)<|Yf rfl (Ae h37)<|Yf rfl (Ae h37)<|Yf rfl (Ae h37)<|Yf rfl (Ae h37)<|Yh rfl (Ae h37) (Ext.refl _)<|Yf rfl (Ae h37)<|Zp rfl (fun _=>H8 rfl h37 rfl)<|Zn rfl<|Or.elim (Bool.eq_false_or_eq_true false) (fun h40=>?_) (fun h40=>?_)
        ·have hB25:=Ah hB25 h40;refine Yt rfl (bt h40) (fun _=>Cv)<|Yt rfl (bt h40) (fun _=>Cv)<|Yt rfl (bt h40) (fun _=>Bc l0_i34)<|Yt rfl (bt h40) (fun _=>AX rfl GJ)<|Yi rfl (bt h40) (fun _ hS=>AR rfl I7 ((h36.ext (hS.resolve_left nofun)).at 2 rfl)) (Ext.refl _)<|Yt rfl (bt h40) (fun _=>Cv)<|bS hB25 fun x28 Ex28 hB25=>?_;have hz:=(RV.els r4).ix Ex28;obtain⟨b11,f7,cs22,e10,i55,i56,q25,hc32⟩:=hz;cases e10;obtain rfl:=q25;have hc33:=hc32.ext k66;refine Yt rfl (bt h40) (fun _=>Al rfl l12_i34 Tryz.underlying214 Au i55 i56)<|Yi rfl (bt h40) (fun _ hS=>Ad rfl Au (BJ _) (hc33.ext (hS.resolve_left nofun))) (Ext.refl _)<|Yt rfl (bt h40) (fun _=>Cv)<|Yt rfl (bt h40) (fun _=>Bc l0_i34)<|Yt rfl (bt h40) (fun _=>AX rfl GJ)<|Yi rfl (bt h40) (fun _ hS=>AR rfl I7 ((h36.ext (hS.resolve_left nofun)).at 2 rfl)) (Ext.refl _)<|Yt rfl (bt h40) (fun _=>Cv)<|bS hB25 fun x29 Ex29 hB25=>?_;have hz:=Gd r4 Ex29;obtain⟨cs23,i57,i58,q26,hc34⟩:=hz;obtain rfl:=q26;have hc35:=hc34.ext k66;refine Yt rfl (bt h40) (fun _=>Al rfl l13_i34 Tryz.underlying214 Au i57 i58)<|Yi rfl (bt h40) (fun _ hS=>Ad rfl Au (BJ _) (hc35.ext (hS.resolve_left nofun))) (Ext.refl _)<|bS hB25 fun x30 Ex30 hB25=>Br rfl<|Gt rfl (bt h40)<|Zc (xc Qw (mc l0_i34 (mc rfl (mc rfl mn)))) (VG (x0:=(x0.1,x0.2.1,x0.2.2)) h36 ⟨[.pointer a1],[.slice a2 x0.2.1.length cq1]++[.slice (some ⟨b11,f7,none⟩) x0.2.2.length cq2],rfl,(Db r120),[.slice a2 x0.2.1.length cq1],[.slice (some ⟨b11,f7,none⟩) x0.2.2.length cq2],rfl,r121.rep1,r122.rep1⟩ (show RV (α:=(Ar 4 Int)) _ (.agg (List.flatMap Flat.enc x28.l).toArray) x28 from⟨_,rfl,rfl⟩) (show RV (α:=(Ar 4 Int)) _ (.agg (List.flatMap Flat.enc x29.l).toArray) x29 from⟨_,rfl,rfl⟩) Ex30) ?_;rintro _ w29⟨rfl,hx12⟩;have k75:=k68.tr hx12;have k76:=hx10.tr hx12;refine nl ⟨fun _ _=>hx12,?_⟩;refine Zp rfl (fun _=>GD rfl h40 rfl)<|?_;cases hB25;refine lf<|?_;exact⟨rfl,l0_i34,l3_i34,l4_i34,l7_i34,l12_i34,l13_i34,k75.size,k76⟩
        ·have hB25:=Ai hB25 h40;refine Yf rfl (Ae h40)<|Yf rfl (Ae h40)<|Yf rfl (Ae h40)<|Yf rfl (Ae h40)<|Yh rfl (Ae h40) (Ext.refl _)<|Yf rfl (Ae h40)<|Yf rfl (Ae h40)<|Yh rfl (Ae h40) (Ext.refl _)<|Yf rfl (Ae h40)<|Yf rfl (Ae h40)<|Yf rfl (Ae h40)<|Yh rfl (Ae h40) (Ext.refl _)<|Yf rfl (Ae h40)<|Yf rfl (Ae h40)<|Yh rfl (Ae h40) (Ext.refl _)<|Br rfl<|Gk rfl (Ae h40)<|nl ⟨fun _ _=>(Ext.refl _),?_⟩;refine Zp rfl (fun _=>H8 rfl h40 rfl)<|?_;cases hB25;refine lf<|?_;exact⟨rfl,l0_i34,l3_i34,l4_i34,l7_i34,l12_i34,l13_i34,k68.size,hx10⟩
      rintro L w30⟨l166_j8,l0_j8,l3_j8,l4_j8,l7_j8,l12_j8,l13_j8,Z0_j8,K0_j8⟩;have k79:=K0_i34.tr K0_j8;have O12:=O7_i34.ext K0_j8;refine bS hB24 fun y17 hB26 hB24=>ct (fun L w=>L 7=(.slice (some ⟨b3,0,none⟩) x5.length x5.length)/\Row 225 w4.heap.size w (.slice (some ⟨b3,0,none⟩) x5.length x5.length) y17/\L 0=.pointer (some ⟨b0,0,none⟩)/\L 3=.slice (some ⟨b9,f5,none⟩) x2.length cq3/\L 4=.int .i64 z1/\L 12=.int .i64 y11/\L 13=.int .i64 y14/\Ext w4 w) ?_ ?_
      ·refine cnd l166_j8 (fun h43=>?_) (fun h43=>?_)
       ·have hB26:=Ah hB26 h43;refine Ff [13] (.pure true 0 (.pure true 1 (.pure true 2 (.pure true 3 (.pure false 4 (.pure true 5 (.pure true 6 (.pure true 7 (.pure true 8 (.pure false 9 (.pure true 10 (.pure true 11 (.pure true 12 (.eff 13 .fin .stop)))))))))))))) mixed (by kernel_rfl) (fun w31 hx13=>?_);have k82:=k79.tr hx13;have O13:=O12.ext hx13;refine Zn rfl<|Zn rfl<|bS hB26 fun x31 Ex31 hB26=>?_;have hz:=Gd O13.rv Ex31;obtain⟨cs24,i59,i60,q27,hc36⟩:=hz;obtain⟨_,_,rfl,rfl,rfl⟩:=q27;have i61:y11<(x5.length:Int):=by rw[(RV.cap O13.rv).1];exact i60
        refine Zp rfl (fun _=>Al l7_j8 l12_j8 Tryz.underlying216 Hg i59 i61)<|Zp rfl (fun _=>AX rfl MU)<|Zq rfl (fun _ hS=>AR rfl CX ((hc36.ext (hS.resolve_left nofun)).at 1 rfl)) (Ext.refl _)<|Zn rfl<|Zn rfl<|bS hB26 fun x32 Ex32 hB26=>?_;have hz:=Gd O13.rv Ex32;obtain⟨cs25,i62,i63,q28,hc37⟩:=hz;obtain⟨_,_,rfl,rfl,rfl⟩:=q28;have i64:y14<(x5.length:Int):=by rw[(RV.cap O13.rv).1];exact i63
        refine Zp rfl (fun _=>Al l7_j8 l13_j8 Tryz.underlying216 Hg i62 i64)<|Zp rfl (fun _=>AX rfl MU)<|Zq rfl (fun _ hS=>AR rfl CX ((hc37.ext (hS.resolve_left nofun)).at 1 rfl)) (Ext.refl _)<|Zp rfl (fun _=>Aw rfl rfl)<|bS hB26 fun x33 Ex33 hB26=>?_;have hz:=Gd O13.rv Ex33;obtain⟨cs26,i65,i66,q29,hc38⟩:=hz;obtain⟨_,_,rfl,rfl,rfl⟩:=q29;have i67:y11<(x5.length:Int):=by rw[(RV.cap O13.rv).1];exact i66
        refine Zp rfl (fun _=>Al l7_j8 l12_j8 Tryz.underlying216 Hg i65 i67)<|Zp rfl (fun _=>AX rfl MU)<|Br rfl<|Uh (l:=y13) (x33.1,AZ (x31.2+x32.2)) 1 rfl rfl rfl rfl rfl CX O13 Ex33 rfl (by decide) fun w32 hch6 o10=>?_;have k86:=Ext.chg k82 hch6 (Nat.le_trans (Nat.le_refl _) (Row.ge O13));refine nl ⟨fun h=>(h (by decide)).elim,?_⟩;cases hB26;refine lf<|?_;exact⟨l7_j8,o10,l0_j8,l3_j8,l4_j8,l12_j8,l13_j8,k86⟩
       ·have hB26:=Ai hB26 h43;refine wp_skip<|?_;cases hB26;refine lf<|?_;exact⟨l7_j8,O12,l0_j8,l3_j8,l4_j8,l12_j8,l13_j8,k79⟩
      rintro L w33⟨l7_j9,O7_j9,l0_j9,l3_j9,l4_j9,l12_j9,l13_j9,K0_j9⟩;cases hB24;refine lf<|?_;exact⟨l7_j9,O7_j9,l0_j9,l3_j9,l4_j9,l12_j9,l13_j9,K0_j9⟩
     rintro L w34⟨l7_j10,O7_j10,l0_j10,l3_j10,l4_j10,l12_j10,l13_j10,K0_j10⟩;refine rg<|Zm<|Zv (Aw l13_j10 rfl)<|Za<|nl<|lq m (Nat.lt_succ_self _)<|?_;exact⟨_,_,hB22,l7_j10,O7_j10,rfl,l0_j10,l3_j10,l4_j10,l12_j10,K0_j10⟩
    ·have hB22:=Ai hB22 h34;refine wp_exit<|?_;cases hB22;refine lf<|?_;exact⟨l7_i34,O7_i34,l0_i34,l3_i34,l4_i34,l12_i34,K0_i34⟩
   rintro L w35⟨l7_j11,O7_j11,l0_j11,l3_j11,l4_j11,l12_j11,K0_j11⟩;refine rg<|Zm<|Zv (IV l12_j11 rfl)<|Za<|nl<|lq m (Nat.lt_succ_self _)<|?_;exact⟨_,_,hB17,l7_j11,O7_j11,rfl,l0_j11,l3_j11,l4_j11,K0_j11⟩
  ·have hB17:=Ai hB17 h29;refine wp_exit<|?_;cases hB17;refine lf<|?_;exact⟨l7_i28,O7_i28,K0_i28⟩
 rintro L w36⟨l7_j12,O7_j12,K0_j12⟩;have k93:=k4.tr K0_j12;refine Zr<|Zm<|Za<|nl<|?_;cases hF;exact wp_ret<|rt rfl (.tmp l7_j12 rfl .nil) ⟨_,rfl,O7_j12.rv,k93⟩
theorem yF{w0:World}{b0:Nat}{cs0:List Value}{x0:((Ob ((Uno (List (Ar 2 Int)))×(Ar 101 Int)))×(List (List Int))×(List (Ar 4 Int)))}(h0:Cs w0 b0 0 cs0)(q0:Enc.rep (fun _=>True) w0 cs0 x0){F:Nat}{r:(List (Ar 4 Int))}(hF:F3 F x0=some r):
  Calls Tryz.prog 124 [.pointer (some ⟨b0,0,none⟩)].toArray w0 (BN fun v w'=>∃u0:Value,v=u0/\RV w' u0 r/\Ext w0 w'):=by
 unfold F3 at hF;obtain⟨_,_,rfl,q2,_,_,rfl,⟨a2,cq1,rfl,p1,q3,e1⟩,a3,cq2,rfl,p2,q4,e2⟩:=q0;have hz:=Ja q2;obtain⟨a1,rfl,r2⟩:=hz;have r3:=RV.of1 p1 q3 e1;have r4:=RV.of1 p2 q4 e2;refine BK (n:=65) Tryz.func124 rfl rfl rfl<|Zr<|Za<|nl<|Zr<|Zm<|bS hF fun x2 Ex2 hF=>Zc (xc X8 (mc rfl mn)) (gV (x0:=(x0.1,x0.2.1,x0.2.2)) h0 ⟨[.pointer a1],[.slice a2 x0.2.1.length cq1]++[.slice a3 x0.2.2.length cq2],rfl,(Db r2),[.slice a2 x0.2.1.length cq1],[.slice a3 x0.2.2.length cq2],rfl,r3.rep1,r4.rep1⟩ Ex2) ?_;rintro _ w1⟨u1,rfl,r5,hx1⟩;have r6:=r2.ext hx1;have r7:=r3.ext hx1;have r8:=r4.ext hx1;have h2:=h0.ext hx1;have hz:=RV.sl r5;obtain⟨a4,cq3,rfl,-,-,-⟩:=hz;refine Za<|nl<|Zr<|Zm<|bS hF fun x3 Ex3 hF=>Zc (xc X9 (mc rfl mn)) (gU (x0:=(x0.1,x0.2.1,x0.2.2)) h2 ⟨[.pointer a1],[.slice a2 x0.2.1.length cq1]++[.slice a3 x0.2.2.length cq2],rfl,(Db r6),[.slice a2 x0.2.1.length cq1],[.slice a3 x0.2.2.length cq2],rfl,r7.rep1,r8.rep1⟩ Ex3) ?_;rintro _ w2⟨u2,rfl,r9,hx2⟩;have k1:=hx1.tr hx2;have r10:=r6.ext hx2;have r11:=r7.ext hx2;have r12:=r8.ext hx2;have h3:=h2.ext hx2;have r13:=r5.ext hx2;have hz:=RV.sl r9;obtain⟨a5,cq4,rfl,-,-,-⟩:=hz;refine Za<|nl<|Zr<|Za<|nl<|wp_seq<|Zr<|Zm<|Zv (Bc rfl)<|Zv (AX rfl GJ)<|Zv (AR rfl I7 (h3.at 2 rfl))<|Zv (Ao rfl Tryz.underlying214)<|Zm<|nl<|?_;have o1:Row (α:=(Ar 4 Int)) 223 w2.heap.size w2 (.slice none 0 0) []:=Row.nil;refine bS hF fun z1 hB1 hF=>ct (fun L w=>∃v3:Value,L 5=v3/\Row 223 w2.heap.size w v3 z1/\Ext w2 w) ?_ ?_
 ·refine wp_block<|lp (I:=fun m L w=>∃y1:(List (Ar 4 Int)),∃y2:Int,∃v2:Value,Dg F x0 x2 x3 m y1 y2=some z1/\L 5=v2/\Row 223 w2.heap.size w v2 y1/\L 17=.int .i64 y2/\L 0=.pointer (some ⟨b0,0,none⟩)/\L 3=.slice a4 x2.length cq3/\L 4=.slice a5 x3.length cq4/\L 15=.slice a3 x0.2.2.length cq2/\L 16=.int .i64 (x0.2.2.length:Int)/\Ext w2 w) F ⟨_,_,_,hB1,rfl,o1,rfl,rfl,rfl,rfl,rfl,rfl,(Ext.refl _)⟩ ?_;rintro m L w3⟨y1,y2,v2,hB1,l5_i1,O5_i1,l17_i1,l0_i1,l3_i1,l4_i1,l15_i1,l16_i1,K0_i1⟩;rcases m with _|m
  ·rw[Dg]at hB1;cases hB1
  rw[Dg]at hB1;have k2:=k1.tr K0_i1;have r14:=r10.ext K0_i1;have r15:=r11.ext K0_i1;have r16:=r12.ext K0_i1;have h4:=h3.ext K0_i1;have hz:=RV.sl O5_i1.rv;obtain⟨a6,cq5,rfl,-,-,-⟩:=hz;refine Zr<|Zv (BL l17_i1 l16_i1)<|nl<|wp_seq<|cnd rfl (fun h5=>?_) (fun h5=>?_)
  ·have hB1:=Ah hB1 h5;refine wp_skip<|wp_seq<|bS hB1 fun y3 hB3 hB1=>ct (fun L w=>∃v4:Value,L 5=v4/\Row 223 w2.heap.size w v4 y3/\L 0=.pointer (some ⟨b0,0,none⟩)/\L 3=.slice a4 x2.length cq3/\L 4=.slice a5 x3.length cq4/\L 15=.slice a3 x0.2.2.length cq2/\L 16=.int .i64 (x0.2.2.length:Int)/\L 17=.int .i64 y2/\Ext w2 w) ?_ ?_
   ·refine wp_block<|Zr<|Zm<|bS hB3 fun x4 Ex4 hB3=>?_;have hz:=(RV.els r4).ix Ex4;obtain⟨b2,f1,cs2,e3,i2,i3,q5,hc1⟩:=hz;cases e3;obtain rfl:=q5;have hc2:=hc1.ext k2;refine Zv (Al l15_i1 l17_i1 Tryz.underlying214 Au i2 i3)<|Zv (Ad rfl Au (BJ _) hc2)<|D5 Au fun b3 w4 hx3 hg1 hb1=>?_;have k4:=K0_i1.tr hx3;have hb2:Bx w4 b3 223 (List.flatMap Flat.enc ((Ar.fill 4 0:(Ar 4 Int))).l):=hb1;refine Za<|Nk rfl rfl Au hb2 (BJ _) (BJ _) (IZ _) fun w5 hch1 hb3=>?_;have k6:=Ext.chg k4 hch1 (Nat.le_trans K0_i1.size hg1);have k7:=Ext.chg hx3 hch1 (Nat.le_trans (Nat.le_refl _) hg1);have r24:=r14.ext k7;have r25:=r15.ext k7;have r26:=r16.ext k7;have h7:=h4.ext k7;have O2:=O5_i1.ext k7;have hb4:Bx w5 b3 223 (List.flatMap Flat.enc x4.l):=hb3;refine nl<|wp_seq<|bS hB3 fun y4 hB4 hB3=>ct (fun L w=>L 53=.bool y4/\L 0=.pointer (some ⟨b0,0,none⟩)/\L 3=.slice a4 x2.length cq3/\L 4=.slice a5 x3.length cq4/\L 5=.slice a6 y1.length cq5/\L 7=.pointer (some ⟨b3,0,none⟩)/\L 15=.slice (some ⟨b2,f1,none⟩) x0.2.2.length cq2/\L 16=.int .i64 (x0.2.2.length:Int)/\L 17=.int .i64 y2/\w2.heap.size<=w.heap.size/\Ext w5 w) ?_ ?_
    ·refine Ff [] (.pure true 0 (.pure true 1 (.pure true 2 (.pure true 3 (.pure false 4 (.pure true 5 (.pure true 6 (.pure true 7 (.pure true 8 (.pure true 9 (.pure false 10 (.pure true 11 (.pure false 12 (.pure true 13 (.pure true 14 (.pure true 15 (.pure true 16 (.pure true 17 (.pure false 18 (.pure true 19 (.pure true 20 (.pure true 21 (.pure true 22 (.pure true 23 (.pure false 24 (.pure true 25 (.pure true 26 (.pure false 27 (.pure false 28 (.eff 29 (.pure true 30 (.pure true 31 .fin)) .stop)))))))))))))))))))))))))))))) mixed (by kernel_rfl) (fun w7 hx5=>?_);have k12:=k6.tr hx5;have hb6:=hb4.ext hx5;have r34:=r24.ext hx5;have r35:=r25.ext hx5;have r36:=r26.ext hx5;have h9:=h7.ext hx5;have O4:=O2.ext hx5;refine Zn rfl<|Zn rfl<|bS hB4 fun x6 Ex6 hB4=>?_;have hz:=(RV.els r13).ix Ex6;obtain⟨b5,f3,cs4,e5,i6,i7,q7,hc5⟩:=hz;cases e5;obtain⟨_,_,rfl,rfl,rfl⟩:=q7;have hc6:=hc5.ext k12;refine Zp rfl (fun _=>Al l3_i1 l17_i1 Tryz.underlying216 Hg i6 i7)<|Zp rfl (fun _=>AX rfl MU)<|Zq rfl (fun _ hS=>AR rfl CX ((hc6.ext (hS.resolve_left nofun)).at 1 rfl)) (Ext.refl _)<|Zp rfl (fun _=>Ig rfl rfl)<|Zn rfl<|Or.elim (Bool.eq_false_or_eq_true (decide (0<x6.2))) (fun h10=>?_) (fun h10=>?_)
     ·have hB4:=Ah hB4 h10;refine Yt rfl (bt h10) (fun _=>Cv)<|Yt rfl (bt h10) (fun _=>Cv)<|bS hB4 fun x7 Ex7 hB4=>?_;have hz:=(RV.els r9).ix Ex7;obtain⟨b6,f4,cs5,e6,i8,i9,q8,hc7⟩:=hz;cases e6;obtain rfl:=q8;have hc8:=hc7.ext k12;refine Yt rfl (bt h10) (fun _=>Al l4_i1 l17_i1 Tryz.underlying41 Aa i8 i9)<|Yi rfl (bt h10) (fun _ hS=>AR rfl Aa ((hc8.ext (hS.resolve_left nofun)).at 0 rfl)) (Ext.refl _)<|Yt rfl (bt h10) (fun _=>Cv)<|Yi rfl (bt h10) (fun _ hS=>Ao l5_i1 Tryz.underlying214) (Ext.refl _)<|Yt rfl (bt h10) (fun _=>Aw rfl rfl)<|Yt rfl (bt h10) (fun _=>FE rfl rfl)<|Zp rfl (fun _=>GD rfl h10 rfl)<|Zn rfl<|Or.elim (Bool.eq_false_or_eq_true (decide (x7=(AZ ((y1.length:Int)+1))))) (fun h11=>?_) (fun h11=>?_)
      ·have hB4:=Ah hB4 h11;refine Yt rfl (bt h11) (fun _=>Cv)<|Yi rfl (bt h11) (fun _ hS=>Ao l5_i1 Tryz.underlying214) (Ext.refl _)<|Yt rfl (bt h11) (fun _=>FE rfl rfl)<|Yt rfl (bt h11) (fun _=>Cv)<|Or.elim (Bool.eq_false_or_eq_true (decide ((y1.length:Int)=0))) (fun h12=>?_) (fun h12=>?_)
       ·have hB4:=Ah hB4 h12;refine Yf rfl (Bl h12)<|Yf rfl (Bl h12)<|Yf rfl (Bl h12)<|Yh rfl (Bl h12) (Ext.refl _)<|Yf rfl (Bl h12)<|Yf rfl (Bl h12)<|Yh rfl (Bl h12) (Ext.refl _)<|Yh rfl (Bl h12) (Ext.refl _)<|Br rfl<|Gk rfl (Bl h12)<|nl ⟨fun _ _=>(Ext.refl _),?_⟩;refine Yt rfl (bt h11) (fun _=>GD rfl h12 rfl)<|Zp rfl (fun _=>GD rfl h11 rfl)<|?_;cases hB4;refine lf<|?_;exact⟨rfl,l0_i1,l3_i1,l4_i1,l5_i1,rfl,l15_i1,l16_i1,l17_i1,k12.size,hx5⟩
       ·have hB4:=Ai hB4 h12;refine Yt rfl (bf h12) (fun _=>Cv)<|Yt rfl (bf h12) (fun _=>Cv)<|Yt rfl (bf h12) (fun _=>Cv)<|Yi rfl (bf h12) (fun _ hS=>Ao l5_i1 Tryz.underlying214) (Ext.refl _)<|Yt rfl (bf h12) (fun _=>IV rfl rfl)<|bS hB4 fun x8 Ex8 hB4=>?_;have hz:=(RV.els O4.rv).ix Ex8;obtain⟨b7,f5,cs6,e7,i10,i11,q9,hc9⟩:=hz;cases e7;obtain rfl:=q9;refine Yt rfl (bf h12) (fun _=>Al l5_i1 rfl Tryz.underlying214 Au i10 i11)<|Yi rfl (bf h12) (fun _ hS=>Ad rfl Au (BJ _) (hc9.ext (hS.resolve_left nofun))) (Ext.refl _)<|Yi rfl (bf h12) (fun _ hS=>Ad rfl Au (BJ _) (Bx.cs (hb6.ext (hS.resolve_left nofun)))) (Ext.refl _)<|bS hB4 fun x9 Ex9 hB4=>Br rfl<|Gt rfl (bf h12)<|Zc (xc Qw (mc l0_i1 (mc rfl (mc rfl mn)))) (VG (x0:=(x0.1,x0.2.1,x0.2.2)) h9 ⟨[.pointer a1],[.slice a2 x0.2.1.length cq1]++[.slice (some ⟨b2,f1,none⟩) x0.2.2.length cq2],rfl,(Db r34),[.slice a2 x0.2.1.length cq1],[.slice (some ⟨b2,f1,none⟩) x0.2.2.length cq2],rfl,r35.rep1,r36.rep1⟩ (show RV (α:=(Ar 4 Int)) _ (.agg (List.flatMap Flat.enc x8.l).toArray) x8 from⟨_,rfl,rfl⟩) (show RV (α:=(Ar 4 Int)) _ (.agg (List.flatMap Flat.enc x4.l).toArray) x4 from⟨_,rfl,rfl⟩) Ex9) ?_;rintro _ w8⟨rfl,hx6⟩;have k15:=k12.tr hx6;have k17:=hx5.tr hx6;refine nl ⟨fun _ _=>hx6,?_⟩;refine Yt rfl (bt h11) (fun _=>H8 rfl h12 rfl)<|Zp rfl (fun _=>GD rfl h11 rfl)<|?_;cases hB4;refine lf<|?_;exact⟨rfl,l0_i1,l3_i1,l4_i1,l5_i1,rfl,l15_i1,l16_i1,l17_i1,k15.size,k17⟩
      ·have hB4:=Ai hB4 h11;refine Yf rfl (Ae h11)<|Yh rfl (Ae h11) (Ext.refl _)<|Yf rfl (Ae h11)<|Yf rfl (Ae h11)<|Yf rfl bu<|Yf rfl bu<|Yf rfl bu<|Yh rfl bu (Ext.refl _)<|Yf rfl bu<|Yf rfl bu<|Yh rfl bu (Ext.refl _)<|Yh rfl bu (Ext.refl _)<|Br rfl<|Gk rfl bu<|nl ⟨fun _ _=>(Ext.refl _),?_⟩;refine Yf rfl (Ae h11)<|Zp rfl (fun _=>H8 rfl h11 rfl)<|?_;cases hB4;refine lf<|?_;exact⟨rfl,l0_i1,l3_i1,l4_i1,l5_i1,rfl,l15_i1,l16_i1,l17_i1,k12.size,hx5⟩
     ·have hB4:=Ai hB4 h10;refine Yf rfl (Ae h10)<|Yf rfl (Ae h10)<|Yf rfl (Ae h10)<|Yh rfl (Ae h10) (Ext.refl _)<|Yf rfl (Ae h10)<|Yh rfl (Ae h10) (Ext.refl _)<|Yf rfl (Ae h10)<|Yf rfl (Ae h10)<|Zp rfl (fun _=>H8 rfl h10 rfl)<|Zn rfl<|Or.elim (Bool.eq_false_or_eq_true false) (fun h14=>?_) (fun h14=>?_)
      ·have hB4:=Ah hB4 h14;refine Yt rfl (bt h14) (fun _=>Cv)<|Yi rfl (bt h14) (fun _ hS=>Ao l5_i1 Tryz.underlying214) (Ext.refl _)<|Yt rfl (bt h14) (fun _=>FE rfl rfl)<|Yt rfl (bt h14) (fun _=>Cv)<|Or.elim (Bool.eq_false_or_eq_true (decide ((y1.length:Int)=0))) (fun h15=>?_) (fun h15=>?_)
       ·have hB4:=Ah hB4 h15;refine Yf rfl (Bl h15)<|Yf rfl (Bl h15)<|Yf rfl (Bl h15)<|Yh rfl (Bl h15) (Ext.refl _)<|Yf rfl (Bl h15)<|Yf rfl (Bl h15)<|Yh rfl (Bl h15) (Ext.refl _)<|Yh rfl (Bl h15) (Ext.refl _)<|Br rfl<|Gk rfl (Bl h15)<|nl ⟨fun _ _=>(Ext.refl _),?_⟩;refine Yt rfl (bt h14) (fun _=>GD rfl h15 rfl)<|Zp rfl (fun _=>GD rfl h14 rfl)<|?_;cases hB4;refine lf<|?_;exact⟨rfl,l0_i1,l3_i1,l4_i1,l5_i1,rfl,l15_i1,l16_i1,l17_i1,k12.size,hx5⟩
       ·have hB4:=Ai hB4 h15;refine Yt rfl (bf h15) (fun _=>Cv)<|Yt rfl (bf h15) (fun _=>Cv)<|Yt rfl (bf h15) (fun _=>Cv)<|Yi rfl (bf h15) (fun _ hS=>Ao l5_i1 Tryz.underlying214) (Ext.refl _)<|Yt rfl (bf h15) (fun _=>IV rfl rfl)<|bS hB4 fun x10 Ex10 hB4=>?_;have hz:=(RV.els O4.rv).ix Ex10;obtain⟨b8,f6,cs7,e8,i12,i13,q10,hc10⟩:=hz;cases e8;obtain rfl:=q10;refine Yt rfl (bf h15) (fun _=>Al l5_i1 rfl Tryz.underlying214 Au i12 i13)<|Yi rfl (bf h15) (fun _ hS=>Ad rfl Au (BJ _) (hc10.ext (hS.resolve_left nofun))) (Ext.refl _)<|Yi rfl (bf h15) (fun _ hS=>Ad rfl Au (BJ _) (Bx.cs (hb6.ext (hS.resolve_left nofun)))) (Ext.refl _)<|bS hB4 fun x11 Ex11 hB4=>Br rfl<|Gt rfl (bf h15)<|Zc (xc Qw (mc l0_i1 (mc rfl (mc rfl mn)))) (VG (x0:=(x0.1,x0.2.1,x0.2.2)) h9 ⟨[.pointer a1],[.slice a2 x0.2.1.length cq1]++[.slice (some ⟨b2,f1,none⟩) x0.2.2.length cq2],rfl,(Db r34),[.slice a2 x0.2.1.length cq1],[.slice (some ⟨b2,f1,none⟩) x0.2.2.length cq2],rfl,r35.rep1,r36.rep1⟩ (show RV (α:=(Ar 4 Int)) _ (.agg (List.flatMap Flat.enc x10.l).toArray) x10 from⟨_,rfl,rfl⟩) (show RV (α:=(Ar 4 Int)) _ (.agg (List.flatMap Flat.enc x4.l).toArray) x4 from⟨_,rfl,rfl⟩) Ex11) ?_;rintro _ w9⟨rfl,hx7⟩;have k19:=k12.tr hx7;have k21:=hx5.tr hx7;refine nl ⟨fun _ _=>hx7,?_⟩;refine Yt rfl (bt h14) (fun _=>H8 rfl h15 rfl)<|Zp rfl (fun _=>GD rfl h14 rfl)<|?_;cases hB4;refine lf<|?_;exact⟨rfl,l0_i1,l3_i1,l4_i1,l5_i1,rfl,l15_i1,l16_i1,l17_i1,k19.size,k21⟩
      ·have hB4:=Ai hB4 h14;refine Yf rfl (Ae h14)<|Yh rfl (Ae h14) (Ext.refl _)<|Yf rfl (Ae h14)<|Yf rfl (Ae h14)<|Yf rfl bu<|Yf rfl bu<|Yf rfl bu<|Yh rfl bu (Ext.refl _)<|Yf rfl bu<|Yf rfl bu<|Yh rfl bu (Ext.refl _)<|Yh rfl bu (Ext.refl _)<|Br rfl<|Gk rfl bu<|nl ⟨fun _ _=>(Ext.refl _),?_⟩;refine Yf rfl (Ae h14)<|Zp rfl (fun _=>H8 rfl h14 rfl)<|?_;cases hB4;refine lf<|?_;exact⟨rfl,l0_i1,l3_i1,l4_i1,l5_i1,rfl,l15_i1,l16_i1,l17_i1,k12.size,hx5⟩
    rintro L w10⟨l53_j1,l0_j1,l3_j1,l4_j1,l5_j1,l7_j1,l15_j1,l16_j1,l17_j1,Z0_j1,K0_j1⟩;have k23:=k6.tr K0_j1;have O7:=O2.ext K0_j1;have hb9:=hb4.ext K0_j1;refine bS hB3 fun y5 hB5 hB3=>ct (fun L w=>∃v5:Value,L 5=v5/\Row 223 w2.heap.size w v5 y5/\L 0=.pointer (some ⟨b0,0,none⟩)/\L 3=.slice a4 x2.length cq3/\L 4=.slice a5 x3.length cq4/\L 15=.slice (some ⟨b2,f1,none⟩) x0.2.2.length cq2/\L 16=.int .i64 (x0.2.2.length:Int)/\L 17=.int .i64 y2/\Ext w2 w) ?_ ?_
    ·refine cnd l53_j1 (fun h18=>?_) (fun h18=>?_)
     ·have hB5:=Ah hB5 h18;refine Ff [] (.pure true 0 (.pure true 1 (.pure false 2 (.pure true 3 (.pure false 4 (.pure true 5 (.pure false 6 (.eff 7 (.eff 8 (.pure true 9 .fin) .stop) .stop)))))))) mixed (by kernel_rfl) (fun w11 hx8=>?_);have k26:=k23.tr hx8;have hb10:=hb9.ext hx8;have O8:=O7.ext hx8;refine Zn rfl<|Zn rfl<|Zq rfl (fun _ hS=>Ao l5_j1 Tryz.underlying214) (Ext.refl _)<|Zn rfl<|Zq rfl (fun _ hS=>Ao l5_j1 Tryz.underlying214) (Ext.refl _)<|?_;have r59:=RV.full O8.rv;refine Zp rfl (fun _=>wJ l5_j1 (RV.cap O8.rv).2.1 Tryz.underlying214 Au rfl rfl)<|Zq rfl (fun _ hS=>Ad l7_j1 Au (BJ _) (Bx.cs (hb10.ext (hS.resolve_left nofun)))) (Ext.refl _)<|Br rfl<|Gq (r:=[(0,.agg (List.flatMap Flat.enc x4.l).toArray)]) (cs:=(List.flatMap Flat.enc x4.l++[])) Tryz.underlying214 Au rfl (pc rfl pn) rfl rfl rfl (U8 x4 rfl) rfl fun b9 w12 hx9 hg2 hb11=>?_;have k30:=k26.tr hx9;have r65:=r59.ext hx9;have o3:Row (α:=(Ar 4 Int)) 223 w11.heap.size w12 (.slice (some ⟨b9,0,none⟩) 1 1) [x4]:=Row.lit hg2 hb11 rfl (ble rfl);refine nl ⟨fun _ _=>hx9,?_⟩;refine bS hB5 fun x12 Ex12 hB5=>Br rfl<|wL (l:=y1) (k:=([x4]:List (Ar 4 Int))) rfl rfl Tryz.underlying214 Au rfl rfl r65 o3.rv rfl Ex12 fun v6 w13 o4 hx10=>?_;have k35:=k30.tr hx10;have k39:=hx9.tr hx10;have hz:=RV.sl o4.rv;obtain⟨a7,cq6,rfl,-,-,-⟩:=hz;refine nl ⟨fun _ _=>k39,?_⟩;refine Zp rfl (fun _=>GU)<|?_;cases hB5;refine lf<|?_;exact⟨_,rfl,(o4.bnd k30.size),l0_j1,l3_j1,l4_j1,l15_j1,l16_j1,l17_j1,k35⟩
     ·have hB5:=Ai hB5 h18;refine wp_skip<|?_;cases hB5;refine lf<|?_;exact⟨_,l5_j1,O7,l0_j1,l3_j1,l4_j1,l15_j1,l16_j1,l17_j1,k23⟩
    rintro L w14⟨v5,l5_j2,O5_j2,l0_j2,l3_j2,l4_j2,l15_j2,l16_j2,l17_j2,K0_j2⟩;have hz:=RV.sl O5_j2.rv;obtain⟨a8,cq7,rfl,-,-,-⟩:=hz;cases hB3;refine lf<|?_;exact⟨_,l5_j2,O5_j2,l0_j2,l3_j2,l4_j2,l15_j2,l16_j2,l17_j2,K0_j2⟩
   rintro L w15⟨v4,l5_j3,O5_j3,l0_j3,l3_j3,l4_j3,l15_j3,l16_j3,l17_j3,K0_j3⟩;have hz:=RV.sl O5_j3.rv;obtain⟨a9,cq8,rfl,-,-,-⟩:=hz;refine rg<|Zv (Aw l17_j3 rfl)<|Zm<|nl<|lq m (Nat.lt_succ_self _)<|?_;exact⟨_,_,_,hB1,l5_j3,O5_j3,rfl,l0_j3,l3_j3,l4_j3,l15_j3,l16_j3,K0_j3⟩
  ·have hB1:=Ai hB1 h5;refine wp_exit<|?_;cases hB1;refine lf<|?_;exact⟨_,l5_i1,O5_i1,K0_i1⟩
 rintro L w16⟨v3,l5_j4,O5_j4,K0_j4⟩;have k42:=k1.tr K0_j4;have hz:=RV.sl O5_j4.rv;obtain⟨a10,cq9,rfl,-,-,-⟩:=hz;refine Zr<|Zm<|Za<|nl<|?_;cases hF;exact wp_ret<|rt rfl (.tmp l5_j4 rfl .nil) ⟨_,rfl,O5_j4.rv,k42⟩
theorem og{w0:World}{b0:Nat}{cs0:List Value}{x0:((Ob ((Uno (List (Ar 2 Int)))×(Ar 101 Int)))×(List (List Int))×(List (Ar 4 Int)))}(h0:Cs w0 b0 0 cs0)(q0:Enc.rep (fun _=>True) w0 cs0 x0){v1:Value}{x1:(List (Int×Int))}(r1:RV w0 v1 x1){F:Nat}{r:Int}(hF:Ev F x0 x1=some r):
  Calls Tryz.prog 126 [.pointer (some ⟨b0,0,none⟩),v1].toArray w0 (BN fun v w'=>v=.int .i64 r/\Ext w0 w'):=by
 unfold Ev at hF;obtain⟨_,_,rfl,q3,_,_,rfl,⟨a2,cq1,rfl,p1,q4,e1⟩,a3,cq2,rfl,p2,q5,e2⟩:=q0;have hz:=Ja q3;obtain⟨a1,rfl,r3⟩:=hz;have r4:=RV.of1 p1 q4 e1;have r5:=RV.of1 p2 q5 e2;have hz:=r1.sl;obtain⟨a4,cq3,rfl,-,-,-⟩:=hz;refine BK (n:=30) Tryz.func126 rfl rfl rfl<|Zr<|Za<|nl<|wp_seq<|Zr<|Zm<|Zv (Ao rfl Tryz.underlying216)<|Zv (FE rfl rfl)<|nl<|cnd rfl (fun h3=>?_) (fun h3=>?_)
 ·have hF:=Ah hF h3;refine Zr<|Za<|nl<|?_;cases hF;exact wp_ret<|Zw rfl rfl rfl ⟨rfl,(Ext.refl _)⟩
 ·have hF:=Ai hF h3;refine wp_skip<|Zr<|Za<|nl<|wp_seq<|Zr<|Zm<|bS hF fun x3 Ex3 hF=>Zc (xc X9 (mc rfl mn)) (gU (x0:=(x0.1,x0.2.1,x0.2.2)) h0 ⟨[.pointer a1],[.slice a2 x0.2.1.length cq1]++[.slice a3 x0.2.2.length cq2],rfl,(Db r3),[.slice a2 x0.2.1.length cq1],[.slice a3 x0.2.2.length cq2],rfl,r4.rep1,r5.rep1⟩ Ex3) ?_;rintro _ w1⟨u1,rfl,r6,hx1⟩;have hz:=RV.sl r6;obtain⟨a5,cq4,rfl,-,-,-⟩:=hz;refine Zv (Ao rfl Tryz.underlying41)<|Zm<|nl<|bS hF fun z1 hB1 hF=>ct (fun L w=>L 5=.int .i64 z1/\Ext w1 w) ?_ ?_
  ·refine wp_block<|lp (I:=fun m L w=>∃y1:Int,∃y2:Int,EB F x1 x3 m y1 y2=some z1/\L 5=.int .i64 y1/\L 14=.int .i64 y2/\L 1=.slice a4 x1.length cq3/\L 12=.slice a5 x3.length cq4/\L 13=.int .i64 (x3.length:Int)/\Ext w1 w) F ⟨_,_,hB1,rfl,rfl,rfl,rfl,rfl,(Ext.refl _)⟩ ?_;rintro m L w2⟨y1,y2,hB1,l5_i1,l14_i1,l1_i1,l12_i1,l13_i1,K0_i1⟩;rcases m with _|m
   ·rw[EB]at hB1;cases hB1
   rw[EB]at hB1;have k1:=hx1.tr K0_i1;refine Zr<|Zv (BL l14_i1 l13_i1)<|nl<|wp_seq<|cnd rfl (fun h4=>?_) (fun h4=>?_)
   ·have hB1:=Ah hB1 h4;refine wp_skip<|wp_seq<|bS hB1 fun y3 hB3 hB1=>ct (fun L w=>L 5=.int .i64 y3/\L 1=.slice a4 x1.length cq3/\L 12=.slice a5 x3.length cq4/\L 13=.int .i64 (x3.length:Int)/\L 14=.int .i64 y2/\Ext w2 w) ?_ ?_
    ·refine wp_block<|Zr<|Zm<|bS hB3 fun x4 Ex4 hB3=>?_;have hz:=(RV.els r6).ix Ex4;obtain⟨b3,f1,cs3,e3,i2,i3,q6,hc1⟩:=hz;cases e3;obtain rfl:=q6;have hc2:=hc1.ext K0_i1;refine Zv (Al l12_i1 l14_i1 Tryz.underlying41 Aa i2 i3)<|Zv (AR rfl Aa (hc2.at 0 rfl))<|Za<|Za<|nl<|Zr<|Zm<|Zv (FE rfl rfl)<|nl<|bS hB3 fun y4 hB4 hB3=>ct (fun L w=>L 5=.int .i64 y4/\L 1=.slice a4 x1.length cq3/\L 12=.slice (some ⟨b3,f1,none⟩) x3.length cq4/\L 13=.int .i64 (x3.length:Int)/\L 14=.int .i64 y2/\Ext w2 w) ?_ ?_
     ·refine cnd rfl (fun h5=>?_) (fun h5=>?_)
      ·have hB4:=Ah hB4 h5;refine rg<|Zm<|Zm<|Zm<|bS hB4 fun x5 Ex5 hB4=>?_;have hz:=(RV.els r1).ix Ex5;obtain⟨b4,f2,cs4,e4,i4,i5,q7,hc3⟩:=hz;cases e4;obtain⟨_,_,rfl,rfl,rfl⟩:=q7;have hc4:=hc3.ext k1;refine Zv (Al l1_i1 l14_i1 Tryz.underlying216 Hg i4 i5)<|Zv (Ad rfl Hg rfl hc4)<|bS hB4 fun x6 Ex6 hB4=>Zc (xc iP (mc rfl mn)) (nM (show RV (α:=(Int×Int)) _ (.agg [.int .i64 x5.1,.int .i64 x5.2].toArray) (x5.1,x5.2)from⟨_,rfl,[.int .i64 x5.1],[.int .i64 x5.2],rfl,rfl,rfl⟩) Ex6) ?_;rintro _ w3⟨rfl,hx2⟩;refine Zv (Aw l5_i1 rfl)<|Za<|nl<|?_;cases hB4;refine lf<|?_;exact⟨rfl,l1_i1,l12_i1,l13_i1,l14_i1,hx2⟩
      ·have hB4:=Ai hB4 h5;refine wp_skip<|?_;cases hB4;refine lf<|?_;exact⟨l5_i1,l1_i1,l12_i1,l13_i1,l14_i1,(Ext.refl _)⟩
     rintro L w4⟨l5_j1,l1_j1,l12_j1,l13_j1,l14_j1,K0_j1⟩;cases hB3;refine lf<|?_;exact⟨l5_j1,l1_j1,l12_j1,l13_j1,l14_j1,K0_j1⟩
    rintro L w5⟨l5_j2,l1_j2,l12_j2,l13_j2,l14_j2,K0_j2⟩;have k7:=K0_i1.tr K0_j2;refine rg<|Zv (Aw l14_j2 rfl)<|Zm<|nl<|lq m (Nat.lt_succ_self _)<|?_;exact⟨_,_,hB1,l5_j2,rfl,l1_j2,l12_j2,l13_j2,k7⟩
   ·have hB1:=Ai hB1 h4;refine wp_exit<|?_;cases hB1;refine lf<|?_;exact⟨l5_i1,K0_i1⟩
  rintro L w6⟨l5_j3,K0_j3⟩;have k8:=hx1.tr K0_j3;refine Zr<|Zm<|Za<|nl<|?_;cases hF;exact wp_ret<|rt rfl (.tmp l5_j3 rfl .nil) ⟨rfl,k8⟩
theorem zL{w0:World}{v0:Value}{x0:(Uno (List (Ar 2 Int)))}(r0:RV w0 v0 x0){v1:Value}{x1:(List (List Int))}(r1:RV w0 v1 x1){F:Nat}{r:((List (List Int))×Int)}(hF:Jk F x0 x1=some r):
  Calls Tryz.prog 41 [v0,v1].toArray w0 (BN fun v w'=>∃u0:Value,v=.tuple #[u0,.int .i64 r.2]/\RV w' u0 r.1/\Ext w0 w'):=by
 unfold Jk at hF;have hz:=id r0;obtain⟨_,rfl,a1,cq1,rfl,p1,q3,e1⟩:=hz;have r3:=RV.of1 p1 q3 e1;have hz:=r1.sl;obtain⟨a2,cq2,rfl,-,-,-⟩:=hz;refine BK (n:=21) Tryz.func41 rfl rfl rfl<|Zr<|Cw rfl rfl fun b3 w1 hx1 hg1 hb1=>?_;have r4:=r1.ext hx1;have r5:=r3.ext hx1;refine Za<|Za<|nl<|Zr<|Zv (Ad rfl JY rfl (Bx.cs hb1))<|Zm<|bS hF fun x3 Ex3 hF=>Zc (xc Ua (mc rfl (mc rfl mn))) (YR (show RV (α:=(Uno (List (Ar 2 Int)))) _ (.agg [.slice a1 x0.v.length cq1].toArray) (⟨x0.v⟩:(Uno (List (Ar 2 Int))))from⟨_,rfl,r5.rep1⟩) r4 Ex3) ?_;rintro _ w2⟨u1,rfl,r7,hx2⟩;have k1:=hx1.tr hx2;have hz:=P6 r7;obtain⟨a3,rfl⟩:=hz;refine Zm<|Zv (Cq rfl rfl)<|Zv (Cq rfl rfl)<|Za<|Za<|nl<|wp_seq<|Zr<|Zm<|Zv (FH rfl rfl)<|nl<|cnd rfl (fun h3=>?_) (fun h3=>?_)
 ·have hF:=Ah hF h3;refine Zr<|Zm<|Za<|Za<|nl<|?_;cases hF;exact wp_ret<|rt rfl (.tmp rfl rfl (.tmp rfl rfl .nil)) ⟨_,rfl,(RVo.nil (Nat.zero_le _)),k1⟩
 ·have hF:=Ai hF h3;refine wp_skip<|Zr<|Zm<|Zm<|bS hF fun x4 Ex4 hF=>?_;have hz:=OM r7 Ex4;obtain⟨b4,cs3,e2,q4,hc1⟩:=hz;cases e2;obtain⟨_,_,rfl,q5,_,_,rfl,⟨a5,cq3,rfl,p2,q6,e3⟩,a6,cq4,rfl,p3,q7,e4⟩:=q4;have hz:=Ja q5;obtain⟨a4,rfl,r8⟩:=hz;have r9:=RV.of1 p2 q6 e3;have r10:=RV.of1 p3 q7 e4;refine bS hF fun x5 Ex5 hF=>Zc (xc qh (mc rfl mn)) (yF (x0:=(x4.1,x4.2.1,x4.2.2)) hc1 ⟨[.pointer a4],[.slice a5 x4.2.1.length cq3]++[.slice a6 x4.2.2.length cq4],rfl,(Db r8),[.slice a5 x4.2.1.length cq3],[.slice a6 x4.2.2.length cq4],rfl,r9.rep1,r10.rep1⟩ Ex5) ?_;rintro _ w3⟨u2,rfl,r11,hx3⟩;have k2:=k1.tr hx3;have r12:=r8.ext hx3;have r13:=r9.ext hx3;have r14:=r10.ext hx3;have hc2:=hc1.ext hx3;have hz:=RV.sl r11;obtain⟨a7,cq5,rfl,-,-,-⟩:=hz;refine bS hF fun x6 Ex6 hF=>Zc (xc X7 (mc rfl (mc rfl mn))) (eY (x0:=(x4.1,x4.2.1,x4.2.2)) hc2 ⟨[.pointer a4],[.slice a5 x4.2.1.length cq3]++[.slice a6 x4.2.2.length cq4],rfl,(Db r12),[.slice a5 x4.2.1.length cq3],[.slice a6 x4.2.2.length cq4],rfl,r13.rep1,r14.rep1⟩ r11 Ex6) ?_;rintro _ w4⟨u3,rfl,r15,hx4⟩;have k3:=k2.tr hx4;have hz:=RV.sl r15;obtain⟨a8,cq6,rfl,-,-,-⟩:=hz;refine Za<|Za<|nl<|?_;cases hF;exact wp_ret<|rt rfl (.tmp rfl rfl (.tmp rfl rfl .nil)) ⟨_,rfl,r15,k3⟩
theorem zM{w0:World}{v0:Value}{x0:(Uno (List (Ar 2 Int)))}(r0:RV w0 v0 x0){v1:Value}{x1:(List (List Int))}(r1:RV w0 v1 x1){F:Nat}{r:(Int×Int)}(hF:K8 F x0 x1=some r):
  Calls Tryz.prog 43 [v0,v1].toArray w0 (BN fun v w'=>v=.tuple #[.int .i64 r.1,.int .i64 r.2]/\Ext w0 w'):=by
 unfold K8 at hF;have hz:=id r0;obtain⟨_,rfl,a1,cq1,rfl,p1,q3,e1⟩:=hz;have r3:=RV.of1 p1 q3 e1;have hz:=r1.sl;obtain⟨a2,cq2,rfl,-,-,-⟩:=hz;refine BK (n:=21) Tryz.func43 rfl rfl rfl<|Zr<|Cw rfl rfl fun b3 w1 hx1 hg1 hb1=>?_;have r4:=r1.ext hx1;have r5:=r3.ext hx1;refine Za<|Za<|nl<|Zr<|Zv (Ad rfl JY rfl (Bx.cs hb1))<|Zm<|bS hF fun x3 Ex3 hF=>Zc (xc Ua (mc rfl (mc rfl mn))) (YR (show RV (α:=(Uno (List (Ar 2 Int)))) _ (.agg [.slice a1 x0.v.length cq1].toArray) (⟨x0.v⟩:(Uno (List (Ar 2 Int))))from⟨_,rfl,r5.rep1⟩) r4 Ex3) ?_;rintro _ w2⟨u1,rfl,r7,hx2⟩;have k1:=hx1.tr hx2;have hz:=P6 r7;obtain⟨a3,rfl⟩:=hz;refine Zm<|Zv (Cq rfl rfl)<|Zv (Cq rfl rfl)<|Za<|Za<|nl<|wp_seq<|Zr<|Zm<|Zv (FH rfl rfl)<|nl<|cnd rfl (fun h3=>?_) (fun h3=>?_)
 ·have hF:=Ah hF h3;refine Zr<|Zm<|Za<|Za<|nl<|?_;cases hF;exact wp_ret<|rt rfl (.tmp rfl rfl (.tmp rfl rfl .nil)) ⟨rfl,k1⟩
 ·have hF:=Ai hF h3;refine wp_skip<|Zr<|Zm<|Zm<|bS hF fun x4 Ex4 hF=>?_;have hz:=OM r7 Ex4;obtain⟨b4,cs3,e2,q4,hc1⟩:=hz;cases e2;obtain⟨_,_,rfl,q5,_,_,rfl,⟨a5,cq3,rfl,p2,q6,e3⟩,a6,cq4,rfl,p3,q7,e4⟩:=q4;have hz:=Ja q5;obtain⟨a4,rfl,r8⟩:=hz;have r9:=RV.of1 p2 q6 e3;have r10:=RV.of1 p3 q7 e4;refine bS hF fun x5 Ex5 hF=>Zc (xc X8 (mc rfl mn)) (gV (x0:=(x4.1,x4.2.1,x4.2.2)) hc1 ⟨[.pointer a4],[.slice a5 x4.2.1.length cq3]++[.slice a6 x4.2.2.length cq4],rfl,(Db r8),[.slice a5 x4.2.1.length cq3],[.slice a6 x4.2.2.length cq4],rfl,r9.rep1,r10.rep1⟩ Ex5) ?_;rintro _ w3⟨u2,rfl,r11,hx3⟩;have k2:=k1.tr hx3;have r12:=r8.ext hx3;have r13:=r9.ext hx3;have r14:=r10.ext hx3;have hc2:=hc1.ext hx3;have hz:=RV.sl r11;obtain⟨a7,cq5,rfl,-,-,-⟩:=hz;refine bS hF fun x6 Ex6 hF=>Zc (xc iM (mc rfl (mc rfl mn))) (og (x0:=(x4.1,x4.2.1,x4.2.2)) hc2 ⟨[.pointer a4],[.slice a5 x4.2.1.length cq3]++[.slice a6 x4.2.2.length cq4],rfl,(Db r12),[.slice a5 x4.2.1.length cq3],[.slice a6 x4.2.2.length cq4],rfl,r13.rep1,r14.rep1⟩ r11 Ex6) ?_;rintro _ w4⟨rfl,hx4⟩;have k3:=k2.tr hx4;refine Za<|Za<|nl<|?_;cases hF;exact wp_ret<|rt rfl (.tmp rfl rfl (.tmp rfl rfl .nil)) ⟨rfl,k3⟩
theorem zN{w0:World}{v0:Value}{x0:(Uno (List (Ar 2 Int)))}(r0:RV w0 v0 x0){v1:Value}{x1:(List (List Int))}(r1:RV w0 v1 x1){F:Nat}{r:((List (List Int))×Int)}(hF:Jl F x0 x1=some r):
  Calls Tryz.prog 55 [v0,v1].toArray w0 (BN fun v w'=>∃u0:Value,v=.tuple #[u0,.int .i64 r.2]/\RV w' u0 r.1/\Ext w0 w'):=by
 unfold Jl at hF;have hz:=id r0;obtain⟨_,rfl,a1,cq1,rfl,p1,q3,e1⟩:=hz;have r3:=RV.of1 p1 q3 e1;have hz:=r1.sl;obtain⟨a2,cq2,rfl,-,-,-⟩:=hz;refine BK (n:=23) Tryz.func55 rfl rfl rfl<|Zr<|Cw rfl rfl fun b3 w1 hx1 hg1 hb1=>?_;have r4:=r1.ext hx1;have r5:=r3.ext hx1;refine Za<|Za<|nl<|Zr<|Zv (Ad rfl JY rfl (Bx.cs hb1))<|Zm<|bS hF fun x3 Ex3 hF=>Zc (xc Ua (mc rfl (mc rfl mn))) (YR (show RV (α:=(Uno (List (Ar 2 Int)))) _ (.agg [.slice a1 x0.v.length cq1].toArray) (⟨x0.v⟩:(Uno (List (Ar 2 Int))))from⟨_,rfl,r5.rep1⟩) r4 Ex3) ?_;rintro _ w2⟨u1,rfl,r7,hx2⟩;have k1:=hx1.tr hx2;have hz:=P6 r7;obtain⟨a3,rfl⟩:=hz;refine Zm<|Zv (Cq rfl rfl)<|Zv (Cq rfl rfl)<|Za<|Za<|nl<|wp_seq<|Zr<|Zm<|Zv (FH rfl rfl)<|nl<|cnd rfl (fun h3=>?_) (fun h3=>?_)
 ·have hF:=Ah hF h3;refine Zr<|Zm<|Za<|Za<|nl<|?_;cases hF;exact wp_ret<|rt rfl (.tmp rfl rfl (.tmp rfl rfl .nil)) ⟨_,rfl,(RVo.nil (Nat.zero_le _)),k1⟩
 ·have hF:=Ai hF h3;refine wp_skip<|Zr<|Zm<|Zm<|bS hF fun x4 Ex4 hF=>?_;have hz:=OM r7 Ex4;obtain⟨b4,cs3,e2,q4,hc1⟩:=hz;cases e2;obtain⟨_,_,rfl,q5,_,_,rfl,⟨a5,cq3,rfl,p2,q6,e3⟩,a6,cq4,rfl,p3,q7,e4⟩:=q4;have hz:=Ja q5;obtain⟨a4,rfl,r8⟩:=hz;have r9:=RV.of1 p2 q6 e3;have r10:=RV.of1 p3 q7 e4;refine Zv (Bc rfl)<|Zv (AX rfl GJ)<|Zv (AR rfl I7 (hc1.at 2 rfl))<|bS hF fun x5 Ex5 hF=>Zc (xc X7 (mc rfl (mc rfl mn))) (eY (x0:=(x4.1,x4.2.1,x4.2.2)) hc1 ⟨[.pointer a4],[.slice a5 x4.2.1.length cq3]++[.slice a6 x4.2.2.length cq4],rfl,(Db r8),[.slice a5 x4.2.1.length cq3],[.slice a6 x4.2.2.length cq4],rfl,r9.rep1,r10.rep1⟩ r10 Ex5) ?_;rintro _ w3⟨u2,rfl,r11,hx3⟩;have k2:=k1.tr hx3;have hz:=RV.sl r11;obtain⟨a7,cq5,rfl,-,-,-⟩:=hz;refine Za<|Za<|nl<|?_;cases hF;exact wp_ret<|rt rfl (.tmp rfl rfl (.tmp rfl rfl .nil)) ⟨_,rfl,r11,k2⟩
theorem zO{w0:World}{v0:Value}{x0:(Uno (List (Ar 2 Int)))}(r0:RV w0 v0 x0){v1:Value}{x1:(List (List Int))}(r1:RV w0 v1 x1){F:Nat}{r:((List (List Int))×Int)}(hF:Jm F x0 x1=some r):
  Calls Tryz.prog 72 [v0,v1].toArray w0 (BN fun v w'=>∃u0:Value,v=.tuple #[u0,.int .i64 r.2]/\RV w' u0 r.1/\Ext w0 w'):=by
 unfold Jm at hF;have hz:=id r0;obtain⟨_,rfl,a1,cq1,rfl,p1,q3,e1⟩:=hz;have r3:=RV.of1 p1 q3 e1;have hz:=r1.sl;obtain⟨a2,cq2,rfl,-,-,-⟩:=hz;refine BK (n:=52) Tryz.func72 rfl rfl rfl<|Zr<|Cw rfl rfl fun b3 w1 hx1 hg1 hb1=>?_;have r4:=r1.ext hx1;have r5:=r3.ext hx1;refine Za<|Za<|nl<|Zr<|Zv (Ad rfl JY rfl (Bx.cs hb1))<|Zm<|bS hF fun x3 Ex3 hF=>Zc (xc Ua (mc rfl (mc rfl mn))) (YR (show RV (α:=(Uno (List (Ar 2 Int)))) _ (.agg [.slice a1 x0.v.length cq1].toArray) (⟨x0.v⟩:(Uno (List (Ar 2 Int))))from⟨_,rfl,r5.rep1⟩) r4 Ex3) ?_;rintro _ w2⟨u1,rfl,r7,hx2⟩;have k1:=hx1.tr hx2;have hz:=P6 r7;obtain⟨a3,rfl⟩:=hz;refine Zm<|Zv (Cq rfl rfl)<|Zv (Cq rfl rfl)<|Za<|Za<|nl<|wp_seq<|Zr<|Zm<|Zv (FH rfl rfl)<|nl<|cnd rfl (fun h3=>?_) (fun h3=>?_)
 ·have hF:=Ah hF h3;refine Zr<|Zm<|Za<|Za<|nl<|?_;cases hF;exact wp_ret<|rt rfl (.tmp rfl rfl (.tmp rfl rfl .nil)) ⟨_,rfl,(RVo.nil (Nat.zero_le _)),k1⟩
 ·have hF:=Ai hF h3;refine wp_skip<|Zr<|Zm<|bS hF fun x4 Ex4 hF=>?_;have hz:=OM r7 Ex4;obtain⟨b4,cs3,e2,q4,hc1⟩:=hz;cases e2;obtain⟨_,_,rfl,q5,_,_,rfl,⟨a5,cq3,rfl,p2,q6,e3⟩,a6,cq4,rfl,p3,q7,e4⟩:=q4;have hz:=Ja q5;obtain⟨a4,rfl,r8⟩:=hz;have r9:=RV.of1 p2 q6 e3;have r10:=RV.of1 p3 q7 e4;refine bS hF fun x5 Ex5 hF=>Zc (xc X8 (mc rfl mn)) (gV (x0:=(x4.1,x4.2.1,x4.2.2)) hc1 ⟨[.pointer a4],[.slice a5 x4.2.1.length cq3]++[.slice a6 x4.2.2.length cq4],rfl,(Db r8),[.slice a5 x4.2.1.length cq3],[.slice a6 x4.2.2.length cq4],rfl,r9.rep1,r10.rep1⟩ Ex5) ?_;rintro _ w3⟨u2,rfl,r11,hx3⟩;have k2:=k1.tr hx3;have r12:=r8.ext hx3;have r13:=r9.ext hx3;have r14:=r10.ext hx3;have hc2:=hc1.ext hx3;have hz:=RV.sl r11;obtain⟨a7,cq5,rfl,-,-,-⟩:=hz;refine Za<|nl<|Zr<|Zm<|Zm<|bS hF fun x6 Ex6 hF=>Zc (xc iM (mc rfl (mc rfl mn))) (og (x0:=(x4.1,x4.2.1,x4.2.2)) hc2 ⟨[.pointer a4],[.slice a5 x4.2.1.length cq3]++[.slice a6 x4.2.2.length cq4],rfl,(Db r12),[.slice a5 x4.2.1.length cq3],[.slice a6 x4.2.2.length cq4],rfl,r13.rep1,r14.rep1⟩ r11 Ex6) ?_;rintro _ w4⟨rfl,hx4⟩;have k3:=k2.tr hx4;have r15:=r12.ext hx4;have r16:=r13.ext hx4;have r17:=r14.ext hx4;have hc3:=hc2.ext hx4;have r18:=r11.ext hx4;refine Za<|nl<|Zr<|Za<|nl<|wp_seq<|Zr<|Zm<|Zv (Bc rfl)<|Zv (AX rfl GJ)<|Zv (AR rfl I7 (hc3.at 2 rfl))<|Zv (Ao rfl Tryz.underlying214)<|Zm<|nl<|?_;have o1:Row (α:=(Ar 4 Int)) 223 w4.heap.size w4 (.slice none 0 0) []:=Row.nil;refine bS hF fun z1 hB1 hF=>ct (fun L w=>∃v4:Value,L 10=v4/\Row 223 w4.heap.size w v4 z1/\L 6=.pointer (some ⟨b4,0,none⟩)/\Ext w4 w) ?_ ?_
  ·refine wp_block<|lp (I:=fun m L w=>∃y1:(List (Ar 4 Int)),∃y2:Int,∃v3:Value,Ew F x4 x5 x6 m y1 y2=some z1/\L 10=v3/\Row 223 w4.heap.size w v3 y1/\L 32=.int .i64 y2/\L 6=.pointer (some ⟨b4,0,none⟩)/\L 8=.slice a7 x5.length cq5/\L 9=.int .i64 x6/\L 30=.slice a6 x4.2.2.length cq4/\L 31=.int .i64 (x4.2.2.length:Int)/\Ext w4 w) F ⟨_,_,_,hB1,rfl,o1,rfl,rfl,rfl,rfl,rfl,rfl,(Ext.refl _)⟩ ?_;rintro m L w5⟨y1,y2,v3,hB1,l10_i1,O10_i1,l32_i1,l6_i1,l8_i1,l9_i1,l30_i1,l31_i1,K0_i1⟩;rcases m with _|m
   ·rw[Ew]at hB1;cases hB1
   rw[Ew]at hB1;have hz:=RV.sl O10_i1.rv;obtain⟨a8,cq6,rfl,-,-,-⟩:=hz;refine Zr<|Zv (BL l32_i1 l31_i1)<|nl<|wp_seq<|cnd rfl (fun h4=>?_) (fun h4=>?_)
   ·have hB1:=Ah hB1 h4;refine wp_skip<|wp_seq<|bS hB1 fun y3 hB3 hB1=>ct (fun L w=>∃v5:Value,L 10=v5/\Row 223 w4.heap.size w v5 y3/\L 6=.pointer (some ⟨b4,0,none⟩)/\L 8=.slice a7 x5.length cq5/\L 9=.int .i64 x6/\L 30=.slice a6 x4.2.2.length cq4/\L 31=.int .i64 (x4.2.2.length:Int)/\L 32=.int .i64 y2/\Ext w4 w) ?_ ?_
    ·refine wp_block<|Zr<|Zm<|bS hB3 fun x7 Ex7 hB3=>?_;have hz:=(RV.els r17).ix Ex7;obtain⟨b5,f1,cs4,e5,i2,i3,q8,hc5⟩:=hz;cases e5;obtain rfl:=q8;have hc6:=hc5.ext K0_i1;refine Zv (Al l30_i1 l32_i1 Tryz.underlying214 Au i2 i3)<|Zv (Ad rfl Au (BJ _) hc6)<|D5 Au fun b6 w6 hx5 hg2 hb2=>?_;have k6:=K0_i1.tr hx5;have hb3:Bx w6 b6 223 (List.flatMap Flat.enc ((Ar.fill 4 0:(Ar 4 Int))).l):=hb2;refine Za<|Nk rfl rfl Au hb3 (BJ _) (BJ _) (IZ _) fun w7 hch1 hb4=>?_;have k8:=Ext.chg k6 hch1 (Nat.le_trans K0_i1.size hg2);have k9:=Ext.chg hx5 hch1 (Nat.le_trans (Nat.le_refl _) hg2);have O2:=O10_i1.ext k9;have hb5:Bx w7 b6 223 (List.flatMap Flat.enc x7.l):=hb4;refine nl<|Zr<|Zm<|Zm<|bS hB3 fun x8 Ex8 hB3=>?_;have hz:=(RV.els r18).ix Ex8;obtain⟨b7,f2,cs5,e6,i4,i5,q9,hc9⟩:=hz;cases e6;obtain⟨_,_,rfl,rfl,rfl⟩:=q9;have hc10:=hc9.ext k8;refine Zv (Al l8_i1 l32_i1 Tryz.underlying216 Hg i4 i5)<|Zv (Ad rfl Hg rfl hc10)<|bS hB3 fun x9 Ex9 hB3=>Zc (xc iP (mc rfl mn)) (nM (show RV (α:=(Int×Int)) _ (.agg [.int .i64 x8.1,.int .i64 x8.2].toArray) (x8.1,x8.2)from⟨_,rfl,[.int .i64 x8.1],[.int .i64 x8.2],rfl,rfl,rfl⟩) Ex9) ?_;rintro _ w8⟨rfl,hx6⟩;have k11:=k8.tr hx6;have hb6:=hb5.ext hx6;have O3:=O2.ext hx6;refine Zm<|Zv (FE rfl l9_i1)<|nl<|bS hB3 fun y4 hB4 hB3=>ct (fun L w=>∃v6:Value,L 10=v6/\Row 223 w4.heap.size w v6 y4/\L 6=.pointer (some ⟨b4,0,none⟩)/\L 8=.slice (some ⟨b7,f2,none⟩) x5.length cq5/\L 9=.int .i64 x6/\L 30=.slice (some ⟨b5,f1,none⟩) x4.2.2.length cq4/\L 31=.int .i64 (x4.2.2.length:Int)/\L 32=.int .i64 y2/\Ext w4 w) ?_ ?_
     ·refine cnd rfl (fun h5=>?_) (fun h5=>?_)
      ·have hB4:=Ah hB4 h5;refine rg<|Zm<|Zv (Ad rfl Au (BJ _) (Bx.cs hb6))<|Gq (r:=[(0,.agg (List.flatMap Flat.enc x7.l).toArray)]) (cs:=(List.flatMap Flat.enc x7.l++[])) Tryz.underlying214 Au rfl (pc rfl pn) rfl rfl rfl (U8 x7 rfl) rfl fun b8 w9 hx7 hg3 hb7=>?_;have k14:=k11.tr hx7;have O4:=O3.ext hx7;have o3:Row (α:=(Ar 4 Int)) 223 w8.heap.size w9 (.slice (some ⟨b8,0,none⟩) 1 1) [x7]:=Row.lit hg3 hb7 rfl (ble rfl);refine bS hB4 fun x10 Ex10 hB4=>KY (l:=y1) (k:=([x7]:List (Ar 4 Int))) l10_i1 rfl Tryz.underlying214 Au rfl rfl O4 (RV.els o3.rv) Ex10 k14.size fun v7 w10 o4 hB6 hgr1 how1=>?_;have k17:Ext w4 w10:=k14.trans hB6;have hz:=RV.sl o4.rv;obtain⟨a9,cq7,rfl,-,-,-⟩:=hz;refine Za<|nl<|?_;cases hB4;refine lf<|?_;exact⟨_,rfl,o4,l6_i1,l8_i1,l9_i1,l30_i1,l31_i1,l32_i1,k17⟩
      ·have hB4:=Ai hB4 h5;refine wp_skip<|?_;cases hB4;refine lf<|?_;exact⟨_,l10_i1,O3,l6_i1,l8_i1,l9_i1,l30_i1,l31_i1,l32_i1,k11⟩
     rintro L w11⟨v6,l10_j1,O10_j1,l6_j1,l8_j1,l9_j1,l30_j1,l31_j1,l32_j1,K0_j1⟩;have hz:=RV.sl O10_j1.rv;obtain⟨a10,cq8,rfl,-,-,-⟩:=hz;cases hB3;refine lf<|?_;exact⟨_,l10_j1,O10_j1,l6_j1,l8_j1,l9_j1,l30_j1,l31_j1,l32_j1,K0_j1⟩
    rintro L w12⟨v5,l10_j2,O10_j2,l6_j2,l8_j2,l9_j2,l30_j2,l31_j2,l32_j2,K0_j2⟩;have hz:=RV.sl O10_j2.rv;obtain⟨a11,cq9,rfl,-,-,-⟩:=hz;refine rg<|Zv (Aw l32_j2 rfl)<|Zm<|nl<|lq m (Nat.lt_succ_self _)<|?_;exact⟨_,_,_,hB1,l10_j2,O10_j2,rfl,l6_j2,l8_j2,l9_j2,l30_j2,l31_j2,K0_j2⟩
   ·have hB1:=Ai hB1 h4;refine wp_exit<|?_;cases hB1;refine lf<|?_;exact⟨_,l10_i1,O10_i1,l6_i1,K0_i1⟩
  rintro L w13⟨v4,l10_j3,O10_j3,l6_j3,K0_j3⟩;have k20:=k3.tr K0_j3;have r52:=r15.ext K0_j3;have r53:=r16.ext K0_j3;have r54:=r17.ext K0_j3;have hc16:=hc3.ext K0_j3;have hz:=RV.sl O10_j3.rv;obtain⟨a12,cq10,rfl,-,-,-⟩:=hz;refine Zr<|Zm<|Zm<|bS hF fun x11 Ex11 hF=>Zc (xc X7 (mc l6_j3 (mc l10_j3 mn))) (eY (x0:=(x4.1,x4.2.1,x4.2.2)) hc16 ⟨[.pointer a4],[.slice a5 x4.2.1.length cq3]++[.slice a6 x4.2.2.length cq4],rfl,(Db r52),[.slice a5 x4.2.1.length cq3],[.slice a6 x4.2.2.length cq4],rfl,r53.rep1,r54.rep1⟩ O10_j3.rv Ex11) ?_;rintro _ w14⟨u3,rfl,r55,hx8⟩;have k21:=k20.tr hx8;have hz:=RV.sl r55;obtain⟨a13,cq11,rfl,-,-,-⟩:=hz;refine Za<|Za<|nl<|?_;cases hF;exact wp_ret<|rt rfl (.tmp rfl rfl (.tmp rfl rfl .nil)) ⟨_,rfl,r55,k21⟩
theorem zP{w0:World}{F:Nat}{r:Bool}(hF:Nt F=some r):
  Calls Tryz.prog 15 [].toArray w0 (BN fun v w'=>v=.bool r/\Ext w0 w'):=by
 unfold Nt at hF;refine BK (n:=8) Tryz.func15 rfl rfl rfl<|Zr<|Za<|nl<|Zr<|bS hF fun x1 Ex1 hF=>Zc (xc wC mn) (xM Ex1) ?_;rintro _ w1⟨rfl,hx1⟩;refine Zm<|bS hF fun x2 Ex2 hF=>gc rfl rfl rfl rfl (CB rfl) rfl (fun hc=>xc wD mn) (fun hc=>(xN (Ot Ex2 hc))) (fun v1 w2 hy1 hn1=>?_);have hx2:Ext w1 w2:=gx (fun h=>(hy1 h).2) (fun h=>(hn1 h).2▸Ext.refl _);have e1:=Ou (fun h=>(hy1 h).1) (fun h=>(hn1 h).1);have k1:=hx1.tr hx2;refine Zv (Ky rfl e1 rfl)<|Zm<|bS hF fun x3 Ex3 hF=>gc rfl rfl rfl rfl (CB rfl) rfl (fun hc=>xc wI mn) (fun hc=>(xO (Ot Ex3 hc))) (fun v2 w3 hy2 hn2=>?_);have hx3:Ext w2 w3:=gx (fun h=>(hy2 h).2) (fun h=>(hn2 h).2▸Ext.refl _);have e2:=Ou (fun h=>(hy2 h).1) (fun h=>(hn2 h).1);have k2:=k1.tr hx3;refine Zv (Ky rfl e2 rfl)<|Za<|nl<|?_;cases hF;exact wp_ret<|Zw rfl rfl rfl ⟨rfl,k2⟩
theorem zQ{w0:World}{v0:Value}{x0:DJ}(r0:RV w0 v0 x0){F:Nat}{r:Bool}(hF:FT F x0=some r):
  Calls Tryz.prog 24 [v0].toArray w0 (BN fun v w'=>v=.bool r/\Ext w0 w'):=by
 unfold FT at hF;have hz:=id r0;obtain⟨_,rfl,_,_,rfl,⟨a1,cq1,rfl,p1,q2,e1⟩,_,_,rfl,rfl,_,_,rfl,rfl,rfl⟩:=hz;have r2:=RV.of1 p1 q2 e1;refine BK (n:=12) Tryz.func24 rfl rfl rfl<|Zr<|Cw rfl rfl fun b2 w1 hx1 hg1 hb1=>?_;have r3:=r2.ext hx1;refine Za<|nl<|Zr<|Zv (AX rfl Fg)<|Zv (AR rfl I6 ((Bx.cs hb1).at 0 rfl))<|Zv (Ao rfl Tryz.underlying46)<|Zv (Mf rfl rfl)<|Zm<|Zg rfl rfl (CB rfl) (fun hc=>Ad rfl Ij rfl (Bx.cs hb1))<|bS hF fun x2 Ex2 hF=>gc rfl rfl rfl rfl (CB rfl) rfl (fun hc=>xc X4 (mc (mv hc rfl) mn)) (fun hc=>(gN (show RV (α:=DJ) _ (.agg [.slice a1 x0.1.length cq1,.int .i64 x0.2.1,.int .i64 x0.2.2.1,.int .i64 x0.2.2.2].toArray) (x0.1,x0.2.1,(x0.2.2.1,x0.2.2.2))from⟨_,rfl,[.slice a1 x0.1.length cq1],[.int .i64 x0.2.1]++([.int .i64 x0.2.2.1]++[.int .i64 x0.2.2.2]),rfl,r3.rep1,[.int .i64 x0.2.1],[.int .i64 x0.2.2.1]++[.int .i64 x0.2.2.2],rfl,rfl,[.int .i64 x0.2.2.1],[.int .i64 x0.2.2.2],rfl,rfl,rfl⟩) (Ot Ex2 hc))) (fun v2 w2 hy1 hn1=>?_);have hx2:Ext w1 w2:=gx (fun h=>(hy1 h).2) (fun h=>(hn1 h).2▸Ext.refl _);have e2:=Ou (fun h=>(hy1 h).1) (fun h=>(hn1 h).1);have k1:=hx1.tr hx2;refine Zg rfl rfl (CB rfl) (fun hc=>FE (mv hc e2) rfl)<|Zv (Ky rfl rfl rfl)<|Za<|nl<|?_;cases hF;exact wp_ret<|Zw rfl rfl rfl ⟨rfl,k1⟩
theorem uS{w0:World}{v0:Value}{x0:DJ}(r0:RV w0 v0 x0){v1:Value}{x1:(List (Int×Bool))}(r1:RV w0 v1 x1){F:Nat}{r:Int}(hF:FC F x0 x1=some r):
  Calls Tryz.prog 39 [v0,v1].toArray w0 (BN fun v w'=>v=.int .i64 r/\Ext w0 w'):=by
 unfold FC at hF;have hz:=id r0;obtain⟨_,rfl,_,_,rfl,⟨a1,cq1,rfl,p1,q3,e1⟩,_,_,rfl,rfl,_,_,rfl,rfl,rfl⟩:=hz;have r3:=RV.of1 p1 q3 e1;have hz:=r1.sl;obtain⟨a2,cq2,rfl,-,-,-⟩:=hz;refine BK (n:=73) Tryz.func39 rfl rfl rfl<|Zr<|Cw rfl rfl fun b3 w1 hx1 hg1 hb1=>?_;have r5:=r3.ext hx1;refine Za<|nl<|wp_seq<|Zr<|Zv (Ad rfl Ij rfl (Bx.cs hb1))<|bS hF fun x3 Ex3 hF=>Zc (xc X4 (mc rfl mn)) (gN (show RV (α:=DJ) _ (.agg [.slice a1 x0.1.length cq1,.int .i64 x0.2.1,.int .i64 x0.2.2.1,.int .i64 x0.2.2.2].toArray) (x0.1,x0.2.1,(x0.2.2.1,x0.2.2.2))from⟨_,rfl,[.slice a1 x0.1.length cq1],[.int .i64 x0.2.1]++([.int .i64 x0.2.2.1]++[.int .i64 x0.2.2.2]),rfl,r5.rep1,[.int .i64 x0.2.1],[.int .i64 x0.2.2.1]++[.int .i64 x0.2.2.2],rfl,rfl,[.int .i64 x0.2.2.1],[.int .i64 x0.2.2.2],rfl,rfl,rfl⟩) Ex3) ?_;rintro _ w2⟨rfl,hx2⟩;have k1:=hx1.tr hx2;have hb2:=hb1.ext hx2;have r7:=r5.ext hx2;refine Zv (FH rfl rfl)<|nl<|cnd rfl (fun h3=>?_) (fun h3=>?_)
 ·have hF:=Ah hF h3;refine Zr<|Zv (Ad rfl Ij rfl (Bx.cs hb2))<|bS hF fun x4 Ex4 hF=>Zc (xc X4 (mc rfl mn)) (gN (show RV (α:=DJ) _ (.agg [.slice a1 x0.1.length cq1,.int .i64 x0.2.1,.int .i64 x0.2.2.1,.int .i64 x0.2.2.2].toArray) (x0.1,x0.2.1,(x0.2.2.1,x0.2.2.2))from⟨_,rfl,[.slice a1 x0.1.length cq1],[.int .i64 x0.2.1]++([.int .i64 x0.2.2.1]++[.int .i64 x0.2.2.2]),rfl,r7.rep1,[.int .i64 x0.2.1],[.int .i64 x0.2.2.1]++[.int .i64 x0.2.2.2],rfl,rfl,[.int .i64 x0.2.2.1],[.int .i64 x0.2.2.2],rfl,rfl,rfl⟩) Ex4) ?_;rintro _ w3⟨rfl,hx3⟩;have k2:=k1.tr hx3;refine Za<|nl<|?_;cases hF;exact wp_ret<|Zw rfl rfl rfl ⟨rfl,k2⟩
 ·have hF:=Ai hF h3;refine wp_skip<|wp_seq<|Zr<|Zm<|Zv (Ao rfl Tryz.underlying51)<|Zv (AX rfl Fg)<|Zv (AR rfl I6 ((Bx.cs hb2).at 0 rfl))<|Zv (Ao rfl Tryz.underlying46)<|Zv (FH rfl rfl)<|nl<|cnd rfl (fun h4=>?_) (fun h4=>?_)
  ·have hF:=Ah hF h4;refine Zr<|Za<|nl<|?_;cases hF;exact wp_ret<|Zw rfl rfl rfl ⟨rfl,k1⟩
  ·have hF:=Ai hF h4;refine wp_skip<|wp_seq<|Zr<|Za<|nl<|bS hF fun o1 hB1 hF=>ct (fun L w=>o1=.inr ()/\L 1=.slice a2 x1.length cq2/\L 2=.pointer (some ⟨b3,0,none⟩)/\Ext w2 w) ?_ ?_
   ·refine wp_block<|lp (I:=fun m L w=>∃y1:Int,EF F x0 x1 m y1=some o1/\L 5=.int .i64 y1/\L 1=.slice a2 x1.length cq2/\L 2=.pointer (some ⟨b3,0,none⟩)/\Ext w2 w) F ⟨_,hB1,rfl,rfl,rfl,(Ext.refl _)⟩ ?_;rintro m L w4⟨y1,hB1,l5_i1,l1_i1,l2_i1,K0_i1⟩;rcases m with _|m
    ·rw[EF]at hB1;cases hB1
    rw[EF]at hB1;have k3:=k1.tr K0_i1;have r10:=r7.ext K0_i1;have hb3:=hb2.ext K0_i1;refine wp_seq<|Zr<|Zm<|Zm<|Zv (Ao l1_i1 Tryz.underlying51)<|Zv (BL l5_i1 rfl)<|nl<|cnd rfl (fun h5=>?_) (fun h5=>?_)
    ·have hB1:=Ah hB1 h5;refine wp_skip<|wp_seq<|wp_block<|wp_seq<|Ff [] (.pure false 0 (.pure true 1 (.pure true 2 (.pure true 3 (.pure false 4 (.eff 5 (.pure true 6 .fin) .stop)))))) mixed (by kernel_rfl) (fun w5 hx4=>?_);have k4:=k3.tr hx4;have k5:=K0_i1.tr hx4;have hb4:=hb3.ext hx4;have r11:=r10.ext hx4;refine Zq rfl (fun _ hS=>Ad l2_i1 Ij rfl (Bx.cs (hb4.ext (hS.resolve_left nofun)))) (Ext.refl _)<|Zn rfl<|Zn rfl<|bS hB1 fun x5 Ex5 hB1=>?_;have hz:=(RV.els r1).ix Ex5;obtain⟨b4,f1,cs3,e2,i2,i3,q4,hc1⟩:=hz;cases e2;obtain⟨_,_,rfl,rfl,rfl⟩:=q4;have hc2:=hc1.ext k4;refine Zp rfl (fun _=>Al l1_i1 l5_i1 Tryz.underlying51 BU i2 i3)<|Zq rfl (fun _ hS=>Ad rfl BU rfl (hc2.ext (hS.resolve_left nofun))) (Ext.refl _)<|bS hB1 fun x6 Ex6 hB1=>Br rfl<|Zc (xc qf (mc rfl (mc rfl mn))) (xR (show RV (α:=DJ) _ (.agg [.slice a1 x0.1.length cq1,.int .i64 x0.2.1,.int .i64 x0.2.2.1,.int .i64 x0.2.2.2].toArray) (x0.1,x0.2.1,(x0.2.2.1,x0.2.2.2))from⟨_,rfl,[.slice a1 x0.1.length cq1],[.int .i64 x0.2.1]++([.int .i64 x0.2.2.1]++[.int .i64 x0.2.2.2]),rfl,r11.rep1,[.int .i64 x0.2.1],[.int .i64 x0.2.2.1]++[.int .i64 x0.2.2.2],rfl,rfl,[.int .i64 x0.2.2.1],[.int .i64 x0.2.2.2],rfl,rfl,rfl⟩) (show RV (α:=(Int×Bool)) _ (.agg [.int .i64 x5.1,.bool x5.2].toArray) (x5.1,x5.2)from⟨_,rfl,[.int .i64 x5.1],[.bool x5.2],rfl,rfl,rfl⟩) Ex6) ?_;rintro _ w6⟨rfl,hx5⟩;have k6:=k4.tr hx5;have k7:=k5.tr hx5;refine nl ⟨fun _ _=>hx5,?_⟩;refine Zp rfl (fun _=>GV rfl)<|cnd rfl (fun h6=>?_) (fun h6=>?_)
     ·have hB1:=Ah hB1 h6;refine Zr<|Za<|nl<|?_;cases hB1;have hF:=(show some _=some _ from hF);cases hF;exact wp_ret<|Zw rfl rfl rfl ⟨rfl,k6⟩
     ·have hB1:=Ai hB1 h6;refine wp_skip<|rg<|Zm<|Zv (Aw l5_i1 rfl)<|Za<|nl<|lq m (Nat.lt_succ_self _)<|?_;exact⟨_,hB1,rfl,l1_i1,l2_i1,k7⟩
    ·have hB1:=Ai hB1 h5;refine wp_exit<|?_;cases hB1;refine lf<|?_;exact⟨rfl,l1_i1,l2_i1,K0_i1⟩
   rintro L w7⟨rfl,l1_j1,l2_j1,K0_j1⟩;have k8:=k1.tr K0_j1;have r16:=r7.ext K0_j1;have hb6:=hb2.ext K0_j1;refine wp_seq<|Zr<|Za<|nl<|bS hF fun o2 hB6 hF=>ct (fun L w=>o2=.inr ()/\L 1=.slice a2 x1.length cq2/\L 2=.pointer (some ⟨b3,0,none⟩)/\Ext w7 w) ?_ ?_
   ·refine wp_block<|lp (I:=fun m L w=>∃y2:Int,EH F x1 m y2=some o2/\L 6=.int .i64 y2/\L 1=.slice a2 x1.length cq2/\L 2=.pointer (some ⟨b3,0,none⟩)/\Ext w7 w) F ⟨_,hB6,rfl,l1_j1,l2_j1,(Ext.refl _)⟩ ?_;rintro m L w8⟨y2,hB6,l6_i4,l1_i4,l2_i4,K0_i4⟩;rcases m with _|m
    ·rw[EH]at hB6;cases hB6
    rw[EH]at hB6;have k9:=k8.tr K0_i4;refine wp_seq<|Zr<|Zm<|Zm<|Zv (Ao l1_i4 Tryz.underlying51)<|Zv (BL l6_i4 rfl)<|nl<|cnd rfl (fun h7=>?_) (fun h7=>?_)
    ·have hB6:=Ah hB6 h7;refine wp_skip<|wp_seq<|wp_block<|Zr<|Za<|nl<|bS hB6 fun o3 hB8 hB6=>ct (fun L w=>o3=.inr ()/\L 1=.slice a2 x1.length cq2/\L 2=.pointer (some ⟨b3,0,none⟩)/\L 6=.int .i64 y2/\Ext w8 w) ?_ ?_
     ·refine wp_block<|lp (I:=fun m L w=>∃y3:Int,EG F x1 y2 m y3=some o3/\L 7=.int .i64 y3/\L 1=.slice a2 x1.length cq2/\L 2=.pointer (some ⟨b3,0,none⟩)/\L 6=.int .i64 y2/\Ext w8 w) F ⟨_,hB8,rfl,l1_i4,l2_i4,l6_i4,(Ext.refl _)⟩ ?_;rintro m L w9⟨y3,hB8,l7_i5,l1_i5,l2_i5,l6_i5,K0_i5⟩;rcases m with _|m
      ·rw[EG]at hB8;cases hB8
      rw[EG]at hB8;have k11:=k9.tr K0_i5;refine wp_seq<|Zr<|Zm<|Zm<|Zv (BL l7_i5 l6_i5)<|nl<|cnd rfl (fun h8=>?_) (fun h8=>?_)
      ·have hB8:=Ah hB8 h8;refine wp_skip<|wp_seq<|wp_block<|wp_seq<|Ff [] (.pure true 0 (.pure true 1 (.pure true 2 (.pure true 3 (.pure false 4 (.pure true 5 (.pure true 6 (.pure true 7 (.pure true 8 (.pure false 9 (.pure true 10 .fin))))))))))) mixed (by kernel_rfl) (fun w10 hx6=>?_);have k14:=k11.tr hx6;have k17:=K0_i5.tr hx6;refine Zn rfl<|Zn rfl<|bS hB8 fun x7 Ex7 hB8=>?_;have hz:=(RV.els r1).ix Ex7;obtain⟨b5,f2,cs4,e3,i6,i7,q5,hc3⟩:=hz;cases e3;obtain⟨_,_,rfl,rfl,rfl⟩:=q5;have hc4:=hc3.ext k14;refine Zp rfl (fun _=>Al l1_i5 l6_i5 Tryz.underlying51 BU i6 i7)<|Zp rfl (fun _=>AX rfl Fh)<|Zq rfl (fun _ hS=>AR rfl Aa ((hc4.ext (hS.resolve_left nofun)).at 0 rfl)) (Ext.refl _)<|Zn rfl<|Zn rfl<|bS hB8 fun x8 Ex8 hB8=>?_;have hz:=Gd r1 Ex8;obtain⟨cs5,i8,i9,q6,hc5⟩:=hz;obtain⟨_,_,rfl,rfl,rfl⟩:=q6;have hc6:=hc5.ext k14;refine Zp rfl (fun _=>Al l1_i5 l7_i5 Tryz.underlying51 BU i8 i9)<|Zp rfl (fun _=>AX rfl Fh)<|Zq rfl (fun _ hS=>AR rfl Aa ((hc6.ext (hS.resolve_left nofun)).at 0 rfl)) (Ext.refl _)<|Zp rfl (fun _=>FE rfl rfl)<|cnd rfl (fun h9=>?_) (fun h9=>?_)
       ·have hB8:=Ah hB8 h9;refine Zr<|Za<|nl<|?_;cases hB8;have hB6:=(show some _=some _ from hB6);cases hB6;have hF:=(show some _=some _ from hF);cases hF;exact wp_ret<|Zw rfl rfl rfl ⟨rfl,k14⟩
       ·have hB8:=Ai hB8 h9;refine wp_skip<|rg<|Zm<|Zv (Aw l7_i5 rfl)<|Za<|nl<|lq m (Nat.lt_succ_self _)<|?_;exact⟨_,hB8,rfl,l1_i5,l2_i5,l6_i5,k17⟩
      ·have hB8:=Ai hB8 h8;refine wp_exit<|?_;cases hB8;refine lf<|?_;exact⟨rfl,l1_i5,l2_i5,l6_i5,K0_i5⟩
     rintro L w11⟨rfl,l1_j2,l2_j2,l6_j2,K0_j2⟩;have k20:=K0_i4.tr K0_j2;refine rg<|Zm<|Zv (Aw l6_j2 rfl)<|Za<|nl<|lq m (Nat.lt_succ_self _)<|?_;exact⟨_,hB6,rfl,l1_j2,l2_j2,k20⟩
    ·have hB6:=Ai hB6 h7;refine wp_exit<|?_;cases hB6;refine lf<|?_;exact⟨rfl,l1_i4,l2_i4,K0_i4⟩
   rintro L w12⟨rfl,l1_j3,l2_j3,K0_j3⟩;have k21:=k8.tr K0_j3;have r26:=r16.ext K0_j3;have hb11:=hb6.ext K0_j3;refine wp_seq<|Zr<|Za<|nl<|bS hF fun o4 hB14 hF=>ct (fun L w=>o4=.inr ()/\Ext w12 w) ?_ ?_
   ·refine wp_block<|lp (I:=fun m L w=>∃y4:Int,EI F x0 x1 m y4=some o4/\L 8=.int .i64 y4/\L 1=.slice a2 x1.length cq2/\L 2=.pointer (some ⟨b3,0,none⟩)/\Ext w12 w) F ⟨_,hB14,rfl,l1_j3,l2_j3,(Ext.refl _)⟩ ?_;rintro m L w13⟨y4,hB14,l8_i10,l1_i10,l2_i10,K0_i10⟩;rcases m with _|m
    ·rw[EI]at hB14;cases hB14
    rw[EI]at hB14;have k23:=k21.tr K0_i10;have r28:=r26.ext K0_i10;have hb12:=hb11.ext K0_i10;refine wp_seq<|Zr<|Zm<|Zm<|Zv (Ao l1_i10 Tryz.underlying51)<|Zv (BL l8_i10 rfl)<|nl<|cnd rfl (fun h10=>?_) (fun h10=>?_)
    ·have hB14:=Ah hB14 h10;refine wp_skip<|wp_seq<|wp_block<|wp_seq<|Ff [] (.pure false 0 (.pure true 1 (.pure true 2 (.pure true 3 (.pure true 4 (.pure false 5 (.pure true 6 (.pure true 7 (.pure true 8 (.pure false 9 (.eff 10 (.pure true 11 .fin) .stop))))))))))) mixed (by kernel_rfl) (fun w14 hx7=>?_);have k26:=k23.tr hx7;have k29:=K0_i10.tr hx7;have hb13:=hb12.ext hx7;have r29:=r28.ext hx7;refine Zq rfl (fun _ hS=>Ad l2_i10 Ij rfl (Bx.cs (hb13.ext (hS.resolve_left nofun)))) (Ext.refl _)<|Zn rfl<|Zn rfl<|Zp rfl (fun _=>IV l8_i10 rfl)<|bS hB14 fun x9 Ex9 hB14=>?_;have hz:=(RV.els r1).ix Ex9;obtain⟨b6,f3,cs6,e4,i11,i12,q7,hc7⟩:=hz;cases e4;obtain⟨_,_,rfl,rfl,rfl⟩:=q7;have hc8:=hc7.ext k26;refine Zp rfl (fun _=>Al l1_i10 rfl Tryz.underlying51 BU i11 i12)<|Zq rfl (fun _ hS=>Ad rfl BU rfl (hc8.ext (hS.resolve_left nofun))) (Ext.refl _)<|Zn rfl<|Zn rfl<|bS hB14 fun x10 Ex10 hB14=>?_;have hz:=Gd r1 Ex10;obtain⟨cs7,i13,i14,q8,hc9⟩:=hz;obtain⟨_,_,rfl,rfl,rfl⟩:=q8;have hc10:=hc9.ext k26;refine Zp rfl (fun _=>Al l1_i10 l8_i10 Tryz.underlying51 BU i13 i14)<|Zq rfl (fun _ hS=>Ad rfl BU rfl (hc10.ext (hS.resolve_left nofun))) (Ext.refl _)<|bS hB14 fun x11 Ex11 hB14=>Br rfl<|Zc (xc qg (mc rfl (mc rfl (mc rfl mn)))) (xS (show RV (α:=DJ) _ (.agg [.slice a1 x0.1.length cq1,.int .i64 x0.2.1,.int .i64 x0.2.2.1,.int .i64 x0.2.2.2].toArray) (x0.1,x0.2.1,(x0.2.2.1,x0.2.2.2))from⟨_,rfl,[.slice a1 x0.1.length cq1],[.int .i64 x0.2.1]++([.int .i64 x0.2.2.1]++[.int .i64 x0.2.2.2]),rfl,r29.rep1,[.int .i64 x0.2.1],[.int .i64 x0.2.2.1]++[.int .i64 x0.2.2.2],rfl,rfl,[.int .i64 x0.2.2.1],[.int .i64 x0.2.2.2],rfl,rfl,rfl⟩) (show RV (α:=(Int×Bool)) _ (.agg [.int .i64 x9.1,.bool x9.2].toArray) (x9.1,x9.2)from⟨_,rfl,[.int .i64 x9.1],[.bool x9.2],rfl,rfl,rfl⟩) (show RV (α:=(Int×Bool)) _ (.agg [.int .i64 x10.1,.bool x10.2].toArray) (x10.1,x10.2)from⟨_,rfl,[.int .i64 x10.1],[.bool x10.2],rfl,rfl,rfl⟩) Ex11) ?_;rintro _ w15⟨rfl,hx8⟩;have k30:=k26.tr hx8;have k33:=k29.tr hx8;refine nl ⟨fun _ _=>hx8,?_⟩;refine Zp rfl (fun _=>GV rfl)<|cnd rfl (fun h11=>?_) (fun h11=>?_)
     ·have hB14:=Ah hB14 h11;refine Zr<|Za<|nl<|?_;cases hB14;have hF:=(show some _=some _ from hF);cases hF;exact wp_ret<|Zw rfl rfl rfl ⟨rfl,k30⟩
     ·have hB14:=Ai hB14 h11;refine wp_skip<|rg<|Zm<|Zv (Aw l8_i10 rfl)<|Za<|nl<|lq m (Nat.lt_succ_self _)<|?_;exact⟨_,hB14,rfl,l1_i10,l2_i10,k33⟩
    ·have hB14:=Ai hB14 h10;refine wp_exit<|?_;cases hB14;refine lf<|?_;exact⟨rfl,K0_i10⟩
   rintro L w16⟨rfl,K0_j4⟩;have k34:=k21.tr K0_j4;refine Zr<|Za<|nl<|?_;cases hF;exact wp_ret<|Zw rfl rfl rfl ⟨rfl,k34⟩
theorem zR{w0:World}{v0:Value}{x0:(Uno (List (Ar 2 Int)))}(r0:RV w0 v0 x0){v1:Value}{x1:(List (List Int))}(r1:RV w0 v1 x1){v2:Value}{x2:(List (List Int))}(r2:RV w0 v2 x2){F:Nat}{r:Int}(hF:FU F x0 x1 x2=some r):
  Calls Tryz.prog 44 [v0,v1,v2].toArray w0 (BN fun v w'=>v=.int .i64 r/\Ext w0 w'):=by
 unfold FU at hF;have hz:=id r0;obtain⟨_,rfl,a1,cq1,rfl,p1,q4,e1⟩:=hz;have r4:=RV.of1 p1 q4 e1;have hz:=r1.sl;obtain⟨a2,cq2,rfl,-,-,-⟩:=hz;have hz:=r2.sl;obtain⟨a3,cq3,rfl,-,-,-⟩:=hz;refine BK (n:=135) Tryz.func44 rfl rfl rfl<|Zr<|Cw rfl rfl fun b4 w1 hx1 hg1 hb1=>?_;have r5:=r1.ext hx1;have r7:=r4.ext hx1;refine Za<|nl<|wp_seq<|Zr<|Zv (Ad rfl JY rfl (Bx.cs hb1))<|Zm<|bS hF fun x4 Ex4 hF=>Zc (xc iQ (mc rfl (mc rfl mn))) (nK (show RV (α:=(Uno (List (Ar 2 Int)))) _ (.agg [.slice a1 x0.v.length cq1].toArray) (⟨x0.v⟩:(Uno (List (Ar 2 Int))))from⟨_,rfl,r7.rep1⟩) r5 Ex4) ?_;rintro _ w2⟨rfl,hx2⟩;have k1:=hx1.tr hx2;have hb2:=hb1.ext hx2;have r9:=r7.ext hx2;have r10:=r5.ext hx2;refine Zv (FH rfl rfl)<|nl<|cnd rfl (fun h4=>?_) (fun h4=>?_)
 ·have hF:=Ah hF h4;refine Zr<|Zv (Ad rfl JY rfl (Bx.cs hb2))<|Zm<|bS hF fun x5 Ex5 hF=>Zc (xc iQ (mc rfl (mc rfl mn))) (nK (show RV (α:=(Uno (List (Ar 2 Int)))) _ (.agg [.slice a1 x0.v.length cq1].toArray) (⟨x0.v⟩:(Uno (List (Ar 2 Int))))from⟨_,rfl,r9.rep1⟩) r10 Ex5) ?_;rintro _ w3⟨rfl,hx3⟩;have k2:=k1.tr hx3;refine Za<|nl<|?_;cases hF;exact wp_ret<|Zw rfl rfl rfl ⟨rfl,k2⟩
 ·have hF:=Ai hF h4;refine wp_skip<|wp_seq<|Zr<|Zm<|Zv (Ao rfl Tryz.underlying85)<|Zv (Ig rfl rfl)<|nl<|cnd rfl (fun h5=>?_) (fun h5=>?_)
  ·have hF:=Ah hF h5;refine Zr<|Za<|nl<|?_;cases hF;exact wp_ret<|Zw rfl rfl rfl ⟨rfl,k1⟩
  ·have hF:=Ai hF h5;refine wp_skip<|wp_seq<|Zr<|Za<|nl<|bS hF fun o1 hB1 hF=>ct (fun L w=>o1=.inr ()/\L 1=.slice a2 x1.length cq2/\L 2=.slice a3 x2.length cq3/\L 3=.pointer (some ⟨b4,0,none⟩)/\Ext w2 w) ?_ ?_
   ·refine wp_block<|lp (I:=fun m L w=>∃y1:Int,DR F x1 x2 m y1=some o1/\L 7=.int .i64 y1/\L 1=.slice a2 x1.length cq2/\L 2=.slice a3 x2.length cq3/\L 3=.pointer (some ⟨b4,0,none⟩)/\Ext w2 w) F ⟨_,hB1,rfl,rfl,rfl,rfl,(Ext.refl _)⟩ ?_;rintro m L w4⟨y1,hB1,l7_i1,l1_i1,l2_i1,l3_i1,K0_i1⟩;rcases m with _|m
    ·rw[DR]at hB1;cases hB1
    rw[DR]at hB1;have k3:=k1.tr K0_i1;refine wp_seq<|Zr<|Zm<|Zm<|Zv (Ao l2_i1 Tryz.underlying85)<|Zv (BL l7_i1 rfl)<|nl<|cnd rfl (fun h6=>?_) (fun h6=>?_)
    ·have hB1:=Ah hB1 h6;refine wp_skip<|wp_seq<|wp_block<|Zr<|Zm<|Zm<|bS hB1 fun x6 Ex6 hB1=>?_;have hz:=(RV.els r2).ix Ex6;obtain⟨b5,f1,cs4,e2,i2,i3,q5,hc1⟩:=hz;cases e2;obtain⟨a4,cq4,rfl,p2,q6,e3⟩:=q5;have hc2:=hc1.ext k3;refine Zv (Al l2_i1 l7_i1 Tryz.underlying85 KG i2 i3)<|Zv (AR rfl KG (hc2.at 0 rfl))<|Zv (Ao rfl Tryz.underlying98)<|Zm<|Zv (Ao l1_i1 Tryz.underlying78)<|Zv (FH rfl rfl)<|nl<|cnd rfl (fun h7=>?_) (fun h7=>?_)
     ·have hB1:=Ah hB1 h7;refine Zr<|Za<|nl<|?_;cases hB1;have hF:=(show some _=some _ from hF);cases hF;exact wp_ret<|Zw rfl rfl rfl ⟨rfl,k3⟩
     ·have hB1:=Ai hB1 h7;refine wp_skip<|rg<|Zm<|Zv (Aw l7_i1 rfl)<|Za<|nl<|lq m (Nat.lt_succ_self _)<|?_;exact⟨_,hB1,rfl,l1_i1,l2_i1,l3_i1,K0_i1⟩
    ·have hB1:=Ai hB1 h6;refine wp_exit<|?_;cases hB1;refine lf<|?_;exact⟨rfl,l1_i1,l2_i1,l3_i1,K0_i1⟩
   rintro L w5⟨rfl,l1_j1,l2_j1,l3_j1,K0_j1⟩;have k4:=k1.tr K0_j1;have r19:=r9.ext K0_j1;have hb4:=hb2.ext K0_j1;refine wp_seq<|Zr<|Za<|nl<|bS hF fun o2 hB6 hF=>ct (fun L w=>o2=.inr ()/\L 1=.slice a2 x1.length cq2/\L 2=.slice a3 x2.length cq3/\L 3=.pointer (some ⟨b4,0,none⟩)/\Ext w5 w) ?_ ?_
   ·refine wp_block<|lp (I:=fun m L w=>∃y2:Int,DU F x1 x2 m y2=some o2/\L 8=.int .i64 y2/\L 1=.slice a2 x1.length cq2/\L 2=.slice a3 x2.length cq3/\L 3=.pointer (some ⟨b4,0,none⟩)/\Ext w5 w) F ⟨_,hB6,rfl,l1_j1,l2_j1,l3_j1,(Ext.refl _)⟩ ?_;rintro m L w6⟨y2,hB6,l8_i4,l1_i4,l2_i4,l3_i4,K0_i4⟩;rcases m with _|m
    ·rw[DU]at hB6;cases hB6
    rw[DU]at hB6;have k5:=k4.tr K0_i4;refine wp_seq<|Zr<|Zm<|Zm<|Zv (Ao l2_i4 Tryz.underlying85)<|Zv (BL l8_i4 rfl)<|nl<|cnd rfl (fun h8=>?_) (fun h8=>?_)
    ·have hB6:=Ah hB6 h8;refine wp_skip<|wp_seq<|wp_block<|Zr<|Za<|nl<|bS hB6 fun o3 hB8 hB6=>ct (fun L w=>o3=.inr ()/\L 1=.slice a2 x1.length cq2/\L 2=.slice a3 x2.length cq3/\L 3=.pointer (some ⟨b4,0,none⟩)/\L 8=.int .i64 y2/\Ext w6 w) ?_ ?_
     ·refine wp_block<|lp (I:=fun m L w=>∃y3:Int,DT F x1 x2 y2 m y3=some o3/\L 9=.int .i64 y3/\L 1=.slice a2 x1.length cq2/\L 2=.slice a3 x2.length cq3/\L 3=.pointer (some ⟨b4,0,none⟩)/\L 8=.int .i64 y2/\Ext w6 w) F ⟨_,hB8,rfl,l1_i4,l2_i4,l3_i4,l8_i4,(Ext.refl _)⟩ ?_;rintro m L w7⟨y3,hB8,l9_i5,l1_i5,l2_i5,l3_i5,l8_i5,K0_i5⟩;rcases m with _|m
      ·rw[DT]at hB8;cases hB8
      rw[DT]at hB8;have k7:=k5.tr K0_i5;refine wp_seq<|Zr<|Zm<|Zm<|Zv (Ao l1_i5 Tryz.underlying78)<|Zv (BL l9_i5 rfl)<|nl<|cnd rfl (fun h9=>?_) (fun h9=>?_)
      ·have hB8:=Ah hB8 h9;refine wp_skip<|wp_seq<|wp_block<|wp_seq<|bS hB8 fun y4 hB10 hB8=>ct (fun L w=>L 72=.bool y4/\L 1=.slice a2 x1.length cq2/\L 2=.slice a3 x2.length cq3/\L 3=.pointer (some ⟨b4,0,none⟩)/\L 8=.int .i64 y2/\L 9=.int .i64 y3/\Ext w7 w) ?_ ?_
       ·refine Ff [] (.pure true 0 (.pure true 1 (.pure true 2 (.pure false 3 (.pure true 4 (.pure true 5 (.pure false 6 (.pure true 7 (.pure true 8 (.pure true 9 (.pure true 10 (.pure true 11 (.pure false 12 (.pure true 13 (.pure true 14 (.pure false 15 (.pure true 16 (.pure true 17 (.pure true 18 (.pure false 19 (.pure false 20 (.pure true 21 (.pure true 22 .fin))))))))))))))))))))))) mixed (by kernel_rfl) (fun w9 hx5=>?_);have k14:=k7.tr hx5;refine Zn rfl<|Zn rfl<|bS hB10 fun x9 Ex9 hB10=>?_;have hz:=(RV.els r2).ix Ex9;obtain⟨b8,f4,cs7,e7,i10,i11,q10,hc7⟩:=hz;cases e7;obtain⟨a6,cq6,rfl,p4,q11,e8⟩:=q10;have r34:=RV.of1 p4 q11 e8;have hc8:=hc7.ext k14;refine Zp rfl (fun _=>Al l2_i5 l8_i5 Tryz.underlying85 KG i10 i11)<|Zq rfl (fun _ hS=>AR rfl KG ((hc8.ext (hS.resolve_left nofun)).at 0 rfl)) (Ext.refl _)<|Zn rfl<|bS hB10 fun x10 Ex10 hB10=>?_;have hz:=(RV.els r34).ix Ex10;obtain⟨b9,f5,cs8,e9,i12,i13,q12,hc9⟩:=hz;cases e9;obtain rfl:=q12;have hc10:=hc9.ext k14;refine Zp rfl (fun _=>Al rfl l9_i5 Tryz.underlying98 Aa i12 i13)<|Zq rfl (fun _ hS=>AR rfl Aa ((hc10.ext (hS.resolve_left nofun)).at 0 rfl)) (Ext.refl _)<|Zp rfl (fun _=>BL rfl rfl)<|Zn rfl<|Or.elim (Bool.eq_false_or_eq_true (decide (x10<0))) (fun h10=>?_) (fun h10=>?_)
        ·have hB10:=Ah hB10 h10;refine Yf rfl (Bl h10)<|Yf rfl (Bl h10)<|Yf rfl (Bl h10)<|Yh rfl (Bl h10) (Ext.refl _)<|Yf rfl (Bl h10)<|Yf rfl (Bl h10)<|Yh rfl (Bl h10) (Ext.refl _)<|Yf rfl (Bl h10)<|Yf rfl (Bl h10)<|Yf rfl (Bl h10)<|Yh rfl (Bl h10) (Ext.refl _)<|Yh rfl (Bl h10) (Ext.refl _)<|Yf rfl (Bl h10)<|Zp rfl (fun _=>GD rfl h10 rfl)<|?_;cases hB10;refine lf<|?_;exact⟨rfl,l1_i5,l2_i5,l3_i5,l8_i5,l9_i5,hx5⟩
        ·have hB10:=Ai hB10 h10;refine Yt rfl (bf h10) (fun _=>Cv)<|Yt rfl (bf h10) (fun _=>Cv)<|bS hB10 fun x11 Ex11 hB10=>?_;have hz:=Gd r2 Ex11;obtain⟨cs9,i14,i15,q13,hc11⟩:=hz;obtain⟨a7,cq7,rfl,p5,q14,e10⟩:=q13;have r36:=RV.of1 p5 q14 e10;have hc12:=hc11.ext k14;refine Yt rfl (bf h10) (fun _=>Al l2_i5 l8_i5 Tryz.underlying85 KG i14 i15)<|Yi rfl (bf h10) (fun _ hS=>AR rfl KG ((hc12.ext (hS.resolve_left nofun)).at 0 rfl)) (Ext.refl _)<|Yt rfl (bf h10) (fun _=>Cv)<|bS hB10 fun x12 Ex12 hB10=>?_;have hz:=(RV.els r36).ix Ex12;obtain⟨b10,f6,cs10,e11,i16,i17,q15,hc13⟩:=hz;cases e11;obtain rfl:=q15;have hc14:=hc13.ext k14;refine Yt rfl (bf h10) (fun _=>Al rfl l9_i5 Tryz.underlying98 Aa i16 i17)<|Yi rfl (bf h10) (fun _ hS=>AR rfl Aa ((hc14.ext (hS.resolve_left nofun)).at 0 rfl)) (Ext.refl _)<|Yt rfl (bf h10) (fun _=>Cv)<|Yt rfl (bf h10) (fun _=>Cv)<|bS hB10 fun x13 Ex13 hB10=>?_;have hz:=(RV.els r1).ix Ex13;obtain⟨b11,f7,cs11,e12,i18,i19,q16,hc15⟩:=hz;cases e12;obtain⟨a8,cq8,rfl,p6,q17,e13⟩:=q16;have hc16:=hc15.ext k14;refine Yt rfl (bf h10) (fun _=>Al l1_i5 l9_i5 Tryz.underlying78 Gu i18 i19)<|Yi rfl (bf h10) (fun _ hS=>AR rfl Gu ((hc16.ext (hS.resolve_left nofun)).at 0 rfl)) (Ext.refl _)<|Yi rfl (bf h10) (fun _ hS=>Ao rfl Tryz.underlying41) (Ext.refl _)<|Yt rfl (bf h10) (fun _=>Kw rfl rfl)<|Zp rfl (fun _=>H8 rfl h10 rfl)<|?_;cases hB10;refine lf<|?_;exact⟨rfl,l1_i5,l2_i5,l3_i5,l8_i5,l9_i5,hx5⟩
       rintro L w10⟨l72_j2,l1_j2,l2_j2,l3_j2,l8_j2,l9_j2,K0_j2⟩;have k18:=k7.tr K0_j2;have k21:=K0_i5.tr K0_j2;refine cnd l72_j2 (fun h11=>?_) (fun h11=>?_)
       ·have hB8:=Ah hB8 h11;refine Zr<|Za<|nl<|?_;cases hB8;have hB6:=(show some _=some _ from hB6);cases hB6;have hF:=(show some _=some _ from hF);cases hF;exact wp_ret<|Zw rfl rfl rfl ⟨rfl,k18⟩
       ·have hB8:=Ai hB8 h11;refine wp_skip<|rg<|Zm<|Zv (Aw l9_j2 rfl)<|Za<|nl<|lq m (Nat.lt_succ_self _)<|?_;exact⟨_,hB8,rfl,l1_j2,l2_j2,l3_j2,l8_j2,k21⟩
      ·have hB8:=Ai hB8 h9;refine wp_exit<|?_;cases hB8;refine lf<|?_;exact⟨rfl,l1_i5,l2_i5,l3_i5,l8_i5,K0_i5⟩
     rintro L w11⟨rfl,l1_j3,l2_j3,l3_j3,l8_j3,K0_j3⟩;have k24:=K0_i4.tr K0_j3;refine rg<|Zm<|Zv (Aw l8_j3 rfl)<|Za<|nl<|lq m (Nat.lt_succ_self _)<|?_;exact⟨_,hB6,rfl,l1_j3,l2_j3,l3_j3,k24⟩
    ·have hB6:=Ai hB6 h8;refine wp_exit<|?_;cases hB6;refine lf<|?_;exact⟨rfl,l1_i4,l2_i4,l3_i4,K0_i4⟩
   rintro L w12⟨rfl,l1_j4,l2_j4,l3_j4,K0_j4⟩;have k25:=k4.tr K0_j4;have r48:=r19.ext K0_j4;have hb11:=hb4.ext K0_j4;refine Zr<|Zv (Ad l3_j4 JY rfl (Bx.cs hb11))<|bS hF fun x14 Ex14 hF=>Zc (xc qi (mc rfl mn)) (xB (show RV (α:=(Uno (List (Ar 2 Int)))) _ (.agg [.slice a1 x0.v.length cq1].toArray) (⟨x0.v⟩:(Uno (List (Ar 2 Int))))from⟨_,rfl,r48.rep1⟩) Ex14) ?_;rintro _ w13⟨u1,rfl,r49,hx6⟩;have k27:=k25.tr hx6;have hz:=RV.sl r49;obtain⟨a9,cq9,rfl,-,-,-⟩:=hz;refine Za<|nl<|wp_seq<|Zr<|Za<|nl<|bS hF fun o4 hB15 hF=>ct (fun L w=>o4=.inr ()/\L 2=.slice a3 x2.length cq3/\Ext w13 w) ?_ ?_
   ·refine wp_block<|lp (I:=fun m L w=>∃y5:Int,DW F x1 x2 x14 m y5=some o4/\L 11=.int .i64 y5/\L 1=.slice a2 x1.length cq2/\L 2=.slice a3 x2.length cq3/\L 10=.slice a9 x14.length cq9/\Ext w13 w) F ⟨_,hB15,rfl,l1_j4,l2_j4,rfl,(Ext.refl _)⟩ ?_;rintro m L w14⟨y5,hB15,l11_i20,l1_i20,l2_i20,l10_i20,K0_i20⟩;rcases m with _|m
    ·rw[DW]at hB15;cases hB15
    rw[DW]at hB15;have k30:=k27.tr K0_i20;refine wp_seq<|Zr<|Zm<|Zm<|Zv (Ao l2_i20 Tryz.underlying85)<|Zv (BL l11_i20 rfl)<|nl<|cnd rfl (fun h12=>?_) (fun h12=>?_)
    ·have hB15:=Ah hB15 h12;refine wp_skip<|wp_seq<|wp_block<|Zr<|Za<|nl<|bS hB15 fun o5 hB17 hB15=>ct (fun L w=>o5=.inr ()/\L 1=.slice a2 x1.length cq2/\L 2=.slice a3 x2.length cq3/\L 10=.slice a9 x14.length cq9/\L 11=.int .i64 y5/\Ext w14 w) ?_ ?_
     ·refine wp_block<|lp (I:=fun m L w=>∃y6:Int,DV F x1 x2 x14 y5 m y6=some o5/\L 12=.int .i64 y6/\L 1=.slice a2 x1.length cq2/\L 2=.slice a3 x2.length cq3/\L 10=.slice a9 x14.length cq9/\L 11=.int .i64 y5/\Ext w14 w) F ⟨_,hB17,rfl,l1_i20,l2_i20,l10_i20,l11_i20,(Ext.refl _)⟩ ?_;rintro m L w15⟨y6,hB17,l12_i21,l1_i21,l2_i21,l10_i21,l11_i21,K0_i21⟩;rcases m with _|m
      ·rw[DV]at hB17;cases hB17
      rw[DV]at hB17;have k33:=k30.tr K0_i21;have k36:=K0_i20.tr K0_i21;refine wp_seq<|Zr<|Zm<|Zm<|Zv (Ao l1_i21 Tryz.underlying78)<|Zv (BL l12_i21 rfl)<|nl<|cnd rfl (fun h13=>?_) (fun h13=>?_)
      ·have hB17:=Ah hB17 h13;refine wp_skip<|wp_seq<|wp_block<|wp_seq<|Ff [] (.pure true 0 (.pure true 1 (.pure true 2 (.pure true 3 (.pure false 4 (.pure true 5 (.pure true 6 (.pure true 7 (.pure false 8 (.pure true 9 (.pure true 10 (.pure false 11 (.pure true 12 (.pure false 13 (.pure true 14 (.pure false 15 (.pure true 16 (.pure true 17 (.pure true 18 (.pure false 19 (.pure true 20 (.pure true 21 (.pure true 22 (.pure false 23 (.pure true 24 (.pure false 25 (.pure true 26 (.pure false 27 (.pure true 28 (.pure false 29 (.pure true 30 .fin))))))))))))))))))))))))))))))) mixed (by kernel_rfl) (fun w16 hx7=>?_);have k37:=k33.tr hx7;have k40:=k36.tr hx7;have k41:=K0_i21.tr hx7;refine Zn rfl<|Zn rfl<|Zn rfl<|bS hB17 fun x15 Ex15 hB17=>?_;have hz:=(RV.els r1).ix Ex15;obtain⟨b12,f8,cs12,e14,i22,i23,q18,hc17⟩:=hz;cases e14;obtain⟨a10,cq10,rfl,p7,q19,e15⟩:=q18;have r61:=RV.of1 p7 q19 e15;have hc18:=hc17.ext k37;refine Zp rfl (fun _=>Al l1_i21 l12_i21 Tryz.underlying78 Gu i22 i23)<|Zq rfl (fun _ hS=>AR rfl Gu ((hc18.ext (hS.resolve_left nofun)).at 0 rfl)) (Ext.refl _)<|Zn rfl<|Zn rfl<|bS hB17 fun x16 Ex16 hB17=>?_;have hz:=(RV.els r2).ix Ex16;obtain⟨b13,f9,cs13,e16,i24,i25,q20,hc19⟩:=hz;cases e16;obtain⟨a11,cq11,rfl,p8,q21,e17⟩:=q20;have r63:=RV.of1 p8 q21 e17;have hc20:=hc19.ext k37;refine Zp rfl (fun _=>Al l2_i21 l11_i21 Tryz.underlying85 KG i24 i25)<|Zq rfl (fun _ hS=>AR rfl KG ((hc20.ext (hS.resolve_left nofun)).at 0 rfl)) (Ext.refl _)<|Zn rfl<|bS hB17 fun x17 Ex17 hB17=>?_;have hz:=(RV.els r63).ix Ex17;obtain⟨b14,f10,cs14,e18,i26,i27,q22,hc21⟩:=hz;cases e18;obtain rfl:=q22;have hc22:=hc21.ext k37;refine Zp rfl (fun _=>Al rfl l12_i21 Tryz.underlying98 Aa i26 i27)<|Zq rfl (fun _ hS=>AR rfl Aa ((hc22.ext (hS.resolve_left nofun)).at 0 rfl)) (Ext.refl _)<|bS hB17 fun x18 Ex18 hB17=>?_;have hz:=(RV.els r61).ix Ex18;obtain⟨b15,f11,cs15,e19,i28,i29,q23,hc23⟩:=hz;cases e19;obtain rfl:=q23;have hc24:=hc23.ext k37;refine Zp rfl (fun _=>Al rfl rfl Tryz.underlying41 Aa i28 i29)<|Zq rfl (fun _ hS=>AR rfl Aa ((hc24.ext (hS.resolve_left nofun)).at 0 rfl)) (Ext.refl _)<|bS hB17 fun x19 Ex19 hB17=>?_;have hz:=(RV.els r49).ix Ex19;obtain⟨b16,f12,cs16,e20,i30,i31,q24,hc25⟩:=hz;cases e20;obtain rfl:=q24;have hc26:=hc25.ext k40;refine Zp rfl (fun _=>Al l10_i21 rfl Tryz.underlying41 Aa i30 i31)<|Zq rfl (fun _ hS=>AR rfl Aa ((hc26.ext (hS.resolve_left nofun)).at 0 rfl)) (Ext.refl _)<|Zn rfl<|Zn rfl<|bS hB17 fun x20 Ex20 hB17=>?_;have hz:=Gd r1 Ex20;obtain⟨cs17,i32,i33,q25,hc27⟩:=hz;obtain⟨a12,cq12,rfl,p9,q26,e21⟩:=q25;have r65:=RV.of1 p9 q26 e21;have hc28:=hc27.ext k37;refine Zp rfl (fun _=>Al l1_i21 rfl Tryz.underlying78 Gu i32 i33)<|Zq rfl (fun _ hS=>AR rfl Gu ((hc28.ext (hS.resolve_left nofun)).at 0 rfl)) (Ext.refl _)<|Zn rfl<|Zn rfl<|bS hB17 fun x21 Ex21 hB17=>?_;have hz:=Gd r2 Ex21;obtain⟨cs18,i34,i35,q27,hc29⟩:=hz;obtain⟨a13,cq13,rfl,p10,q28,e22⟩:=q27;have r67:=RV.of1 p10 q28 e22;have hc30:=hc29.ext k37;refine Zp rfl (fun _=>Al l2_i21 l11_i21 Tryz.underlying85 KG i34 i35)<|Zq rfl (fun _ hS=>AR rfl KG ((hc30.ext (hS.resolve_left nofun)).at 0 rfl)) (Ext.refl _)<|bS hB17 fun x22 Ex22 hB17=>?_;have hz:=(RV.els r67).ix Ex22;obtain⟨b17,f13,cs19,e23,i36,i37,q29,hc31⟩:=hz;cases e23;obtain rfl:=q29;have hc32:=hc31.ext k37;refine Zp rfl (fun _=>Al rfl rfl Tryz.underlying98 Aa i36 i37)<|Zq rfl (fun _ hS=>AR rfl Aa ((hc32.ext (hS.resolve_left nofun)).at 0 rfl)) (Ext.refl _)<|bS hB17 fun x23 Ex23 hB17=>?_;have hz:=(RV.els r65).ix Ex23;obtain⟨b18,f14,cs20,e24,i38,i39,q30,hc33⟩:=hz;cases e24;obtain rfl:=q30;have hc34:=hc33.ext k37;refine Zp rfl (fun _=>Al rfl rfl Tryz.underlying41 Aa i38 i39)<|Zq rfl (fun _ hS=>AR rfl Aa ((hc34.ext (hS.resolve_left nofun)).at 0 rfl)) (Ext.refl _)<|bS hB17 fun x24 Ex24 hB17=>?_;have hz:=Gd r49 Ex24;obtain⟨cs21,i40,i41,q31,hc35⟩:=hz;obtain rfl:=q31;have hc36:=hc35.ext k40;refine Zp rfl (fun _=>Al l10_i21 rfl Tryz.underlying41 Aa i40 i41)<|Zq rfl (fun _ hS=>AR rfl Aa ((hc36.ext (hS.resolve_left nofun)).at 0 rfl)) (Ext.refl _)<|Zp rfl (fun _=>FH rfl rfl)<|cnd rfl (fun h14=>?_) (fun h14=>?_)
       ·have hB17:=Ah hB17 h14;refine Zr<|Za<|nl<|?_;cases hB17;have hB15:=(show some _=some _ from hB15);cases hB15;have hF:=(show some _=some _ from hF);cases hF;exact wp_ret<|Zw rfl rfl rfl ⟨rfl,k37⟩
       ·have hB17:=Ai hB17 h14;refine wp_skip<|rg<|Zm<|Zv (Aw l12_i21 rfl)<|Za<|nl<|lq m (Nat.lt_succ_self _)<|?_;exact⟨_,hB17,rfl,l1_i21,l2_i21,l10_i21,l11_i21,k41⟩
      ·have hB17:=Ai hB17 h13;refine wp_exit<|?_;cases hB17;refine lf<|?_;exact⟨rfl,l1_i21,l2_i21,l10_i21,l11_i21,K0_i21⟩
     rintro L w17⟨rfl,l1_j5,l2_j5,l10_j5,l11_j5,K0_j5⟩;have k45:=K0_i20.tr K0_j5;refine rg<|Zm<|Zv (Aw l11_j5 rfl)<|Za<|nl<|lq m (Nat.lt_succ_self _)<|?_;exact⟨_,hB15,rfl,l1_j5,l2_j5,l10_j5,k45⟩
    ·have hB15:=Ai hB15 h12;refine wp_exit<|?_;cases hB15;refine lf<|?_;exact⟨rfl,l2_i20,K0_i20⟩
   rintro L w18⟨rfl,l2_j6,K0_j6⟩;have k46:=k27.tr K0_j6;refine wp_seq<|Zr<|Za<|nl<|bS hF fun o6 hB23 hF=>ct (fun L w=>o6=.inr ()/\Ext w18 w) ?_ ?_
   ·refine wp_block<|lp (I:=fun m L w=>∃y7:Int,DX F x2 m y7=some o6/\L 13=.int .i64 y7/\L 2=.slice a3 x2.length cq3/\Ext w18 w) F ⟨_,hB23,rfl,l2_j6,(Ext.refl _)⟩ ?_;rintro m L w19⟨y7,hB23,l13_i42,l2_i42,K0_i42⟩;rcases m with _|m
    ·rw[DX]at hB23;cases hB23
    rw[DX]at hB23;have k49:=k46.tr K0_i42;refine wp_seq<|Zr<|Zm<|Zm<|Zv (Ao l2_i42 Tryz.underlying85)<|Zv (BL l13_i42 rfl)<|nl<|cnd rfl (fun h15=>?_) (fun h15=>?_)
    ·have hB23:=Ah hB23 h15;refine wp_skip<|wp_seq<|wp_block<|wp_seq<|Ff [] (.pure true 0 (.pure true 1 (.pure true 2 (.pure true 3 (.pure false 4 (.pure true 5 (.pure true 6 (.pure true 7 (.pure false 8 (.eff 9 (.pure true 10 .fin) .stop)))))))))) mixed (by kernel_rfl) (fun w20 hx8=>?_);have k53:=k49.tr hx8;have k57:=K0_i42.tr hx8;refine Zn rfl<|Zn rfl<|Zp rfl (fun _=>IV l13_i42 rfl)<|bS hB23 fun x25 Ex25 hB23=>?_;have hz:=(RV.els r2).ix Ex25;obtain⟨b19,f15,cs22,e25,i43,i44,q32,hc37⟩:=hz;cases e25;obtain⟨a14,cq14,rfl,p11,q33,e26⟩:=q32;have r75:=RV.of1 p11 q33 e26;have hc38:=hc37.ext k53;have r76:=r75.ext k53;refine Zp rfl (fun _=>Al l2_i42 rfl Tryz.underlying85 KG i43 i44)<|Zq rfl (fun _ hS=>AR rfl KG ((hc38.ext (hS.resolve_left nofun)).at 0 rfl)) (Ext.refl _)<|Zn rfl<|Zn rfl<|bS hB23 fun x26 Ex26 hB23=>?_;have hz:=Gd r2 Ex26;obtain⟨cs23,i45,i46,q34,hc39⟩:=hz;obtain⟨a15,cq15,rfl,p12,q35,e27⟩:=q34;have r77:=RV.of1 p12 q35 e27;have hc40:=hc39.ext k53;have r78:=r77.ext k53;refine Zp rfl (fun _=>Al l2_i42 l13_i42 Tryz.underlying85 KG i45 i46)<|Zq rfl (fun _ hS=>AR rfl KG ((hc40.ext (hS.resolve_left nofun)).at 0 rfl)) (Ext.refl _)<|bS hB23 fun x27 Ex27 hB23=>Br rfl<|Zc (xc vw (mc rfl (mc rfl mn))) (zF r76 r78 Ex27) ?_;rintro _ w21⟨rfl,hx9⟩;have k58:=k53.tr hx9;have k62:=k57.tr hx9;refine nl ⟨fun _ _=>hx9,?_⟩;refine Zp rfl (fun _=>GV rfl)<|cnd rfl (fun h16=>?_) (fun h16=>?_)
     ·have hB23:=Ah hB23 h16;refine Zr<|Za<|nl<|?_;cases hB23;have hF:=(show some _=some _ from hF);cases hF;exact wp_ret<|Zw rfl rfl rfl ⟨rfl,k58⟩
     ·have hB23:=Ai hB23 h16;refine wp_skip<|rg<|Zm<|Zv (Aw l13_i42 rfl)<|Za<|nl<|lq m (Nat.lt_succ_self _)<|?_;exact⟨_,hB23,rfl,l2_i42,k62⟩
    ·have hB23:=Ai hB23 h15;refine wp_exit<|?_;cases hB23;refine lf<|?_;exact⟨rfl,K0_i42⟩
   rintro L w22⟨rfl,K0_j7⟩;have k63:=k46.tr K0_j7;refine Zr<|Za<|nl<|?_;cases hF;exact wp_ret<|Zw rfl rfl rfl ⟨rfl,k63⟩
theorem oh{w0:World}{F:Nat}{r:Bool}(hF:JV F=some r):
  Calls Tryz.prog 54 [].toArray w0 (BN fun v w'=>v=.bool r/\Ext w0 w'):=by
 unfold JV at hF;refine BK (n:=8) Tryz.func54 rfl rfl rfl<|Zr<|Za<|nl<|Zr<|bS hF fun x1 Ex1 hF=>Zc (xc vW mn) (zP Ex1) ?_;rintro _ w1⟨rfl,hx1⟩;refine Zm<|bS hF fun x2 Ex2 hF=>gc rfl rfl rfl rfl (CB rfl) rfl (fun hc=>xc qb mn) (fun hc=>(sw (Ot Ex2 hc))) (fun v1 w2 hy1 hn1=>?_);have hx2:Ext w1 w2:=gx (fun h=>(hy1 h).2) (fun h=>(hn1 h).2▸Ext.refl _);have e1:=Ou (fun h=>(hy1 h).1) (fun h=>(hn1 h).1);have k1:=hx1.tr hx2;refine Zv (Ky rfl e1 rfl)<|Zm<|bS hF fun x3 Ex3 hF=>gc rfl rfl rfl rfl (CB rfl) rfl (fun hc=>xc qj mn) (fun hc=>(tO (Ot Ex3 hc))) (fun v2 w3 hy2 hn2=>?_);have hx3:Ext w2 w3:=gx (fun h=>(hy2 h).2) (fun h=>(hn2 h).2▸Ext.refl _);have e2:=Ou (fun h=>(hy2 h).1) (fun h=>(hn2 h).1);have k2:=k1.tr hx3;refine Zv (Ky rfl e2 rfl)<|Za<|nl<|?_;cases hF;exact wp_ret<|Zw rfl rfl rfl ⟨rfl,k2⟩
def G2(r1 r2:Option Nat)(w w':World):Prop:=∃wm,w.grownBy wm r1/\wm.grownBy w' r2
theorem G2.refl{r1 r2:Option Nat}{w:World}:G2 r1 r2 w w:=⟨w,Ext.gro (Ext.refl _),Ext.gro (Ext.refl _)⟩
theorem G2.of1{r1 r2:Option Nat}{w w':World}(h:w.grownBy w' r1):G2 r1 r2 w w':=⟨w',h,Ext.gro (Ext.refl _)⟩
theorem Cs.g2{r1 r2:Option Nat}{w0 w w':World}{b o:Nat}{cs:List Value}(h:Cs w0 b o cs)(k:Ext w0 w)(g:G2 r1 r2 w w')(h1:∀q,r1=some q->w0.heap.size<=q)(h2:∀q,r2=some q->w0.heap.size<=q):Cs w' b o cs:=fun j c hc=>by
 obtain⟨wm,ga,gb⟩:=g;have e0:=h j c hc;have hlt:b<w0.heap.size:=World.block_lt_of_cell? w0 _ e0;have e1:wm.heap[b]?=w0.heap[b]?:=(ga.block b (Nat.lt_of_lt_of_le hlt k.size) fun e=>by have:=h1 b e.symm;omega).trans (k.block b hlt);have e2:w'.heap[b]?=wm.heap[b]?:=gb.block b (Nat.lt_of_lt_of_le hlt (Nat.le_trans k.size ga.size)) fun e=>by have:=h2 b e.symm;omega
 exact(World.cell?_of_block (a:=⟨b,o+j,none⟩) (e2.trans e1)).trans e0
theorem Vw{w0:World}{v0:Value}{x0:DJ}(r0:RV w0 v0 x0){x1:Int}{x2:Int}{F:Nat}{r:Bool}(hF:GZ F x0 x1 x2=some r):
  Calls Tryz.prog 11 [v0,.int .u16 x1,.int .u16 x2].toArray w0 (BN fun v w'=>v=.bool r/\Ext w0 w'):=by
 unfold GZ at hF;have hz:=id r0;obtain⟨_,rfl,_,_,rfl,⟨a1,cq1,rfl,p1,q4,e1⟩,_,_,rfl,rfl,_,_,rfl,rfl,rfl⟩:=hz;have r4:=RV.of1 p1 q4 e1;refine BK (n:=251) Tryz.func11 rfl rfl rfl<|Zr<|Cw rfl rfl fun b4 w1 hx1 hg1 hb1=>?_;have r5:=r4.ext hx1;refine Za<|nl<|wp_seq<|Zr<|Zv (Ad rfl Ij rfl (Bx.cs hb1))<|bS hF fun x4 Ex4 hF=>Zc (xc vX (mc rfl mn)) (zQ (show RV (α:=DJ) _ (.agg [.slice a1 x0.1.length cq1,.int .i64 x0.2.1,.int .i64 x0.2.2.1,.int .i64 x0.2.2.2].toArray) (x0.1,x0.2.1,(x0.2.2.1,x0.2.2.2))from⟨_,rfl,[.slice a1 x0.1.length cq1],[.int .i64 x0.2.1]++([.int .i64 x0.2.2.1]++[.int .i64 x0.2.2.2]),rfl,r5.rep1,[.int .i64 x0.2.1],[.int .i64 x0.2.2.1]++[.int .i64 x0.2.2.2],rfl,rfl,[.int .i64 x0.2.2.1],[.int .i64 x0.2.2.2],rfl,rfl,rfl⟩) Ex4) ?_;rintro _ w2⟨rfl,hx2⟩;have k1:=hx1.tr hx2;have hb2:=hb1.ext hx2;have r7:=r5.ext hx2;refine Zv (GV rfl)<|Zm<|Zg rfl rfl (Be rfl) (fun hc=>AX rfl Fg)<|Zg rfl rfl (Be rfl) (fun hc=>AR (mv hc rfl) I6 ((Bx.cs hb2).at 0 rfl))<|Zg rfl rfl (Be rfl) (fun hc=>Ao (mv hc rfl) Tryz.underlying46)<|Zg rfl rfl (Be rfl) (fun hc=>Ig (mv hc rfl) rfl)<|Zv (JF rfl rfl rfl)<|nl<|cnd rfl (fun h4=>?_) (fun h4=>?_)
 ·have hF:=Ah hF h4;refine Zr<|bS hF fun x5 Ex5 hF=>Zc (xc dm mn) (oh Ex5) ?_;rintro _ w3⟨rfl,hx3⟩;have k2:=k1.tr hx3;refine Za<|nl<|?_;cases hF;exact wp_ret<|Zw rfl rfl rfl ⟨rfl,k2⟩
 ·have hF:=Ai hF h4;refine wp_skip<|Zr<|Zv (Ad rfl Ij rfl (Bx.cs hb2))<|bS hF fun x6 Ex6 hF=>Zc (xc vY (mc rfl mn)) (zJ (show RV (α:=DJ) _ (.agg [.slice a1 x0.1.length cq1,.int .i64 x0.2.1,.int .i64 x0.2.2.1,.int .i64 x0.2.2.2].toArray) (x0.1,x0.2.1,(x0.2.2.1,x0.2.2.2))from⟨_,rfl,[.slice a1 x0.1.length cq1],[.int .i64 x0.2.1]++([.int .i64 x0.2.2.1]++[.int .i64 x0.2.2.2]),rfl,r7.rep1,[.int .i64 x0.2.1],[.int .i64 x0.2.2.1]++[.int .i64 x0.2.2.2],rfl,rfl,[.int .i64 x0.2.2.1],[.int .i64 x0.2.2.2],rfl,rfl,rfl⟩) Ex6) ?_;rintro _ w4⟨rfl,hx4⟩;have k3:=k1.tr hx4;have hb3:=hb2.ext hx4;have r8:=r7.ext hx4;refine Zm<|Zv (Cq rfl rfl)<|Zv (Cq rfl rfl)<|Za<|Za<|nl<|wp_seq<|Zr<|Zm<|Zv (FH rfl rfl)<|Zm<|Zg rfl rfl (Be rfl) (fun hc=>Aq rfl)<|Zg rfl rfl (Be rfl) (fun hc=>BL (mv hc rfl) rfl)<|Zv (JF rfl rfl rfl)<|nl<|cnd rfl (fun h5=>?_) (fun h5=>?_)
  ·have hF:=Ah hF h5;refine Zr<|Za<|nl<|?_;cases hF;exact wp_ret<|Zw rfl rfl rfl ⟨rfl,k3⟩
  ·have hF:=Ai hF h5;refine wp_skip<|wp_seq<|Zr<|Zm<|Zv (FE rfl rfl)<|nl<|cnd rfl (fun h6=>?_) (fun h6=>?_)
   ·have hF:=Ah hF h6;refine Zr<|bS hF fun x7 Ex7 hF=>Zc (xc dm mn) (oh Ex7) ?_;rintro _ w5⟨rfl,hx5⟩;have k4:=k3.tr hx5;refine Za<|nl<|?_;cases hF;exact wp_ret<|Zw rfl rfl rfl ⟨rfl,k4⟩
   ·have hF:=Ai hF h6;refine wp_skip<|wp_seq<|Ff [] (.pure false 0 (.pure true 1 (.pure true 2 (.pure true 3 (.pure true 4 (.eff 5 (.pure true 6 (.pure true 7 (.pure true 8 (.pure true 9 (.pure true 10 .fin))))) .stop)))))) mixed (by kernel_rfl) (fun w6 hx6=>?_);have k5:=k3.tr hx6;have hb4:=hb3.ext hx6;have r9:=r8.ext hx6;refine Zq rfl (fun _ hS=>Ad rfl Ij rfl (Bx.cs (hb4.ext (hS.resolve_left nofun)))) (Ext.refl _)<|Zn rfl<|Zp rfl (fun _=>Xu rfl Tryz.underlying33 Tryz.underlying2)<|Zn rfl<|bS hF fun x8 Ex8 hF=>Zp rfl (fun _=>UX rfl rfl Ex8)<|bS hF fun x9 Ex9 hF=>Br rfl<|Zc (xc mP (mc rfl (mc rfl mn))) (uR (show RV (α:=DJ) _ (.agg [.slice a1 x0.1.length cq1,.int .i64 x0.2.1,.int .i64 x0.2.2.1,.int .i64 x0.2.2.2].toArray) (x0.1,x0.2.1,(x0.2.2.1,x0.2.2.2))from⟨_,rfl,[.slice a1 x0.1.length cq1],[.int .i64 x0.2.1]++([.int .i64 x0.2.2.1]++[.int .i64 x0.2.2.2]),rfl,r9.rep1,[.int .i64 x0.2.1],[.int .i64 x0.2.2.1]++[.int .i64 x0.2.2.2],rfl,rfl,[.int .i64 x0.2.2.1],[.int .i64 x0.2.2.2],rfl,rfl,rfl⟩) Ex9) ?_;rintro _ w7⟨u1,rfl,r10,hx7⟩;have k6:=k5.tr hx7;have hb5:=hb4.ext hx7;have r11:=r9.ext hx7;have hz:=RV.sl r10;obtain⟨a2,cq2,rfl,-,-,-⟩:=hz;refine nl ⟨fun _ _=>hx7,?_⟩;refine Zn rfl<|Zp rfl (fun _=>Cq rfl rfl)<|Zp rfl (fun _=>Cq rfl rfl)<|Zp rfl (fun _=>GU)<|Zp rfl (fun _=>GU)<|wp_seq<|Ff [] (.pure false 0 (.pure true 1 (.pure true 2 (.pure true 3 (.pure true 4 (.eff 5 (.pure true 6 (.pure true 7 (.pure true 8 (.pure true 9 (.pure true 10 .fin))))) .stop)))))) mixed (by kernel_rfl) (fun w8 hx8=>?_);have k7:=k6.tr hx8;have hb6:=hb5.ext hx8;have r12:=r11.ext hx8;have r13:=r10.ext hx8;refine Zq rfl (fun _ hS=>Ad rfl Ij rfl (Bx.cs (hb6.ext (hS.resolve_left nofun)))) (Ext.refl _)<|Zn rfl<|Zp rfl (fun _=>Xu rfl Tryz.underlying33 Tryz.underlying2)<|Zn rfl<|bS hF fun x10 Ex10 hF=>Zp rfl (fun _=>UX rfl rfl Ex10)<|bS hF fun x11 Ex11 hF=>Br rfl<|Zc (xc mP (mc rfl (mc rfl mn))) (uR (show RV (α:=DJ) _ (.agg [.slice a1 x0.1.length cq1,.int .i64 x0.2.1,.int .i64 x0.2.2.1,.int .i64 x0.2.2.2].toArray) (x0.1,x0.2.1,(x0.2.2.1,x0.2.2.2))from⟨_,rfl,[.slice a1 x0.1.length cq1],[.int .i64 x0.2.1]++([.int .i64 x0.2.2.1]++[.int .i64 x0.2.2.2]),rfl,r12.rep1,[.int .i64 x0.2.1],[.int .i64 x0.2.2.1]++[.int .i64 x0.2.2.2],rfl,rfl,[.int .i64 x0.2.2.1],[.int .i64 x0.2.2.2],rfl,rfl,rfl⟩) Ex11) ?_;rintro _ w9⟨u2,rfl,r14,hx9⟩;have k9:=k7.tr hx9;have hb7:=hb6.ext hx9;have r15:=r12.ext hx9;have r16:=r13.ext hx9;have hz:=RV.sl r14;obtain⟨a3,cq3,rfl,-,-,-⟩:=hz;refine nl ⟨fun _ _=>hx9,?_⟩;refine Zn rfl<|Zp rfl (fun _=>Cq rfl rfl)<|Zp rfl (fun _=>Cq rfl rfl)<|Zp rfl (fun _=>GU)<|Zp rfl (fun _=>GU)<|Zr<|Zv (Ad rfl Ij rfl (Bx.cs hb7))<|bS hF fun x12 Ex12 hF=>Zc (xc vZ (mc rfl mn)) (zK (show RV (α:=DJ) _ (.agg [.slice a1 x0.1.length cq1,.int .i64 x0.2.1,.int .i64 x0.2.2.1,.int .i64 x0.2.2.2].toArray) (x0.1,x0.2.1,(x0.2.2.1,x0.2.2.2))from⟨_,rfl,[.slice a1 x0.1.length cq1],[.int .i64 x0.2.1]++([.int .i64 x0.2.2.1]++[.int .i64 x0.2.2.2]),rfl,r15.rep1,[.int .i64 x0.2.1],[.int .i64 x0.2.2.1]++[.int .i64 x0.2.2.2],rfl,rfl,[.int .i64 x0.2.2.1],[.int .i64 x0.2.2.2],rfl,rfl,rfl⟩) Ex12) ?_;rintro _ w10⟨u3,rfl,r17,hx10⟩;have k11:=k9.tr hx10;have k13:=hx9.tr hx10;have hb8:=hb7.ext hx10;have r18:=r15.ext hx10;have r19:=r16.ext hx10;have r20:=r14.ext hx10;have hz:=RV.sl r17;obtain⟨a4,cq4,rfl,-,-,-⟩:=hz;refine Zm<|Zv (Cq rfl rfl)<|Zv (Cq rfl rfl)<|Za<|Za<|nl<|wp_seq<|Zr<|Zm<|Zv (FH rfl rfl)<|Zm<|Zg rfl rfl (Be rfl) (fun hc=>Aq rfl)<|Zg rfl rfl (Be rfl) (fun hc=>FH (mv hc rfl) rfl)<|Zv (JF rfl rfl rfl)<|Zm<|Zg rfl rfl (Be rfl) (fun hc=>Aq rfl)<|Zg rfl rfl (Be rfl) (fun hc=>FH (mv hc rfl) rfl)<|Zv (JF rfl rfl rfl)<|Zm<|Zg rfl rfl (Be rfl) (fun hc=>Ad rfl Ij rfl (Bx.cs hb8))<|Zg rfl rfl (Be rfl) (fun hc=>Aq rfl)<|bS hF fun x13 Ex13 hF=>gc rfl rfl rfl rfl (Be rfl) rfl (fun hc=>xc mQ (mc (mv hc rfl) (mc (mv hc rfl) mn))) (fun hc=>(uS (show RV (α:=DJ) _ (.agg [.slice a1 x0.1.length cq1,.int .i64 x0.2.1,.int .i64 x0.2.2.1,.int .i64 x0.2.2.2].toArray) (x0.1,x0.2.1,(x0.2.2.1,x0.2.2.2))from⟨_,rfl,[.slice a1 x0.1.length cq1],[.int .i64 x0.2.1]++([.int .i64 x0.2.2.1]++[.int .i64 x0.2.2.2]),rfl,r18.rep1,[.int .i64 x0.2.1],[.int .i64 x0.2.2.1]++[.int .i64 x0.2.2.2],rfl,rfl,[.int .i64 x0.2.2.1],[.int .i64 x0.2.2.2],rfl,rfl,rfl⟩) r19 (Ot Ex13 hc))) (fun v4 w11 hy1 hn1=>?_);have hx11:Ext w10 w11:=gx (fun h=>(hy1 h).2) (fun h=>(hn1 h).2▸Ext.refl _);have e2:=Ou (fun h=>(hy1 h).1) (fun h=>(hn1 h).1);have k14:=k11.tr hx11;have k16:=k13.tr hx11;have hb9:=hb8.ext hx11;have r21:=r18.ext hx11;have r23:=r20.ext hx11;have r24:=r17.ext hx11;refine Zg rfl rfl (Be rfl) (fun hc=>FH (mv hc e2) rfl)<|Zv (JF rfl rfl rfl)<|Zm<|Zg rfl rfl (Be rfl) (fun hc=>Ad rfl Ij rfl (Bx.cs hb9))<|Zg rfl rfl (Be rfl) (fun hc=>Aq rfl)<|bS hF fun x14 Ex14 hF=>gc rfl rfl rfl rfl (Be rfl) rfl (fun hc=>xc mQ (mc (mv hc rfl) (mc (mv hc rfl) mn))) (fun hc=>(uS (show RV (α:=DJ) _ (.agg [.slice a1 x0.1.length cq1,.int .i64 x0.2.1,.int .i64 x0.2.2.1,.int .i64 x0.2.2.2].toArray) (x0.1,x0.2.1,(x0.2.2.1,x0.2.2.2))from⟨_,rfl,[.slice a1 x0.1.length cq1],[.int .i64 x0.2.1]++([.int .i64 x0.2.2.1]++[.int .i64 x0.2.2.2]),rfl,r21.rep1,[.int .i64 x0.2.1],[.int .i64 x0.2.2.1]++[.int .i64 x0.2.2.2],rfl,rfl,[.int .i64 x0.2.2.1],[.int .i64 x0.2.2.2],rfl,rfl,rfl⟩) r23 (Ot Ex14 hc))) (fun v5 w12 hy2 hn2=>?_);have hx12:Ext w11 w12:=gx (fun h=>(hy2 h).2) (fun h=>(hn2 h).2▸Ext.refl _);have e3:=Ou (fun h=>(hy2 h).1) (fun h=>(hn2 h).1);have k17:=k14.tr hx12;have k19:=k16.tr hx12;have r26:=r23.ext hx12;have r27:=r24.ext hx12;refine Zg rfl rfl (Be rfl) (fun hc=>FH (mv hc e3) rfl)<|Zv (JF rfl rfl rfl)<|nl<|cnd rfl (fun h7=>?_) (fun h7=>?_)
    ·have hF:=Ah hF h7;refine Zr<|Za<|nl<|?_;cases hF;exact wp_ret<|Zw rfl rfl rfl ⟨rfl,k17⟩
    ·have hF:=Ai hF h7;refine wp_skip<|Zr<|Zm<|Zv (Ao rfl Tryz.underlying51)<|Za<|nl<|Zr<|Za<|Za<|nl<|Zr<|Za<|Za<|nl<|wp_seq<|Zr<|Za<|nl<|?_;have o1:Row (α:=Int) 3 w12.heap.size w12 (.slice none 0 0) []:=Row.nil;have o2:Row (α:=Int) 3 w12.heap.size w12 (.slice none 0 0) []:=Row.nil;have hz:=bs hF;obtain⟨⟨z1,z2,z3⟩,hB1,hF⟩:=hz;refine ct (fun L w=>∃v8 v9:Value,L 15=v8/\Row 3 w12.heap.size w v8 z1/\L 16=v9/\Row 3 w12.heap.size w v9 z2/\L 18=.int .i64 z3/\Apart (v8) (v9)/\L 1=.int .u16 x1/\L 2=.int .u16 x2/\L 7=.int .i64 x6.1/\L 14=.int .i64 (x9.1.length:Int)/\Ext w12 w) ?_ ?_
     ·refine wp_block<|lp (I:=fun m L w=>∃y1:(List Int),∃y2:(List Int),∃y3:Int,∃y4:Int,∃y5:Int,∃v6 v7:Value,Ci F x9 x11 x12 m y1 y2 y3 y4 y5=some (z1,z2,z3)/\L 15=v6/\Row 3 w12.heap.size w v6 y1/\L 16=v7/\Row 3 w12.heap.size w v7 y2/\L 17=.int .i64 y3/\L 18=.int .i64 y4/\L 19=.int .i64 y5/\Apart (v6) (v7)/\L 1=.int .u16 x1/\L 2=.int .u16 x2/\L 7=.int .i64 x6.1/\L 9=.slice a2 x9.1.length cq2/\L 10=.slice a3 x11.1.length cq3/\L 12=.slice a4 x12.1.length cq4/\L 14=.int .i64 (x9.1.length:Int)/\Ext w12 w) F ⟨_,_,_,_,_,_,_,hB1,rfl,o1,rfl,o2,rfl,rfl,rfl,(Apart.old' o1.own_lt (fun q e=>(o2.lt q e).1)),rfl,rfl,rfl,rfl,rfl,rfl,rfl,(Ext.refl _)⟩ ?_;rintro m L w13⟨y1,y2,y3,y4,y5,v6,v7,hB1,l15_i1,O15_i1,l16_i1,O16_i1,l17_i1,l18_i1,l19_i1,X0_i1,l1_i1,l2_i1,l7_i1,l9_i1,l10_i1,l12_i1,l14_i1,K0_i1⟩;rcases m with _|m
      ·rw[Ci]at hB1;cases hB1
      rw[Ci]at hB1;have k22:=k19.tr K0_i1;have hz:=RV.sl O15_i1.rv;obtain⟨a5,cq5,rfl,-,-,-⟩:=hz;have hz:=RV.sl O16_i1.rv;obtain⟨a6,cq6,rfl,-,-,-⟩:=hz;refine wp_seq<|Zr<|Zm<|Zm<|Zv (BL l19_i1 l14_i1)<|nl<|cnd rfl (fun h8=>?_) (fun h8=>?_)
      ·have hB1:=Ah hB1 h8;refine wp_skip<|wp_seq<|?_;have hz:=bs hB1;obtain⟨⟨y6,y7,y8,y9⟩,hB3,hB1⟩:=hz;refine ct (fun L w=>∃v10 v11:Value,L 15=v10/\Row 3 w12.heap.size w v10 y6/\L 16=v11/\Row 3 w12.heap.size w v11 y7/\L 17=.int .i64 y8/\L 18=.int .i64 y9/\Apart (v10) (v11)/\L 1=.int .u16 x1/\L 2=.int .u16 x2/\L 7=.int .i64 x6.1/\L 9=.slice a2 x9.1.length cq2/\L 10=.slice a3 x11.1.length cq3/\L 12=.slice a4 x12.1.length cq4/\L 14=.int .i64 (x9.1.length:Int)/\L 19=.int .i64 y5/\Ext w12 w) ?_ ?_
       ·refine bS hB3 fun x15 Ex15 hB3=>bS hB3 fun x16 Ex16 hB3=>bS hB3 fun x17 Ex17 hB3=>bS hB3 fun x18 Ex18 hB3=>?_;have hz:=(RV.els r13).ix Ex15;obtain⟨b5,f1,cs4,e4,i2,i3,q5,hc1⟩:=hz;cases e4;obtain⟨_,_,rfl,rfl,rfl⟩:=q5;have hz:=(RV.els r26).ix Ex17;obtain⟨b7,f2,cs5,e5,i4,i5,q6,hc3⟩:=hz;cases e5;obtain⟨_,_,rfl,rfl,rfl⟩:=q6;refine wp_block<|wp_seq<|ct (fun L w=>∃v12 v13:Value,L 15=v12/\Row 3 w12.heap.size w v12 x16/\L 16=v13/\Row 3 w12.heap.size w v13 x18/\Apart v12 v13/\L 1=.int .u16 x1/\L 2=.int .u16 x2/\L 7=.int .i64 x6.1/\L 9=.slice (some ⟨b5,f1,none⟩) x9.1.length cq2/\L 10=.slice (some ⟨b7,f2,none⟩) x11.1.length cq3/\L 12=.slice a4 x12.1.length cq4/\L 14=.int .i64 (x9.1.length:Int)/\L 17=.int .i64 y3/\L 18=.int .i64 y4/\L 19=.int .i64 y5/\Ext w12 w) ?_ ?_
        ·refine wW (G2 (Value.ownBlock (.slice a5 y1.length cq5)) (Value.ownBlock (.slice a6 y2.length cq6))) [] (.pure true 0 (.pure true 1 (.pure true 2 (.pure true 3 (.pure true 4 (.pure false 5 (.pure true 6 (.pure true 9 (.pure true 10 (.pure true 11 (.pure true 12 (.pure true 13 (.pure false 14 (.pure true 15 (.eff 7 (.eff 8 (.eff 16 (.eff 17 (.pure true 18 (.pure true 19 .fin)) .stop) .stop) (.eff 16 (.eff 8 (.eff 17 (.pure true 18 (.pure true 19 .fin)) .stop) .stop) .stop)) (.eff 16 (.eff 7 (.eff 8 (.eff 17 (.pure true 18 (.pure true 19 .fin)) .stop) .stop) .stop) .stop)))))))))))))))) mixed (by kernel_rfl) (fun wd hxd=>?_);have hb1:∀q,(Value.ownBlock (.slice a5 y1.length cq5))=some q->w12.heap.size<=q:=fun q e=>(O15_i1.lt q e).1;have hb2:∀q,(Value.ownBlock (.slice a6 y2.length cq6))=some q->w12.heap.size<=q:=fun q e=>(O16_i1.lt q e).1;have kd:=K0_i1.tr hxd;have O1:=O15_i1.ext hxd;have O2:=O16_i1.ext hxd;have k22d:=k22.tr hxd;refine Zn rfl<|Zn rfl<|Zn rfl<|Zp rfl (fun _=>Al l9_i1 l19_i1 Tryz.underlying51 BU i2 i3)<|Zp rfl (fun _=>AX rfl Fh)<|Zq rfl (fun _ hS=>AR rfl Aa ((Cs.g2 hc1 k22d (hS.resolve_left nofun) (fun q e=>Nat.le_trans k19.size (hb1 q e)) (fun q e=>Nat.le_trans k19.size (hb2 q e))).at 0 rfl)) G2.refl<|Zp rfl (fun _=>Aw rfl rfl)<|Zn rfl<|Zn rfl<|Zn rfl<|Zp rfl (fun _=>Al l10_i1 l19_i1 Tryz.underlying51 BU i4 i5)<|Zp rfl (fun _=>AX rfl Fh)<|Zq rfl (fun _ hS=>AR rfl Aa ((Cs.g2 hc3 kd (hS.resolve_left nofun) (fun q e=>hb1 q e) (fun q e=>hb2 q e)).at 0 rfl)) G2.refl<|Zp rfl (fun _=>Aw rfl rfl)<|?_;have g0:wd.grownBy wd (Value.ownBlock (.slice a5 y1.length cq5)):=Ext.gro (Ext.refl _);refine pe rfl ?_ ?_
         ·refine Gq (cs:=[.int .i64 (AZ (x15.1+1))]) Tryz.underlying41 Aa rfl (pc rfl pn) rfl rfl rfl rfl rfl fun b_1 w_2 hx_3 hg_4 hb_5=>?_;have o_6:Row (α:=Int) 3 (World.heap wd).size w_2 (.slice (some ⟨b_1,0,none⟩) 1 1) [AZ (x15.1+1)]:=Row.lit hg_4 hb_5 rfl (ble rfl);have O_7:=O1.ext hx_3;have O_8:=O2.ext hx_3;have k_9:=kd.tr hx_3;have g_10:=World.grownBy.tr g0 (Ext.gro hx_3);refine nl ⟨fun _ _=>G2.of1 g_10,?_⟩;refine pe rfl ?_ ?_
          ·refine KY (l:=y1) (k:=([AZ (x15.1+1)]:List Int)) l15_i1 rfl Tryz.underlying41 Aa rfl rfl O_7 (RV.els o_6.rv) Ex16 k_9.size fun v_11 w_12 o_13 hB_14 hgr_15 how_16=>?_;have k_17:Ext w12 w_12:=k_9.trans hB_14;have X_18:=Apart.app how_16 X0_i1 O_8.own_lt;have O_19:=Row.gra O_8 hgr_15 X0_i1;have g_20:=World.grownBy.tr g_10 hgr_15;refine nl ⟨fun _ _=>G2.of1 g_20,?_⟩;refine Br rfl<|Gq (cs:=[.int .i64 (AZ (x17.1+1))]) Tryz.underlying41 Aa rfl (pc rfl pn) rfl rfl rfl rfl rfl fun b_21 w_22 hx_23 hg_24 hb_25=>?_;have o_26:Row (α:=Int) 3 (World.heap w_12).size w_22 (.slice (some ⟨b_21,0,none⟩) 1 1) [AZ (x17.1+1)]:=Row.lit hg_24 hb_25 rfl (ble rfl);have hp_27:Apart (v_11) (.slice (some ⟨b_21,0,none⟩) 1 1):=fun q e e2=>by have e3:b_21=q:=(by cases e2;rfl);have:=o_13.own_lt _ e;omega
           have O_28:=o_13.ext hx_23;have O_29:=O_19.ext hx_23;have k_30:=k_17.tr hx_23;have g_31:=World.grownBy.tr g_20 (Ext.gro hx_23);refine nl ⟨fun _ _=>G2.of1 g_31,?_⟩;refine Br rfl<|KY (l:=y2) (k:=([AZ (x17.1+1)]:List Int)) l16_i1 rfl Tryz.underlying41 Aa rfl rfl O_29 (RV.els o_26.rv) Ex18 k_30.size fun v_32 w_33 o_34 hB_35 hgr_36 how_37=>?_;have k_38:Ext w12 w_33:=k_30.trans hB_35;have X_39:=Apart.app how_37 (Apart.symm X_18) O_28.own_lt;have O_40:=Row.gra O_28 hgr_36 (Apart.symm X_18);refine nl ⟨fun _ _=>⟨_,g_31,hgr_36⟩,?_⟩;refine Zp rfl (fun _=>GU)<|Zp rfl (fun _=>GU)<|lf ⟨_,_,rfl,O_40,rfl,o_34,(Apart.symm X_39),l1_i1,l2_i1,l7_i1,l9_i1,l10_i1,l12_i1,l14_i1,l17_i1,l18_i1,l19_i1,k_38⟩
          refine pm rfl ?_ ?_
          ·refine Gq (cs:=[.int .i64 (AZ (x17.1+1))]) Tryz.underlying41 Aa rfl (pc rfl pn) rfl rfl rfl rfl rfl fun b_41 w_42 hx_43 hg_44 hb_45=>?_;have o_46:Row (α:=Int) 3 (World.heap w_2).size w_42 (.slice (some ⟨b_41,0,none⟩) 1 1) [AZ (x17.1+1)]:=Row.lit hg_44 hb_45 rfl (ble rfl);have hp_47:Apart (.slice a5 y1.length cq5) (.slice (some ⟨b_41,0,none⟩) 1 1):=fun q e e2=>by have e3:b_41=q:=(by cases e2;rfl);have:=O_7.own_lt _ e;omega
           have O_48:=O_7.ext hx_43;have O_49:=O_8.ext hx_43;have O_50:=o_6.ext hx_43;have k_51:=k_9.tr hx_43;have g_52:=World.grownBy.tr g_10 (Ext.gro hx_43);refine nl ⟨fun _ _=>G2.of1 g_52,?_⟩;refine Br rfl<|KY (l:=y1) (k:=([AZ (x15.1+1)]:List Int)) l15_i1 rfl Tryz.underlying41 Aa rfl rfl O_48 (RV.els O_50.rv) Ex16 k_51.size fun v_53 w_54 o_55 hB_56 hgr_57 how_58=>?_;have k_59:Ext w12 w_54:=k_51.trans hB_56;have X_60:=Apart.app how_58 X0_i1 O_49.own_lt;have O_61:=Row.gra O_49 hgr_57 X0_i1;have O_62:=Row.gra o_46 hgr_57 hp_47;have g_63:=World.grownBy.tr g_52 hgr_57;refine nl ⟨fun _ _=>G2.of1 g_63,?_⟩;refine Br rfl<|KY (l:=y2) (k:=([AZ (x17.1+1)]:List Int)) l16_i1 rfl Tryz.underlying41 Aa rfl rfl O_61 (RV.els O_62.rv) Ex18 k_59.size fun v_64 w_65 o_66 hB_67 hgr_68 how_69=>?_;have k_70:Ext w12 w_65:=k_59.trans hB_67;have X_71:=Apart.app how_69 (Apart.symm X_60) o_55.own_lt;have O_72:=Row.gra o_55 hgr_68 (Apart.symm X_60);refine nl ⟨fun _ _=>⟨_,g_63,hgr_68⟩,?_⟩;refine Zp rfl (fun _=>GU)<|Zp rfl (fun _=>GU)<|lf ⟨_,_,rfl,O_72,rfl,o_66,(Apart.symm X_71),l1_i1,l2_i1,l7_i1,l9_i1,l10_i1,l12_i1,l14_i1,l17_i1,l18_i1,l19_i1,k_70⟩
          trivial
         refine pm rfl ?_ ?_
         ·refine Gq (cs:=[.int .i64 (AZ (x17.1+1))]) Tryz.underlying41 Aa rfl (pc rfl pn) rfl rfl rfl rfl rfl fun b_73 w_74 hx_75 hg_76 hb_77=>?_;have o_78:Row (α:=Int) 3 (World.heap wd).size w_74 (.slice (some ⟨b_73,0,none⟩) 1 1) [AZ (x17.1+1)]:=Row.lit hg_76 hb_77 rfl (ble rfl);have hp_79:Apart (.slice a5 y1.length cq5) (.slice (some ⟨b_73,0,none⟩) 1 1):=fun q e e2=>by have e3:b_73=q:=(by cases e2;rfl);have:=O1.own_lt _ e;omega
          have O_80:=O1.ext hx_75;have O_81:=O2.ext hx_75;have k_82:=kd.tr hx_75;have g_83:=World.grownBy.tr g0 (Ext.gro hx_75);refine nl ⟨fun _ _=>G2.of1 g_83,?_⟩;refine Br rfl<|Gq (cs:=[.int .i64 (AZ (x15.1+1))]) Tryz.underlying41 Aa rfl (pc rfl pn) rfl rfl rfl rfl rfl fun b_84 w_85 hx_86 hg_87 hb_88=>?_;have o_89:Row (α:=Int) 3 (World.heap w_74).size w_85 (.slice (some ⟨b_84,0,none⟩) 1 1) [AZ (x15.1+1)]:=Row.lit hg_87 hb_88 rfl (ble rfl);have O_90:=O_80.ext hx_86;have O_91:=O_81.ext hx_86;have O_92:=o_78.ext hx_86;have k_93:=k_82.tr hx_86;have g_94:=World.grownBy.tr g_83 (Ext.gro hx_86);refine nl ⟨fun _ _=>G2.of1 g_94,?_⟩;refine Br rfl<|KY (l:=y1) (k:=([AZ (x15.1+1)]:List Int)) l15_i1 rfl Tryz.underlying41 Aa rfl rfl O_90 (RV.els o_89.rv) Ex16 k_93.size fun v_95 w_96 o_97 hB_98 hgr_99 how_100=>?_;have k_101:Ext w12 w_96:=k_93.trans hB_98;have X_102:=Apart.app how_100 X0_i1 O_91.own_lt;have O_103:=Row.gra O_91 hgr_99 X0_i1;have O_104:=Row.gra O_92 hgr_99 hp_79;have g_105:=World.grownBy.tr g_94 hgr_99;refine nl ⟨fun _ _=>G2.of1 g_105,?_⟩;refine Br rfl<|KY (l:=y2) (k:=([AZ (x17.1+1)]:List Int)) l16_i1 rfl Tryz.underlying41 Aa rfl rfl O_103 (RV.els O_104.rv) Ex18 k_101.size fun v_106 w_107 o_108 hB_109 hgr_110 how_111=>?_;have k_112:Ext w12 w_107:=k_101.trans hB_109;have X_113:=Apart.app how_111 (Apart.symm X_102) o_97.own_lt;have O_114:=Row.gra o_97 hgr_110 (Apart.symm X_102);refine nl ⟨fun _ _=>⟨_,g_105,hgr_110⟩,?_⟩;refine Zp rfl (fun _=>GU)<|Zp rfl (fun _=>GU)<|lf ⟨_,_,rfl,O_114,rfl,o_108,(Apart.symm X_113),l1_i1,l2_i1,l7_i1,l9_i1,l10_i1,l12_i1,l14_i1,l17_i1,l18_i1,l19_i1,k_112⟩
         trivial
        rintro L w17⟨v12,v13,l15_i1,o10,l16_i1,o9,X2,l1_i1,l2_i1,l7_i1,l9_i1,l10_i1,l12_i1,l14_i1,l17_i1,l18_i1,l19_i1,k38⟩;have X2:=Apart.symm X2;have k37:=k19.tr k38;have hz:=RV.sl o10.rv;obtain⟨a7,cq7,rfl,-,-,-⟩:=hz;have hz:=RV.sl o9.rv;obtain⟨a8,cq8,rfl,-,-,-⟩:=hz;refine wp_seq<|Zr<|Zm<|Zv (FE l19_i1 rfl)<|nl<|cnd rfl (fun h9=>?_) (fun h9=>?_)
        ·have hB3:=Ah hB3 h9;refine wp_exit<|?_;cases hB3;refine lf<|?_;exact⟨_,_,l15_i1,o10,l16_i1,o9,l17_i1,l18_i1,(Apart.symm X2),l1_i1,l2_i1,l7_i1,l9_i1,l10_i1,l12_i1,l14_i1,l19_i1,k38⟩
        ·have hB3:=Ai hB3 h9;refine wp_skip<|Zr<|Za<|nl<|wp_seq<|Zr<|Za<|nl<|bS hB3 fun z4 hB8 hB3=>ct (fun L w=>L 20=.bool z4/\L 1=.int .u16 x1/\L 2=.int .u16 x2/\L 7=.int .i64 x6.1/\L 9=.slice (some ⟨b5,f1,none⟩) x9.1.length cq2/\L 10=.slice (some ⟨b7,f2,none⟩) x11.1.length cq3/\L 12=.slice a4 x12.1.length cq4/\L 14=.int .i64 (x9.1.length:Int)/\L 15=.slice a7 x16.length cq7/\L 16=.slice a8 x18.length cq8/\L 17=.int .i64 y3/\L 18=.int .i64 y4/\L 19=.int .i64 y5/\w12.heap.size<=w.heap.size/\Ext w17 w) ?_ ?_
         ·refine wp_block<|lp (I:=fun m L w=>∃y10:Bool,∃y11:Int,DY F x9 x12 y5 m y10 y11=some z4/\L 20=.bool y10/\L 21=.int .i64 y11/\L 1=.int .u16 x1/\L 2=.int .u16 x2/\L 7=.int .i64 x6.1/\L 9=.slice (some ⟨b5,f1,none⟩) x9.1.length cq2/\L 10=.slice (some ⟨b7,f2,none⟩) x11.1.length cq3/\L 12=.slice a4 x12.1.length cq4/\L 14=.int .i64 (x9.1.length:Int)/\L 15=.slice a7 x16.length cq7/\L 16=.slice a8 x18.length cq8/\L 17=.int .i64 y3/\L 18=.int .i64 y4/\L 19=.int .i64 y5/\w12.heap.size<=w.heap.size/\Ext w17 w) F ⟨_,_,hB8,rfl,rfl,l1_i1,l2_i1,l7_i1,l9_i1,l10_i1,l12_i1,l14_i1,l15_i1,l16_i1,l17_i1,l18_i1,l19_i1,k38.size,(Ext.refl _)⟩ ?_;rintro m L w18⟨y10,y11,hB8,l20_i6,l21_i6,l1_i6,l2_i6,l7_i6,l9_i6,l10_i6,l12_i6,l14_i6,l15_i6,l16_i6,l17_i6,l18_i6,l19_i6,Z0_i6,K0_i6⟩;rcases m with _|m
          ·rw[DY]at hB8;cases hB8
          rw[DY]at hB8;have k41:=k37.tr K0_i6;have k42:=k38.tr K0_i6;refine wp_seq<|Zr<|Zm<|Zm<|Zv (Ao l12_i6 Tryz.underlying75)<|Zv (BL l21_i6 rfl)<|nl<|cnd rfl (fun h10=>?_) (fun h10=>?_)
          ·have hB8:=Ah hB8 h10;refine wp_skip<|wp_seq<|wp_block<|bS hB8 fun y12 hB10 hB8=>ct (fun L w=>L 20=.bool y12/\L 1=.int .u16 x1/\L 2=.int .u16 x2/\L 7=.int .i64 x6.1/\L 9=.slice (some ⟨b5,f1,none⟩) x9.1.length cq2/\L 10=.slice (some ⟨b7,f2,none⟩) x11.1.length cq3/\L 12=.slice a4 x12.1.length cq4/\L 14=.int .i64 (x9.1.length:Int)/\L 15=.slice a7 x16.length cq7/\L 16=.slice a8 x18.length cq8/\L 17=.int .i64 y3/\L 18=.int .i64 y4/\L 19=.int .i64 y5/\L 21=.int .i64 y11/\w12.heap.size<=w.heap.size/\Ext w18 w) ?_ ?_
           ·refine Ff [] (.pure true 0 (.pure true 1 (.pure true 2 (.pure true 3 (.pure true 4 (.pure false 5 (.pure true 6 (.pure true 7 (.pure true 8 (.pure true 9 (.pure false 10 (.pure true 11 (.pure true 12 (.pure true 13 (.pure false 14 (.pure true 15 (.pure true 16 (.pure true 17 (.pure true 18 .fin))))))))))))))))))) mixed (by kernel_rfl) (fun w20 hx16=>?_);have k50:=k41.tr hx16;have k51:=k42.tr hx16;have zs2:=Nat.le_trans Z0_i6 hx16.size;refine Zn rfl<|Zn rfl<|Or.elim (Bool.eq_false_or_eq_true y10) (fun h11=>?_) (fun h11=>?_)
            ·have hB10:=Ah hB10 h11;refine KD rfl rfl rfl rfl rfl l20_i6 (Bl h11) rfl (.inl rfl)<|KD rfl rfl rfl rfl rfl l20_i6 (Bl h11) rfl (.inl rfl)<|KD rfl rfl rfl rfl rfl l20_i6 (Bl h11) rfl (.inl rfl)<|KD rfl rfl rfl rfl rfl l20_i6 (Bl h11) rfl (.inr (Ext.refl _))<|KD rfl rfl rfl rfl rfl l20_i6 (Bl h11) rfl (.inl rfl)<|KD rfl rfl rfl rfl rfl l20_i6 (Bl h11) rfl (.inl rfl)<|KD rfl rfl rfl rfl rfl l20_i6 (Bl h11) rfl (.inl rfl)<|KD rfl rfl rfl rfl rfl l20_i6 (Bl h11) rfl (.inl rfl)<|KD rfl rfl rfl rfl rfl l20_i6 (Bl h11) rfl (.inr (Ext.refl _))<|KD rfl rfl rfl rfl rfl l20_i6 (Bl h11) rfl (.inl rfl)<|KD rfl rfl rfl rfl rfl l20_i6 (Bl h11) rfl (.inl rfl)<|KD rfl rfl rfl rfl rfl l20_i6 (Bl h11) rfl (.inl rfl)<|KD rfl rfl rfl rfl rfl l20_i6 (Bl h11) rfl (.inr (Ext.refl _))<|KD rfl rfl rfl rfl rfl l20_i6 (Bl h11) rfl (.inl rfl)<|KD rfl rfl rfl rfl rfl l20_i6 (Bl h11) rfl (.inl rfl)<|Zp rfl (fun _=>GD l20_i6 h11 rfl)<|Zp rfl (fun _=>GU)<|?_;cases hB10;refine lf<|?_;exact⟨rfl,l1_i6,l2_i6,l7_i6,l9_i6,l10_i6,l12_i6,l14_i6,l15_i6,l16_i6,l17_i6,l18_i6,l19_i6,l21_i6,zs2,hx16⟩
            ·have hB10:=Ai hB10 h11;refine KL rfl rfl rfl rfl rfl l20_i6 (bf h11) rfl (fun _ _=>Cv) (.inl rfl)<|KL rfl rfl rfl rfl rfl l20_i6 (bf h11) rfl (fun _ _=>Cv) (.inl rfl)<|bS hB10 fun x19 Ex19 hB10=>?_;have hz:=(RV.els r27).ix Ex19;obtain⟨b9,f3,cs6,e6,i7,i8,q7,hc5⟩:=hz;cases e6;obtain⟨_,_,rfl,⟨_,_,rfl,rfl,rfl⟩,_,_,rfl,rfl,rfl⟩:=q7;have hc6:=hc5.ext k51;refine KL rfl rfl rfl rfl rfl l20_i6 (bf h11) rfl (fun _ _=>Al l12_i6 l21_i6 Tryz.underlying75 SE i7 i8) (.inl rfl)<|KL rfl rfl rfl rfl rfl l20_i6 (bf h11) rfl (fun _ hS=>Ad rfl SE rfl (hc6.ext (hS.resolve_left nofun))) (.inr (Ext.refl _))<|KL rfl rfl rfl rfl rfl l20_i6 (bf h11) rfl (fun _ _=>Cv) (.inl rfl)<|KL rfl rfl rfl rfl rfl l20_i6 (bf h11) rfl (fun _ _=>Cv) (.inl rfl)<|KL rfl rfl rfl rfl rfl l20_i6 (bf h11) rfl (fun _ _=>IV l19_i6 rfl) (.inl rfl)<|bS hB10 fun x20 Ex20 hB10=>?_;have hz:=Gd r13 Ex20;obtain⟨cs7,i9,i10,q8,hc7⟩:=hz;obtain⟨_,_,rfl,rfl,rfl⟩:=q8;have hc8:=hc7.ext k50;refine KL rfl rfl rfl rfl rfl l20_i6 (bf h11) rfl (fun _ _=>Al l9_i6 rfl Tryz.underlying51 BU i9 i10) (.inl rfl)<|KL rfl rfl rfl rfl rfl l20_i6 (bf h11) rfl (fun _ hS=>Ad rfl BU rfl (hc8.ext (hS.resolve_left nofun))) (.inr (Ext.refl _))<|KL rfl rfl rfl rfl rfl l20_i6 (bf h11) rfl (fun _ _=>Cv) (.inl rfl)<|KL rfl rfl rfl rfl rfl l20_i6 (bf h11) rfl (fun _ _=>Cv) (.inl rfl)<|bS hB10 fun x21 Ex21 hB10=>?_;have hz:=Gd r13 Ex21;obtain⟨cs8,i11,i12,q9,hc9⟩:=hz;obtain⟨_,_,rfl,rfl,rfl⟩:=q9;have hc10:=hc9.ext k50;refine KL rfl rfl rfl rfl rfl l20_i6 (bf h11) rfl (fun _ _=>Al l9_i6 l19_i6 Tryz.underlying51 BU i11 i12) (.inl rfl)<|KL rfl rfl rfl rfl rfl l20_i6 (bf h11) rfl (fun _ hS=>Ad rfl BU rfl (hc10.ext (hS.resolve_left nofun))) (.inr (Ext.refl _))<|KL rfl rfl rfl rfl rfl l20_i6 (bf h11) rfl (fun _ _=>IW (r:=[.int .i64 x20.1,.bool x20.2,.int .i64 x21.1,.bool x21.2]) SE mM (pc rfl (pc rfl pn)) rfl) (.inl rfl)<|KL rfl rfl rfl rfl rfl l20_i6 (bf h11) rfl (fun _ _=>Xy (α:=((Int×Bool)×(Int×Bool))) (a:=((x19.1.1,x19.1.2),(x19.2.1,x19.2.2))) (b:=((x20.1,x20.2),(x21.1,x21.2))) rfl vV vU rfl rfl rfl rfl rfl) (.inl rfl)<|Zp rfl (fun _=>H8 l20_i6 h11 rfl)<|Zp rfl (fun _=>GU)<|?_;cases hB10;refine lf<|?_;exact⟨rfl,l1_i6,l2_i6,l7_i6,l9_i6,l10_i6,l12_i6,l14_i6,l15_i6,l16_i6,l17_i6,l18_i6,l19_i6,l21_i6,zs2,hx16⟩
           rintro L w21⟨l20_j1,l1_j1,l2_j1,l7_j1,l9_j1,l10_j1,l12_j1,l14_j1,l15_j1,l16_j1,l17_j1,l18_j1,l19_j1,l21_j1,Z0_j1,K0_j1⟩;have k57:=K0_i6.tr K0_j1;refine rg<|Zm<|Zv (Aw l21_j1 rfl)<|Za<|nl<|lq m (Nat.lt_succ_self _)<|?_;exact⟨_,_,hB8,l20_j1,rfl,l1_j1,l2_j1,l7_j1,l9_j1,l10_j1,l12_j1,l14_j1,l15_j1,l16_j1,l17_j1,l18_j1,l19_j1,Z0_j1,k57⟩
          ·have hB8:=Ai hB8 h10;refine wp_exit<|?_;cases hB8;refine lf<|?_;exact⟨l20_i6,l1_i6,l2_i6,l7_i6,l9_i6,l10_i6,l12_i6,l14_i6,l15_i6,l16_i6,l17_i6,l18_i6,l19_i6,Z0_i6,K0_i6⟩
         rintro L w22⟨l20_j2,l1_j2,l2_j2,l7_j2,l9_j2,l10_j2,l12_j2,l14_j2,l15_j2,l16_j2,l17_j2,l18_j2,l19_j2,Z0_j2,K0_j2⟩;have k61:=k38.tr K0_j2;have o20:=o10.ext K0_j2;have o21:=o9.ext K0_j2;refine wp_seq<|Zr<|Zm<|nl<|bS hB3 fun y13 hB12 hB3=>ct (fun L w=>L 17=.int .i64 y13/\L 1=.int .u16 x1/\L 2=.int .u16 x2/\L 7=.int .i64 x6.1/\L 9=.slice (some ⟨b5,f1,none⟩) x9.1.length cq2/\L 10=.slice (some ⟨b7,f2,none⟩) x11.1.length cq3/\L 12=.slice a4 x12.1.length cq4/\L 14=.int .i64 (x9.1.length:Int)/\L 15=.slice a7 x16.length cq7/\L 16=.slice a8 x18.length cq8/\L 18=.int .i64 y4/\L 19=.int .i64 y5/\w12.heap.size<=w.heap.size/\Ext w22 w) ?_ ?_
         ·refine cnd l20_j2 (fun h12=>?_) (fun h12=>?_)
          ·have hB12:=Ah hB12 h12;refine rg<|Zm<|Zv (Aw l17_j2 rfl)<|Za<|nl<|?_;cases hB12;refine lf<|?_;exact⟨rfl,l1_j2,l2_j2,l7_j2,l9_j2,l10_j2,l12_j2,l14_j2,l15_j2,l16_j2,l18_j2,l19_j2,Z0_j2,(Ext.refl _)⟩
          ·have hB12:=Ai hB12 h12;refine rg<|Za<|nl<|?_;cases hB12;refine lf<|?_;exact⟨rfl,l1_j2,l2_j2,l7_j2,l9_j2,l10_j2,l12_j2,l14_j2,l15_j2,l16_j2,l18_j2,l19_j2,Z0_j2,(Ext.refl _)⟩
         rintro L w23⟨l17_j3,l1_j3,l2_j3,l7_j3,l9_j3,l10_j3,l12_j3,l14_j3,l15_j3,l16_j3,l18_j3,l19_j3,Z0_j3,K0_j3⟩;have k65:=k61.tr K0_j3;have o22:=o20.ext K0_j3;have o23:=o21.ext K0_j3;refine rg<|Zm<|Zm<|Zv (mF l18_j3 l17_j3)<|Za<|nl<|?_;cases hB3;refine lf<|?_;exact⟨_,_,l15_j3,o22,l16_j3,o23,l17_j3,rfl,(Apart.symm X2),l1_j3,l2_j3,l7_j3,l9_j3,l10_j3,l12_j3,l14_j3,l19_j3,k65⟩
       rintro L w24⟨v10,v11,l15_j4,O15_j4,l16_j4,O16_j4,l17_j4,l18_j4,X0_j4,l1_j4,l2_j4,l7_j4,l9_j4,l10_j4,l12_j4,l14_j4,l19_j4,K0_j4⟩;have hz:=RV.sl O15_j4.rv;obtain⟨a9,cq9,rfl,-,-,-⟩:=hz;have hz:=RV.sl O16_j4.rv;obtain⟨a10,cq10,rfl,-,-,-⟩:=hz;refine rg<|Zm<|Zv (Aw l19_j4 rfl)<|Za<|nl<|lq m (Nat.lt_succ_self _)<|?_;exact⟨_,_,_,_,_,_,_,hB1,l15_j4,O15_j4,l16_j4,O16_j4,l17_j4,l18_j4,rfl,X0_j4,l1_j4,l2_j4,l7_j4,l9_j4,l10_j4,l12_j4,l14_j4,K0_j4⟩
      ·have hB1:=Ai hB1 h8;refine wp_exit<|?_;cases hB1;refine lf<|?_;exact⟨_,_,l15_i1,O15_i1,l16_i1,O16_i1,l18_i1,X0_i1,l1_i1,l2_i1,l7_i1,l14_i1,K0_i1⟩
     rintro L w25⟨v8,v9,l15_j5,O15_j5,l16_j5,O16_j5,l18_j5,X0_j5,l1_j5,l2_j5,l7_j5,l14_j5,K0_j5⟩;have k70:=k17.tr K0_j5;have hz:=RV.sl O15_j5.rv;obtain⟨a11,cq11,rfl,-,-,-⟩:=hz;have hz:=RV.sl O16_j5.rv;obtain⟨a12,cq12,rfl,-,-,-⟩:=hz;refine Zr<|Zm<|Zm<|Gq (cs:=[.slice a11 z1.length cq11,.slice a12 z2.length cq12]) Tryz.underlying78 Gu rfl (pc l15_j5 (pc l16_j5 pn)) rfl rfl rfl rfl rfl fun b10 w26 hx17 hg4 hb12=>?_;have k73:=k70.tr hx17;have O4:=O15_j5.ext hx17;have O5:=O16_j5.ext hx17;have r66:RV w26 (.slice (some ⟨b10,0,none⟩) 2 2) ([z1,z2]:List (List Int)):=RV.lit hb12 (css:=[[.slice a11 z1.length cq11],[.slice a12 z2.length cq12]]) rfl ⟨O4.rv.rep1,O5.rv.rep1,trivial⟩ rfl (ble rfl);refine Za<|nl<|Zr<|Zv (IW (r:=[.slice none 0 0]) JY Uz pn rfl)<|Zm<|bS hF fun x22 Ex22 hF=>Zc (xc vz (mc rfl (mc rfl mn))) (zN (show RV (α:=(Uno (List (Ar 2 Int)))) _ (.agg [.slice none 0 0].toArray) (⟨[]⟩:(Uno (List (Ar 2 Int))))from⟨_,rfl,(RVo.nil (Nat.zero_le _)).rep1⟩) r66 Ex22) ?_;rintro _ w27⟨u4,rfl,r67,hx18⟩;have k77:=k73.tr hx18;have r68:=r66.ext hx18;have hz:=RV.sl r67;obtain⟨a13,cq13,rfl,-,-,-⟩:=hz;refine Zm<|Zv (Cq rfl rfl)<|Zv (Cq rfl rfl)<|Za<|Za<|nl<|Zr<|Zv (IW (r:=[.slice none 0 0]) JY Uz pn rfl)<|Zm<|bS hF fun x23 Ex23 hF=>Zc (xc vg (mc rfl (mc rfl mn))) (zL (show RV (α:=(Uno (List (Ar 2 Int)))) _ (.agg [.slice none 0 0].toArray) (⟨[]⟩:(Uno (List (Ar 2 Int))))from⟨_,rfl,(RVo.nil (Nat.zero_le _)).rep1⟩) r68 Ex23) ?_;rintro _ w28⟨u5,rfl,r69,hx19⟩;have k82:=k77.tr hx19;have r70:=r68.ext hx19;have hz:=RV.sl r69;obtain⟨a14,cq14,rfl,-,-,-⟩:=hz;refine Zm<|Zv (Cq rfl rfl)<|Zv (Cq rfl rfl)<|Za<|Za<|nl<|Zr<|Zv (IW (r:=[.slice none 0 0]) JY Uz pn rfl)<|Zm<|bS hF fun x24 Ex24 hF=>Zc (xc vk (mc rfl (mc rfl mn))) (zM (show RV (α:=(Uno (List (Ar 2 Int)))) _ (.agg [.slice none 0 0].toArray) (⟨[]⟩:(Uno (List (Ar 2 Int))))from⟨_,rfl,(RVo.nil (Nat.zero_le _)).rep1⟩) r70 Ex24) ?_;rintro _ w29⟨rfl,hx20⟩;have k87:=k82.tr hx20;have r72:=r70.ext hx20;have r74:=r69.ext hx20;refine Zm<|Zv (Cq rfl rfl)<|Zv (Cq rfl rfl)<|Za<|Za<|nl<|Zr<|Zv (IW (r:=[.slice none 0 0]) JY Uz pn rfl)<|Zm<|bS hF fun x25 Ex25 hF=>Zc (xc wB (mc rfl (mc rfl mn))) (zO (show RV (α:=(Uno (List (Ar 2 Int)))) _ (.agg [.slice none 0 0].toArray) (⟨[]⟩:(Uno (List (Ar 2 Int))))from⟨_,rfl,(RVo.nil (Nat.zero_le _)).rep1⟩) r72 Ex25) ?_;rintro _ w30⟨u6,rfl,r75,hx21⟩;have k92:=k87.tr hx21;have r76:=r72.ext hx21;have r78:=r74.ext hx21;have hz:=RV.sl r75;obtain⟨a15,cq15,rfl,-,-,-⟩:=hz;refine Zm<|Zv (Cq rfl rfl)<|Zv (Cq rfl rfl)<|Za<|Za<|nl<|wp_seq<|Zr<|Zm<|Zv (FH rfl rfl)<|Zm<|Zg rfl rfl (Be rfl) (fun hc=>Aq rfl)<|Zg rfl rfl (Be rfl) (fun hc=>FH (mv hc rfl) rfl)<|Zv (JF rfl rfl rfl)<|Zm<|Zg rfl rfl (Be rfl) (fun hc=>Aq rfl)<|Zg rfl rfl (Be rfl) (fun hc=>FH (mv hc rfl) rfl)<|Zv (JF rfl rfl rfl)<|Zm<|Zg rfl rfl (Be rfl) (fun hc=>Aq rfl)<|Zg rfl rfl (Be rfl) (fun hc=>FH (mv hc rfl) rfl)<|Zv (JF rfl rfl rfl)<|Zm<|Zg rfl rfl (Be rfl) (fun hc=>Aq rfl)<|Zg rfl rfl (Be rfl) (fun hc=>Ao (mv hc rfl) Tryz.underlying85)<|Zg rfl rfl (Be rfl) (fun hc=>Aq l14_j5)<|Zg rfl rfl (Be rfl) (fun hc=>FH (mv hc rfl) (mv hc rfl))<|Zv (JF rfl rfl rfl)<|Zm<|Zg rfl rfl (Be rfl) (fun hc=>Aq rfl)<|Zg rfl rfl (Be rfl) (fun hc=>Ao (mv hc rfl) Tryz.underlying85)<|Zg rfl rfl (Be rfl) (fun hc=>Aq l18_j5)<|Zg rfl rfl (Be rfl) (fun hc=>BL (mv hc rfl) (mv hc rfl))<|Zv (JF rfl rfl rfl)<|Zm<|Zg rfl rfl (Be rfl) (fun hc=>Aq rfl)<|Zg rfl rfl (Be rfl) (fun hc=>Ao (mv hc rfl) Tryz.underlying85)<|Zg rfl rfl (Be rfl) (fun hc=>Aq l14_j5)<|Zg rfl rfl (Be rfl) (fun hc=>Ig (mv hc rfl) (mv hc rfl))<|Zv (JF rfl rfl rfl)<|Zm<|Zg rfl rfl (Be rfl) (fun hc=>IW (r:=[.slice none 0 0]) JY Uz pn rfl)<|Zg rfl rfl (Be rfl) (fun hc=>Aq rfl)<|Zg rfl rfl (Be rfl) (fun hc=>Aq rfl)<|bS hF fun x26 Ex26 hF=>gc rfl rfl rfl rfl (Be rfl) rfl (fun hc=>xc vo (mc (mv hc rfl) (mc (mv hc rfl) (mc (mv hc rfl) mn)))) (fun hc=>(zR (show RV (α:=(Uno (List (Ar 2 Int)))) _ (.agg [.slice none 0 0].toArray) (⟨[]⟩:(Uno (List (Ar 2 Int))))from⟨_,rfl,(RVo.nil (Nat.zero_le _)).rep1⟩) r76 r78 (Ot Ex26 hc))) (fun v14 w31 hy3 hn3=>?_);have hx22:Ext w30 w31:=gx (fun h=>(hy3 h).2) (fun h=>(hn3 h).2▸Ext.refl _);have e7:=Ou (fun h=>(hy3 h).1) (fun h=>(hn3 h).1);have k97:=k92.tr hx22;refine Zg rfl rfl (Be rfl) (fun hc=>FH (mv hc e7) rfl)<|Zv (JF rfl rfl rfl)<|nl<|cnd rfl (fun h13=>?_) (fun h13=>?_)
     ·have hF:=Ah hF h13;refine Zr<|Za<|nl<|?_;cases hF;exact wp_ret<|Zw rfl rfl rfl ⟨rfl,k97⟩
     ·have hF:=Ai hF h13;refine wp_skip<|wp_seq<|Ff [] (.pure true 0 (.pure true 1 (.pure true 2 (.pure true 3 (.pure true 4 (.pure true 5 (.pure true 6 (.pure true 7 (.pure true 8 (.pure true 9 .fin)))))))))) mixed (by kernel_rfl) (fun w32 hx23=>?_);have k102:=k97.tr hx23;refine Zn rfl<|Zp rfl (fun _=>Xu l1_j5 Tryz.underlying33 Tryz.underlying2)<|Zn rfl<|bS hF fun x27 Ex27 hF=>Zp rfl (fun _=>UX rfl l7_j5 Ex27)<|Zn rfl<|Zp rfl (fun _=>Xu l2_j5 Tryz.underlying33 Tryz.underlying2)<|Zn rfl<|bS hF fun x28 Ex28 hF=>Zp rfl (fun _=>UX rfl l7_j5 Ex28)<|Zp rfl (fun _=>FE rfl rfl)<|Zp rfl (fun _=>GU)<|Zr<|Zm<|Zv (GV rfl)<|Zm<|Zg rfl rfl (Be rfl) (fun hc=>Aq rfl)<|Zg rfl rfl (Be rfl) (fun hc=>Ao (mv hc rfl) Tryz.underlying85)<|Zg rfl rfl (Be rfl) (fun hc=>Aq l14_j5)<|Zg rfl rfl (Be rfl) (fun hc=>FE (mv hc rfl) (mv hc rfl))<|Zg rfl rfl (Be rfl) (fun hc=>Aq (mv hc rfl))<|Zg rfl rfl (XH rfl) (fun hc=>Aq rfl)<|Zg rfl rfl (XH rfl) (fun hc=>FE (mv hc rfl) rfl)<|Zg rfl rfl (Be rfl) (fun hc=>Ky (mv hc rfl) (uD hc rfl) rfl)<|Zg rfl rfl (Be rfl) (fun hc=>Aq (mv hc rfl))<|Zg rfl rfl (XH rfl) (fun hc=>Aq rfl)<|Zg rfl rfl (XH rfl) (fun hc=>Ao (mv hc rfl) Tryz.underlying85)<|Zg rfl rfl (XH rfl) (fun hc=>Aq l14_j5)<|Zg rfl rfl (XH rfl) (fun hc=>FE (mv hc rfl) (mv hc rfl))<|Zg rfl rfl (Be rfl) (fun hc=>Ky (mv hc rfl) (uD hc rfl) rfl)<|Zv (JF rfl rfl rfl)<|Zm<|bS hF fun x29 Ex29 hF=>gc rfl rfl rfl rfl (CB rfl) rfl (fun hc=>xc dm mn) (fun hc=>(oh (Ot Ex29 hc))) (fun v15 w33 hy4 hn4=>?_);have hx24:Ext w32 w33:=gx (fun h=>(hy4 h).2) (fun h=>(hn4 h).2▸Ext.refl _);have e8:=Ou (fun h=>(hy4 h).1) (fun h=>(hn4 h).1);have k107:=k102.tr hx24;refine Zv (Ky rfl e8 rfl)<|Za<|nl<|?_;cases hF;exact wp_ret<|Zw rfl rfl rfl ⟨rfl,k107⟩
end Go.Proofs.YtfmelbioccbdoaaGreat
end
section
namespace Go.Proofs.YtfmelbioccbdoaaGreat
open Go Go.Md Go.RowKit
section
theorem BO{n:Int}(h:-9223372036854775808<=n/\n<=9223372036854775807):AZ n=n:=IntWalk.i64_in n h
def Jt{α:Type}(l:List α)(f:α->Option Bool):Nat->Int->Option (Sum Int Unit)
 |0,_=>none
 |m+1,k=>
  if(decide (k<(l.length:Int)))=true then
   (ix l k)>>=fun x=>(f x)>>=fun b=>if b=true then some (.inl k)else Jt l f m (AZ (k+1))
  else some (.inr ())
theorem A7{α:Type}{l:List α}{k:Nat}(h:k<l.length):ix l (k:Int)=some l[k]:=by
 simp[ix,List.getElem?_eq_getElem h]
theorem NE{α:Type}{l:List α}{f:α->Option Bool}{p:α->Bool}(hf:∀x∈l,f x=some (p x))(hl:l.length<4611686018427387904):
  ∀(m k:Nat),k<=l.length->l.length-k<m->∃r,Jt l f m (k:Int)=some r/\((l.drop k).any p=true->∃j:Nat,r=.inl (j:Int))/\((l.drop k).any p=false->r=.inr ())
 |0,k,_,h=>by omega
 |m+1,k,hk,h=>by
  unfold Jt;by_cases hlt:k<l.length
  ·have e:decide ((k:Int)<(l.length:Int))=true:=by simpa using hlt
   rw[if_pos e,A7 hlt];have hd:l.drop k=l[k]::l.drop (k+1):=List.drop_eq_getElem_cons hlt;have hfx:=hf l[k] (List.getElem_mem hlt);simp only[Ab,AJ,hfx];cases hp:p l[k]with
   |true=>
    refine⟨_,if_pos rfl,fun _=>⟨k,rfl⟩,fun h=>?_⟩;rw[hd,List.any_cons,hp]at h;cases h
   |false=>
    rw[if_neg (by simp),BO (by omega)];obtain⟨r,h1,h2,h3⟩:=NE hf hl m (k+1) (by omega) (by omega);refine⟨r,h1,?_,?_⟩<;>rw[hd,List.any_cons,hp,Bool.false_or]<;>assumption
  ·have e:¬decide ((k:Int)<(l.length:Int))=true:=by simpa using hlt
   rw[if_neg e];have:l.drop k=[]:=List.drop_of_length_le (by omega);refine⟨_,rfl,?_,fun _=>rfl⟩;rw[this];intro h;cases h
section
variable {α:Type}{f:α->Option Bool}{p:α->Bool}
theorem Xc{l:List Int}{f:Int->Option Bool}(F:Nat):∀m k,Cu F l f m k=Jt l f m k
 |0,_=>rfl
 |m+1,k=>by unfold Cu Jt;simp only[Xc F m]
theorem kU{l:List Int}{f:Int->Option Bool}{p:Int->Bool}{F:Nat}(hf:∀x∈l,f x=some (p x))(hF:l.length<F)(hl:l.length<4611686018427387904):EY F l f=some (l.any p):=by
 obtain⟨r,h1,h2,h3⟩:=NE hf hl F 0 (Nat.zero_le _) (by omega);unfold EY Gv;rw[Xc];simp only[Int.natCast_zero,List.drop_zero]at h1 h2 h3;rw[h1];cases hp:l.any p with
 |true=>obtain⟨j,rfl⟩:=h2 hp;simp[Ab]
 |false=>obtain rfl:=h3 hp;simp[Ab]
end
def Tx(lo hi n:Int):Bool:=decide (lo<=n)&&decide (n<=hi)
theorem kV{lo hi:Int}(l:List Int):(!l.any fun n=>decide (n<lo)||decide (hi<n))=l.all (Tx lo hi):=by
 induction l with
 |nil=>rfl
 |cons a l ih=>
  simp only[List.any_cons,List.all_cons,Bool.not_or,ih,Tx]
  congr 1
  by_cases h1:a<lo<;>by_cases h2:hi<a<;>simp[h1,h2]<;>omega
end
def Vx(T:Int)(r:Int×Int×Int):Bool:=Tx 0 T r.1&&Tx 0 T r.2.1&& !decide (r.1=r.2.1)&&Tx (-100000) 100000 r.2.2
def JI(x:Int×List (Int×Int×Int)):Int:=
 if 60<x.2.length then 6 else if Tx 1 20 x.1=true then(if x.2.all (Vx x.1)=true then 0 else 3)else 2
theorem kX{α:Type}{p:α->Bool}(l:List α):(l.any fun x=>!p x)=!l.all p:=by
 induction l with
 |nil=>rfl
 |cons a l ih=>simp[ih,Bool.not_and]
theorem bR{x:Int×List (Int×Int×Int)}(h:JI x=0):x.2.length<=60/\1<=x.1/\x.1<=20/\∀r∈x.2,Vx x.1 r=true:=by
 unfold JI at h;split at h
 ·cases h
 ·rename_i h1
  split at h
  ·rename_i h2
   split at h
   ·rename_i h3
    simp only[Tx,Bool.and_eq_true,decide_eq_true_eq]at h2;exact⟨by omega,h2.1,h2.2,List.all_eq_true.1 h3⟩
   ·cases h
  ·cases h
def Nh(n:Nat):List (Int×Int×Int):=(List.range n).flatMap fun(t:Nat)=>[(0,(t:Int)+1,100000),((t:Int)+1,0,0)]
theorem Rt(n:Nat):Nh (n+1)=Nh n++[(0,(n:Int)+1,100000),((n:Int)+1,0,0)]:=by simp[Nh,List.range_succ]
theorem bT(n:Nat):(Nh n).length=2*n:=by
 induction n with
 |zero=>rfl
 |succ n ih=>rw[Rt,List.length_append,ih];simp;omega
def Gl(x:Int×List (Int×Int×Int)):List (Int×Int×Int):=x.2++Nh x.1.toNat
theorem Fu{α:Type}{b:Nat}{l k:List α}(h:(l.length+k.length)*b<=140737488355328):app b l k=some (l++k):=by
 unfold app;rw[if_pos h]
theorem bU{F:Nat}{x:Int×List (Int×Int×Int)}{N:Nat}(hN:x.1=N)(h20:N<=20)(hl:x.2.length<=60):∀(m k:Nat),k<=N->N-k<m->
  K4 F x m (x.2++Nh k) ((k:Int)+1)=some (x.2++Nh N)
 |0,k,_,h=>by omega
 |m+1,k,hk,h=>by
  unfold K4;by_cases hlt:k<N
  ·rw[if_pos (by simp;omega)]
   have hlen:=bT k;rw[Fu (by simp only[List.length_append,List.length_cons,List.length_nil,hlen];omega)];simp only[Ab,AJ];rw[BO (by omega),List.append_assoc,<-Rt];exact bU hN h20 hl m (k+1) (by omega) (by omega)
  ·have:k=N:=by omega
   subst this;rw[if_neg (by simp;omega)]
theorem all_eq{F:Nat}(hF:100<F){x:Int×List (Int×Int×Int)}(h0:0<=x.1)(h20:x.1<=20)(hl:x.2.length<=60):TQ F x=some (Gl x):=by
 unfold TQ;rw[Fu (by simp;omega)];simp only[Ab,AJ,List.nil_append];have:=bU (F:=F) (x:=x) (N:=x.1.toNat) (by omega) (by omega) hl F 0 (Nat.zero_le _) (by omega);simp only[Int.natCast_zero,Nh,List.range_zero,List.flatMap_nil,List.append_nil,Int.zero_add]at this;rw[this]
 rfl
end Go.Proofs.YtfmelbioccbdoaaGreat
end
section
namespace Go.Proofs.YtfmelbioccbdoaaGreat
open Go Go.Md Go.RowKit
namespace Wo
section
theorem Ap{k:Nat}(h:k<4611686018427387904):AZ ((k:Int)+1)=((k+1:Nat):Int):=by rw[BO (by omega)];rfl
theorem Vy{α:Type}{l:List α}{k:Nat}{x:α}:Fe l (k:Int) x=l.set k x:=by simp[Fe]
def tl(f:Nat->Nat):List Int:=(List.range 101).map fun i=>(f i:Int)
theorem Ru(f:Nat->Nat):(tl f).length=101:=by simp[tl]
theorem bV{f:Nat->Nat}{i:Nat}(h:i<101):(tl f)[i]?=some (f i:Int):=by simp[tl,h]
theorem MN{f:Nat->Nat}{i:Nat}(h:i<101):ix (tl f) (i:Int)=some (f i:Int):=by
 rw[A7 (by rw[Ru];exact h)];simp[tl]
theorem bW{f:Nat->Nat}{i v:Nat}(h:i<101):Fe (tl f) (i:Int) (v:Int)=tl fun j=>if j=i then v else f j:=by
 rw[Vy];apply List.ext_getElem?;intro j;by_cases hj:j<101
 ·rw[bV hj,List.getElem?_set]
  by_cases e:i=j
  ·subst e;rw[if_pos rfl,if_pos (by rw[Ru];exact h),if_pos rfl]
  ·rw[if_neg e,bV hj,if_neg (fun h=>e h.symm)]
 ·rw[List.getElem?_eq_none (by rw[List.length_set,Ru];omega),List.getElem?_eq_none (by rw[Ru];omega)]
theorem kY{f g:Nat->Nat}(h:∀i,i<101->f i=g i):tl f=tl g:=by
 unfold tl;exact List.map_congr_left fun i hi=>by rw[h i (List.mem_range.1 hi)]
abbrev Bk:=Uno (List (Ar 2 Int))
def wd(x:Int):Bool:=decide (1<=x)&&decide (x<=100)
def fs(p:Ar 2 Int):Int:=p.l.getD 0 0
def sn(p:Ar 2 Int):Int:=p.l.getD 1 0
theorem Un(p:Ar 2 Int):ix p.l 0=some (fs p):=by
 have:=p.h;rw[show(0:Int)=((0:Nat):Int)from rfl,A7 (by omega)];simp[fs,List.getElem?_eq_getElem (show 0<p.l.length by omega)]
theorem Uo(p:Ar 2 Int):ix p.l 1=some (sn p):=by
 have:=p.h;rw[show(1:Int)=((1:Nat):Int)from rfl,A7 (by omega)];simp[sn,List.getElem?_eq_getElem (show 1<p.l.length by omega)]
structure VB(x:Bk):Prop where
 len:x.v.length<=40
 ws:∀p∈x.v,wd (fs p)=true/\wd (sn p)=true
theorem Pj{x:Int}(h:wd x=true):∃n:Nat,x=(n:Int)/\1<=n/\n<101:=by
 simp[wd]at h;exact⟨x.toNat,by omega,by omega,by omega⟩
def Ed(x:Bk)(i j:Nat):Prop:=∃p∈x.v,fs p=(i:Int)/\sn p=(j:Int)
inductive Con(E:Nat->Nat->Prop):Nat->Nat->Prop
 |refl (i:Nat):Con E i i
 |step {i j k:Nat}:Con E i j->(E j k\/E k j)->Con E i k
theorem Con.trans{E:Nat->Nat->Prop}{i j k:Nat}(h:Con E i j)(g:Con E j k):Con E i k:=by
 induction g with
 |refl=>exact h
 |step _ e ih=>exact .step ih e
theorem Con.symm{E:Nat->Nat->Prop}{i j:Nat}(h:Con E i j):Con E j i:=by
 induction h with
 |refl=>exact .refl _
 |step _ e ih=>exact(Con.step (.refl _) e.symm).trans ih
theorem kZ{c:G9}{f:Nat->Nat}(h:c.l=tl f)(a b:Nat):(K5 (a:Int) (b:Int) c).l=tl fun i=>if f i=b then a else f i:=by
 show c.l.map _=_;rw[h];unfold tl;rw[List.map_map];refine List.map_congr_left fun i _=>?_;simp only[Function.comp];by_cases e:f i=b
 ·rw[if_pos (by rw[e]),if_pos e]
 ·rw[if_neg (by omega),if_neg e]
theorem jO{x:Bk}(hv:VB x):∀(l:List (Ar 2 Int))(c:G9)(f:Nat->Nat),(∀p∈l,p∈x.v)->c.l=tl f->(∀i,i<101->f i<101)->(∀i j,i<101->j<101->f i=f j->Con (Ed x) i j)->
  ∃c' g,NP l c=some c'/\c'.l=tl g/\(∀i j,i<101->j<101->g i=g j->Con (Ed x) i j)/\(∀i j,f i=f j->g i=g j)/\∀p∈l,∀i j:Nat,fs p=(i:Int)->sn p=(j:Int)->g i=g j
 |[],c,f,_,hc,_,hI=>⟨c,f,rfl,hc,hI,fun _ _ h=>h,fun p hp=>by cases hp⟩
 |p::l,c,f,hl,hc,hb,hI=>by
  obtain⟨h1,h2⟩:=hv.ws p (hl p (List.mem_cons_self ..));obtain⟨i,hi,_,hi1⟩:=Pj h1;obtain⟨j,hj,_,hj1⟩:=Pj h2;have key:∀n:Nat,n<101->L6 ((n:Nat):Int)=some ():=fun n h=>by unfold L6;rw[if_pos (XP h)]
  have hE:Ed x i j:=⟨p,hl p (List.mem_cons_self ..),hi,hj⟩;obtain⟨c',g,e1,e2,e3,e4,e5⟩:=jO hv l (if(f i:Int)=(f j:Int)then c else K5 (f i:Int) (f j:Int) c) (fun n=>if f n=f j then f i else f n) (fun q hq=>hl q (List.mem_cons_of_mem _ hq)) (by
    by_cases e:f i=f j
    ·rw[if_pos (by rw[e]),hc]
     refine kY fun n _=>?_;by_cases e':f n=f j
     ·rw[if_pos e',e',e]
     ·rw[if_neg e']
    ·rw[if_neg (by omega),kZ hc])
   (fun n hn=>by
    by_cases e:f n=f j
    ·simp only[e,if_true];exact hb i hi1
    ·simp only[if_neg e];exact hb n hn)
   (fun a b ha hb' h=>by
    by_cases ea:f a=f j<;>by_cases eb:f b=f j
    ·exact hI a b ha hb' (ea.trans eb.symm)
    ·simp only[if_pos ea,if_neg eb]at h
     exact(Con.step (hI a j ha hj1 ea) (.inr hE)).trans (hI i b hi1 hb' h)
    ·simp only[if_neg ea,if_pos eb]at h
     exact(Con.step (hI a i ha hi1 h) (.inl hE)).trans (hI j b hj1 hb' eb.symm)
    ·simp only[if_neg ea,if_neg eb]at h
     exact hI a b ha hb' h)
  refine⟨c',g,?_,e2,e3,fun a b h=>e4 a b (by simp only[h]),?_⟩
  ·unfold NP
   rw[Un,Uo,hi,hj];simp only[Ab,AJ];rw[hc,MN hi1,MN hj1];simp only[AJ];rw[key _ (hb i hi1),key _ (hb j hj1)];simp only[AJ];exact e1
  ·intro q hq a b ha hb'
   rcases List.mem_cons.1 hq with rfl|hq
   ·have:a=i:=by omega
    have:b=j:=by omega
    subst a b;exact e4 i j (by by_cases e:f i=f j<;>simp[e])
   ·exact e5 q hq a b ha hb'
theorem kg:Kc.l=tl fun i=>i:=by rfl
theorem ol{x:Bk}(hv:VB x):∃c g,NP x.v Kc=some c/\c.l=tl g/\∀i j,i<101->j<101->(g i=g j↔Con (Ed x) i j):=by
 obtain⟨c,g,h1,h2,h3,h4,h5⟩:=jO hv x.v Kc (fun i=>i) (fun _ h=>h) kg (fun i h=>h) (fun i j _ _ h=>by subst h;exact .refl _);refine⟨c,g,h1,h2,fun i j hi hj=>⟨h3 i j hi hj,fun h=>?_⟩⟩;clear hi hj
 induction h with
 |refl=>rfl
 |step _ e ih=>
  rw[ih];rcases e with⟨p,hp,e1,e2⟩|⟨p,hp,e1,e2⟩
  ·exact h5 p hp _ _ e1 e2
  ·exact(h5 p hp _ _ e1 e2).symm
theorem gW{P:Nat->Prop}:∀n,P n->∃m,P m/\∀k,P k->m<=k:=by
 intro n
 induction n using Nat.strongRecOn with
 |ind n ih=>
  intro h;by_cases g:∃k,k<n/\P k
  ·obtain⟨k,h1,h2⟩:=g;exact ih k h1 h2
  ·exact⟨n,h,fun k hk=>by
    by_cases e:n<=k
    ·exact e
    ·exact absurd ⟨k,by omega,hk⟩ g⟩
theorem om(E:Nat->Nat->Prop):∃low:Nat->Nat,(∀i,Con E i (low i))/\(∀i j,Con E i j->low i<=j)/\∀i j,Con E i j->low i=low j:=by
 have h:∀i,∃m,Con E i m/\∀k,Con E i k->m<=k:=fun i=>gW i (.refl i);refine⟨fun i=>Classical.choose (h i),fun i=>(Classical.choose_spec (h i)).1,fun i j=>(Classical.choose_spec (h i)).2 j,fun i j hij=>?_⟩;have a:=Classical.choose_spec (h i);have b:=Classical.choose_spec (h j);exact Nat.le_antisymm (a.2 _ (hij.trans b.1)) (b.2 _ (hij.symm.trans a.1))
def Rv(f:Nat->Nat)(a b:Nat):Nat:=if f b<f a then f b else f a
def Ki(f:Nat->Nat)(a b:Nat):Nat->Nat:=fun n=>if n=b then Rv f a b else if n=a then Rv f a b else f n
def KE:List (Ar 2 Int)->(Nat->Nat)->(Nat->Nat)
 |[],f=>f
 |p::l,f=>KE l (Ki f (fs p).toNat (sn p).toNat)
def Vz(l:List (Ar 2 Int)):Nat->(Nat->Nat)->(Nat->Nat)
 |0,f=>f
 |n+1,f=>Vz l n (KE l f)
theorem ZP(f:Nat->Nat)(a b:Nat):(Rv f a b=f a/\f a<=f b)\/(Rv f a b=f b/\f b<=f a):=by
 unfold Rv;split<;>omega
section
variable {x:Bk}{low:Nat->Nat}
def V3(x:Bk)(f:Nat->Nat):Prop:=∀i,i<101->Con (Ed x) i (f i)
theorem QE(hv:VB x){p:Ar 2 Int}(hp:p∈x.v):∃i j:Nat,fs p=(i:Int)/\sn p=(j:Int)/\(fs p).toNat=i/\(sn p).toNat=j/\i<101/\j<101/\Ed x i j:=by
 obtain⟨h1,h2⟩:=hv.ws p hp;obtain⟨i,hi,_,hi1⟩:=Pj h1;obtain⟨j,hj,_,hj1⟩:=Pj h2;exact⟨i,j,hi,hj,by omega,by omega,hi1,hj1,p,hp,hi,hj⟩
theorem gX{f:Nat->Nat}(h:V3 x f){i j:Nat}(hi:i<101)(hj:j<101)(hE:Ed x i j):V3 x (Ki f i j):=by
 have hij:Con (Ed x) i j:=.step (.refl _) (.inl hE);intro n hn;unfold Ki;rcases ZP f i j with⟨e,_⟩|⟨e,_⟩<;>rw[e]
 ·by_cases e1:n=j
  ·rw[if_pos e1];subst e1;exact hij.symm.trans (h i hi)
  ·rw[if_neg e1]
   by_cases e2:n=i
   ·rw[if_pos e2];subst e2;exact h _ hi
   ·rw[if_neg e2];exact h n hn
 ·by_cases e1:n=j
  ·rw[if_pos e1];subst e1;exact h _ hj
  ·rw[if_neg e1]
   by_cases e2:n=i
   ·rw[if_pos e2];subst e2;exact hij.trans (h j hj)
   ·rw[if_neg e2];exact h n hn
theorem Ql(hl:∀i j,Con (Ed x) i j->low i<=j)(he:∀i j,Con (Ed x) i j->low i=low j){f:Nat->Nat}(h:V3 x f){i j:Nat}(hi:i<101)(hj:j<101)(hE:Ed x i j)(hd:f i=low i\/f j=low j):Rv f i j=low i/\Rv f i j=low j:=by
 have hij:Con (Ed x) i j:=.step (.refl _) (.inl hE);have a:=hl i (f i) (h i hi);have b:=hl j (f j) (h j hj);have c:=he i j hij;rcases ZP f i j with⟨e,_⟩|⟨e,_⟩<;>omega
theorem bX(hv:VB x)(hl:∀i j,Con (Ed x) i j->low i<=j)(he:∀i j,Con (Ed x) i j->low i=low j):∀(l:List (Ar 2 Int))(f:Nat->Nat),(∀p∈l,p∈x.v)->V3 x f->
  V3 x (KE l f)/\(∀i,i<101->f i=low i->KE l f i=low i)/\∀p∈l,∀i j:Nat,fs p=(i:Int)->sn p=(j:Int)->(f i=low i\/f j=low j)->KE l f i=low i/\KE l f j=low j
 |[],f,_,h=>⟨h,fun _ _ h=>h,fun p hp=>by cases hp⟩
 |p::l,f,hm,h=>by
  obtain⟨i,j,e1,e2,e3,e4,hi,hj,hE⟩:=QE hv (hm p (List.mem_cons_self ..));have h':=gX h hi hj hE;have keep:∀n,n<101->f n=low n->Ki f i j n=low n:=fun n hn e=>by
   unfold Ki;by_cases c1:n=j
   ·rw[if_pos c1];subst c1;exact(Ql hl he h hi hj hE (.inr e)).2
   ·rw[if_neg c1]
    by_cases c2:n=i
    ·rw[if_pos c2];subst c2;exact(Ql hl he h hi hj hE (.inl e)).1
    ·rw[if_neg c2];exact e
  obtain⟨g1,g2,g3⟩:=bX hv hl he l (Ki f i j) (fun q hq=>hm q (List.mem_cons_of_mem _ hq)) h';have er:KE (p::l) f=KE l (Ki f i j):=by unfold KE;rw[e3,e4];cases l<;>rfl
  rw[er];refine⟨g1,fun n hn e=>g2 n hn (keep n hn e),fun q hq a b ha hb hd=>?_⟩;rcases List.mem_cons.1 hq with rfl|hq
  ·have:a=i:=by omega
   have:b=j:=by omega
   subst a b;have d:=Ql hl he h hi hj hE hd;refine⟨g2 i hi ?_,g2 j hj ?_⟩
   ·unfold Ki
    by_cases c1:i=j
    ·rw[if_pos c1];exact d.1
    ·rw[if_neg c1,if_pos rfl];exact d.1
   ·unfold Ki;rw[if_pos rfl];exact d.2
  ·obtain⟨i',j',f1,f2,_,_,hi',hj',_⟩:=QE hv (hm q (List.mem_cons_of_mem _ hq))
   have:a=i':=by omega
   have:b=j':=by omega
   subst a b;exact g3 q hq _ _ f1 f2 (hd.imp (keep _ hi') (keep _ hj'))
def nd(x:Bk)(low f:Nat->Nat):List (Ar 2 Int):=x.v.filter fun p=>!(decide (f (fs p).toNat=low (fs p).toNat)&&decide (f (sn p).toNat=low (sn p).toNat))
theorem bZ{α:Type}{l:List α}{p q:α->Bool}(h:∀a∈l,q a=true->p a=true){b:α}(hb:b∈l)(h1:p b=true)(h2:q b=false):(l.filter q).length<(l.filter p).length:=by
 induction l with
 |nil=>cases hb
 |cons a l ih=>
  have hle:∀(l:List α),(∀a∈l,q a=true->p a=true)->(l.filter q).length<=(l.filter p).length:=by
   intro l
   induction l with
   |nil=>intro _;exact Nat.le_refl _
   |cons a l ih=>
    intro h;have:=ih fun c hc=>h c (List.mem_cons_of_mem _ hc);have h':=h a (List.mem_cons_self ..);cases hq:q a<;>cases hp:p a<;>simp_all;omega
  rcases List.mem_cons.1 hb with rfl|hb
  ·have:=hle l fun c hc=>h c (List.mem_cons_of_mem _ hc)
   simp[h1,h2];omega
  ·have:=ih (fun c hc=>h c (List.mem_cons_of_mem _ hc)) hb
   have h':=h a (List.mem_cons_self ..);cases hq:q a<;>cases hp:p a<;>simp_all;omega
def ZQ(low f:Nat->Nat):Prop:=∀i,i<101->f i=low i
theorem oo(hv:VB x){i j:Nat}(h:Con (Ed x) i j)(hi:i<101):j<101:=by
 cases h with
 |refl=>exact hi
 |step _ e=>
  rcases e with⟨p,hp,e1,e2⟩|⟨p,hp,e1,e2⟩<;>obtain⟨a,b,f1,f2,_,_,h1,h2,_⟩:=QE hv hp<;>omega
theorem Xd(hv:VB x)(hc:∀i,Con (Ed x) i (low i))(hl:∀i j,Con (Ed x) i j->low i<=j)(he:∀i j,Con (Ed x) i j->low i=low j){f:Nat->Nat}(h:V3 x f)
  (hf:∀i,i<101->f i<=i)
  (hs:∀p∈x.v,∀i j:Nat,fs p=(i:Int)->sn p=(j:Int)->(f i=low i\/f j=low j)->f i=low i/\f j=low j):ZQ low f:=by
 intro i hi;have hb:low i<101:=oo hv (hc i) hi;have h0:f (low i)=low (low i):=by
  have a:=hf _ hb;have b:=hl (low i) _ (h _ hb);have c:=he i _ (hc i);omega
 have key:∀j,Con (Ed x) (low i) j->f j=low j:=by
  intro j hj
  induction hj with
  |refl=>exact h0
  |step _ e ih=>
   rcases e with⟨p,hp,e1,e2⟩|⟨p,hp,e1,e2⟩
   ·exact(hs p hp _ _ e1 e2 (.inl ih)).2
   ·exact(hs p hp _ _ e1 e2 (.inr ih)).1
 exact key i (hc i).symm
theorem ko{f:Nat->Nat}(i j:Nat):∀n,Ki f i j n<=f n:=by
 intro n;unfold Ki;rcases ZP f i j with⟨e,_⟩|⟨e,_⟩<;>rw[e]<;>split<;>(try split)<;>subst_vars<;>omega
theorem bg:∀(l:List (Ar 2 Int))(f:Nat->Nat)(n:Nat),KE l f n<=f n
 |[],f,n=>Nat.le_refl _
 |p::l,f,n=>by
  have:=bg l (Ki f (fs p).toNat (sn p).toNat) n;have:=ko (f:=f) (fs p).toNat (sn p).toNat n;have e:KE (p::l) f=KE l (Ki f (fs p).toNat (sn p).toNat):=by unfold KE;cases l<;>rfl
  rw[e];omega
theorem Pk(hv:VB x)(hc:∀i,Con (Ed x) i (low i))(hl:∀i j,Con (Ed x) i j->low i<=j)(he:∀i j,Con (Ed x) i j->low i=low j):∀(n:Nat)(f:Nat->Nat),V3 x f->(∀i,i<101->f i<=i)->(nd x low f).length<=n->ZQ low (Vz x.v n f)
 |0,f,h,hf,hn=>by
  show ZQ low f;refine Xd hv hc hl he h hf fun p hp i j e1 e2 _=>?_;have h0:nd x low f=[]:=List.eq_nil_of_length_eq_zero (by omega);have:=List.filter_eq_nil_iff.1 h0 p hp;rw[e1,e2]at this;simpa using this
 |n+1,f,h,hf,hn=>by
  show ZQ low (Vz x.v n (KE x.v f));obtain⟨g1,g2,g3⟩:=bX hv hl he x.v f (fun _ h=>h) h;have hf':∀i,i<101->KE x.v f i<=i:=fun i hi=>Nat.le_trans (bg _ _ _) (hf i hi);by_cases hs:∀p∈x.v,∀i j:Nat,fs p=(i:Int)->sn p=(j:Int)->(f i=low i\/f j=low j)->f i=low i/\f j=low j
  ·have hd:=Xd hv hc hl he h hf hs
   have hz:nd x low (KE x.v f)=[]:=by
    refine List.filter_eq_nil_iff.2 fun p hp=>?_;obtain⟨i,j,e1,e2,e3,e4,hi,hj,_⟩:=QE hv hp;rw[e3,e4,g2 i hi (hd i hi),g2 j hj (hd j hj)];simp
   exact Pk hv hc hl he n _ g1 hf' (by rw[hz];simp)
  ·refine Pk hv hc hl he n _ g1 hf' ?_
   have:∃p∈x.v,∃i j:Nat,fs p=(i:Int)/\sn p=(j:Int)/\(f i=low i\/f j=low j)/\¬(f i=low i/\f j=low j):=by
    refine Classical.byContradiction fun hno=>hs fun p hp i j e1 e2 e3=>Classical.byContradiction fun e4=>hno ⟨p,hp,i,j,e1,e2,e3,e4⟩
   obtain⟨p,hp,i,j,e1,e2,e3,e4⟩:=this;have:=bZ (l:=x.v) (p:=fun p=>!(decide (f (fs p).toNat=low (fs p).toNat)&&decide (f (sn p).toNat=low (sn p).toNat))) (q:=fun p=>!(decide (KE x.v f (fs p).toNat=low (fs p).toNat)&&decide (KE x.v f (sn p).toNat=low (sn p).toNat)))
    (fun q hq hh=>by
     obtain⟨a,b,f1,f2,f3,f4,ha,hb,_⟩:=QE hv hq;rw[f3,f4]at hh⊢;by_cases d:f a=low a/\f b=low b
     ·rw[g2 a ha d.1,g2 b hb d.2]at hh;simp at hh
     ·simp only[Bool.not_eq_true',Bool.and_eq_false_iff,decide_eq_false_iff_not]
      by_cases d1:f a=low a
      ·exact .inr fun d2=>d ⟨d1,d2⟩
      ·exact .inl d1) hp (by
     rw[e1,e2];simp only[Int.toNat_natCast,Bool.not_eq_true',Bool.and_eq_false_iff,decide_eq_false_iff_not];by_cases d1:f i=low i
     ·exact .inr fun d2=>e4 ⟨d1,d2⟩
     ·exact .inl d1) (by
     have:=g3 p hp i j e1 e2 e3;rw[e1,e2];simp[this.1,this.2])
   show(x.v.filter _).length<=n;have hn':(x.v.filter _).length<=n+1:=hn;omega
end
theorem uT{F:Nat}:∀(m k:Nat),k<=101->101-k<m->EA F m ((List.range k).map fun i=>((i:Nat):Int)) (k:Int)=some (tl fun i=>i)
 |0,k,_,h=>by omega
 |m+1,k,hk,h=>by
  unfold EA;by_cases hlt:k<101
  ·rw[if_pos (by simp;omega),Fu (by simp;omega)]
   simp only[Ab,AJ];rw[Ap (by omega),<-uT (F:=F) m (k+1) (by omega) (by omega)];simp[List.range_succ]
  ·rw[if_neg (by simp;omega),show k=101 by omega];rfl
theorem uU{F:Nat}{x:Bk}(hv:VB x):∀(m k:Nat)(f:Nat->Nat),k<=x.v.length->x.v.length-k<m->FK F x m (tl f) (k:Int)=some (tl (KE (x.v.drop k) f))
 |0,k,_,_,h=>by omega
 |m+1,k,f,hk,h=>by
  have hlen:=hv.len;unfold FK;by_cases hlt:k<x.v.length
  ·obtain⟨i,j,e1,e2,e3,e4,hi,hj,_⟩:=QE hv (List.getElem_mem hlt)
   rw[if_pos (by simpa using hlt),A7 hlt];simp only[Ab,AJ];rw[Un,Uo,e1,e2];simp only[AJ];rw[MN hi,MN hj];simp only[AJ];have el:(if(f j:Int)<(f i:Int)then(f j:Int)else(f i:Int))=((Rv f i j:Nat):Int):=by
    unfold Rv;by_cases c:f j<f i
    ·rw[if_pos c,if_pos (by omega)]
    ·rw[if_neg c,if_neg (by omega)]
   rw[el,bW hi,MN hj];simp only[AJ];rw[bW hj,Ap (by omega),List.drop_eq_getElem_cons hlt];have er:KE (x.v[k]::x.v.drop (k+1)) f=KE (x.v.drop (k+1)) (Ki f i j):=by unfold KE;rw[e3,e4];cases x.v.drop (k+1)<;>rfl
   rw[er,<-uU hv m (k+1) (Ki f i j) (by omega) (by omega)]
   rfl
  ·rw[if_neg (by simpa using hlt),List.drop_of_length_le (by omega)];rfl
theorem uV{F:Nat}(hF:1000<F){x:Bk}(hv:VB x):∀(m k:Nat)(f:Nat->Nat),k<=x.v.length->x.v.length-k<m->FL F x m (tl f) (k:Int)=some (tl (Vz x.v (x.v.length-k) f))
 |0,k,_,_,h=>by omega
 |m+1,k,f,hk,h=>by
  have hlen:=hv.len;unfold FL;by_cases hlt:k<x.v.length
  ·rw[if_pos (by simpa using hlt)]
   have:=uU (F:=F) hv F 0 f (by omega) (by omega);rw[show((0:Nat):Int)=0 from rfl,List.drop_zero]at this;rw[this];simp only[Ab,AJ];rw[Ap (by omega),uV hF hv m (k+1) _ (by omega) (by omega),show x.v.length-k=(x.v.length-(k+1))+1 by omega]
   rfl
  ·rw[if_neg (by simpa using hlt),show x.v.length-k=0 by omega];rfl
theorem Xe{F:Nat}(hF:1000<F){x:Bk}(hv:VB x):∃g,JG F x=some (tl g)/\∀i j,i<101->j<101->(g i=g j↔Con (Ed x) i j):=by
 obtain⟨low,hc,hl,he⟩:=om (Ed x);have hlen:=hv.len;refine⟨Vz x.v x.v.length fun i=>i,?_,?_⟩
 ·unfold JG
  have h1:=uT (F:=F) F 0 (by omega) (by omega);have h2:=uV hF hv F 0 (fun i=>i) (by omega) (by omega);rw[show((0:Nat):Int)=0 from rfl]at h1 h2;rw[show EA F F [] 0=_ from h1];simp only[Ab,AJ];rw[h2];rfl
 ·have hd:=Pk hv hc hl he x.v.length (fun i=>i) (fun i _=>.refl i) (fun i _=>Nat.le_refl i) (List.length_filter_le ..)
  intro i j hi hj;rw[hd i hi,hd j hj];refine⟨fun h=>?_,he i j⟩;have:=hc j;rw[<-h]at this;exact(hc i).trans this.symm
end
structure VL(l:List (List Int)):Prop where
 two:2<=l.length
 four:l.length<=4
 len:∀r∈l,r.length<=8
 ws:∀r∈l,∀n∈r,wd n=true
theorem oq(n:Int):Im n=some (wd n):=rfl
theorem uW{F:Nat}(hF:1000<F){l:List Int}(hl:l.length<=100):JN F l=some (l.all wd):=by
 unfold JN;rw[kU (f:=fun y=>KV y) (p:=fun n=>decide (n<1)||decide (100<n)) (fun x _=>rfl) (by omega) (by omega)];simp only[Ab,AJ];exact congrArg some (kV l)
theorem uX{F:Nat}{x:Bk}(hl:x.v.length<=1000):∀(m k:Nat),k<=x.v.length->x.v.length-k<m->
  D9 F x m (k:Int)=some (if((x.v.drop k).all fun p=>wd (fs p)&&wd (sn p))=true then .inr ()else .inl 2)
 |0,k,_,h=>by omega
 |m+1,k,hk,h=>by
  unfold D9;by_cases hlt:k<x.v.length
  ·rw[if_pos (by simpa using hlt),A7 hlt,List.drop_eq_getElem_cons hlt,List.all_cons]
   simp only[Ab,AJ];rw[Un,Uo];simp only[AJ,oq];cases h1:wd (fs x.v[k])with
   |false=>simp
   |true=>
    cases h2:wd (sn x.v[k])with
    |false=>simp
    |true=>
     simp only[Bool.not_true,Bool.false_eq_true,if_false,AJ,Bool.true_and];rw[Ap (by omega),uX hl m (k+1) (by omega) (by omega)]
  ·rw[if_neg (by simpa using hlt),List.drop_of_length_le (by omega)];rfl
def QX(x:Bk):Int:=if 40<x.v.length then 6 else if(x.v.all fun p=>wd (fs p)&&wd (sn p))=true then 0 else 2
theorem bn{x:Bk}:QX x=0↔VB x:=by
 unfold QX;by_cases h:40<x.v.length
 ·rw[if_pos h];exact⟨fun h=>by(cases h),fun g=>by(have:=g.len;omega)⟩
 ·rw[if_neg h]
  cases h1:x.v.all fun p=>wd (fs p)&&wd (sn p)with
  |true=>
   refine⟨fun _=>⟨by omega,fun p hp=>?_⟩,fun _=>rfl⟩;have:=List.all_eq_true.1 h1 p hp;simpa using this
  |false=>
   refine⟨fun h=>by(cases h),fun g=>?_⟩;have:(x.v.all fun p=>wd (fs p)&&wd (sn p))=true:=List.all_eq_true.2 fun p hp=>by rw[(g.ws p hp).1,(g.ws p hp).2];rfl
   rw[this]at h1;cases h1
theorem ou{F:Nat}(hF:1000<F)(x:Bk):Gh F x=some (QX x):=by
 unfold Gh QX;by_cases h:40<x.v.length
 ·rw[if_pos h,if_pos (by simp;omega)]
 ·rw[if_neg h,if_neg (by simp;omega)]
  have:=uX (F:=F) (x:=x) (by omega) F 0 (by omega) (by omega);rw[show((0:Nat):Int)=0 from rfl,List.drop_zero]at this;rw[this];cases x.v.all fun p=>wd (fs p)&&wd (sn p)<;>rfl
theorem uY{F:Nat}(hF:1000<F){x:Bk}(hv:VB x):∀(m k:Nat),k<=x.v.length->x.v.length-k<m->Dk F x m (k:Int)=some (.inr ())
 |0,k,_,h=>by omega
 |m+1,k,hk,h=>by
  have hlen:=hv.len;unfold Dk;by_cases hlt:k<x.v.length
  ·obtain⟨h1,h2⟩:=hv.ws _ (List.getElem_mem hlt)
   rw[if_pos (by simpa using hlt),A7 hlt];simp only[Ab,AJ];rw[Un,Uo];simp only[AJ];rw[uW hF (by simp)];simp only[AJ,List.all_cons,h1,h2,List.all_nil,Bool.and_self,Bool.not_true,Bool.false_eq_true,if_false];rw[Ap (by omega),uY hF hv m (k+1) (by omega) (by omega)]
  ·rw[if_neg (by simpa using hlt)]
theorem ow{F:Nat}(hF:1000<F){x:Bk}(hv:VB x):Il F x=some 0:=by
 have hlen:=hv.len;unfold Il;rw[if_neg (by simp;omega)];have:=uY hF hv F 0 (by omega) (by omega);rw[show Dk F x F 0=_ from this]
 rfl
theorem Ty{l:List (List Int)}{f:List Int->Option Bool}(F:Nat):∀m k,Cc F l f m k=Jt l f m k
 |0,_=>rfl
 |m+1,k=>by unfold Cc Jt;simp only[Ty F m]
theorem Tz{l:List (List Int)}{f:List Int->Option Bool}(hf:∀x∈l,f x=some false){F:Nat}(hF:l.length<F)(hl:l.length<4611686018427387904):DK F l f=some false:=by
 obtain⟨r,h1,_,h3⟩:=NE (p:=fun _=>false) hf hl F 0 (by omega) (by omega);have e:r=.inr ():=h3 (by simp);subst e;unfold DK Gg;rw[Ty,show(0:Int)=((0:Nat):Int)from rfl,h1]
 rfl
theorem oz{F:Nat}(hF:1000<F){x:Bk}(hv:VB x){l:List (List Int)}(h:VL l):H9 F x l=some 0:=by
 have h2:=h.two;have h4:=h.four;unfold H9;rw[show(⟨x.v⟩:Bk)=x from rfl,ow hF hv];simp only[Ab,AJ];rw[if_neg (by simp),if_neg (by simp only[Bool.or_eq_true,decide_eq_true_eq];omega),Tz (fun r hr=>by
  have:=h.len r hr;unfold Ib;rw[decide_eq_false (by omega)]) (by omega) (by omega)]
 simp only[AJ,Bool.false_eq_true,if_false];rw[Tz (fun r hr=>by
  have:=h.len r hr;unfold Ic;rw[uW hF (by omega),List.all_eq_true.2 (h.ws r hr)];rfl) (by omega) (by omega)]
 rfl
theorem rl1{F:Nat}{l:List (List Int)}(hl:l.length<=1000):∀(m k:Nat),k<=l.length->l.length-k<m->
  Dn F l m (k:Int)=some (if((l.drop k).all fun r=>decide (r.length<=8))=true then .inr ()else .inl 6)
 |0,k,_,h=>by omega
 |m+1,k,hk,h=>by
  unfold Dn;by_cases hlt:k<l.length
  ·rw[if_pos (by simpa using hlt),A7 hlt,List.drop_eq_getElem_cons hlt,List.all_cons]
   simp only[Ab,AJ];by_cases h8:8<l[k].length
   ·rw[if_pos (by simp;omega),decide_eq_false (by omega)];rfl
   ·rw[if_neg (by simp;omega),decide_eq_true (by omega),Ap (by omega),rl1 hl m (k+1) (by omega) (by omega),Bool.true_and]
  ·rw[if_neg (by simpa using hlt),List.drop_of_length_le (by omega)];rfl
theorem uZ{F:Nat}{l:List (List Int)}{y:Nat}(hy:y<l.length)(hl:l[y].length<=1000):∀(m k:Nat),k<=l[y].length->l[y].length-k<m->
  Dp F l (y:Int) m (k:Int)=some (if(l[y].drop k).all wd=true then .inr ()else .inl 2)
 |0,k,_,h=>by omega
 |m+1,k,hk,h=>by
  unfold Dp;rw[A7 hy];simp only[Ab,AJ];by_cases hlt:k<l[y].length
  ·rw[if_pos (by simpa using hlt),A7 hlt,List.drop_eq_getElem_cons hlt,List.all_cons]
   simp only[AJ,oq];cases h1:wd l[y][k]with
   |false=>rfl
   |true=>
    simp only[Bool.not_true,Bool.false_eq_true,if_false,Bool.true_and];rw[Ap (by omega),uZ hy hl m (k+1) (by omega) (by omega)]
  ·rw[if_neg (by simpa using hlt),List.drop_of_length_le (by omega)];rfl
theorem rl2{F:Nat}(hF:1000<F){l:List (List Int)}(hl:l.length<=1000)(h8:∀r∈l,r.length<=8):∀(m k:Nat),k<=l.length->l.length-k<m->
  Dq F l m (k:Int)=some (if((l.drop k).all fun r=>r.all wd)=true then .inr ()else .inl 2)
 |0,k,_,h=>by omega
 |m+1,k,hk,h=>by
  unfold Dq;by_cases hlt:k<l.length
  ·have h8':=h8 _ (List.getElem_mem hlt)
   rw[if_pos (by simpa using hlt)];have:=uZ (F:=F) hlt (by omega) F 0 (by omega) (by omega);rw[show((0:Nat):Int)=0 from rfl,List.drop_zero]at this;rw[this,List.drop_eq_getElem_cons hlt,List.all_cons];simp only[Ab,AJ];cases h1:l[k].all wd with
   |false=>rfl
   |true=>
    simp only[if_true,Bool.true_and];rw[Ap (by omega),rl2 hF hl h8 m (k+1) (by omega) (by omega)]
  ·rw[if_neg (by simpa using hlt),List.drop_of_length_le (by omega)];rfl
def cln(x:Bk)(l:List (List Int)):Int:=
 if QX x≠0 then QX x else if l.length<2\/4<l.length then 6 else if(l.all fun r=>decide (r.length<=8))=true then(if(l.all fun r=>r.all wd)=true then 0 else 2)else 6
theorem pE{x:Bk}{l:List (List Int)}:cln x l=0↔VB x/\VL l:=by
 unfold cln;by_cases h0:QX x=0
 ·rw[if_neg (by simpa using h0)]
  by_cases h1:l.length<2\/4<l.length
  ·rw[if_pos h1];exact⟨fun h=>by(cases h),fun g=>by(have:=g.2.two;have:=g.2.four;omega)⟩
  ·rw[if_neg h1]
   cases h2:l.all fun r=>decide (r.length<=8)with
   |false=>
    rw[if_neg (by simp)];refine⟨fun h=>by(cases h),fun g=>?_⟩;have:(l.all fun r=>decide (r.length<=8))=true:=List.all_eq_true.2 fun r hr=>by simpa using g.2.len r hr
    rw[this]at h2;cases h2
   |true=>
    rw[if_pos rfl];cases h3:l.all fun r=>r.all wd with
    |false=>
     rw[if_neg (by simp)];refine⟨fun h=>by(cases h),fun g=>?_⟩;have:(l.all fun r=>r.all wd)=true:=List.all_eq_true.2 fun r hr=>List.all_eq_true.2 (g.2.ws r hr);rw[this]at h3;cases h3
    |true=>
     rw[if_pos rfl];refine⟨fun _=>⟨bn.1 h0,by omega,by omega,fun r hr=>by simpa using List.all_eq_true.1 h2 r hr,fun r hr=>List.all_eq_true.1 (List.all_eq_true.1 h3 r hr)⟩,fun _=>rfl⟩
 ·rw[if_pos h0];exact⟨fun h=>absurd h h0,fun g=>absurd (bn.2 g.1) h0⟩
theorem pF{F:Nat}(hF:1000<F)(x:Bk)(l:List (List Int)):GK F x l=some (cln x l):=by
 unfold GK cln;rw[show(⟨x.v⟩:Bk)=x from rfl,ou hF];simp only[Ab,AJ];by_cases h0:QX x=0
 ·have e:(!decide (QX x=0))=false:=by simp[h0]
  rw[e,if_neg (show¬QX x≠0 from fun h=>h h0)];simp only[Bool.false_eq_true,if_false];by_cases h1:l.length<2\/4<l.length
  ·rw[if_pos h1,if_pos (by simp only[Bool.or_eq_true,decide_eq_true_eq];omega)]
  ·rw[if_neg h1,if_neg (by simp only[Bool.or_eq_true,decide_eq_true_eq];omega)]
   have:=rl1 (F:=F) (l:=l) (by omega) F 0 (by omega) (by omega);rw[show((0:Nat):Int)=0 from rfl,List.drop_zero]at this;rw[this];cases h2:l.all fun r=>decide (r.length<=8)with
   |false=>rfl
   |true=>
    simp only[if_true,AJ];have:=rl2 hF (l:=l) (by omega) (fun r hr=>by simpa using List.all_eq_true.1 h2 r hr) F 0 (by omega) (by omega);rw[show((0:Nat):Int)=0 from rfl,List.drop_zero]at this;rw[this];cases l.all fun r=>r.all wd<;>rfl
 ·rw[if_pos (by simpa using h0),if_pos h0]
abbrev Tp:=Nat->Nat
def upd(f:Tp)(j i:Nat):Tp:=fun n=>if n=j then i else f n
def ln(l:List (List Int))(j:Nat):Nat:=(l.getD j []).length
def He(l:List (List Int)):Nat->List Tp
 |0=>[fun _=>0]
 |j+1=>(He l j).flatMap fun t=>(List.range (ln l j)).map (upd t j)
theorem Kr{l:List (List Int)}:∀(j:Nat)(f:Tp),f∈He l j->(∀i,i<j->f i<ln l i)/\∀i,j<=i->f i=0
 |0,f,h=>by
  rw[He,List.mem_singleton]at h;subst h;exact⟨fun i h=>by omega,fun _ _=>rfl⟩
 |j+1,f,h=>by
  rw[He,List.mem_flatMap]at h;obtain⟨t,ht,h⟩:=h;obtain⟨i,hi,rfl⟩:=List.mem_map.1 h;obtain⟨a,b⟩:=Kr j t ht;rw[List.mem_range]at hi;refine⟨fun n hn=>?_,fun n hn=>?_⟩
  ·unfold upd;by_cases e:n=j
   ·rw[if_pos e];subst e;exact hi
   ·rw[if_neg e];exact a n (by omega)
  ·unfold upd;rw[if_neg (by omega)];exact b n (by omega)
theorem Xf{l:List (List Int)}:∀(j i:Nat),i<j->ln l i=0->He l j=[]
 |0,i,h,_=>by omega
 |j+1,i,h,h0=>by
  rw[He];by_cases e:i=j
  ·subst e;rw[h0];simp
  ·rw[Xf j i (by omega) h0];rfl
theorem Xg{l:List (List Int)}{q:Nat}(hq:∀i,ln l i<=q):∀j,(He l j).length<=q^j
 |0=>by simp[He]
 |j+1=>by
  rw[He,List.length_flatMap];have:∀(L:List Tp),(L.map fun t=>((List.range (ln l j)).map (upd t j)).length).sum<=L.length*q:=by
   intro L
   induction L with
   |nil=>simp
   |cons a L ih=>simp only[List.map_cons,List.sum_cons,List.length_map,List.length_range,List.length_cons,Nat.succ_mul]at*;have:=hq j;omega
  exact Nat.le_trans (this _) (by rw[Nat.pow_succ];exact Nat.mul_le_mul_right _ (Xg hq j))
theorem UA{l:List (List Int)}:∀j,(He l (j+1)).Pairwise fun f g=>f 0<=g 0
 |0=>by
  rw[He,He];simp only[List.flatMap_cons,List.flatMap_nil,List.append_nil];rw[List.pairwise_map];exact List.pairwise_lt_range.imp fun{a b} h=>by simp[upd];omega
 |j+1=>by
  rw[He];have ih:=UA (l:=l) j;rw[List.pairwise_flatMap];refine⟨fun t _=>?_,ih.imp fun{f g} h a ha b hb=>?_⟩
  ·rw[List.pairwise_map]
   exact List.pairwise_lt_range.imp fun{a b} _=>by simp[upd]
  ·obtain⟨x,_,rfl⟩:=List.mem_map.1 ha
   obtain⟨y,_,rfl⟩:=List.mem_map.1 hb;simpa[upd]using h
def nx(l:List (List Int)):Nat->Tp->Option Tp
 |0,_=>none
 |j+1,f=>if f j+1<ln l j then some (upd f j (f j+1))else nx l j (upd f j 0)
theorem Sj(l:List (List Int))(j:Nat)(f:Tp):nx l (j+1) f=if f j+1<ln l j then some (upd f j (f j+1))else nx l j (upd f j 0):=rfl
inductive Run{α:Type}(nx:α->Option α):α->List α->Prop
 |last {u:α}:nx u=none->Run nx u [u]
 |more {u v:α} {l:List α}:nx u=some v->Run nx v l->Run nx u (u::l)
theorem OC(f:Tp)(j a b:Nat):upd (upd f j a) j b=upd f j b:=by funext n;unfold upd;by_cases e:n=j<;>simp[e]
theorem JD{f:Tp}{j a:Nat}(h:f j=a):upd f j a=f:=by funext n;unfold upd;by_cases e:n=j<;>simp[e,h]
theorem jP{l:List (List Int)}{j:Nat}{t:Tp}(ht:t j=0){T:List Tp}(h0:nx l j t=none->T=[])(h1:∀v,nx l j t=some v->Run (nx l (j+1)) v T):
  ∀(d i:Nat),i+d+1=ln l j->Run (nx l (j+1)) (upd t j i) ((List.range' i (d+1)).map (upd t j)++T)
 |0,i,hd=>by
  have e:nx l (j+1) (upd t j i)=nx l j t:=by
   rw[Sj,if_neg (by simp[upd];omega),OC,JD ht]
  rw[List.range'_one];cases hn:nx l j t with
  |none=>rw[h0 hn];exact .last (e.trans hn)
  |some v=>exact .more (e.trans hn) (h1 v hn)
 |d+1,i,hd=>by
  rw[List.range'_succ];refine .more (v:=upd t j (i+1)) ?_ (jP ht h0 h1 d (i+1) (by omega));rw[Sj,if_pos (by simp[upd];omega),OC];simp[upd]
theorem pG{l:List (List Int)}{j:Nat}(hj:0<ln l j){t:Tp}{L:List Tp}(h:Run (nx l j) t L)(hz:∀u∈L,u j=0):Run (nx l (j+1)) t (L.flatMap fun t=>(List.range (ln l j)).map (upd t j)):=by
 have fl:∀(t:Tp)(T:List Tp),t j=0->(nx l j t=none->T=[])->(∀v,nx l j t=some v->Run (nx l (j+1)) v T)->Run (nx l (j+1)) t ((List.range (ln l j)).map (upd t j)++T):=by
  intro t T ht h0 h1;have:=jP ht h0 h1 (ln l j-1) 0 (by omega);rw[JD ht,show ln l j-1+1=ln l j by omega,<-List.range_eq_range']at this;exact this
 induction h with
 |last hn=>
  have:=fl _ [] (hz _ (List.mem_singleton_self _)) (fun _=>rfl) (fun v hv=>by rw[hn]at hv;cases hv);simpa using this
 |more hn hr ih=>
  rw[List.flatMap_cons];exact fl _ _ (hz _ (List.mem_cons_self ..)) (fun h=>by rw[hn]at h;cases h) (fun v hv=>by
   rw[hn]at hv;cases hv;exact ih fun u hu=>hz u (List.mem_cons_of_mem _ hu))
theorem Xh{l:List (List Int)}:∀j,(∀i,i<j->0<ln l i)->Run (nx l j) (fun _=>0) (He l j)
 |0,_=>.last rfl
 |j+1,h=>pG (h j (by omega)) (Xh j fun i hi=>h i (by omega)) fun u hu=>(Kr j u hu).2 j (by omega)
def pl(f:Tp):Pl:=⟨(List.range 4).map fun i=>(f i:Int),by simp⟩
theorem LC{f:Tp}{i:Nat}(h:i<4):ix (pl f).l (i:Int)=some (f i:Int):=by
 rw[A7 (by simpa[pl]using h)];simp[pl]
theorem Rw{f:Tp}{i v:Nat}(h:i<4):EN (pl f) (i:Int) (v:Int)=pl (upd f i v):=Mi (by
 show(pl f).l.set _ _=_;apply List.ext_getElem?;intro j;rw[List.getElem?_set];simp only[pl,List.length_map,List.length_range,List.getElem?_map,Int.toNat_natCast];by_cases hj:j<4
 ·rw[List.getElem?_range hj]
  by_cases e:i=j
  ·subst e;simp[upd,h]
  ·rw[if_neg e];simp[upd,Ne.symm e]
 ·rw[List.getElem?_eq_none (by simp;omega)]
  rw[if_neg (by omega)];rfl)
theorem Xi:pl (fun _=>0)=Ar.fill 4 0:=Mi rfl
theorem Sk{l:List (List Int)}(hl:l.length<=4)(h8:∀i,ln l i<=1000):∀(j m:Nat)(f:Tp),j<=l.length->j<m->(∀i,i<j->f i<ln l i)->
  ∃r,Kn l m ((j:Int)-1) (pl f)=some r/\(nx l j f=none->r.1<0)/\∀g,nx l j f=some g->∃q x:Nat,r.1=(q:Int)/\ix r.2.l r.1=some (x:Int)/\EN r.2 r.1 (AZ ((x:Int)+1))=pl g
 |_,0,_,_,h,_=>by omega
 |0,m+1,f,_,_,_=>by
  unfold Kn;rw[if_neg (by simp)];exact⟨_,rfl,fun _=>by simp,fun g h=>by cases h⟩
 |j+1,m+1,f,hj,hm,hf=>by
  have hfj:=hf j (by omega);have h8j:=h8 j;have hjl:j<l.length:=by omega
  have eln:ln l j=l[j].length:=by unfold ln;simp[hjl]
  unfold Kn;rw[show((j+1:Nat):Int)-1=(j:Int) by omega,if_pos (by simp),LC (by omega),A7 hjl];simp only[Ab,AJ];rw[Sj];by_cases c:f j+1<ln l j
  ·rw[if_pos c]
   rw[show decide ((f j:Int)=AZ ((l[j].length:Int)-1))=false by rw[BO (by omega)];simp;omega];simp only[Bool.false_eq_true,if_false];refine⟨_,rfl,(fun h=>by cases h),fun g hg=>?_⟩;cases hg;refine⟨j,f j,rfl,LC (by omega),?_⟩;rw[Ap (by omega),Rw (by omega)]
  ·rw[if_neg c]
   rw[show decide ((f j:Int)=AZ ((l[j].length:Int)-1))=true by rw[BO (by omega)];simp;omega];simp only[if_true];have:=Sk hl h8 j m (upd f j 0) (by omega) (by omega) fun i hi=>by unfold upd;rw[if_neg (by omega)];exact hf i (by omega)
   rw[BO (by omega),show(0:Int)=((0:Nat):Int)from rfl,Rw (by omega)];exact this
theorem all_eq{F:Nat}(hF:100000<F){l:List (List Int)}(hl:l.length<=4)(h8:∀i,ln l i<=1000){f:Tp}{L:List Tp}(h:Run (nx l l.length) f L):∀m,(∀u∈L,∀i,i<l.length->u i<ln l i)->L.length<=m->Lf F l m (pl f)=some (L.map pl):=by
 induction h with
 |last hn=>
  intro m hv hm;obtain⟨m,rfl⟩:∃k,m=k+1:=⟨m-1,by simp at hm;omega⟩;obtain⟨r,h1,h2,_⟩:=Sk hl h8 l.length F _ (Nat.le_refl _) (by omega) (hv _ (List.mem_singleton_self _));unfold Lf;rw[BO (by omega),h1];simp only[Ab,AJ];rw[if_pos (by simpa using h2 hn)];rfl
 |more hn hr ih=>
  intro m hv hm;obtain⟨m,rfl⟩:∃k,m=k+1:=⟨m-1,by simp at hm;omega⟩;obtain⟨r,h1,_,h3⟩:=Sk hl h8 l.length F _ (Nat.le_refl _) (by omega) (hv _ (List.mem_cons_self ..));obtain⟨q,y,e1,e2,e3⟩:=h3 _ hn;unfold Lf;rw[BO (by omega),h1];simp only[Ab,AJ];rw[if_neg (by rw[e1];simp),e2];simp only[AJ];rw[e3,ih m (fun u hu=>hv u (List.mem_cons_of_mem _ hu)) (by simpa using hm)]
  rfl
theorem Ur{l:List (List Int)}(h:VL l)(i:Nat):ln l i<=8:=by
 unfold ln;by_cases hi:i<l.length
 ·simp only[List.getD_eq_getElem?_getD,List.getElem?_eq_getElem hi,Option.getD_some];exact h.len _ (List.getElem_mem hi)
 ·simp only[List.getD_eq_getElem?_getD,List.getElem?_eq_none (by omega:l.length<=i),Option.getD_none];simp
theorem Qm{l:List (List Int)}(h:VL l):(He l l.length).length<=4096:=by
 have:=Xg (Ur h) l.length;have h2:8^l.length<=8^4:=Nat.pow_le_pow_right (by omega) h.four;have:(8:Nat)^4=4096:=rfl;omega
theorem bq{F:Nat}(hF:100000<F){l:List (List Int)}(h:VL l):JO F l=some ((He l l.length).map pl):=by
 have h4:=h.four;unfold JO;cases h0:l.any fun r=>r.length==0 with
 |true=>
  rw[if_pos rfl];obtain⟨r,hr,e⟩:=List.any_eq_true.1 h0;obtain⟨i,hi,rfl⟩:=List.mem_iff_getElem.1 hr;rw[Xf l.length i hi (by unfold ln;simp[hi];simpa using e)];rfl
 |false=>
  rw[if_neg (by simp)];have hp:∀i,i<l.length->0<ln l i:=fun i hi=>by
   have:=List.any_eq_false.1 h0 l[i] (List.getElem_mem hi);unfold ln;simp[hi]at this⊢;exact List.length_pos_iff.2 this
  rw[<-Xi];have hl:=Qm h;exact all_eq hF h4 (fun i=>Nat.le_trans (Ur h i) (by omega)) (Xh l.length hp) F (fun u hu=>(Kr _ u hu).1) (by omega)
def I4(l:List (List Int))(h i:Nat):Nat:=((l.getD h []).getD i 0).toNat
def mt(g:Tp)(l:List (List Int))(k:Nat)(f:Tp):Bool:=(List.range k).all fun h=>decide (g (I4 l h (f h))=g (I4 l 0 (f 0)))
theorem Lp{l:List (List Int)}(h:VL l){j i:Nat}(hj:j<l.length)(hi:i<ln l j):ix l[j] (i:Int)=some ((I4 l j i:Nat):Int)/\I4 l j i<101:=by
 have eln:ln l j=l[j].length:=by unfold ln;simp[hj]
 have hi':i<l[j].length:=by omega
 have hw:=h.ws _ (List.getElem_mem hj) _ (List.getElem_mem hi');obtain⟨n,e,_,hn⟩:=Pj hw;have:I4 l j i=n:=by unfold I4;simp[hj,hi',e]
 rw[A7 hi',this,e];exact⟨rfl,hn⟩
theorem kr(g:Tp)(l:List (List Int))(k:Nat)(f:Tp):mt g l (k+1) f=(mt g l k f&&decide (g (I4 l k (f k))=g (I4 l 0 (f 0)))):=by
 unfold mt;rw[List.range_succ,List.all_append];simp
theorem Rx{F:Nat}(hF:1000<F){x:Bk}{l:List (List Int)}(h:VL l){c:G9}{g:Tp}(hc:c.l=tl g){acc:List Pl}{f:Tp}(hf:∀i,i<l.length->f i<ln l i):
  Fz F ((⟨some (x,c)⟩:Ob ((Uno (List (Ar 2 Int)))×(Ar 101 Int))),l,acc) (pl f)=some (mt g l l.length f):=by
 have h2:=h.two;have h4:=h.four;have key:∀(m k:Nat),k<=l.length->l.length-k<m->mt g l k f=true->Df F ((⟨some (x,c)⟩:Ob ((Uno (List (Ar 2 Int)))×(Ar 101 Int))),l,acc) (pl f) m (k:Int)=some (if mt g l l.length f=true then .inr ()else .inl false):=by
  intro m
  induction m with
  |zero=>intro k _ h;omega
  |succ m ih=>
   intro k hk hm hmt;unfold Df;by_cases hlt:k<l.length
   ·have a:=Lp h hlt (hf k hlt)
    have b:=Lp h (j:=0) (by omega) (hf 0 (by omega));rw[if_pos (by simpa using hlt)];simp only;rw[A7 hlt,LC (by omega)];simp only[Ab,AJ];rw[a.1];simp only[AJ];rw[show(0:Int)=((0:Nat):Int)from rfl,A7 (show 0<l.length by omega),LC (by omega)];simp only[AJ];rw[b.1];simp only[AJ,Gi];rw[hc,MN a.2,MN b.2];simp only[Ab,AJ];by_cases e:g (I4 l k (f k))=g (I4 l 0 (f 0))
    ·rw[show(!decide ((g (I4 l k (f k)):Int)=(g (I4 l 0 (f 0)):Int)))=false by simp[e]]
     simp only[Bool.false_eq_true,if_false];rw[Ap (by omega),ih (k+1) (by omega) (by omega) (by rw[kr,hmt,decide_eq_true e];rfl)]
    ·rw[show(!decide ((g (I4 l k (f k)):Int)=(g (I4 l 0 (f 0)):Int)))=true by simp;omega]
     simp only[if_true];rw[if_neg];intro hh;have:=List.all_eq_true.1 hh k (List.mem_range.2 hlt);exact e (by simpa using this)
   ·have:k=l.length:=by omega
    subst this;rw[if_neg (by simp),hmt];rfl
 unfold Fz;have:=key F 0 (by omega) (by omega) rfl;rw[show((0:Nat):Int)=0 from rfl]at this;rw[this];cases mt g l l.length f<;>rfl
theorem Qn{F:Nat}(hF:1000<F){x:Bk}{l:List (List Int)}(h:VL l){c:G9}{g:Tp}(hc:c.l=tl g):∀(L:List Tp)(acc:List Pl),(∀f∈L,∀i,i<l.length->f i<ln l i)->L.length+acc.length<=100000->
  K7 F ⟨some (x,c)⟩ l (L.map pl) acc=some (acc++(L.filter (mt g l l.length)).map pl)
 |[],acc,_,_=>by simp[K7]
 |f::L,acc,hf,hn=>by
  simp only[List.length_cons]at hn;rw[List.map_cons,K7,Rx hF h hc (hf f (List.mem_cons_self ..))];simp only[Ab,AJ];cases hm:mt g l l.length f with
  |true=>
   rw[if_pos rfl,Fu (by simp;omega)];simp only[AJ];rw[Qn hF h hc L _ (fun u hu=>hf u (List.mem_cons_of_mem _ hu)) (by simp;omega),List.filter_cons,if_pos hm];simp
  |false=>
   rw[if_neg (by simp),Qn hF h hc L _ (fun u hu=>hf u (List.mem_cons_of_mem _ hu)) (by omega),List.filter_cons,if_neg (by simp[hm])]
def Mt(g:Tp)(l:List (List Int)):List Tp:=(He l l.length).filter (mt g l l.length)
def Gp(k:Nat)(f:Tp):List Int:=(List.range k).map fun i=>(f i:Int)
theorem Sm(k:Nat)(f:Tp):(Gp k f).length=k:=by simp[Gp]
theorem Pm{k:Nat}{f:Tp}{i:Nat}(h:i<k):ix (Gp k f) (i:Int)=some (f i:Int):=by
 rw[A7 (by rw[Sm];exact h)];simp[Gp]
def cnd(g:Tp)(l:List (List Int))(j:Nat)(f:Tp)(i:Nat):Bool:=decide (g (I4 l j i)=g (I4 l 0 (if j=0 then i else f 0)))
def I5(k:Nat)(f f':Tp):Bool:=(List.range k).all fun h=>decide (f h<f' h)
theorem EU{k:Nat}{f f':Tp}:I5 k f f'=true↔∀h,h<k->f h<f' h:=by
 unfold I5;simp
theorem cB{k:Nat}{f g h:Tp}(a:I5 k f g=true)(b:I5 k g h=true):I5 k f h=true:=by
 rw[EU]at*
 intro i hi;have:=a i hi;have:=b i hi;omega
theorem ku{F:Nat}(hF:1000<F){k:Nat}(hk:k<=1000)(f f':Tp):Jj F (Gp k f) (Gp k f')=some (I5 k f f'):=by
 have key:∀(m i:Nat),i<=k->k-i<m->(∀h,h<i->f h<f' h)->Fj F (Gp k f) (Gp k f') m (i:Int)=some (if I5 k f f'=true then .inr ()else .inl false):=by
  intro m
  induction m with
  |zero=>intro i _ h;omega
  |succ m ih=>
   intro i hi hm hb;unfold Fj;rw[Sm];by_cases hlt:i<k
   ·rw[if_pos (by simpa using hlt),Pm hlt,Pm hlt]
    simp only[Ab,AJ];by_cases e:f i<f' i
    ·rw[if_neg (by simp;omega),Ap (by omega),ih (i+1) (by omega) (by omega) fun h hh=>by
      by_cases e':h=i
      ·subst e';exact e
      ·exact hb h (by omega)]
    ·rw[if_pos (by simp;omega),if_neg (fun h=>e (EU.1 h i hlt))]
   ·rw[if_neg (by simpa using hlt),if_pos (EU.2 fun h hh=>hb h (by omega))]
 unfold Jj;have:=key F 0 (by omega) (by omega) (fun h hh=>by omega);rw[show((0:Nat):Int)=0 from rfl]at this;rw[this];cases I5 k f f'<;>rfl
theorem Sn{F:Nat}(hF:1000<F){d:Ob ((Uno (List (Ar 2 Int)))×(Ar 101 Int))}{l:List (List Int)}{acc:List Pl}(hk:l.length<=4)(f f':Tp):Bg F (d,l,acc) (pl f) (pl f')=some (I5 l.length f f'):=by
 have key:∀(m i:Nat),i<=l.length->l.length-i<m->(∀h,h<i->f h<f' h)->Dr F (d,l,acc) (pl f) (pl f') m (i:Int)=some (if I5 l.length f f'=true then .inr ()else .inl false):=by
  intro m
  induction m with
  |zero=>intro i _ h;omega
  |succ m ih=>
   intro i hi hm hb;unfold Dr;by_cases hlt:i<l.length
   ·rw[if_pos (by simpa using hlt),LC (by omega),LC (by omega)]
    simp only[Ab,AJ];by_cases e:f i<f' i
    ·rw[if_neg (by simp;omega),Ap (by omega),ih (i+1) (by omega) (by omega) fun h hh=>by
      by_cases e':h=i
      ·subst e';exact e
      ·exact hb h (by omega)]
    ·rw[if_pos (by simp;omega),if_neg (fun h=>e (EU.1 h i hlt))]
   ·rw[if_neg (by simpa using hlt),if_pos (EU.2 fun h hh=>hb h (by omega))]
 unfold Bg;have:=key F 0 (by omega) (by omega) (fun h hh=>by omega);rw[show((0:Nat):Int)=0 from rfl]at this;rw[this];cases I5 l.length f f'<;>rfl
theorem JJ{g:Tp}{l:List (List Int)}{f:Tp}(h:f∈Mt g l):(∀i,i<l.length->f i<ln l i)/\(∀i,l.length<=i->f i=0)/\mt g l l.length f=true:=by
 obtain⟨a,b⟩:=List.mem_filter.1 h;exact⟨(Kr _ f a).1,(Kr _ f a).2,b⟩
theorem cK{g:Tp}{l:List (List Int)}(h:VL l):(Mt g l).Pairwise fun a b=>a 0<=b 0:=by
 have h2:=h.two;unfold Mt;obtain⟨k,e⟩:∃k,l.length=k+1:=⟨l.length-1,by omega⟩;have:=UA (l:=l) k;rw[<-e]at this;exact this.sublist List.filter_sublist
section
theorem cO{l:List (List Int)}:∀(j:Nat)(f:Tp),(∀i,i<j->f i<ln l i)->(∀i,j<=i->f i=0)->f∈He l j
 |0,f,_,h=>by rw[He,List.mem_singleton];funext i;exact h i (by omega)
 |j+1,f,h,h0=>by
  rw[He,List.mem_flatMap];refine⟨upd f j 0,cO j _ (fun i hi=>?_) (fun i hi=>?_),List.mem_map.2 ⟨f j,List.mem_range.2 (h j (by omega)),?_⟩⟩
  ·unfold upd;rw[if_neg (by omega)];exact h i (by omega)
  ·unfold upd;by_cases e:i=j
   ·rw[if_pos e]
   ·rw[if_neg e];exact h0 i (by omega)
  ·rw[OC,JD rfl]
theorem jQ{g:Tp}{l:List (List Int)}{f:Tp}(h:∀i,i<l.length->f i<ln l i)(h0:∀i,l.length<=i->f i=0)(hm:mt g l l.length f=true):f∈Mt g l:=
 List.mem_filter.2 ⟨cO _ f h h0,hm⟩
section
variable {g:Tp}{l:List (List Int)}
def Chn(g:Tp)(l:List (List Int))(c:List Tp)(u:Tp):Prop:=c.Pairwise (fun a b=>I5 l.length a b=true)/\∀f∈c,f∈Mt g l/\I5 l.length f u=true
def Mx(g:Tp)(l:List (List Int))(u:Tp)(n:Nat):Prop:=(∃c,Chn g l c u/\c.length=n)/\∀c,Chn g l c u->c.length<=n
theorem Chn.mono{u v:Tp}{c:List Tp}(h:Chn g l c u)(huv:∀f,I5 l.length f u=true->I5 l.length f v=true):Chn g l c v:=⟨h.1,fun f hf=>⟨(h.2 f hf).1,huv f (h.2 f hf).2⟩⟩
theorem Mx.zero{u:Tp}{h:Nat}(hh:h<l.length)(h0:u h=0):Mx g l u 0:=by
 refine⟨⟨[],⟨List.Pairwise.nil,fun f hf=>by cases hf⟩,rfl⟩,fun c hc=>?_⟩;cases c with
 |nil=>exact Nat.le_refl _
 |cons f c=>
  have:=EU.1 (hc.2 f (List.mem_cons_self ..)).2 h hh;omega
theorem OD{α:Type}(c:List α):c=[]\/∃d x,c=d++[x]:=by
 rcases List.eq_nil_or_concat c with h|⟨d,x,h⟩
 ·exact .inl h
 ·exact .inr ⟨d,x,by simpa using h⟩
theorem Chn.snoc{c:List Tp}{x u:Tp}(h:Chn g l (c++[x]) u):Chn g l c x/\x∈Mt g l/\I5 l.length x u=true:=by
 obtain⟨h1,h2⟩:=h;rw[List.pairwise_append]at h1;refine⟨⟨h1.1,fun f hf=>⟨(h2 f (by simp[hf])).1,h1.2.2 f hf x (by simp)⟩⟩,h2 x (by simp)⟩
theorem Chn.add{c:List Tp}{x u:Tp}(h:Chn g l c x)(hx:x∈Mt g l)(hu:I5 l.length x u=true):Chn g l (c++[x]) u:=by
 refine⟨List.pairwise_append.2 ⟨h.1,List.pairwise_singleton ..,fun f hf y hy=>?_⟩,fun f hf=>?_⟩
 ·rw[List.mem_singleton]at hy;subst hy;exact(h.2 f hf).2
 ·rcases List.mem_append.1 hf with hf|hf
  ·exact⟨(h.2 f hf).1,cB (h.2 f hf).2 hu⟩
  ·rw[List.mem_singleton]at hf;subst hf;exact⟨hx,hu⟩
def G5(j:Nat)(u:Tp):Tp:=fun i=>if i<j then u i-1 else u i
theorem Mx.hit{u:Tp}{n:Nat}(hp:∀h,h<l.length->0<u h)(hv:G5 l.length u∈Mt g l)(h:Mx g l (G5 l.length u) n):Mx g l u (n+1):=by
 have hvu:I5 l.length (G5 l.length u) u=true:=EU.2 fun h hh=>by unfold G5;rw[if_pos hh];have:=hp h hh;omega
 refine⟨?_,fun c hc=>?_⟩
 ·obtain⟨⟨c,c1,c2⟩,_⟩:=h
  exact⟨c++[G5 l.length u],c1.add hv hvu,by simp[c2]⟩
 ·rcases OD c with rfl|⟨d,x,rfl⟩
  ·simp
  ·obtain⟨a,b,e⟩:=hc.snoc
   have:=h.2 d (a.mono fun f hf=>EU.2 fun i hi=>by
    have a1:=EU.1 hf i hi;have a2:=EU.1 e i hi;unfold G5;rw[if_pos hi];omega)
   simp;omega
theorem Mx.miss{u:Tp}{n:Nat}(hp:∀h,h<l.length->0<u h)(h0:∀i,l.length<=i->u i=0)(hv:G5 l.length u∉Mt g l)(h2:0<l.length)
  (hx:∃h,h<l.length/\Mx g l (upd u h (u h-1)) n) (hle:∀h,h<l.length->∃m,Mx g l (upd u h (u h-1)) m/\m<=n):Mx g l u n:=by
 refine⟨?_,fun c hc=>?_⟩
 ·obtain⟨h,hh,⟨c,c1,c2⟩,_⟩:=hx
  exact⟨c,c1.mono fun f hf=>EU.2 fun i hi=>by
   have:=EU.1 hf i hi;unfold upd at this;by_cases e:i=h
   ·rw[if_pos e]at this;subst e;omega
   ·rw[if_neg e]at this;exact this,c2⟩
 ·rcases OD c with rfl|⟨d,x,rfl⟩
  ·simp
  ·obtain⟨a,b,e⟩:=hc.snoc
   have:∃h,h<l.length/\x h<u h-1:=by
    refine Classical.byContradiction fun hno=>hv ?_;have:G5 l.length u=x:=by
     funext i
     unfold G5;by_cases hi:i<l.length
     ·rw[if_pos hi]
      have a2:=EU.1 e i hi;have a3:¬x i<u i-1:=fun hh=>hno ⟨i,hi,hh⟩;omega
     ·rw[if_neg hi,h0 i (by omega),(JJ b).2.1 i (by omega)]
    rw[this];exact b
   obtain⟨h,hh,hlt⟩:=this;obtain⟨m,hm,hmn⟩:=hle h hh;have hxu:I5 l.length x (upd u h (u h-1))=true:=EU.2 fun i hi=>by
    unfold upd;by_cases ei:i=h
    ·rw[if_pos ei];subst ei;exact hlt
    ·rw[if_neg ei];exact EU.1 e i hi
   have:=hm.2 _ (a.add b hxu);omega
end
theorem mput_mem{κ ν:Type}[DecidableEq κ]{k:κ}{v:ν}{p:κ×ν}:∀{m:List (κ×ν)},p∈BM m k v->p=(k,v)\/p∈m
 |[],h=>by rw[BM,List.mem_singleton]at h;exact .inl h
 |(a,b)::m,h=>by
  unfold BM at h;by_cases e:a=k
  ·rw[if_pos e]at h
   rcases List.mem_cons.1 h with h|h
   ·exact .inl h
   ·exact .inr (List.mem_cons_of_mem _ h)
  ·rw[if_neg e]at h
   rcases List.mem_cons.1 h with h|h
   ·exact .inr (by rw[h];exact List.mem_cons_self ..)
   ·exact(mput_mem h).imp id (List.mem_cons_of_mem _)
theorem V4{κ ν:Type}[DecidableEq κ]{d:ν}{k:κ}:∀{m:List (κ×ν)},IY m k=true->(k,A8 d m k)∈m
 |[],h=>by cases h
 |(a,b)::m,h=>by
  unfold IY at h;unfold A8;by_cases e:a=k
  ·rw[if_pos e];subst e;exact List.mem_cons_self ..
  ·rw[if_neg e]at h⊢
   exact List.mem_cons_of_mem _ (V4 h)
theorem cZ{k:Nat}(hk:k<=4){f f':Tp}(h:pl f=pl f')(h0:∀i,k<=i->f i=0)(h1:∀i,k<=i->f' i=0):f=f':=by
 funext i
 by_cases hi:i<4
 ·have a:=LC (f:=f) hi
  have b:=LC (f:=f') hi;rw[h,b]at a;simp only[Option.some.injEq]at a;omega
 ·rw[h0 i (by omega),h1 i (by omega)]
def Memo(g:Tp)(l:List (List Int))(m:List (Pl×Int)):Prop:=∀p∈m,∃w n,p.1=pl w/\(∀i,l.length<=i->w i=0)/\p.2=((n:Nat):Int)/\Mx g l w n
theorem Memo.nil{g:Tp}{l:List (List Int)}:Memo g l []:=fun p hp=>by cases hp
theorem pI{f:Tp}(h:∀i,f i<1000):L6 (pl f)=some ():=by
 unfold L6;rw[if_pos];show((pl f).l.all fun n=>(Lit.int .i64 n).wf)=true;refine List.all_eq_true.2 fun n hn=>?_;simp only[pl,List.mem_map]at hn;obtain⟨i,_,rfl⟩:=hn;have:=h i;have h1:IntKind.i64.min=-9223372036854775808:=rfl;have h2:IntKind.i64.max=9223372036854775807:=rfl;simp[Lit.wf,h1,h2];omega
theorem Chn.len{g:Tp}{l:List (List Int)}(h:0<l.length):∀(n:Nat)(c:List Tp)(u:Tp),c.length=n->Chn g l c u->n<=u 0
 |0,_,_,_,_=>Nat.zero_le _
 |n+1,c,u,e,hc=>by
  rcases OD c with rfl|⟨d,x,rfl⟩
  ·cases e
  ·obtain⟨a,b,hu⟩:=hc.snoc
   have:=Chn.len h n d x (by simpa using e) a;have:=EU.1 hu 0 h;omega
theorem Mx.le{g:Tp}{l:List (List Int)}(h:0<l.length){u:Tp}{n:Nat}(hm:Mx g l u n):n<=u 0:=by
 obtain⟨⟨c,c1,c2⟩,_⟩:=hm;exact Chn.len h n c u c2 c1
abbrev uf:=(Ob ((Uno (List (Ar 2 Int)))×(Ar 101 Int)))×(List (List Int))×(List (Ar 4 Int))
theorem pJ{u:Tp}{j:Nat}:upd (G5 j u) j (u j-1)=G5 (j+1) u:=by
 funext i
 unfold upd G5;by_cases e:i=j
 ·subst e;simp
 ·rw[if_neg e]
  by_cases hi:i<j
  ·rw[if_pos hi,if_pos (by omega)]
  ·rw[if_neg hi,if_neg (by omega)]
theorem ug{F:Nat}{d:Ob ((Uno (List (Ar 2 Int)))×(Ar 101 Int))}{l:List (List Int)}{acc:List Pl}(h4:l.length<=4){u:Tp}{mm:List (Pl×Int)}(hu:∀i,u i<1000):∀(m j:Nat),j<=l.length->l.length-j<m->
  ((∀i,j<=i->i<l.length->0<u i)->DC F (d,l,acc) (pl u) mm m (j:Int) (pl (G5 j u))=some (.inr (pl (G5 l.length u))))/\
  ((∃i,j<=i/\i<l.length/\u i=0)->DC F (d,l,acc) (pl u) mm m (j:Int) (pl (G5 j u))=some (.inl (0,mm)))
 |0,j,_,h=>by omega
 |m+1,j,hj,hm=>by
  unfold DC;by_cases hlt:j<l.length
  ·have hd:G5 j u j=u j:=by unfold G5;rw[if_neg (by omega)]
   have huj:=hu j;rw[if_pos (by simpa using hlt),LC (by omega)];simp only[Ab,AJ];by_cases e:u j=0
   ·rw[if_pos (by simpa using e)]
    exact⟨fun h=>by have:=h j (Nat.le_refl _) hlt;omega,fun _=>rfl⟩
   ·rw[if_neg (by simpa using e),LC (by omega),hd]
    simp only[AJ];rw[show AZ ((u j:Int)-1)=((u j-1:Nat):Int) by rw[BO (by omega)];omega,Rw (by omega),pJ,Ap (by omega)];have:=ug (F:=F) (d:=d) (acc:=acc) (mm:=mm) h4 hu m (j+1) (by omega) (by omega);refine⟨fun h=>this.1 fun i hi=>h i (by omega),fun⟨i,h1,h2,h3⟩=>this.2 ⟨i,?_,h2,h3⟩⟩;by_cases ei:i=j
    ·subst ei;exact absurd h3 e
    ·omega
  ·rw[if_neg (by simpa using hlt),show j=l.length by omega]
   exact⟨fun _=>rfl,fun⟨i,h1,h2,_⟩=>by omega⟩
def Okp(l:List (List Int))(u:Tp):Prop:=(∀i,i<l.length->u i<=ln l i)/\∀i,l.length<=i->u i=0
def sm(u:Tp):Nat:=u 0+u 1+u 2+u 3
theorem Okp.lt{l:List (List Int)}(h:VL l){u:Tp}(hu:Okp l u)(i:Nat):u i<1000:=by
 by_cases hi:i<l.length
 ·have:=hu.1 i hi;have:=Ur h i;omega
 ·rw[hu.2 i (by omega)];omega
theorem pK{u:Tp}{i:Nat}(hi:i<4)(h:0<u i):sm (upd u i (u i-1))<sm u:=by
 rcases(by omega:i=0\/i=1\/i=2\/i=3)with rfl|rfl|rfl|rfl<;>simp[sm,upd]<;>omega
theorem pM{u:Tp}{j:Nat}(hj:0<j)(h:0<u 0):sm (G5 j u)<sm u:=by
 have h0:G5 j u 0=u 0-1:=by unfold G5;rw[if_pos hj]
 have hd:∀i,G5 j u i<=u i:=fun i=>by unfold G5;split<;>omega
 have:=hd 1;have:=hd 2;have:=hd 3;unfold sm;omega
def uh(g:Tp)(l:List (List Int))(u:Tp)(r:Option (Int×List (Pl×Int))):Prop:=∃n m',r=some (((n:Nat):Int),m')/\Mx g l u n/\Memo g l m'
theorem pO{F:Nat}{rc:uf->Pl->List (Pl×Int)->Option (Int×List (Pl×Int))}{d:Ob ((Uno (List (Ar 2 Int)))×(Ar 101 Int))}{l:List (List Int)}{acc:List Pl}{g:Tp}(h:VL l){u:Tp}(hu:Okp l u)(hp:∀i,i<l.length->0<u i)
  (hrc:∀i,i<l.length->∀m,Memo g l m->uh g l (upd u i (u i-1)) (rc (d,l,acc) (pl (upd u i (u i-1))) m)):∀(m j a:Nat)(mm:List (Pl×Int)),j<=l.length->l.length-j<m->Memo g l mm->
  (∀i,i<j->∃q,Mx g l (upd u i (u i-1)) q/\q<=a)->((j=0/\a=0)\/∃i,i<j/\Mx g l (upd u i (u i-1)) a)->
  ∃n m',Dt F rc (d,l,acc) (pl u) m (a:Int) (j:Int) mm=some (((n:Nat):Int),m')/\Memo g l m'/\(∀i,i<l.length->∃q,Mx g l (upd u i (u i-1)) q/\q<=n)/\∃i,i<l.length/\Mx g l (upd u i (u i-1)) n
 |0,j,_,_,_,h,_,_,_=>by omega
 |m+1,j,a,mm,hj,hm,hmm,ha,hx=>by
  have h4:=h.four;have h2:=h.two;unfold Dt;by_cases hlt:j<l.length
  ·have huj:=hu.lt h j
   have hpj:=hp j hlt;rw[if_pos (by simpa using hlt),LC (by omega)];simp only[Ab,AJ];rw[show AZ ((u j:Int)-1)=((u j-1:Nat):Int) by rw[BO (by omega)];omega,Rw (by omega)];obtain⟨n,m',e1,e2,e3⟩:=hrc j hlt mm hmm;rw[e1];simp only[AJ,FP];by_cases c:n<a
   ·rw[if_pos (by simpa using c)]
    simp only[AJ];rw[Ap (by omega)];refine pO h hu hp hrc m (j+1) a m' (by omega) (by omega) e3 (fun i hi=>?_) (.inr ?_)
    ·by_cases ei:i=j
     ·subst ei;exact⟨n,e2,by omega⟩
     ·exact ha i (by omega)
    ·rcases hx with⟨_,e⟩|⟨i,hi,e⟩
     ·omega
     ·exact⟨i,by omega,e⟩
   ·rw[if_neg (by simpa using c)]
    simp only[AJ];rw[Ap (by omega)];refine pO h hu hp hrc m (j+1) n m' (by omega) (by omega) e3 (fun i hi=>?_) (.inr ⟨j,by omega,e2⟩);by_cases ei:i=j
    ·subst ei;exact⟨n,e2,by omega⟩
    ·obtain⟨q,hq,hqa⟩:=ha i (by omega);exact⟨q,hq,by omega⟩
  ·have:j=l.length:=by omega
   subst this;rw[if_neg (by simp)];refine⟨a,mm,rfl,hmm,ha,?_⟩;rcases hx with⟨e,_⟩|e
   ·omega
   ·exact e
theorem Qo{F:Nat}(hF:1000<F){x:Bk}{l:List (List Int)}{acc:List Pl}{g:Tp}{c:G9}(h:VL l)(hc:c.l=tl g):∀(mr:Nat)(u:Tp)(m:List (Pl×Int)),Okp l u->sm u<mr->Memo g l m->
  uh g l u (CY F mr ((⟨some (x,c)⟩:Ob ((Uno (List (Ar 2 Int)))×(Ar 101 Int))),l,acc) (pl u) m)
 |0,u,_,_,h,_=>by omega
 |mr+1,u,m,hu,hs,hm=>by
  have h4:=h.four;have h2:=h.two;have hlt:=hu.lt h;unfold CY;by_cases h0:pl u=Ar.fill 4 0
  ·rw[if_pos (by simpa using h0)]
   have:u=fun _=>0:=cZ h4 (h0.trans Xi.symm) hu.2 (fun _ _=>rfl);exact⟨0,m,rfl,Mx.zero (h:=0) (by omega) (by rw[this]),hm⟩
  rw[if_neg (by simpa using h0),pI hlt];simp only[Ab,AJ];by_cases hh:IY m (pl u)=true
  ·rw[if_pos hh]
   obtain⟨w,n,e1,e2,e3,e4⟩:=hm _ (V4 (d:=(0:Int)) hh);have:u=w:=cZ h4 e1 hu.2 e2;subst this;exact⟨n,m,by rw[show A8 0 m (pl u)=(n:Int)from e3],e4,hm⟩
  rw[if_neg hh];have hl1:=ug (F:=F) (d:=⟨some (x,c)⟩) (acc:=acc) (mm:=m) h4 hlt F 0 (by omega) (by omega);have hd0:G5 0 u=u:=by funext i;unfold G5;rw[if_neg (by omega)]
  rw[hd0,show((0:Nat):Int)=0 from rfl]at hl1;by_cases hz:∃i,i<l.length/\u i=0
  ·obtain⟨i,hi,hi0⟩:=hz
   rw[hl1.2 ⟨i,by omega,hi,hi0⟩];exact⟨0,m,rfl,Mx.zero hi hi0,hm⟩
  have hp:∀i,i<l.length->0<u i:=fun i hi=>by
   by_cases e:u i=0
   ·exact absurd ⟨i,hi,e⟩ hz
   ·omega
  rw[hl1.1 fun i _ hi=>hp i hi];simp only[AJ];have hdl:∀i,i<l.length->G5 l.length u i<ln l i:=fun i hi=>by
   have:=hp i hi;have:=hu.1 i hi;unfold G5;rw[if_pos hi];omega
  have hdz:∀i,l.length<=i->G5 l.length u i=0:=fun i hi=>by unfold G5;rw[if_neg (by omega)];exact hu.2 i hi
  rw[Rx hF h hc hdl];simp only[AJ];have put:∀(n:Nat)(m':List (Pl×Int)),Mx g l u n->Memo g l m'->Memo g l (BM m' (pl u) (n:Int)):=fun n m' hn hm' p hpm=>by
   rcases mput_mem hpm with rfl|hpm
   ·exact⟨u,n,rfl,hu.2,rfl,hn⟩
   ·exact hm' p hpm
  cases hmt:mt g l l.length (G5 l.length u)with
  |true=>
   rw[if_pos rfl];obtain⟨n,m',e1,e2,e3⟩:=Qo hF h hc (acc:=acc) mr (G5 l.length u) m ⟨fun i hi=>by have:=hdl i hi;omega,hdz⟩ (by have:=pM (u:=u) (j:=l.length) (by omega) (hp 0 (by omega));omega) hm;have hn:=e2.le (by omega);have:=hu.lt h 0;have hd0:G5 l.length u 0<=u 0:=by unfold G5;split<;>omega
   rw[e1];simp only[AJ];have hx:=Mx.hit hp (jQ hdl hdz hmt) e2;rw[show AZ (1+(n:Int))=((n+1:Nat):Int) by rw[BO (by omega)];omega];exact⟨n+1,_,rfl,hx,put _ _ hx e3⟩
  |false=>
   rw[if_neg (by simp)];obtain⟨n,m',e1,e2,e3,e4⟩:=pO (F:=F) (rc:=CY F mr) (d:=⟨some (x,c)⟩) (acc:=acc) (g:=g) h hu hp (fun i hi m hm=>Qo hF h hc (acc:=acc) mr _ m
    ⟨fun n hn=>by
     unfold upd;by_cases e:n=i
     ·rw[if_pos e];subst e;have:=hu.1 n hn;omega
     ·rw[if_neg e];exact hu.1 n hn,fun n hn=>by
     unfold upd;rw[if_neg (by omega)];exact hu.2 n hn⟩ (by have:=pK (u:=u) (i:=i) (by omega) (hp i hi);omega) hm) F 0 0 m (by omega) (by omega) hm (fun i hi=>by omega) (.inl ⟨rfl,rfl⟩)
   rw[show((0:Nat):Int)=0 from rfl]at e1;rw[e1];simp only[AJ];have hx:=Mx.miss hp hu.2 (fun hh=>by rw[(JJ hh).2.2]at hmt;cases hmt) (by omega) e4 e3;exact⟨n,_,rfl,hx,put _ _ hx e2⟩
def Lv(g:Tp)(l:List (List Int))(L:List Tp)(v:List Int):Prop:=v.length=L.length/\∀(i:Nat)(f:Tp),L[i]?=some f->∃n:Nat,v[i]?=some ((n:Int)+1)/\Mx g l f n
theorem pQ{g:Tp}{l:List (List Int)}(h:VL l):(Mt g l).length<=4096:=Nat.le_trans (List.length_filter_le ..) (Qm h)
theorem dA{F:Nat}(hF:100000<F){x:Bk}{l:List (List Int)}{g:Tp}{c:G9}(h:VL l)(hc:c.l=tl g):∃v,BA F ((⟨some (x,c)⟩:Ob ((Uno (List (Ar 2 Int)))×(Ar 101 Int))),l,(Mt g l).map pl)=some v/\Lv g l (Mt g l) v:=by
 have h2:=h.two;have h4:=h.four;have hn:=pQ (g:=g) h;have key:∀(m k:Nat)(v:List Int)(mm:List (Pl×Int)),k<=(Mt g l).length->(Mt g l).length-k<m->Memo g l mm->Lv g l ((Mt g l).take k) v->
   ∃v' mm',Du F ((⟨some (x,c)⟩:Ob ((Uno (List (Ar 2 Int)))×(Ar 101 Int))),l,(Mt g l).map pl) m v (k:Int) mm=some (v',mm')/\Lv g l (Mt g l) v':=by
  intro m
  induction m with
  |zero=>intro k _ _ _ h;omega
  |succ m ih=>
   intro k v mm hk hm hmm hv;unfold Du;by_cases hlt:k<(Mt g l).length
   ·have hf:=JJ (List.getElem_mem hlt)
    have hok:Okp l (Mt g l)[k]:=⟨fun i hi=>by have:=hf.1 i hi;omega,hf.2.1⟩;rw[if_pos (by simpa using hlt),A7 (by simpa using hlt),List.getElem_map];simp only[Ab,AJ];have hs:sm (Mt g l)[k]<F:=by
     have a:=hok.lt h 0;have b:=hok.lt h 1;have c:=hok.lt h 2;have d:=hok.lt h 3;unfold sm;omega
    obtain⟨n,m',e1,e2,e3⟩:=Qo (F:=F) (by omega) (x:=x) (acc:=(Mt g l).map pl) h hc F _ mm hok hs hmm;rw[show KZ F ((⟨some (x,c)⟩:Ob ((Uno (List (Ar 2 Int)))×(Ar 101 Int))),l,(Mt g l).map pl) (pl (Mt g l)[k]) mm=some ((n:Int),m')from e1];have hvl:=hv.1;rw[List.length_take,Nat.min_eq_left (by omega)]at hvl;have hnn:=e2.le (by omega);have:=hok.lt h 0;simp only[AJ];rw[Fu (by simp;omega)];simp only[AJ];rw[Ap (by omega),show AZ (1+(n:Int))=(n:Int)+1 by rw[BO (by omega)];omega];refine ih (k+1) _ m' (by omega) (by omega) e3 ⟨by simp;omega,fun i f hif=>?_⟩;rw[List.getElem?_take]at hif;by_cases hi:i<k
    ·obtain⟨q,q1,q2⟩:=hv.2 i f (by rw[List.getElem?_take,if_pos hi];rw[if_pos (by omega)]at hif;exact hif)
     exact⟨q,by rw[List.getElem?_append_left (by omega)];exact q1,q2⟩
    ·by_cases hi':i<k+1
     ·have:i=k:=by omega
      subst this;rw[if_pos hi',List.getElem?_eq_getElem hlt]at hif;cases hif;exact⟨n,by rw[List.getElem?_append_right (by omega),hvl];simp,e2⟩
     ·rw[if_neg hi']at hif;cases hif
   ·have:k=(Mt g l).length:=by omega
    subst this;rw[if_neg (by simp)];rw[List.take_length]at hv;exact⟨v,mm,rfl,hv⟩
 obtain⟨v,mm,e,hv⟩:=key F 0 [] [] (by omega) (by omega) Memo.nil ⟨by simp,fun i f hif=>by simp at hif⟩;refine⟨v,?_,hv⟩;unfold BA;rw[show((0:Nat):Int)=0 from rfl]at e;rw[e];rfl
end
section
def Uc(b:Nat->Nat)(c:Nat->Nat->Bool)(i:Nat):Nat:=
 b i+((List.range i).attach.map fun j=>if c j.1 i=true then Uc b c j.1 else 0).sum
termination_by i
decreasing_by exact List.mem_range.1 j.2
def Dc(n:Nat)(b:Nat->Nat)(c:Nat->Nat->Bool)(i:Nat):Nat:=
 b i+((List.range' (i+1) (n-1-i)).attach.map fun j=>if c i j.1=true then Dc n b c j.1 else 0).sum
termination_by n-i
decreasing_by have:=List.mem_range'_1.1 j.2;omega
theorem Ry(b:Nat->Nat)(c:Nat->Nat->Bool)(i:Nat):Uc b c i=b i+((List.range i).map fun j=>if c j i=true then Uc b c j else 0).sum:=by
 rw[Uc]
 congr 2
 exact List.attach_map_val (f:=fun j=>if c j i=true then Uc b c j else 0)
theorem Ni(n:Nat)(b:Nat->Nat)(c:Nat->Nat->Bool)(i:Nat):Dc n b c i=b i+((List.range' (i+1) (n-1-i)).map fun j=>if c i j=true then Dc n b c j else 0).sum:=by
 rw[Dc]
 congr 2
 exact List.attach_map_val (f:=fun j=>if c i j=true then Dc n b c j else 0)
theorem Xj:∀i,((List.range i).map fun j=>2^j).sum+1=2^i
 |0=>rfl
 |i+1=>by rw[List.range_succ,List.map_append,List.sum_append];have:=Xj i;simp;rw[Nat.pow_succ];omega
theorem V6{f g:Nat->Nat}:∀(L:List Nat),(∀j∈L,f j<=g j)->(L.map f).sum<=(L.map g).sum
 |[],_=>Nat.le_refl _
 |a::L,h=>by
  have:=V6 L fun j hj=>h j (List.mem_cons_of_mem _ hj);have:=h a (List.mem_cons_self ..);simp only[List.map_cons,List.sum_cons];omega
theorem jR{b:Nat->Nat}{c:Nat->Nat->Bool}(hb:∀i,b i<=1):∀i,Uc b c i<=2^i:=by
 intro i
 induction i using Nat.strongRecOn with
 |ind i ih=>
  rw[Ry];have:=V6 (f:=fun j=>if c j i=true then Uc b c j else 0) (g:=fun j=>2^j) (List.range i) fun j hj=>by
   have:=ih j (List.mem_range.1 hj);show(if c j i=true then Uc b c j else 0)<=_;split<;>omega
  have:=Xj i;have:=hb i;omega
theorem V7(n:Nat):∀(d i:Nat),i+d+1=n->((List.range' (i+1) d).map fun j=>2^(n-1-j)).sum+1=2^d
 |0,i,_=>rfl
 |d+1,i,h=>by
  rw[List.range'_succ,List.map_cons,List.sum_cons];have:=V7 n d (i+1) (by omega);rw[show n-1-(i+1)=d by omega,Nat.pow_succ];omega
theorem jS{n:Nat}{b:Nat->Nat}{c:Nat->Nat->Bool}(hb:∀i,b i<=1):∀(d i:Nat),i+d+1=n->Dc n b c i<=2^d:=by
 intro d
 induction d using Nat.strongRecOn with
 |ind d ih=>
  intro i hi;rw[Ni];have:=V6 (f:=fun j=>if c i j=true then Dc n b c j else 0) (g:=fun j=>2^(n-1-j)) (List.range' (i+1) (n-1-i)) fun j hj=>by
   have hj:=List.mem_range'_1.1 hj;have:=ih (n-1-j) (by omega) j (by omega);show(if c i j=true then Dc n b c j else 0)<=_;split<;>omega
  have e:=V7 n d i hi;rw[show n-1-i=d by omega]at*
  have:=hb i;omega
theorem QF{f:Nat->Nat}:∀(L:List Nat),0<(L.map f).sum↔∃j∈L,0<f j
 |[]=>by simp
 |a::L=>by
  rw[List.map_cons,List.sum_cons];constructor
  ·intro h
   by_cases e:0<f a
   ·exact⟨a,List.mem_cons_self ..,e⟩
   ·obtain⟨j,hj,h⟩:=(QF (f:=f) L).1 (by omega);exact⟨j,List.mem_cons_of_mem _ hj,h⟩
  ·rintro⟨j,hj,h⟩
   rcases List.mem_cons.1 hj with rfl|hj
   ·omega
   ·have:=(QF (f:=f) L).2 ⟨j,hj,h⟩;omega
structure Dag(n:Nat)(lev:Nat->Nat)(B:Nat->Nat->Bool):Prop where
 lt:∀i j,i<n->j<n->B i j=true->i<j
 one:∀i,i<n->1<=lev i
 up:∀i j,i<n->j<n->B i j=true->lev i<lev j
 dn:∀i,i<n->2<=lev i->∃j,j<n/\B j i=true/\lev j+1=lev i
def ML(M:List Tp)(i:Nat):Tp:=M.getD i fun _=>0
def LV(v:List Int)(i:Nat):Nat:=(v.getD i 0).toNat
section
variable {g:Tp}{l:List (List Int)}{v:List Int}
theorem Fv{M:List Tp}{i:Nat}(h:i<M.length):ML M i=M[i]:=by simp[ML,h]
theorem Lv.get(hv:Lv g l (Mt g l) v){i:Nat}(hi:i<(Mt g l).length):1<=LV v i/\v[i]?=some ((LV v i:Nat):Int)/\Mx g l (ML (Mt g l) i) (LV v i-1):=by
 obtain⟨n,h1,h2⟩:=hv.2 i _ (List.getElem?_eq_getElem hi);have e:LV v i=n+1:=by unfold LV;rw[List.getD_eq_getElem?_getD,h1];simp
 rw[e,h1,Fv hi];exact⟨by omega,by congr 1,h2⟩
theorem pR(h:VL l){i j:Nat}(hi:i<(Mt g l).length)(hj:j<(Mt g l).length)(hb:I5 l.length (ML (Mt g l) i) (ML (Mt g l) j)=true):i<j:=by
 have h2:=h.two;have h0:=EU.1 hb 0 (by omega);rw[Fv hi,Fv hj]at h0;refine Classical.byContradiction fun hno=>?_;by_cases e:i=j
 ·subst e;omega
 ·have:=List.pairwise_iff_getElem.1 (cK (g:=g) h) j i hj hi (by omega)
  omega
theorem Rz(h:VL l)(hv:Lv g l (Mt g l) v):Dag (Mt g l).length (LV v) (fun i j=>I5 l.length (ML (Mt g l) i) (ML (Mt g l) j)):=by
 have up:∀i j,i<(Mt g l).length->j<(Mt g l).length->I5 l.length (ML (Mt g l) i) (ML (Mt g l) j)=true->LV v i<LV v j:=by
  intro i j hi hj hb;obtain⟨a1,_,⟨c,c1,c2⟩,_⟩:=hv.get hi;obtain⟨b1,_,b3⟩:=hv.get hj;have:=b3.2 _ (c1.add (by rw[Fv hi];exact List.getElem_mem hi) hb);rw[List.length_append]at this;simp at this;omega
 refine⟨fun i j hi hj hb=>pR h hi hj hb,fun i hi=>(hv.get hi).1,up,fun i hi h2=>?_⟩;obtain⟨a1,_,⟨c,c1,c2⟩,_⟩:=hv.get hi;rcases OD c with rfl|⟨d,x,rfl⟩
 ·simp at c2;omega
 ·obtain⟨e1,e2,e3⟩:=c1.snoc
  obtain⟨j,hj,e⟩:=List.mem_iff_getElem.1 e2;have ex:ML (Mt g l) j=x:=by rw[Fv hj];exact e
  obtain⟨b1,_,b3⟩:=hv.get hj;rw[ex]at b3;have b4:=b3.2 d e1;have b5:=up j i hj hi (by rw[ex];exact e3);rw[List.length_append]at c2;simp at c2;exact⟨j,hj,by show I5 l.length (ML (Mt g l) j) _=true;rw[ex];exact e3,by omega⟩
end
section
variable {n:Nat}{lev:Nat->Nat}{B:Nat->Nat->Bool}
def FM(lev:Nat->Nat)(B:Nat->Nat->Bool)(i j:Nat):Bool:=decide (lev i+1=lev j)&&B i j
def Ga(top:Nat)(lev:Nat->Nat)(i:Nat):Nat:=if lev i=top then 1 else 0
theorem QG(top:Nat)(lev:Nat->Nat)(i:Nat):Ga top lev i<=1:=by unfold Ga;split<;>omega
def Dw(n top:Nat)(lev:Nat->Nat)(B:Nat->Nat->Bool):Nat->Nat:=Dc n (Ga top lev) (FM lev B)
def Uw(lev:Nat->Nat)(B:Nat->Nat->Bool):Nat->Nat:=Uc (Ga 1 lev) (FM lev B)
theorem pU{top i:Nat}(h:lev i=top):0<Dw n top lev B i:=by
 unfold Dw;rw[Ni];have:Ga top lev i=1:=by unfold Ga;rw[if_pos h]
 omega
theorem kz(hd:Dag n lev B){top i j:Nat}(hi:i<n)(hj:j<n)(hc:FM lev B i j=true)(h:0<Dw n top lev B j):0<Dw n top lev B i:=by
 unfold Dw at h⊢;rw[Ni];have hb:B i j=true:=by unfold FM at hc;simp at hc;exact hc.2
 have:=hd.lt i j hi hj hb;have:=(QF (f:=fun j=>if FM lev B i j=true then Dc n (Ga top lev) (FM lev B) j else 0) (List.range' (i+1) (n-1-i))).2 ⟨j,List.mem_range'_1.2 (by omega),by
  show 0<if FM lev B i j=true then _ else _
  rw[if_pos hc];exact h⟩
 omega
theorem tT{top i:Nat}(h:0<Dw n top lev B i):lev i=top\/∃j,i<j/\j<n/\FM lev B i j=true/\0<Dw n top lev B j:=by
 unfold Dw at h;rw[Ni]at h;by_cases e:lev i=top
 ·exact .inl e
 ·have:Ga top lev i=0:=by unfold Ga;rw[if_neg e]
  obtain⟨j,hj,hp⟩:=(QF (f:=fun j=>if FM lev B i j=true then Dc n (Ga top lev) (FM lev B) j else 0) (List.range' (i+1) (n-1-i))).1 (by omega);have hj:=List.mem_range'_1.1 hj;by_cases hc:FM lev B i j=true
  ·simp only[if_pos hc]at hp;exact .inr ⟨j,by omega,by omega,hc,hp⟩
  ·simp only[if_neg hc]at hp;omega
theorem V8(hd:Dag n lev B){top:Nat}:∀(q i:Nat),lev i=q+1->i<n->0<Dw n top lev B i->∃j,j<n/\lev j=1/\0<Dw n top lev B j
 |0,i,e,hi,h=>⟨i,hi,by omega,h⟩
 |q+1,i,e,hi,h=>by
  obtain⟨j,hj,hb,hl⟩:=hd.dn i hi (by omega);exact V8 hd q j (by omega) hj (kz hd hj hi (by unfold FM;simp[hl,hb]) h)
end
end
end Wo
end Go.Proofs.YtfmelbioccbdoaaGreat
end
