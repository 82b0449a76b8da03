/-
  Part 8 of 12 of what the last text stands on: lemmas about the model, pure functions, walks, laws in plain Lean; each part's own head says its condition. Merged by a program of our own.
-/
import Derived.Test.YtfmelbioccbdoaaGreatHeardListsQg
import Derived.Scope
import Derived.IntWalk
import Derived.RangeFuncNested
import Derived.Maps.RangeRun
set_option maxHeartbeats 0
set_option linter.all false
section
namespace Go.Proofs.YtfmelbioccbdoaaGreat
open Go Go.Md Go.RowKit
theorem AGz{f:FuncId}(h:∀w,Calls Tryz.prog f #[] w fun e w'=>e=.returned (.bool true)/\Below w.heap.size w w'){w0:World}{r:Bool}(hr:some true=some r):
  Calls Tryz.prog f [].toArray w0 (Gy fun v w'=>v=.bool r/\Ext w0 w'):=by
 cases hr;exact(h w0).mono fun e w' h=>⟨_,h.1,rfl,h.2⟩
def AGX(_:Nat):Option Bool:=some true
theorem AWi{w0:World}{F:Nat}{r:Bool}(hF:AGX F=some r):Calls Tryz.prog 86 [].toArray w0 (Gy fun v w'=>v=.bool r/\Ext w0 w'):=AGz AUr hF
def AGY(_:Nat):Option Bool:=some true
theorem AWj{w0:World}{F:Nat}{r:Bool}(hF:AGY F=some r):Calls Tryz.prog 87 [].toArray w0 (Gy fun v w'=>v=.bool r/\Ext w0 w'):=AGz AU0 hF
def AGZ(_:Nat):Option Bool:=some true
theorem AWk{w0:World}{F:Nat}{r:Bool}(hF:AGZ F=some r):Calls Tryz.prog 88 [].toArray w0 (Gy fun v w'=>v=.bool r/\Ext w0 w'):=AGz AUt hF
def AGa(_:Nat):Option Bool:=some true
theorem AU1{w0:World}{F:Nat}{r:Bool}(hF:AGa F=some r):Calls Tryz.prog 116 [].toArray w0 (Gy fun v w'=>v=.bool r/\Ext w0 w'):=AGz AS1 hF
def AFQ(F:Nat):Option Bool:=
 (AGX F)>>=fun x1=>
 (gd x1 (AGY F) false)>>=fun x2=>
 (gd (x1&&x2) (AGZ F) false)>>=fun x3=>
 some ((x1&&x2)&&x3)
def AHH(x0:(Int×Int))(x1:Int)(x2:Int):Option Bool:=
 some (((decide (x1<=x0.1))&&(decide (x0.1<=x0.2)))&&(decide (x0.2<=x2)))
def vz(F:Nat)(x0:ZTc)(y1:Int):Nat->Int->Option (Sum Int (Unit))
 |0,_=>none
 |m+1,y2=>
  if(decide (y2<2))=true then
   (ix x0.1 y1)>>=fun x2=>
   (ix ([((x2.1.1.1.1,x2.1.1.1.2),x2.1.1.2),((x2.1.2.1.1,x2.1.2.1.2),x2.1.2.2)]:List ((Int×Int)×Int)) y2)>>=fun x3=>
   (AHH (x3.1.1,x3.1.2) 0 1000)>>=fun x4=>
   if(((!x4)||(decide (x3.2<0)))||(decide (100000<x3.2)))=true then
    some (.inl 2)
   else
    vz F x0 y1 m (BA (y2+1))
  else
   some (.inr ())
def ABd(F:Nat)(x0:ZTc):Nat->Int->Option (Sum Int (Unit))
 |0,_=>none
 |m+1,y1=>
  if(decide (y1<(x0.1.length:Int)))=true then
   ((vz F x0 y1 F 0)>>=fun o=>match o with
    |.inl r=>some (.inl r)
    |.inr ()=>
     ABd F x0 m (BA (y1+1)))
  else
   some (.inr ())
def AEJ(x0:(ZTc×(List (Int×Bool))×(Ar 16 (Ar 16 Int))×Opq×Opq))(x1:(Int×Int))(x2:Int):Option (Int×Int):=
 (ix x0.2.1 x2)>>=fun x4=>
 (shl .i64 1 x4.1)>>=fun x5=>
 some (bor .i64 x1.1 x5,x2)
def AB9(x0:Int)(x1:(Int×Int))(x2:(Ob (ZTc×(List (Int×Bool))×(Ar 16 (Ar 16 Int))×Opq×Opq))):Option Bool:=
 (x2.v)>>=fun x4=>
 (ix x4.2.1 x0)>>=fun x5=>
 (shr .i64 x1.1 x5.1)>>=fun x6=>
 some (decide ((band .i64 x6 1)=0))
end Go.Proofs.YtfmelbioccbdoaaGreat
end
section
namespace Go.Proofs.YtfmelbioccbdoaaGreat
open Go Go.Md Go.RowKit
attribute [local irreducible] Go.wpList Go.Code.wp Go.Calls Go.Md.vZ Go.Md.Mt Go.Md.xE Go.Md.uT Go.Code.wpIn



theorem AS2{w0:World}{b0:Nat}{cs0:List Value}{x0:(ZTc×(List (Int×Bool))×(Ar 16 (Ar 16 Int))×Opq×Opq)}(h0:Cs w0 b0 0 cs0)(q0:Enc.rep (fun _=>True) w0 cs0 x0){v1:Value}{x1:(Int×Int)}(r1:RV w0 v1 x1){x2:Int}{r:(Int×Int)}(hF:AEJ x0 x1 x2=some r):
  Calls Tryz.prog 272 [.pointer (some ⟨b0,0,none⟩),v1,.int .i64 x2].toArray w0 (Gy fun v w'=>∃u0:Value,v=u0/\RV w' u0 r/\Ext w0 w'):=by
 unfold AEJ at hF;obtain⟨_,_,rfl,⟨_,_,rfl,⟨a1,cq1,rfl,p1,q4,e1⟩,_,_,rfl,rfl,_,_,rfl,rfl,rfl⟩,_,_,rfl,⟨a2,cq2,rfl,p2,q5,e2⟩,_,_,rfl,rfl,_,_,rfl,⟨a3,rfl,q6⟩,a4,rfl,q7⟩:=q0;have r5:=RV.of1 p2 q5 e2;have hz:=id r1;obtain⟨_,rfl,_,_,rfl,rfl,rfl⟩:=hz;refine Ko (n:=21) Tryz.func272 rfl rfl rfl<|Zr<|xG rfl rfl fun b4 w1 hx1 hg1 hb1=>?_;have h4:=h0.ext hx1;refine zW AFo fun b5 w2 hx2 hg2 hb2=>?_;have k1:=hx1.tr hx2;have hb3:=hb1.ext hx2;have h5:=h4.ext hx2;refine nl<|wp_seq<|wpl [14] (.pure true 0 (.pure false 1 (.pure true 2 (.pure true 3 (.pure true 4 (.pure false 5 (.pure true 6 (.pure true 7 (.pure true 8 (.pure false 9 (.pure true 10 (.pure true 11 (.pure true 12 (.pure true 13 (.eff 14 .fin .stop))))))))))))))) mixed (by kernel_rfl) (fun w3 hx3=>?_);have k2:=k1.tr hx3;have hb4:=hb3.ext hx3;have hb5:=hb2.ext hx3;have h6:=h5.ext hx3;refine Zp rfl (fun _=>BH rfl ALs)<|Zq rfl (fun _ hS=>Ac rfl Ap ((Bx.cs (hb4.ext (hS.resolve_left nofun))).at 0 rfl)) (Ext.refl _)<|Zn rfl<|Zp rfl (fun _=>XB rfl)<|Zp rfl (fun _=>BH rfl AGp)<|Zq rfl (fun _ hS=>Ac rfl AMU ((h6.ext (hS.resolve_left nofun)).at 4 rfl)) (Ext.refl _)<|Zn rfl<|bS hF fun x4 Ex4 hF=>?_;have hz:=(RV.els r5).ix Ex4;obtain⟨b6,f1,cs4,e3,i1,i2,q8,hc1⟩:=hz;cases e3;obtain⟨_,_,rfl,rfl,rfl⟩:=q8;have hc2:=hc1.ext k2;refine Zp rfl (fun _=>CG rfl rfl Tryz.underlying51 APX i1 i2)<|Zp rfl (fun _=>BH rfl AJ2)<|Zq rfl (fun _ hS=>Ac rfl Ap ((hc2.ext (hS.resolve_left nofun)).at 0 rfl)) (Ext.refl _)<|bS hF fun x5 Ex5 hF=>Zp rfl (fun _=>APe rfl rfl Ex5)<|Zp rfl (fun _=>AWG rfl rfl)<|Zn rfl<|Zp rfl (fun _=>ACI (r:=[.int .i64 (bor .i64 x1.1 x5),.int .i64 x2]) AFo AQh (pc rfl (pc rfl pn)) rfl)<|pe1 rfl<|sst rfl rfl rfl AFo hb5 rfl rfl (ble rfl) fun w4 hch1 hb6=>?_;have k4:=Ext.chg k2 hch1 (Nat.le_trans hx1.size hg2);have hb7:Bx w4 b5 326 [.int .i64 (bor .i64 x1.1 x5),.int .i64 x2]:=hb6;refine nl ⟨fun h=>(h (by decide)).elim,?_⟩;cases hF;exact wp_ret<|rt rfl (.cell rfl rfl AFo rfl (Bx.cs hb7) .nil) ⟨_,rfl,(show RV (α:=(Int×Int)) _ (.agg [.int .i64 (bor .i64 x1.1 x5),.int .i64 x2].toArray) (bor .i64 x1.1 x5,x2)from⟨_,rfl,[.int .i64 (bor .i64 x1.1 x5)],[.int .i64 x2],rfl,rfl,rfl⟩),k4⟩
theorem AWl{w0:World}{x0:Int}{b1:Nat}{cs1:List Value}{x1:(Int×Int)}(h1:Cs w0 b1 0 cs1)(q1:Enc.rep (fun _=>True) w0 cs1 x1){b2:Nat}{cs2:List Value}{x2:(Ob (ZTc×(List (Int×Bool))×(Ar 16 (Ar 16 Int))×Opq×Opq))}(h2:Cs w0 b2 0 cs2)(q2:Enc.rep (fun _=>True) w0 cs2 x2){r:Bool}(hF:AB9 x0 x1 x2=some r):
  Calls Tryz.prog 309 [.int .i64 x0,.pointer (some ⟨b1,0,none⟩),.pointer (some ⟨b2,0,none⟩)].toArray w0 (Gy fun v w'=>v=.bool r/\Ext w0 w'):=by
 unfold AB9 at hF;obtain⟨_,_,rfl,rfl,rfl⟩:=q1;have q4:=q2;have hz:=ACr q4;obtain⟨a1,rfl,r4⟩:=hz;refine Ko (n:=18) Tryz.func309 rfl rfl rfl<|Zr<|Za<|nl<|wp_seq<|wpl [] (.pure true 0 (.pure false 1 (.pure false 2 (.pure true 3 (.pure true 4 (.pure false 5 (.pure true 6 (.pure true 7 (.pure true 8 (.pure false 9 (.pure true 10 (.pure true 11 (.pure true 12 (.pure true 13 .fin)))))))))))))) mixed (by kernel_rfl) (fun w1 hx1=>?_);have h4:=h1.ext hx1;have h5:=h2.ext hx1;refine Zp rfl (fun _=>BH rfl ALs)<|Zq rfl (fun _ hS=>Ac rfl Ap ((h4.ext (hS.resolve_left nofun)).at 0 rfl)) (Ext.refl _)<|Zq rfl (fun _ hS=>Ac rfl AE1 ((h5.ext (hS.resolve_left nofun)).at 0 rfl)) (Ext.refl _)<|bS hF fun x4 Ex4 hF=>?_;have hz:=AGs r4 Ex4;obtain⟨b4,cs4,e1,q5,hc1⟩:=hz;cases e1;obtain⟨_,_,rfl,⟨_,_,rfl,⟨a2,cq1,rfl,p1,q6,e2⟩,_,_,rfl,rfl,_,_,rfl,rfl,rfl⟩,_,_,rfl,⟨a3,cq2,rfl,p2,q7,e3⟩,_,_,rfl,rfl,_,_,rfl,⟨a4,rfl,q8⟩,a5,rfl,q9⟩:=q5;have r7:=RV.of1 p2 q7 e3;have hc2:=hc1.ext hx1;refine Zp rfl (fun _=>XB rfl)<|Zp rfl (fun _=>BH rfl AGp)<|Zq rfl (fun _ hS=>Ac rfl AMU ((hc2.ext (hS.resolve_left nofun)).at 4 rfl)) (Ext.refl _)<|Zn rfl<|bS hF fun x5 Ex5 hF=>?_;have hz:=(RV.els r7).ix Ex5;obtain⟨b5,f1,cs5,e4,i1,i2,q10,hc3⟩:=hz;cases e4;obtain⟨_,_,rfl,rfl,rfl⟩:=q10;have hc4:=hc3.ext hx1;refine Zp rfl (fun _=>CG rfl rfl Tryz.underlying51 APX i1 i2)<|Zp rfl (fun _=>BH rfl AJ2)<|Zq rfl (fun _ hS=>Ac rfl Ap ((hc4.ext (hS.resolve_left nofun)).at 0 rfl)) (Ext.refl _)<|bS hF fun x6 Ex6 hF=>Zp rfl (fun _=>AWH rfl rfl Ex6)<|Zp rfl (fun _=>ASQ rfl rfl)<|Zp rfl (fun _=>yB rfl rfl)<|Zp rfl (fun _=>xas)<|?_;cases hF;exact wp_ret<|Zw rfl rfl rfl ⟨rfl,hx1⟩
abbrev AIq:=(Int×Int)×Int
abbrev AS3:=(AIq×AIq)×Bool
abbrev ACl:=List AS3×Int×(Int×Int)
abbrev AFE:=Int×Bool
abbrev AFF:=Ar 16 (Ar 16 Int)
abbrev zO:=ACl×List AFE×AFF×Opq×Opq
abbrev wS:=Int×Int
def AKk(a1:Option Addr)(c1:Nat)(c:ACl)(sv:Value)(X:AFF)(ma mu:Nat):List Value:=
 [.slice a1 c.1.length c1,.int .i64 c.2.1,.int .i64 c.2.2.1,.int .i64 c.2.2.2,sv]++(X.l.flatMap Flat.enc++[.map (some ma),.map (some mu)])
def TbP(N:Nat)(w:World)(v:Value)(x:zO)(b ma mu:Nat):Prop:=
 v=.pointer (some ⟨b,0,none⟩)/\RVo (fun q=>q≠ma/\q≠mu) w v (⟨some x⟩:Ob zO)/\w.cell? ⟨b,261,none⟩=some (.map (some ma))/\w.cell? ⟨b,262,none⟩=some (.map (some mu))/\
 Mp (κ:=wS) (ν:=Int) w ma []/\Mp (κ:=wS) (ν:=Int) w mu []/\ma≠mu/\N<=ma/\N<=mu
def TbN(N:Nat)(w:World)(v:Value)(x:Ob zO):Prop:=∃y b ma mu,x=⟨some y⟩/\TbP N w v y b ma mu
theorem AHX{w w':World}{b o:Nat}{c:Value}(h:w.cell? ⟨b,o,none⟩=some c)(k:Ext w w'):w'.cell? ⟨b,o,none⟩=some c:=by
 have hlt:=World.block_lt_of_cell? w _ h;exact(World.cell?_of_block (a:=⟨b,o,none⟩) (k.block b hlt)).trans h
theorem TbN.ext{N:Nat}{w w':World}{v:Value}{x:Ob zO}(h:TbN N w v x)(k:Ext w w'):TbN N w' v x:=by
 obtain⟨y,b,ma,mu,rfl,h1,h2,h3,h4,h5,h6,h7⟩:=h;exact⟨y,b,ma,mu,rfl,h1,h2.ext k,AHX h3 k,AHX h4 k,h5.ext k,h6.ext k,h7⟩
theorem TbN.mono{N M:Nat}{w:World}{v:Value}{x:Ob zO}(h:TbN N w v x)(hM:M<=N):TbN M w v x:=by
 obtain⟨y,b,ma,mu,rfl,h1,h2,h3,h4,h5,h6,h7,h8,h9⟩:=h;exact⟨y,b,ma,mu,rfl,h1,h2,h3,h4,h5,h6,h7,Nat.le_trans hM h8,Nat.le_trans hM h9⟩
theorem TbN.rv{N:Nat}{w:World}{v:Value}{x:Ob zO}(h:TbN N w v x):RV w v x:=by
 obtain⟨y,b,ma,mu,rfl,h1,h2,h3⟩:=h;exact h2.rv
section
structure NT(w0 w:World)(base b4:Nat)(a1:Option Addr)(c1:Nat)(c:ACl)(sv:Value)(st:List AFE)(X:AFF)(ma mu:Nat):Prop where
 bx:Bx w b4 199 (AKk a1 c1 c sv X ma mu)
 row:Row 56 base w sv st
 ma:Mp (κ:=wS) (ν:=Int) w ma []
 mu:Mp (κ:=wS) (ν:=Int) w mu []
 ext:Ext w0 w
 size:base<=w.heap.size
section
variable {w0 w w1 w2:World}{base b4:Nat}{a1:Option Addr}{c1:Nat}{c:ACl}{sv sv':Value}{st st':List AFE}{X:AFF}{ma mu:Nat}
theorem NT.go(h:NT w0 w base b4 a1 c1 c sv st X ma mu)(k:Ext w w1):NT w0 w1 base b4 a1 c1 c sv st X ma mu:=
 ⟨h.bx.ext k,h.row.ext k,h.ma.ext k,h.mu.ext k,h.ext.tr k,Nat.le_trans h.size k.size⟩
theorem NT.steps(h:NT w0 w base b4 a1 c1 c sv st X ma mu)(hw0:w0.heap.size<=base)(h0:w0.heap.size<=b4)(h4:b4<base)(ha:ma<base)(hu:mu<base)(o:Row 56 base w1 sv' st')(hB:Below base w w1)(hc:Chg b4 w1 w2)(hb:Bx w2 b4 199 (Md.X9 (AKk a1 c1 c sv X ma mu) 4 [sv'])):
  NT w0 w2 base b4 a1 c1 c sv' st' X ma mu:=by
 have hx:Bx w1 b4 199 (AKk a1 c1 c sv X ma mu):=h.bx.below hB h4;exact⟨hb,o.chg hc h4,(h.ma.below hB ha).chgb hc hx,(h.mu.below hB hu).chgb hc hx,Ext.chg (h.ext.trans (hB.mono hw0)) hc h0,by rw[hc.size];exact Nat.le_trans h.size hB.size⟩
end
end
end Go.Proofs.YtfmelbioccbdoaaGreat
end
section
namespace Go.Proofs.YtfmelbioccbdoaaGreat
open Go Go.Md Go.RowKit
def xZ(F:Nat)(x0:(List Int))(x1:Int):Nat->Int->Option (Sum Int (Unit))
 |0,_=>none
 |m+1,y1=>
  if(decide (y1<(x0.length:Int)))=true then
   (ix x0 y1)>>=fun x3=>
   if(decide (x1=x3))=true then
    some (.inl y1)
   else
    xZ F x0 x1 m (BA (y1+1))
  else
   some (.inr ())
def slices_Index_int(F:Nat)(x0:(List Int))(x1:Int):Option Int:=
 ((xZ F x0 x1 F 0)>>=fun o=>match o with
  |.inl r=>some r
  |.inr ()=>
   some (-1))
def slices_Contains_int(F:Nat)(x0:(List Int))(x1:Int):Option Bool:=
 (slices_Index_int F x0 x1)>>=fun x3=>
 some (decide (0<=x3))
end Go.Proofs.YtfmelbioccbdoaaGreat
end
section
namespace Go.Proofs.YtfmelbioccbdoaaGreat
open Go Go.Md Go.RowKit
attribute [local irreducible] Go.wpList Go.Code.wp Go.Calls Go.Md.vZ Go.Md.Mt Go.Md.xE Go.Md.uT Go.Code.wpIn
theorem AWm{w0:World}{v0:Value}{x0:(List Int)}(r0:RV w0 v0 x0){x1:Int}{F:Nat}{r:Int}(hF:slices_Index_int F x0 x1=some r):
  Calls Tryz.prog 250 [v0,.int .i64 x1].toArray w0 (Gy fun v w'=>v=.int .i64 r/\Ext w0 w'):=by
 unfold slices_Index_int at hF;have hz:=r0.sl;obtain⟨a1,cq1,rfl,-,-,-⟩:=hz;refine Ko (n:=19) Tryz.func250 rfl rfl rfl<|Zr<|Za<|nl<|wp_seq<|Zr<|Zm<|Zv (DF rfl Tryz.underlying41)<|Zm<|nl<|bS hF fun o1 hB1 hF=>ct (fun L w=>o1=.inr ()/\Ext w0 w) ?_ ?_
 ·refine wp_block<|lp (I:=fun m L w=>∃y1:Int,xZ F x0 x1 m y1=some o1/\L 8=.int .i64 y1/\L 0=.slice a1 x0.length cq1/\L 1=.int .i64 x1/\L 7=.int .i64 (x0.length:Int)/\Ext w0 w) F ⟨_,hB1,rfl,rfl,rfl,rfl,(Ext.refl _)⟩ ?_;rintro m L w1⟨y1,hB1,l8_i1,l0_i1,l1_i1,l7_i1,K0_i1⟩;rcases m with _|m
  ·rw[xZ]at hB1;cases hB1
  rw[xZ]at hB1;refine Zr<|Zv (Jr l8_i1 l7_i1)<|nl<|wp_seq<|cnd rfl (fun h3=>?_) (fun h3=>?_)
  ·have hB1:=BP hB1 h3;refine wp_skip<|wp_seq<|wp_block<|Zr<|Zm<|Za<|nl<|Zr<|Zm<|Zm<|Zm<|bS hB1 fun x3 Ex3 hB1=>?_;have hz:=(RV.els r0).ix Ex3;obtain⟨b3,f1,cs3,e1,i2,i3,q3,hc1⟩:=hz;cases e1;obtain rfl:=q3;have hc2:=hc1.ext K0_i1;refine Zv (CG l0_i1 l8_i1 Tryz.underlying41 Ap i2 i3)<|Zv (Ac rfl Ap (hc2.at 0 rfl))<|Zv (yB l1_i1 rfl)<|nl<|cnd rfl (fun h4=>?_) (fun h4=>?_)
   ·have hB1:=BP hB1 h4;refine Zr<|Zm<|Za<|nl<|?_;cases hB1;have hF:=(show some _=some _ from hF);cases hF;exact wp_ret<|rt rfl (.tmp l8_i1 rfl .nil) ⟨rfl,K0_i1⟩
   ·have hB1:=Bh hB1 h4;refine wp_skip<|rg<|Zv (FH l8_i1 rfl)<|Zm<|nl<|lq m (Nat.lt_succ_self _)<|?_;exact⟨_,hB1,rfl,l0_i1,l1_i1,l7_i1,K0_i1⟩
  ·have hB1:=Bh hB1 h3;refine wp_exit<|?_;cases hB1;refine lf<|?_;exact⟨rfl,K0_i1⟩
 rintro L w2⟨rfl,K0_j1⟩;refine Zr<|Za<|nl<|?_;cases hF;exact wp_ret<|Zw rfl rfl rfl ⟨rfl,K0_j1⟩
theorem AQK{w0:World}{v0:Value}{x0:(List Int)}(r0:RV w0 v0 x0){x1:Int}{F:Nat}{r:Bool}(hF:slices_Contains_int F x0 x1=some r):
  Calls Tryz.prog 144 [v0,.int .i64 x1].toArray w0 (Gy fun v w'=>v=.bool r/\Ext w0 w'):=by
 unfold slices_Contains_int at hF;have hz:=r0.sl;obtain⟨a1,cq1,rfl,-,-,-⟩:=hz;refine Ko (n:=9) Tryz.func144 rfl rfl rfl<|Zr<|Za<|nl<|Zr<|Zm<|Zm<|bS hF fun x3 Ex3 hF=>Zc (xc AUQ (mc rfl (mc rfl mn))) (AWm r0 Ex3) ?_;rintro _ w1⟨rfl,hx1⟩;refine Zv (ADK rfl rfl)<|Za<|nl<|?_;cases hF;exact wp_ret<|Zw rfl rfl rfl ⟨rfl,hx1⟩
end Go.Proofs.YtfmelbioccbdoaaGreat
end
section
namespace Go.Proofs.YtfmelbioccbdoaaGreat
open Go Go.Md Go.RowKit
attribute [local irreducible] Go.wpList Go.Code.wp Go.Calls Go.Md.vZ Go.Md.Mt Go.Md.xE Go.Md.uT Go.Code.wpIn Go.wpListIn
section
structure Tb(N:Nat)(w:World)(b ma mu:Nat)(x:zO):Prop where
 size:N<=w.heap.size
 rv:RVo (fun q=>q<N/\q≠ma/\q≠mu) w (.pointer (some ⟨b,0,none⟩)) (⟨some x⟩:Ob zO)
 ca:w.cell? ⟨b,261,none⟩=some (.map (some ma))
 cu:w.cell? ⟨b,262,none⟩=some (.map (some mu))
 la:ma<N
 lu:mu<N
 ne:ma≠mu
section
variable {N:Nat}{w w1:World}{b ma mu c d:Nat}{x:zO}
theorem Tb.lb(h:Tb N w b ma mu x):b<N/\b≠ma/\b≠mu:=by
 have hz:=AGJ h.rv rfl;obtain⟨b',ds,e,h1,_,_⟩:=hz;cases e;exact h1
theorem Tb.belx(h:Tb N w b ma mu x)(k:BelX N c d w w1)(hc:c=ma\/c=mu\/N<=c)(hd:d=ma\/d=mu\/N<=d):Tb N w1 b ma mu x:=by
 have hb:=h.lb;have e:w1.heap[b]?=w.heap[b]?:=k.block b hb.1 (by omega) (by omega);exact⟨Nat.le_trans h.size k.size,h.rv.keep (fun q hq _=>k.block q hq.1 (by omega) (by omega)) k.size,(World.cell?_of_block (a:=⟨b,261,none⟩) e).trans h.ca,(World.cell?_of_block (a:=⟨b,262,none⟩) e).trans h.cu,h.la,h.lu,h.ne⟩
theorem Tb.belp{ok:Nat->Prop}{M:Nat}(h:Tb N w b ma mu x)(k:BelP ok M w w1)(hM:N<=M)(hk:∀q,q<N->q≠ma->q≠mu->ok q):Tb N w1 b ma mu x:=by
 have hb:=h.lb;have e:w1.heap[b]?=w.heap[b]?:=k.block b (by omega) (hk b hb.1 hb.2.1 hb.2.2);exact⟨Nat.le_trans h.size k.size,h.rv.keep (fun q hq _=>k.block q (by omega) (hk q hq.1 hq.2.1 hq.2.2)) k.size,(World.cell?_of_block (a:=⟨b,261,none⟩) e).trans h.ca,(World.cell?_of_block (a:=⟨b,262,none⟩) e).trans h.cu,h.la,h.lu,h.ne⟩
theorem Tb.ext(h:Tb N w b ma mu x)(k:Ext w w1):Tb N w1 b ma mu x:=h.belx (c:=ma) (d:=ma) (BelX.of k h.size) (.inl rfl) (.inl rfl)
theorem Tb.mono{M:Nat}(h:Tb N w b ma mu x)(hM:N<=M)(hs:M<=w.heap.size):Tb M w b ma mu x:=
 ⟨hs,h.rv.mono fun q _ hq=>⟨by omega,hq.2⟩,h.ca,h.cu,Nat.lt_of_lt_of_le h.la hM,Nat.lt_of_lt_of_le h.lu hM,h.ne⟩
theorem Tb.cs(h:Tb N w b ma mu x):∃cs,Cs w b 0 cs/\Enc.rep (fun _=>True) w cs x:=by
 have hz:=AGJ h.rv rfl;obtain⟨b',ds,e,_,h1,h2⟩:=hz;cases e;exact⟨ds,h2,Enc.mono (fun _ _ _=>trivial) h1⟩
theorem Tb.steps(h:Tb N w b ma mu x):∃a k,w.cell? ⟨b,4,none⟩=some (.slice a x.2.1.length k)/\RVo (fun q=>q<N/\q≠ma/\q≠mu) w (.slice a x.2.1.length k) x.2.1:=by
 have hz:=AGJ h.rv rfl;obtain⟨b',ds,e,_,h1,h2⟩:=hz;cases e;obtain⟨_,_,rfl,⟨_,_,rfl,⟨a1,c1,rfl,p1,q3,e1⟩,_,_,rfl,rfl,_,_,rfl,rfl,rfl⟩,_,_,rfl,⟨a2,c2,rfl,p2,q4,e2⟩,_⟩:=h1;exact⟨a2,c2,h2.at 4 rfl,RVo.sl.2 ⟨a2,c2,rfl,p2,q4,e2⟩⟩
theorem Tb.pieces(h:Tb N w b ma mu x):∃a k,w.cell? ⟨b,0,none⟩=some (.slice a x.1.1.length k)/\RVo (fun q=>q<N/\q≠ma/\q≠mu) w (.slice a x.1.1.length k) x.1.1:=by
 have hz:=AGJ h.rv rfl;obtain⟨b',ds,e,_,h1,h2⟩:=hz;cases e;obtain⟨_,_,rfl,⟨_,_,rfl,⟨a1,c1,rfl,p1,q3,e1⟩,_,_,rfl,rfl,_,_,rfl,rfl,rfl⟩,_,_,rfl,⟨a2,c2,rfl,p2,q4,e2⟩,_⟩:=h1;exact⟨a1,c1,h2.at 0 rfl,RVo.sl.2 ⟨a1,c1,rfl,p1,q3,e1⟩⟩
theorem Tb.fits(h:Tb N w b ma mu x):Cs w b 5 (x.2.2.1.l.flatMap Flat.enc):=by
 have hz:=AGJ h.rv rfl;obtain⟨b',ds,e,_,h1,h2⟩:=hz;cases e;obtain⟨_,_,rfl,⟨_,_,rfl,⟨a1,c1,rfl,p1,q3,e1⟩,_,_,rfl,rfl,_,_,rfl,rfl,rfl⟩,_,_,rfl,⟨a2,c2,rfl,p2,q4,e2⟩,_,_,rfl,rfl,_⟩:=h1;exact(h2.snd.snd).fst
theorem TbP.tb{M:Nat}{v:Value}(h:TbP M w v x b ma mu):v=.pointer (some ⟨b,0,none⟩)/\Tb w.heap.size w b ma mu x/\Mp (κ:=wS) (ν:=Int) w ma []/\Mp (κ:=wS) (ν:=Int) w mu []:=by
 obtain⟨rfl,h1,h2,h3,h4,h5,h6,_⟩:=h;refine⟨rfl,⟨Nat.le_refl _,?_,h2,h3,h4.lt,h5.lt,h6⟩,h4,h5⟩;obtain⟨cs,e,h7⟩:=h1;refine⟨cs,e,?_⟩;obtain⟨a,e1,b',ds,e2,h8,h9,h10,h11⟩:=h7;exact⟨a,e1,b',ds,e2,⟨h9,h8⟩,h9,Enc.mono (fun q hq hok=>⟨hq,hok⟩) h10,h11⟩
end
def ARA(x:zO)(s:wS)(k:Int):Option Bool:=
 (AB9 k s ⟨some x⟩)>>=fun f=>
 if f=true then
  (if decide (s.2=-1)=true then some true else(ix x.2.2.1.l s.2)>>=fun r=>(ix r.l k)>>=fun y=>some (decide (y=1)))
 else some false
def ADC(x:zO)(s:wS):Nat->Nat->Option (List wS)
 |0,_=>some []
 |n+1,k=>(ARA x s k)>>=fun f=>(ADC x s n (k+1))>>=fun t=>if f=true then(AEJ x s k)>>=fun u=>some (u::t)else some t
def AFR(x:zO)(s:wS):Option (List wS):=
 if(!decide (s.2=-1))=true then(ix x.2.2.1.l s.2)>>=fun r=>if decide (r=Ar.fill 16 0)=true then some []else ADC x s x.2.1.length 0
 else ADC x s x.2.1.length 0
set_option maxHeartbeats 8000000 in
theorem AS4{m:Nat}{w:World}{bs bt bf b ma mu N:Nat}{ok:Nat->Prop}{x:zO}{s:wS}{l:List wS}(hs:Bx w bs 326 (Flat.enc s))(ht:Bx w bt 177 [.pointer (some ⟨b,0,none⟩)])(hf:Bx w bf 236 [.func (.func 309) #[] #[.pointer (some ⟨bs,0,none⟩),.pointer (some ⟨bt,0,none⟩)]])
  (n1:ok bs) (n2:ok bt) (n3:ok bf) (hT:Tb N w b ma mu x) (hok:∀q,q<N->q≠ma->q≠mu->ok q) (hL:AFR x s=some l):
  ADl Tryz.prog (BelP ok w.heap.size) m 310 #[.pointer (some ⟨bs,0,none⟩),.pointer (some ⟨bt,0,none⟩),.pointer (some ⟨bf,0,none⟩)] (l.map fun u=>#[fv u]) w:=by
 intro ll J Jx W kW hJ hJx hY h0;have KW:BelP ok w.heap.size w W:=BelP.of kW (Nat.le_refl _);have TW:=hT.ext kW;have dsW:=hs.ext kW;have dtW:=ht.ext kW;refine(callsIn_wide.2 ?_:CallsIn Fence.wide m Tryz.prog 310 ([.func (.yield ll) #[] #[],.pointer (some ⟨bs,0,none⟩),.pointer (some ⟨bt,0,none⟩),.pointer (some ⟨bf,0,none⟩)].toArray) W _);refine Calls.mono (R:=Gy fun v W'=>J (l.map fun u=>#[fv u]).length W'\/Jx W') ?_ ?_
 rotate_left
 ·rintro e W'⟨v,rfl,h⟩
  exact⟨⟨v,rfl⟩,h⟩
 unfold AFR at hL;refine Ko (n:=58) Tryz.func310 rfl rfl rfl<|wp_seq<|ct (fun L w'=>L 0=.func (.yield ll) #[] #[]/\L 1=.pointer (some ⟨bs,0,none⟩)/\L 2=.pointer (some ⟨bt,0,none⟩)/\L 3=.pointer (some ⟨bf,0,none⟩)/\Ext W w'/\ADC x s x.2.1.length 0=some l) ?_ ?_
 ·refine wp_seq<|wpl [] (.pure true 0 (.pure false 1 (.pure true 2 (.pure true 3 (.pure false 4 (.pure true 5 (.pure false 6 (.pure true 7 (.pure true 8 (.pure true 9 (.pure false 10 (.pure true 11 (.pure true 12 (.pure true 13 .fin)))))))))))))) mixed (by kernel_rfl) (fun wd hxd=>?_)
  have ds:=dsW.ext hxd;have dt:=dtW.ext hxd;have Td:=TW.ext hxd;refine Zp rfl (fun _=>BH rfl AGq)<|Zq rfl (fun _ hS=>Ac rfl Ap ((Bx.cs (ds.ext (hS.resolve_left nofun))).at 1 rfl)) (Ext.refl _)<|Zp rfl (fun _=>zV rfl rfl)<|Zn rfl<|Or.elim (Bool.eq_false_or_eq_true (!decide (s.2=-1))) (fun hg=>?_) (fun hg=>?_)
  ·have hL:=BP hL hg
   refine bS hL fun r Er hL=>?_;have hz:=wR Td.fits Er;obtain⟨j1,j2,hc1⟩:=hz;refine Yi rfl (Md.bt hg) (fun _ hS=>Ac rfl AE1 ((Bx.cs (dt.ext (hS.resolve_left nofun))).at 0 rfl)) (Ext.refl _)<|Yt rfl (Md.bt hg) (fun _=>BH rfl AGq)<|Yi rfl (Md.bt hg) (fun _ hS=>Ac rfl Ap ((Bx.cs (ds.ext (hS.resolve_left nofun))).at 1 rfl)) (Ext.refl _)<|Yt rfl (Md.bt hg) (fun _=>XB rfl)<|Yt rfl (Md.bt hg) (fun _=>BH rfl ALq)<|Yt rfl (Md.bt hg) (fun _=>wJ rfl rfl Tryz.underlying196 AJg j1 j2)<|Yi rfl (Md.bt hg) (fun _ hS=>DY rfl AJg (Gi r) (hc1.ext (hS.resolve_left nofun))) (Ext.refl _)<|Yt rfl (Md.bt hg) (fun _=>AQf (r:=List.flatMap Flat.enc (Ar.fill 16 0:Ar 16 Int).l) AJg Tryz.underlying195 Ap pn rfl)<|Yt rfl (Md.bt hg) (fun _=>AMT (α:=Ar 16 Int) (a:=r) (b:=Ar.fill 16 0) rfl ATy ATx rfl rfl rfl rfl rfl)<|Zp rfl (fun _=>yw rfl hg rfl)<|cnd rfl (fun hq=>?_) (fun hq=>?_)
   ·have hL:=BP hL hq
    cases hL;exact wp_ret<|rt rfl .nil (.inl (hJ 0 _ _ h0 hxd))
   ·have hL:=Bh hL hq
    exact wp_skip<|lf ⟨rfl,rfl,rfl,rfl,hxd,hL⟩
  ·have hL:=Bh hL hg
   refine Yh rfl (DJ hg) (Ext.refl _)<|Yf rfl (DJ hg)<|Yh rfl (DJ hg) (Ext.refl _)<|Yf rfl (DJ hg)<|Yf rfl (DJ hg)<|Yf rfl (DJ hg)<|Yh rfl (DJ hg) (Ext.refl _)<|Yf rfl (DJ hg)<|Yf rfl (DJ hg)<|Zp rfl (fun _=>xpf rfl hg rfl)<|cnd rfl (fun hq=>by cases hq) (fun hq=>?_);exact wp_skip<|lf ⟨rfl,rfl,rfl,rfl,hxd,hL⟩
 clear hL;rintro L w2⟨l0,l1,l2,l3,k2,hL⟩;have T2:=TW.ext k2;have dt2:=dtW.ext k2;have hz:=T2.steps;obtain⟨a2,c2,h4,hsl⟩:=hz;have hlen:=(RVo.rv hsl).cap;have hj2:J 0 w2:=hJ 0 _ _ h0 k2;have K2:BelP ok w.heap.size w w2:=BelP.of (kW.tr k2) (Nat.le_refl _);refine Zr<|Zv (Ac l2 AE1 ((Bx.cs dt2).at 0 rfl))<|Zv (XB rfl)<|Zv (BH rfl AGp)<|Zv (Ac rfl AMU h4)<|Zv (DF rfl Tryz.underlying51)<|Zm<|nl<|wp_block<|lp (I:=fun m' L w1=>∃(k:Nat)(pre t:List wS),k+m'=x.2.1.length/\ADC x s m' k=some t/\l=pre++t/\L 25=.int .i64 (k:Int)/\L 24=.int .i64 (x.2.1.length:Int)/\L 0=.func (.yield ll) #[] #[]/\L 1=.pointer (some ⟨bs,0,none⟩)/\L 2=.pointer (some ⟨bt,0,none⟩)/\L 3=.pointer (some ⟨bf,0,none⟩)/\J pre.length w1/\BelP ok w.heap.size w w1) x.2.1.length
  ⟨0,[],l,by simp,hL,rfl,rfl,rfl,l0,l1,l2,l3,hj2,K2⟩ ?_
 clear l0 l1 l2 l3 hL;rintro m' L w1⟨k,pre,t,hk,hB,hl,l25,l24,l0,l1,l2,l3,hj,hx⟩;refine Zr<|Zv (Jr l25 l24)<|nl<|wp_seq<|cnd rfl (fun hc0=>?_) (fun hc0=>?_)
 ·have hc0:(k:Int)<(x.2.1.length:Int):=by simpa using hc0
  obtain⟨n,rfl⟩:∃n,m'=n+1:=⟨m'-1,by omega⟩;rw[ADC]at hB;refine bS hB fun f Ef hB=>?_;have hz:=Md.bs hB;obtain⟨t',Et,hB⟩:=hz;unfold ARA at Ef;have hz:=Md.bs Ef;obtain⟨f0,Ef0,Ef⟩:=hz;have hadd:BA ((k:Int)+1)=((k+1:Nat):Int):=by
   have hmx:x.2.1.length<=maxLen:=by omega
   rw[BA,IntWalk.i64_in _ (by unfold maxLen at hmx;omega)]
   rfl
  have hNw:=hx.size;refine wp_skip<|wp_seq<|wp_block<|Zr<|Zv (Pv l25)<|Za<|nl<|wp_seq<|AWL (m:=m) (fun wd w'=>Ext wd w') [26] (.pure false 0 (.pure true 1 (.eff 2 (.pure true 3 (.pure true 4 (.pure false 5 (.pure true 6 (.pure true 7 (.pure false 8 (.pure true 9 (.pure false 10 (.pure true 11 (.pure true 12 (.pure true 13 (.pure true 14 (.pure true 15 (.pure false 16 (.pure true 17 (.pure true 18 (.pure true 19 (.pure true 20 (.pure true 21 (.pure false 22 (.pure false 23 (.pure true 24 (.eff 25 (.eff 26 (.pure true 27 (.pure true 28 .fin)) .stop) .stop))))))))))))))))))))))) .stop))) mixed (by kernel_rfl) (fun wd hxd=>?_);have hxd':=hx.ext hxd hNw;have ds:=hs.belp hxd' hs.lt n1;have dt:=ht.belp hxd' ht.lt n2;have df:=hf.belp hxd' hf.lt n3;have Td:=hT.belp hxd' hT.size hok;have hjd:=hJ _ _ _ hj hxd;refine pvw rfl rfl rfl (fun _ hS=>Ac l3 AJh ((Bx.cs (df.ext (hS.resolve_left nofun))).at 0 rfl)) (.inr (Ext.refl _))<|pvw rfl rfl rfl (fun _ _=>iL) (.inl rfl)<|AMf rfl<|Zc (xcv (fs:=[]) (cs:=[.pointer (some ⟨bs,0,none⟩),.pointer (some ⟨bt,0,none⟩)]) rfl AUW (mc rfl mn) rfl) (AWl (x1:=s) (x2:=(⟨some x⟩:Ob zO)) (Bx.cs ds) (Flat.iff.2 rfl) (Bx.cs dt) (yg Td.rv.rv) Ef0) ?_;rintro _ w3⟨rfl,hx3⟩;refine nl ⟨fun _ h=>h.tr hx3,?_⟩;have kd3:=hxd.tr hx3;have hx3':=hx.ext kd3 hNw;have hjd3:=hJ _ _ _ hj kd3;have ds3:=ds.ext hx3;have dt3:=dt.ext hx3;have Td3:=Td.ext hx3;refine pvw rfl rfl rfl (fun _ _=>iL) (.inl rfl)<|?_;have skip_:∀(L':Fr),f=false->L' 24=.int .i64 (x.2.1.length:Int)->L' 0=.func (.yield ll) #[] #[]->L' 1=.pointer (some ⟨bs,0,none⟩)->L' 2=.pointer (some ⟨bt,0,none⟩)->L' 3=.pointer (some ⟨bf,0,none⟩)->
    ∃(k':Nat)(pre t:List wS),k'+n=x.2.1.length/\ADC x s n k'=some t/\l=pre++t/\Value.int .i64 (BA ((k:Int)+1))=.int .i64 (k':Int)/\L' 24=.int .i64 (x.2.1.length:Int)/\L' 0=.func (.yield ll) #[] #[]/\L' 1=.pointer (some ⟨bs,0,none⟩)/\L' 2=.pointer (some ⟨bt,0,none⟩)/\L' 3=.pointer (some ⟨bf,0,none⟩)/\J pre.length w3/\BelP ok w.heap.size w w3:=by
   intro L' hf0 h24 h0 h1 h2 h3;have hB:=Bh hB hf0;cases hB;exact⟨k+1,pre,_,by omega,Et,hl,congrArg _ hadd,h24,h0,h1,h2,h3,hjd3,hx3'⟩
  refine Or.elim (Bool.eq_false_or_eq_true f0) (fun hf0=>?_) (fun hf0=>?_)
  ·have Ef:=BP Ef hf0
   refine AAB rfl rfl rfl rfl rfl rfl (Md.bt hf0) rfl (fun _ _=>BH l1 AGq) (.inl rfl)<|AAB rfl rfl rfl rfl rfl rfl (Md.bt hf0) rfl (fun _ hS=>Ac rfl Ap ((Bx.cs (ds.ext (hS.resolve_left nofun))).at 1 rfl)) (.inr hx3)<|AAB rfl rfl rfl rfl rfl rfl (Md.bt hf0) rfl (fun _ _=>yB rfl rfl) (.inl rfl)<|AAB rfl rfl rfl rfl rfl rfl (Md.bt hf0) rfl (fun _ _=>iL) (.inl rfl)<|Or.elim (Bool.eq_false_or_eq_true (decide (s.2=-1))) (fun hs2=>?_) (fun hs2=>?_)
   ·have Ef:=BP Ef hs2
    obtain rfl:true=f:=by cases Ef;rfl
    refine yD rfl rfl rfl rfl rfl rfl (EP hs2) rfl (.inr hx3)<|yD rfl rfl rfl rfl rfl rfl (EP hs2) rfl (.inl rfl)<|yD rfl rfl rfl rfl rfl rfl (EP hs2) rfl (.inr hx3)<|yD rfl rfl rfl rfl rfl rfl (EP hs2) rfl (.inl rfl)<|yD rfl rfl rfl rfl rfl rfl (EP hs2) rfl (.inl rfl)<|yD rfl rfl rfl rfl rfl rfl (EP hs2) rfl (.inl rfl)<|yD rfl rfl rfl rfl rfl rfl (EP hs2) rfl (.inl rfl)<|yD rfl rfl rfl rfl rfl rfl (EP hs2) rfl (.inl rfl)<|yD rfl rfl rfl rfl rfl rfl (EP hs2) rfl (.inr hx3)<|yD rfl rfl rfl rfl rfl rfl (EP hs2) rfl (.inl rfl)<|AAB rfl rfl rfl rfl rfl rfl (Md.bt hf0) rfl (fun _ _=>yw rfl hs2 rfl) (.inl rfl)<|pvw rfl rfl rfl (fun _ _=>yw rfl hf0 rfl) (.inl rfl)<|pvw rfl rfl rfl (fun _ _=>iL) (.inl rfl)<|?_;have hf:true=true:=rfl;have hB:=BP hB hf;refine bS hB fun u Eu hB=>?_;cases hB;have hz:=Td3.cs;obtain⟨cs3,hc3,hr3⟩:=hz;refine AAB rfl rfl rfl rfl rfl rfl (Md.bt hf) rfl (fun _ _=>Pv l0) (.inl rfl)<|AAB rfl rfl rfl rfl rfl rfl (Md.bt hf) rfl (fun _ hS=>Ac l2 AE1 ((Bx.cs (dt.ext (hS.resolve_left nofun))).at 0 rfl)) (.inr hx3)<|AAB rfl rfl rfl rfl rfl rfl (Md.bt hf) rfl (fun _ hS=>DY l1 AFo rfl (Bx.cs (ds.ext (hS.resolve_left nofun)))) (.inr hx3)<|AAB rfl rfl rfl rfl rfl rfl (Md.bt hf) rfl (fun _ _=>iL) (.inl rfl)<|AMf rfl<|Gt rfl (Md.bt hf)<|Zc (xc AQu (mc rfl<|mc rfl<|mc rfl mn)) (AS2 (x0:=x) hc3 hr3 (x1:=s) ⟨_,rfl,Flat.iff.2 rfl⟩ Eu) ?_;rintro _ w4⟨u0,rfl,ru,hx4⟩;refine nl ⟨fun _ h=>h.tr hx4,?_⟩;obtain⟨cu,rfl,hu⟩:=ru;obtain rfl:=Flat.iff.1 hu;have hus:(l.map fun u=>(#[fv u]:Array Value))[pre.length]?=some #[fv u]:=by
     rw[List.getElem?_map,hl,List.getElem?_append_right (Nat.le_refl _),Nat.sub_self]
     rfl
    have hz:=hY pre.length #[fv u] w4 hus (hJ _ _ _ hjd3 hx4);obtain⟨fn,tmps,assign,body,hy,hR⟩:=hz;refine pyw rfl rfl rfl rfl rfl rfl (Md.bt hf) rfl (by decide) (xyl rfl (mc rfl mn) hy) hR fun e w5 he=>?_;rcases he with⟨rfl,hj5,k5⟩|⟨rfl,hj5⟩
    ·refine⟨_,rfl,?_⟩
     refine AAB rfl rfl rfl rfl rfl rfl (Md.bt hf) rfl (fun _ _=>yC rfl) (.inl rfl)<|pvw rfl rfl rfl (fun _ _=>yw rfl hf rfl) (.inl rfl)<|cnd rfl (fun h=>by cases h) (fun _=>?_);refine wp_skip<|rg<|Zv (FH l25 rfl)<|Zm<|nl<|lq n (Nat.lt_succ_self _) ⟨k+1,pre++[u],t',by omega,Et,by rw[hl,List.append_assoc];rfl,congrArg _ hadd,l24,l0,l1,l2,l3,?_,(hx3'.ext hx4 (Nat.le_trans hNw kd3.size)).trans k5⟩;rw[List.length_append];exact hj5
    ·refine⟨_,rfl,?_⟩
     refine AAB rfl rfl rfl rfl rfl rfl (Md.bt hf) rfl (fun _ _=>yC rfl) (.inl rfl)<|pvw rfl rfl rfl (fun _ _=>yw rfl hf rfl) (.inl rfl)<|cnd rfl (fun _=>?_) (fun h=>by cases h);exact wp_ret<|rt rfl .nil (.inr hj5)
   ·have Ef:=Bh Ef hs2
    have hz:=Md.bs Ef;obtain⟨r,Er,Ef⟩:=hz;have hz:=Md.bs Ef;obtain⟨y,Ey,Ef⟩:=hz;obtain rfl:decide (y=1)=f:=by cases Ef;rfl
    have hz:=wR Td.fits Er;obtain⟨j1,j2,hc1⟩:=hz;have hz:=wR (X:=r) hc1 Ey;obtain⟨j3,j4,hc2⟩:=hz;refine AAB rfl rfl rfl rfl rfl rfl (Md.bf hs2) rfl (fun _ hS=>Ac l2 AE1 ((Bx.cs (dt.ext (hS.resolve_left nofun))).at 0 rfl)) (.inr hx3)<|AAB rfl rfl rfl rfl rfl rfl (Md.bf hs2) rfl (fun _ _=>BH l1 AGq) (.inl rfl)<|AAB rfl rfl rfl rfl rfl rfl (Md.bf hs2) rfl (fun _ hS=>Ac rfl Ap ((Bx.cs (ds.ext (hS.resolve_left nofun))).at 1 rfl)) (.inr hx3)<|AAB rfl rfl rfl rfl rfl rfl (Md.bf hs2) rfl (fun _ _=>iL) (.inl rfl)<|AAB rfl rfl rfl rfl rfl rfl (Md.bf hs2) rfl (fun _ _=>XB rfl) (.inl rfl)<|AAB rfl rfl rfl rfl rfl rfl (Md.bf hs2) rfl (fun _ _=>BH rfl ALq) (.inl rfl)<|AAB rfl rfl rfl rfl rfl rfl (Md.bf hs2) rfl (fun _ _=>wJ rfl rfl Tryz.underlying196 AJg j1 j2) (.inl rfl)<|AAB rfl rfl rfl rfl rfl rfl (Md.bf hs2) rfl (fun _ _=>wJ rfl rfl Tryz.underlying195 Ap j3 j4) (.inl rfl)<|AAB rfl rfl rfl rfl rfl rfl (Md.bf hs2) rfl (fun _ hS=>Ac rfl Ap ((hc2.ext (hS.resolve_left nofun)).at 0 rfl)) (.inr hx3)<|AAB rfl rfl rfl rfl rfl rfl (Md.bf hs2) rfl (fun _ _=>yB rfl rfl) (.inl rfl)<|AAB rfl rfl rfl rfl rfl rfl (Md.bt hf0) rfl (fun _ _=>xpf rfl hs2 rfl) (.inl rfl)<|pvw rfl rfl rfl (fun _ _=>yw rfl hf0 rfl) (.inl rfl)<|pvw rfl rfl rfl (fun _ _=>iL) (.inl rfl)<|Or.elim (Bool.eq_false_or_eq_true (decide (y=1))) (fun hf=>?_) (fun hf=>?_)
    ·skip
     have hB:=BP hB hf;refine bS hB fun u Eu hB=>?_;cases hB;have hz:=Td3.cs;obtain⟨cs3,hc3,hr3⟩:=hz;refine AAB rfl rfl rfl rfl rfl rfl (Md.bt hf) rfl (fun _ _=>Pv l0) (.inl rfl)<|AAB rfl rfl rfl rfl rfl rfl (Md.bt hf) rfl (fun _ hS=>Ac l2 AE1 ((Bx.cs (dt.ext (hS.resolve_left nofun))).at 0 rfl)) (.inr hx3)<|AAB rfl rfl rfl rfl rfl rfl (Md.bt hf) rfl (fun _ hS=>DY l1 AFo rfl (Bx.cs (ds.ext (hS.resolve_left nofun)))) (.inr hx3)<|AAB rfl rfl rfl rfl rfl rfl (Md.bt hf) rfl (fun _ _=>iL) (.inl rfl)<|AMf rfl<|Gt rfl (Md.bt hf)<|Zc (xc AQu (mc rfl<|mc rfl<|mc rfl mn)) (AS2 (x0:=x) hc3 hr3 (x1:=s) ⟨_,rfl,Flat.iff.2 rfl⟩ Eu) ?_;rintro _ w4⟨u0,rfl,ru,hx4⟩;refine nl ⟨fun _ h=>h.tr hx4,?_⟩;obtain⟨cu,rfl,hu⟩:=ru;obtain rfl:=Flat.iff.1 hu;have hus:(l.map fun u=>(#[fv u]:Array Value))[pre.length]?=some #[fv u]:=by
      rw[List.getElem?_map,hl,List.getElem?_append_right (Nat.le_refl _),Nat.sub_self]
      rfl
     have hz:=hY pre.length #[fv u] w4 hus (hJ _ _ _ hjd3 hx4);obtain⟨fn,tmps,assign,body,hy,hR⟩:=hz;refine pyw rfl rfl rfl rfl rfl rfl (Md.bt hf) rfl (by decide) (xyl rfl (mc rfl mn) hy) hR fun e w5 he=>?_;rcases he with⟨rfl,hj5,k5⟩|⟨rfl,hj5⟩
     ·refine⟨_,rfl,?_⟩
      refine AAB rfl rfl rfl rfl rfl rfl (Md.bt hf) rfl (fun _ _=>yC rfl) (.inl rfl)<|pvw rfl rfl rfl (fun _ _=>yw rfl hf rfl) (.inl rfl)<|cnd rfl (fun h=>by cases h) (fun _=>?_);refine wp_skip<|rg<|Zv (FH l25 rfl)<|Zm<|nl<|lq n (Nat.lt_succ_self _) ⟨k+1,pre++[u],t',by omega,Et,by rw[hl,List.append_assoc];rfl,congrArg _ hadd,l24,l0,l1,l2,l3,?_,(hx3'.ext hx4 (Nat.le_trans hNw kd3.size)).trans k5⟩;rw[List.length_append];exact hj5
     ·refine⟨_,rfl,?_⟩
      refine AAB rfl rfl rfl rfl rfl rfl (Md.bt hf) rfl (fun _ _=>yC rfl) (.inl rfl)<|pvw rfl rfl rfl (fun _ _=>yw rfl hf rfl) (.inl rfl)<|cnd rfl (fun _=>?_) (fun h=>by cases h);exact wp_ret<|rt rfl .nil (.inr hj5)
    ·refine yD rfl rfl rfl rfl rfl rfl (DJ hf) rfl (.inl rfl)<|yD rfl rfl rfl rfl rfl rfl (DJ hf) rfl (.inr hx3)<|yD rfl rfl rfl rfl rfl rfl (DJ hf) rfl (.inr hx3)<|yD rfl rfl rfl rfl rfl rfl (DJ hf) rfl (.inl rfl)<|?_
     refine AMg rfl rfl rfl rfl rfl rfl (DJ hf) rfl<|AMg rfl rfl rfl rfl rfl rfl (DJ hf) rfl<|yD rfl rfl rfl rfl rfl rfl (DJ hf) rfl (.inl rfl)<|pvw rfl rfl rfl (fun _ _=>xpf rfl hf rfl) (.inl rfl)<|cnd rfl (fun h=>by cases h) (fun _=>?_);refine wp_skip<|rg<|Zv (FH l25 rfl)<|Zm<|nl<|lq n (Nat.lt_succ_self _) (skip_ _ hf l24 l0 l1 l2 l3)
  ·have Ef:=Bh Ef hf0
   obtain rfl:false=f:=by cases Ef;rfl
   refine yD rfl rfl rfl rfl rfl rfl (DJ hf0) rfl (.inl rfl)<|yD rfl rfl rfl rfl rfl rfl (DJ hf0) rfl (.inr hx3)<|yD rfl rfl rfl rfl rfl rfl (DJ hf0) rfl (.inl rfl)<|yD rfl rfl rfl rfl rfl rfl (DJ hf0) rfl (.inl rfl)<|yD rfl rfl rfl rfl rfl rfl Md.bu rfl (.inr hx3)<|yD rfl rfl rfl rfl rfl rfl Md.bu rfl (.inl rfl)<|yD rfl rfl rfl rfl rfl rfl Md.bu rfl (.inr hx3)<|yD rfl rfl rfl rfl rfl rfl Md.bu rfl (.inl rfl)<|yD rfl rfl rfl rfl rfl rfl Md.bu rfl (.inl rfl)<|yD rfl rfl rfl rfl rfl rfl Md.bu rfl (.inl rfl)<|yD rfl rfl rfl rfl rfl rfl Md.bu rfl (.inl rfl)<|yD rfl rfl rfl rfl rfl rfl Md.bu rfl (.inl rfl)<|yD rfl rfl rfl rfl rfl rfl Md.bu rfl (.inr hx3)<|yD rfl rfl rfl rfl rfl rfl Md.bu rfl (.inl rfl)<|yD rfl rfl rfl rfl rfl rfl (DJ hf0) rfl (.inl rfl)<|pvw rfl rfl rfl (fun _ _=>xpf rfl hf0 rfl) (.inl rfl)<|pvw rfl rfl rfl (fun _ _=>iL) (.inl rfl)<|yD rfl rfl rfl rfl rfl rfl (DJ rfl) rfl (.inl rfl)<|yD rfl rfl rfl rfl rfl rfl (DJ rfl) rfl (.inr hx3)<|yD rfl rfl rfl rfl rfl rfl (DJ rfl) rfl (.inr hx3)<|yD rfl rfl rfl rfl rfl rfl (DJ rfl) rfl (.inl rfl)<|AMg rfl rfl rfl rfl rfl rfl (DJ rfl) rfl<|AMg rfl rfl rfl rfl rfl rfl (DJ rfl) rfl<|yD rfl rfl rfl rfl rfl rfl (DJ rfl) rfl (.inl rfl)<|pvw rfl rfl rfl (fun _ _=>xpf rfl rfl rfl) (.inl rfl)<|cnd rfl (fun h=>by cases h) (fun _=>?_);refine wp_skip<|rg<|Zv (FH l25 rfl)<|Zm<|nl<|lq n (Nat.lt_succ_self _) (skip_ _ rfl l24 l0 l1 l2 l3)
 ·have hc0:¬(k:Int)<(x.2.1.length:Int):=by simpa using hc0
  obtain rfl:m'=0:=by omega
  rw[ADC]at hB;cases hB;refine wp_exit<|rtn rfl .nil (.inl ?_);rw[List.length_map,hl,List.append_nil];exact hj
end
def BhV(lo:Nat)(w:World)(v:Value)(s:wS)(b:Nat):Prop:=∃bs bt bf,v=.func (.func 310) #[] #[.pointer (some ⟨bs,0,none⟩),.pointer (some ⟨bt,0,none⟩),.pointer (some ⟨bf,0,none⟩)]/\
 Bx w bs 326 (Flat.enc s)/\Bx w bt 177 [.pointer (some ⟨b,0,none⟩)]/\Bx w bf 236 [.func (.func 309) #[] #[.pointer (some ⟨bs,0,none⟩),.pointer (some ⟨bt,0,none⟩)]]/\lo<=bs/\lo<=bt/\lo<=bf
theorem BhV.go{lo:Nat}{w:World}{v:Value}{s:wS}{b ma mu N:Nat}{ok:Nat->Prop}{x:zO}{l:List wS}(h:BhV lo w v s b)(hT:Tb N w b ma mu x)(hok:∀q,q<N->q≠ma->q≠mu->ok q)(hlo:∀q,lo<=q->ok q)(hL:AFR x s=some l)(m:Nat):
  ∃gf cs,v=.func (.func gf) #[] cs/\Ad Tryz.prog gf/\ADl Tryz.prog (BelP ok w.heap.size) m gf cs (l.map fun u=>#[fv u]) w:=by
 obtain⟨bs,bt,bf,rfl,h1,h2,h3,h4,h5,h6⟩:=h;exact⟨310,_,rfl,AUX,AS4 h1 h2 h3 (hlo _ h4) (hlo _ h5) (hlo _ h6) hT hok hL⟩

def ADE(own step:Int):Nat->Nat->List wS
 |0,_=>[]
 |n+1,k=>if(!decide (band .i64 (k:Int) own=0))=true then((k:Int),step)::ADE own step n (k+1)else ADE own step n (k+1)
def AFS(x:zO)(step:Int):Option (List wS):=
 (ix x.2.1 step)>>=fun st=>(shl .i64 1 st.1)>>=fun own=>(shl .i64 1 (x.1.1.length:Int))>>=fun top=>
 if decide (0<=top/\top<=1000000)=true then some (ADE own step top.toNat 0)else none
set_option maxHeartbeats 8000000 in
theorem AS5{m:Nat}{w:World}{bt b3 b ma mu N:Nat}{ok:Nat->Prop}{x:zO}{step:Int}{l:List wS}(ht:Bx w bt 177 [.pointer (some ⟨b,0,none⟩)])(h3:Bx w b3 3 [.int .i64 step])
  (n1:ok bt) (n2:ok b3) (hT:Tb N w b ma mu x) (hok:∀q,q<N->q≠ma->q≠mu->ok q) (hL:AFS x step=some l):
  ADl Tryz.prog (BelP ok w.heap.size) m 308 #[.pointer (some ⟨bt,0,none⟩),.pointer (some ⟨b3,0,none⟩)] (l.map fun u=>#[fv u]) w:=by
 intro ll J Jx W kW hJ hJx hY h0;have KW:BelP ok w.heap.size w W:=BelP.of kW (Nat.le_refl _);have TW:=hT.ext kW;have dtW:=ht.ext kW;have d3W:=h3.ext kW;refine(callsIn_wide.2 ?_:CallsIn Fence.wide m Tryz.prog 308 ([.func (.yield ll) #[] #[],.pointer (some ⟨bt,0,none⟩),.pointer (some ⟨b3,0,none⟩)].toArray) W _);refine Calls.mono (R:=Gy fun v W'=>J (l.map fun u=>#[fv u]).length W'\/Jx W') ?_ ?_
 rotate_left
 ·rintro e W'⟨v,rfl,h⟩
  exact⟨⟨v,rfl⟩,h⟩
 unfold AFS at hL;refine bS hL fun st Es hL=>bS hL fun own Eo hL=>bS hL fun top Et hL=>?_;have hz:=ifs hL;obtain⟨htop,hL⟩:=hz;cases hL;have htop:0<=top/\top<=1000000:=by simpa using htop
 refine Ko (n:=38) Tryz.func308 rfl rfl rfl<|wp_seq<|wpl [] (.pure false 0 (.pure true 1 (.pure true 2 (.pure false 3 (.pure false 4 (.pure true 5 (.pure true 6 (.pure false 7 (.pure true 8 (.pure true 9 .fin)))))))))) mixed (by kernel_rfl) (fun wd hxd=>?_);have dt:=dtW.ext hxd;have d3:=d3W.ext hxd;have Td:=TW.ext hxd;have hz:=Td.steps;obtain⟨a1,c1,h4,hs4⟩:=hz;have hz:=(RVo.sl.1 hs4);obtain⟨a1',c1',e3,_,hcap,els⟩:=hz;cases e3;have hz:=Els.ix els Es;obtain⟨b5,off5,cs5,rfl,i1,i2,q5,hc5⟩:=hz;obtain rfl:=Flat.iff.1 q5;have hz:=Td.pieces;obtain⟨a6,c6,h6,hs6⟩:=hz;refine Zq rfl (fun _ hS=>Ac rfl AE1 ((Bx.cs (dt.ext (hS.resolve_left nofun))).at 0 rfl)) (Ext.refl _)<|Zp rfl (fun _=>XB rfl)<|Zp rfl (fun _=>BH rfl AGp)<|Zq rfl (fun _ hS=>Ac rfl AMU (AHX h4 (hS.resolve_left nofun))) (Ext.refl _)<|Zq rfl (fun _ hS=>Ac rfl Ap ((Bx.cs (d3.ext (hS.resolve_left nofun))).at 0 rfl)) (Ext.refl _)<|Zp rfl (fun _=>CG rfl rfl Tryz.underlying51 APX i1 i2)<|Zp rfl (fun _=>BH rfl AJ2)<|Zq rfl (fun _ hS=>Ac rfl Ap ((hc5.ext (hS.resolve_left nofun)).at 0 rfl)) (Ext.refl _)<|Zp rfl (fun _=>APe rfl rfl Eo)<|Zp rfl (fun _=>xas)<|Zr<|Zv (Ac rfl AE1 ((Bx.cs dt).at 0 rfl))<|Zv (XB rfl)<|Zv (BH rfl ARQ)<|Zv (BH rfl ASH)<|Zv (Ac rfl AVp h6)<|Zv (DF rfl Tryz.underlying46)<|Zv (APe rfl rfl Et)<|Zm<|nl<|?_;have hjd:J 0 wd:=hJ 0 _ _ h0 hxd;have Kd:BelP ok w.heap.size w wd:=BelP.of (kW.tr hxd) (Nat.le_refl _);refine wp_block<|lp (I:=fun m' L w1=>∃(k:Nat)(pre:List wS),k+m'=top.toNat/\ADE own step top.toNat 0=pre++ADE own step m' k/\L 22=.int .i64 (k:Int)/\L 21=.int .i64 top/\L 4=.int .i64 own/\L 0=.func (.yield ll) #[] #[]/\L 1=.pointer (some ⟨bt,0,none⟩)/\L 2=.pointer (some ⟨b3,0,none⟩)/\J pre.length w1/\BelP ok w.heap.size w w1) top.toNat
  ⟨0,[],by simp,rfl,rfl,rfl,rfl,rfl,rfl,rfl,hjd,Kd⟩ ?_
 rintro m' L w1⟨k,pre,hk,hl,l22,l21,l4,l0,l1,l2,hj,hx⟩;refine Zr<|Zv (Jr l22 l21)<|nl<|wp_seq<|cnd rfl (fun hc0=>?_) (fun hc0=>?_)
 ·have hc0:(k:Int)<top:=by simpa using hc0
  obtain⟨n,rfl⟩:∃n,m'=n+1:=⟨m'-1,by omega⟩;rw[ADE]at hl;have hadd:BA ((k:Int)+1)=((k+1:Nat):Int):=by
   rw[BA,IntWalk.i64_in _ (by omega)]
   rfl
  have d31:=h3.belp hx h3.lt n2;refine wp_skip<|wp_seq<|wp_block<|Zr<|Zv (Pv l22)<|Za<|nl<|wp_seq<|rgW (m:=m)<|vlW rfl rfl nofun iL<|vlW rfl rfl nofun (Pv l4)<|vlW rfl rfl nofun (ASQ rfl rfl)<|vlW rfl rfl nofun (zV rfl rfl)<|vlW rfl rfl nofun iL<|Or.elim (Bool.eq_false_or_eq_true (!decide (band .i64 (k:Int) own=0))) (fun hg=>?_) (fun hg=>?_)
  ·rw[if_pos hg]at hl
   have hus:((ADE own step top.toNat 0).map fun u=>(#[fv u]:Array Value))[pre.length]?=some #[fv (((k:Int),step):wS)]:=by
    rw[List.getElem?_map,hl,List.getElem?_append_right (Nat.le_refl _),Nat.sub_self]
    rfl
   have hz:=hY pre.length _ w1 hus hj;obtain⟨fn,tmps,assign,body,hy,hR⟩:=hz;refine gtW rfl rfl rfl rfl rfl (Md.bt hg)<|vlW rfl rfl nofun (Pv l0)<|gtW rfl rfl rfl rfl rfl (Md.bt hg)<|vlW rfl rfl nofun iL<|gtW rfl rfl rfl rfl rfl (Md.bt hg)<|vlW rfl rfl nofun (Ac l2 Ap ((Bx.cs d31).at 0 rfl))<|gtW rfl rfl rfl rfl rfl (Md.bt hg)<|vlW rfl rfl nofun (ACI (r:=[.int .i64 (k:Int),.int .i64 step]) AFo AQh (pc rfl (pc rfl pn)) rfl)<|gtW rfl rfl rfl rfl rfl (Md.bt hg)<|ylW rfl rfl nofun (xyl rfl (mc rfl mn) hy) hR fun e w5 he=>?_;rcases he with⟨rfl,hj5,k5⟩|⟨rfl,hj5⟩
   ·refine⟨_,rfl,gtW rfl rfl rfl rfl rfl (Md.bt hg)<|vlW rfl rfl nofun (yC rfl)<|vlW rfl rfl nofun (yw rfl hg rfl)<|nlW<|cnd rfl (fun h=>by cases h) (fun _=>?_)⟩
    refine wp_skip<|rg<|Zv (FH l22 rfl)<|Zm<|nl<|lq n (Nat.lt_succ_self _) ⟨k+1,pre++[((k:Int),step)],by omega,by rw[hl,List.append_assoc];rfl,congrArg _ hadd,l21,l4,l0,l1,l2,?_,hx.trans k5⟩;rw[List.length_append];exact hj5
   ·refine⟨_,rfl,gtW rfl rfl rfl rfl rfl (Md.bt hg)<|vlW rfl rfl nofun (yC rfl)<|vlW rfl rfl nofun (yw rfl hg rfl)<|nlW<|cnd rfl (fun _=>?_) (fun h=>by cases h)⟩
    exact wp_ret<|rt rfl .nil (.inr hj5)
  ·rw[if_neg (by rw[hg];simp)]at hl
   refine gfW rfl rfl rfl rfl rfl (DJ hg) rfl<|gfW rfl rfl rfl rfl rfl (DJ hg) rfl<|gfW rfl rfl rfl rfl rfl (DJ hg) rfl<|gfW rfl rfl rfl rfl rfl (DJ hg) rfl<|gfW rfl rfl rfl rfl rfl (DJ hg) rfl<|gfW rfl rfl rfl rfl rfl (DJ hg) rfl<|vlW rfl rfl nofun (xpf rfl hg rfl)<|nlW<|cnd rfl (fun h=>by cases h) (fun _=>?_);refine wp_skip<|rg<|Zv (FH l22 rfl)<|Zm<|nl<|lq n (Nat.lt_succ_self _) ⟨k+1,pre,by omega,hl,congrArg _ hadd,l21,l4,l0,l1,l2,hj,hx⟩
 ·have hc0:¬(k:Int)<top:=by simpa using hc0
  obtain rfl:m'=0:=by omega
  rw[ADE]at hl;refine wp_exit<|rtn rfl .nil (.inl ?_);rw[List.length_map,hl,List.append_nil];exact hj
def StV(lo:Nat)(w:World)(v:Value)(step:Int)(b:Nat):Prop:=∃bt b3,v=.func (.func 308) #[] #[.pointer (some ⟨bt,0,none⟩),.pointer (some ⟨b3,0,none⟩)]/\
 Bx w bt 177 [.pointer (some ⟨b,0,none⟩)]/\Bx w b3 3 [.int .i64 step]/\lo<=bt/\lo<=b3
theorem StV.go{lo:Nat}{w:World}{v:Value}{step:Int}{b ma mu N:Nat}{ok:Nat->Prop}{x:zO}{l:List wS}(h:StV lo w v step b)(hT:Tb N w b ma mu x)(hok:∀q,q<N->q≠ma->q≠mu->ok q)(hlo:∀q,lo<=q->ok q)(hL:AFS x step=some l)(m:Nat):
  ∃gf cs,v=.func (.func gf) #[] cs/\Ad Tryz.prog gf/\ADl Tryz.prog (BelP ok w.heap.size) m gf cs (l.map fun u=>#[fv u]) w:=by
 obtain⟨bt,b3,rfl,h2,h3,h5,h6⟩:=h;exact⟨308,_,rfl,AUU,AS5 h2 h3 (hlo _ h5) (hlo _ h6) hT hok hL⟩

end Go.Proofs.YtfmelbioccbdoaaGreat
end
section
namespace Go.Md
open Go Go.RowKit
section
section
variable {P:Program}{Q:Exit->Act->World->Prop}{m n:Nat}{L:Fr}{D:List Deferred}{w:World}
end
end
section
section
variable {κ ν:Type}[DecidableEq κ][Enc κ][Flat κ][Key κ][Enc ν][Flat ν]
def MpS(w:World)(b:Nat)(l:List (κ×ν)):Prop:=
 ∃es clock,w.heap[b]?=some (.map es clock)/\es.toList.map (fun e=>(e.key,e.val))=l.map (fun p=>(fv p.1,fv p.2))/\(l.map (·.1)).Nodup/\(∀p∈l,Key.ok p.1=true)/\
  (es.toList.map (·.born)).Nodup/\∀e∈es.toList,e.born<clock
variable {w w':World}{b:Nat}{l:List (κ×ν)}
omit [DecidableEq κ]in
theorem MpS.mp(h:MpS w b l):Mp w b l:=by
 obtain⟨es,c,h1,h2,h3,h4,_⟩:=h;exact⟨es,c,h1,h2,h3,h4⟩
omit [DecidableEq κ]in
theorem MpS.same(h:MpS w b l)(k:w'.heap[b]?=w.heap[b]?):MpS w' b l:=by
 obtain⟨es,c,h1,h⟩:=h;exact⟨es,c,k.trans h1,h⟩
omit [DecidableEq κ]in
theorem MpS.lt(h:MpS w b l):b<w.heap.size:=by
 obtain⟨es,c,h1,_⟩:=h;exact(Array.getElem?_eq_some_iff.1 h1).1
omit [DecidableEq κ]in
theorem MpS.ext(h:MpS w b l)(k:Ext w w'):MpS w' b l:=h.same (k.block b h.lt)
omit [DecidableEq κ]in
theorem MpS.chg{c:Nat}(h:MpS w b l)(k:Chg c w w')(hne:b≠c):MpS w' b l:=h.same (k.other b hne)
omit [DecidableEq κ]in
theorem MpS.belp{ok:Nat->Prop}{N:Nat}(h:MpS w b l)(k:BelP ok N w w')(hb:b<N)(h1:ok b):MpS w' b l:=h.same (k.block b hb h1)
omit [DecidableEq κ]in
theorem MpS.tak{B:Nat}(h:MpS w b l)(k:Tak B w w'):MpS w' b l:=by
 obtain⟨es,c,h1,h⟩:=h;exact⟨es,c,k.old _ _ h1 nofun,h⟩
omit [DecidableEq κ]in
theorem MpS.asg{B:Nat}(h:MpS w b l)(k:Asg B w w')(hb:b<B):MpS w' b l:=by
 obtain⟨W1,q,o,hl,h1,h2,h3,_,h4⟩:=k;exact(h.ext h1).chg h4 (by omega)
omit [DecidableEq κ]in
theorem Okb.mps{B:Nat}(hb:b<B):Okb B (fun w=>MpS w b l):=⟨fun h k=>h.ext k,fun h hB _ _ k=>h.chg k (by omega)⟩
omit [DecidableEq κ]in
theorem MpS.below{B:Nat}(h:MpS w b l)(k:Below B w w')(hB:b<B):MpS w' b l:=h.same (k.block b hB)
omit [DecidableEq κ]in
theorem MpS.new(w:World):MpS (κ:=κ) (ν:=ν) (w.alloc (.map #[] 0)) w.heap.size []:=
 ⟨#[],0,by show(w.heap.push _)[w.heap.size]?=_;rw[Array.getElem?_push,if_pos rfl],rfl,by simp,by simp,by simp,by simp⟩
end
section
variable {P:Program}{Q:Exit->Act->World->Prop}{n:Nat}{L:Fr}{D:List Deferred}{w:World}{ops:Array Oper}{rest:List Oper}
variable {ty:TypeId}{pos:String}{af:Array Edge}{x y z:Operand}{t tk te:TypeId}
variable {κ ν:Type}[DecidableEq κ][Enc κ][Flat κ][Key κ][Enc ν][Flat ν]
theorem ANa{d:Nat}(cont:∀b w',Ext w w'->w.heap.size<=b->MpS (κ:=κ) (ν:=ν) w' b []->wpList P ops Q rest (act n (upd L d (.map (some b))) D) w'):
  wpList P ops Q ({dst:=some d,op:=.makeMap t none,type:=ty,pos:=pos,after:=af,guard:=none}::rest) (act n L D) w:=
 Zv (v:=.map (some w.heap.size)) (w':=w.alloc (.map #[] 0)) (by simp[execOp,RowKit.run_makeMap]) (cont _ _ (Ext.alloc _ _) (Nat.le_refl _) (MpS.new w))
end
end
end Go.Md
end
section
namespace Go.Proofs.YtfmelbioccbdoaaGreat
open Go Go.Md Go.RowKit
attribute [local irreducible] Go.wpList Go.Code.wp Go.Calls Go.Md.vZ Go.Md.Mt Go.Md.xE Go.Md.uT Go.Code.wpIn Go.wpListIn

end Go.Proofs.YtfmelbioccbdoaaGreat
end
section
namespace Go.Proofs.YtfmelbioccbdoaaGreat
open Go Go.Md Go.RowKit
attribute [local irreducible] Go.wpList Go.Code.wp Go.Calls Go.Md.vZ Go.Md.Mt Go.Md.xE Go.Md.uT Go.Code.wpIn

end Go.Proofs.YtfmelbioccbdoaaGreat
end
section
namespace Go.Proofs.YtfmelbioccbdoaaGreat
open Go Go.Md Go.RowKit
attribute [local irreducible] Go.wpList Go.Code.wp Go.Calls Go.Md.vZ Go.Md.Mt Go.Md.xE Go.Md.uT Go.Code.wpIn Go.wpListIn
theorem TbN.get{M:Nat}{w:World}{v:Value}{x:Ob zO}(h:TbN M w v x):∃y b ma mu,x=⟨some y⟩/\v=.pointer (some ⟨b,0,none⟩)/\Tb w.heap.size w b ma mu y/\Mp (κ:=wS) (ν:=Int) w ma []/\Mp (κ:=wS) (ν:=Int) w mu []/\M<=ma/\M<=mu:=by
 obtain⟨y,b,ma,mu,rfl,hP⟩:=h;have h1:=hP.tb;obtain⟨_,_,_,_,_,_,_,h2,h3⟩:=hP;exact⟨y,b,ma,mu,rfl,h1.1,h1.2.1,h1.2.2.1,h1.2.2.2,h2,h3⟩

end Go.Proofs.YtfmelbioccbdoaaGreat
end
section
namespace Go.Md
open Go Go.RowKit
section
section
variable {κ ν:Type}[DecidableEq κ][Enc κ][Flat κ][Key κ][Enc ν][Flat ν]
def Rg(w:World)(r b:Nat)(l:List (κ×ν))(lf:κ->Bool):Prop:=
 ∃es clock seen,w.heap[r]?=some (.mapIter (some b) clock seen clock)/\w.heap[b]?=some (.map es clock)/\es.toList.map (fun e=>(e.key,e.val))=l.map (fun p=>(fv p.1,fv p.2))/\(l.map (·.1)).Nodup/\(∀p∈l,Key.ok p.1=true)/\
  (es.toList.map (·.born)).Nodup/\(∀e∈es.toList,e.born<clock)/\∀(i:Nat)(e:MapEntry)(p:κ×ν),es.toList[i]?=some e->l[i]?=some p->seen.contains e.born=!lf p.1
variable {w w':World}{r b:Nat}{l:List (κ×ν)}{lf:κ->Bool}
omit [DecidableEq κ]in
theorem Rg.mps(h:Rg w r b l lf):MpS w b l:=by
 obtain⟨es,c,s,_,h2,h3,h4,h5,h6,h7,_⟩:=h;exact⟨es,c,h2,h3,h4,h5,h6,h7⟩
omit [DecidableEq κ]in
theorem Rg.same(h:Rg w r b l lf)(k1:w'.heap[r]?=w.heap[r]?)(k2:w'.heap[b]?=w.heap[b]?):Rg w' r b l lf:=by
 obtain⟨es,c,s,h1,h2,h⟩:=h;exact⟨es,c,s,k1.trans h1,k2.trans h2,h⟩
omit [DecidableEq κ]in
theorem Rg.ltr(h:Rg w r b l lf):r<w.heap.size:=by
 obtain⟨es,c,s,h1,_⟩:=h;exact(Array.getElem?_eq_some_iff.1 h1).1
omit [DecidableEq κ]in
theorem Rg.ext(h:Rg w r b l lf)(k:Ext w w'):Rg w' r b l lf:=h.same (k.block r h.ltr) (k.block b h.mps.lt)
omit [DecidableEq κ]in
theorem Rg.chg{c:Nat}(h:Rg w r b l lf)(k:Chg c w w')(h1:r≠c)(h2:b≠c):Rg w' r b l lf:=h.same (k.other r h1) (k.other b h2)
omit [DecidableEq κ]in
theorem Rg.new(h:MpS w b l):Rg (w.alloc (.mapIter (some b) ((match w.heap[b]? with|some (.map _ c)=>c|_=>0)) #[] (match w.heap[b]? with|some (.map _ c)=>c|_=>0))) w.heap.size b l (fun _=>true):=by
 obtain⟨es,c,h1,h2,h3,h4,h5,h6⟩:=h;rw[h1];refine⟨es,c,#[],heap_alloc_new _ _,?_,h2,h3,h4,h5,h6,fun i e p _ _=>by simp⟩;rw[heap_alloc_old _ _ (Array.getElem?_eq_some_iff.1 h1).1];exact h1
theorem Rg.next{P:Program}{ty:TypeId}(h:Rg w r b l lf):
  ((∀p∈l,lf p.1=false)/\(Instr.next (.pointer (some ⟨r,0,none⟩)) false ty).run P w=.ok (.tuple #[.bool false]) w)\/
  ∃p w',p∈l/\lf p.1=true/\(Instr.next (.pointer (some ⟨r,0,none⟩)) false ty).run P w=.ok (.tuple #[.bool true,fv p.1,fv p.2]) w'/\BelP (fun q=>q≠r) w.heap.size w w'/\w'.heap.size=w.heap.size/\
   (Instr.entry (.pointer (some ⟨r,0,none⟩))).run P w'=.ok (.tuple #[fv p.1,fv p.2]) w'/\Rg w' r b l (fun k=>lf k&& !decide (k=p.1)):=by
 obtain⟨es,c,seen,h1,h2,h3,h4,h5,h6,h7,h8⟩:=h;have hlen:es.toList.length=l.length:=by have:=congrArg List.length h3;simpa using this
 have hrb:r≠b:=by rintro rfl;rw[h1]at h2;cases h2
 rcases run_next_at (P:=P) w ty r b c c seen es c h1 h2 h7 (Nat.le_refl _)with⟨g1,g2⟩|⟨e,he,w1,hw1,g2⟩
 ·refine .inl ⟨fun p hp=>?_,g2⟩
  obtain⟨i,hi,rfl⟩:=List.getElem_of_mem hp;have hi':i<es.toList.length:=by omega
  have:=h8 i es.toList[i] l[i] (List.getElem?_eq_getElem hi') (List.getElem?_eq_getElem hi);cases hlf:lf l[i].1 with
  |false=>rfl
  |true=>
   rw[hlf]at this;have hm:es.toList[i]∈(leftOf es seen).toList:=by
    unfold leftOf;simp only[Array.toList_filter,List.mem_filter];exact⟨List.getElem_mem _,by rw[this];rfl⟩
   have h0:(leftOf es seen).toList=[]:=by
    apply List.eq_nil_of_length_eq_zero;simpa using g1
   rw[h0]at hm;cases hm
 ·have hm:e∈es.toList/\seen.contains e.born=false:=by
   unfold leftOf at he;simp only[Array.toList_filter,List.mem_filter]at he;exact⟨he.1,by simpa using he.2⟩
  obtain⟨i,hi,rfl⟩:=List.getElem_of_mem hm.1;have hil:i<l.length:=by omega
  obtain⟨p,hp,e1,e2⟩:=AJn h3 (List.getElem?_eq_getElem hi);have hlf:=h8 i _ p (List.getElem?_eq_getElem hi) hp;rw[hm.2]at hlf;have hlt:lf p.1=true:=by
   cases h:lf p.1 with
   |true=>rfl
   |false=>rw[h]at hlf;cases hlf
  have hr1:w1.heap[r]?=some (.mapIter (some b) c seen c):=by rcases hw1 with rfl|rfl<;>exact h1
  have hb1:w1.heap[b]?=some (.map es c):=by rcases hw1 with rfl|rfl<;>exact h2
  have hrl:r<w1.heap.size:=(Array.getElem?_eq_some_iff.1 hr1).1;have hset:(ChangeMaps.setBlock w1 r (.mapIter (some b) c (seen.push es.toList[i].born) c)).heap[r]?=some (.mapIter (some b) c (seen.push es.toList[i].born) c):=by
   simp[ChangeMaps.setBlock,hrl]
  have hoth:∀q,q≠r->(ChangeMaps.setBlock w1 r (.mapIter (some b) c (seen.push es.toList[i].born) c)).heap[q]?=w.heap[q]?:=fun q hq=>by
   have:(ChangeMaps.setBlock w1 r (.mapIter (some b) c (seen.push es.toList[i].born) c)).heap[q]?=w1.heap[q]?:=by
    simp only[ChangeMaps.setBlock];rw[Array.getElem?_setIfInBounds_ne (Ne.symm hq)]
   rw[this];rcases hw1 with rfl|rfl<;>rfl
  have hsz:(ChangeMaps.setBlock w1 r (.mapIter (some b) c (seen.push es.toList[i].born) c)).heap.size=w.heap.size:=by
   simp only[ChangeMaps.setBlock,Array.size_setIfInBounds];rcases hw1 with rfl|rfl<;>rfl
  refine .inr ⟨p,_,List.mem_of_getElem? hp,hlt,by rw[<-e1,<-e2];exact g2,⟨?_,?_,?_,by rw[hsz];exact Nat.le_refl _,fun q _ hq=>hoth q hq⟩,hsz,?_,?_⟩
  ·rcases hw1 with rfl|rfl<;>rfl
  ·rcases hw1 with rfl|rfl<;>rfl
  ·rcases hw1 with rfl|rfl<;>rfl
  ·rw[<-e1,<-e2]
   exact run_entry_at _ r b c seen es c _ hset ((hoth b (Ne.symm hrb)).trans h2) hm.1 h6
  ·refine⟨es,c,_,hset,(hoth b (Ne.symm hrb)).trans h2,h3,h4,h5,h6,h7,fun j e p2 he2 hp2=>?_⟩
   have hj:=h8 j e p2 he2 hp2;by_cases hij:j=i
   ·subst hij
    rw[List.getElem?_eq_getElem hi]at he2;cases he2;rw[hp]at hp2;cases hp2;simp
   ·have hne:e.born≠es.toList[i].born:=fun eb=>by
     have h9:=List.pairwise_iff_getElem.1 h6;have hjl:j<es.toList.length:=(List.getElem?_eq_some_iff.1 he2).1;have he3:es.toList[j]=e:=by rw[List.getElem?_eq_getElem hjl]at he2;exact Option.some.inj he2
     rcases Nat.lt_or_gt_of_ne hij with h|h
     ·have:=h9 j i (by simpa using hjl) (by simpa using hi) h
      simp only[List.getElem_map]at this;rw[he3]at this;exact this eb
     ·have:=h9 i j (by simpa using hi) (by simpa using hjl) h
      simp only[List.getElem_map]at this;rw[he3]at this;exact this eb.symm
    have hnk:p2.1≠p.1:=fun ek=>by
     have h9:=List.pairwise_iff_getElem.1 h4;have hjl:j<l.length:=(List.getElem?_eq_some_iff.1 hp2).1;have hp3:l[j]=p2:=by rw[List.getElem?_eq_getElem hjl]at hp2;exact Option.some.inj hp2
     have hp4:l[i]=p:=by rw[List.getElem?_eq_getElem hil]at hp;exact Option.some.inj hp
     rcases Nat.lt_or_gt_of_ne hij with h|h
     ·have:=h9 j i (by simpa using hjl) (by simpa using hil) h
      simp only[List.getElem_map]at this;rw[hp3,hp4]at this;exact this ek
     ·have:=h9 i j (by simpa using hil) (by simpa using hjl) h
      simp only[List.getElem_map]at this;rw[hp3,hp4]at this;exact this ek.symm
    have:(seen.push es.toList[i].born).contains e.born=seen.contains e.born:=by
     have hb1:(e.born==es.toList[i].born)=false:=by simpa using hne
     have hb2:(es.toList[i].born==e.born)=false:=by simpa using Ne.symm hne
     rw[Array.contains_push];simp only[hb1,hb2,Bool.or_false,Bool.false_or]
    rw[this,hj];simp[hnk]
theorem Rg.del{P:Program}{t tk te ty:TypeId}{k:κ}(ht:P.underlying t=some (.map tk te))(K:KT P tk κ)(h:Rg w r b l lf)(hk:Key.ok k=true):
  ∃w',(Builtin.delete_ #[t,tk] ty #[.map (some b),fv k]).run P w=.ok (.tuple #[]) w'/\Chg b w w'/\Rg w' r b (xk l k) lf:=by
 obtain⟨es,c,seen,h1,hb,he,hn,hok,hs,hc,h8⟩:=h;have hrb:r≠b:=by rintro rfl;rw[h1]at hb;cases hb
 obtain⟨lk,hlk⟩:=K.of k hk;have hok':∀p∈xk l k,Key.ok p.1=true:=fun p hp=>hok p (AFq hp);rcases Mp.find K he hok hk w with⟨g1,g2⟩|⟨j,u,g1,g2,e,g3,g4⟩
 ·obtain⟨h5,h6⟩:=AC7 (w:=w) (o:=.map es c) hb
  refine⟨_,?_,h5,es,c,seen,(h5.other r hrb).trans h1,h6,?_⟩
  ·simp[Builtin.delete_,run_underlying ht,MapKept.run_getObj_map hb,K.kd.check w _ hlk,g1,MapKept.run_setObj_map _ hb,Result.andThen,ChangeMaps.setBlock]
  ·by_cases hl:l=[]
   ·subst hl
    exact⟨he,by simp[xk],by simp[xk],hs,hc,fun i e p _ hp=>by simp[xk]at hp⟩
   ·obtain⟨p,hp⟩:=List.exists_mem_of_ne_nil l hl
    have hm:xk l k=l:=(ACW (d:=p.2) g2).2.2.2;rw[hm];exact⟨he,hn,hok,hs,hc,h8⟩
 ·obtain⟨h5,h6⟩:=AC7 (w:=w) (o:=.map (es.eraseIdxIfInBounds j) c) hb
  have hjs:j<es.size:=(Array.getElem?_eq_some_iff.1 g3).1;have hsub:(es.eraseIdxIfInBounds j).toList=es.toList.eraseIdx j:=by
   unfold Array.eraseIdxIfInBounds;rw[dif_pos hjs];simp
  have hm:xk l k=l.eraseIdx j:=(AC6 (d:=u) hn g2).2.2.2;refine⟨_,?_,h5,_,c,seen,(h5.other r hrb).trans h1,h6,?_,AEO hn,hok',?_,?_,?_⟩
  ·simp[Builtin.delete_,run_underlying ht,MapKept.run_getObj_map hb,K.kd.check w _ hlk,g1,MapKept.run_setObj_map _ hb,Result.andThen,ChangeMaps.setBlock]
  ·rw[hm,hsub,ChangeMaps.map_eraseIdx,he,ChangeMaps.map_eraseIdx]
  ·rw[hsub,ChangeMaps.map_eraseIdx]
   exact hs.sublist (List.eraseIdx_sublist _ _)
  ·intro e he2
   rw[hsub]at he2;exact hc e (List.mem_of_mem_eraseIdx he2)
  ·intro i e p he2 hp2
   rw[hsub,List.getElem?_eraseIdx]at he2;rw[hm,List.getElem?_eraseIdx]at hp2;split at he2
   ·rename_i h;rw[if_pos h]at hp2;exact h8 i e p he2 hp2
   ·rename_i h;rw[if_neg h]at hp2;exact h8 (i+1) e p he2 hp2
theorem AHI{k:κ}:∀{l:List (κ×ν)},(l.map (·.1)).Nodup->xk l k=l.filter (fun p=>!decide (p.1=k))
 |[],_=>rfl
 |(a,c)::l,h=>by
  simp only[List.map_cons,List.nodup_cons]at h;by_cases e:a=k
  ·subst e
   have:l.filter (fun p=>!decide (p.1=a))=l:=List.filter_eq_self.2 fun p hp=>by
    have:p.1≠a:=fun e=>h.1 (List.mem_map.2 ⟨p,hp,e⟩);simp[this]
   simp[xk,this]
  ·simp[xk,e,AHI h.2]
end
section
variable {P:Program}{Q:Exit->Act->World->Prop}{n:Nat}{L:Fr}{D:List Deferred}{w:World}{ops:Array Oper}{rest:List Oper}
variable {ty:TypeId}{pos:String}{af:Array Edge}{x y:Operand}{t tk te:TypeId}
variable {κ ν:Type}[DecidableEq κ][Enc κ][Flat κ][Key κ][Enc ν][Flat ν]
omit [DecidableEq κ]in
theorem AWn{d b:Nat}{l:List (κ×ν)}(hx:ev n L x=.map (some b))(ht:P.underlying t=some (.map tk te))(h:MpS w b l)
  (cont:∀r w',Ext w w'->w.heap.size<=r->Rg w' r b l (fun _=>true)->wpList P ops Q rest (act n (upd L d (.pointer (some ⟨r,0,none⟩))) D) w'):
  wpList P ops Q ({dst:=some d,op:=.range t x,type:=ty,pos:=pos,after:=af,guard:=none}::rest) (act n L D) w:=by
 have hR:=Rg.new h;obtain⟨es,c,h1,_⟩:=h;rw[h1]at hR;exact Zv (by simp[execOp,hx,run_range_map w t tk te b es c ht h1]) (cont _ _ (Ext.alloc _ _) (Nat.le_refl _) hR)
theorem AWo{d r b:Nat}{l:List (κ×ν)}{lf:κ->Bool}(hx:ev n L x=.pointer (some ⟨r,0,none⟩))(h:Rg w r b l lf)
  (h0:(∀p∈l,lf p.1=false)->wpList P ops Q rest (act n (upd L d (.tuple #[.bool false])) D) w)
  (h1:∀p w',p∈l->lf p.1=true->BelP (fun q=>q≠r) w.heap.size w w'->w'.heap.size=w.heap.size->(Instr.entry (.pointer (some ⟨r,0,none⟩))).run P w'=.ok (.tuple #[fv p.1,fv p.2]) w'->Rg w' r b l (fun k=>lf k&& !decide (k=p.1))->
   wpList P ops Q rest (act n (upd L d (.tuple #[.bool true,fv p.1,fv p.2])) D) w'):
  wpList P ops Q ({dst:=some d,op:=.next x false,type:=ty,pos:=pos,after:=af,guard:=none}::rest) (act n L D) w:=by
 rcases h.next (P:=P) (ty:=ty)with⟨g1,g2⟩|⟨p,w',g1,g2,g3,g4,g5,g6,g7⟩
 ·exact Zv (by simp[execOp,hx,g2]) (h0 g1)
 ·exact Zv (by simp[execOp,hx,g3]) (h1 p w' g1 g2 g4 g5 g6 g7)
omit [DecidableEq κ] [Key κ]in
theorem AWp{d r:Nat}{k:κ}{v:ν}(hx:ev n L x=.pointer (some ⟨r,0,none⟩))(h:(Instr.entry (.pointer (some ⟨r,0,none⟩))).run P w=.ok (.tuple #[fv k,fv v]) w):
  (execOp (ev n L) {dst:=some d,op:=.entry x,type:=ty,pos:=pos,after:=af,guard:=none}).run P w=.ok (.value (.tuple #[fv k,fv v])) w:=by
 simp[execOp,hx,h]
theorem AU2{r b:Nat}{l:List (κ×ν)}{lf:κ->Bool}{k:κ}(hx:ev n L x=.map (some b))(hy:ev n L y=fv k)(ht:P.underlying t=some (.map tk te))(K:KT P tk κ)(h:Rg w r b l lf)(hk:Key.ok k=true)
  (cont:∀w',Chg b w w'->Rg w' r b (xk l k) lf->wpList P ops Q rest (act n L D) w'):
  wpList P ops Q ({dst:=none,op:=.call {callee:=.builtin .delete,args:=#[x,y],argTypes:=#[t,tk]},type:=ty,pos:=pos,after:=af,guard:=none}::rest) (act n L D) w:=by
 obtain⟨w',hr,h1,h2⟩:=h.del (P:=P) (ty:=ty) ht K hk;refine wpList_plain rfl fun K hK=>?_;simp only[Oper.wp,yZ,execOp,resolve,invoke,Go.builtin,List.map_toArray,List.map_cons,List.map_nil,hx,hy,Sem.run_bind,Sem.run_pure,hr,Result.andThen,Oper.upon];exact hK _ _ (cont w' h1 h2)
end
end
end Go.Md
end
section
namespace Go.Proofs.YtfmelbioccbdoaaGreat
open Go Go.Md Go.RowKit
attribute [local irreducible] Go.wpList Go.Code.wp Go.Calls Go.Md.vZ Go.Md.Mt Go.Md.xE Go.Md.uT Go.Code.wpIn Go.wpListIn
theorem Tb.below{N B:Nat}{w w1:World}{b ma mu:Nat}{x:zO}(h:Tb N w b ma mu x)(k:Below B w w1)(hB:N<=B):Tb N w1 b ma mu x:=
 h.belp (ok:=fun _=>True) (M:=B) ⟨k.os,k.tape,k.output,k.size,fun q hq _=>k.block q hq⟩ hB (fun _ _ _ _=>trivial)

end Go.Proofs.YtfmelbioccbdoaaGreat
end
section
namespace Go.Proofs.YtfmelbioccbdoaaGreat
open Go Go.Md Go.RowKit

end Go.Proofs.YtfmelbioccbdoaaGreat
end
