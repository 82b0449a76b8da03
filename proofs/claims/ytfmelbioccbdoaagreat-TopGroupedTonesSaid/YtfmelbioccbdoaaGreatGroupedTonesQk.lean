/-
  Part 11 of 13 of what the last text stands on: lemmas about the model, pure functions, walks, laws in plain Lean; each part's own head says its condition. Merged by a program of our own.
-/
import Derived.Test.YtfmelbioccbdoaaGreatGroupedTonesQj
import Derived.Scope
import Derived.IntWalk
import Derived.RangeFuncNested
import Derived.Maps.RangeRun
set_option maxHeartbeats 0
set_option linter.all false
section
namespace Go.Proofs.YtfmelbioccbdoaaGreat
open Go Go.Md Go.RowKit
theorem AMn{f:FuncId}(h:∀w,Calls Tryz.prog f #[] w fun e w'=>e=.returned (.bool true)/\Below w.heap.size w w'){w0:World}{r:Bool}(hr:some true=some r):
  Calls Tryz.prog f [].toArray w0 (aZ fun v w'=>v=.bool r/\Ext w0 w'):=by
 cases hr;exact(h w0).mono fun e w' h=>⟨_,h.1,rfl,h.2⟩
def AEN(_:Nat):Option Bool:=some true
theorem AQd{w0:World}{F:Nat}{r:Bool}(hF:AEN F=some r):Calls Tryz.prog 159 [].toArray w0 (aZ fun v w'=>v=.bool r/\Ext w0 w'):=AMn AO0 hF

def ACF(x0:(ZTc×(List (Int×Bool))×(Ar 16 (Ar 16 Int))×Opq×Opq))(x1:(Int×Int))(x2:Int):Option (Int×Int):=
 (ix x0.2.1 x2)>>=fun x4=>
 (shl .i64 1 x4.1)>>=fun x5=>
 some (bor .i64 x1.1 x5,x2)
def AA4(x0:Int)(x1:(Int×Int))(x2:(Ob (ZTc×(List (Int×Bool))×(Ar 16 (Ar 16 Int))×Opq×Opq))):Option Bool:=
 (x2.v)>>=fun x4=>
 (ix x4.2.1 x0)>>=fun x5=>
 (shr .i64 x1.1 x5.1)>>=fun x6=>
 some (decide ((band .i64 x6 1)=0))
end Go.Proofs.YtfmelbioccbdoaaGreat
end
section
namespace Go.Proofs.YtfmelbioccbdoaaGreat
open Go Go.Md Go.RowKit
attribute [local irreducible] Go.wpList Go.Code.wp Go.Calls Go.Md.vI Go.Md.Mt Go.Md.wR Go.Md.iL Go.Code.wpIn
theorem c97{w0:World}{b0:Nat}{cs0:List Value}{x0:(Uno (List ((Int×Int)×Int)))}(h0:Cs w0 b0 0 cs0)(q0:Enc.rep (fun _=>True) w0 cs0 x0){v1:Value}{x1:(Int×Int)}(r1:RV w0 v1 x1){F:Nat}{r:((List Int)×(List Int))}(hF:wQ F x0 x1=some r):
  Calls Tryz.prog 97 [.pointer (some ⟨b0,0,none⟩),v1].toArray w0 (aZ fun v w'=>∃u0 u1:Value,v=.tuple #[u0,u1]/\Row 2 w0.heap.size w' u0 r.1/\Row 3 w0.heap.size w' u1 r.2/\Ext w0 w'):=by
 unfold wQ at hF;obtain⟨a1,cq1,rfl,p1,q3,e1⟩:=q0;have r3:=RV.of1 p1 q3 e1;have hz:=id r1;obtain⟨_,rfl,_,_,rfl,rfl,rfl⟩:=hz;have M1:Mks w0.heap.size [] w0:=Mks.nil;refine ANK (m:=12) (n:=52) Tryz.func97 rfl rfl rfl<|Zr<|sbx rfl rfl fun b3 w1 hx1 hg1 hb1=>?_;have M2:=M1.ext hx1;refine Za<|Za<|nl<|wp_scope_straight<|Zr<|sal AJR fun b4 w2 hx2 hg2 hb2=>?_;have k1:=hx1.tr hx2;have M3:=M2.ext hx2;refine nl<|Zr<|sal xX fun b5 w3 hx3 hg3 hb4=>?_;have k2:=k1.tr hx3;have k3:=hx2.tr hx3;have M4:=M3.ext hx3;have hb6:=hb2.ext hx3;refine nl<|Zr<|sal wL fun b6 w4 hx4 hg4 hb7=>?_;have k4:=k2.tr hx4;have k5:=k3.tr hx4;have M5:=M4.ext hx4;refine zo rfl rfl rfl wL hb7 rfl rfl (ble rfl) fun w5 hch1 hb11=>?_;have k7:=Ext.chg k4 hch1 (Nat.le_trans k2.size hg4);have k8:=Ext.chg k5 hch1 (Nat.le_trans k3.size hg4);have k10:=Ext.chg hx4 hch1 (Nat.le_trans (Nat.le_refl _) hg4);have M6:=M5.chg hch1 hb7.nd;have hb13:=hb6.ext k10;have hb14:=hb4.ext k10;have hb15:Bx w5 b6 2 [.int .i64 (-1)]:=hb11;refine nl<|wp_seq<|wp_label<|wp_seq<|Zr<|Zm<|?_;have q4:RVo (·<w0.heap.size) w5 (.pointer (some ⟨b0,0,none⟩)) (⟨some (⟨x0.v⟩:(Uno (List ((Int×Int)×Int))))⟩:Ob (Uno (List ((Int×Int)×Int)))):=RVo.ext (RV.old (w:=w0) (ANJ h0 rfl r3.rep1)) k7;refine bS hF fun x3 Ex3 hF=>Zc (xc APw (mc rfl mn)) (ARY (a:=w0.heap.size) q4 (Below.size k7) Ex3) ?_;rintro v3 w6⟨sq1,hx5⟩;have k11:=k7.tr hx5;have k12:=k8.tr hx5;have M7:=M6.ext hx5;have hb17:=hb13.ext hx5;have hb18:=hb14.ext hx5;have hb19:=hb15.ext hx5;refine nl<|?_;have hin1:w0.heap.size<=b4/\b4<w5.heap.size:=⟨(Nat.le_trans hx1.size hg2),hb13.lt⟩;have hin2:w0.heap.size<=b5/\b5<w5.heap.size:=⟨(Nat.le_trans k1.size hg3),hb14.lt⟩;have hin3:w0.heap.size<=b6/\b6<w5.heap.size:=⟨(Nat.le_trans k2.size hg4),hb15.lt⟩;have hz:=bs hF;obtain⟨⟨z1,z2,z3⟩,hB1,hF⟩:=hz;refine ctM w0.heap.size (fun L w=>∃v6 v7:Value,Bx w b4 28 [v6]/\Row 2 w6.heap.size w v6 z1/\some b4≠Value.ownBlock v6/\Bx w b5 41 [v7]/\Row 3 w6.heap.size w v7 z2/\some b5≠Value.ownBlock v7/\Bx w b6 2 (Flat.enc z3)/\Apart (v6) (v7)/\w6.heap.size<=w.heap.size/\Ext w1 w/\L 6=.pointer (some ⟨b4,0,none⟩)/\L 7=.pointer (some ⟨b5,0,none⟩)) ?_ ?_
 ·refine wp_block<|rangeB (α:=((Int×Int)×Int)) (xs:=x3) (m:=12) (by decide) rfl KpOk.beli (SeqV.go (by decide) sq1) rfl rfl rfl Kz rfl (fun k w=>∃y1:(List Int),∃y2:(List Int),∃y3:Int,∃v4 v5:Value,X9 F x1 (List.drop k x3) y1 y2 y3=some (z1,z2,z3)/\Bx w b4 28 [v4]/\Row 2 w6.heap.size w v4 y1/\some b4≠Value.ownBlock v4/\Bx w b5 41 [v5]/\Row 3 w6.heap.size w v5 y2/\some b5≠Value.ownBlock v5/\Bx w b6 2 (Flat.enc y3)/\Apart (v4) (v5)/\w6.heap.size<=w.heap.size/\Ext w1 w/\Out w5.heap.size w6.heap.size v4/\Out w5.heap.size w6.heap.size v5/\Mks w0.heap.size [] w/\w6.heap.size<=w.heap.size) (fun c w=>∃v6 v7:Value,c=.exit 0/\Bx w b4 28 [v6]/\Row 2 w6.heap.size w v6 z1/\some b4≠Value.ownBlock v6/\Bx w b5 41 [v7]/\Row 3 w6.heap.size w v7 z2/\some b5≠Value.ownBlock v7/\Bx w b6 2 (Flat.enc z3)/\Apart (v6) (v7)/\w6.heap.size<=w.heap.size/\Ext w1 w/\Mks w0.heap.size [] w) (fun k=>Okb.ex fun _=>Okb.ex fun _=>Okb.ex fun _=>Okb.ex fun _=>Okb.ex fun _=>(Okb.and Okb.pure (Okb.and Okb.bx (Okb.and Okb.row (Okb.and Okb.pure (Okb.and Okb.bx (Okb.and Okb.row (Okb.and Okb.pure (Okb.and Okb.bx (Okb.and Okb.pure (Okb.and Okb.size (Okb.and (Okb.extw k12.size) (Okb.and Okb.pure (Okb.and Okb.pure (Okb.and (Okb.mks M7 rfl) Okb.size))))))))))))))) (fun c=>Okb.ex fun _=>Okb.ex fun _=>(Okb.and Okb.pure (Okb.and Okb.bx (Okb.and Okb.row (Okb.and Okb.pure (Okb.and Okb.bx (Okb.and Okb.row (Okb.and Okb.pure (Okb.and Okb.bx (Okb.and Okb.pure (Okb.and Okb.size (Okb.and (Okb.extw k12.size) (Okb.mks M7 rfl))))))))))))) ⟨_,_,_,_,_,hB1,hb17,Row.nil,(fun e=>by cases e),hb18,Row.nil,(fun e=>by cases e),hb19,Apart.nil1,(Nat.le_refl _),k12,Out.nil,Out.nil,M7,(Nat.le_refl _)⟩ ?round (fun k A h=>by obtain⟨_,_,_,_,_,_,_,_,_,_,_,_,_,_,_,_,_,_,_,_⟩:=h;assumption) ?done ?stop
  case round=>
   rintro _ k x4 w7 w8 b7 hx6⟨y1,y2,y3,v4,v5,hB1,B6_i1a,O6c1_i1a,N6c1_i1,B7_i1a,O7c1_i1a,N7c1_i1,B8_i1a,X0_i1,Z0_i1a,K0_i1a,U1,U2,M8a,sz1a⟩ ha1 hA1 hg5 hb20;rw[AI1 hx6]at hB1;rw[X9]at hB1;have B6_i1:=B6_i1a.asg ha1;have O6c1_i1:=O6c1_i1a.asg ha1;have B7_i1:=B7_i1a.asg ha1;have O7c1_i1:=O7c1_i1a.asg ha1;have B8_i1:=B8_i1a.asg ha1;have Z0_i1:=Nat.le_trans Z0_i1a ha1.size;have K0_i1:=Below.asg K0_i1a ha1 k12.size;have M8:=M8a.asg ha1;have sz1:=Nat.le_trans sz1a ha1.size;have hb21:=hb1.ext K0_i1;have hz:=RV.sl O6c1_i1.rv;obtain⟨a2,cq2,rfl,-,-,-⟩:=hz;have hz:=RV.sl O7c1_i1.rv;obtain⟨a3,cq3,rfl,-,-,-⟩:=hz;have kf1:KeepsFrom w6.heap.size w8 w8:=KeepsFrom.refl _ _;have bi1:BelI w0.heap.size w5.heap.size w6.heap.size w8 w8:=BelI.refl;refine wpIn_block<|wpIn_seq<|wpIn_seq<|rgR rfl<|Zv (DY rfl ADM)<|Zv (DY rfl AAC)<|Zv (Ap rfl wL ((Bx.cs hb20).at 0 rfl))<|Zv (Ap rfl wL ((Bx.cs B8_i1).at 0 rfl))<|Zv (ABl rfl rfl)<|nl<|AHR rfl (fun h8=>?_) (fun h8=>?_)
   ·have hB1:=Cj hB1 h8;refine wpIn_exit<|?_;exact⟨kf1,bi1,_,_,_,_,_,hB1,B6_i1,O6c1_i1,N6c1_i1,B7_i1,O7c1_i1,N7c1_i1,B8_i1,X0_i1,Z0_i1,K0_i1,U1,U2,M8,(Nat.le_trans sz1 kf1.size)⟩
   ·have hB1:=DF hB1 h8;refine wpIn_skip<|wpIn_seq<|rgR rfl<|Zv (DY rfl ADM)<|Zv (DY rfl zY)<|Zv (Ap rfl wL ((Bx.cs hb20).at 1 rfl))<|Za<|nl<|wpIn_seq<|wpIn_seq<|rgR rfl<|Zv (DY rfl AAC)<|Zv (Ap rfl wL ((Bx.cs hb21).at 0 rfl))<|Zm<|Zv (ABl rfl rfl)<|Zm<|Zg rfl rfl (gw1 rfl) (fun hc=>Ko rfl)<|Zg rfl rfl (gw1 rfl) (fun hc=>DY rfl zY)<|Zg rfl rfl (gw1 rfl) (fun hc=>Ap (mv hc rfl) wL ((Bx.cs hb21).at 1 rfl))<|Zg rfl rfl (gw1 rfl) (fun hc=>ABl (mv hc rfl) (mv hc rfl))<|Zv (xpa rfl rfl rfl)<|nl<|bS hB1 fun y4 hB4 hB1=>ctR (fun L w=>L 10=.int .i64 y4/\L 3=.pointer (some ⟨b3,0,none⟩)/\L 6=.pointer (some ⟨b4,0,none⟩)/\L 7=.pointer (some ⟨b5,0,none⟩)/\L 8=.pointer (some ⟨b6,0,none⟩)/\L 9=.pointer (some ⟨b7,0,none⟩)/\w6.heap.size<=w.heap.size/\Ext w8 w/\KeepsFrom w6.heap.size w8 w/\BelI w0.heap.size w5.heap.size w6.heap.size w8 w/\Mks w0.heap.size [] w) ?_ ?_
    ·refine AHR rfl (fun h9=>?_) (fun h9=>?_)
     ·have hB4:=Cj hB4 h9;refine rgR rfl<|Zv (DY rfl AAC)<|Zv (Ap rfl wL ((Bx.cs hb21).at 0 rfl))<|Zv (yV rfl rfl)<|Za<|nl<|?_;cases hB4;refine lf<|?_;exact⟨rfl,rfl,rfl,rfl,rfl,rfl,Z0_i1,(Ext.refl _),kf1,bi1,M8⟩
     ·have hB4:=DF hB4 h9;refine wpIn_skip<|?_;cases hB4;refine lf<|?_;exact⟨rfl,rfl,rfl,rfl,rfl,rfl,Z0_i1,(Ext.refl _),kf1,bi1,M8⟩
    rintro L w9⟨l10_j1,l3_j1,l6_j1,l7_j1,l8_j1,l9_j1,Z0_j1,K0_j1,kf2,bi2,M9⟩;have k17:=K0_i1.tr K0_j1;have O1:=O6c1_i1.ext K0_j1;have B1:=B6_i1.ext K0_j1;have O2:=O7c1_i1.ext K0_j1;have B2:=B7_i1.ext K0_j1;have B3:=B8_i1.ext K0_j1;have hb23:=hb20.ext K0_j1;refine wpIn_seq<|rgR rfl<|Zv (Ap l6_j1 AJR ((Bx.cs B1).at 0 rfl))<|Zm<|ABQ (cs:=[.int .i64 y4]) Tryz.underlying28 wL rfl (pc l10_j1 pn) rfl rfl rfl rfl rfl fun b8 w10 hx7 hg6 hb24=>?_;have k19:=k17.tr hx7;have zs1:=Nat.le_trans Z0_j1 hx7.size;have M10:=M9.ext hx7;have kf3:=kf2.ext hx7;have bi3:=bi2.ext hx7 sz1;have B4:=B1.ext hx7;have O3:=O1.ext hx7;have B5:=B2.ext hx7;have O4:=O2.ext hx7;have B6:=B3.ext hx7;have hb26:=hb23.ext hx7;have o2:Row (α:=Int) 2 w9.heap.size w10 (.slice (some ⟨b8,0,none⟩) 1 1) [y4]:=Row.lit hg6 hb24 rfl (ble rfl);refine bS hB1 fun x5 Ex5 hB1=>AE0 (l:=y1) (k:=([y4]:List Int)) rfl rfl Tryz.underlying28 wL rfl rfl O3 (RV.els o2.rv) Ex5 zs1 fun v8 w11 o3 hB7 hgr1 how1=>?_;have k22:=Ext.grow k19 k12.size hB7;have X1:=Apart.app how1 X0_i1 O4.own_lt;have U3:=Out.app U1 how1 (Nat.le_trans sz1 kf3.size);have zs2:=Nat.le_trans zs1 hgr1.size;have M11:=M10.gr hgr1 (Row.nd O3);have kf4:=kf3.grc hgr1 (fun q e=>Row.cells O3 e);have bi4:=bi3.gr hgr1 sz1 (Out.bi U1 O3 k11.size);have ne1:=ACa how1 N6c1_i1 B4.lt;have hb28:=Bx.gr B4 hgr1 N6c1_i1;have ne2:=ACa how1 (O3.ne_old hb18.lt) B5.lt;have hb29:=Bx.gr B5 hgr1 (O3.ne_old hb18.lt);have o4:=Row.gra O4 hgr1 X0_i1;have ne3:=ACa how1 (O3.ne_old hb19.lt) B6.lt;have hb30:=Bx.gr B6 hgr1 (O3.ne_old hb19.lt);have hb31:=Bx.gr hb26 hgr1 (Row.ne_new O6c1_i1a hA1);have hz:=RV.sl o3.rv;obtain⟨a4,cq4,rfl,-,-,-⟩:=hz;refine zo l6_j1 rfl rfl AJR hb28 rfl rfl (ble rfl) fun w12 hch2 hb32=>?_;have k24:=Ext.chg k22 hch2 (Nat.le_trans (Nat.le_refl _) hg2);have zs3:=Nat.le_trans zs2 (Nat.le_of_eq hch2.size.symm);have M12:=M11.chg hch2 hb28.nd;have kf5:=kf4.chgc hch2 (.inr hb28.isc);have bi5:=bi4.chg hch2 (.inl hin1);have hb34:=Bx.chg hb29 hch2 (Ne.symm (Nat.ne_of_lt (Nat.lt_of_lt_of_le hb2.lt hg3)));have o5:=Row.chg o4 hch2 hb17.lt;have hb35:=Bx.chg hb30 hch2 (Ne.symm (Nat.ne_of_lt (Nat.lt_of_lt_of_le hb6.lt hg4)));have hb36:=Bx.chg hb31 hch2 (Ne.symm (Nat.ne_of_lt (Nat.lt_of_lt_of_le B6_i1a.lt hA1)));have o6:=Row.chgn o3 hch2 ne1;have hb37:Bx w12 b4 28 [.slice a4 x5.length cq4]:=hb32;refine nl<|wpIn_seq<|wpIn_seq<|rgR rfl<|Zm<|Zv (DY l9_j1 ADM)<|Zv (DY rfl AAC)<|Zv (Ap rfl wL ((Bx.cs hb36).at 0 rfl))<|Zv (Oi l10_j1 rfl)<|nl<|AHR rfl (fun h10=>?_) (fun h10=>?_)
    ·have hB1:=Cj hB1 h10;refine wpIn_exit<|?_;cases hB1;exact⟨kf5,_,_,rfl,hb37,o6,ne1,hb34,o5,N7c1_i1,hb35,X1,zs3,k24,M12⟩
    ·have hB1:=DF hB1 h10;refine wpIn_skip<|wpIn_seq<|rgR rfl<|Zv (Ap l7_j1 xX ((Bx.cs hb34).at 0 rfl))<|Zv (DY l9_j1 ANs)<|Zv (Ap rfl CG ((Bx.cs hb36).at 2 rfl))<|ABQ (cs:=[.int .i64 x4.2]) Tryz.underlying41 CG rfl (pc rfl pn) rfl rfl rfl rfl rfl fun b9 w13 hx8 hg7 hb38=>?_;have k26:=k24.tr hx8;have zs4:=Nat.le_trans zs3 hx8.size;have M13:=M12.ext hx8;have kf6:=kf5.ext hx8;have bi6:=bi5.ext hx8 sz1;have hb40:=hb37.ext hx8;have o7:=o6.ext hx8;have B7:=hb34.ext hx8;have O5:=o5.ext hx8;have B8:=hb35.ext hx8;have o8:Row (α:=Int) 3 w12.heap.size w13 (.slice (some ⟨b9,0,none⟩) 1 1) [x4.2]:=Row.lit hg7 hb38 rfl (ble rfl);refine bS hB1 fun x6 Ex6 hB1=>AE0 (l:=y2) (k:=([x4.2]:List Int)) rfl rfl Tryz.underlying41 CG rfl rfl O5 (RV.els o8.rv) Ex6 zs4 fun v9 w14 o9 hB10 hgr2 how2=>?_;have k28:=Ext.grow k26 k12.size hB10;have X2:=Apart.app how2 (Apart.symm X1) o7.own_lt;have U4:=Out.app U2 how2 (Nat.le_trans sz1 kf6.size);have zs5:=Nat.le_trans zs4 hgr2.size;have M14:=M13.gr hgr2 (Row.nd O5);have kf7:=kf6.grc hgr2 (fun q e=>Row.cells O5 e);have bi7:=bi6.gr hgr2 sz1 (Out.bi U2 O5 k11.size);have hb42:=Bx.gr hb40 hgr2 (O5.ne_old hb17.lt);have o10:=Row.gra o7 hgr2 (Apart.symm X1);have ne6:=ACa how2 N7c1_i1 B7.lt;have hb43:=Bx.gr B7 hgr2 N7c1_i1;have ne7:=ACa how2 (O5.ne_old hb19.lt) B8.lt;have hb44:=Bx.gr B8 hgr2 (O5.ne_old hb19.lt);have hz:=RV.sl o9.rv;obtain⟨a5,cq5,rfl,-,-,-⟩:=hz;refine zo l7_j1 rfl rfl xX hb43 rfl rfl (ble rfl) fun w15 hch3 hb45=>?_;have k30:=Ext.chg k28 hch3 (Nat.le_trans (Nat.le_refl _) (Nat.le_trans hx2.size hg3));have zs6:=Nat.le_trans zs5 (Nat.le_of_eq hch3.size.symm);have M15:=M14.chg hch3 hb43.nd;have kf8:=kf7.chgc hch3 (.inr hb43.isc);have bi8:=bi7.chg hch3 (.inl hin2);have hb47:=Bx.chg hb42 hch3 (Nat.ne_of_lt (Nat.lt_of_lt_of_le hb2.lt hg3));have o11:=Row.chgn o10 hch3 ne2;have hb48:=Bx.chg hb44 hch3 (Ne.symm (Nat.ne_of_lt (Nat.lt_of_lt_of_le hb4.lt hg4)));have o12:=Row.chgn o9 hch3 ne6;have hb49:Bx w15 b5 41 [.slice a5 x6.length cq5]:=hb45;refine nl<|rgR rfl<|Zm<|zo l8_j1 l10_j1 rfl wL hb48 rfl rfl (ble rfl) fun w16 hch4 hb50=>?_;have k32:=Ext.chg k30 hch4 (Nat.le_trans (Nat.le_refl _) (Nat.le_trans k3.size hg4));have zs7:=Nat.le_trans zs6 (Nat.le_of_eq hch4.size.symm);have M16:=M15.chg hch4 hb48.nd;have kf9:=kf8.chgc hch4 (.inr hb48.isc);have bi9:=bi8.chg hch4 (.inl hin3);have hb52:=Bx.chg hb47 hch4 (Nat.ne_of_lt (Nat.lt_of_lt_of_le hb6.lt hg4));have o13:=Row.chgn o11 hch4 ne3;have hb53:=Bx.chg hb49 hch4 (Nat.ne_of_lt (Nat.lt_of_lt_of_le hb4.lt hg4));have o14:=Row.chgn o12 hch4 ne7;have hb54:Bx w16 b6 2 [.int .i64 y4]:=hb50;refine nl<|?_;exact⟨kf9,bi9,_,_,_,_,_,hB1,hb52,o13,ne1,hb53,o14,ne6,hb54,(Apart.symm X2),zs7,k32,U3,U4,M16,(Nat.le_trans sz1 kf9.size)⟩
  case done=>
   rintro D1 w17 hD1⟨y1,y2,y3,v4,v5,hB1,B6_j2,O6c1_j2,N6c1_j2,B7_j2,O7c1_j2,N7c1_j2,B8_j2,X0_j2,Z0_j2,K0_j2,_,_,M8,_⟩ hk1;rw[List.drop_length,X9]at hB1;cases hB1;exact lfM (Mks.cons M7 M8 (Below.size k11) hD1 hk1) ⟨_,_,B6_j2,O6c1_j2,N6c1_j2,B7_j2,O7c1_j2,N7c1_j2,B8_j2,X0_j2,Z0_j2,K0_j2,rfl,rfl⟩
  case stop=>
   rintro D2 c w18 hD2⟨v6,v7,rfl,B6_j3,O6c1_j3,N6c1_j3,B7_j3,O7c1_j3,N7c1_j3,B8_j3,X0_j3,Z0_j3,K0_j3,M17⟩ hk2;exact wp_exit<|lfM (Mks.cons M7 M17 (Below.size k11) hD2 hk2) ⟨_,_,B6_j3,O6c1_j3,N6c1_j3,B7_j3,O7c1_j3,N7c1_j3,B8_j3,X0_j3,Z0_j3,K0_j3,rfl,rfl⟩
 rintro L D3 w19 M18⟨v6,v7,B6_j4,O6c1_j4,N6c1_j4,B7_j4,O7c1_j4,N7c1_j4,B8_j4,X0_j4,Z0_j4,K0_j4,l6_j4,l7_j4⟩;have k33:=hx1.tr K0_j4;have hz:=RV.sl O6c1_j4.rv;obtain⟨a6,cq6,rfl,-,-,-⟩:=hz;have hz:=RV.sl O7c1_j4.rv;obtain⟨a7,cq7,rfl,-,-,-⟩:=hz;refine wp_seq<|wpl [] (.pure false 0 (.pure false 1 (.pure true 2 (.pure true 3 .fin)))) mixed (by kernel_rfl) (fun w20 hx9=>?_);have k34:=k33.tr hx9;have M19:=M18.ext hx9;have B9:=B6_j4.ext hx9;have O6:=O6c1_j4.ext hx9;have B10:=B7_j4.ext hx9;have O7:=O7c1_j4.ext hx9;refine Zq rfl (fun _ hS=>Ap l6_j4 AJR ((Bx.cs (B9.ext (hS.resolve_left nofun))).at 0 rfl)) (Ext.refl _)<|Zq rfl (fun _ hS=>Ap l7_j4 xX ((Bx.cs (B10.ext (hS.resolve_left nofun))).at 0 rfl)) (Ext.refl _)<|Zp rfl (fun _=>xas)<|Zp rfl (fun _=>xas)<|wp_ret<|AOV rfl M19 fun w21 hT1=>?_;have k36:Ext w0 w21:=Below.tak k34 hT1 (Nat.le_refl _);have O8:=O6.tak hT1;have O9:=O7.tak hT1;cases hF;exact⟨_,(.tmp rfl rfl (.tmp rfl rfl .nil)),_,_,rfl,(O8.bnd k11.size),(O9.bnd k11.size),k36⟩
theorem AKR{w0:World}{v0:Value}{x0:((Int×Int)×Int)}(r0:RV w0 v0 x0){v1:Value}{x1:((Int×Int)×Int)}(r1:RV w0 v1 x1){r:Int}(hF:xP x0 x1=some r):
  Calls Tryz.prog 204 [v0,v1].toArray w0 (aZ fun v w'=>v=.int .i64 r/\Ext w0 w'):=by
 unfold xP at hF;have hz:=id r0;obtain⟨_,rfl,_,_,rfl,⟨_,_,rfl,rfl,rfl⟩,rfl⟩:=hz;have hz:=id r1;obtain⟨_,rfl,_,_,rfl,⟨_,_,rfl,rfl,rfl⟩,rfl⟩:=hz;refine kR (n:=12) Tryz.func204 rfl rfl rfl<|Zr<|sbx rfl rfl fun b3 w1 hx1 hg1 hb1=>sbx rfl rfl fun b4 w2 hx2 hg2 hb2=>?_;have k1:=hx1.tr hx2;have hb3:=hb1.ext hx2;refine Za<|nl<|Zr<|Zv (DY rfl ADM)<|Zv (DY rfl zY)<|Zv (Ap rfl wL ((Bx.cs hb3).at 1 rfl))<|Zv (DY rfl ADM)<|Zv (DY rfl zY)<|Zv (Ap rfl wL ((Bx.cs hb2).at 1 rfl))<|Zv (yV rfl rfl)<|Za<|nl<|?_;cases hF;exact wp_ret<|Zw rfl rfl rfl ⟨rfl,k1⟩
theorem AO1{w0 wi:World}(hk:Ext w0 wi){v0:Value}{x0:(List ((Int×Int)×Int))}(o0:Row 302 w0.heap.size wi v0 x0){x1:Int}{x2:Int}{F:Nat}{r:(List ((Int×Int)×Int))}(hF:BA F x0 x1 x2=some r):
  Calls Tryz.prog 330 [v0,.int .i64 x1,.int .i64 x2,.func (.func 204) #[] #[]].toArray wi (aZ fun v w'=>v=.tuple #[]/\Row 302 w0.heap.size w' v0 r/\Ext w0 w'/\wi.heap.size<=w'.heap.size):=by
 unfold BA at hF;have hz:=RV.sl o0.rv;obtain⟨a1,cq1,rfl,-,-,-⟩:=hz;have Z0:wi.heap.size<=wi.heap.size:=Nat.le_refl _;refine kR (n:=53) Tryz.func330 rfl rfl rfl<|Zr<|Zm<|Zv (MH rfl rfl)<|Za<|nl<|bS hF fun z1 hB1 hF=>ct (fun L w=>L 0=(.slice a1 x0.length cq1)/\Row 302 w0.heap.size w (.slice a1 x0.length cq1) z1/\wi.heap.size<=w.heap.size/\Ext w0 w) ?_ ?_
 ·refine wp_block<|lp (I:=fun m L w=>∃y1:(List ((Int×Int)×Int)),∃y2:Int,Gj F x1 x2 m y1 y2=some z1/\L 0=(.slice a1 x0.length cq1)/\Row 302 w0.heap.size w (.slice a1 x0.length cq1) y1/\L 8=.int .i64 y2/\L 1=.int .i64 x1/\L 2=.int .i64 x2/\L 3=.func (.func 204) [].toArray [].toArray/\wi.heap.size<=w.heap.size/\Ext w0 w) F ⟨_,_,hB1,rfl,o0,rfl,rfl,rfl,rfl,Z0,hk⟩ ?_;rintro m L w1⟨y1,y2,hB1,l0_i1,O0_i1,l8_i1,l1_i1,l2_i1,l3_i1,Z0_i1,K0_i1⟩;rcases m with _|m
  ·rw[Gj]at hB1;cases hB1
  rw[Gj]at hB1;refine wp_seq<|Zr<|Zm<|Zm<|Zv (Oi l8_i1 l2_i1)<|nl<|cnd rfl (fun h5=>?_) (fun h5=>?_)
  ·have hB1:=Cj hB1 h5;refine wp_skip<|wp_seq<|wp_block<|Zr<|Zm<|Za<|nl<|bS hB1 fun z2 hB3 hB1=>ct (fun L w=>L 0=(.slice a1 x0.length cq1)/\Row 302 w0.heap.size w (.slice a1 x0.length cq1) z2/\L 1=.int .i64 x1/\L 2=.int .i64 x2/\L 3=.func (.func 204) [].toArray [].toArray/\L 8=.int .i64 y2/\wi.heap.size<=w.heap.size/\Ext w0 w) ?_ ?_
   ·refine wp_block<|lp (I:=fun m L w=>∃y3:(List ((Int×Int)×Int)),∃y4:Int,Gi F x1 m y3 y4=some z2/\L 0=(.slice a1 x0.length cq1)/\Row 302 w0.heap.size w (.slice a1 x0.length cq1) y3/\L 9=.int .i64 y4/\L 1=.int .i64 x1/\L 2=.int .i64 x2/\L 3=.func (.func 204) [].toArray [].toArray/\L 8=.int .i64 y2/\wi.heap.size<=w.heap.size/\Ext w0 w) F ⟨_,_,hB3,l0_i1,O0_i1,l8_i1,l1_i1,l2_i1,l3_i1,l8_i1,Z0_i1,K0_i1⟩ ?_;rintro m L w2⟨y3,y4,hB3,l0_i2,O0_i2,l9_i2,l1_i2,l2_i2,l3_i2,l8_i2,Z0_i2,K0_i2⟩;rcases m with _|m
    ·rw[Gi]at hB3;cases hB3
    rw[Gi]at hB3;refine wp_seq<|wp_seq<|bS hB3 fun y5 hB4 hB3=>ct (fun L w=>L 34=.bool y5/\L 0=.slice a1 x0.length cq1/\L 1=.int .i64 x1/\L 2=.int .i64 x2/\L 3=.func (.func 204) [].toArray [].toArray/\L 8=.int .i64 y2/\L 9=.int .i64 y4/\wi.heap.size<=w.heap.size/\Ext w2 w) ?_ ?_
    ·refine wpl [] (.pure true 0 (.pure true 1 (.pure true 2 (.pure true 3 (.pure true 4 (.pure true 5 (.pure true 6 (.pure true 7 (.pure false 8 (.pure true 9 (.pure true 10 (.pure true 11 (.pure true 12 (.pure false 13 (.eff 14 (.pure true 15 (.pure true 16 .fin)) .stop))))))))))))))) mixed (by kernel_rfl) (fun w4 hx2=>?_);have zs2:=Nat.le_trans Z0_i2 hx2.size;have O2:=O0_i2.ext hx2;refine Zn rfl<|Zn rfl<|Zp rfl (fun _=>yY l9_i2 l1_i2)<|Zn rfl<|Or.elim (Bool.eq_false_or_eq_true (decide (x1<y4))) (fun h6=>?_) (fun h6=>?_)
     ·have hB4:=Cj hB4 h6;refine Yt rfl (bt h6) (fun _=>YA)<|Yt rfl (bt h6) (fun _=>YA)<|Yt rfl (bt h6) (fun _=>YA)<|bS hB4 fun x5 Ex5 hB4=>?_;have hz:=(RV.els O2.rv).ix Ex5;obtain⟨b5,f1,cs5,e1,i3,i4,q5,hc1⟩:=hz;cases e1;obtain⟨_,_,rfl,⟨_,_,rfl,rfl,rfl⟩,rfl⟩:=q5;have i5:y4<(x0.length:Int):=by rw[(RV.cap O2.rv).1];exact i4
      refine Yt rfl (bt h6) (fun _=>Ci l0_i2 l9_i2 Tryz.underlying298 Kz i3 i5)<|Yi rfl (bt h6) (fun _ hS=>vG rfl Kz rfl (hc1.ext (hS.resolve_left nofun))) (Ext.refl _)<|Yt rfl (bt h6) (fun _=>YA)<|Yt rfl (bt h6) (fun _=>YA)<|Yt rfl (bt h6) (fun _=>yV l9_i2 rfl)<|bS hB4 fun x6 Ex6 hB4=>?_;have hz:=xO O2.rv Ex6;obtain⟨cs6,i6,i7,q6,hc2⟩:=hz;obtain⟨_,_,rfl,⟨_,_,rfl,rfl,rfl⟩,rfl⟩:=q6;have i8:(AX (y4-1))<(x0.length:Int):=by rw[(RV.cap O2.rv).1];exact i7
      refine Yt rfl (bt h6) (fun _=>Ci l0_i2 rfl Tryz.underlying298 Kz i6 i8)<|Yi rfl (bt h6) (fun _ hS=>vG rfl Kz rfl (hc2.ext (hS.resolve_left nofun))) (Ext.refl _)<|bS hB4 fun x7 Ex7 hB4=>zX rfl<|Gt rfl (bt h6)<|Zc (xcv l3_i2 AG7 (mc rfl (mc rfl mn)) rfl) (AKR (show RV (α:=((Int×Int)×Int)) _ (.agg [.int .i64 x5.1.1,.int .i64 x5.1.2,.int .i64 x5.2].toArray) ((x5.1.1,x5.1.2),x5.2)from⟨_,rfl,[.int .i64 x5.1.1]++[.int .i64 x5.1.2],[.int .i64 x5.2],rfl,⟨[.int .i64 x5.1.1],[.int .i64 x5.1.2],rfl,rfl,rfl⟩,rfl⟩) (show RV (α:=((Int×Int)×Int)) _ (.agg [.int .i64 x6.1.1,.int .i64 x6.1.2,.int .i64 x6.2].toArray) ((x6.1.1,x6.1.2),x6.2)from⟨_,rfl,[.int .i64 x6.1.1]++[.int .i64 x6.1.2],[.int .i64 x6.2],rfl,⟨[.int .i64 x6.1.1],[.int .i64 x6.1.2],rfl,rfl,rfl⟩,rfl⟩) Ex7) ?_;rintro _ w5⟨rfl,hx3⟩;have k4:=hx2.tr hx3;have zs3:=Nat.le_trans zs2 hx3.size;refine nl ⟨fun _ _=>hx3,?_⟩;refine Yt rfl (bt h6) (fun _=>Oi rfl rfl)<|Zp rfl (fun _=>wu rfl h6 rfl)<|?_;cases hB4;refine lf<|?_;exact⟨rfl,l0_i2,l1_i2,l2_i2,l3_i2,l8_i2,l9_i2,zs3,k4⟩
     ·have hB4:=DF hB4 h6;refine Yf rfl (Bh h6)<|Yf rfl (Bh h6)<|Yf rfl (Bh h6)<|Yf rfl (Bh h6)<|Yh rfl (Bh h6) (Ext.refl _)<|Yf rfl (Bh h6)<|Yf rfl (Bh h6)<|Yf rfl (Bh h6)<|Yf rfl (Bh h6)<|Yh rfl (Bh h6) (Ext.refl _)<|zX rfl<|Gk rfl (Bh h6)<|nl ⟨fun _ _=>(Ext.refl _),?_⟩;refine Yf rfl (Bh h6)<|Zp rfl (fun _=>yB rfl h6 rfl)<|?_;cases hB4;refine lf<|?_;exact⟨rfl,l0_i2,l1_i2,l2_i2,l3_i2,l8_i2,l9_i2,zs2,hx2⟩
    rintro L w6⟨l34_j1,l0_j1,l1_j1,l2_j1,l3_j1,l8_j1,l9_j1,Z0_j1,K0_j1⟩;have k5:=K0_i2.tr K0_j1;have O4:=O0_i2.ext K0_j1;refine cnd l34_j1 (fun h7=>?_) (fun h7=>?_)
    ·have hB3:=Cj hB3 h7;refine wp_skip<|wp_seq<|wp_block<|wpl [15,17] (.pure true 0 (.pure true 1 (.pure true 2 (.pure true 3 (.pure true 4 (.pure true 5 (.pure true 6 (.pure true 7 (.pure true 8 (.pure false 9 (.pure true 10 (.pure true 11 (.pure true 12 (.pure false 13 (.pure true 14 (.eff 15 (.pure true 16 (.eff 17 .fin .stop)) .stop)))))))))))))))) mixed (by kernel_rfl) (fun w7 hx4=>?_);have k6:=k5.tr hx4;have zs4:=Nat.le_trans Z0_j1 hx4.size;have O5:=O4.ext hx4;refine Zn rfl<|Zn rfl<|Zn rfl<|Zn rfl<|Zp rfl (fun _=>yV l9_j1 rfl)<|Zn rfl<|Zn rfl<|Zp rfl (fun _=>yV l9_j1 rfl)<|bS hB3 fun x8 Ex8 hB3=>?_;have hz:=(RV.els O5.rv).ix Ex8;obtain⟨b6,f2,cs7,e2,i9,i10,q7,hc3⟩:=hz;cases e2;obtain⟨_,_,rfl,⟨_,_,rfl,rfl,rfl⟩,rfl⟩:=q7;have i11:(AX (y4-1))<(x0.length:Int):=by rw[(RV.cap O5.rv).1];exact i10
     refine Zp rfl (fun _=>Ci l0_j1 rfl Tryz.underlying298 Kz i9 i11)<|Zq rfl (fun _ hS=>vG rfl Kz rfl (hc3.ext (hS.resolve_left nofun))) (Ext.refl _)<|Zn rfl<|Zn rfl<|bS hB3 fun x9 Ex9 hB3=>?_;have hz:=xO O5.rv Ex9;obtain⟨cs8,i12,i13,q8,hc4⟩:=hz;obtain⟨_,_,rfl,⟨_,_,rfl,rfl,rfl⟩,rfl⟩:=q8;have i14:y4<(x0.length:Int):=by rw[(RV.cap O5.rv).1];exact i13
     refine Zp rfl (fun _=>Ci l0_j1 l9_j1 Tryz.underlying298 Kz i12 i14)<|Zq rfl (fun _ hS=>vG rfl Kz rfl (hc4.ext (hS.resolve_left nofun))) (Ext.refl _)<|bS hB3 fun x10 Ex10 hB3=>?_;have hz:=xO O5.rv Ex10;obtain⟨cs9,i15,i16,q9,hc5⟩:=hz;obtain⟨_,_,rfl,⟨_,_,rfl,rfl,rfl⟩,rfl⟩:=q9;have i17:y4<(x0.length:Int):=by rw[(RV.cap O5.rv).1];exact i16
     refine Zp rfl (fun _=>Ci l0_j1 l9_j1 Tryz.underlying298 Kz i15 i17)<|zX rfl<|ABq (l:=y3) (v:=((x8.1.1,x8.1.2),x8.2)) rfl rfl rfl Kz O5 Ex10 fun w8 hch1 o12=>?_;have k8:=Ext.chg k6 hch1 (Nat.le_trans (Nat.le_refl _) (Row.ge O5));have zs5:=Nat.le_trans zs4 (Nat.le_of_eq hch1.size.symm);refine nl ⟨fun h=>(h (by decide)).elim,?_⟩;refine bS hB3 fun x11 Ex11 hB3=>?_;have hz:=xO o12.rv Ex11;obtain⟨cs10,i18,i19,q10,hc6⟩:=hz;obtain⟨_,_,rfl,⟨_,_,rfl,rfl,rfl⟩,rfl⟩:=q10;have i20:(AX (y4-1))<(x0.length:Int):=by rw[(RV.cap o12.rv).1];exact i19
     refine Zp rfl (fun _=>Ci l0_j1 rfl Tryz.underlying298 Kz i18 i20)<|zX rfl<|ABq (l:=(Pv y3 y4 ((x8.1.1,x8.1.2),x8.2))) (v:=((x9.1.1,x9.1.2),x9.2)) rfl rfl rfl Kz o12 Ex11 fun w9 hch2 o13=>?_;have k9:=Ext.chg k8 hch2 (Nat.le_trans (Nat.le_refl _) (Row.ge o12));have zs6:=Nat.le_trans zs5 (Nat.le_of_eq hch2.size.symm);refine nl ⟨fun h=>(h (by decide)).elim,?_⟩;refine rg<|Zm<|Zv (yV l9_j1 rfl)<|Za<|nl<|lq m (Nat.lt_succ_self _)<|?_;exact⟨_,_,hB3,l0_j1,o13,rfl,l1_j1,l2_j1,l3_j1,l8_j1,zs6,k9⟩
    ·have hB3:=DF hB3 h7;refine wp_exit<|?_;cases hB3;refine lf<|?_;exact⟨l0_j1,O4,l1_j1,l2_j1,l3_j1,l8_j1,Z0_j1,k5⟩
   rintro L w10⟨l0_j2,O0_j2,l1_j2,l2_j2,l3_j2,l8_j2,Z0_j2,K0_j2⟩;refine rg<|Zm<|Zv (MH l8_j2 rfl)<|Za<|nl<|lq m (Nat.lt_succ_self _)<|?_;exact⟨_,_,hB1,l0_j2,O0_j2,rfl,l1_j2,l2_j2,l3_j2,Z0_j2,K0_j2⟩
  ·have hB1:=DF hB1 h5;refine wp_exit<|?_;cases hB1;refine lf<|?_;exact⟨l0_i1,O0_i1,Z0_i1,K0_i1⟩
 rintro L w11⟨l0_j3,O0_j3,Z0_j3,K0_j3⟩;cases hF;exact rtn rfl .nil ⟨rfl,O0_j3,K0_j3,Z0_j3⟩
theorem AMo{w0 wi:World}(hk:Ext w0 wi){v0:Value}{x0:(List ((Int×Int)×Int))}(o0:Row 302 w0.heap.size wi v0 x0){x1:Int}{x2:Int}{x3:Int}{F:Nat}{r:(List ((Int×Int)×Int))}(hF:IA F x0 x1 x2 x3=some r):
  Calls Tryz.prog 347 [v0,.int .i64 x1,.int .i64 x2,.int .i64 x3,.func (.func 204) #[] #[]].toArray wi (aZ fun v w'=>v=.tuple #[]/\Row 302 w0.heap.size w' v0 r/\Ext w0 w'/\wi.heap.size<=w'.heap.size):=by
 unfold IA at hF;have hz:=RV.sl o0.rv;obtain⟨a1,cq1,rfl,-,-,-⟩:=hz;have Z0:wi.heap.size<=wi.heap.size:=Nat.le_refl _;refine kR (n:=38) Tryz.func347 rfl rfl rfl<|Zr<|Za<|nl<|bS hF fun z1 hB1 hF=>ct (fun L w=>L 0=(.slice a1 x0.length cq1)/\Row 302 w0.heap.size w (.slice a1 x0.length cq1) z1/\wi.heap.size<=w.heap.size/\Ext w0 w) ?_ ?_
 ·refine wp_block<|lp (I:=fun m L w=>∃y1:(List ((Int×Int)×Int)),∃y2:Int,FY F x1 x2 x3 m y1 y2=some z1/\L 0=(.slice a1 x0.length cq1)/\Row 302 w0.heap.size w (.slice a1 x0.length cq1) y1/\L 10=.int .i64 y2/\L 1=.int .i64 x1/\L 2=.int .i64 x2/\L 3=.int .i64 x3/\wi.heap.size<=w.heap.size/\Ext w0 w) F ⟨_,_,hB1,rfl,o0,rfl,rfl,rfl,rfl,Z0,hk⟩ ?_;rintro m L w1⟨y1,y2,hB1,l0_i1,O0_i1,l10_i1,l1_i1,l2_i1,l3_i1,Z0_i1,K0_i1⟩;rcases m with _|m
  ·rw[FY]at hB1;cases hB1
  rw[FY]at hB1;refine wp_seq<|Zr<|Zm<|Zm<|Zv (Oi l10_i1 l3_i1)<|nl<|cnd rfl (fun h6=>?_) (fun h6=>?_)
  ·have hB1:=Cj hB1 h6;refine wp_skip<|wp_seq<|wp_block<|wpl [21,23] (.pure true 0 (.pure true 1 (.pure true 2 (.pure true 3 (.pure true 4 (.pure true 5 (.pure true 6 (.pure true 7 (.pure true 8 (.pure true 9 (.pure true 10 (.pure true 11 (.pure true 12 (.pure false 13 (.pure true 14 (.pure true 15 (.pure true 16 (.pure true 17 (.pure true 18 (.pure false 19 (.pure true 20 (.eff 21 (.pure true 22 (.eff 23 .fin .stop)) .stop)))))))))))))))))))))) mixed (by kernel_rfl) (fun w2 hx1=>?_);have k1:=K0_i1.tr hx1;have zs1:=Nat.le_trans Z0_i1 hx1.size;have O1:=O0_i1.ext hx1;refine Zn rfl<|Zn rfl<|Zn rfl<|Zp rfl (fun _=>MH l1_i1 l10_i1)<|Zn rfl<|Zn rfl<|Zn rfl<|Zp rfl (fun _=>MH l2_i1 l10_i1)<|Zn rfl<|Zn rfl<|Zn rfl<|Zp rfl (fun _=>MH l2_i1 l10_i1)<|bS hB1 fun x6 Ex6 hB1=>?_;have hz:=(RV.els O1.rv).ix Ex6;obtain⟨b6,f1,cs6,e1,i2,i3,q6,hc1⟩:=hz;cases e1;obtain⟨_,_,rfl,⟨_,_,rfl,rfl,rfl⟩,rfl⟩:=q6;have i4:(AX (x2+y2))<(x0.length:Int):=by rw[(RV.cap O1.rv).1];exact i3
   refine Zp rfl (fun _=>Ci l0_i1 rfl Tryz.underlying298 Kz i2 i4)<|Zq rfl (fun _ hS=>vG rfl Kz rfl (hc1.ext (hS.resolve_left nofun))) (Ext.refl _)<|Zn rfl<|Zn rfl<|Zn rfl<|Zp rfl (fun _=>MH l1_i1 l10_i1)<|bS hB1 fun x7 Ex7 hB1=>?_;have hz:=xO O1.rv Ex7;obtain⟨cs7,i5,i6,q7,hc2⟩:=hz;obtain⟨_,_,rfl,⟨_,_,rfl,rfl,rfl⟩,rfl⟩:=q7;have i7:(AX (x1+y2))<(x0.length:Int):=by rw[(RV.cap O1.rv).1];exact i6
   refine Zp rfl (fun _=>Ci l0_i1 rfl Tryz.underlying298 Kz i5 i7)<|Zq rfl (fun _ hS=>vG rfl Kz rfl (hc2.ext (hS.resolve_left nofun))) (Ext.refl _)<|bS hB1 fun x8 Ex8 hB1=>?_;have hz:=xO O1.rv Ex8;obtain⟨cs8,i8,i9,q8,hc3⟩:=hz;obtain⟨_,_,rfl,⟨_,_,rfl,rfl,rfl⟩,rfl⟩:=q8;have i10:(AX (x1+y2))<(x0.length:Int):=by rw[(RV.cap O1.rv).1];exact i9
   refine Zp rfl (fun _=>Ci l0_i1 rfl Tryz.underlying298 Kz i8 i10)<|zX rfl<|ABq (l:=y1) (v:=((x6.1.1,x6.1.2),x6.2)) rfl rfl rfl Kz O1 Ex8 fun w3 hch1 o11=>?_;have k2:=Ext.chg k1 hch1 (Nat.le_trans (Nat.le_refl _) (Row.ge O1));have zs2:=Nat.le_trans zs1 (Nat.le_of_eq hch1.size.symm);refine nl ⟨fun h=>(h (by decide)).elim,?_⟩;refine bS hB1 fun x9 Ex9 hB1=>?_;have hz:=xO o11.rv Ex9;obtain⟨cs9,i11,i12,q9,hc4⟩:=hz;obtain⟨_,_,rfl,⟨_,_,rfl,rfl,rfl⟩,rfl⟩:=q9;have i13:(AX (x2+y2))<(x0.length:Int):=by rw[(RV.cap o11.rv).1];exact i12
   refine Zp rfl (fun _=>Ci l0_i1 rfl Tryz.underlying298 Kz i11 i13)<|zX rfl<|ABq (l:=(Pv y1 (AX (x1+y2)) ((x6.1.1,x6.1.2),x6.2))) (v:=((x7.1.1,x7.1.2),x7.2)) rfl rfl rfl Kz o11 Ex9 fun w4 hch2 o12=>?_;have k3:=Ext.chg k2 hch2 (Nat.le_trans (Nat.le_refl _) (Row.ge o11));have zs3:=Nat.le_trans zs2 (Nat.le_of_eq hch2.size.symm);refine nl ⟨fun h=>(h (by decide)).elim,?_⟩;refine rg<|Zm<|Zv (MH l10_i1 rfl)<|Za<|nl<|lq m (Nat.lt_succ_self _)<|?_;exact⟨_,_,hB1,l0_i1,o12,rfl,l1_i1,l2_i1,l3_i1,zs3,k3⟩
  ·have hB1:=DF hB1 h6;refine wp_exit<|?_;cases hB1;refine lf<|?_;exact⟨l0_i1,O0_i1,Z0_i1,K0_i1⟩
 rintro L w5⟨l0_j1,O0_j1,Z0_j1,K0_j1⟩;cases hF;exact rtn rfl .nil ⟨rfl,O0_j1,K0_j1,Z0_j1⟩
theorem ARl{w0 wi:World}(hk:Ext w0 wi){v0:Value}{x0:(List ((Int×Int)×Int))}(o0:Row 302 w0.heap.size wi v0 x0){x1:Int}{x2:Int}{x3:Int}{F:Nat}{r:(List ((Int×Int)×Int))}(hF:qg F x0 x1 x2 x3=some r):
  Calls Tryz.prog 345 [v0,.int .i64 x1,.int .i64 x2,.int .i64 x3,.func (.func 204) #[] #[]].toArray wi (aZ fun v w'=>v=.tuple #[]/\Row 302 w0.heap.size w' v0 r/\Ext w0 w'/\wi.heap.size<=w'.heap.size):=by
 unfold qg at hF;have hz:=RV.sl o0.rv;obtain⟨a1,cq1,rfl,-,-,-⟩:=hz;have Z0:wi.heap.size<=wi.heap.size:=Nat.le_refl _;refine kR (n:=58) Tryz.func345 rfl rfl rfl<|Zr<|Zm<|Zm<|Zv (yV rfl rfl)<|Za<|nl<|Zr<|Zm<|Zm<|Zv (yV rfl rfl)<|Za<|nl<|wp_seq<|?_;have hz:=bs hF;obtain⟨⟨z1,z2⟩,hB1,hF⟩:=hz;refine ct (fun L w=>L 0=(.slice a1 x0.length cq1)/\Row 302 w0.heap.size w (.slice a1 x0.length cq1) z1/\L 10=.int .i64 z2/\L 2=.int .i64 x2/\L 4=.func (.func 204) [].toArray [].toArray/\wi.heap.size<=w.heap.size/\Ext w0 w) ?_ ?_
 ·refine wp_block<|lp (I:=fun m L w=>∃y1:(List ((Int×Int)×Int)),∃y2:Int,∃y3:Int,NG F x2 m y1 y2 y3=some (z1,z2)/\L 0=(.slice a1 x0.length cq1)/\Row 302 w0.heap.size w (.slice a1 x0.length cq1) y1/\L 10=.int .i64 y2/\L 11=.int .i64 y3/\L 2=.int .i64 x2/\L 4=.func (.func 204) [].toArray [].toArray/\wi.heap.size<=w.heap.size/\Ext w0 w) F ⟨_,_,_,hB1,rfl,o0,rfl,rfl,rfl,rfl,Z0,hk⟩ ?_;rintro m L w1⟨y1,y2,y3,hB1,l0_i1,O0_i1,l10_i1,l11_i1,l2_i1,l4_i1,Z0_i1,K0_i1⟩;rcases m with _|m
  ·rw[NG]at hB1;cases hB1
  rw[NG]at hB1;refine wp_seq<|Zr<|Zm<|Zm<|Zv (AAA l10_i1 l11_i1)<|nl<|cnd rfl (fun h6=>?_) (fun h6=>?_)
  ·have hB1:=Cj hB1 h6;refine wp_skip<|?_;have hz:=bs hB1;obtain⟨⟨y4,y5,y6⟩,hB3,hB1⟩:=hz;refine ct (fun L w=>L 0=(.slice a1 x0.length cq1)/\Row 302 w0.heap.size w (.slice a1 x0.length cq1) y4/\L 10=.int .i64 y5/\L 11=.int .i64 y6/\L 2=.int .i64 x2/\L 4=.func (.func 204) [].toArray [].toArray/\wi.heap.size<=w.heap.size/\Ext w0 w) ?_ ?_
   ·refine wp_block<|Zr<|Zm<|Zm<|Zv (yY l10_i1 l11_i1)<|nl<|?_;have hz:=bs hB3;obtain⟨⟨y7,y8,y9⟩,hB4,hB3⟩:=hz;refine ct (fun L w=>L 0=(.slice a1 x0.length cq1)/\Row 302 w0.heap.size w (.slice a1 x0.length cq1) y7/\L 10=.int .i64 y8/\L 11=.int .i64 y9/\L 2=.int .i64 x2/\L 4=.func (.func 204) [].toArray [].toArray/\wi.heap.size<=w.heap.size/\Ext w0 w) ?_ ?_
    ·refine cnd rfl (fun h7=>?_) (fun h7=>?_)
     ·have hB4:=Cj hB4 h7;refine Zr<|Zm<|Zm<|Zm<|Zv (yV l2_i1 l10_i1)<|Zm<|Zm<|Zm<|bS hB4 fun x6 Ex6 hB4=>Zc (xc AJX (mc l0_i1 (mc rfl (mc l2_i1 (mc l11_i1 (mc l4_i1 mn)))))) (AMo K0_i1 O0_i1 Ex6) ?_;rintro _ w2⟨rfl,o11,hx1,hs1⟩;have Z1:=Nat.le_trans Z0_i1 hs1;refine nl<|rg<|Zm<|Zm<|Zv (yV l10_i1 l11_i1)<|Za<|nl<|?_;cases hB4;refine lf<|?_;exact⟨l0_i1,o11,rfl,l11_i1,l2_i1,l4_i1,Z1,hx1⟩
     ·have hB4:=DF hB4 h7;refine Zr<|Zm<|Zm<|Zm<|Zv (yV l2_i1 l10_i1)<|Zm<|Zm<|Zv (MH l2_i1 l11_i1)<|Zm<|Zv (yV rfl l10_i1)<|Zm<|Zm<|bS hB4 fun x7 Ex7 hB4=>Zc (xc AJX (mc l0_i1 (mc rfl (mc rfl (mc l10_i1 (mc l4_i1 mn)))))) (AMo K0_i1 O0_i1 Ex7) ?_;rintro _ w3⟨rfl,o12,hx2,hs2⟩;have Z2:=Nat.le_trans Z0_i1 hs2;refine nl<|rg<|Zm<|Zm<|Zv (yV l11_i1 l10_i1)<|Za<|nl<|?_;cases hB4;refine lf<|?_;exact⟨l0_i1,o12,l10_i1,rfl,l2_i1,l4_i1,Z2,hx2⟩
    rintro L w4⟨l0_j1,O0_j1,l10_j1,l11_j1,l2_j1,l4_j1,Z0_j1,K0_j1⟩;cases hB3;refine lf<|?_;exact⟨l0_j1,O0_j1,l10_j1,l11_j1,l2_j1,l4_j1,Z0_j1,K0_j1⟩
   rintro L w5⟨l0_j2,O0_j2,l10_j2,l11_j2,l2_j2,l4_j2,Z0_j2,K0_j2⟩;refine lq m (Nat.lt_succ_self _)<|?_;exact⟨_,_,_,hB1,l0_j2,O0_j2,l10_j2,l11_j2,l2_j2,l4_j2,Z0_j2,K0_j2⟩
  ·have hB1:=DF hB1 h6;refine wp_exit<|?_;cases hB1;refine lf<|?_;exact⟨l0_i1,O0_i1,l10_i1,l2_i1,l4_i1,Z0_i1,K0_i1⟩
 rintro L w6⟨l0_j3,O0_j3,l10_j3,l2_j3,l4_j3,Z0_j3,K0_j3⟩;refine rg<|Zm<|Zm<|Zm<|Zv (yV l2_j3 l10_j3)<|Zm<|Zm<|Zm<|bS hF fun x8 Ex8 hF=>Zc (xc AJX (mc l0_j3 (mc rfl (mc l2_j3 (mc l10_j3 (mc l4_j3 mn)))))) (AMo K0_j3 O0_j3 Ex8) ?_;rintro _ w7⟨rfl,o13,hx3,hs3⟩;have Z3:=Nat.le_trans Z0_j3 hs3;refine nl<|?_;cases hF;exact rtn rfl .nil ⟨rfl,o13,hx3,Z3⟩
theorem AQe(F:Nat):∀(m:Nat){w0 wi:World}(hk:Ext w0 wi){v0:Value}{x0:(List ((Int×Int)×Int))}(o0:Row 302 w0.heap.size wi v0 x0){x1:Int}{x2:Int}{x3:Int}{r:(List ((Int×Int)×Int))}(hF:BH F m x0 x1 x2 x3=some r),
  Calls Tryz.prog 331 [v0,.int .i64 x1,.int .i64 x2,.int .i64 x3,.func (.func 204) #[] #[]].toArray wi (aZ fun v w'=>v=.tuple #[]/\Row 302 w0.heap.size w' v0 r/\Ext w0 w'/\wi.heap.size<=w'.heap.size):=by
 intro m
 induction m with
 |zero=>
  intro w0 wi hk v0 x0 o0 x1 x2 x3 r hF;rw[BH]at hF;cases hF
 |succ m ih=>
 intro w0 wi hk v0 x0 o0 x1 x2 x3 r hF;rw[BH]at hF;have hz:=RV.sl o0.rv;obtain⟨a1,cq1,rfl,-,-,-⟩:=hz;have Z0:wi.heap.size<=wi.heap.size:=Nat.le_refl _;refine kR (n:=220) Tryz.func331 rfl rfl rfl<|wp_seq<|Zr<|Zm<|Zm<|Zv (yV rfl rfl)<|Zv (AAF rfl rfl)<|nl<|cnd rfl (fun h6=>?_) (fun h6=>?_)
 ·have hF:=Cj hF h6;refine Zr<|Zm<|Za<|nl<|Zr<|Zm<|Za<|nl<|wp_seq<|bS hF fun z1 hB1 hF=>ct (fun L w=>L 10=.int .i64 z1/\L 0=.slice a1 x0.length cq1/\L 1=.int .i64 x1/\Ext wi w) ?_ ?_
  ·refine wp_block<|lp (I:=fun m L w=>∃y1:Int,∃y2:Int,Jq F x0 x1 m y1 y2=some z1/\L 10=.int .i64 y1/\L 11=.int .i64 y2/\L 0=.slice a1 x0.length cq1/\L 1=.int .i64 x1/\L 4=.func (.func 204) [].toArray [].toArray/\Ext wi w) F ⟨_,_,hB1,rfl,rfl,rfl,rfl,rfl,(Ext.refl _)⟩ ?_;rintro m L w1⟨y1,y2,hB1,l10_i1,l11_i1,l0_i1,l1_i1,l4_i1,K0_i1⟩;rcases m with _|m
   ·rw[Jq]at hB1;cases hB1
   rw[Jq]at hB1;have o11:=o0.ext K0_i1;refine wp_seq<|Zr<|Zm<|Zm<|Zv (Oi l10_i1 l11_i1)<|nl<|cnd rfl (fun h7=>?_) (fun h7=>?_)
   ·have hB1:=Cj hB1 h7;refine wp_skip<|?_;have hz:=bs hB1;obtain⟨⟨y3,y4⟩,hB3,hB1⟩:=hz;refine ct (fun L w=>L 10=.int .i64 y3/\L 11=.int .i64 y4/\L 0=.slice a1 x0.length cq1/\L 1=.int .i64 x1/\L 4=.func (.func 204) [].toArray [].toArray/\wi.heap.size<=w.heap.size/\Ext w1 w) ?_ ?_
    ·refine wp_block<|Zr<|Zm<|Zm<|Zv (MH l10_i1 l11_i1)<|Zv (AC7 rfl Tryz.underlying3 Tryz.underlying310)<|bS hB3 fun x6 Ex6 hB3=>Zv (AHU rfl rfl Ex6)<|Zv (AC7 rfl Tryz.underlying310 Tryz.underlying3)<|Za<|nl<|wp_seq<|wpl [] (.pure true 0 (.pure true 1 (.pure true 2 (.pure true 3 (.pure false 4 (.pure true 5 (.pure true 6 (.pure true 7 (.pure false 8 (.eff 9 (.pure true 10 .fin) .stop)))))))))) mixed (by kernel_rfl) (fun w2 hx1=>?_);have k3:=K0_i1.tr hx1;have o12:=o11.ext hx1;refine Zn rfl<|Zn rfl<|Zn rfl<|bS hB3 fun x7 Ex7 hB3=>?_;have hz:=(RV.els o12.rv).ix Ex7;obtain⟨b6,f1,cs6,e1,i2,i3,q6,hc1⟩:=hz;cases e1;obtain⟨_,_,rfl,⟨_,_,rfl,rfl,rfl⟩,rfl⟩:=q6;have i4:(AX x6)<(x0.length:Int):=by rw[(RV.cap o12.rv).1];exact i3
     refine Zp rfl (fun _=>Ci l0_i1 rfl Tryz.underlying298 Kz i2 i4)<|Zq rfl (fun _ hS=>vG rfl Kz rfl (hc1.ext (hS.resolve_left nofun))) (Ext.refl _)<|Zn rfl<|Zn rfl<|bS hB3 fun x8 Ex8 hB3=>?_;have hz:=xO o12.rv Ex8;obtain⟨cs7,i5,i6,q7,hc2⟩:=hz;obtain⟨_,_,rfl,⟨_,_,rfl,rfl,rfl⟩,rfl⟩:=q7;have i7:x1<(x0.length:Int):=by rw[(RV.cap o12.rv).1];exact i6
     refine Zp rfl (fun _=>Ci l0_i1 l1_i1 Tryz.underlying298 Kz i5 i7)<|Zq rfl (fun _ hS=>vG rfl Kz rfl (hc2.ext (hS.resolve_left nofun))) (Ext.refl _)<|bS hB3 fun x9 Ex9 hB3=>zX rfl<|Zc (xcv l4_i1 AG7 (mc rfl (mc rfl mn)) rfl) (AKR (show RV (α:=((Int×Int)×Int)) _ (.agg [.int .i64 x7.1.1,.int .i64 x7.1.2,.int .i64 x7.2].toArray) ((x7.1.1,x7.1.2),x7.2)from⟨_,rfl,[.int .i64 x7.1.1]++[.int .i64 x7.1.2],[.int .i64 x7.2],rfl,⟨[.int .i64 x7.1.1],[.int .i64 x7.1.2],rfl,rfl,rfl⟩,rfl⟩) (show RV (α:=((Int×Int)×Int)) _ (.agg [.int .i64 x8.1.1,.int .i64 x8.1.2,.int .i64 x8.2].toArray) ((x8.1.1,x8.1.2),x8.2)from⟨_,rfl,[.int .i64 x8.1.1]++[.int .i64 x8.1.2],[.int .i64 x8.2],rfl,⟨[.int .i64 x8.1.1],[.int .i64 x8.1.2],rfl,rfl,rfl⟩,rfl⟩) Ex9) ?_;rintro _ w3⟨rfl,hx2⟩;have k5:=k3.tr hx2;have k6:=hx1.tr hx2;refine nl ⟨fun _ _=>hx2,?_⟩;refine Zp rfl (fun _=>Oi rfl rfl)<|?_;have hz:=bs hB3;obtain⟨⟨y5,y6⟩,hB4,hB3⟩:=hz;refine ct (fun L w=>L 10=.int .i64 y5/\L 11=.int .i64 y6/\L 0=.slice (some ⟨b6,f1,none⟩) x0.length cq1/\L 1=.int .i64 x1/\L 4=.func (.func 204) [].toArray [].toArray/\wi.heap.size<=w.heap.size/\Ext w3 w) ?_ ?_
     ·refine cnd rfl (fun h8=>?_) (fun h8=>?_)
      ·have hB4:=Cj hB4 h8;refine rg<|Zm<|Zv (MH rfl rfl)<|Za<|nl<|?_;cases hB4;refine lf<|?_;exact⟨rfl,l11_i1,l0_i1,l1_i1,l4_i1,k5.size,(Ext.refl _)⟩
      ·have hB4:=DF hB4 h8;refine rg<|Zm<|Za<|nl<|?_;cases hB4;refine lf<|?_;exact⟨l10_i1,rfl,l0_i1,l1_i1,l4_i1,k5.size,(Ext.refl _)⟩
     rintro L w4⟨l10_j1,l11_j1,l0_j1,l1_j1,l4_j1,Z0_j1,K0_j1⟩;have k9:=k6.tr K0_j1;cases hB3;refine lf<|?_;exact⟨l10_j1,l11_j1,l0_j1,l1_j1,l4_j1,Z0_j1,k9⟩
    rintro L w5⟨l10_j2,l11_j2,l0_j2,l1_j2,l4_j2,Z0_j2,K0_j2⟩;have k12:=K0_i1.tr K0_j2;refine lq m (Nat.lt_succ_self _)<|?_;exact⟨_,_,hB1,l10_j2,l11_j2,l0_j2,l1_j2,l4_j2,k12⟩
   ·have hB1:=DF hB1 h7;refine wp_exit<|?_;cases hB1;refine lf<|?_;exact⟨l10_i1,l0_i1,l1_i1,K0_i1⟩
  rintro L w6⟨l10_j3,l0_j3,l1_j3,K0_j3⟩;have k13:=hk.tr K0_j3;have o16:=o0.ext K0_j3;refine wp_seq<|Zr<|Zm<|Za<|nl<|bS hF fun z2 hB8 hF=>ct (fun L w=>L 0=(.slice a1 x0.length cq1)/\Row 302 w0.heap.size w (.slice a1 x0.length cq1) z2/\wi.heap.size<=w.heap.size/\Ext w0 w) ?_ ?_
  ·refine wp_block<|lp (I:=fun m L w=>∃y7:(List ((Int×Int)×Int)),∃y8:Int,Gy F z1 m y7 y8=some z2/\L 0=(.slice a1 x0.length cq1)/\Row 302 w0.heap.size w (.slice a1 x0.length cq1) y7/\L 13=.int .i64 y8/\L 10=.int .i64 z1/\wi.heap.size<=w.heap.size/\Ext w0 w) F ⟨_,_,hB8,l0_j3,o16,l1_j3,l10_j3,K0_j3.size,k13⟩ ?_;rintro m L w7⟨y7,y8,hB8,l0_i8,O0_i8,l13_i8,l10_i8,Z0_i8,K0_i8⟩;rcases m with _|m
   ·rw[Gy]at hB8;cases hB8
   rw[Gy]at hB8;refine wp_seq<|Zr<|Zm<|Zm<|Zv (yV l10_i8 rfl)<|Zv (Oi l13_i8 rfl)<|nl<|cnd rfl (fun h9=>?_) (fun h9=>?_)
   ·have hB8:=Cj hB8 h9;refine wp_skip<|wp_seq<|wp_block<|wpl [15,17] (.pure true 0 (.pure true 1 (.pure true 2 (.pure true 3 (.pure true 4 (.pure true 5 (.pure true 6 (.pure true 7 (.pure true 8 (.pure false 9 (.pure true 10 (.pure true 11 (.pure true 12 (.pure false 13 (.pure true 14 (.eff 15 (.pure true 16 (.eff 17 .fin .stop)) .stop)))))))))))))))) mixed (by kernel_rfl) (fun w8 hx3=>?_);have k14:=K0_i8.tr hx3;have zs1:=Nat.le_trans Z0_i8 hx3.size;have O1:=O0_i8.ext hx3;refine Zn rfl<|Zn rfl<|Zn rfl<|Zn rfl<|Zp rfl (fun _=>MH l13_i8 rfl)<|Zn rfl<|Zn rfl<|Zp rfl (fun _=>MH l13_i8 rfl)<|bS hB8 fun x10 Ex10 hB8=>?_;have hz:=(RV.els O1.rv).ix Ex10;obtain⟨b7,f2,cs8,e2,i9,i10,q8,hc3⟩:=hz;cases e2;obtain⟨_,_,rfl,⟨_,_,rfl,rfl,rfl⟩,rfl⟩:=q8;have i11:(AX (y8+1))<(x0.length:Int):=by rw[(RV.cap O1.rv).1];exact i10
    refine Zp rfl (fun _=>Ci l0_i8 rfl Tryz.underlying298 Kz i9 i11)<|Zq rfl (fun _ hS=>vG rfl Kz rfl (hc3.ext (hS.resolve_left nofun))) (Ext.refl _)<|Zn rfl<|Zn rfl<|bS hB8 fun x11 Ex11 hB8=>?_;have hz:=xO O1.rv Ex11;obtain⟨cs9,i12,i13,q9,hc4⟩:=hz;obtain⟨_,_,rfl,⟨_,_,rfl,rfl,rfl⟩,rfl⟩:=q9;have i14:y8<(x0.length:Int):=by rw[(RV.cap O1.rv).1];exact i13
    refine Zp rfl (fun _=>Ci l0_i8 l13_i8 Tryz.underlying298 Kz i12 i14)<|Zq rfl (fun _ hS=>vG rfl Kz rfl (hc4.ext (hS.resolve_left nofun))) (Ext.refl _)<|bS hB8 fun x12 Ex12 hB8=>?_;have hz:=xO O1.rv Ex12;obtain⟨cs10,i15,i16,q10,hc5⟩:=hz;obtain⟨_,_,rfl,⟨_,_,rfl,rfl,rfl⟩,rfl⟩:=q10;have i17:y8<(x0.length:Int):=by rw[(RV.cap O1.rv).1];exact i16
    refine Zp rfl (fun _=>Ci l0_i8 l13_i8 Tryz.underlying298 Kz i15 i17)<|zX rfl<|ABq (l:=y7) (v:=((x10.1.1,x10.1.2),x10.2)) rfl rfl rfl Kz O1 Ex12 fun w9 hch1 o18=>?_;have k15:=Ext.chg k14 hch1 (Nat.le_trans (Nat.le_refl _) (Row.ge O1));have zs2:=Nat.le_trans zs1 (Nat.le_of_eq hch1.size.symm);refine nl ⟨fun h=>(h (by decide)).elim,?_⟩;refine bS hB8 fun x13 Ex13 hB8=>?_;have hz:=xO o18.rv Ex13;obtain⟨cs11,i18,i19,q11,hc6⟩:=hz;obtain⟨_,_,rfl,⟨_,_,rfl,rfl,rfl⟩,rfl⟩:=q11;have i20:(AX (y8+1))<(x0.length:Int):=by rw[(RV.cap o18.rv).1];exact i19
    refine Zp rfl (fun _=>Ci l0_i8 rfl Tryz.underlying298 Kz i18 i20)<|zX rfl<|ABq (l:=(Pv y7 y8 ((x10.1.1,x10.1.2),x10.2))) (v:=((x11.1.1,x11.1.2),x11.2)) rfl rfl rfl Kz o18 Ex13 fun w10 hch2 o19=>?_;have k16:=Ext.chg k15 hch2 (Nat.le_trans (Nat.le_refl _) (Row.ge o18));have zs3:=Nat.le_trans zs2 (Nat.le_of_eq hch2.size.symm);refine nl ⟨fun h=>(h (by decide)).elim,?_⟩;refine rg<|Zm<|Zv (MH l13_i8 rfl)<|Za<|nl<|lq m (Nat.lt_succ_self _)<|?_;exact⟨_,_,hB8,l0_i8,o19,rfl,l10_i8,zs3,k16⟩
   ·have hB8:=DF hB8 h9;refine wp_exit<|?_;cases hB8;refine lf<|?_;exact⟨l0_i8,O0_i8,Z0_i8,K0_i8⟩
  rintro L w11⟨l0_j4,O0_j4,Z0_j4,K0_j4⟩;cases hF;exact wp_ret<|rt rfl .nil ⟨rfl,O0_j4,K0_j4,Z0_j4⟩
 ·have hF:=DF hF h6;refine wp_skip<|wp_seq<|Zr<|Zm<|Zm<|Zv (yV rfl rfl)<|Zv (AAF rfl rfl)<|nl<|cnd rfl (fun h10=>?_) (fun h10=>?_)
  ·have hF:=Cj hF h10;refine Zr<|Zm<|Za<|nl<|Zr<|Zm<|Za<|nl<|wp_seq<|bS hF fun z3 hB11 hF=>ct (fun L w=>L 14=.int .i64 z3/\L 0=.slice a1 x0.length cq1/\L 2=.int .i64 x2/\Ext wi w) ?_ ?_
   ·refine wp_block<|lp (I:=fun m L w=>∃y9:Int,∃y10:Int,Jr F x0 x2 m y9 y10=some z3/\L 14=.int .i64 y9/\L 15=.int .i64 y10/\L 0=.slice a1 x0.length cq1/\L 2=.int .i64 x2/\L 4=.func (.func 204) [].toArray [].toArray/\Ext wi w) F ⟨_,_,hB11,rfl,rfl,rfl,rfl,rfl,(Ext.refl _)⟩ ?_;rintro m L w12⟨y9,y10,hB11,l14_i21,l15_i21,l0_i21,l2_i21,l4_i21,K0_i21⟩;rcases m with _|m
    ·rw[Jr]at hB11;cases hB11
    rw[Jr]at hB11;have o21:=o0.ext K0_i21;refine wp_seq<|Zr<|Zm<|Zm<|Zv (Oi l14_i21 l15_i21)<|nl<|cnd rfl (fun h11=>?_) (fun h11=>?_)
    ·have hB11:=Cj hB11 h11;refine wp_skip<|?_;have hz:=bs hB11;obtain⟨⟨y11,y12⟩,hB13,hB11⟩:=hz;refine ct (fun L w=>L 14=.int .i64 y11/\L 15=.int .i64 y12/\L 0=.slice a1 x0.length cq1/\L 2=.int .i64 x2/\L 4=.func (.func 204) [].toArray [].toArray/\wi.heap.size<=w.heap.size/\Ext w12 w) ?_ ?_
     ·refine wp_block<|Zr<|Zm<|Zm<|Zv (MH l14_i21 l15_i21)<|Zv (AC7 rfl Tryz.underlying3 Tryz.underlying310)<|bS hB13 fun x14 Ex14 hB13=>Zv (AHU rfl rfl Ex14)<|Zv (AC7 rfl Tryz.underlying310 Tryz.underlying3)<|Za<|nl<|wp_seq<|wpl [] (.pure true 0 (.pure true 1 (.pure true 2 (.pure true 3 (.pure false 4 (.pure true 5 (.pure true 6 (.pure true 7 (.pure false 8 (.eff 9 (.pure true 10 (.pure true 11 .fin)) .stop)))))))))) mixed (by kernel_rfl) (fun w13 hx4=>?_);have k19:=K0_i21.tr hx4;have o22:=o21.ext hx4;refine Zn rfl<|Zn rfl<|Zn rfl<|bS hB13 fun x15 Ex15 hB13=>?_;have hz:=(RV.els o22.rv).ix Ex15;obtain⟨b8,f3,cs12,e3,i22,i23,q12,hc7⟩:=hz;cases e3;obtain⟨_,_,rfl,⟨_,_,rfl,rfl,rfl⟩,rfl⟩:=q12;have i24:x2<(x0.length:Int):=by rw[(RV.cap o22.rv).1];exact i23
      refine Zp rfl (fun _=>Ci l0_i21 l2_i21 Tryz.underlying298 Kz i22 i24)<|Zq rfl (fun _ hS=>vG rfl Kz rfl (hc7.ext (hS.resolve_left nofun))) (Ext.refl _)<|Zn rfl<|Zn rfl<|bS hB13 fun x16 Ex16 hB13=>?_;have hz:=xO o22.rv Ex16;obtain⟨cs13,i25,i26,q13,hc8⟩:=hz;obtain⟨_,_,rfl,⟨_,_,rfl,rfl,rfl⟩,rfl⟩:=q13;have i27:(AX x14)<(x0.length:Int):=by rw[(RV.cap o22.rv).1];exact i26
      refine Zp rfl (fun _=>Ci l0_i21 rfl Tryz.underlying298 Kz i25 i27)<|Zq rfl (fun _ hS=>vG rfl Kz rfl (hc8.ext (hS.resolve_left nofun))) (Ext.refl _)<|bS hB13 fun x17 Ex17 hB13=>zX rfl<|Zc (xcv l4_i21 AG7 (mc rfl (mc rfl mn)) rfl) (AKR (show RV (α:=((Int×Int)×Int)) _ (.agg [.int .i64 x15.1.1,.int .i64 x15.1.2,.int .i64 x15.2].toArray) ((x15.1.1,x15.1.2),x15.2)from⟨_,rfl,[.int .i64 x15.1.1]++[.int .i64 x15.1.2],[.int .i64 x15.2],rfl,⟨[.int .i64 x15.1.1],[.int .i64 x15.1.2],rfl,rfl,rfl⟩,rfl⟩) (show RV (α:=((Int×Int)×Int)) _ (.agg [.int .i64 x16.1.1,.int .i64 x16.1.2,.int .i64 x16.2].toArray) ((x16.1.1,x16.1.2),x16.2)from⟨_,rfl,[.int .i64 x16.1.1]++[.int .i64 x16.1.2],[.int .i64 x16.2],rfl,⟨[.int .i64 x16.1.1],[.int .i64 x16.1.2],rfl,rfl,rfl⟩,rfl⟩) Ex17) ?_;rintro _ w14⟨rfl,hx5⟩;have k21:=k19.tr hx5;have k22:=hx4.tr hx5;refine nl ⟨fun _ _=>hx5,?_⟩;refine Zp rfl (fun _=>Oi rfl rfl)<|Zp rfl (fun _=>zK rfl)<|?_;have hz:=bs hB13;obtain⟨⟨y13,y14⟩,hB14,hB13⟩:=hz;refine ct (fun L w=>L 14=.int .i64 y13/\L 15=.int .i64 y14/\L 0=.slice (some ⟨b8,f3,none⟩) x0.length cq1/\L 2=.int .i64 x2/\L 4=.func (.func 204) [].toArray [].toArray/\wi.heap.size<=w.heap.size/\Ext w14 w) ?_ ?_
      ·refine cnd rfl (fun h12=>?_) (fun h12=>?_)
       ·have hB14:=Cj hB14 h12;refine rg<|Zm<|Zv (MH rfl rfl)<|Za<|nl<|?_;cases hB14;refine lf<|?_;exact⟨rfl,l15_i21,l0_i21,l2_i21,l4_i21,k21.size,(Ext.refl _)⟩
       ·have hB14:=DF hB14 h12;refine rg<|Zm<|Za<|nl<|?_;cases hB14;refine lf<|?_;exact⟨l14_i21,rfl,l0_i21,l2_i21,l4_i21,k21.size,(Ext.refl _)⟩
      rintro L w15⟨l14_j5,l15_j5,l0_j5,l2_j5,l4_j5,Z0_j5,K0_j5⟩;have k25:=k22.tr K0_j5;cases hB13;refine lf<|?_;exact⟨l14_j5,l15_j5,l0_j5,l2_j5,l4_j5,Z0_j5,k25⟩
     rintro L w16⟨l14_j6,l15_j6,l0_j6,l2_j6,l4_j6,Z0_j6,K0_j6⟩;have k28:=K0_i21.tr K0_j6;refine lq m (Nat.lt_succ_self _)<|?_;exact⟨_,_,hB11,l14_j6,l15_j6,l0_j6,l2_j6,l4_j6,k28⟩
    ·have hB11:=DF hB11 h11;refine wp_exit<|?_;cases hB11;refine lf<|?_;exact⟨l14_i21,l0_i21,l2_i21,K0_i21⟩
   rintro L w17⟨l14_j7,l0_j7,l2_j7,K0_j7⟩;have k29:=hk.tr K0_j7;have o26:=o0.ext K0_j7;refine wp_seq<|Zr<|Zm<|Za<|nl<|bS hF fun z4 hB18 hF=>ct (fun L w=>L 0=(.slice a1 x0.length cq1)/\Row 302 w0.heap.size w (.slice a1 x0.length cq1) z4/\wi.heap.size<=w.heap.size/\Ext w0 w) ?_ ?_
   ·refine wp_block<|lp (I:=fun m L w=>∃y15:(List ((Int×Int)×Int)),∃y16:Int,G5 F z3 m y15 y16=some z4/\L 0=(.slice a1 x0.length cq1)/\Row 302 w0.heap.size w (.slice a1 x0.length cq1) y15/\L 17=.int .i64 y16/\L 14=.int .i64 z3/\wi.heap.size<=w.heap.size/\Ext w0 w) F ⟨_,_,hB18,l0_j7,o26,l2_j7,l14_j7,K0_j7.size,k29⟩ ?_;rintro m L w18⟨y15,y16,hB18,l0_i28,O0_i28,l17_i28,l14_i28,Z0_i28,K0_i28⟩;rcases m with _|m
    ·rw[G5]at hB18;cases hB18
    rw[G5]at hB18;refine wp_seq<|Zr<|Zm<|Zm<|Zv (yY l17_i28 l14_i28)<|nl<|cnd rfl (fun h13=>?_) (fun h13=>?_)
    ·have hB18:=Cj hB18 h13;refine wp_skip<|wp_seq<|wp_block<|wpl [15,17] (.pure true 0 (.pure true 1 (.pure true 2 (.pure true 3 (.pure true 4 (.pure true 5 (.pure true 6 (.pure true 7 (.pure true 8 (.pure false 9 (.pure true 10 (.pure true 11 (.pure true 12 (.pure false 13 (.pure true 14 (.eff 15 (.pure true 16 (.eff 17 .fin .stop)) .stop)))))))))))))))) mixed (by kernel_rfl) (fun w19 hx6=>?_);have k30:=K0_i28.tr hx6;have zs4:=Nat.le_trans Z0_i28 hx6.size;have O2:=O0_i28.ext hx6;refine Zn rfl<|Zn rfl<|Zn rfl<|Zn rfl<|Zp rfl (fun _=>yV l17_i28 rfl)<|Zn rfl<|Zn rfl<|Zp rfl (fun _=>yV l17_i28 rfl)<|bS hB18 fun x18 Ex18 hB18=>?_;have hz:=(RV.els O2.rv).ix Ex18;obtain⟨b9,f4,cs14,e4,i29,i30,q14,hc9⟩:=hz;cases e4;obtain⟨_,_,rfl,⟨_,_,rfl,rfl,rfl⟩,rfl⟩:=q14;have i31:(AX (y16-1))<(x0.length:Int):=by rw[(RV.cap O2.rv).1];exact i30
     refine Zp rfl (fun _=>Ci l0_i28 rfl Tryz.underlying298 Kz i29 i31)<|Zq rfl (fun _ hS=>vG rfl Kz rfl (hc9.ext (hS.resolve_left nofun))) (Ext.refl _)<|Zn rfl<|Zn rfl<|bS hB18 fun x19 Ex19 hB18=>?_;have hz:=xO O2.rv Ex19;obtain⟨cs15,i32,i33,q15,hc10⟩:=hz;obtain⟨_,_,rfl,⟨_,_,rfl,rfl,rfl⟩,rfl⟩:=q15;have i34:y16<(x0.length:Int):=by rw[(RV.cap O2.rv).1];exact i33
     refine Zp rfl (fun _=>Ci l0_i28 l17_i28 Tryz.underlying298 Kz i32 i34)<|Zq rfl (fun _ hS=>vG rfl Kz rfl (hc10.ext (hS.resolve_left nofun))) (Ext.refl _)<|bS hB18 fun x20 Ex20 hB18=>?_;have hz:=xO O2.rv Ex20;obtain⟨cs16,i35,i36,q16,hc11⟩:=hz;obtain⟨_,_,rfl,⟨_,_,rfl,rfl,rfl⟩,rfl⟩:=q16;have i37:y16<(x0.length:Int):=by rw[(RV.cap O2.rv).1];exact i36
     refine Zp rfl (fun _=>Ci l0_i28 l17_i28 Tryz.underlying298 Kz i35 i37)<|zX rfl<|ABq (l:=y15) (v:=((x18.1.1,x18.1.2),x18.2)) rfl rfl rfl Kz O2 Ex20 fun w20 hch3 o28=>?_;have k31:=Ext.chg k30 hch3 (Nat.le_trans (Nat.le_refl _) (Row.ge O2));have zs5:=Nat.le_trans zs4 (Nat.le_of_eq hch3.size.symm);refine nl ⟨fun h=>(h (by decide)).elim,?_⟩;refine bS hB18 fun x21 Ex21 hB18=>?_;have hz:=xO o28.rv Ex21;obtain⟨cs17,i38,i39,q17,hc12⟩:=hz;obtain⟨_,_,rfl,⟨_,_,rfl,rfl,rfl⟩,rfl⟩:=q17;have i40:(AX (y16-1))<(x0.length:Int):=by rw[(RV.cap o28.rv).1];exact i39
     refine Zp rfl (fun _=>Ci l0_i28 rfl Tryz.underlying298 Kz i38 i40)<|zX rfl<|ABq (l:=(Pv y15 y16 ((x18.1.1,x18.1.2),x18.2))) (v:=((x19.1.1,x19.1.2),x19.2)) rfl rfl rfl Kz o28 Ex21 fun w21 hch4 o29=>?_;have k32:=Ext.chg k31 hch4 (Nat.le_trans (Nat.le_refl _) (Row.ge o28));have zs6:=Nat.le_trans zs5 (Nat.le_of_eq hch4.size.symm);refine nl ⟨fun h=>(h (by decide)).elim,?_⟩;refine rg<|Zm<|Zv (yV l17_i28 rfl)<|Za<|nl<|lq m (Nat.lt_succ_self _)<|?_;exact⟨_,_,hB18,l0_i28,o29,rfl,l14_i28,zs6,k32⟩
    ·have hB18:=DF hB18 h13;refine wp_exit<|?_;cases hB18;refine lf<|?_;exact⟨l0_i28,O0_i28,Z0_i28,K0_i28⟩
   rintro L w22⟨l0_j8,O0_j8,Z0_j8,K0_j8⟩;cases hF;exact wp_ret<|rt rfl .nil ⟨rfl,O0_j8,K0_j8,Z0_j8⟩
  ·have hF:=DF hF h10;refine wp_skip<|Zr<|Zm<|Zm<|Zv (MH rfl rfl)<|Zv (AC7 rfl Tryz.underlying3 Tryz.underlying310)<|bS hF fun x22 Ex22 hF=>Zv (AHU rfl rfl Ex22)<|Zv (AC7 rfl Tryz.underlying310 Tryz.underlying3)<|Za<|nl<|Zr<|Zm<|Zm<|Zv (MH rfl rfl)<|Za<|nl<|Zr<|Za<|Za<|nl<|wp_seq<|Zr<|Zm<|Zm<|Zv (yY rfl rfl)<|nl<|?_;have hz:=bs hF;obtain⟨⟨y17,y18⟩,hB21,hF⟩:=hz;refine ct (fun L w=>L 20=.int .i64 y17/\L 21=.int .i64 y18/\L 0=.slice a1 x0.length cq1/\L 1=.int .i64 x1/\L 2=.int .i64 x2/\L 3=.int .i64 x3/\L 4=.func (.func 204) [].toArray [].toArray/\L 18=.int .i64 (AX x22)/\L 19=.int .i64 (AX ((AX x22)+x2))/\Ext wi w) ?_ ?_
   ·refine cnd rfl (fun h14=>?_) (fun h14=>?_)
    ·have hB21:=Cj hB21 h14;refine Zr<|Zm<|Zm<|Zv (yV rfl rfl)<|Za<|nl<|rg<|Zm<|Za<|nl<|?_;cases hB21;refine lf<|?_;exact⟨rfl,rfl,rfl,rfl,rfl,rfl,rfl,rfl,rfl,(Ext.refl _)⟩
    ·have hB21:=DF hB21 h14;refine Zr<|Zm<|Za<|nl<|rg<|Zm<|Za<|nl<|?_;cases hB21;refine lf<|?_;exact⟨rfl,rfl,rfl,rfl,rfl,rfl,rfl,rfl,rfl,(Ext.refl _)⟩
   rintro L w23⟨l20_j9,l21_j9,l0_j9,l1_j9,l2_j9,l3_j9,l4_j9,l18_j9,l19_j9,K0_j9⟩;have k33:=hk.tr K0_j9;have o30:=o0.ext K0_j9;refine Zr<|Zm<|Zv (yV l19_j9 rfl)<|Za<|nl<|wp_seq<|bS hF fun z5 hB24 hF=>ct (fun L w=>L 20=.int .i64 z5/\L 0=.slice a1 x0.length cq1/\L 1=.int .i64 x1/\L 2=.int .i64 x2/\L 3=.int .i64 x3/\L 4=.func (.func 204) [].toArray [].toArray/\L 18=.int .i64 (AX x22)/\L 19=.int .i64 (AX ((AX x22)+x2))/\wi.heap.size<=w.heap.size/\Ext w23 w) ?_ ?_
   ·refine wp_block<|lp (I:=fun m L w=>∃y19:Int,∃y20:Int,KN F x0 x2 x22 m y19 y20=some z5/\L 20=.int .i64 y19/\L 21=.int .i64 y20/\L 0=.slice a1 x0.length cq1/\L 1=.int .i64 x1/\L 2=.int .i64 x2/\L 3=.int .i64 x3/\L 4=.func (.func 204) [].toArray [].toArray/\L 18=.int .i64 (AX x22)/\L 19=.int .i64 (AX ((AX x22)+x2))/\L 22=.int .i64 (AX ((AX ((AX x22)+x2))-1))/\wi.heap.size<=w.heap.size/\Ext w23 w) F ⟨_,_,hB24,l20_j9,l21_j9,l0_j9,l1_j9,l2_j9,l3_j9,l4_j9,l18_j9,l19_j9,rfl,K0_j9.size,(Ext.refl _)⟩ ?_;rintro m L w24⟨y19,y20,hB24,l20_i41,l21_i41,l0_i41,l1_i41,l2_i41,l3_i41,l4_i41,l18_i41,l19_i41,l22_i41,Z0_i41,K0_i41⟩;rcases m with _|m
    ·rw[KN]at hB24;cases hB24
    rw[KN]at hB24;have o32:=o30.ext K0_i41;refine wp_seq<|Zr<|Zm<|Zm<|Zv (Oi l20_i41 l21_i41)<|nl<|cnd rfl (fun h15=>?_) (fun h15=>?_)
    ·have hB24:=Cj hB24 h15;refine wp_skip<|?_;have hz:=bs hB24;obtain⟨⟨y21,y22⟩,hB26,hB24⟩:=hz;refine ct (fun L w=>L 20=.int .i64 y21/\L 21=.int .i64 y22/\L 0=.slice a1 x0.length cq1/\L 1=.int .i64 x1/\L 2=.int .i64 x2/\L 3=.int .i64 x3/\L 4=.func (.func 204) [].toArray [].toArray/\L 18=.int .i64 (AX x22)/\L 19=.int .i64 (AX ((AX x22)+x2))/\L 22=.int .i64 (AX ((AX ((AX x22)+x2))-1))/\wi.heap.size<=w.heap.size/\Ext w24 w) ?_ ?_
     ·refine wp_block<|Zr<|Zm<|Zm<|Zv (MH l20_i41 l21_i41)<|Zv (AC7 rfl Tryz.underlying3 Tryz.underlying310)<|bS hB26 fun x23 Ex23 hB26=>Zv (AHU rfl rfl Ex23)<|Zv (AC7 rfl Tryz.underlying310 Tryz.underlying3)<|Za<|nl<|wp_seq<|wpl [] (.pure true 0 (.pure true 1 (.pure true 2 (.pure true 3 (.pure true 4 (.pure true 5 (.pure false 6 (.pure true 7 (.pure true 8 (.pure true 9 (.pure false 10 (.eff 11 (.pure true 12 (.pure true 13 .fin)) .stop)))))))))))) mixed (by kernel_rfl) (fun w25 hx7=>?_);have zs7:=Nat.le_trans Z0_i41 hx7.size;have o33:=o32.ext hx7;refine Zn rfl<|Zn rfl<|Zn rfl<|Zn rfl<|Zp rfl (fun _=>yV l22_i41 rfl)<|bS hB26 fun x24 Ex24 hB26=>?_;have hz:=(RV.els o33.rv).ix Ex24;obtain⟨b10,f5,cs18,e5,i42,i43,q18,hc13⟩:=hz;cases e5;obtain⟨_,_,rfl,⟨_,_,rfl,rfl,rfl⟩,rfl⟩:=q18;have i44:(AX ((AX ((AX ((AX x22)+x2))-1))-(AX x23)))<(x0.length:Int):=by rw[(RV.cap o33.rv).1];exact i43
      refine Zp rfl (fun _=>Ci l0_i41 rfl Tryz.underlying298 Kz i42 i44)<|Zq rfl (fun _ hS=>vG rfl Kz rfl (hc13.ext (hS.resolve_left nofun))) (Ext.refl _)<|Zn rfl<|Zn rfl<|bS hB26 fun x25 Ex25 hB26=>?_;have hz:=xO o33.rv Ex25;obtain⟨cs19,i45,i46,q19,hc14⟩:=hz;obtain⟨_,_,rfl,⟨_,_,rfl,rfl,rfl⟩,rfl⟩:=q19;have i47:(AX x23)<(x0.length:Int):=by rw[(RV.cap o33.rv).1];exact i46
      refine Zp rfl (fun _=>Ci l0_i41 rfl Tryz.underlying298 Kz i45 i47)<|Zq rfl (fun _ hS=>vG rfl Kz rfl (hc14.ext (hS.resolve_left nofun))) (Ext.refl _)<|bS hB26 fun x26 Ex26 hB26=>zX rfl<|Zc (xcv l4_i41 AG7 (mc rfl (mc rfl mn)) rfl) (AKR (show RV (α:=((Int×Int)×Int)) _ (.agg [.int .i64 x24.1.1,.int .i64 x24.1.2,.int .i64 x24.2].toArray) ((x24.1.1,x24.1.2),x24.2)from⟨_,rfl,[.int .i64 x24.1.1]++[.int .i64 x24.1.2],[.int .i64 x24.2],rfl,⟨[.int .i64 x24.1.1],[.int .i64 x24.1.2],rfl,rfl,rfl⟩,rfl⟩) (show RV (α:=((Int×Int)×Int)) _ (.agg [.int .i64 x25.1.1,.int .i64 x25.1.2,.int .i64 x25.2].toArray) ((x25.1.1,x25.1.2),x25.2)from⟨_,rfl,[.int .i64 x25.1.1]++[.int .i64 x25.1.2],[.int .i64 x25.2],rfl,⟨[.int .i64 x25.1.1],[.int .i64 x25.1.2],rfl,rfl,rfl⟩,rfl⟩) Ex26) ?_;rintro _ w26⟨rfl,hx8⟩;have k42:=hx7.tr hx8;have zs8:=Nat.le_trans zs7 hx8.size;refine nl ⟨fun _ _=>hx8,?_⟩;refine Zp rfl (fun _=>Oi rfl rfl)<|Zp rfl (fun _=>zK rfl)<|?_;have hz:=bs hB26;obtain⟨⟨y23,y24⟩,hB27,hB26⟩:=hz;refine ct (fun L w=>L 20=.int .i64 y23/\L 21=.int .i64 y24/\L 0=.slice (some ⟨b10,f5,none⟩) x0.length cq1/\L 1=.int .i64 x1/\L 2=.int .i64 x2/\L 3=.int .i64 x3/\L 4=.func (.func 204) [].toArray [].toArray/\L 18=.int .i64 (AX x22)/\L 19=.int .i64 (AX ((AX x22)+x2))/\L 22=.int .i64 (AX ((AX ((AX x22)+x2))-1))/\wi.heap.size<=w.heap.size/\Ext w26 w) ?_ ?_
      ·refine cnd rfl (fun h16=>?_) (fun h16=>?_)
       ·have hB27:=Cj hB27 h16;refine rg<|Zm<|Zv (MH rfl rfl)<|Za<|nl<|?_;cases hB27;refine lf<|?_;exact⟨rfl,l21_i41,l0_i41,l1_i41,l2_i41,l3_i41,l4_i41,l18_i41,l19_i41,l22_i41,zs8,(Ext.refl _)⟩
       ·have hB27:=DF hB27 h16;refine rg<|Zm<|Za<|nl<|?_;cases hB27;refine lf<|?_;exact⟨l20_i41,rfl,l0_i41,l1_i41,l2_i41,l3_i41,l4_i41,l18_i41,l19_i41,l22_i41,zs8,(Ext.refl _)⟩
      rintro L w27⟨l20_j10,l21_j10,l0_j10,l1_j10,l2_j10,l3_j10,l4_j10,l18_j10,l19_j10,l22_j10,Z0_j10,K0_j10⟩;have k46:=k42.tr K0_j10;cases hB26;refine lf<|?_;exact⟨l20_j10,l21_j10,l0_j10,l1_j10,l2_j10,l3_j10,l4_j10,l18_j10,l19_j10,l22_j10,Z0_j10,k46⟩
     rintro L w28⟨l20_j11,l21_j11,l0_j11,l1_j11,l2_j11,l3_j11,l4_j11,l18_j11,l19_j11,l22_j11,Z0_j11,K0_j11⟩;have k50:=K0_i41.tr K0_j11;refine lq m (Nat.lt_succ_self _)<|?_;exact⟨_,_,hB24,l20_j11,l21_j11,l0_j11,l1_j11,l2_j11,l3_j11,l4_j11,l18_j11,l19_j11,l22_j11,Z0_j11,k50⟩
    ·have hB24:=DF hB24 h15;refine wp_exit<|?_;cases hB24;refine lf<|?_;exact⟨l20_i41,l0_i41,l1_i41,l2_i41,l3_i41,l4_i41,l18_i41,l19_i41,Z0_i41,K0_i41⟩
   rintro L w29⟨l20_j12,l0_j12,l1_j12,l2_j12,l3_j12,l4_j12,l18_j12,l19_j12,Z0_j12,K0_j12⟩;have k51:=k33.tr K0_j12;have o37:=o30.ext K0_j12;refine Zr<|Zm<|Zm<|Zv (yV l19_j12 l20_j12)<|Za<|nl<|wp_seq<|Zr<|Zm<|Zm<|Zv (Oi l20_j12 l2_j12)<|Zm<|Zg rfl rfl (gw1 rfl) (fun hc=>Ko l2_j12)<|Zg rfl rfl (gw1 rfl) (fun hc=>Ko rfl)<|Zg rfl rfl (gw1 rfl) (fun hc=>Oi (mv hc rfl) (mv hc rfl))<|Zv (xpa rfl rfl rfl)<|nl<|bS hF fun y25 hB31 hF=>ct (fun L w=>L 0=(.slice a1 x0.length cq1)/\Row 302 w0.heap.size w (.slice a1 x0.length cq1) y25/\L 1=.int .i64 x1/\L 3=.int .i64 x3/\L 4=.func (.func 204) [].toArray [].toArray/\L 18=.int .i64 (AX x22)/\L 20=.int .i64 z5/\L 24=.int .i64 (AX ((AX ((AX x22)+x2))-z5))/\wi.heap.size<=w.heap.size/\Ext w0 w) ?_ ?_
   ·refine cnd rfl (fun h17=>?_) (fun h17=>?_)
    ·have hB31:=Cj hB31 h17;refine rg<|Zm<|Zm<|Zm<|Zm<|Zm<|bS hB31 fun x27 Ex27 hB31=>Zc (xc AQG (mc l0_j12 (mc l20_j12 (mc l2_j12 (mc rfl (mc l4_j12 mn)))))) (ARl k51 o37 Ex27) ?_;rintro _ w30⟨rfl,o38,hx9,hs1⟩;have Z1:=Nat.le_trans Z0_j12 hs1;refine nl<|?_;cases hB31;refine lf<|?_;exact⟨l0_j12,o38,l1_j12,l3_j12,l4_j12,l18_j12,l20_j12,rfl,Z1,hx9⟩
    ·have hB31:=DF hB31 h17;refine wp_skip<|?_;cases hB31;refine lf<|?_;exact⟨l0_j12,o37,l1_j12,l3_j12,l4_j12,l18_j12,l20_j12,rfl,Z0_j12,k51⟩
   rintro L w31⟨l0_j13,O0_j13,l1_j13,l3_j13,l4_j13,l18_j13,l20_j13,l24_j13,Z0_j13,K0_j13⟩;refine wp_seq<|Zr<|Zm<|Zm<|Zv (Oi l1_j13 l20_j13)<|Zm<|Zg rfl rfl (gw1 rfl) (fun hc=>Ko l20_j13)<|Zg rfl rfl (gw1 rfl) (fun hc=>Ko l18_j13)<|Zg rfl rfl (gw1 rfl) (fun hc=>Oi (mv hc rfl) (mv hc rfl))<|Zv (xpa rfl rfl rfl)<|nl<|bS hF fun y26 hB34 hF=>ct (fun L w=>L 0=(.slice a1 x0.length cq1)/\Row 302 w0.heap.size w (.slice a1 x0.length cq1) y26/\L 3=.int .i64 x3/\L 4=.func (.func 204) [].toArray [].toArray/\L 18=.int .i64 (AX x22)/\L 24=.int .i64 (AX ((AX ((AX x22)+x2))-z5))/\wi.heap.size<=w.heap.size/\Ext w0 w) ?_ ?_
   ·refine cnd rfl (fun h18=>?_) (fun h18=>?_)
    ·have hB34:=Cj hB34 h18;refine rg<|Zm<|Zm<|Zm<|Zm<|Zm<|bS hB34 fun x28 Ex28 hB34=>Zc (xc AG8 (mc l0_j13 (mc l1_j13 (mc l20_j13 (mc l18_j13 (mc l4_j13 mn)))))) (ih K0_j13 O0_j13 Ex28) ?_;rintro _ w32⟨rfl,o39,hx10,hs2⟩;have Z2:=Nat.le_trans Z0_j13 hs2;refine nl<|?_;cases hB34;refine lf<|?_;exact⟨l0_j13,o39,l3_j13,l4_j13,l18_j13,l24_j13,Z2,hx10⟩
    ·have hB34:=DF hB34 h18;refine wp_skip<|?_;cases hB34;refine lf<|?_;exact⟨l0_j13,O0_j13,l3_j13,l4_j13,l18_j13,l24_j13,Z0_j13,K0_j13⟩
   rintro L w33⟨l0_j14,O0_j14,l3_j14,l4_j14,l18_j14,l24_j14,Z0_j14,K0_j14⟩;refine Zr<|Zm<|Zm<|Zv (Oi l18_j14 l24_j14)<|Zm<|Zg rfl rfl (gw1 rfl) (fun hc=>Ko l24_j14)<|Zg rfl rfl (gw1 rfl) (fun hc=>Ko l3_j14)<|Zg rfl rfl (gw1 rfl) (fun hc=>Oi (mv hc rfl) (mv hc rfl))<|Zv (xpa rfl rfl rfl)<|nl<|bS hF fun y27 hB37 hF=>ct (fun L w=>L 0=(.slice a1 x0.length cq1)/\Row 302 w0.heap.size w (.slice a1 x0.length cq1) y27/\wi.heap.size<=w.heap.size/\Ext w0 w) ?_ ?_
   ·refine cnd rfl (fun h19=>?_) (fun h19=>?_)
    ·have hB37:=Cj hB37 h19;refine rg<|Zm<|Zm<|Zm<|Zm<|Zm<|bS hB37 fun x29 Ex29 hB37=>Zc (xc AG8 (mc l0_j14 (mc l18_j14 (mc l24_j14 (mc l3_j14 (mc l4_j14 mn)))))) (ih K0_j14 O0_j14 Ex29) ?_;rintro _ w34⟨rfl,o40,hx11,hs3⟩;have Z3:=Nat.le_trans Z0_j14 hs3;refine nl<|?_;cases hB37;refine lf<|?_;exact⟨l0_j14,o40,Z3,hx11⟩
    ·have hB37:=DF hB37 h19;refine wp_skip<|?_;cases hB37;refine lf<|?_;exact⟨l0_j14,O0_j14,Z0_j14,K0_j14⟩
   rintro L w35⟨l0_j15,O0_j15,Z0_j15,K0_j15⟩;cases hF;exact rtn rfl .nil ⟨rfl,O0_j15,K0_j15,Z0_j15⟩
theorem AO2{w0 wi:World}(hk:Ext w0 wi){v0:Value}{x0:(List ((Int×Int)×Int))}(o0:Row 302 w0.heap.size wi v0 x0){x1:Int}{x2:Int}{x3:Int}{F:Nat}{r:(List ((Int×Int)×Int))}(hF:wV F x0 x1 x2 x3=some r):
  Calls Tryz.prog 331 [v0,.int .i64 x1,.int .i64 x2,.int .i64 x3,.func (.func 204) #[] #[]].toArray wi (aZ fun v w'=>v=.tuple #[]/\Row 302 w0.heap.size w' v0 r/\Ext w0 w'/\wi.heap.size<=w'.heap.size):=AQe F F hk o0 hF
theorem ARm{w0 wi:World}(hk:Ext w0 wi){v0:Value}{x0:(List ((Int×Int)×Int))}(o0:Row 302 w0.heap.size wi v0 x0){x1:Int}{F:Nat}{r:(List ((Int×Int)×Int))}(hF:vY F x0 x1=some r):
  Calls Tryz.prog 281 [v0,.int .i64 x1,.func (.func 204) #[] #[]].toArray wi (aZ fun v w'=>v=.tuple #[]/\Row 302 w0.heap.size w' v0 r/\Ext w0 w'/\wi.heap.size<=w'.heap.size):=by
 unfold vY at hF;have hz:=RV.sl o0.rv;obtain⟨a1,cq1,rfl,-,-,-⟩:=hz;have Z0:wi.heap.size<=wi.heap.size:=Nat.le_refl _;refine kR (n:=63) Tryz.func281 rfl rfl rfl<|Zr<|Za<|nl<|Zr<|Zm<|Za<|Za<|nl<|wp_seq<|?_;have hz:=bs hF;obtain⟨⟨z1,z2⟩,hB1,hF⟩:=hz;refine ct (fun L w=>L 0=(.slice a1 x0.length cq1)/\Row 302 w0.heap.size w (.slice a1 x0.length cq1) z1/\L 7=.int .i64 z2/\L 1=.int .i64 x1/\L 2=.func (.func 204) [].toArray [].toArray/\L 6=.int .i64 20/\wi.heap.size<=w.heap.size/\Ext w0 w) ?_ ?_
 ·refine wp_block<|lp (I:=fun m L w=>∃y1:(List ((Int×Int)×Int)),∃y2:Int,∃y3:Int,EP F x1 m y1 y2 y3=some (z1,z2)/\L 0=(.slice a1 x0.length cq1)/\Row 302 w0.heap.size w (.slice a1 x0.length cq1) y1/\L 7=.int .i64 y2/\L 8=.int .i64 y3/\L 1=.int .i64 x1/\L 2=.func (.func 204) [].toArray [].toArray/\L 6=.int .i64 20/\wi.heap.size<=w.heap.size/\Ext w0 w) F ⟨_,_,_,hB1,rfl,o0,rfl,rfl,rfl,rfl,rfl,Z0,hk⟩ ?_;rintro m L w1⟨y1,y2,y3,hB1,l0_i1,O0_i1,l7_i1,l8_i1,l1_i1,l2_i1,l6_i1,Z0_i1,K0_i1⟩;rcases m with _|m
  ·rw[EP]at hB1;cases hB1
  rw[EP]at hB1;refine wp_seq<|Zr<|Zm<|Zm<|Zv (ABl l8_i1 l1_i1)<|nl<|cnd rfl (fun h4=>?_) (fun h4=>?_)
  ·have hB1:=Cj hB1 h4;refine wp_skip<|wp_block<|Zr<|Zm<|Zm<|Zm<|Zm<|bS hB1 fun x4 Ex4 hB1=>Zc (xc ANI (mc l0_i1 (mc l7_i1 (mc l8_i1 (mc l2_i1 mn))))) (AO1 K0_i1 O0_i1 Ex4) ?_;rintro _ w2⟨rfl,o11,hx1,hs1⟩;have Z1:=Nat.le_trans Z0_i1 hs1;refine nl<|Zr<|Zm<|Za<|nl<|rg<|Zm<|Zm<|Zv (MH l8_i1 l6_i1)<|Za<|nl<|lq m (Nat.lt_succ_self _)<|?_;exact⟨_,_,_,hB1,l0_i1,o11,l8_i1,rfl,l1_i1,l2_i1,l6_i1,Z1,hx1⟩
  ·have hB1:=DF hB1 h4;refine wp_exit<|?_;cases hB1;refine lf<|?_;exact⟨l0_i1,O0_i1,l7_i1,l1_i1,l2_i1,l6_i1,Z0_i1,K0_i1⟩
 rintro L w3⟨l0_j1,O0_j1,l7_j1,l1_j1,l2_j1,l6_j1,Z0_j1,K0_j1⟩;refine Zr<|Zm<|Zm<|Zm<|Zm<|bS hF fun x5 Ex5 hF=>Zc (xc ANI (mc l0_j1 (mc l7_j1 (mc l1_j1 (mc l2_j1 mn))))) (AO1 K0_j1 O0_j1 Ex5) ?_;rintro _ w4⟨rfl,o12,hx2,hs2⟩;have Z2:=Nat.le_trans Z0_j1 hs2;refine nl<|bS hF fun z3 hB4 hF=>ct (fun L w=>L 0=(.slice a1 x0.length cq1)/\Row 302 w0.heap.size w (.slice a1 x0.length cq1) z3/\wi.heap.size<=w.heap.size/\Ext w0 w) ?_ ?_
 ·refine wp_block<|lp (I:=fun m L w=>∃y4:(List ((Int×Int)×Int)),∃y5:Int,IB F x1 m y4 y5=some z3/\L 0=(.slice a1 x0.length cq1)/\Row 302 w0.heap.size w (.slice a1 x0.length cq1) y4/\L 6=.int .i64 y5/\L 1=.int .i64 x1/\L 2=.func (.func 204) [].toArray [].toArray/\wi.heap.size<=w.heap.size/\Ext w0 w) F ⟨_,_,hB4,l0_j1,o12,l6_j1,l1_j1,l2_j1,Z2,hx2⟩ ?_;rintro m L w5⟨y4,y5,hB4,l0_i2,O0_i2,l6_i2,l1_i2,l2_i2,Z0_i2,K0_i2⟩;rcases m with _|m
  ·rw[IB]at hB4;cases hB4
  rw[IB]at hB4;refine wp_seq<|Zr<|Zm<|Zm<|Zv (Oi l6_i2 l1_i2)<|nl<|cnd rfl (fun h5=>?_) (fun h5=>?_)
  ·have hB4:=Cj hB4 h5;refine wp_skip<|wp_block<|Zr<|Zm<|Zv (ALx rfl l6_i2)<|Za<|Za<|nl<|wp_seq<|?_;have hz:=bs hB4;obtain⟨⟨z4,z5⟩,hB6,hB4⟩:=hz;refine ct (fun L w=>L 0=(.slice a1 x0.length cq1)/\Row 302 w0.heap.size w (.slice a1 x0.length cq1) z4/\L 7=.int .i64 z5/\L 1=.int .i64 x1/\L 2=.func (.func 204) [].toArray [].toArray/\L 6=.int .i64 y5/\wi.heap.size<=w.heap.size/\Ext w0 w) ?_ ?_
   ·refine wp_block<|lp (I:=fun m L w=>∃y6:(List ((Int×Int)×Int)),∃y7:Int,∃y8:Int,Zk F x1 y5 m y6 y7 y8=some (z4,z5)/\L 0=(.slice a1 x0.length cq1)/\Row 302 w0.heap.size w (.slice a1 x0.length cq1) y6/\L 7=.int .i64 y7/\L 8=.int .i64 y8/\L 1=.int .i64 x1/\L 2=.func (.func 204) [].toArray [].toArray/\L 6=.int .i64 y5/\wi.heap.size<=w.heap.size/\Ext w0 w) F ⟨_,_,_,hB6,l0_i2,O0_i2,rfl,rfl,l1_i2,l2_i2,l6_i2,Z0_i2,K0_i2⟩ ?_;rintro m L w6⟨y6,y7,y8,hB6,l0_i3,O0_i3,l7_i3,l8_i3,l1_i3,l2_i3,l6_i3,Z0_i3,K0_i3⟩;rcases m with _|m
    ·rw[Zk]at hB6;cases hB6
    rw[Zk]at hB6;refine wp_seq<|Zr<|Zm<|Zm<|Zv (ABl l8_i3 l1_i3)<|nl<|cnd rfl (fun h6=>?_) (fun h6=>?_)
    ·have hB6:=Cj hB6 h6;refine wp_skip<|wp_block<|Zr<|Zm<|Zm<|Zm<|Zm<|Zv (MH l7_i3 l6_i3)<|Zm<|Zm<|bS hB6 fun x6 Ex6 hB6=>Zc (xc AG8 (mc l0_i3 (mc l7_i3 (mc rfl (mc l8_i3 (mc l2_i3 mn)))))) (AO2 K0_i3 O0_i3 Ex6) ?_;rintro _ w7⟨rfl,o15,hx3,hs3⟩;have Z3:=Nat.le_trans Z0_i3 hs3;refine nl<|Zr<|Zm<|Za<|nl<|rg<|Zm<|Zm<|Zv (ALx rfl l6_i3)<|Zv (MH l8_i3 rfl)<|Za<|nl<|lq m (Nat.lt_succ_self _)<|?_;exact⟨_,_,_,hB6,l0_i3,o15,l8_i3,rfl,l1_i3,l2_i3,l6_i3,Z3,hx3⟩
    ·have hB6:=DF hB6 h6;refine wp_exit<|?_;cases hB6;refine lf<|?_;exact⟨l0_i3,O0_i3,l7_i3,l1_i3,l2_i3,l6_i3,Z0_i3,K0_i3⟩
   rintro L w8⟨l0_j2,O0_j2,l7_j2,l1_j2,l2_j2,l6_j2,Z0_j2,K0_j2⟩;refine wp_seq<|Zr<|Zm<|Zm<|Zv (MH l7_j2 l6_j2)<|Za<|nl<|Zr<|Zm<|Zm<|Zv (Oi rfl l1_j2)<|nl<|bS hB4 fun y9 hB9 hB4=>ct (fun L w=>L 0=(.slice a1 x0.length cq1)/\Row 302 w0.heap.size w (.slice a1 x0.length cq1) y9/\L 1=.int .i64 x1/\L 2=.func (.func 204) [].toArray [].toArray/\L 6=.int .i64 y5/\wi.heap.size<=w.heap.size/\Ext w0 w) ?_ ?_
   ·refine cnd rfl (fun h7=>?_) (fun h7=>?_)
    ·have hB9:=Cj hB9 h7;refine rg<|Zm<|Zm<|Zm<|Zm<|Zm<|bS hB9 fun x7 Ex7 hB9=>Zc (xc AG8 (mc l0_j2 (mc l7_j2 (mc rfl (mc l1_j2 (mc l2_j2 mn)))))) (AO2 K0_j2 O0_j2 Ex7) ?_;rintro _ w9⟨rfl,o16,hx4,hs4⟩;have Z4:=Nat.le_trans Z0_j2 hs4;refine nl<|?_;cases hB9;refine lf<|?_;exact⟨l0_j2,o16,l1_j2,l2_j2,l6_j2,Z4,hx4⟩
    ·have hB9:=DF hB9 h7;refine wp_skip<|?_;cases hB9;refine lf<|?_;exact⟨l0_j2,O0_j2,l1_j2,l2_j2,l6_j2,Z0_j2,K0_j2⟩
   rintro L w10⟨l0_j3,O0_j3,l1_j3,l2_j3,l6_j3,Z0_j3,K0_j3⟩;refine rg<|Zm<|Zv (ALx l6_j3 rfl)<|Za<|nl<|lq m (Nat.lt_succ_self _)<|?_;exact⟨_,_,hB4,l0_j3,O0_j3,rfl,l1_j3,l2_j3,Z0_j3,K0_j3⟩
  ·have hB4:=DF hB4 h5;refine wp_exit<|?_;cases hB4;refine lf<|?_;exact⟨l0_i2,O0_i2,Z0_i2,K0_i2⟩
 rintro L w11⟨l0_j4,O0_j4,Z0_j4,K0_j4⟩;cases hF;exact rtn rfl .nil ⟨rfl,O0_j4,K0_j4,Z0_j4⟩
theorem ARn{w0 wi:World}(hk:Ext w0 wi){v0:Value}{x0:(List ((Int×Int)×Int))}(o0:Row 302 w0.heap.size wi v0 x0){F:Nat}{r:(List ((Int×Int)×Int))}(hF:RU F x0=some r):
  Calls Tryz.prog 203 [v0,.func (.func 204) #[] #[]].toArray wi (aZ fun v w'=>v=.tuple #[]/\Row 302 w0.heap.size w' v0 r/\Ext w0 w'/\wi.heap.size<=w'.heap.size):=by
 unfold RU at hF;have hz:=RV.sl o0.rv;obtain⟨a1,cq1,rfl,-,-,-⟩:=hz;have Z0:wi.heap.size<=wi.heap.size:=Nat.le_refl _;refine kR (n:=9) Tryz.func203 rfl rfl rfl<|rg<|Zm<|Zm<|Zv (bF rfl Tryz.underlying298)<|Zm<|bS hF fun x3 Ex3 hF=>Zc (xc AP7 (mc rfl (mc rfl (mc rfl mn)))) (ARm hk o0 Ex3) ?_;rintro _ w1⟨rfl,o10,hx1,hs1⟩;have Z1:=Nat.le_trans Z0 hs1;refine nl<|?_;cases hF;exact rtn rfl .nil ⟨rfl,o10,hx1,Z1⟩
theorem c96{w0:World}{v0:Value}{x0:(List (Int×Int))}(r0:RV w0 v0 x0){F:Nat}{r:(Ob (Uno (List ((Int×Int)×Int))))}(hF:yL F x0=some r):
  Calls Tryz.prog 96 [v0].toArray w0 (aZ fun v w'=>∃u0:Value,v=u0/\RV w' u0 r/\Ext w0 w'):=by
 unfold yL at hF;have hz:=r0.sl;obtain⟨a1,cq1,rfl,-,-,-⟩:=hz;refine kR (n:=34) Tryz.func96 rfl rfl rfl<|Zr<|Za<|nl<|Zr<|Zv (AAQ (r:=[.slice none 0 0]) APg APh pn rfl)<|sbx rfl rfl fun b2 w1 hx1 hg1 hb1=>Za<|nl<|wp_seq<|Zr<|Zm<|Zv (bF rfl Tryz.underlying32)<|Zm<|nl<|bS hF fun z1 hB1 hF=>ct (fun L w=>∃v3:Value,Bx w b2 300 [v3]/\Row 302 w1.heap.size w v3 z1.v/\some b2≠Value.ownBlock v3/\L 3=.pointer (some ⟨b2,0,none⟩)/\w1.heap.size<=w.heap.size/\Ext w0 w) ?_ ?_
 ·refine wp_block<|lp (I:=fun m L w=>∃y1:Int,∃y2:(Uno (List ((Int×Int)×Int))),∃v2:Value,xu F x0 m y1 y2=some z1/\L 10=.int .i64 y1/\Bx w b2 300 [v2]/\Row 302 w1.heap.size w v2 y2.v/\some b2≠Value.ownBlock v2/\L 3=.pointer (some ⟨b2,0,none⟩)/\L 8=.slice a1 x0.length cq1/\L 9=.int .i64 (x0.length:Int)/\w1.heap.size<=w.heap.size/\Ext w0 w) F ⟨_,_,_,hB1,rfl,hb1,Row.nil,(fun e=>by cases e),rfl,rfl,rfl,(Nat.le_refl _),hx1⟩ ?_;rintro m L w2⟨y1,y2,v2,hB1,l10_i1,B3_i1,O3c1_i1,N3c1_i1,l3_i1,l8_i1,l9_i1,Z0_i1,K0_i1⟩;rcases m with _|m
  ·rw[xu]at hB1;cases hB1
  rw[xu]at hB1;have hz:=RV.sl O3c1_i1.rv;obtain⟨a2,cq2,rfl,-,-,-⟩:=hz;refine Zr<|Zv (Oi l10_i1 l9_i1)<|nl<|wp_seq<|cnd rfl (fun h2=>?_) (fun h2=>?_)
  ·have hB1:=Cj hB1 h2;refine wp_skip<|wp_seq<|wp_block<|Zr<|Zm<|bS hB1 fun x2 Ex2 hB1=>?_;have hz:=(RV.els r0).ix Ex2;obtain⟨b3,f1,cs2,e1,i2,i3,q2,hc1⟩:=hz;cases e1;obtain⟨_,_,rfl,rfl,rfl⟩:=q2;have hc2:=hc1.ext K0_i1;refine Zv (Ci l8_i1 l10_i1 Tryz.underlying32 oG i2 i3)<|Zv (vG rfl oG rfl hc2)<|sal oG fun b4 w3 hx2 hg2 hb2=>?_;have k1:=K0_i1.tr hx2;have zs1:=Nat.le_trans Z0_i1 hx2.size;refine Za<|zo rfl rfl rfl oG hb2 rfl rfl (ble rfl) fun w4 hch1 hb3=>?_;have k2:=Ext.chg k1 hch1 (Nat.le_trans K0_i1.size hg2);have k3:=Ext.chg hx2 hch1 (Nat.le_trans (Nat.le_refl _) hg2);have zs2:=Nat.le_trans zs1 (Nat.le_of_eq hch1.size.symm);have B2:=B3_i1.ext k3;have O2:=O3c1_i1.ext k3;have hb4:Bx w4 b4 35 [.int .i64 x2.1,.int .i64 x2.2]:=hb3;refine nl<|ARU (row:=(Value.ownBlock (.slice a2 y2.v.length cq2))) [12] (.pure true 0 (.pure true 1 (.pure true 2 (.pure true 3 (.pure false 4 (.pure false 5 (.pure true 6 (.pure true 7 (.eff 8 (.eff 9 (.pure true 10 (.pure true 11 (.eff 12 .fin .stop))) .stop) .stop))))))))) mixed (by kernel_rfl) (fun w5 hx3=>?_);have k4:=k2.tr hx3;have zs3:=Nat.le_trans zs2 hx3.size;have B3:=B2.ext hx3;have O3:=O2.ext hx3;have hb5:=hb4.ext hx3;refine Zn rfl<|Zn rfl<|Zp rfl (fun _=>ABZ l3_i1)<|Zp rfl (fun _=>DY rfl AEc)<|Zq rfl (fun _ hS=>Ap rfl AG6 ((Bx.cs (Bx.gr B3 (hS.resolve_left nofun) N3c1_i1)).at 0 rfl)) (Ext.gro (Ext.refl _))<|Zq rfl (fun _ hS=>vG rfl oG rfl (Bx.cs (Bx.gr hb5 (hS.resolve_left nofun) (O3c1_i1.ne_new hg2)))) (Ext.gro (Ext.refl _))<|Zn rfl<|Zp rfl (fun _=>AAQ (r:=[.int .i64 x2.1,.int .i64 x2.2,.int .i64 y1]) Kz APi (pc rfl (pc l10_i1 pn)) rfl)<|zX rfl<|ABQ (cs:=[.int .i64 x2.1,.int .i64 x2.2,.int .i64 y1]) Tryz.underlying298 Kz rfl (pc rfl pn) rfl rfl rfl rfl rfl fun b5 w6 hx4 hg3 hb6=>?_;have k6:=k4.tr hx4;have zs4:=Nat.le_trans zs3 hx4.size;have B4:=B3.ext hx4;have O4:=O3.ext hx4;have o2:Row (α:=((Int×Int)×Int)) 302 w5.heap.size w6 (.slice (some ⟨b5,0,none⟩) 1 1) [((x2.1,x2.2),y1)]:=Row.lit hg3 hb6 rfl (ble rfl);refine nl ⟨fun _ _=>(Ext.gro hx4),?_⟩;refine bS hB1 fun x3 Ex3 hB1=>zX rfl<|AE0 (l:=y2.v) (k:=([((x2.1,x2.2),y1)]:List ((Int×Int)×Int))) rfl rfl Tryz.underlying298 Kz rfl rfl O4 (RV.els o2.rv) Ex3 zs4 fun v4 w7 o3 hB3 hgr1 how1=>?_;have k8:=Ext.grow k6 hx1.size hB3;have zs5:=Nat.le_trans zs4 hgr1.size;have gS1:=World.grownBy.tr (Ext.gro hx4) hgr1;have ne1:=ACa how1 N3c1_i1 B4.lt;have hb7:=Bx.gr B4 hgr1 N3c1_i1;have hz:=RV.sl o3.rv;obtain⟨a3,cq3,rfl,-,-,-⟩:=hz;refine nl ⟨fun _ _=>gS1,?_⟩;refine Zp rfl (fun _=>ABZ l3_i1)<|Zp rfl (fun _=>DY rfl AEc)<|zX rfl<|zo rfl rfl rfl AG6 hb7 rfl rfl (ble rfl) fun w8 hch2 hb8=>?_;have k9:=Ext.chg k8 hch2 (Nat.le_trans (Nat.le_refl _) hg1);have zs6:=Nat.le_trans zs5 (Nat.le_of_eq hch2.size.symm);have o4:=Row.chgn o3 hch2 ne1;have hb9:Bx w8 b2 300 [.slice a3 x3.length cq3]:=hb8;refine nl ⟨fun h=>(h (by decide)).elim,?_⟩;refine rg<|Zv (MH l10_i1 rfl)<|Zm<|nl<|lq m (Nat.lt_succ_self _)<|?_;exact⟨_,_,_,hB1,rfl,hb9,o4,ne1,l3_i1,l8_i1,l9_i1,zs6,k9⟩
  ·have hB1:=DF hB1 h2;refine wp_exit<|?_;cases hB1;refine lf<|?_;exact⟨_,B3_i1,O3c1_i1,N3c1_i1,l3_i1,Z0_i1,K0_i1⟩
 rintro L w9⟨v3,B3_j1,O3c1_j1,N3c1_j1,l3_j1,Z0_j1,K0_j1⟩;have hz:=RV.sl O3c1_j1.rv;obtain⟨a4,cq4,rfl,-,-,-⟩:=hz;refine Zr<|Zm<|Zv (ABZ l3_j1)<|Zv (DY rfl AEc)<|Zv (Ap rfl AG6 ((Bx.cs B3_j1).at 0 rfl))<|bS hF fun x4 Ex4 hF=>Zc (xc APv (mc rfl (mc rfl mn))) (ARn (AI2 _ w1.heap.size) (by rw[AE4 Z0_j1];exact O3c1_j1) Ex4) ?_;rintro _ w10⟨rfl,o5,hx5,hs1⟩;rw[AE4 Z0_j1]at o5;have k10:=Ext.cut K0_j1 hx1.size hx5 hs1;have hb10:=Bx.cut B3_j1 hb1.lt hx5;have hl1:=(RV.cap o5.rv).1;rw[hl1]at o5 hb10;refine nl<|Zr<|Zm<|Za<|nl<|?_;have r11:RV w10 (.pointer (some ⟨b2,0,none⟩)) (⟨some (⟨x4⟩:(Uno (List ((Int×Int)×Int))))⟩:(Ob (Uno (List ((Int×Int)×Int))))):=ANJ (Bx.cs hb10) rfl o5.rv.rep1;cases hF;exact wp_ret<|rt rfl (.tmp l3_j1 rfl .nil) ⟨_,rfl,r11,k10⟩
theorem ARo{w0:World}{v0:Value}{x0:(List (Int×Int))}(r0:RV w0 v0 x0){v1:Value}{x1:(Int×Int)->Option Bool}(h1:FnB Tryz.prog (Int×Int) w0 v1 x1){F:Nat}{r:Int}(hF:yM F x0 x1=some r):
  Calls Tryz.prog 329 [v0,v1].toArray w0 (aZ fun v w'=>v=.int .i64 r/\Ext w0 w'):=by
 unfold yM at hF;have hz:=r0.sl;obtain⟨a1,cq1,rfl,-,-,-⟩:=hz;refine kR (n:=19) Tryz.func329 rfl rfl rfl<|Zr<|Za<|nl<|wp_seq<|Zr<|Zm<|Zv (bF rfl Tryz.underlying32)<|Zm<|nl<|bS hF fun o1 hB1 hF=>ct (fun L w=>o1=.inr ()/\Ext w0 w) ?_ ?_
 ·refine wp_block<|lp (I:=fun m L w=>∃y1:Int,iW F x0 x1 m y1=some o1/\L 8=.int .i64 y1/\L 0=.slice a1 x0.length cq1/\L 1=v1/\L 7=.int .i64 (x0.length:Int)/\Ext w0 w) F ⟨_,hB1,rfl,rfl,rfl,rfl,(Ext.refl _)⟩ ?_;rintro m L w1⟨y1,hB1,l8_i1,l0_i1,l1_i1,l7_i1,K0_i1⟩;rcases m with _|m
  ·rw[iW]at hB1;cases hB1
  rw[iW]at hB1;have h3:=h1.ext K0_i1;refine Zr<|Zv (Oi l8_i1 l7_i1)<|nl<|wp_seq<|cnd rfl (fun h4=>?_) (fun h4=>?_)
  ·have hB1:=Cj hB1 h4;refine wp_skip<|wp_seq<|wp_block<|Zr<|Zm<|Za<|nl<|Zr<|Zm<|Zm<|Zm<|bS hB1 fun x3 Ex3 hB1=>?_;have hz:=(RV.els r0).ix Ex3;obtain⟨b3,f1,cs3,e1,i2,i3,q3,hc1⟩:=hz;cases e1;obtain⟨_,_,rfl,rfl,rfl⟩:=q3;have hc2:=hc1.ext K0_i1;refine Zv (Ci l0_i1 l8_i1 Tryz.underlying32 oG i2 i3)<|Zv (vG rfl oG rfl hc2)<|bS hB1 fun x4 Ex4 hB1=>?_;have hz:=id h3;obtain⟨g1,fs1,cs4,e2,hg1,hu1⟩:=hz;refine Zc (xcv (l1_i1.trans e2) hg1 (mc rfl mn) rfl) (hu1 _ _ _ _ (Ext.refl _) (show RV (α:=(Int×Int)) _ (.agg [.int .i64 x3.1,.int .i64 x3.2].toArray) (x3.1,x3.2)from⟨_,rfl,[.int .i64 x3.1],[.int .i64 x3.2],rfl,rfl,rfl⟩) Ex4) ?_;rintro _ w2⟨rfl,hx1⟩;have k1:=K0_i1.tr hx1;refine nl<|cnd rfl (fun h6=>?_) (fun h6=>?_)
   ·have hB1:=Cj hB1 h6;refine Zr<|Zm<|Za<|nl<|?_;cases hB1;have hF:=(show some _=some _ from hF);cases hF;exact wp_ret<|rt rfl (.tmp l8_i1 rfl .nil) ⟨rfl,k1⟩
   ·have hB1:=DF hB1 h6;refine wp_skip<|rg<|Zv (MH l8_i1 rfl)<|Zm<|nl<|lq m (Nat.lt_succ_self _)<|?_;exact⟨_,hB1,rfl,l0_i1,l1_i1,l7_i1,k1⟩
  ·have hB1:=DF hB1 h4;refine wp_exit<|?_;cases hB1;refine lf<|?_;exact⟨rfl,K0_i1⟩
 rintro L w3⟨rfl,K0_j1⟩;refine Zr<|Za<|nl<|?_;cases hF;exact wp_ret<|Zw rfl rfl rfl ⟨rfl,K0_j1⟩
theorem ARp{w0:World}{v0:Value}{x0:(List (Int×Int))}(r0:RV w0 v0 x0){v1:Value}{x1:(Int×Int)->Option Bool}(h1:FnB Tryz.prog (Int×Int) w0 v1 x1){F:Nat}{r:Bool}(hF:wU F x0 x1=some r):
  Calls Tryz.prog 279 [v0,v1].toArray w0 (aZ fun v w'=>v=.bool r/\Ext w0 w'):=by
 unfold wU at hF;have hz:=r0.sl;obtain⟨a1,cq1,rfl,-,-,-⟩:=hz;refine kR (n:=9) Tryz.func279 rfl rfl rfl<|Zr<|Za<|nl<|Zr<|Zm<|Zm<|bS hF fun x3 Ex3 hF=>Zc (xc AQF (mc rfl (mc rfl mn))) (ARo r0 h1 Ex3) ?_;rintro _ w1⟨rfl,hx1⟩;refine Zv (AC6 rfl rfl)<|Za<|nl<|?_;cases hF;exact wp_ret<|Zw rfl rfl rfl ⟨rfl,hx1⟩
theorem ARq{w0:World}{v0:Value}{x0:(Int×Int)}(r0:RV w0 v0 x0){r:Bool}(hF:ABG x0=some r):
  Calls Tryz.prog 280 [v0].toArray w0 (aZ fun v w'=>v=.bool r/\Ext w0 w'):=by
 unfold ABG at hF;have hz:=id r0;obtain⟨_,rfl,_,_,rfl,rfl,rfl⟩:=hz;refine kR (n:=18) Tryz.func280 rfl rfl rfl<|Zr<|sbx rfl rfl fun b2 w1 hx1 hg1 hb1=>Za<|nl<|Zr<|Zv (DY rfl AAC)<|Zv (Ap rfl wL ((Bx.cs hb1).at 0 rfl))<|Zv (Oi rfl rfl)<|Zm<|Zg rfl rfl (gK rfl) (fun hc=>DY rfl AAC)<|Zg rfl rfl (gK rfl) (fun hc=>Ap (mv hc rfl) wL ((Bx.cs hb1).at 0 rfl))<|Zg rfl rfl (gK rfl) (fun hc=>DY rfl zY)<|Zg rfl rfl (gK rfl) (fun hc=>Ap (mv hc rfl) wL ((Bx.cs hb1).at 1 rfl))<|Zg rfl rfl (gK rfl) (fun hc=>yY (mv hc rfl) (mv hc rfl))<|Zv (xpo rfl rfl rfl)<|Zm<|Zg rfl rfl (gK rfl) (fun hc=>DY rfl zY)<|Zg rfl rfl (gK rfl) (fun hc=>Ap (mv hc rfl) wL ((Bx.cs hb1).at 1 rfl))<|Zg rfl rfl (gK rfl) (fun hc=>yY (mv hc rfl) rfl)<|Zv (xpo rfl rfl rfl)<|Za<|nl<|?_;cases hF;exact wp_ret<|Zw rfl rfl rfl ⟨rfl,hx1⟩
theorem ARr{w0:World}{v0:Value}{x0:(List (Int×Int))}(r0:RV w0 v0 x0){F:Nat}{r:Bool}(hF:AA8 F x0=some r):
  Calls Tryz.prog 202 [v0].toArray w0 (aZ fun v w'=>v=.bool r/\Ext w0 w'):=by
 unfold AA8 at hF;have hz:=r0.sl;obtain⟨a1,cq1,rfl,-,-,-⟩:=hz;refine kR (n:=6) Tryz.func202 rfl rfl rfl<|Zr<|Za<|nl<|Zr<|Zm<|bS hF fun x2 Ex2 hF=>Zc (xc AP5 (mc rfl (mc rfl mn))) (ARp r0 ⟨280,[],[],rfl,AP6,fun w' u x b hk hu hp=>ARq hu hp⟩ Ex2) ?_;rintro _ w1⟨rfl,hx1⟩;refine Zv (zK rfl)<|Za<|nl<|?_;cases hF;exact wp_ret<|Zw rfl rfl rfl ⟨rfl,hx1⟩
theorem c95{w0:World}{v0:Value}{x0:(List (Int×Int))}(r0:RV w0 v0 x0){F:Nat}{r:Int}(hF:yZ F x0=some r):
  Calls Tryz.prog 95 [v0].toArray w0 (aZ fun v w'=>v=.int .i64 r/\Ext w0 w'):=by
 unfold yZ at hF;have hz:=r0.sl;obtain⟨a1,cq1,rfl,-,-,-⟩:=hz;refine kR (n:=16) Tryz.func95 rfl rfl rfl<|Zr<|Za<|nl<|wp_seq<|wp_block<|Zr<|Zm<|Zv (bF rfl Tryz.underlying32)<|Zv (AAF rfl rfl)<|Zm<|Zg rfl rfl (gK rfl) (fun hc=>Ko rfl)<|Zg rfl rfl (gK rfl) (fun hc=>bF (mv hc rfl) Tryz.underlying32)<|Zg rfl rfl (gK rfl) (fun hc=>yY (mv hc rfl) rfl)<|Zv (xpo rfl rfl rfl)<|Za<|nl<|cnd rfl (fun h2=>?_) (fun h2=>?_)
 ·have hF:=Cj hF h2;refine Zr<|Za<|nl<|?_;cases hF;exact wp_ret<|Zw rfl rfl rfl ⟨rfl,(Ext.refl _)⟩
 ·have hF:=DF hF h2;refine Zr<|Zm<|bS hF fun x2 Ex2 hF=>Zc (xc APu (mc rfl mn)) (ARr r0 Ex2) ?_;rintro _ w1⟨rfl,hx1⟩;refine Zv (zK rfl)<|Za<|nl<|cnd rfl (fun h3=>?_) (fun h3=>?_)
  ·have hF:=Cj hF h3;refine Zr<|Za<|nl<|?_;cases hF;exact wp_ret<|Zw rfl rfl rfl ⟨rfl,hx1⟩
  ·have hF:=DF hF h3;refine wp_skip<|Zr<|Za<|nl<|?_;cases hF;exact wp_ret<|Zw rfl rfl rfl ⟨rfl,hx1⟩
theorem c67{w0:World}{v0:Value}{x0:(Int×Int)}(r0:RV w0 v0 x0){v1:Value}{x1:(List Int)}(r1:RV w0 v1 x1){F:Nat}{r:Bool}(hF:ABV F x0 x1=some r):
  Calls Tryz.prog 67 [v0,v1].toArray w0 (aZ fun v w'=>v=.bool r/\Ext w0 w'):=by
 unfold ABV at hF;have hz:=id r0;obtain⟨_,rfl,_,_,rfl,rfl,rfl⟩:=hz;have hz:=r1.sl;obtain⟨a1,cq1,rfl,-,-,-⟩:=hz;refine kR (n:=28) Tryz.func67 rfl rfl rfl<|Zr<|sbx rfl rfl fun b3 w1 hx1 hg1 hb1=>Za<|nl<|wp_seq<|Zr<|Za<|nl<|bS hF fun o1 hB1 hF=>ct (fun L w=>o1=.inr ()/\Ext w1 w) ?_ ?_
 ·refine wp_block<|lp (I:=fun m L w=>∃y1:Int,zO F x0 x1 m y1=some o1/\L 5=.int .i64 y1/\L 1=.slice a1 x1.length cq1/\L 2=.pointer (some ⟨b3,0,none⟩)/\Ext w1 w) F ⟨_,hB1,rfl,rfl,rfl,(Ext.refl _)⟩ ?_;rintro m L w2⟨y1,hB1,l5_i1,l1_i1,l2_i1,K0_i1⟩;rcases m with _|m
  ·rw[zO]at hB1;cases hB1
  rw[zO]at hB1;have k1:=hx1.tr K0_i1;have hb2:=hb1.ext K0_i1;refine wp_seq<|Zr<|Zm<|Zm<|Zv (bF l1_i1 Tryz.underlying28)<|Zv (Oi l5_i1 rfl)<|nl<|cnd rfl (fun h3=>?_) (fun h3=>?_)
  ·have hB1:=Cj hB1 h3;refine wp_skip<|wp_seq<|wp_block<|wp_seq<|bS hB1 fun y2 hB3 hB1=>ct (fun L w=>L 27=.bool y2/\L 1=.slice a1 x1.length cq1/\L 2=.pointer (some ⟨b3,0,none⟩)/\L 5=.int .i64 y1/\Ext w2 w) ?_ ?_
   ·refine wpl [] (.pure true 0 (.pure true 1 (.pure true 2 (.pure false 3 (.pure true 4 (.pure false 5 (.pure true 6 (.pure true 7 (.pure true 8 (.pure true 9 (.pure true 10 (.pure false 11 (.pure true 12 (.pure false 13 (.pure true 14 (.pure true 15 .fin)))))))))))))))) mixed (by kernel_rfl) (fun w4 hx3=>?_);have k4:=k1.tr hx3;have hb4:=hb2.ext hx3;refine Zn rfl<|Zn rfl<|bS hB3 fun x4 Ex4 hB3=>?_;have hz:=(RV.els r1).ix Ex4;obtain⟨b5,f2,cs4,e2,i4,i5,q4,hc3⟩:=hz;cases e2;obtain rfl:=q4;have hc4:=hc3.ext k4;refine Zp rfl (fun _=>Ci l1_i1 l5_i1 Tryz.underlying28 wL i4 i5)<|Zq rfl (fun _ hS=>Ap rfl wL ((hc4.ext (hS.resolve_left nofun)).at 0 rfl)) (Ext.refl _)<|Zp rfl (fun _=>DY l2_i1 AAC)<|Zq rfl (fun _ hS=>Ap rfl wL ((Bx.cs (hb4.ext (hS.resolve_left nofun))).at 0 rfl)) (Ext.refl _)<|Zp rfl (fun _=>AC6 rfl rfl)<|Zn rfl<|Or.elim (Bool.eq_false_or_eq_true (decide (x0.1<=x4))) (fun h4=>?_) (fun h4=>?_)
    ·have hB3:=Cj hB3 h4;refine Yt rfl (bt h4) (fun _=>YA)<|Yt rfl (bt h4) (fun _=>YA)<|bS hB3 fun x5 Ex5 hB3=>?_;have hz:=xO r1 Ex5;obtain⟨cs5,i6,i7,q5,hc5⟩:=hz;obtain rfl:=q5;have hc6:=hc5.ext k4;refine Yt rfl (bt h4) (fun _=>Ci l1_i1 l5_i1 Tryz.underlying28 wL i6 i7)<|Yi rfl (bt h4) (fun _ hS=>Ap rfl wL ((hc6.ext (hS.resolve_left nofun)).at 0 rfl)) (Ext.refl _)<|Yt rfl (bt h4) (fun _=>DY l2_i1 zY)<|Yi rfl (bt h4) (fun _ hS=>Ap rfl wL ((Bx.cs (hb4.ext (hS.resolve_left nofun))).at 1 rfl)) (Ext.refl _)<|Yt rfl (bt h4) (fun _=>ABl rfl rfl)<|Zp rfl (fun _=>wu rfl h4 rfl)<|?_;cases hB3;refine lf<|?_;exact⟨rfl,l1_i1,l2_i1,l5_i1,hx3⟩
    ·have hB3:=DF hB3 h4;refine Yf rfl (Bh h4)<|Yf rfl (Bh h4)<|Yf rfl (Bh h4)<|Yh rfl (Bh h4) (Ext.refl _)<|Yf rfl (Bh h4)<|Yh rfl (Bh h4) (Ext.refl _)<|Yf rfl (Bh h4)<|Zp rfl (fun _=>yB rfl h4 rfl)<|?_;cases hB3;refine lf<|?_;exact⟨rfl,l1_i1,l2_i1,l5_i1,hx3⟩
   rintro L w5⟨l27_j1,l1_j1,l2_j1,l5_j1,K0_j1⟩;have k6:=k1.tr K0_j1;have k7:=K0_i1.tr K0_j1;refine cnd l27_j1 (fun h5=>?_) (fun h5=>?_)
   ·have hB1:=Cj hB1 h5;refine Zr<|Za<|nl<|?_;cases hB1;have hF:=(show some _=some _ from hF);cases hF;exact wp_ret<|Zw rfl rfl rfl ⟨rfl,k6⟩
   ·have hB1:=DF hB1 h5;refine wp_skip<|rg<|Zm<|Zv (MH l5_j1 rfl)<|Za<|nl<|lq m (Nat.lt_succ_self _)<|?_;exact⟨_,hB1,rfl,l1_j1,l2_j1,k7⟩
  ·have hB1:=DF hB1 h3;refine wp_exit<|?_;cases hB1;refine lf<|?_;exact⟨rfl,K0_i1⟩
 rintro L w6⟨rfl,K0_j2⟩;have k8:=hx1.tr K0_j2;refine Zr<|Za<|nl<|?_;cases hF;exact wp_ret<|Zw rfl rfl rfl ⟨rfl,k8⟩
theorem c65{w0:World}{v0:Value}{x0:(List (Int×Int))}(r0:RV w0 v0 x0){F:Nat}{r:Int}(hF:xQ F x0=some r):
  Calls Tryz.prog 65 [v0].toArray w0 (aZ fun v w'=>v=.int .i64 r/\Ext w0 w'):=by
 unfold xQ at hF;have hz:=r0.sl;obtain⟨a1,cq1,rfl,-,-,-⟩:=hz;refine kR (n:=45) Tryz.func65 rfl rfl rfl<|Zr<|Za<|nl<|wp_seq<|Zr<|Zm<|Zv (bF rfl Tryz.underlying32)<|Zv (Oi rfl rfl)<|Zm<|Zg rfl rfl (gK rfl) (fun hc=>Ko rfl)<|Zg rfl rfl (gK rfl) (fun hc=>bF (mv hc rfl) Tryz.underlying32)<|Zg rfl rfl (gK rfl) (fun hc=>yY (mv hc rfl) rfl)<|Zv (xpo rfl rfl rfl)<|nl<|cnd rfl (fun h2=>?_) (fun h2=>?_)
 ·have hF:=Cj hF h2;refine Zr<|Za<|nl<|?_;cases hF;exact wp_ret<|Zw rfl rfl rfl ⟨rfl,(Ext.refl _)⟩
 ·have hF:=DF hF h2;refine wp_skip<|wp_seq<|Zr<|Za<|nl<|bS hF fun o1 hB1 hF=>ct (fun L w=>o1=.inr ()/\Ext w0 w) ?_ ?_
  ·refine wp_block<|lp (I:=fun m L w=>∃y1:Int,xw F x0 m y1=some o1/\L 3=.int .i64 y1/\L 0=.slice a1 x0.length cq1/\Ext w0 w) F ⟨_,hB1,rfl,rfl,(Ext.refl _)⟩ ?_;rintro m L w1⟨y1,hB1,l3_i1,l0_i1,K0_i1⟩;rcases m with _|m
   ·rw[xw]at hB1;cases hB1
   rw[xw]at hB1;refine wp_seq<|Zr<|Zm<|Zm<|Zv (bF l0_i1 Tryz.underlying32)<|Zv (Oi l3_i1 rfl)<|nl<|cnd rfl (fun h3=>?_) (fun h3=>?_)
   ·have hB1:=Cj hB1 h3;refine wp_skip<|wp_seq<|wp_block<|wp_seq<|bS hB1 fun y2 hB3 hB1=>ct (fun L w=>L 44=.bool y2/\L 0=.slice a1 x0.length cq1/\L 3=.int .i64 y1/\Ext w1 w) ?_ ?_
    ·refine wpl [] (.pure true 0 (.pure true 1 (.pure true 2 (.pure true 3 (.pure false 4 (.pure true 5 (.pure true 6 (.pure true 7 (.pure true 8 (.pure true 9 (.pure true 10 (.pure false 11 (.pure true 12 (.pure true 13 (.pure true 14 (.pure true 15 (.pure false 16 (.pure true 17 (.pure true 18 (.pure true 19 (.pure true 20 (.pure true 21 (.pure true 22 (.pure true 23 (.pure false 24 (.pure true 25 (.pure true 26 .fin))))))))))))))))))))))))))) mixed (by kernel_rfl) (fun w3 hx2=>?_);have k2:=K0_i1.tr hx2;refine Zn rfl<|Zn rfl<|bS hB3 fun x3 Ex3 hB3=>?_;have hz:=(RV.els r0).ix Ex3;obtain⟨b3,f2,cs3,e2,i4,i5,q3,hc3⟩:=hz;cases e2;obtain⟨_,_,rfl,rfl,rfl⟩:=q3;have hc4:=hc3.ext k2;refine Zp rfl (fun _=>Ci l0_i1 l3_i1 Tryz.underlying32 oG i4 i5)<|Zp rfl (fun _=>DY rfl AAC)<|Zq rfl (fun _ hS=>Ap rfl wL ((hc4.ext (hS.resolve_left nofun)).at 0 rfl)) (Ext.refl _)<|Zp rfl (fun _=>Oi rfl rfl)<|Zn rfl<|Or.elim (Bool.eq_false_or_eq_true (decide (x3.1<0))) (fun h4=>?_) (fun h4=>?_)
     ·have hB3:=Cj hB3 h4;refine Yf rfl (BP h4)<|Yf rfl (BP h4)<|Yf rfl (BP h4)<|Yf rfl (BP h4)<|Yh rfl (BP h4) (Ext.refl _)<|Yf rfl (BP h4)<|Yf rfl (BP h4)<|Yf rfl (BP h4)<|Yf rfl (BP h4)<|Yh rfl (BP h4) (Ext.refl _)<|Yf rfl (BP h4)<|Zp rfl (fun _=>wu rfl h4 rfl)<|Zn rfl<|Or.elim (Bool.eq_false_or_eq_true true) (fun h5=>?_) (fun h5=>?_)
      ·have hB3:=Cj hB3 h5;refine Yf rfl (BP h5)<|Yf rfl (BP h5)<|Yf rfl (BP h5)<|Yf rfl (BP h5)<|Yh rfl (BP h5) (Ext.refl _)<|Yf rfl (BP h5)<|Zp rfl (fun _=>wu rfl h5 rfl)<|?_;cases hB3;refine lf<|?_;exact⟨rfl,l0_i1,l3_i1,hx2⟩
      ·have hB3:=DF hB3 h5;refine Yt rfl (bf h5) (fun _=>YA)<|Yt rfl (bf h5) (fun _=>YA)<|bS hB3 fun x4 Ex4 hB3=>?_;have hz:=xO r0 Ex4;obtain⟨cs4,i6,i7,q4,hc5⟩:=hz;obtain⟨_,_,rfl,rfl,rfl⟩:=q4;have hc6:=hc5.ext k2;refine Yt rfl (bf h5) (fun _=>Ci l0_i1 l3_i1 Tryz.underlying32 oG i6 i7)<|Yt rfl (bf h5) (fun _=>DY rfl zY)<|Yi rfl (bf h5) (fun _ hS=>Ap rfl wL ((hc6.ext (hS.resolve_left nofun)).at 1 rfl)) (Ext.refl _)<|Yt rfl (bf h5) (fun _=>yY rfl rfl)<|Zp rfl (fun _=>yB rfl h5 rfl)<|?_;cases hB3;refine lf<|?_;exact⟨rfl,l0_i1,l3_i1,hx2⟩
     ·have hB3:=DF hB3 h4;refine Yt rfl (bf h4) (fun _=>YA)<|Yt rfl (bf h4) (fun _=>YA)<|bS hB3 fun x5 Ex5 hB3=>?_;have hz:=xO r0 Ex5;obtain⟨cs5,i8,i9,q5,hc7⟩:=hz;obtain⟨_,_,rfl,rfl,rfl⟩:=q5;have hc8:=hc7.ext k2;refine Yt rfl (bf h4) (fun _=>Ci l0_i1 l3_i1 Tryz.underlying32 oG i8 i9)<|Yt rfl (bf h4) (fun _=>DY rfl AAC)<|Yi rfl (bf h4) (fun _ hS=>Ap rfl wL ((hc8.ext (hS.resolve_left nofun)).at 0 rfl)) (Ext.refl _)<|Yt rfl (bf h4) (fun _=>YA)<|Yt rfl (bf h4) (fun _=>YA)<|bS hB3 fun x6 Ex6 hB3=>?_;have hz:=xO r0 Ex6;obtain⟨cs6,i10,i11,q6,hc9⟩:=hz;obtain⟨_,_,rfl,rfl,rfl⟩:=q6;have hc10:=hc9.ext k2;refine Yt rfl (bf h4) (fun _=>Ci l0_i1 l3_i1 Tryz.underlying32 oG i10 i11)<|Yt rfl (bf h4) (fun _=>DY rfl zY)<|Yi rfl (bf h4) (fun _ hS=>Ap rfl wL ((hc10.ext (hS.resolve_left nofun)).at 1 rfl)) (Ext.refl _)<|Yt rfl (bf h4) (fun _=>yY rfl rfl)<|Zp rfl (fun _=>yB rfl h4 rfl)<|Zn rfl<|Or.elim (Bool.eq_false_or_eq_true (decide (x6.2<x5.1))) (fun h6=>?_) (fun h6=>?_)
      ·have hB3:=Cj hB3 h6;refine Yf rfl (BP h6)<|Yf rfl (BP h6)<|Yf rfl (BP h6)<|Yf rfl (BP h6)<|Yh rfl (BP h6) (Ext.refl _)<|Yf rfl (BP h6)<|Zp rfl (fun _=>wu rfl h6 rfl)<|?_;cases hB3;refine lf<|?_;exact⟨rfl,l0_i1,l3_i1,hx2⟩
      ·have hB3:=DF hB3 h6;refine Yt rfl (bf h6) (fun _=>YA)<|Yt rfl (bf h6) (fun _=>YA)<|bS hB3 fun x7 Ex7 hB3=>?_;have hz:=xO r0 Ex7;obtain⟨cs7,i12,i13,q7,hc11⟩:=hz;obtain⟨_,_,rfl,rfl,rfl⟩:=q7;have hc12:=hc11.ext k2;refine Yt rfl (bf h6) (fun _=>Ci l0_i1 l3_i1 Tryz.underlying32 oG i12 i13)<|Yt rfl (bf h6) (fun _=>DY rfl zY)<|Yi rfl (bf h6) (fun _ hS=>Ap rfl wL ((hc12.ext (hS.resolve_left nofun)).at 1 rfl)) (Ext.refl _)<|Yt rfl (bf h6) (fun _=>yY rfl rfl)<|Zp rfl (fun _=>yB rfl h6 rfl)<|?_;cases hB3;refine lf<|?_;exact⟨rfl,l0_i1,l3_i1,hx2⟩
    rintro L w4⟨l44_j1,l0_j1,l3_j1,K0_j1⟩;have k3:=K0_i1.tr K0_j1;refine cnd l44_j1 (fun h7=>?_) (fun h7=>?_)
    ·have hB1:=Cj hB1 h7;refine Zr<|Za<|nl<|?_;cases hB1;have hF:=(show some _=some _ from hF);cases hF;exact wp_ret<|Zw rfl rfl rfl ⟨rfl,k3⟩
    ·have hB1:=DF hB1 h7;refine wp_skip<|rg<|Zm<|Zv (MH l3_j1 rfl)<|Za<|nl<|lq m (Nat.lt_succ_self _)<|?_;exact⟨_,hB1,rfl,l0_j1,k3⟩
   ·have hB1:=DF hB1 h3;refine wp_exit<|?_;cases hB1;refine lf<|?_;exact⟨rfl,K0_i1⟩
  rintro L w5⟨rfl,K0_j2⟩;refine Zr<|Za<|nl<|?_;cases hF;exact wp_ret<|Zw rfl rfl rfl ⟨rfl,K0_j2⟩
theorem AO4{w0:World}{v0:Value}{x0:(List (Int×Int))}(r0:RV w0 v0 x0){v1:Value}{x1:(List Int)}(r1:RV w0 v1 x1){F:Nat}{r:Int}(hF:AAS F x0 x1=some r):
  Calls Tryz.prog 101 [v0,v1].toArray w0 (aZ fun v w'=>v=.int .i64 r/\Ext w0 w'):=by
 unfold AAS at hF;have hz:=r0.sl;obtain⟨a1,cq1,rfl,-,-,-⟩:=hz;have hz:=r1.sl;obtain⟨a2,cq2,rfl,-,-,-⟩:=hz;refine kR (n:=49) Tryz.func101 rfl rfl rfl<|Zr<|Za<|nl<|wp_seq<|Zr<|Zm<|bS hF fun x3 Ex3 hF=>Zc (xc AHN (mc rfl mn)) (c65 r0 Ex3) ?_;rintro _ w1⟨rfl,hx1⟩;have r3:=r0.ext hx1;refine Zv (AAA rfl rfl)<|nl<|cnd rfl (fun h3=>?_) (fun h3=>?_)
 ·have hF:=Cj hF h3;refine Zr<|Zm<|bS hF fun x4 Ex4 hF=>Zc (xc AHN (mc rfl mn)) (c65 r3 Ex4) ?_;rintro _ w2⟨rfl,hx2⟩;have k1:=hx1.tr hx2;refine Za<|nl<|?_;cases hF;exact wp_ret<|Zw rfl rfl rfl ⟨rfl,k1⟩
 ·have hF:=DF hF h3;refine wp_skip<|wp_seq<|Zr<|Zm<|Zv (bF rfl Tryz.underlying28)<|Zv (yY rfl rfl)<|nl<|cnd rfl (fun h4=>?_) (fun h4=>?_)
  ·have hF:=Cj hF h4;refine Zr<|Za<|nl<|?_;cases hF;exact wp_ret<|Zw rfl rfl rfl ⟨rfl,hx1⟩
  ·have hF:=DF hF h4;refine wp_skip<|wp_seq<|Zr<|Za<|nl<|bS hF fun o1 hB1 hF=>ct (fun L w=>o1=.inr ()/\L 1=.slice a2 x1.length cq2/\Ext w1 w) ?_ ?_
   ·refine wp_block<|lp (I:=fun m L w=>∃y1:Int,yO F x1 m y1=some o1/\L 5=.int .i64 y1/\L 1=.slice a2 x1.length cq2/\Ext w1 w) F ⟨_,hB1,rfl,rfl,(Ext.refl _)⟩ ?_;rintro m L w3⟨y1,hB1,l5_i1,l1_i1,K0_i1⟩;rcases m with _|m
    ·rw[yO]at hB1;cases hB1
    rw[yO]at hB1;have k2:=hx1.tr K0_i1;refine wp_seq<|Zr<|Zm<|Zm<|Zv (bF l1_i1 Tryz.underlying28)<|Zv (Oi l5_i1 rfl)<|nl<|cnd rfl (fun h5=>?_) (fun h5=>?_)
    ·have hB1:=Cj hB1 h5;refine wp_skip<|wp_seq<|wp_block<|wp_seq<|bS hB1 fun y2 hB3 hB1=>ct (fun L w=>L 32=.bool y2/\L 1=.slice a2 x1.length cq2/\L 5=.int .i64 y1/\Ext w3 w) ?_ ?_
     ·refine rg<|Zm<|Zm<|bS hB3 fun x6 Ex6 hB3=>?_;have hz:=(RV.els r1).ix Ex6;obtain⟨b4,f2,cs4,e2,i4,i5,q4,hc3⟩:=hz;cases e2;obtain rfl:=q4;have hc4:=hc3.ext k2;refine Zv (Ci l1_i1 l5_i1 Tryz.underlying28 wL i4 i5)<|Zv (Ap rfl wL (hc4.at 0 rfl))<|Zv (Oi rfl rfl)<|Zm<|Or.elim (Bool.eq_false_or_eq_true (decide (x6<0))) (fun h6=>?_) (fun h6=>?_)
      ·have hB3:=Cj hB3 h6;refine Gk rfl (BP h6)<|Gk rfl (BP h6)<|Gk rfl (BP h6)<|Gk rfl (BP h6)<|Gk rfl (BP h6)<|Zv (wu rfl h6 rfl)<|nl<|?_;cases hB3;refine lf<|?_;exact⟨rfl,l1_i1,l5_i1,(Ext.refl _)⟩
      ·have hB3:=DF hB3 h6;refine Gt rfl (bf h6)<|Zm<|Gt rfl (bf h6)<|Zm<|bS hB3 fun x7 Ex7 hB3=>?_;have hz:=xO r1 Ex7;obtain⟨cs5,i6,i7,q5,hc5⟩:=hz;obtain rfl:=q5;have hc6:=hc5.ext k2;refine Gt rfl (bf h6)<|Zv (Ci l1_i1 l5_i1 Tryz.underlying28 wL i6 i7)<|Gt rfl (bf h6)<|Zv (Ap rfl wL (hc6.at 0 rfl))<|Gt rfl (bf h6)<|Zv (yY rfl rfl)<|Zv (yB rfl h6 rfl)<|nl<|?_;cases hB3;refine lf<|?_;exact⟨rfl,l1_i1,l5_i1,(Ext.refl _)⟩
     rintro L w4⟨l32_j1,l1_j1,l5_j1,K0_j1⟩;have k3:=k2.tr K0_j1;have k4:=K0_i1.tr K0_j1;refine cnd l32_j1 (fun h7=>?_) (fun h7=>?_)
     ·have hB1:=Cj hB1 h7;refine Zr<|Za<|nl<|?_;cases hB1;have hF:=(show some _=some _ from hF);cases hF;exact wp_ret<|Zw rfl rfl rfl ⟨rfl,k3⟩
     ·have hB1:=DF hB1 h7;refine wp_skip<|rg<|Zm<|Zv (MH l5_j1 rfl)<|Za<|nl<|lq m (Nat.lt_succ_self _)<|?_;exact⟨_,hB1,rfl,l1_j1,k4⟩
    ·have hB1:=DF hB1 h5;refine wp_exit<|?_;cases hB1;refine lf<|?_;exact⟨rfl,l1_i1,K0_i1⟩
   rintro L w5⟨rfl,l1_j2,K0_j2⟩;have k5:=hx1.tr K0_j2;refine wp_seq<|Zr<|Za<|nl<|bS hF fun o2 hB7 hF=>ct (fun L w=>o2=.inr ()/\Ext w5 w) ?_ ?_
   ·refine wp_block<|lp (I:=fun m L w=>∃y3:Int,xB F x1 m y3=some o2/\L 6=.int .i64 y3/\L 1=.slice a2 x1.length cq2/\Ext w5 w) F ⟨_,hB7,rfl,l1_j2,(Ext.refl _)⟩ ?_;rintro m L w6⟨y3,hB7,l6_i8,l1_i8,K0_i8⟩;rcases m with _|m
    ·rw[xB]at hB7;cases hB7
    rw[xB]at hB7;have k6:=k5.tr K0_i8;refine wp_seq<|Zr<|Zm<|Zm<|Zv (bF l1_i8 Tryz.underlying28)<|Zv (Oi l6_i8 rfl)<|nl<|cnd rfl (fun h8=>?_) (fun h8=>?_)
    ·have hB7:=Cj hB7 h8;refine wp_skip<|wp_seq<|wp_block<|wp_seq<|wpl [] (.pure true 0 (.pure true 1 (.pure true 2 (.pure false 3 (.pure true 4 (.pure true 5 (.pure true 6 (.pure true 7 (.pure false 8 (.pure true 9 .fin)))))))))) mixed (by kernel_rfl) (fun w7 hx3=>?_);have k8:=k6.tr hx3;have k10:=K0_i8.tr hx3;refine Zn rfl<|Zn rfl<|bS hB7 fun x8 Ex8 hB7=>?_;have hz:=(RV.els r1).ix Ex8;obtain⟨b5,f3,cs6,e3,i9,i10,q6,hc7⟩:=hz;cases e3;obtain rfl:=q6;have hc8:=hc7.ext k8;refine Zp rfl (fun _=>Ci l1_i8 l6_i8 Tryz.underlying28 wL i9 i10)<|Zq rfl (fun _ hS=>Ap rfl wL ((hc8.ext (hS.resolve_left nofun)).at 0 rfl)) (Ext.refl _)<|Zn rfl<|Zn rfl<|Zp rfl (fun _=>yV l6_i8 rfl)<|bS hB7 fun x9 Ex9 hB7=>?_;have hz:=xO r1 Ex9;obtain⟨cs7,i11,i12,q7,hc9⟩:=hz;obtain rfl:=q7;have hc10:=hc9.ext k8;refine Zp rfl (fun _=>Ci l1_i8 rfl Tryz.underlying28 wL i11 i12)<|Zq rfl (fun _ hS=>Ap rfl wL ((hc10.ext (hS.resolve_left nofun)).at 0 rfl)) (Ext.refl _)<|Zp rfl (fun _=>ABl rfl rfl)<|cnd rfl (fun h9=>?_) (fun h9=>?_)
     ·have hB7:=Cj hB7 h9;refine Zr<|Za<|nl<|?_;cases hB7;have hF:=(show some _=some _ from hF);cases hF;exact wp_ret<|Zw rfl rfl rfl ⟨rfl,k8⟩
     ·have hB7:=DF hB7 h9;refine wp_skip<|rg<|Zm<|Zv (MH l6_i8 rfl)<|Za<|nl<|lq m (Nat.lt_succ_self _)<|?_;exact⟨_,hB7,rfl,l1_i8,k10⟩
    ·have hB7:=DF hB7 h8;refine wp_exit<|?_;cases hB7;refine lf<|?_;exact⟨rfl,K0_i8⟩
   rintro L w8⟨rfl,K0_j3⟩;have k11:=k5.tr K0_j3;refine Zr<|Za<|nl<|?_;cases hF;exact wp_ret<|Zw rfl rfl rfl ⟨rfl,k11⟩
theorem c23{w0:World}{v0:Value}{x0:(List (Int×Int))}(r0:RV w0 v0 x0){v1:Value}{x1:(List Int)}(r1:RV w0 v1 x1){F:Nat}{r:Int}(hF:zQ F x0 x1=some r):
  Calls Tryz.prog 23 [v0,v1].toArray w0 (aZ fun v w'=>v=.int .i64 r/\Ext w0 w'):=by
 unfold zQ at hF;have hz:=r0.sl;obtain⟨a1,cq1,rfl,-,-,-⟩:=hz;have hz:=r1.sl;obtain⟨a2,cq2,rfl,-,-,-⟩:=hz;refine kR (n:=26) Tryz.func23 rfl rfl rfl<|Zr<|Za<|nl<|wp_seq<|Zr<|Zm<|Zm<|bS hF fun x3 Ex3 hF=>Zc (xc AM9 (mc rfl (mc rfl mn))) (AO4 r0 r1 Ex3) ?_;rintro _ w1⟨rfl,hx1⟩;have r3:=r0.ext hx1;have r4:=r1.ext hx1;refine Zv (AAA rfl rfl)<|nl<|cnd rfl (fun h3=>?_) (fun h3=>?_)
 ·have hF:=Cj hF h3;refine Zr<|Zm<|Zm<|bS hF fun x4 Ex4 hF=>Zc (xc AM9 (mc rfl (mc rfl mn))) (AO4 r3 r4 Ex4) ?_;rintro _ w2⟨rfl,hx2⟩;have k1:=hx1.tr hx2;refine Za<|nl<|?_;cases hF;exact wp_ret<|Zw rfl rfl rfl ⟨rfl,k1⟩
 ·have hF:=DF hF h3;refine wp_skip<|wp_seq<|Zr<|Za<|nl<|bS hF fun o1 hB1 hF=>ct (fun L w=>o1=.inr ()/\Ext w1 w) ?_ ?_
  ·refine wp_block<|lp (I:=fun m L w=>∃y1:Int,xI F x0 x1 m y1=some o1/\L 5=.int .i64 y1/\L 0=.slice a1 x0.length cq1/\L 1=.slice a2 x1.length cq2/\Ext w1 w) F ⟨_,hB1,rfl,rfl,rfl,(Ext.refl _)⟩ ?_;rintro m L w3⟨y1,hB1,l5_i1,l0_i1,l1_i1,K0_i1⟩;rcases m with _|m
   ·rw[xI]at hB1;cases hB1
   rw[xI]at hB1;have k2:=hx1.tr K0_i1;have r6:=r4.ext K0_i1;refine wp_seq<|Zr<|Zm<|Zm<|Zv (bF l0_i1 Tryz.underlying32)<|Zv (Oi l5_i1 rfl)<|nl<|cnd rfl (fun h4=>?_) (fun h4=>?_)
   ·have hB1:=Cj hB1 h4;refine wp_skip<|wp_seq<|wp_block<|Zr<|Zm<|Zm<|bS hB1 fun x5 Ex5 hB1=>?_;have hz:=(RV.els r0).ix Ex5;obtain⟨b3,f1,cs3,e1,i2,i3,q3,hc1⟩:=hz;cases e1;obtain⟨_,_,rfl,rfl,rfl⟩:=q3;have hc2:=hc1.ext k2;refine Zv (Ci l0_i1 l5_i1 Tryz.underlying32 oG i2 i3)<|Zv (vG rfl oG rfl hc2)<|Zm<|bS hB1 fun x6 Ex6 hB1=>Zc (xc AQ9 (mc rfl (mc l1_i1 mn))) (c67 (show RV (α:=(Int×Int)) _ (.agg [.int .i64 x5.1,.int .i64 x5.2].toArray) (x5.1,x5.2)from⟨_,rfl,[.int .i64 x5.1],[.int .i64 x5.2],rfl,rfl,rfl⟩) r6 Ex6) ?_;rintro _ w4⟨rfl,hx3⟩;have k3:=k2.tr hx3;have k4:=K0_i1.tr hx3;refine Zv (zK rfl)<|nl<|cnd rfl (fun h5=>?_) (fun h5=>?_)
    ·have hB1:=Cj hB1 h5;refine Zr<|Za<|nl<|?_;cases hB1;have hF:=(show some _=some _ from hF);cases hF;exact wp_ret<|Zw rfl rfl rfl ⟨rfl,k3⟩
    ·have hB1:=DF hB1 h5;refine wp_skip<|rg<|Zm<|Zv (MH l5_i1 rfl)<|Za<|nl<|lq m (Nat.lt_succ_self _)<|?_;exact⟨_,hB1,rfl,l0_i1,l1_i1,k4⟩
   ·have hB1:=DF hB1 h4;refine wp_exit<|?_;cases hB1;refine lf<|?_;exact⟨rfl,K0_i1⟩
  rintro L w5⟨rfl,K0_j1⟩;have k5:=hx1.tr K0_j1;refine Zr<|Za<|nl<|?_;cases hF;exact wp_ret<|Zw rfl rfl rfl ⟨rfl,k5⟩
theorem c66{w0:World}{v0:Value}{x0:(List (Int×Int))}(r0:RV w0 v0 x0){v1:Value}{x1:(List Int)}(r1:RV w0 v1 x1){F:Nat}{r:Int}(hF:zS F x0 x1=some r):
  Calls Tryz.prog 66 [v0,v1].toArray w0 (aZ fun v w'=>v=.int .i64 r/\Ext w0 w'):=by
 unfold zS at hF;have hz:=r0.sl;obtain⟨a1,cq1,rfl,-,-,-⟩:=hz;have hz:=r1.sl;obtain⟨a2,cq2,rfl,-,-,-⟩:=hz;refine kR (n:=87) Tryz.func66 rfl rfl rfl<|Zr<|Za<|nl<|wp_seq<|Zr<|Zm<|bS hF fun x3 Ex3 hF=>Zc (xc AHN (mc rfl mn)) (c65 r0 Ex3) ?_;rintro _ w1⟨rfl,hx1⟩;have r3:=r0.ext hx1;refine Zv (AAA rfl rfl)<|nl<|cnd rfl (fun h3=>?_) (fun h3=>?_)
 ·have hF:=Cj hF h3;refine Zr<|Zm<|bS hF fun x4 Ex4 hF=>Zc (xc AHN (mc rfl mn)) (c65 r3 Ex4) ?_;rintro _ w2⟨rfl,hx2⟩;have k1:=hx1.tr hx2;refine Za<|nl<|?_;cases hF;exact wp_ret<|Zw rfl rfl rfl ⟨rfl,k1⟩
 ·have hF:=DF hF h3;refine wp_skip<|wp_seq<|Zr<|Za<|nl<|bS hF fun o1 hB1 hF=>ct (fun L w=>o1=.inr ()/\L 0=.slice a1 x0.length cq1/\L 1=.slice a2 x1.length cq2/\Ext w1 w) ?_ ?_
  ·refine wp_block<|lp (I:=fun m L w=>∃y1:Int,xJ F x0 x1 m y1=some o1/\L 5=.int .i64 y1/\L 0=.slice a1 x0.length cq1/\L 1=.slice a2 x1.length cq2/\Ext w1 w) F ⟨_,hB1,rfl,rfl,rfl,(Ext.refl _)⟩ ?_;rintro m L w3⟨y1,hB1,l5_i1,l0_i1,l1_i1,K0_i1⟩;rcases m with _|m
   ·rw[xJ]at hB1;cases hB1
   rw[xJ]at hB1;have k2:=hx1.tr K0_i1;refine wp_seq<|Zr<|Zm<|Zm<|Zv (bF l1_i1 Tryz.underlying41)<|Zv (Oi l5_i1 rfl)<|nl<|cnd rfl (fun h4=>?_) (fun h4=>?_)
   ·have hB1:=Cj hB1 h4;refine wp_skip<|wp_seq<|wp_block<|wp_seq<|bS hB1 fun y2 hB3 hB1=>ct (fun L w=>L 50=.bool y2/\L 0=.slice a1 x0.length cq1/\L 1=.slice a2 x1.length cq2/\L 5=.int .i64 y1/\Ext w3 w) ?_ ?_
    ·refine wpl [] (.pure true 0 (.pure true 1 (.pure true 2 (.pure false 3 (.pure true 4 (.pure true 5 (.pure true 6 (.pure true 7 (.pure true 8 (.pure false 9 (.pure true 10 (.pure false 11 (.pure true 12 (.pure true 13 (.pure true 14 (.pure true 15 (.pure true 16 (.pure true 17 (.pure true 18 (.pure true 19 (.pure true 20 (.pure false 21 (.pure true 22 (.pure true 23 (.pure true 24 (.pure true 25 (.pure false 26 (.pure true 27 (.pure true 28 (.pure true 29 .fin)))))))))))))))))))))))))))))) mixed (by kernel_rfl) (fun w5 hx4=>?_);have k5:=k2.tr hx4;refine Zn rfl<|Zn rfl<|bS hB3 fun x6 Ex6 hB3=>?_;have hz:=(RV.els r1).ix Ex6;obtain⟨b4,f2,cs4,e2,i4,i5,q4,hc3⟩:=hz;cases e2;obtain rfl:=q4;have hc4:=hc3.ext k5;refine Zp rfl (fun _=>Ci l1_i1 l5_i1 Tryz.underlying41 CG i4 i5)<|Zq rfl (fun _ hS=>Ap rfl CG ((hc4.ext (hS.resolve_left nofun)).at 0 rfl)) (Ext.refl _)<|Zp rfl (fun _=>Oi rfl rfl)<|Zn rfl<|Or.elim (Bool.eq_false_or_eq_true (decide (x6<0))) (fun h5=>?_) (fun h5=>?_)
     ·have hB3:=Cj hB3 h5;refine Yf rfl (BP h5)<|Yf rfl (BP h5)<|Yf rfl (BP h5)<|Yh rfl (BP h5) (Ext.refl _)<|Yf rfl (BP h5)<|Yh rfl (BP h5) (Ext.refl _)<|Yf rfl (BP h5)<|Zp rfl (fun _=>wu rfl h5 rfl)<|Zn rfl<|Or.elim (Bool.eq_false_or_eq_true true) (fun h6=>?_) (fun h6=>?_)
      ·have hB3:=Cj hB3 h6;refine Yf rfl (BP h6)<|Yf rfl (BP h6)<|Yf rfl (BP h6)<|Yf rfl bu<|Yf rfl bu<|Yf rfl bu<|Yh rfl bu (Ext.refl _)<|Yf rfl bu<|Yf rfl bu<|Yf rfl bu<|Yf rfl bu<|Yh rfl bu (Ext.refl _)<|Yf rfl bu<|Yf rfl (BP h6)<|Zp rfl (fun _=>wu rfl h6 rfl)<|?_;cases hB3;refine lf<|?_;exact⟨rfl,l0_i1,l1_i1,l5_i1,hx4⟩
      ·have hB3:=DF hB3 h6;refine Yt rfl (bf h6) (fun _=>YA)<|Yt rfl (bf h6) (fun _=>yY l5_i1 rfl)<|Yt rfl (bf h6) (fun _=>YA)<|Or.elim (Bool.eq_false_or_eq_true (decide (0<y1))) (fun h7=>?_) (fun h7=>?_)
       ·have hB3:=Cj hB3 h7;refine Yt rfl (bt h7) (fun _=>YA)<|Yt rfl (bt h7) (fun _=>YA)<|bS hB3 fun x7 Ex7 hB3=>?_;have hz:=xO r1 Ex7;obtain⟨cs5,i6,i7,q5,hc5⟩:=hz;obtain rfl:=q5;have hc6:=hc5.ext k5;refine Yt rfl (bt h7) (fun _=>Ci l1_i1 l5_i1 Tryz.underlying41 CG i6 i7)<|Yi rfl (bt h7) (fun _ hS=>Ap rfl CG ((hc6.ext (hS.resolve_left nofun)).at 0 rfl)) (Ext.refl _)<|Yt rfl (bt h7) (fun _=>YA)<|Yt rfl (bt h7) (fun _=>YA)<|Yt rfl (bt h7) (fun _=>yV l5_i1 rfl)<|bS hB3 fun x8 Ex8 hB3=>?_;have hz:=xO r1 Ex8;obtain⟨cs6,i8,i9,q6,hc7⟩:=hz;obtain rfl:=q6;have hc8:=hc7.ext k5;refine Yt rfl (bt h7) (fun _=>Ci l1_i1 rfl Tryz.underlying41 CG i8 i9)<|Yi rfl (bt h7) (fun _ hS=>Ap rfl CG ((hc8.ext (hS.resolve_left nofun)).at 0 rfl)) (Ext.refl _)<|Yt rfl (bt h7) (fun _=>ABl rfl rfl)<|Yt rfl (bf h6) (fun _=>wu rfl h7 rfl)<|Zp rfl (fun _=>yB rfl h6 rfl)<|?_;cases hB3;refine lf<|?_;exact⟨rfl,l0_i1,l1_i1,l5_i1,hx4⟩
       ·have hB3:=DF hB3 h7;refine Yf rfl (Bh h7)<|Yf rfl (Bh h7)<|Yf rfl (Bh h7)<|Yh rfl (Bh h7) (Ext.refl _)<|Yf rfl (Bh h7)<|Yf rfl (Bh h7)<|Yf rfl (Bh h7)<|Yf rfl (Bh h7)<|Yh rfl (Bh h7) (Ext.refl _)<|Yf rfl (Bh h7)<|Yt rfl (bf h6) (fun _=>yB rfl h7 rfl)<|Zp rfl (fun _=>yB rfl h6 rfl)<|?_;cases hB3;refine lf<|?_;exact⟨rfl,l0_i1,l1_i1,l5_i1,hx4⟩
     ·have hB3:=DF hB3 h5;refine Yt rfl (bf h5) (fun _=>YA)<|Yt rfl (bf h5) (fun _=>YA)<|bS hB3 fun x9 Ex9 hB3=>?_;have hz:=xO r1 Ex9;obtain⟨cs7,i10,i11,q7,hc9⟩:=hz;obtain rfl:=q7;have hc10:=hc9.ext k5;refine Yt rfl (bf h5) (fun _=>Ci l1_i1 l5_i1 Tryz.underlying41 CG i10 i11)<|Yi rfl (bf h5) (fun _ hS=>Ap rfl CG ((hc10.ext (hS.resolve_left nofun)).at 0 rfl)) (Ext.refl _)<|Yt rfl (bf h5) (fun _=>YA)<|Yi rfl (bf h5) (fun _ hS=>bF l0_i1 Tryz.underlying32) (Ext.refl _)<|Yt rfl (bf h5) (fun _=>AC6 rfl rfl)<|Zp rfl (fun _=>yB rfl h5 rfl)<|Zn rfl<|Or.elim (Bool.eq_false_or_eq_true (decide ((x0.length:Int)<=x9))) (fun h8=>?_) (fun h8=>?_)
      ·have hB3:=Cj hB3 h8;refine Yf rfl (BP h8)<|Yf rfl (BP h8)<|Yf rfl (BP h8)<|Yf rfl bu<|Yf rfl bu<|Yf rfl bu<|Yh rfl bu (Ext.refl _)<|Yf rfl bu<|Yf rfl bu<|Yf rfl bu<|Yf rfl bu<|Yh rfl bu (Ext.refl _)<|Yf rfl bu<|Yf rfl (BP h8)<|Zp rfl (fun _=>wu rfl h8 rfl)<|?_;cases hB3;refine lf<|?_;exact⟨rfl,l0_i1,l1_i1,l5_i1,hx4⟩
      ·have hB3:=DF hB3 h8;refine Yt rfl (bf h8) (fun _=>YA)<|Yt rfl (bf h8) (fun _=>yY l5_i1 rfl)<|Yt rfl (bf h8) (fun _=>YA)<|Or.elim (Bool.eq_false_or_eq_true (decide (0<y1))) (fun h9=>?_) (fun h9=>?_)
       ·have hB3:=Cj hB3 h9;refine Yt rfl (bt h9) (fun _=>YA)<|Yt rfl (bt h9) (fun _=>YA)<|bS hB3 fun x10 Ex10 hB3=>?_;have hz:=xO r1 Ex10;obtain⟨cs8,i12,i13,q8,hc11⟩:=hz;obtain rfl:=q8;have hc12:=hc11.ext k5;refine Yt rfl (bt h9) (fun _=>Ci l1_i1 l5_i1 Tryz.underlying41 CG i12 i13)<|Yi rfl (bt h9) (fun _ hS=>Ap rfl CG ((hc12.ext (hS.resolve_left nofun)).at 0 rfl)) (Ext.refl _)<|Yt rfl (bt h9) (fun _=>YA)<|Yt rfl (bt h9) (fun _=>YA)<|Yt rfl (bt h9) (fun _=>yV l5_i1 rfl)<|bS hB3 fun x11 Ex11 hB3=>?_;have hz:=xO r1 Ex11;obtain⟨cs9,i14,i15,q9,hc13⟩:=hz;obtain rfl:=q9;have hc14:=hc13.ext k5;refine Yt rfl (bt h9) (fun _=>Ci l1_i1 rfl Tryz.underlying41 CG i14 i15)<|Yi rfl (bt h9) (fun _ hS=>Ap rfl CG ((hc14.ext (hS.resolve_left nofun)).at 0 rfl)) (Ext.refl _)<|Yt rfl (bt h9) (fun _=>ABl rfl rfl)<|Yt rfl (bf h8) (fun _=>wu rfl h9 rfl)<|Zp rfl (fun _=>yB rfl h8 rfl)<|?_;cases hB3;refine lf<|?_;exact⟨rfl,l0_i1,l1_i1,l5_i1,hx4⟩
       ·have hB3:=DF hB3 h9;refine Yf rfl (Bh h9)<|Yf rfl (Bh h9)<|Yf rfl (Bh h9)<|Yh rfl (Bh h9) (Ext.refl _)<|Yf rfl (Bh h9)<|Yf rfl (Bh h9)<|Yf rfl (Bh h9)<|Yf rfl (Bh h9)<|Yh rfl (Bh h9) (Ext.refl _)<|Yf rfl (Bh h9)<|Yt rfl (bf h8) (fun _=>yB rfl h9 rfl)<|Zp rfl (fun _=>yB rfl h8 rfl)<|?_;cases hB3;refine lf<|?_;exact⟨rfl,l0_i1,l1_i1,l5_i1,hx4⟩
    rintro L w6⟨l50_j1,l0_j1,l1_j1,l5_j1,K0_j1⟩;have k7:=k2.tr K0_j1;have k8:=K0_i1.tr K0_j1;refine cnd l50_j1 (fun h10=>?_) (fun h10=>?_)
    ·have hB1:=Cj hB1 h10;refine Zr<|Za<|nl<|?_;cases hB1;have hF:=(show some _=some _ from hF);cases hF;exact wp_ret<|Zw rfl rfl rfl ⟨rfl,k7⟩
    ·have hB1:=DF hB1 h10;refine wp_skip<|rg<|Zm<|Zv (MH l5_j1 rfl)<|Za<|nl<|lq m (Nat.lt_succ_self _)<|?_;exact⟨_,hB1,rfl,l0_j1,l1_j1,k8⟩
   ·have hB1:=DF hB1 h4;refine wp_exit<|?_;cases hB1;refine lf<|?_;exact⟨rfl,l0_i1,l1_i1,K0_i1⟩
  rintro L w7⟨rfl,l0_j2,l1_j2,K0_j2⟩;have k9:=hx1.tr K0_j2;refine wp_seq<|Zr<|Za<|nl<|bS hF fun o2 hB7 hF=>ct (fun L w=>o2=.inr ()/\Ext w7 w) ?_ ?_
  ·refine wp_block<|lp (I:=fun m L w=>∃y3:Int,xM F x0 x1 m y3=some o2/\L 6=.int .i64 y3/\L 0=.slice a1 x0.length cq1/\L 1=.slice a2 x1.length cq2/\Ext w7 w) F ⟨_,hB7,rfl,l0_j2,l1_j2,(Ext.refl _)⟩ ?_;rintro m L w8⟨y3,hB7,l6_i16,l0_i16,l1_i16,K0_i16⟩;rcases m with _|m
   ·rw[xM]at hB7;cases hB7
   rw[xM]at hB7;have k10:=k9.tr K0_i16;refine wp_seq<|Zr<|Zm<|Zm<|Zv (bF l1_i16 Tryz.underlying41)<|Zv (Oi l6_i16 rfl)<|nl<|cnd rfl (fun h11=>?_) (fun h11=>?_)
   ·have hB7:=Cj hB7 h11;refine wp_skip<|wp_seq<|wp_block<|Zr<|Za<|nl<|bS hB7 fun o3 hB9 hB7=>ct (fun L w=>o3=.inr ()/\L 0=.slice a1 x0.length cq1/\L 1=.slice a2 x1.length cq2/\L 6=.int .i64 y3/\Ext w8 w) ?_ ?_
    ·refine wp_block<|lp (I:=fun m L w=>∃y4:Int,xK F x0 x1 y3 m y4=some o3/\L 7=.int .i64 y4/\L 0=.slice a1 x0.length cq1/\L 1=.slice a2 x1.length cq2/\L 6=.int .i64 y3/\Ext w8 w) F ⟨_,hB9,rfl,l0_i16,l1_i16,l6_i16,(Ext.refl _)⟩ ?_;rintro m L w9⟨y4,hB9,l7_i17,l0_i17,l1_i17,l6_i17,K0_i17⟩;rcases m with _|m
     ·rw[xK]at hB9;cases hB9
     rw[xK]at hB9;have k12:=k10.tr K0_i17;refine wp_seq<|Zr<|Zm<|Zm<|Zv (Oi l7_i17 l6_i17)<|nl<|cnd rfl (fun h12=>?_) (fun h12=>?_)
     ·have hB9:=Cj hB9 h12;refine wp_skip<|wp_seq<|wp_block<|wp_seq<|?_;have hz:=bs hB9;obtain⟨⟨y5,y6⟩,hB11,hB9⟩:=hz;refine ct (fun L w=>∃v3 v4:Value,L 8=v3/\PB 35 w9.heap.size w v3 y5/\L 9=v4/\PB 35 w9.heap.size w v4 y6/\v3≠v4/\L 0=.slice a1 x0.length cq1/\L 1=.slice a2 x1.length cq2/\L 6=.int .i64 y3/\L 7=.int .i64 y4/\Ext w9 w) ?_ ?_
      ·refine bS hB11 fun x12 Ex12 hB11=>bS hB11 fun x13 Ex13 hB11=>bS hB11 fun x14 Ex14 hB11=>bS hB11 fun x15 Ex15 hB11=>wpl [] (.pure true 0 (.pure true 1 (.pure true 2 (.pure true 3 (.pure false 4 (.pure true 5 (.pure false 6 (.pure true 7 (.pure true 8 (.pure true 9 (.pure true 10 (.pure false 11 (.pure true 12 (.pure false 13 (.eff 14 (.eff 15 (.eff 16 (.eff 17 .fin .stop) .stop) .stop) (.eff 15 (.eff 14 (.eff 16 (.eff 17 .fin .stop) .stop) .stop) .stop)))))))))))))))) mixed (by kernel_rfl) (fun w15 hx8=>?_);have k42:=k12.tr hx8;refine Zn rfl<|Zn rfl<|Zn rfl<|?_;have hz:=(RV.els r1).ix Ex12;obtain⟨b9,f5,cs14,e5,i26,i27,q14,hc23⟩:=hz;cases e5;obtain rfl:=q14;have hc24:=hc23.ext k42;refine Zp rfl (fun _=>Ci l1_i17 l6_i17 Tryz.underlying41 CG i26 i27)<|Zq rfl (fun _ hS=>Ap rfl CG ((hc24.ext (hS.resolve_left nofun)).at 0 rfl)) (Ext.refl _)<|?_;have hz:=(RV.els r0).ix Ex13;obtain⟨b10,f6,cs15,e6,i28,i29,q15,hc25⟩:=hz;cases e6;obtain⟨_,_,rfl,rfl,rfl⟩:=q15;have hc26:=hc25.ext k42;refine Zp rfl (fun _=>Ci l0_i17 rfl Tryz.underlying32 oG i28 i29)<|Zq rfl (fun _ hS=>vG rfl oG rfl (hc26.ext (hS.resolve_left nofun))) (Ext.refl _)<|Zn rfl<|Zn rfl<|Zn rfl<|?_;have hz:=xO r1 Ex14;obtain⟨cs16,i30,i31,q16,hc27⟩:=hz;obtain rfl:=q16;have hc28:=hc27.ext k42;refine Zp rfl (fun _=>Ci l1_i17 l7_i17 Tryz.underlying41 CG i30 i31)<|Zq rfl (fun _ hS=>Ap rfl CG ((hc28.ext (hS.resolve_left nofun)).at 0 rfl)) (Ext.refl _)<|?_;have hz:=xO r0 Ex15;obtain⟨cs17,i32,i33,q17,hc29⟩:=hz;obtain⟨_,_,rfl,rfl,rfl⟩:=q17;have hc30:=hc29.ext k42;refine Zp rfl (fun _=>Ci l0_i17 rfl Tryz.underlying32 oG i32 i33)<|Zq rfl (fun _ hS=>vG rfl oG rfl (hc30.ext (hS.resolve_left nofun))) (Ext.refl _)<|pe rfl ?_ ?_
       ·refine sal oG fun b11 w16 hx9 hg3 hb10=>?_;have k50:=hx8.tr hx9;refine nl ⟨fun _ _=>hx9,?_⟩;refine zX rfl<|sal oG fun b12 w17 hx10 hg4 hb11=>?_;have k55:=k50.tr hx10;have k56:=hx9.tr hx10;have hb12:=hb10.ext hx10;refine nl ⟨fun _ _=>k56,?_⟩;refine zX rfl<|zo rfl rfl rfl oG hb12 rfl rfl (ble rfl) fun w18 hch3 hb13=>?_;have k61:=Ext.chg k55 hch3 (Nat.le_trans hx8.size hg3);have k62:=Ext.chg k56 hch3 (Nat.le_trans (Nat.le_refl _) hg3);have hb14:=Bx.chg hb11 hch3 (Ne.symm (Nat.ne_of_lt (Nat.lt_of_lt_of_le hb10.lt hg4)));have hb15:Bx w18 b11 35 [.int .i64 x13.1,.int .i64 x13.2]:=hb13;refine nl ⟨fun _ _=>k62,?_⟩;refine zX rfl<|zo rfl rfl rfl oG hb14 rfl rfl (ble rfl) fun w19 hch4 hb16=>?_;have k67:=Ext.chg k61 hch4 (Nat.le_trans hx8.size (Nat.le_trans hx9.size hg4));have k68:=Ext.chg k62 hch4 (Nat.le_trans (Nat.le_refl _) (Nat.le_trans hx9.size hg4));have hb17:=Bx.chg hb15 hch4 (Nat.ne_of_lt (Nat.lt_of_lt_of_le hb10.lt hg4));have hb18:Bx w19 b12 35 [.int .i64 x15.1,.int .i64 x15.2]:=hb16;refine nl ⟨fun _ _=>k68,?_⟩;cases hB11;refine lf<|?_;exact⟨_,_,rfl,⟨_,_,rfl,(Nat.le_trans hx8.size hg3),hb17,[.int .i64 x13.1],[.int .i64 x13.2],rfl,rfl,rfl⟩,rfl,⟨_,_,rfl,(Nat.le_trans hx8.size (Nat.le_trans hx9.size hg4)),hb18,[.int .i64 x15.1],[.int .i64 x15.2],rfl,rfl,rfl⟩,(AKk (Nat.ne_of_lt (Nat.lt_of_lt_of_le hb10.lt hg4))),l0_i17,l1_i17,l6_i17,l7_i17,k67⟩
       refine pm rfl ?_ ?_
       ·refine sal oG fun b13 w20 hx11 hg5 hb19=>?_;have k73:=hx8.tr hx11;refine nl ⟨fun _ _=>hx11,?_⟩;refine zX rfl<|sal oG fun b14 w21 hx12 hg6 hb20=>?_;have k78:=k73.tr hx12;have k79:=hx11.tr hx12;refine nl ⟨fun _ _=>k79,?_⟩;refine zX rfl<|zo rfl rfl rfl oG hb20 rfl rfl (ble rfl) fun w22 hch5 hb22=>?_;have k84:=Ext.chg k78 hch5 (Nat.le_trans k73.size hg6);have k85:=Ext.chg k79 hch5 (Nat.le_trans hx11.size hg6);have k86:=Ext.chg hx12 hch5 (Nat.le_trans (Nat.le_refl _) hg6);have hb23:=hb19.ext k86;have hb24:Bx w22 b14 35 [.int .i64 x13.1,.int .i64 x13.2]:=hb22;refine nl ⟨fun _ _=>k85,?_⟩;refine zX rfl<|zo rfl rfl rfl oG hb23 rfl rfl (ble rfl) fun w23 hch6 hb25=>?_;have k91:=Ext.chg k84 hch6 (Nat.le_trans hx8.size hg5);have k92:=Ext.chg k85 hch6 (Nat.le_trans (Nat.le_refl _) hg5);have hb26:=Bx.chg hb24 hch6 (Ne.symm (Nat.ne_of_lt (Nat.lt_of_lt_of_le hb19.lt hg6)));have hb27:Bx w23 b13 35 [.int .i64 x15.1,.int .i64 x15.2]:=hb25;refine nl ⟨fun _ _=>k92,?_⟩;cases hB11;refine lf<|?_;exact⟨_,_,rfl,⟨_,_,rfl,(Nat.le_trans hx8.size (Nat.le_trans hx11.size hg6)),hb26,[.int .i64 x13.1],[.int .i64 x13.2],rfl,rfl,rfl⟩,rfl,⟨_,_,rfl,(Nat.le_trans hx8.size hg5),hb27,[.int .i64 x15.1],[.int .i64 x15.2],rfl,rfl,rfl⟩,(AKk (Ne.symm (Nat.ne_of_lt (Nat.lt_of_lt_of_le hb19.lt hg6)))),l0_i17,l1_i17,l6_i17,l7_i17,k91⟩
       trivial
      rintro L w24⟨v3,v4,l8_j3,P8_j3,l9_j3,P9_j3,N8_9_j3,l0_j3,l1_j3,l6_j3,l7_j3,K0_j3⟩;have k93:=k12.tr K0_j3;have k96:=K0_i17.tr K0_j3;obtain⟨b15,cs18,rfl,hg7,hb28,q18⟩:=P8_j3;obtain⟨_,_,rfl,rfl,rfl⟩:=q18;obtain⟨b16,cs19,rfl,hg8,hb29,q19⟩:=P9_j3;obtain⟨_,_,rfl,rfl,rfl⟩:=q19;refine Zr<|Zv (DY l8_j3 AAC)<|Zv (Ap rfl wL ((Bx.cs hb28).at 0 rfl))<|Zv (DY l9_j3 AAC)<|Zv (Ap rfl wL ((Bx.cs hb29).at 0 rfl))<|Zv (ALz rfl rfl)<|Zv (DY l8_j3 zY)<|Zv (Ap rfl wL ((Bx.cs hb28).at 1 rfl))<|Zv (DY l9_j3 zY)<|Zv (Ap rfl wL ((Bx.cs hb29).at 1 rfl))<|Zv (ALy rfl rfl)<|Zv (ABl rfl rfl)<|nl<|cnd rfl (fun h13=>?_) (fun h13=>?_)
      ·have hB9:=Cj hB9 h13;refine Zr<|Za<|nl<|?_;cases hB9;have hB7:=(show some _=some _ from hB7);cases hB7;have hF:=(show some _=some _ from hF);cases hF;exact wp_ret<|Zw rfl rfl rfl ⟨rfl,k93⟩
      ·have hB9:=DF hB9 h13;refine wp_skip<|rg<|Zm<|Zv (MH l7_j3 rfl)<|Za<|nl<|lq m (Nat.lt_succ_self _)<|?_;exact⟨_,hB9,rfl,l0_j3,l1_j3,l6_j3,k96⟩
     ·have hB9:=DF hB9 h12;refine wp_exit<|?_;cases hB9;refine lf<|?_;exact⟨rfl,l0_i17,l1_i17,l6_i17,K0_i17⟩
    rintro L w25⟨rfl,l0_j4,l1_j4,l6_j4,K0_j4⟩;have k99:=K0_i16.tr K0_j4;refine rg<|Zm<|Zv (MH l6_j4 rfl)<|Za<|nl<|lq m (Nat.lt_succ_self _)<|?_;exact⟨_,hB7,rfl,l0_j4,l1_j4,k99⟩
   ·have hB7:=DF hB7 h11;refine wp_exit<|?_;cases hB7;refine lf<|?_;exact⟨rfl,K0_i16⟩
  rintro L w26⟨rfl,K0_j5⟩;have k100:=k9.tr K0_j5;refine Zr<|Za<|nl<|?_;cases hF;exact wp_ret<|Zw rfl rfl rfl ⟨rfl,k100⟩
theorem AO5{w0:World}{v0:Value}{x0:(Int×Int)}(r0:RV w0 v0 x0){v1:Value}{x1:(Int×Int)}(r1:RV w0 v1 x1){r:(Int×Int)}(hF:ACM x0 x1=some r):
  Calls Tryz.prog 115 [v0,v1].toArray w0 (aZ fun v w'=>∃u0:Value,v=u0/\RV w' u0 r/\Ext w0 w'):=by
 unfold ACM at hF;have hz:=id r0;obtain⟨_,rfl,_,_,rfl,rfl,rfl⟩:=hz;have hz:=id r1;obtain⟨_,rfl,_,_,rfl,rfl,rfl⟩:=hz;refine kR (n:=16) Tryz.func115 rfl rfl rfl<|Zr<|sbx rfl rfl fun b3 w1 hx1 hg1 hb1=>sbx rfl rfl fun b4 w2 hx2 hg2 hb2=>?_;have k1:=hx1.tr hx2;have hb3:=hb1.ext hx2;refine sal oG fun b5 w3 hx3 hg3 hb4=>?_;have k2:=k1.tr hx3;have hb5:=hb3.ext hx3;have hb6:=hb2.ext hx3;refine nl<|Zr<|Zv (DY rfl AAC)<|Zv (Ap rfl wL ((Bx.cs hb5).at 0 rfl))<|Zv (DY rfl AAC)<|Zv (Ap rfl wL ((Bx.cs hb6).at 0 rfl))<|Zv (ALz rfl rfl)<|Zv (DY rfl zY)<|Zv (Ap rfl wL ((Bx.cs hb5).at 1 rfl))<|Zv (DY rfl zY)<|Zv (Ap rfl wL ((Bx.cs hb6).at 1 rfl))<|Zv (ALy rfl rfl)<|Zv (AAQ (r:=[.int .i64 (if x0.1<x1.1 then x1.1 else x0.1),.int .i64 (if x1.2<x0.2 then x1.2 else x0.2)]) oG AHL (pc rfl (pc rfl pn)) rfl)<|zo rfl rfl rfl oG hb4 rfl rfl (ble rfl) fun w4 hch1 hb7=>?_;have k4:=Ext.chg k2 hch1 (Nat.le_trans k1.size hg3);have hb8:Bx w4 b5 35 [.int .i64 (if x0.1<x1.1 then x1.1 else x0.1),.int .i64 (if x1.2<x0.2 then x1.2 else x0.2)]:=hb7;refine nl<|?_;cases hF;exact wp_ret<|rt rfl (.cell rfl rfl oG rfl (Bx.cs hb8) .nil) ⟨_,rfl,(show RV (α:=(Int×Int)) _ (.agg [.int .i64 (if x0.1<x1.1 then x1.1 else x0.1),.int .i64 (if x1.2<x0.2 then x1.2 else x0.2)].toArray) (if x0.1<x1.1 then x1.1 else x0.1,if x1.2<x0.2 then x1.2 else x0.2)from⟨_,rfl,[.int .i64 (if x0.1<x1.1 then x1.1 else x0.1)],[.int .i64 (if x1.2<x0.2 then x1.2 else x0.2)],rfl,rfl,rfl⟩),k4⟩
theorem c20{w0:World}{v0:Value}{x0:(List (Int×Int))}(r0:RV w0 v0 x0){F:Nat}{r:((List Int)×Int)}(hF:zi F x0=some r):
  Calls Tryz.prog 20 [v0].toArray w0 (aZ fun v w'=>∃u0:Value,v=.tuple #[u0,.int .i64 r.2]/\RV w' u0 r.1/\Ext w0 w'):=by
 unfold zi at hF;have hz:=r0.sl;obtain⟨a1,cq1,rfl,-,-,-⟩:=hz;refine kR (n:=20) Tryz.func20 rfl rfl rfl<|Zr<|Za<|Za<|nl<|wp_seq<|Zr<|Zm<|bS hF fun x2 Ex2 hF=>Zc (xc AL6 (mc rfl mn)) (c95 r0 Ex2) ?_;rintro _ w1⟨rfl,hx1⟩;have r2:=r0.ext hx1;refine Za<|nl<|Zr<|Zm<|Zv (AAA rfl rfl)<|nl<|cnd rfl (fun h2=>?_) (fun h2=>?_)
 ·have hF:=Cj hF h2;refine Zr<|Zm<|Za<|Za<|nl<|?_;cases hF;exact wp_ret<|rt rfl (.tmp rfl rfl (.tmp rfl rfl .nil)) ⟨_,rfl,(RVo.nil (Nat.zero_le _)),hx1⟩
 ·have hF:=DF hF h2;refine wp_skip<|Zr<|Zm<|bS hF fun x3 Ex3 hF=>Zc (xc AJW (mc rfl mn)) (c96 r2 Ex3) ?_;rintro _ w2⟨u1,rfl,r3,hx2⟩;have k1:=hx1.tr hx2;have hz:=AG9 r3;obtain⟨a2,rfl⟩:=hz;refine Zv (AAQ (r:=[.int .i64 1,.int .i64 0]) oG AHL (pc rfl pn) rfl)<|bS hF fun x4 Ex4 hF=>?_;have hz:=AFL r3 Ex4;obtain⟨b2,cs2,e1,q2,hc1⟩:=hz;cases e1;obtain⟨a3,cq2,rfl,p1,q3,e2⟩:=q2;have r4:=RV.of1 p1 q3 e2;refine bS hF fun x5 Ex5 hF=>Zc (xc AHO (mc rfl (mc rfl mn))) (c97 (x0:=(⟨x4.v⟩:(Uno (List ((Int×Int)×Int))))) hc1 r4.rep1 (show RV (α:=(Int×Int)) _ (.agg [.int .i64 1,.int .i64 0].toArray) (1,0)from⟨_,rfl,[.int .i64 1],[.int .i64 0],rfl,rfl,rfl⟩) Ex5) ?_;rintro _ w3⟨u2,u3,rfl,r5,r6,hx3⟩;have k2:=k1.tr hx3;have hz:=RV.sl r5.rv;obtain⟨a4,cq3,rfl,-,-,-⟩:=hz;have hz:=RV.sl r6.rv;obtain⟨a5,cq4,rfl,-,-,-⟩:=hz;refine Zm<|Zv (zW rfl rfl)<|Zv (zW rfl rfl)<|Za<|Za<|nl<|Zr<|Zm<|Za<|Za<|nl<|?_;cases hF;exact wp_ret<|rt rfl (.tmp rfl rfl (.tmp rfl rfl .nil)) ⟨_,rfl,r5.rv,k2⟩
theorem c34{w0:World}{v0:Value}{x0:(List (Int×Int))}(r0:RV w0 v0 x0){x1:Int}{x2:Int}{F:Nat}{r:((Bool×Bool)×Int)}(hF:ABW F x0 x1 x2=some r):
  Calls Tryz.prog 34 [v0,.int .i64 x1,.int .i64 x2].toArray w0 (aZ fun v w'=>∃u0:Value,v=.tuple #[u0,.int .i64 r.2]/\RV w' u0 r.1/\Ext w0 w'):=by
 unfold ABW at hF;have hz:=r0.sl;obtain⟨a1,cq1,rfl,-,-,-⟩:=hz;refine kR (n:=99) Tryz.func34 rfl rfl rfl<|Zr<|sal ABa fun b4 w1 hx1 hg1 hb1=>?_;have r4:=r0.ext hx1;refine Za<|nl<|wp_seq<|Zr<|Zm<|bS hF fun x4 Ex4 hF=>Zc (xc AL6 (mc rfl mn)) (c95 r4 Ex4) ?_;rintro _ w2⟨rfl,hx2⟩;have k1:=hx1.tr hx2;have hb2:=hb1.ext hx2;have r5:=r4.ext hx2;refine Za<|nl<|Zr<|Zm<|Zv (AAA rfl rfl)<|nl<|cnd rfl (fun h4=>?_) (fun h4=>?_)
 ·have hF:=Cj hF h4;refine Zr<|Zv (AAQ (r:=[.bool false,.bool false]) ABa AJT pn rfl)<|Zm<|zo rfl rfl rfl ABa hb2 rfl rfl (ble rfl) fun w3 hch1 hb3=>?_;have k2:=Ext.chg k1 hch1 (Nat.le_trans (Nat.le_refl _) hg1);have hb4:Bx w3 b4 68 [.bool false,.bool false]:=hb3;refine Za<|nl<|?_;cases hF;exact wp_ret<|rt rfl (.cell rfl rfl ABa rfl (Bx.cs hb4) (.tmp rfl rfl .nil)) ⟨_,rfl,(show RV (α:=(Bool×Bool)) _ (.agg [.bool false,.bool false].toArray) (false,false)from⟨_,rfl,[.bool false],[.bool false],rfl,rfl,rfl⟩),k2⟩
 ·have hF:=DF hF h4;refine wp_skip<|wp_seq<|Zr<|Zm<|Zm<|Zv (ALy rfl rfl)<|Zv (Oi rfl rfl)<|Zm<|Zg rfl rfl (gK rfl) (fun hc=>Ko rfl)<|Zg rfl rfl (gK rfl) (fun hc=>Ko rfl)<|Zg rfl rfl (gK rfl) (fun hc=>ALz (mv hc rfl) (mv hc rfl))<|Zg rfl rfl (gK rfl) (fun hc=>Ko rfl)<|Zg rfl rfl (gK rfl) (fun hc=>bF (mv hc rfl) Tryz.underlying32)<|Zg rfl rfl (gK rfl) (fun hc=>AC6 (mv hc rfl) (mv hc rfl))<|Zv (xpo rfl rfl rfl)<|nl<|cnd rfl (fun h5=>?_) (fun h5=>?_)
  ·have hF:=Cj hF h5;refine Zr<|Zv (AAQ (r:=[.bool false,.bool false]) ABa AJT pn rfl)<|zo rfl rfl rfl ABa hb2 rfl rfl (ble rfl) fun w4 hch2 hb5=>?_;have k3:=Ext.chg k1 hch2 (Nat.le_trans (Nat.le_refl _) hg1);have hb6:Bx w4 b4 68 [.bool false,.bool false]:=hb5;refine Za<|nl<|?_;cases hF;exact wp_ret<|rt rfl (.cell rfl rfl ABa rfl (Bx.cs hb6) (.tmp rfl rfl .nil)) ⟨_,rfl,(show RV (α:=(Bool×Bool)) _ (.agg [.bool false,.bool false].toArray) (false,false)from⟨_,rfl,[.bool false],[.bool false],rfl,rfl,rfl⟩),k3⟩
  ·have hF:=DF hF h5;refine wp_skip<|wp_seq<|bS hF fun y1 hB1 hF=>ct (fun L w=>∃v4:Value,L 9=v4/\PB 35 w2.heap.size w v4 y1/\L 0=.slice a1 x0.length cq1/\L 6=.pointer (some ⟨b4,0,none⟩)/\Ext w2 w) ?_ ?_
   ·refine bS hB1 fun x5 Ex5 hB1=>bS hB1 fun x6 Ex6 hB1=>bS hB1 fun x7 Ex7 hB1=>wpl [] (.pure true 0 (.pure true 1 (.pure true 2 (.pure false 3 (.pure true 4 (.pure true 5 (.pure true 6 (.pure false 7 (.eff 8 (.eff 9 (.eff 10 .fin .stop) .stop) (.eff 9 (.eff 8 (.eff 10 .fin .stop) .stop) .stop)))))))))) mixed (by kernel_rfl) (fun w9 hx6=>?_);have k14:=k1.tr hx6;refine Zn rfl<|Zn rfl<|?_;have hz:=(RV.els r0).ix Ex5;obtain⟨b7,f2,cs6,e2,i5,i6,q6,hc5⟩:=hz;cases e2;obtain⟨_,_,rfl,rfl,rfl⟩:=q6;have hc6:=hc5.ext k14;refine Zp rfl (fun _=>Ci rfl rfl Tryz.underlying32 oG i5 i6)<|Zq rfl (fun _ hS=>vG rfl oG rfl (hc6.ext (hS.resolve_left nofun))) (Ext.refl _)<|Zn rfl<|Zn rfl<|?_;have hz:=xO r0 Ex6;obtain⟨cs7,i7,i8,q7,hc7⟩:=hz;obtain⟨_,_,rfl,rfl,rfl⟩:=q7;have hc8:=hc7.ext k14;refine Zp rfl (fun _=>Ci rfl rfl Tryz.underlying32 oG i7 i8)<|Zq rfl (fun _ hS=>vG rfl oG rfl (hc8.ext (hS.resolve_left nofun))) (Ext.refl _)<|pe rfl ?_ ?_
    ·refine Zc (xc ANA (mc rfl (mc rfl mn))) (AO5 (show RV (α:=(Int×Int)) _ (.agg [.int .i64 x5.1,.int .i64 x5.2].toArray) (x5.1,x5.2)from⟨_,rfl,[.int .i64 x5.1],[.int .i64 x5.2],rfl,rfl,rfl⟩) (show RV (α:=(Int×Int)) _ (.agg [.int .i64 x6.1,.int .i64 x6.2].toArray) (x6.1,x6.2)from⟨_,rfl,[.int .i64 x6.1],[.int .i64 x6.2],rfl,rfl,rfl⟩) Ex7) ?_;rintro _ w10⟨u2,rfl,r13,hx7⟩;have k16:=hx6.tr hx7;have hz:=id r13;obtain⟨_,rfl,_,_,rfl,rfl,rfl⟩:=hz;refine nl ⟨fun _ _=>hx7,?_⟩;refine zX rfl<|sal oG fun b8 w11 hx8 hg3 hb16=>?_;have k18:=k16.tr hx8;have k19:=hx7.tr hx8;refine nl ⟨fun _ _=>k19,?_⟩;refine zX rfl<|zo rfl rfl rfl oG hb16 rfl rfl (ble rfl) fun w12 hch4 hb18=>?_;have k21:=Ext.chg k18 hch4 (Nat.le_trans k16.size hg3);have k22:=Ext.chg k19 hch4 (Nat.le_trans hx7.size hg3);have hb20:Bx w12 b8 35 [.int .i64 x7.1,.int .i64 x7.2]:=hb18;refine nl ⟨fun _ _=>k22,?_⟩;cases hB1;refine lf<|?_;exact⟨_,rfl,⟨_,_,rfl,(Nat.le_trans k16.size hg3),hb20,[.int .i64 x7.1],[.int .i64 x7.2],rfl,rfl,rfl⟩,rfl,rfl,k21⟩
    refine pm rfl ?_ ?_
    ·refine sal oG fun b9 w13 hx9 hg4 hb21=>?_;have k25:=hx6.tr hx9;refine nl ⟨fun _ _=>hx9,?_⟩;refine zX rfl<|Zc (xc ANA (mc rfl (mc rfl mn))) (AO5 (show RV (α:=(Int×Int)) _ (.agg [.int .i64 x5.1,.int .i64 x5.2].toArray) (x5.1,x5.2)from⟨_,rfl,[.int .i64 x5.1],[.int .i64 x5.2],rfl,rfl,rfl⟩) (show RV (α:=(Int×Int)) _ (.agg [.int .i64 x6.1,.int .i64 x6.2].toArray) (x6.1,x6.2)from⟨_,rfl,[.int .i64 x6.1],[.int .i64 x6.2],rfl,rfl,rfl⟩) Ex7) ?_;rintro _ w14⟨u3,rfl,r19,hx10⟩;have k27:=k25.tr hx10;have k28:=hx9.tr hx10;have hb24:=hb21.ext hx10;have hz:=id r19;obtain⟨_,rfl,_,_,rfl,rfl,rfl⟩:=hz;refine nl ⟨fun _ _=>k28,?_⟩;refine zX rfl<|zo rfl rfl rfl oG hb24 rfl rfl (ble rfl) fun w15 hch5 hb25=>?_;have k30:=Ext.chg k27 hch5 (Nat.le_trans hx6.size hg4);have k31:=Ext.chg k28 hch5 (Nat.le_trans (Nat.le_refl _) hg4);have hb27:Bx w15 b9 35 [.int .i64 x7.1,.int .i64 x7.2]:=hb25;refine nl ⟨fun _ _=>k31,?_⟩;cases hB1;refine lf<|?_;exact⟨_,rfl,⟨_,_,rfl,(Nat.le_trans hx6.size hg4),hb27,[.int .i64 x7.1],[.int .i64 x7.2],rfl,rfl,rfl⟩,rfl,rfl,k30⟩
    trivial
   rintro L w16⟨v4,l9_j1,P9_j1,l0_j1,l6_j1,K0_j1⟩;have k32:=k1.tr K0_j1;have r22:=r5.ext K0_j1;have hb28:=hb2.ext K0_j1;obtain⟨b10,cs8,rfl,hg5,hb29,q8⟩:=P9_j1;obtain⟨_,_,rfl,rfl,rfl⟩:=q8;refine wp_seq<|Zr<|Zv (DY l9_j1 AAC)<|Zv (Ap rfl wL ((Bx.cs hb29).at 0 rfl))<|Zv (DY l9_j1 zY)<|Zv (Ap rfl wL ((Bx.cs hb29).at 1 rfl))<|Zv (yY rfl rfl)<|nl<|cnd rfl (fun h6=>?_) (fun h6=>?_)
   ·have hF:=Cj hF h6;refine Zr<|Zv (AAQ (r:=[.bool false,.bool false]) ABa AJT pn rfl)<|zo l6_j1 rfl rfl ABa hb28 rfl rfl (ble rfl) fun w17 hch6 hb30=>?_;have k33:=Ext.chg k32 hch6 (Nat.le_trans (Nat.le_refl _) hg1);have hb31:Bx w17 b4 68 [.bool false,.bool false]:=hb30;refine Za<|nl<|?_;cases hF;exact wp_ret<|rt rfl (.cell l6_j1 rfl ABa rfl (Bx.cs hb31) (.tmp rfl rfl .nil)) ⟨_,rfl,(show RV (α:=(Bool×Bool)) _ (.agg [.bool false,.bool false].toArray) (false,false)from⟨_,rfl,[.bool false],[.bool false],rfl,rfl,rfl⟩),k33⟩
   ·have hF:=DF hF h6;refine wp_skip<|Zr<|Zm<|bS hF fun x8 Ex8 hF=>Zc (xc AJW (mc l0_j1 mn)) (c96 r22 Ex8) ?_;rintro _ w18⟨u4,rfl,r23,hx11⟩;have k34:=k32.tr hx11;have hb32:=hb28.ext hx11;have hb33:=hb29.ext hx11;have r24:=r22.ext hx11;have hz:=AG9 r23;obtain⟨a2,rfl⟩:=hz;refine Za<|nl<|Zr<|Zm<|Zv (AAQ (r:=[.int .i64 1,.int .i64 0]) oG AHL (pc rfl pn) rfl)<|bS hF fun x9 Ex9 hF=>?_;have hz:=AFL r23 Ex9;obtain⟨b11,cs9,e3,q9,hc9⟩:=hz;cases e3;obtain⟨a3,cq2,rfl,p1,q10,e4⟩:=q9;have r25:=RV.of1 p1 q10 e4;refine bS hF fun x10 Ex10 hF=>Zc (xc AHO (mc rfl (mc rfl mn))) (c97 (x0:=(⟨x9.v⟩:(Uno (List ((Int×Int)×Int))))) hc9 r25.rep1 (show RV (α:=(Int×Int)) _ (.agg [.int .i64 1,.int .i64 0].toArray) (1,0)from⟨_,rfl,[.int .i64 1],[.int .i64 0],rfl,rfl,rfl⟩) Ex10) ?_;rintro _ w19⟨u5,u6,rfl,r26,r27,hx12⟩;have k36:=k34.tr hx12;have hb34:=hb32.ext hx12;have hb35:=hb33.ext hx12;have r28:=r24.ext hx12;have r29:=r25.ext hx12;have hc10:=hc9.ext hx12;have hz:=RV.sl r26.rv;obtain⟨a4,cq3,rfl,-,-,-⟩:=hz;have hz:=RV.sl r27.rv;obtain⟨a5,cq4,rfl,-,-,-⟩:=hz;refine Zm<|Zv (zW rfl rfl)<|Zv (zW rfl rfl)<|Za<|Za<|nl<|Zr<|Zm<|Zv (bF rfl Tryz.underlying28)<|Za<|nl<|wp_seq<|wpl [] (.pure true 0 (.pure true 1 (.pure false 2 (.pure true 3 (.pure false 4 (.pure true 5 (.pure false 6 (.pure true 10 (.eff 7 (.eff 8 (.eff 9 (.eff 11 (.pure true 12 (.pure true 13 (.pure true 14 (.pure true 15 (.pure true 16 .fin))))) .stop) .stop) .stop) .stop))))))))) mixed (by kernel_rfl) (fun w20 hx13=>?_);have k38:=k36.tr hx13;have hb36:=hb34.ext hx13;have hb37:=hb35.ext hx13;have r30:=r28.ext hx13;have r31:=r29.ext hx13;have hc11:=hc10.ext hx13;refine Zn rfl<|Zn rfl<|Zq rfl (fun _ hS=>bF l0_j1 Tryz.underlying32) (Ext.refl _)<|Zn rfl<|Zq rfl (fun _ hS=>bF l0_j1 Tryz.underlying32) (Ext.refl _)<|?_;have r32:=RV.full r30;refine Zp rfl (fun _=>ARI l0_j1 (RV.cap r30).2.1 Tryz.underlying32 oG rfl rfl)<|Zq rfl (fun _ hS=>vG l9_j1 oG rfl (Bx.cs (hb37.ext (hS.resolve_left nofun)))) (Ext.refl _)<|Zp rfl (fun _=>AAQ (r:=[.int .i64 1,.int .i64 0]) oG AHL (pc rfl pn) rfl)<|zX rfl<|ABQ (cs:=[.int .i64 y1.1,.int .i64 y1.2]) Tryz.underlying32 oG rfl (pc rfl pn) rfl rfl rfl rfl rfl fun b12 w21 hx14 hg6 hb38=>?_;have k41:=k38.tr hx14;have hb39:=hb36.ext hx14;have hb40:=hb37.ext hx14;have r33:=r31.ext hx14;have hc12:=hc11.ext hx14;have r34:=r32.ext hx14;have o1:Row (α:=(Int×Int)) 35 w20.heap.size w21 (.slice (some ⟨b12,0,none⟩) 1 1) [(y1.1,y1.2)]:=Row.lit hg6 hb38 rfl (ble rfl);refine nl ⟨fun _ _=>hx14,?_⟩;refine bS hF fun x11 Ex11 hF=>zX rfl<|ARJ (l:=x0) (k:=([(y1.1,y1.2)]:List (Int×Int))) rfl rfl Tryz.underlying32 oG rfl rfl r34 o1.rv rfl Ex11 fun v5 w22 o2 hx15=>?_;have k44:=k41.tr hx15;have k47:=hx14.tr hx15;have hb41:=hb39.ext hx15;have hb42:=hb40.ext hx15;have r36:=r33.ext hx15;have hc13:=hc12.ext hx15;have hz:=RV.sl o2.rv;obtain⟨a6,cq5,rfl,-,-,-⟩:=hz;refine nl ⟨fun _ _=>k47,?_⟩;refine bS hF fun x12 Ex12 hF=>zX rfl<|Zc (xc AJW (mc rfl mn)) (c96 o2.rv Ex12) ?_;rintro _ w23⟨u7,rfl,r37,hx16⟩;have k48:=k44.tr hx16;have k51:=k47.tr hx16;have hb43:=hb41.ext hx16;have hb44:=hb42.ext hx16;have r38:=r36.ext hx16;have hc14:=hc13.ext hx16;have hz:=AG9 r37;obtain⟨a7,rfl⟩:=hz;refine nl ⟨fun _ _=>k51,?_⟩;refine bS hF fun x13 Ex13 hF=>?_;have hz:=AFL r37 Ex13;obtain⟨b13,cs10,e5,q11,hc15⟩:=hz;cases e5;obtain⟨a8,cq6,rfl,p2,q12,e6⟩:=q11;have r39:=RV.of1 p2 q12 e6;refine bS hF fun x14 Ex14 hF=>zX rfl<|Zc (xc AHO (mc rfl (mc rfl mn))) (c97 (x0:=(⟨x13.v⟩:(Uno (List ((Int×Int)×Int))))) hc15 r39.rep1 (show RV (α:=(Int×Int)) _ (.agg [.int .i64 1,.int .i64 0].toArray) (1,0)from⟨_,rfl,[.int .i64 1],[.int .i64 0],rfl,rfl,rfl⟩) Ex14) ?_;rintro _ w24⟨u8,u9,rfl,r40,r41,hx17⟩;have k53:=k48.tr hx17;have k56:=k51.tr hx17;have hb45:=hb43.ext hx17;have hb46:=hb44.ext hx17;have r42:=r38.ext hx17;have hc16:=hc14.ext hx17;have hz:=RV.sl r40.rv;obtain⟨a9,cq7,rfl,-,-,-⟩:=hz;have hz:=RV.sl r41.rv;obtain⟨a10,cq8,rfl,-,-,-⟩:=hz;refine nl ⟨fun _ _=>k56,?_⟩;refine Zn rfl<|Zp rfl (fun _=>zW rfl rfl)<|Zp rfl (fun _=>zW rfl rfl)<|Zp rfl (fun _=>xas)<|Zp rfl (fun _=>xas)<|Zr<|Zm<|Zv (vG l9_j1 oG rfl (Bx.cs hb46))<|bS hF fun x15 Ex15 hF=>Zc (xc AHO (mc rfl (mc rfl mn))) (c97 (x0:=(⟨x9.v⟩:(Uno (List ((Int×Int)×Int))))) hc16 r42.rep1 (show RV (α:=(Int×Int)) _ (.agg [.int .i64 y1.1,.int .i64 y1.2].toArray) (y1.1,y1.2)from⟨_,rfl,[.int .i64 y1.1],[.int .i64 y1.2],rfl,rfl,rfl⟩) Ex15) ?_;rintro _ w25⟨u10,u11,rfl,r43,r44,hx18⟩;have k58:=k53.tr hx18;have hb47:=hb45.ext hx18;have hz:=RV.sl r43.rv;obtain⟨a11,cq9,rfl,-,-,-⟩:=hz;have hz:=RV.sl r44.rv;obtain⟨a12,cq10,rfl,-,-,-⟩:=hz;refine Zm<|Zv (zW rfl rfl)<|Zv (zW rfl rfl)<|Za<|Za<|nl<|Zr<|Zm<|Zv (bF rfl Tryz.underlying28)<|Zm<|Zv (AAF rfl rfl)<|Zm<|Zv (bF rfl Tryz.underlying41)<|Zm<|Zv (bF rfl Tryz.underlying28)<|Zv (Oi rfl rfl)<|Zm<|Zg rfl rfl (gK rfl) (fun hc=>Ko rfl)<|Zg rfl rfl (gK rfl) (fun hc=>bF (mv hc rfl) Tryz.underlying28)<|Zg rfl rfl (gK rfl) (fun hc=>Ko rfl)<|Zg rfl rfl (gK rfl) (fun hc=>yY (mv hc rfl) (mv hc rfl))<|Zv (xpo rfl rfl rfl)<|Zv (AAQ (r:=[.bool (decide ((x14.1.length:Int)=(x10.1.length:Int))),.bool ((decide ((x15.2.length:Int)<(x15.1.length:Int)))||(decide ((x10.1.length:Int)<(x15.1.length:Int))))]) ABa AJT (pc rfl (pc rfl pn)) rfl)<|zo l6_j1 rfl rfl ABa hb47 rfl rfl (ble rfl) fun w26 hch7 hb48=>?_;have k64:=Ext.chg k58 hch7 (Nat.le_trans (Nat.le_refl _) hg1);have hb49:Bx w26 b4 68 [.bool (decide ((x14.1.length:Int)=(x10.1.length:Int))),.bool ((decide ((x15.2.length:Int)<(x15.1.length:Int)))||(decide ((x10.1.length:Int)<(x15.1.length:Int))))]:=hb48;refine Za<|nl<|?_;cases hF;exact wp_ret<|rt rfl (.cell l6_j1 rfl ABa rfl (Bx.cs hb49) (.tmp rfl rfl .nil)) ⟨_,rfl,(show RV (α:=(Bool×Bool)) _ (.agg [.bool (decide ((x14.1.length:Int)=(x10.1.length:Int))),.bool ((decide ((x15.2.length:Int)<(x15.1.length:Int)))||(decide ((x10.1.length:Int)<(x15.1.length:Int))))].toArray) (decide ((x14.1.length:Int)=(x10.1.length:Int)),(decide ((x15.2.length:Int)<(x15.1.length:Int)))||(decide ((x10.1.length:Int)<(x15.1.length:Int))))from⟨_,rfl,[.bool (decide ((x14.1.length:Int)=(x10.1.length:Int)))],[.bool ((decide ((x15.2.length:Int)<(x15.1.length:Int)))||(decide ((x10.1.length:Int)<(x15.1.length:Int))))],rfl,rfl,rfl⟩),k64⟩
theorem AO6{w0:World}{b0:Nat}{cs0:List Value}{x0:(ZTc×(List (Int×Bool))×(Ar 16 (Ar 16 Int))×Opq×Opq)}(h0:Cs w0 b0 0 cs0)(q0:Enc.rep (fun _=>True) w0 cs0 x0){v1:Value}{x1:(Int×Int)}(r1:RV w0 v1 x1){x2:Int}{r:(Int×Int)}(hF:ACF x0 x1 x2=some r):
  Calls Tryz.prog 272 [.pointer (some ⟨b0,0,none⟩),v1,.int .i64 x2].toArray w0 (aZ fun v w'=>∃u0:Value,v=u0/\RV w' u0 r/\Ext w0 w'):=by
 unfold ACF at hF;obtain⟨_,_,rfl,⟨_,_,rfl,⟨a1,cq1,rfl,p1,q4,e1⟩,_,_,rfl,rfl,_,_,rfl,rfl,rfl⟩,_,_,rfl,⟨a2,cq2,rfl,p2,q5,e2⟩,_,_,rfl,rfl,_,_,rfl,⟨a3,rfl,q6⟩,a4,rfl,q7⟩:=q0;have r5:=RV.of1 p2 q5 e2;have hz:=id r1;obtain⟨_,rfl,_,_,rfl,rfl,rfl⟩:=hz;refine kR (n:=21) Tryz.func272 rfl rfl rfl<|Zr<|sbx rfl rfl fun b4 w1 hx1 hg1 hb1=>?_;have h4:=h0.ext hx1;refine sal ADa fun b5 w2 hx2 hg2 hb2=>?_;have k1:=hx1.tr hx2;have hb3:=hb1.ext hx2;have h5:=h4.ext hx2;refine nl<|wp_seq<|wpl [14] (.pure true 0 (.pure false 1 (.pure true 2 (.pure true 3 (.pure true 4 (.pure false 5 (.pure true 6 (.pure true 7 (.pure true 8 (.pure false 9 (.pure true 10 (.pure true 11 (.pure true 12 (.pure true 13 (.eff 14 .fin .stop))))))))))))))) mixed (by kernel_rfl) (fun w3 hx3=>?_);have k2:=k1.tr hx3;have hb4:=hb3.ext hx3;have hb5:=hb2.ext hx3;have h6:=h5.ext hx3;refine Zp rfl (fun _=>DY rfl AIw)<|Zq rfl (fun _ hS=>Ap rfl CG ((Bx.cs (hb4.ext (hS.resolve_left nofun))).at 0 rfl)) (Ext.refl _)<|Zn rfl<|Zp rfl (fun _=>ABZ rfl)<|Zp rfl (fun _=>DY rfl AEZ)<|Zq rfl (fun _ hS=>Ap rfl AJS ((h6.ext (hS.resolve_left nofun)).at 4 rfl)) (Ext.refl _)<|Zn rfl<|bS hF fun x4 Ex4 hF=>?_;have hz:=(RV.els r5).ix Ex4;obtain⟨b6,f1,cs4,e3,i1,i2,q8,hc1⟩:=hz;cases e3;obtain⟨_,_,rfl,rfl,rfl⟩:=q8;have hc2:=hc1.ext k2;refine Zp rfl (fun _=>Ci rfl rfl Tryz.underlying51 AL4 i1 i2)<|Zp rfl (fun _=>DY rfl AHM)<|Zq rfl (fun _ hS=>Ap rfl CG ((hc2.ext (hS.resolve_left nofun)).at 0 rfl)) (Ext.refl _)<|bS hF fun x5 Ex5 hF=>Zp rfl (fun _=>AMA rfl rfl Ex5)<|Zp rfl (fun _=>ARR rfl rfl)<|Zn rfl<|Zp rfl (fun _=>AAQ (r:=[.int .i64 (bor .i64 x1.1 x5),.int .i64 x2]) ADa AM7 (pc rfl (pc rfl pn)) rfl)<|zX rfl<|zo rfl rfl rfl ADa hb5 rfl rfl (ble rfl) fun w4 hch1 hb6=>?_;have k4:=Ext.chg k2 hch1 (Nat.le_trans hx1.size hg2);have hb7:Bx w4 b5 326 [.int .i64 (bor .i64 x1.1 x5),.int .i64 x2]:=hb6;refine nl ⟨fun h=>(h (by decide)).elim,?_⟩;cases hF;exact wp_ret<|rt rfl (.cell rfl rfl ADa rfl (Bx.cs hb7) .nil) ⟨_,rfl,(show RV (α:=(Int×Int)) _ (.agg [.int .i64 (bor .i64 x1.1 x5),.int .i64 x2].toArray) (bor .i64 x1.1 x5,x2)from⟨_,rfl,[.int .i64 (bor .i64 x1.1 x5)],[.int .i64 x2],rfl,rfl,rfl⟩),k4⟩
theorem ARs{w0:World}{x0:Int}{b1:Nat}{cs1:List Value}{x1:(Int×Int)}(h1:Cs w0 b1 0 cs1)(q1:Enc.rep (fun _=>True) w0 cs1 x1){b2:Nat}{cs2:List Value}{x2:(Ob (ZTc×(List (Int×Bool))×(Ar 16 (Ar 16 Int))×Opq×Opq))}(h2:Cs w0 b2 0 cs2)(q2:Enc.rep (fun _=>True) w0 cs2 x2){r:Bool}(hF:AA4 x0 x1 x2=some r):
  Calls Tryz.prog 309 [.int .i64 x0,.pointer (some ⟨b1,0,none⟩),.pointer (some ⟨b2,0,none⟩)].toArray w0 (aZ fun v w'=>v=.bool r/\Ext w0 w'):=by
 unfold AA4 at hF;obtain⟨_,_,rfl,rfl,rfl⟩:=q1;have q4:=q2;have hz:=AQH q4;obtain⟨a1,rfl,r4⟩:=hz;refine kR (n:=18) Tryz.func309 rfl rfl rfl<|Zr<|Za<|nl<|wp_seq<|wpl [] (.pure true 0 (.pure false 1 (.pure false 2 (.pure true 3 (.pure true 4 (.pure false 5 (.pure true 6 (.pure true 7 (.pure true 8 (.pure false 9 (.pure true 10 (.pure true 11 (.pure true 12 (.pure true 13 .fin)))))))))))))) mixed (by kernel_rfl) (fun w1 hx1=>?_);have h4:=h1.ext hx1;have h5:=h2.ext hx1;refine Zp rfl (fun _=>DY rfl AIw)<|Zq rfl (fun _ hS=>Ap rfl CG ((h4.ext (hS.resolve_left nofun)).at 0 rfl)) (Ext.refl _)<|Zq rfl (fun _ hS=>Ap rfl ACx ((h5.ext (hS.resolve_left nofun)).at 0 rfl)) (Ext.refl _)<|bS hF fun x4 Ex4 hF=>?_;have hz:=AFL r4 Ex4;obtain⟨b4,cs4,e1,q5,hc1⟩:=hz;cases e1;obtain⟨_,_,rfl,⟨_,_,rfl,⟨a2,cq1,rfl,p1,q6,e2⟩,_,_,rfl,rfl,_,_,rfl,rfl,rfl⟩,_,_,rfl,⟨a3,cq2,rfl,p2,q7,e3⟩,_,_,rfl,rfl,_,_,rfl,⟨a4,rfl,q8⟩,a5,rfl,q9⟩:=q5;have r7:=RV.of1 p2 q7 e3;have hc2:=hc1.ext hx1;refine Zp rfl (fun _=>ABZ rfl)<|Zp rfl (fun _=>DY rfl AEZ)<|Zq rfl (fun _ hS=>Ap rfl AJS ((hc2.ext (hS.resolve_left nofun)).at 4 rfl)) (Ext.refl _)<|Zn rfl<|bS hF fun x5 Ex5 hF=>?_;have hz:=(RV.els r7).ix Ex5;obtain⟨b5,f1,cs5,e4,i1,i2,q10,hc3⟩:=hz;cases e4;obtain⟨_,_,rfl,rfl,rfl⟩:=q10;have hc4:=hc3.ext hx1;refine Zp rfl (fun _=>Ci rfl rfl Tryz.underlying51 AL4 i1 i2)<|Zp rfl (fun _=>DY rfl AHM)<|Zq rfl (fun _ hS=>Ap rfl CG ((hc4.ext (hS.resolve_left nofun)).at 0 rfl)) (Ext.refl _)<|bS hF fun x6 Ex6 hF=>Zp rfl (fun _=>AHU rfl rfl Ex6)<|Zp rfl (fun _=>AOT rfl rfl)<|Zp rfl (fun _=>AAF rfl rfl)<|Zp rfl (fun _=>xas)<|?_;cases hF;exact wp_ret<|Zw rfl rfl rfl ⟨rfl,hx1⟩
abbrev AO7:=(Int×Int)×Int
abbrev AO8:=(AO7×AO7)×Bool
abbrev AKS:=List AO8×Int×(Int×Int)
abbrev AKT:=Int×Bool
abbrev AHF:=Ar 16 (Ar 16 Int)
abbrev yQ:=AKS×List AKT×AHF×Opq×Opq
abbrev xA:=Int×Int
def AH6(a1:Option Addr)(c1:Nat)(c:AKS)(sv:Value)(X:AHF)(ma mu:Nat):List Value:=
 [.slice a1 c.1.length c1,.int .i64 c.2.1,.int .i64 c.2.2.1,.int .i64 c.2.2.2,sv]++(X.l.flatMap Flat.enc++[.map (some ma),.map (some mu)])
def TbP(N:Nat)(w:World)(v:Value)(x:yQ)(b ma mu:Nat):Prop:=
 v=.pointer (some ⟨b,0,none⟩)/\RVo (fun q=>q≠ma/\q≠mu) w v (⟨some x⟩:Ob yQ)/\w.cell? ⟨b,261,none⟩=some (.map (some ma))/\w.cell? ⟨b,262,none⟩=some (.map (some mu))/\
 Mp (κ:=xA) (ν:=Int) w ma []/\Mp (κ:=xA) (ν:=Int) w mu []/\ma≠mu/\N<=ma/\N<=mu
def TbN(N:Nat)(w:World)(v:Value)(x:Ob yQ):Prop:=∃y b ma mu,x=⟨some y⟩/\TbP N w v y b ma mu
theorem AFC{w w':World}{b o:Nat}{c:Value}(h:w.cell? ⟨b,o,none⟩=some c)(k:Ext w w'):w'.cell? ⟨b,o,none⟩=some c:=by
 have hlt:=World.block_lt_of_cell? w _ h;exact(World.cell?_of_block (a:=⟨b,o,none⟩) (k.block b hlt)).trans h
theorem TbN.ext{N:Nat}{w w':World}{v:Value}{x:Ob yQ}(h:TbN N w v x)(k:Ext w w'):TbN N w' v x:=by
 obtain⟨y,b,ma,mu,rfl,h1,h2,h3,h4,h5,h6,h7⟩:=h;exact⟨y,b,ma,mu,rfl,h1,h2.ext k,AFC h3 k,AFC h4 k,h5.ext k,h6.ext k,h7⟩
theorem TbN.mono{N M:Nat}{w:World}{v:Value}{x:Ob yQ}(h:TbN N w v x)(hM:M<=N):TbN M w v x:=by
 obtain⟨y,b,ma,mu,rfl,h1,h2,h3,h4,h5,h6,h7,h8,h9⟩:=h;exact⟨y,b,ma,mu,rfl,h1,h2,h3,h4,h5,h6,h7,Nat.le_trans hM h8,Nat.le_trans hM h9⟩
theorem TbN.rv{N:Nat}{w:World}{v:Value}{x:Ob yQ}(h:TbN N w v x):RV w v x:=by
 obtain⟨y,b,ma,mu,rfl,h1,h2,h3⟩:=h;exact h2.rv
section
structure NT(w0 w:World)(base b4:Nat)(a1:Option Addr)(c1:Nat)(c:AKS)(sv:Value)(st:List AKT)(X:AHF)(ma mu:Nat):Prop where
 bx:Bx w b4 199 (AH6 a1 c1 c sv X ma mu)
 row:Row 56 base w sv st
 ma:Mp (κ:=xA) (ν:=Int) w ma []
 mu:Mp (κ:=xA) (ν:=Int) w mu []
 ext:Ext w0 w
 size:base<=w.heap.size
section
variable {w0 w w1 w2:World}{base b4:Nat}{a1:Option Addr}{c1:Nat}{c:AKS}{sv sv':Value}{st st':List AKT}{X:AHF}{ma mu:Nat}
theorem NT.go(h:NT w0 w base b4 a1 c1 c sv st X ma mu)(k:Ext w w1):NT w0 w1 base b4 a1 c1 c sv st X ma mu:=
 ⟨h.bx.ext k,h.row.ext k,h.ma.ext k,h.mu.ext k,h.ext.tr k,Nat.le_trans h.size k.size⟩
theorem NT.steps(h:NT w0 w base b4 a1 c1 c sv st X ma mu)(hw0:w0.heap.size<=base)(h0:w0.heap.size<=b4)(h4:b4<base)(ha:ma<base)(hu:mu<base)(o:Row 56 base w1 sv' st')(hB:Below base w w1)(hc:Chg b4 w1 w2)(hb:Bx w2 b4 199 (Md.wO (AH6 a1 c1 c sv X ma mu) 4 [sv'])):
  NT w0 w2 base b4 a1 c1 c sv' st' X ma mu:=by
 have hx:Bx w1 b4 199 (AH6 a1 c1 c sv X ma mu):=h.bx.below hB h4;exact⟨hb,o.chg hc h4,(h.ma.below hB ha).chgb hc hx,(h.mu.below hB hu).chgb hc hx,Ext.chg (h.ext.trans (hB.mono hw0)) hc h0,by rw[hc.size];exact Nat.le_trans h.size hB.size⟩
end
end
end Go.Proofs.YtfmelbioccbdoaaGreat
end
section
namespace Go.Proofs.YtfmelbioccbdoaaGreat
open Go Go.Md Go.RowKit
def xN(F:Nat)(x0:(List Int))(x1:Int):Nat->Int->Option (Sum Int (Unit))
 |0,_=>none
 |m+1,y1=>
  if(decide (y1<(x0.length:Int)))=true then
   (ix x0 y1)>>=fun x3=>
   if(decide (x1=x3))=true then
    some (.inl y1)
   else
    xN F x0 x1 m (AX (y1+1))
  else
   some (.inr ())
def slices_Index_int(F:Nat)(x0:(List Int))(x1:Int):Option Int:=
 ((xN F x0 x1 F 0)>>=fun o=>match o with
  |.inl r=>some r
  |.inr ()=>
   some (-1))
def slices_Contains_int(F:Nat)(x0:(List Int))(x1:Int):Option Bool:=
 (slices_Index_int F x0 x1)>>=fun x3=>
 some (decide (0<=x3))
end Go.Proofs.YtfmelbioccbdoaaGreat
end
section
namespace Go.Proofs.YtfmelbioccbdoaaGreat
open Go Go.Md Go.RowKit
attribute [local irreducible] Go.wpList Go.Code.wp Go.Calls Go.Md.vI Go.Md.Mt Go.Md.wR Go.Md.iL Go.Code.wpIn
theorem ARt{w0:World}{v0:Value}{x0:(List Int)}(r0:RV w0 v0 x0){x1:Int}{F:Nat}{r:Int}(hF:slices_Index_int F x0 x1=some r):
  Calls Tryz.prog 250 [v0,.int .i64 x1].toArray w0 (aZ fun v w'=>v=.int .i64 r/\Ext w0 w'):=by
 unfold slices_Index_int at hF;have hz:=r0.sl;obtain⟨a1,cq1,rfl,-,-,-⟩:=hz;refine kR (n:=19) Tryz.func250 rfl rfl rfl<|Zr<|Za<|nl<|wp_seq<|Zr<|Zm<|Zv (bF rfl Tryz.underlying41)<|Zm<|nl<|bS hF fun o1 hB1 hF=>ct (fun L w=>o1=.inr ()/\Ext w0 w) ?_ ?_
 ·refine wp_block<|lp (I:=fun m L w=>∃y1:Int,xN F x0 x1 m y1=some o1/\L 8=.int .i64 y1/\L 0=.slice a1 x0.length cq1/\L 1=.int .i64 x1/\L 7=.int .i64 (x0.length:Int)/\Ext w0 w) F ⟨_,hB1,rfl,rfl,rfl,rfl,(Ext.refl _)⟩ ?_;rintro m L w1⟨y1,hB1,l8_i1,l0_i1,l1_i1,l7_i1,K0_i1⟩;rcases m with _|m
  ·rw[xN]at hB1;cases hB1
  rw[xN]at hB1;refine Zr<|Zv (Oi l8_i1 l7_i1)<|nl<|wp_seq<|cnd rfl (fun h3=>?_) (fun h3=>?_)
  ·have hB1:=Cj hB1 h3;refine wp_skip<|wp_seq<|wp_block<|Zr<|Zm<|Za<|nl<|Zr<|Zm<|Zm<|Zm<|bS hB1 fun x3 Ex3 hB1=>?_;have hz:=(RV.els r0).ix Ex3;obtain⟨b3,f1,cs3,e1,i2,i3,q3,hc1⟩:=hz;cases e1;obtain rfl:=q3;have hc2:=hc1.ext K0_i1;refine Zv (Ci l0_i1 l8_i1 Tryz.underlying41 CG i2 i3)<|Zv (Ap rfl CG (hc2.at 0 rfl))<|Zv (AAF l1_i1 rfl)<|nl<|cnd rfl (fun h4=>?_) (fun h4=>?_)
   ·have hB1:=Cj hB1 h4;refine Zr<|Zm<|Za<|nl<|?_;cases hB1;have hF:=(show some _=some _ from hF);cases hF;exact wp_ret<|rt rfl (.tmp l8_i1 rfl .nil) ⟨rfl,K0_i1⟩
   ·have hB1:=DF hB1 h4;refine wp_skip<|rg<|Zv (MH l8_i1 rfl)<|Zm<|nl<|lq m (Nat.lt_succ_self _)<|?_;exact⟨_,hB1,rfl,l0_i1,l1_i1,l7_i1,K0_i1⟩
  ·have hB1:=DF hB1 h3;refine wp_exit<|?_;cases hB1;refine lf<|?_;exact⟨rfl,K0_i1⟩
 rintro L w2⟨rfl,K0_j1⟩;refine Zr<|Za<|nl<|?_;cases hF;exact wp_ret<|Zw rfl rfl rfl ⟨rfl,K0_j1⟩
theorem AO9{w0:World}{v0:Value}{x0:(List Int)}(r0:RV w0 v0 x0){x1:Int}{F:Nat}{r:Bool}(hF:slices_Contains_int F x0 x1=some r):
  Calls Tryz.prog 144 [v0,.int .i64 x1].toArray w0 (aZ fun v w'=>v=.bool r/\Ext w0 w'):=by
 unfold slices_Contains_int at hF;have hz:=r0.sl;obtain⟨a1,cq1,rfl,-,-,-⟩:=hz;refine kR (n:=9) Tryz.func144 rfl rfl rfl<|Zr<|Za<|nl<|Zr<|Zm<|Zm<|bS hF fun x3 Ex3 hF=>Zc (xc APx (mc rfl (mc rfl mn))) (ARt r0 Ex3) ?_;rintro _ w1⟨rfl,hx1⟩;refine Zv (AC6 rfl rfl)<|Za<|nl<|?_;cases hF;exact wp_ret<|Zw rfl rfl rfl ⟨rfl,hx1⟩
end Go.Proofs.YtfmelbioccbdoaaGreat
end
section
namespace Go.Proofs.YtfmelbioccbdoaaGreat
open Go Go.Md Go.RowKit
attribute [local irreducible] Go.wpList Go.Code.wp Go.Calls Go.Md.vI Go.Md.Mt Go.Md.wR Go.Md.iL Go.Code.wpIn Go.wpListIn
section
structure Tb(N:Nat)(w:World)(b ma mu:Nat)(x:yQ):Prop where
 size:N<=w.heap.size
 rv:RVo (fun q=>q<N/\q≠ma/\q≠mu) w (.pointer (some ⟨b,0,none⟩)) (⟨some x⟩:Ob yQ)
 ca:w.cell? ⟨b,261,none⟩=some (.map (some ma))
 cu:w.cell? ⟨b,262,none⟩=some (.map (some mu))
 la:ma<N
 lu:mu<N
 ne:ma≠mu
section
variable {N:Nat}{w w1:World}{b ma mu c d:Nat}{x:yQ}
theorem Tb.lb(h:Tb N w b ma mu x):b<N/\b≠ma/\b≠mu:=by
 have hz:=ACb h.rv rfl;obtain⟨b',ds,e,h1,_,_⟩:=hz;cases e;exact h1
theorem Tb.belx(h:Tb N w b ma mu x)(k:BelX N c d w w1)(hc:c=ma\/c=mu\/N<=c)(hd:d=ma\/d=mu\/N<=d):Tb N w1 b ma mu x:=by
 have hb:=h.lb;have e:w1.heap[b]?=w.heap[b]?:=k.block b hb.1 (by omega) (by omega);exact⟨Nat.le_trans h.size k.size,h.rv.keep (fun q hq _=>k.block q hq.1 (by omega) (by omega)) k.size,(World.cell?_of_block (a:=⟨b,261,none⟩) e).trans h.ca,(World.cell?_of_block (a:=⟨b,262,none⟩) e).trans h.cu,h.la,h.lu,h.ne⟩
theorem Tb.belp{ok:Nat->Prop}{M:Nat}(h:Tb N w b ma mu x)(k:BelP ok M w w1)(hM:N<=M)(hk:∀q,q<N->q≠ma->q≠mu->ok q):Tb N w1 b ma mu x:=by
 have hb:=h.lb;have e:w1.heap[b]?=w.heap[b]?:=k.block b (by omega) (hk b hb.1 hb.2.1 hb.2.2);exact⟨Nat.le_trans h.size k.size,h.rv.keep (fun q hq _=>k.block q (by omega) (hk q hq.1 hq.2.1 hq.2.2)) k.size,(World.cell?_of_block (a:=⟨b,261,none⟩) e).trans h.ca,(World.cell?_of_block (a:=⟨b,262,none⟩) e).trans h.cu,h.la,h.lu,h.ne⟩
theorem Tb.ext(h:Tb N w b ma mu x)(k:Ext w w1):Tb N w1 b ma mu x:=h.belx (c:=ma) (d:=ma) (BelX.of k h.size) (.inl rfl) (.inl rfl)
theorem Tb.mono{M:Nat}(h:Tb N w b ma mu x)(hM:N<=M)(hs:M<=w.heap.size):Tb M w b ma mu x:=
 ⟨hs,h.rv.mono fun q _ hq=>⟨by omega,hq.2⟩,h.ca,h.cu,Nat.lt_of_lt_of_le h.la hM,Nat.lt_of_lt_of_le h.lu hM,h.ne⟩
theorem Tb.cs(h:Tb N w b ma mu x):∃cs,Cs w b 0 cs/\Enc.rep (fun _=>True) w cs x:=by
 have hz:=ACb h.rv rfl;obtain⟨b',ds,e,_,h1,h2⟩:=hz;cases e;exact⟨ds,h2,Enc.mono (fun _ _ _=>trivial) h1⟩
theorem Tb.steps(h:Tb N w b ma mu x):∃a k,w.cell? ⟨b,4,none⟩=some (.slice a x.2.1.length k)/\RVo (fun q=>q<N/\q≠ma/\q≠mu) w (.slice a x.2.1.length k) x.2.1:=by
 have hz:=ACb h.rv rfl;obtain⟨b',ds,e,_,h1,h2⟩:=hz;cases e;obtain⟨_,_,rfl,⟨_,_,rfl,⟨a1,c1,rfl,p1,q3,e1⟩,_,_,rfl,rfl,_,_,rfl,rfl,rfl⟩,_,_,rfl,⟨a2,c2,rfl,p2,q4,e2⟩,_⟩:=h1;exact⟨a2,c2,h2.at 4 rfl,RVo.sl.2 ⟨a2,c2,rfl,p2,q4,e2⟩⟩
theorem Tb.pieces(h:Tb N w b ma mu x):∃a k,w.cell? ⟨b,0,none⟩=some (.slice a x.1.1.length k)/\RVo (fun q=>q<N/\q≠ma/\q≠mu) w (.slice a x.1.1.length k) x.1.1:=by
 have hz:=ACb h.rv rfl;obtain⟨b',ds,e,_,h1,h2⟩:=hz;cases e;obtain⟨_,_,rfl,⟨_,_,rfl,⟨a1,c1,rfl,p1,q3,e1⟩,_,_,rfl,rfl,_,_,rfl,rfl,rfl⟩,_,_,rfl,⟨a2,c2,rfl,p2,q4,e2⟩,_⟩:=h1;exact⟨a1,c1,h2.at 0 rfl,RVo.sl.2 ⟨a1,c1,rfl,p1,q3,e1⟩⟩
theorem Tb.fits(h:Tb N w b ma mu x):Cs w b 5 (x.2.2.1.l.flatMap Flat.enc):=by
 have hz:=ACb h.rv rfl;obtain⟨b',ds,e,_,h1,h2⟩:=hz;cases e;obtain⟨_,_,rfl,⟨_,_,rfl,⟨a1,c1,rfl,p1,q3,e1⟩,_,_,rfl,rfl,_,_,rfl,rfl,rfl⟩,_,_,rfl,⟨a2,c2,rfl,p2,q4,e2⟩,_,_,rfl,rfl,_⟩:=h1;exact(h2.snd.snd).fst
theorem TbP.tb{M:Nat}{v:Value}(h:TbP M w v x b ma mu):v=.pointer (some ⟨b,0,none⟩)/\Tb w.heap.size w b ma mu x/\Mp (κ:=xA) (ν:=Int) w ma []/\Mp (κ:=xA) (ν:=Int) w mu []:=by
 obtain⟨rfl,h1,h2,h3,h4,h5,h6,_⟩:=h;refine⟨rfl,⟨Nat.le_refl _,?_,h2,h3,h4.lt,h5.lt,h6⟩,h4,h5⟩;obtain⟨cs,e,h7⟩:=h1;refine⟨cs,e,?_⟩;obtain⟨a,e1,b',ds,e2,h8,h9,h10,h11⟩:=h7;exact⟨a,e1,b',ds,e2,⟨h9,h8⟩,h9,Enc.mono (fun q hq hok=>⟨hq,hok⟩) h10,h11⟩
end
def ANa(x:yQ)(s:xA)(k:Int):Option Bool:=
 (AA4 k s ⟨some x⟩)>>=fun f=>
 if f=true then
  (if decide (s.2=-1)=true then some true else(ix x.2.2.1.l s.2)>>=fun r=>(ix r.l k)>>=fun y=>some (decide (y=1)))
 else some false
def ABh(x:yQ)(s:xA):Nat->Nat->Option (List xA)
 |0,_=>some []
 |n+1,k=>(ANa x s k)>>=fun f=>(ABh x s n (k+1))>>=fun t=>if f=true then(ACF x s k)>>=fun u=>some (u::t)else some t
def ADG(x:yQ)(s:xA):Option (List xA):=
 if(!decide (s.2=-1))=true then(ix x.2.2.1.l s.2)>>=fun r=>if decide (r=Ar.fill 16 0)=true then some []else ABh x s x.2.1.length 0
 else ABh x s x.2.1.length 0
set_option maxHeartbeats 8000000 in
theorem APA{m:Nat}{w:World}{bs bt bf b ma mu N:Nat}{ok:Nat->Prop}{x:yQ}{s:xA}{l:List xA}(hs:Bx w bs 326 (Flat.enc s))(ht:Bx w bt 177 [.pointer (some ⟨b,0,none⟩)])(hf:Bx w bf 236 [.func (.func 309) #[] #[.pointer (some ⟨bs,0,none⟩),.pointer (some ⟨bt,0,none⟩)]])
  (n1:ok bs) (n2:ok bt) (n3:ok bf) (hT:Tb N w b ma mu x) (hok:∀q,q<N->q≠ma->q≠mu->ok q) (hL:ADG x s=some l):
  ABR Tryz.prog (BelP ok w.heap.size) m 310 #[.pointer (some ⟨bs,0,none⟩),.pointer (some ⟨bt,0,none⟩),.pointer (some ⟨bf,0,none⟩)] (l.map fun u=>#[fv u]) w:=by
 intro ll J Jx W kW hJ hJx hY h0;have KW:BelP ok w.heap.size w W:=BelP.of kW (Nat.le_refl _);have TW:=hT.ext kW;have dsW:=hs.ext kW;have dtW:=ht.ext kW;refine(callsIn_wide.2 ?_:CallsIn Fence.wide m Tryz.prog 310 ([.func (.yield ll) #[] #[],.pointer (some ⟨bs,0,none⟩),.pointer (some ⟨bt,0,none⟩),.pointer (some ⟨bf,0,none⟩)].toArray) W _);refine Calls.mono (R:=aZ fun v W'=>J (l.map fun u=>#[fv u]).length W'\/Jx W') ?_ ?_
 rotate_left
 ·rintro e W'⟨v,rfl,h⟩
  exact⟨⟨v,rfl⟩,h⟩
 unfold ADG at hL;refine kR (n:=58) Tryz.func310 rfl rfl rfl<|wp_seq<|ct (fun L w'=>L 0=.func (.yield ll) #[] #[]/\L 1=.pointer (some ⟨bs,0,none⟩)/\L 2=.pointer (some ⟨bt,0,none⟩)/\L 3=.pointer (some ⟨bf,0,none⟩)/\Ext W w'/\ABh x s x.2.1.length 0=some l) ?_ ?_
 ·refine wp_seq<|wpl [] (.pure true 0 (.pure false 1 (.pure true 2 (.pure true 3 (.pure false 4 (.pure true 5 (.pure false 6 (.pure true 7 (.pure true 8 (.pure true 9 (.pure false 10 (.pure true 11 (.pure true 12 (.pure true 13 .fin)))))))))))))) mixed (by kernel_rfl) (fun wd hxd=>?_)
  have ds:=dsW.ext hxd;have dt:=dtW.ext hxd;have Td:=TW.ext hxd;refine Zp rfl (fun _=>DY rfl AEd)<|Zq rfl (fun _ hS=>Ap rfl CG ((Bx.cs (ds.ext (hS.resolve_left nofun))).at 1 rfl)) (Ext.refl _)<|Zp rfl (fun _=>AAA rfl rfl)<|Zn rfl<|Or.elim (Bool.eq_false_or_eq_true (!decide (s.2=-1))) (fun hg=>?_) (fun hg=>?_)
  ·have hL:=Cj hL hg
   refine bS hL fun r Er hL=>?_;have hz:=AL2 Td.fits Er;obtain⟨j1,j2,hc1⟩:=hz;refine Yi rfl (Md.bt hg) (fun _ hS=>Ap rfl ACx ((Bx.cs (dt.ext (hS.resolve_left nofun))).at 0 rfl)) (Ext.refl _)<|Yt rfl (Md.bt hg) (fun _=>DY rfl AEd)<|Yi rfl (Md.bt hg) (fun _ hS=>Ap rfl CG ((Bx.cs (ds.ext (hS.resolve_left nofun))).at 1 rfl)) (Ext.refl _)<|Yt rfl (Md.bt hg) (fun _=>ABZ rfl)<|Yt rfl (Md.bt hg) (fun _=>DY rfl AIu)<|Yt rfl (Md.bt hg) (fun _=>AL0 rfl rfl Tryz.underlying196 AG5 j1 j2)<|Yi rfl (Md.bt hg) (fun _ hS=>vG rfl AG5 (AQI r) (hc1.ext (hS.resolve_left nofun))) (Ext.refl _)<|Yt rfl (Md.bt hg) (fun _=>APX (r:=List.flatMap Flat.enc (Ar.fill 16 0:Ar 16 Int).l) AG5 Tryz.underlying195 CG pn rfl)<|Yt rfl (Md.bt hg) (fun _=>AL3 (α:=Ar 16 Int) (a:=r) (b:=Ar.fill 16 0) rfl APk APj rfl rfl rfl rfl rfl)<|Zp rfl (fun _=>wu rfl hg rfl)<|cnd rfl (fun hq=>?_) (fun hq=>?_)
   ·have hL:=Cj hL hq
    cases hL;exact wp_ret<|rt rfl .nil (.inl (hJ 0 _ _ h0 hxd))
   ·have hL:=DF hL hq
    exact wp_skip<|lf ⟨rfl,rfl,rfl,rfl,hxd,hL⟩
  ·have hL:=DF hL hg
   refine Yh rfl (Bh hg) (Ext.refl _)<|Yf rfl (Bh hg)<|Yh rfl (Bh hg) (Ext.refl _)<|Yf rfl (Bh hg)<|Yf rfl (Bh hg)<|Yf rfl (Bh hg)<|Yh rfl (Bh hg) (Ext.refl _)<|Yf rfl (Bh hg)<|Yf rfl (Bh hg)<|Zp rfl (fun _=>yB rfl hg rfl)<|cnd rfl (fun hq=>by cases hq) (fun hq=>?_);exact wp_skip<|lf ⟨rfl,rfl,rfl,rfl,hxd,hL⟩
 clear hL;rintro L w2⟨l0,l1,l2,l3,k2,hL⟩;have T2:=TW.ext k2;have dt2:=dtW.ext k2;have hz:=T2.steps;obtain⟨a2,c2,h4,hsl⟩:=hz;have hlen:=(RVo.rv hsl).cap;have hj2:J 0 w2:=hJ 0 _ _ h0 k2;have K2:BelP ok w.heap.size w w2:=BelP.of (kW.tr k2) (Nat.le_refl _);refine Zr<|Zv (Ap l2 ACx ((Bx.cs dt2).at 0 rfl))<|Zv (ABZ rfl)<|Zv (DY rfl AEZ)<|Zv (Ap rfl AJS h4)<|Zv (bF rfl Tryz.underlying51)<|Zm<|nl<|wp_block<|lp (I:=fun m' L w1=>∃(k:Nat)(pre t:List xA),k+m'=x.2.1.length/\ABh x s m' k=some t/\l=pre++t/\L 25=.int .i64 (k:Int)/\L 24=.int .i64 (x.2.1.length:Int)/\L 0=.func (.yield ll) #[] #[]/\L 1=.pointer (some ⟨bs,0,none⟩)/\L 2=.pointer (some ⟨bt,0,none⟩)/\L 3=.pointer (some ⟨bf,0,none⟩)/\J pre.length w1/\BelP ok w.heap.size w w1) x.2.1.length
  ⟨0,[],l,by simp,hL,rfl,rfl,rfl,l0,l1,l2,l3,hj2,K2⟩ ?_
 clear l0 l1 l2 l3 hL;rintro m' L w1⟨k,pre,t,hk,hB,hl,l25,l24,l0,l1,l2,l3,hj,hx⟩;refine Zr<|Zv (Oi l25 l24)<|nl<|wp_seq<|cnd rfl (fun hc0=>?_) (fun hc0=>?_)
 ·have hc0:(k:Int)<(x.2.1.length:Int):=by simpa using hc0
  obtain⟨n,rfl⟩:∃n,m'=n+1:=⟨m'-1,by omega⟩;rw[ABh]at hB;refine bS hB fun f Ef hB=>?_;have hz:=Md.bs hB;obtain⟨t',Et,hB⟩:=hz;unfold ANa at Ef;have hz:=Md.bs Ef;obtain⟨f0,Ef0,Ef⟩:=hz;have hadd:AX ((k:Int)+1)=((k+1:Nat):Int):=by
   have hmx:x.2.1.length<=maxLen:=by omega
   rw[AX,IntWalk.i64_in _ (by unfold maxLen at hmx;omega)]
   rfl
  have hNw:=hx.size;refine wp_skip<|wp_seq<|wp_block<|Zr<|Zv (Ko l25)<|Za<|nl<|wp_seq<|ARV (m:=m) (fun wd w'=>Ext wd w') [26] (.pure false 0 (.pure true 1 (.eff 2 (.pure true 3 (.pure true 4 (.pure false 5 (.pure true 6 (.pure true 7 (.pure false 8 (.pure true 9 (.pure false 10 (.pure true 11 (.pure true 12 (.pure true 13 (.pure true 14 (.pure true 15 (.pure false 16 (.pure true 17 (.pure true 18 (.pure true 19 (.pure true 20 (.pure true 21 (.pure false 22 (.pure false 23 (.pure true 24 (.eff 25 (.eff 26 (.pure true 27 (.pure true 28 .fin)) .stop) .stop))))))))))))))))))))))) .stop))) mixed (by kernel_rfl) (fun wd hxd=>?_);have hxd':=hx.ext hxd hNw;have ds:=hs.belp hxd' hs.lt n1;have dt:=ht.belp hxd' ht.lt n2;have df:=hf.belp hxd' hf.lt n3;have Td:=hT.belp hxd' hT.size hok;have hjd:=hJ _ _ _ hj hxd;refine pvw rfl rfl rfl (fun _ hS=>Ap l3 AEa ((Bx.cs (df.ext (hS.resolve_left nofun))).at 0 rfl)) (.inr (Ext.refl _))<|pvw rfl rfl rfl (fun _ _=>YA) (.inl rfl)<|AJd rfl<|Zc (xcv (fs:=[]) (cs:=[.pointer (some ⟨bs,0,none⟩),.pointer (some ⟨bt,0,none⟩)]) rfl AQA (mc rfl mn) rfl) (ARs (x1:=s) (x2:=(⟨some x⟩:Ob yQ)) (Bx.cs ds) (Flat.iff.2 rfl) (Bx.cs dt) (AKj Td.rv.rv) Ef0) ?_;rintro _ w3⟨rfl,hx3⟩;refine nl ⟨fun _ h=>h.tr hx3,?_⟩;have kd3:=hxd.tr hx3;have hx3':=hx.ext kd3 hNw;have hjd3:=hJ _ _ _ hj kd3;have ds3:=ds.ext hx3;have dt3:=dt.ext hx3;have Td3:=Td.ext hx3;refine pvw rfl rfl rfl (fun _ _=>YA) (.inl rfl)<|?_;have skip_:∀(L':Fr),f=false->L' 24=.int .i64 (x.2.1.length:Int)->L' 0=.func (.yield ll) #[] #[]->L' 1=.pointer (some ⟨bs,0,none⟩)->L' 2=.pointer (some ⟨bt,0,none⟩)->L' 3=.pointer (some ⟨bf,0,none⟩)->
    ∃(k':Nat)(pre t:List xA),k'+n=x.2.1.length/\ABh x s n k'=some t/\l=pre++t/\Value.int .i64 (AX ((k:Int)+1))=.int .i64 (k':Int)/\L' 24=.int .i64 (x.2.1.length:Int)/\L' 0=.func (.yield ll) #[] #[]/\L' 1=.pointer (some ⟨bs,0,none⟩)/\L' 2=.pointer (some ⟨bt,0,none⟩)/\L' 3=.pointer (some ⟨bf,0,none⟩)/\J pre.length w3/\BelP ok w.heap.size w w3:=by
   intro L' hf0 h24 h0 h1 h2 h3;have hB:=DF hB hf0;cases hB;exact⟨k+1,pre,_,by omega,Et,hl,congrArg _ hadd,h24,h0,h1,h2,h3,hjd3,hx3'⟩
  refine Or.elim (Bool.eq_false_or_eq_true f0) (fun hf0=>?_) (fun hf0=>?_)
  ·have Ef:=Cj Ef hf0
   refine zF rfl rfl rfl rfl rfl rfl (Md.bt hf0) rfl (fun _ _=>DY l1 AEd) (.inl rfl)<|zF rfl rfl rfl rfl rfl rfl (Md.bt hf0) rfl (fun _ hS=>Ap rfl CG ((Bx.cs (ds.ext (hS.resolve_left nofun))).at 1 rfl)) (.inr hx3)<|zF rfl rfl rfl rfl rfl rfl (Md.bt hf0) rfl (fun _ _=>AAF rfl rfl) (.inl rfl)<|zF rfl rfl rfl rfl rfl rfl (Md.bt hf0) rfl (fun _ _=>YA) (.inl rfl)<|Or.elim (Bool.eq_false_or_eq_true (decide (s.2=-1))) (fun hs2=>?_) (fun hs2=>?_)
   ·have Ef:=Cj Ef hs2
    obtain rfl:true=f:=by cases Ef;rfl
    refine xq rfl rfl rfl rfl rfl rfl (BP hs2) rfl (.inr hx3)<|xq rfl rfl rfl rfl rfl rfl (BP hs2) rfl (.inl rfl)<|xq rfl rfl rfl rfl rfl rfl (BP hs2) rfl (.inr hx3)<|xq rfl rfl rfl rfl rfl rfl (BP hs2) rfl (.inl rfl)<|xq rfl rfl rfl rfl rfl rfl (BP hs2) rfl (.inl rfl)<|xq rfl rfl rfl rfl rfl rfl (BP hs2) rfl (.inl rfl)<|xq rfl rfl rfl rfl rfl rfl (BP hs2) rfl (.inl rfl)<|xq rfl rfl rfl rfl rfl rfl (BP hs2) rfl (.inl rfl)<|xq rfl rfl rfl rfl rfl rfl (BP hs2) rfl (.inr hx3)<|xq rfl rfl rfl rfl rfl rfl (BP hs2) rfl (.inl rfl)<|zF rfl rfl rfl rfl rfl rfl (Md.bt hf0) rfl (fun _ _=>wu rfl hs2 rfl) (.inl rfl)<|pvw rfl rfl rfl (fun _ _=>wu rfl hf0 rfl) (.inl rfl)<|pvw rfl rfl rfl (fun _ _=>YA) (.inl rfl)<|?_;have hf:true=true:=rfl;have hB:=Cj hB hf;refine bS hB fun u Eu hB=>?_;cases hB;have hz:=Td3.cs;obtain⟨cs3,hc3,hr3⟩:=hz;refine zF rfl rfl rfl rfl rfl rfl (Md.bt hf) rfl (fun _ _=>Ko l0) (.inl rfl)<|zF rfl rfl rfl rfl rfl rfl (Md.bt hf) rfl (fun _ hS=>Ap l2 ACx ((Bx.cs (dt.ext (hS.resolve_left nofun))).at 0 rfl)) (.inr hx3)<|zF rfl rfl rfl rfl rfl rfl (Md.bt hf) rfl (fun _ hS=>vG l1 ADa rfl (Bx.cs (ds.ext (hS.resolve_left nofun)))) (.inr hx3)<|zF rfl rfl rfl rfl rfl rfl (Md.bt hf) rfl (fun _ _=>YA) (.inl rfl)<|AJd rfl<|Gt rfl (Md.bt hf)<|Zc (xc ANH (mc rfl<|mc rfl<|mc rfl mn)) (AO6 (x0:=x) hc3 hr3 (x1:=s) ⟨_,rfl,Flat.iff.2 rfl⟩ Eu) ?_;rintro _ w4⟨u0,rfl,ru,hx4⟩;refine nl ⟨fun _ h=>h.tr hx4,?_⟩;obtain⟨cu,rfl,hu⟩:=ru;obtain rfl:=Flat.iff.1 hu;have hus:(l.map fun u=>(#[fv u]:Array Value))[pre.length]?=some #[fv u]:=by
     rw[List.getElem?_map,hl,List.getElem?_append_right (Nat.le_refl _),Nat.sub_self]
     rfl
    have hz:=hY pre.length #[fv u] w4 hus (hJ _ _ _ hjd3 hx4);obtain⟨fn,tmps,assign,body,hy,hR⟩:=hz;refine pyw rfl rfl rfl rfl rfl rfl (Md.bt hf) rfl (by decide) (xyl rfl (mc rfl mn) hy) hR fun e w5 he=>?_;rcases he with⟨rfl,hj5,k5⟩|⟨rfl,hj5⟩
    ·refine⟨_,rfl,?_⟩
     refine zF rfl rfl rfl rfl rfl rfl (Md.bt hf) rfl (fun _ _=>zK rfl) (.inl rfl)<|pvw rfl rfl rfl (fun _ _=>wu rfl hf rfl) (.inl rfl)<|cnd rfl (fun h=>by cases h) (fun _=>?_);refine wp_skip<|rg<|Zv (MH l25 rfl)<|Zm<|nl<|lq n (Nat.lt_succ_self _) ⟨k+1,pre++[u],t',by omega,Et,by rw[hl,List.append_assoc];rfl,congrArg _ hadd,l24,l0,l1,l2,l3,?_,(hx3'.ext hx4 (Nat.le_trans hNw kd3.size)).trans k5⟩;rw[List.length_append];exact hj5
    ·refine⟨_,rfl,?_⟩
     refine zF rfl rfl rfl rfl rfl rfl (Md.bt hf) rfl (fun _ _=>zK rfl) (.inl rfl)<|pvw rfl rfl rfl (fun _ _=>wu rfl hf rfl) (.inl rfl)<|cnd rfl (fun _=>?_) (fun h=>by cases h);exact wp_ret<|rt rfl .nil (.inr hj5)
   ·have Ef:=DF Ef hs2
    have hz:=Md.bs Ef;obtain⟨r,Er,Ef⟩:=hz;have hz:=Md.bs Ef;obtain⟨y,Ey,Ef⟩:=hz;obtain rfl:decide (y=1)=f:=by cases Ef;rfl
    have hz:=AL2 Td.fits Er;obtain⟨j1,j2,hc1⟩:=hz;have hz:=AL2 (X:=r) hc1 Ey;obtain⟨j3,j4,hc2⟩:=hz;refine zF rfl rfl rfl rfl rfl rfl (Md.bf hs2) rfl (fun _ hS=>Ap l2 ACx ((Bx.cs (dt.ext (hS.resolve_left nofun))).at 0 rfl)) (.inr hx3)<|zF rfl rfl rfl rfl rfl rfl (Md.bf hs2) rfl (fun _ _=>DY l1 AEd) (.inl rfl)<|zF rfl rfl rfl rfl rfl rfl (Md.bf hs2) rfl (fun _ hS=>Ap rfl CG ((Bx.cs (ds.ext (hS.resolve_left nofun))).at 1 rfl)) (.inr hx3)<|zF rfl rfl rfl rfl rfl rfl (Md.bf hs2) rfl (fun _ _=>YA) (.inl rfl)<|zF rfl rfl rfl rfl rfl rfl (Md.bf hs2) rfl (fun _ _=>ABZ rfl) (.inl rfl)<|zF rfl rfl rfl rfl rfl rfl (Md.bf hs2) rfl (fun _ _=>DY rfl AIu) (.inl rfl)<|zF rfl rfl rfl rfl rfl rfl (Md.bf hs2) rfl (fun _ _=>AL0 rfl rfl Tryz.underlying196 AG5 j1 j2) (.inl rfl)<|zF rfl rfl rfl rfl rfl rfl (Md.bf hs2) rfl (fun _ _=>AL0 rfl rfl Tryz.underlying195 CG j3 j4) (.inl rfl)<|zF rfl rfl rfl rfl rfl rfl (Md.bf hs2) rfl (fun _ hS=>Ap rfl CG ((hc2.ext (hS.resolve_left nofun)).at 0 rfl)) (.inr hx3)<|zF rfl rfl rfl rfl rfl rfl (Md.bf hs2) rfl (fun _ _=>AAF rfl rfl) (.inl rfl)<|zF rfl rfl rfl rfl rfl rfl (Md.bt hf0) rfl (fun _ _=>yB rfl hs2 rfl) (.inl rfl)<|pvw rfl rfl rfl (fun _ _=>wu rfl hf0 rfl) (.inl rfl)<|pvw rfl rfl rfl (fun _ _=>YA) (.inl rfl)<|Or.elim (Bool.eq_false_or_eq_true (decide (y=1))) (fun hf=>?_) (fun hf=>?_)
    ·skip
     have hB:=Cj hB hf;refine bS hB fun u Eu hB=>?_;cases hB;have hz:=Td3.cs;obtain⟨cs3,hc3,hr3⟩:=hz;refine zF rfl rfl rfl rfl rfl rfl (Md.bt hf) rfl (fun _ _=>Ko l0) (.inl rfl)<|zF rfl rfl rfl rfl rfl rfl (Md.bt hf) rfl (fun _ hS=>Ap l2 ACx ((Bx.cs (dt.ext (hS.resolve_left nofun))).at 0 rfl)) (.inr hx3)<|zF rfl rfl rfl rfl rfl rfl (Md.bt hf) rfl (fun _ hS=>vG l1 ADa rfl (Bx.cs (ds.ext (hS.resolve_left nofun)))) (.inr hx3)<|zF rfl rfl rfl rfl rfl rfl (Md.bt hf) rfl (fun _ _=>YA) (.inl rfl)<|AJd rfl<|Gt rfl (Md.bt hf)<|Zc (xc ANH (mc rfl<|mc rfl<|mc rfl mn)) (AO6 (x0:=x) hc3 hr3 (x1:=s) ⟨_,rfl,Flat.iff.2 rfl⟩ Eu) ?_;rintro _ w4⟨u0,rfl,ru,hx4⟩;refine nl ⟨fun _ h=>h.tr hx4,?_⟩;obtain⟨cu,rfl,hu⟩:=ru;obtain rfl:=Flat.iff.1 hu;have hus:(l.map fun u=>(#[fv u]:Array Value))[pre.length]?=some #[fv u]:=by
      rw[List.getElem?_map,hl,List.getElem?_append_right (Nat.le_refl _),Nat.sub_self]
      rfl
     have hz:=hY pre.length #[fv u] w4 hus (hJ _ _ _ hjd3 hx4);obtain⟨fn,tmps,assign,body,hy,hR⟩:=hz;refine pyw rfl rfl rfl rfl rfl rfl (Md.bt hf) rfl (by decide) (xyl rfl (mc rfl mn) hy) hR fun e w5 he=>?_;rcases he with⟨rfl,hj5,k5⟩|⟨rfl,hj5⟩
     ·refine⟨_,rfl,?_⟩
      refine zF rfl rfl rfl rfl rfl rfl (Md.bt hf) rfl (fun _ _=>zK rfl) (.inl rfl)<|pvw rfl rfl rfl (fun _ _=>wu rfl hf rfl) (.inl rfl)<|cnd rfl (fun h=>by cases h) (fun _=>?_);refine wp_skip<|rg<|Zv (MH l25 rfl)<|Zm<|nl<|lq n (Nat.lt_succ_self _) ⟨k+1,pre++[u],t',by omega,Et,by rw[hl,List.append_assoc];rfl,congrArg _ hadd,l24,l0,l1,l2,l3,?_,(hx3'.ext hx4 (Nat.le_trans hNw kd3.size)).trans k5⟩;rw[List.length_append];exact hj5
     ·refine⟨_,rfl,?_⟩
      refine zF rfl rfl rfl rfl rfl rfl (Md.bt hf) rfl (fun _ _=>zK rfl) (.inl rfl)<|pvw rfl rfl rfl (fun _ _=>wu rfl hf rfl) (.inl rfl)<|cnd rfl (fun _=>?_) (fun h=>by cases h);exact wp_ret<|rt rfl .nil (.inr hj5)
    ·refine xq rfl rfl rfl rfl rfl rfl (Bh hf) rfl (.inl rfl)<|xq rfl rfl rfl rfl rfl rfl (Bh hf) rfl (.inr hx3)<|xq rfl rfl rfl rfl rfl rfl (Bh hf) rfl (.inr hx3)<|xq rfl rfl rfl rfl rfl rfl (Bh hf) rfl (.inl rfl)<|?_
     refine AJe rfl rfl rfl rfl rfl rfl (Bh hf) rfl<|AJe rfl rfl rfl rfl rfl rfl (Bh hf) rfl<|xq rfl rfl rfl rfl rfl rfl (Bh hf) rfl (.inl rfl)<|pvw rfl rfl rfl (fun _ _=>yB rfl hf rfl) (.inl rfl)<|cnd rfl (fun h=>by cases h) (fun _=>?_);refine wp_skip<|rg<|Zv (MH l25 rfl)<|Zm<|nl<|lq n (Nat.lt_succ_self _) (skip_ _ hf l24 l0 l1 l2 l3)
  ·have Ef:=DF Ef hf0
   obtain rfl:false=f:=by cases Ef;rfl
   refine xq rfl rfl rfl rfl rfl rfl (Bh hf0) rfl (.inl rfl)<|xq rfl rfl rfl rfl rfl rfl (Bh hf0) rfl (.inr hx3)<|xq rfl rfl rfl rfl rfl rfl (Bh hf0) rfl (.inl rfl)<|xq rfl rfl rfl rfl rfl rfl (Bh hf0) rfl (.inl rfl)<|xq rfl rfl rfl rfl rfl rfl Md.bu rfl (.inr hx3)<|xq rfl rfl rfl rfl rfl rfl Md.bu rfl (.inl rfl)<|xq rfl rfl rfl rfl rfl rfl Md.bu rfl (.inr hx3)<|xq rfl rfl rfl rfl rfl rfl Md.bu rfl (.inl rfl)<|xq rfl rfl rfl rfl rfl rfl Md.bu rfl (.inl rfl)<|xq rfl rfl rfl rfl rfl rfl Md.bu rfl (.inl rfl)<|xq rfl rfl rfl rfl rfl rfl Md.bu rfl (.inl rfl)<|xq rfl rfl rfl rfl rfl rfl Md.bu rfl (.inl rfl)<|xq rfl rfl rfl rfl rfl rfl Md.bu rfl (.inr hx3)<|xq rfl rfl rfl rfl rfl rfl Md.bu rfl (.inl rfl)<|xq rfl rfl rfl rfl rfl rfl (Bh hf0) rfl (.inl rfl)<|pvw rfl rfl rfl (fun _ _=>yB rfl hf0 rfl) (.inl rfl)<|pvw rfl rfl rfl (fun _ _=>YA) (.inl rfl)<|xq rfl rfl rfl rfl rfl rfl (Bh rfl) rfl (.inl rfl)<|xq rfl rfl rfl rfl rfl rfl (Bh rfl) rfl (.inr hx3)<|xq rfl rfl rfl rfl rfl rfl (Bh rfl) rfl (.inr hx3)<|xq rfl rfl rfl rfl rfl rfl (Bh rfl) rfl (.inl rfl)<|AJe rfl rfl rfl rfl rfl rfl (Bh rfl) rfl<|AJe rfl rfl rfl rfl rfl rfl (Bh rfl) rfl<|xq rfl rfl rfl rfl rfl rfl (Bh rfl) rfl (.inl rfl)<|pvw rfl rfl rfl (fun _ _=>yB rfl rfl rfl) (.inl rfl)<|cnd rfl (fun h=>by cases h) (fun _=>?_);refine wp_skip<|rg<|Zv (MH l25 rfl)<|Zm<|nl<|lq n (Nat.lt_succ_self _) (skip_ _ rfl l24 l0 l1 l2 l3)
 ·have hc0:¬(k:Int)<(x.2.1.length:Int):=by simpa using hc0
  obtain rfl:m'=0:=by omega
  rw[ABh]at hB;cases hB;refine wp_exit<|rtn rfl .nil (.inl ?_);rw[List.length_map,hl,List.append_nil];exact hj
end
def BhV(lo:Nat)(w:World)(v:Value)(s:xA)(b:Nat):Prop:=∃bs bt bf,v=.func (.func 310) #[] #[.pointer (some ⟨bs,0,none⟩),.pointer (some ⟨bt,0,none⟩),.pointer (some ⟨bf,0,none⟩)]/\
 Bx w bs 326 (Flat.enc s)/\Bx w bt 177 [.pointer (some ⟨b,0,none⟩)]/\Bx w bf 236 [.func (.func 309) #[] #[.pointer (some ⟨bs,0,none⟩),.pointer (some ⟨bt,0,none⟩)]]/\lo<=bs/\lo<=bt/\lo<=bf
theorem BhV.go{lo:Nat}{w:World}{v:Value}{s:xA}{b ma mu N:Nat}{ok:Nat->Prop}{x:yQ}{l:List xA}(h:BhV lo w v s b)(hT:Tb N w b ma mu x)(hok:∀q,q<N->q≠ma->q≠mu->ok q)(hlo:∀q,lo<=q->ok q)(hL:ADG x s=some l)(m:Nat):
  ∃gf cs,v=.func (.func gf) #[] cs/\Ad Tryz.prog gf/\ABR Tryz.prog (BelP ok w.heap.size) m gf cs (l.map fun u=>#[fv u]) w:=by
 obtain⟨bs,bt,bf,rfl,h1,h2,h3,h4,h5,h6⟩:=h;exact⟨310,_,rfl,AQB,APA h1 h2 h3 (hlo _ h4) (hlo _ h5) (hlo _ h6) hT hok hL⟩

def ABi(own step:Int):Nat->Nat->List xA
 |0,_=>[]
 |n+1,k=>if(!decide (band .i64 (k:Int) own=0))=true then((k:Int),step)::ABi own step n (k+1)else ABi own step n (k+1)
def ADH(x:yQ)(step:Int):Option (List xA):=
 (ix x.2.1 step)>>=fun st=>(shl .i64 1 st.1)>>=fun own=>(shl .i64 1 (x.1.1.length:Int))>>=fun top=>
 if decide (0<=top/\top<=1000000)=true then some (ABi own step top.toNat 0)else none
set_option maxHeartbeats 8000000 in
theorem APB{m:Nat}{w:World}{bt b3 b ma mu N:Nat}{ok:Nat->Prop}{x:yQ}{step:Int}{l:List xA}(ht:Bx w bt 177 [.pointer (some ⟨b,0,none⟩)])(h3:Bx w b3 3 [.int .i64 step])
  (n1:ok bt) (n2:ok b3) (hT:Tb N w b ma mu x) (hok:∀q,q<N->q≠ma->q≠mu->ok q) (hL:ADH x step=some l):
  ABR Tryz.prog (BelP ok w.heap.size) m 308 #[.pointer (some ⟨bt,0,none⟩),.pointer (some ⟨b3,0,none⟩)] (l.map fun u=>#[fv u]) w:=by
 intro ll J Jx W kW hJ hJx hY h0;have KW:BelP ok w.heap.size w W:=BelP.of kW (Nat.le_refl _);have TW:=hT.ext kW;have dtW:=ht.ext kW;have d3W:=h3.ext kW;refine(callsIn_wide.2 ?_:CallsIn Fence.wide m Tryz.prog 308 ([.func (.yield ll) #[] #[],.pointer (some ⟨bt,0,none⟩),.pointer (some ⟨b3,0,none⟩)].toArray) W _);refine Calls.mono (R:=aZ fun v W'=>J (l.map fun u=>#[fv u]).length W'\/Jx W') ?_ ?_
 rotate_left
 ·rintro e W'⟨v,rfl,h⟩
  exact⟨⟨v,rfl⟩,h⟩
 unfold ADH at hL;refine bS hL fun st Es hL=>bS hL fun own Eo hL=>bS hL fun top Et hL=>?_;have hz:=ifs hL;obtain⟨htop,hL⟩:=hz;cases hL;have htop:0<=top/\top<=1000000:=by simpa using htop
 refine kR (n:=38) Tryz.func308 rfl rfl rfl<|wp_seq<|wpl [] (.pure false 0 (.pure true 1 (.pure true 2 (.pure false 3 (.pure false 4 (.pure true 5 (.pure true 6 (.pure false 7 (.pure true 8 (.pure true 9 .fin)))))))))) mixed (by kernel_rfl) (fun wd hxd=>?_);have dt:=dtW.ext hxd;have d3:=d3W.ext hxd;have Td:=TW.ext hxd;have hz:=Td.steps;obtain⟨a1,c1,h4,hs4⟩:=hz;have hz:=(RVo.sl.1 hs4);obtain⟨a1',c1',e3,_,hcap,els⟩:=hz;cases e3;have hz:=Els.ix els Es;obtain⟨b5,off5,cs5,rfl,i1,i2,q5,hc5⟩:=hz;obtain rfl:=Flat.iff.1 q5;have hz:=Td.pieces;obtain⟨a6,c6,h6,hs6⟩:=hz;refine Zq rfl (fun _ hS=>Ap rfl ACx ((Bx.cs (dt.ext (hS.resolve_left nofun))).at 0 rfl)) (Ext.refl _)<|Zp rfl (fun _=>ABZ rfl)<|Zp rfl (fun _=>DY rfl AEZ)<|Zq rfl (fun _ hS=>Ap rfl AJS (AFC h4 (hS.resolve_left nofun))) (Ext.refl _)<|Zq rfl (fun _ hS=>Ap rfl CG ((Bx.cs (d3.ext (hS.resolve_left nofun))).at 0 rfl)) (Ext.refl _)<|Zp rfl (fun _=>Ci rfl rfl Tryz.underlying51 AL4 i1 i2)<|Zp rfl (fun _=>DY rfl AHM)<|Zq rfl (fun _ hS=>Ap rfl CG ((hc5.ext (hS.resolve_left nofun)).at 0 rfl)) (Ext.refl _)<|Zp rfl (fun _=>AMA rfl rfl Eo)<|Zp rfl (fun _=>xas)<|Zr<|Zv (Ap rfl ACx ((Bx.cs dt).at 0 rfl))<|Zv (ABZ rfl)<|Zv (DY rfl ANn)<|Zv (DY rfl AON)<|Zv (Ap rfl AQ3 h6)<|Zv (bF rfl Tryz.underlying46)<|Zv (AMA rfl rfl Et)<|Zm<|nl<|?_;have hjd:J 0 wd:=hJ 0 _ _ h0 hxd;have Kd:BelP ok w.heap.size w wd:=BelP.of (kW.tr hxd) (Nat.le_refl _);refine wp_block<|lp (I:=fun m' L w1=>∃(k:Nat)(pre:List xA),k+m'=top.toNat/\ABi own step top.toNat 0=pre++ABi own step m' k/\L 22=.int .i64 (k:Int)/\L 21=.int .i64 top/\L 4=.int .i64 own/\L 0=.func (.yield ll) #[] #[]/\L 1=.pointer (some ⟨bt,0,none⟩)/\L 2=.pointer (some ⟨b3,0,none⟩)/\J pre.length w1/\BelP ok w.heap.size w w1) top.toNat
  ⟨0,[],by simp,rfl,rfl,rfl,rfl,rfl,rfl,rfl,hjd,Kd⟩ ?_
 rintro m' L w1⟨k,pre,hk,hl,l22,l21,l4,l0,l1,l2,hj,hx⟩;refine Zr<|Zv (Oi l22 l21)<|nl<|wp_seq<|cnd rfl (fun hc0=>?_) (fun hc0=>?_)
 ·have hc0:(k:Int)<top:=by simpa using hc0
  obtain⟨n,rfl⟩:∃n,m'=n+1:=⟨m'-1,by omega⟩;rw[ABi]at hl;have hadd:AX ((k:Int)+1)=((k+1:Nat):Int):=by
   rw[AX,IntWalk.i64_in _ (by omega)]
   rfl
  have d31:=h3.belp hx h3.lt n2;refine wp_skip<|wp_seq<|wp_block<|Zr<|Zv (Ko l22)<|Za<|nl<|wp_seq<|rgW (m:=m)<|PE rfl rfl nofun YA<|PE rfl rfl nofun (Ko l4)<|PE rfl rfl nofun (AOT rfl rfl)<|PE rfl rfl nofun (AAA rfl rfl)<|PE rfl rfl nofun YA<|Or.elim (Bool.eq_false_or_eq_true (!decide (band .i64 (k:Int) own=0))) (fun hg=>?_) (fun hg=>?_)
  ·rw[if_pos hg]at hl
   have hus:((ABi own step top.toNat 0).map fun u=>(#[fv u]:Array Value))[pre.length]?=some #[fv (((k:Int),step):xA)]:=by
    rw[List.getElem?_map,hl,List.getElem?_append_right (Nat.le_refl _),Nat.sub_self]
    rfl
   have hz:=hY pre.length _ w1 hus hj;obtain⟨fn,tmps,assign,body,hy,hR⟩:=hz;refine xk rfl rfl rfl rfl rfl (Md.bt hg)<|PE rfl rfl nofun (Ko l0)<|xk rfl rfl rfl rfl rfl (Md.bt hg)<|PE rfl rfl nofun YA<|xk rfl rfl rfl rfl rfl (Md.bt hg)<|PE rfl rfl nofun (Ap l2 CG ((Bx.cs d31).at 0 rfl))<|xk rfl rfl rfl rfl rfl (Md.bt hg)<|PE rfl rfl nofun (AAQ (r:=[.int .i64 (k:Int),.int .i64 step]) ADa AM7 (pc rfl (pc rfl pn)) rfl)<|xk rfl rfl rfl rfl rfl (Md.bt hg)<|ylW rfl rfl nofun (xyl rfl (mc rfl mn) hy) hR fun e w5 he=>?_;rcases he with⟨rfl,hj5,k5⟩|⟨rfl,hj5⟩
   ·refine⟨_,rfl,xk rfl rfl rfl rfl rfl (Md.bt hg)<|PE rfl rfl nofun (zK rfl)<|PE rfl rfl nofun (wu rfl hg rfl)<|nlW<|cnd rfl (fun h=>by cases h) (fun _=>?_)⟩
    refine wp_skip<|rg<|Zv (MH l22 rfl)<|Zm<|nl<|lq n (Nat.lt_succ_self _) ⟨k+1,pre++[((k:Int),step)],by omega,by rw[hl,List.append_assoc];rfl,congrArg _ hadd,l21,l4,l0,l1,l2,?_,hx.trans k5⟩;rw[List.length_append];exact hj5
   ·refine⟨_,rfl,xk rfl rfl rfl rfl rfl (Md.bt hg)<|PE rfl rfl nofun (zK rfl)<|PE rfl rfl nofun (wu rfl hg rfl)<|nlW<|cnd rfl (fun _=>?_) (fun h=>by cases h)⟩
    exact wp_ret<|rt rfl .nil (.inr hj5)
  ·rw[if_neg (by rw[hg];simp)]at hl
   refine gfW rfl rfl rfl rfl rfl (Bh hg) rfl<|gfW rfl rfl rfl rfl rfl (Bh hg) rfl<|gfW rfl rfl rfl rfl rfl (Bh hg) rfl<|gfW rfl rfl rfl rfl rfl (Bh hg) rfl<|gfW rfl rfl rfl rfl rfl (Bh hg) rfl<|gfW rfl rfl rfl rfl rfl (Bh hg) rfl<|PE rfl rfl nofun (yB rfl hg rfl)<|nlW<|cnd rfl (fun h=>by cases h) (fun _=>?_);refine wp_skip<|rg<|Zv (MH l22 rfl)<|Zm<|nl<|lq n (Nat.lt_succ_self _) ⟨k+1,pre,by omega,hl,congrArg _ hadd,l21,l4,l0,l1,l2,hj,hx⟩
 ·have hc0:¬(k:Int)<top:=by simpa using hc0
  obtain rfl:m'=0:=by omega
  rw[ABi]at hl;refine wp_exit<|rtn rfl .nil (.inl ?_);rw[List.length_map,hl,List.append_nil];exact hj
def StV(lo:Nat)(w:World)(v:Value)(step:Int)(b:Nat):Prop:=∃bt b3,v=.func (.func 308) #[] #[.pointer (some ⟨bt,0,none⟩),.pointer (some ⟨b3,0,none⟩)]/\
 Bx w bt 177 [.pointer (some ⟨b,0,none⟩)]/\Bx w b3 3 [.int .i64 step]/\lo<=bt/\lo<=b3
theorem StV.go{lo:Nat}{w:World}{v:Value}{step:Int}{b ma mu N:Nat}{ok:Nat->Prop}{x:yQ}{l:List xA}(h:StV lo w v step b)(hT:Tb N w b ma mu x)(hok:∀q,q<N->q≠ma->q≠mu->ok q)(hlo:∀q,lo<=q->ok q)(hL:ADH x step=some l)(m:Nat):
  ∃gf cs,v=.func (.func gf) #[] cs/\Ad Tryz.prog gf/\ABR Tryz.prog (BelP ok w.heap.size) m gf cs (l.map fun u=>#[fv u]) w:=by
 obtain⟨bt,b3,rfl,h2,h3,h5,h6⟩:=h;exact⟨308,_,rfl,AP9,APB h2 h3 (hlo _ h5) (hlo _ h6) hT hok hL⟩

end Go.Proofs.YtfmelbioccbdoaaGreat
end
section
namespace Go.Md
open Go Go.RowKit
section
section
variable {P:Program}{Q:Exit->Act->World->Prop}{m n:Nat}{L:Fr}{D:List Deferred}{w:World}
end
end
section
section
variable {κ ν:Type}[DecidableEq κ][Enc κ][Flat κ][Key κ][Enc ν][Flat ν]
def MpS(w:World)(b:Nat)(l:List (κ×ν)):Prop:=
 ∃es clock,w.heap[b]?=some (.map es clock)/\es.toList.map (fun e=>(e.key,e.val))=l.map (fun p=>(fv p.1,fv p.2))/\(l.map (·.1)).Nodup/\(∀p∈l,Key.ok p.1=true)/\
  (es.toList.map (·.born)).Nodup/\∀e∈es.toList,e.born<clock
variable {w w':World}{b:Nat}{l:List (κ×ν)}
omit [DecidableEq κ]in
omit [DecidableEq κ]in
theorem MpS.same(h:MpS w b l)(k:w'.heap[b]?=w.heap[b]?):MpS w' b l:=by
 obtain⟨es,c,h1,h⟩:=h;exact⟨es,c,k.trans h1,h⟩
omit [DecidableEq κ]in
theorem MpS.lt(h:MpS w b l):b<w.heap.size:=by
 obtain⟨es,c,h1,_⟩:=h;exact(Array.getElem?_eq_some_iff.1 h1).1
omit [DecidableEq κ]in
theorem MpS.ext(h:MpS w b l)(k:Ext w w'):MpS w' b l:=h.same (k.block b h.lt)
omit [DecidableEq κ]in
theorem MpS.chg{c:Nat}(h:MpS w b l)(k:Chg c w w')(hne:b≠c):MpS w' b l:=h.same (k.other b hne)
omit [DecidableEq κ]in
theorem MpS.belp{ok:Nat->Prop}{N:Nat}(h:MpS w b l)(k:BelP ok N w w')(hb:b<N)(h1:ok b):MpS w' b l:=h.same (k.block b hb h1)
omit [DecidableEq κ]in
theorem MpS.tak{B:Nat}(h:MpS w b l)(k:Tak B w w'):MpS w' b l:=by
 obtain⟨es,c,h1,h⟩:=h;exact⟨es,c,k.old _ _ h1 nofun,h⟩
omit [DecidableEq κ]in
theorem MpS.asg{B:Nat}(h:MpS w b l)(k:Asg B w w')(hb:b<B):MpS w' b l:=by
 obtain⟨W1,q,o,hl,h1,h2,h3,_,h4⟩:=k;exact(h.ext h1).chg h4 (by omega)
omit [DecidableEq κ]in
theorem Okb.mps{B:Nat}(hb:b<B):Okb B (fun w=>MpS w b l):=⟨fun h k=>h.ext k,fun h hB _ _ k=>h.chg k (by omega)⟩
omit [DecidableEq κ]in
theorem MpS.below{B:Nat}(h:MpS w b l)(k:Below B w w')(hB:b<B):MpS w' b l:=h.same (k.block b hB)
omit [DecidableEq κ]in
end
section
variable {P:Program}{Q:Exit->Act->World->Prop}{n:Nat}{L:Fr}{D:List Deferred}{w:World}{ops:Array Oper}{rest:List Oper}
variable {ty:TypeId}{pos:String}{af:Array Edge}{x y z:Operand}{t tk te:TypeId}
variable {κ ν:Type}[DecidableEq κ][Enc κ][Flat κ][Key κ][Enc ν][Flat ν]
end
end
end Go.Md
end
section
namespace Go.Proofs.YtfmelbioccbdoaaGreat
open Go Go.Md Go.RowKit
attribute [local irreducible] Go.wpList Go.Code.wp Go.Calls Go.Md.vI Go.Md.Mt Go.Md.wR Go.Md.iL Go.Code.wpIn Go.wpListIn

end Go.Proofs.YtfmelbioccbdoaaGreat
end
section
namespace Go.Proofs.YtfmelbioccbdoaaGreat
open Go Go.Md Go.RowKit
attribute [local irreducible] Go.wpList Go.Code.wp Go.Calls Go.Md.vI Go.Md.Mt Go.Md.wR Go.Md.iL Go.Code.wpIn

end Go.Proofs.YtfmelbioccbdoaaGreat
end
section
namespace Go.Proofs.YtfmelbioccbdoaaGreat
open Go Go.Md Go.RowKit
attribute [local irreducible] Go.wpList Go.Code.wp Go.Calls Go.Md.vI Go.Md.Mt Go.Md.wR Go.Md.iL Go.Code.wpIn Go.wpListIn
theorem TbN.get{M:Nat}{w:World}{v:Value}{x:Ob yQ}(h:TbN M w v x):∃y b ma mu,x=⟨some y⟩/\v=.pointer (some ⟨b,0,none⟩)/\Tb w.heap.size w b ma mu y/\Mp (κ:=xA) (ν:=Int) w ma []/\Mp (κ:=xA) (ν:=Int) w mu []/\M<=ma/\M<=mu:=by
 obtain⟨y,b,ma,mu,rfl,hP⟩:=h;have h1:=hP.tb;obtain⟨_,_,_,_,_,_,_,h2,h3⟩:=hP;exact⟨y,b,ma,mu,rfl,h1.1,h1.2.1,h1.2.2.1,h1.2.2.2,h2,h3⟩

end Go.Proofs.YtfmelbioccbdoaaGreat
end
section
namespace Go.Md
open Go Go.RowKit
section
section
variable {κ ν:Type}[DecidableEq κ][Enc κ][Flat κ][Key κ][Enc ν][Flat ν]
def Rg(w:World)(r b:Nat)(l:List (κ×ν))(lf:κ->Bool):Prop:=
 ∃es clock seen,w.heap[r]?=some (.mapIter (some b) clock seen clock)/\w.heap[b]?=some (.map es clock)/\es.toList.map (fun e=>(e.key,e.val))=l.map (fun p=>(fv p.1,fv p.2))/\(l.map (·.1)).Nodup/\(∀p∈l,Key.ok p.1=true)/\
  (es.toList.map (·.born)).Nodup/\(∀e∈es.toList,e.born<clock)/\∀(i:Nat)(e:MapEntry)(p:κ×ν),es.toList[i]?=some e->l[i]?=some p->seen.contains e.born=!lf p.1
variable {w w':World}{r b:Nat}{l:List (κ×ν)}{lf:κ->Bool}
omit [DecidableEq κ]in
theorem Rg.mps(h:Rg w r b l lf):MpS w b l:=by
 obtain⟨es,c,s,_,h2,h3,h4,h5,h6,h7,_⟩:=h;exact⟨es,c,h2,h3,h4,h5,h6,h7⟩
omit [DecidableEq κ]in
theorem Rg.same(h:Rg w r b l lf)(k1:w'.heap[r]?=w.heap[r]?)(k2:w'.heap[b]?=w.heap[b]?):Rg w' r b l lf:=by
 obtain⟨es,c,s,h1,h2,h⟩:=h;exact⟨es,c,s,k1.trans h1,k2.trans h2,h⟩
omit [DecidableEq κ]in
theorem Rg.ltr(h:Rg w r b l lf):r<w.heap.size:=by
 obtain⟨es,c,s,h1,_⟩:=h;exact(Array.getElem?_eq_some_iff.1 h1).1
omit [DecidableEq κ]in
theorem Rg.ext(h:Rg w r b l lf)(k:Ext w w'):Rg w' r b l lf:=h.same (k.block r h.ltr) (k.block b h.mps.lt)
omit [DecidableEq κ]in
theorem Rg.chg{c:Nat}(h:Rg w r b l lf)(k:Chg c w w')(h1:r≠c)(h2:b≠c):Rg w' r b l lf:=h.same (k.other r h1) (k.other b h2)
omit [DecidableEq κ]in
end
section
variable {P:Program}{Q:Exit->Act->World->Prop}{n:Nat}{L:Fr}{D:List Deferred}{w:World}{ops:Array Oper}{rest:List Oper}
variable {ty:TypeId}{pos:String}{af:Array Edge}{x y:Operand}{t tk te:TypeId}
variable {κ ν:Type}[DecidableEq κ][Enc κ][Flat κ][Key κ][Enc ν][Flat ν]
omit [DecidableEq κ]in
omit [DecidableEq κ] [Key κ]in
end
end
end Go.Md
end
section
namespace Go.Proofs.YtfmelbioccbdoaaGreat
open Go Go.Md Go.RowKit
attribute [local irreducible] Go.wpList Go.Code.wp Go.Calls Go.Md.vI Go.Md.Mt Go.Md.wR Go.Md.iL Go.Code.wpIn Go.wpListIn
theorem Tb.below{N B:Nat}{w w1:World}{b ma mu:Nat}{x:yQ}(h:Tb N w b ma mu x)(k:Below B w w1)(hB:N<=B):Tb N w1 b ma mu x:=
 h.belp (ok:=fun _=>True) (M:=B) ⟨k.os,k.tape,k.output,k.size,fun q hq _=>k.block q hq⟩ hB (fun _ _ _ _=>trivial)

end Go.Proofs.YtfmelbioccbdoaaGreat
end
section
namespace Go.Proofs.YtfmelbioccbdoaaGreat
open Go Go.Md Go.RowKit


end Go.Proofs.YtfmelbioccbdoaaGreat
end
section
namespace Go.Proofs.YtfmelbioccbdoaaGreat
open Go Go.Md Go.RowKit
attribute [local irreducible] Go.wpList Go.Code.wp Go.Calls Go.Md.vI Go.Md.Mt Go.Md.wR Go.Md.iL Go.Code.wpIn

end Go.Proofs.YtfmelbioccbdoaaGreat
end
section
namespace Go.Proofs.YtfmelbioccbdoaaGreat
open Go Go.Md Go.RowKit
abbrev LLk:=Int×Int
abbrev LPt:=Ar 12 Int
abbrev ANb:=List ((Bool×Int)×Int)
instance:Key (Bool×Int):=⟨fun k=>(Lit.int .i64 k.2).wf⟩
def yR(L:List LLk)(al:Int->Bool)(left:Int):Nat->Nat->List Int
 |0,_=>[]
 |n+1,k=>if(match L[k]? with|some x=>decide (x.1=left)&&al k|none=>false)=true then(k:Int)::yR L al left n (k+1)else yR L al left n (k+1)
def AFt(L:List LLk)(al:Int->Bool)(left:Int):List Int:=yR L al left L.length 0
namespace L5
section
variable {L:List LLk}{al:Int->Bool}
theorem mem_from{left:Int}:∀{n k:Nat}{j:Int},j∈yR L al left n k↔∃i:Nat,j=i/\k<=i/\i<k+n/\∃x,L[i]?=some x/\x.1=left/\al i=true
 |0,k,j=>by
  simp only[yR,List.not_mem_nil,false_iff];rintro⟨i,_,h1,h2,_⟩;omega
 |n+1,k,j=>by
  have ih:=mem_from (left:=left) (n:=n) (k:=k+1) (j:=j);simp only[yR];cases hL:L[k]? with
  |none=>
   simp only[Bool.false_eq_true,if_false];rw[ih];constructor
   ·rintro⟨i,h1,h2,h3,h4⟩;exact⟨i,h1,by omega,by omega,h4⟩
   ·rintro⟨i,h1,h2,h3,x,h4,h5⟩
    refine⟨i,h1,?_,by omega,x,h4,h5⟩;rcases Nat.lt_or_eq_of_le h2 with h|h
    ·omega
    ·rw[<-h,hL]at h4;cases h4
  |some x=>
   by_cases hc:(decide (x.1=left)&&al k)=true
   ·simp only[hc,if_true,List.mem_cons,ih]
    simp only[Bool.and_eq_true,decide_eq_true_eq]at hc;constructor
    ·rintro(h|⟨i,h1,h2,h3,h4⟩)
     ·exact⟨k,h,by omega,by omega,x,hL,hc.1,hc.2⟩
     ·exact⟨i,h1,by omega,by omega,h4⟩
    ·rintro⟨i,h1,h2,h3,h4⟩
     rcases Nat.lt_or_eq_of_le h2 with h|h
     ·exact .inr ⟨i,h1,by omega,by omega,h4⟩
     ·exact .inl (by rw[h1,h])
   ·simp only[hc,if_false,ih,Bool.false_eq_true]
    simp only[Bool.and_eq_true,decide_eq_true_eq,not_and]at hc;constructor
    ·rintro⟨i,h1,h2,h3,h4⟩;exact⟨i,h1,by omega,by omega,h4⟩
    ·rintro⟨i,h1,h2,h3,y,h4,h5,h6⟩
     refine⟨i,h1,?_,by omega,y,h4,h5,h6⟩;rcases Nat.lt_or_eq_of_le h2 with h|h
     ·omega
     ·subst h
      rw[hL]at h4;cases h4;exact absurd h6 (by simpa using hc h5)
def pa(P:LPt)(r:Nat):Int:=P.l.getD r 0
def sn(S:ANb)(r:Nat):Prop:=xg 0 S (true,(r:Int))=1
instance {S:ANb}{r:Nat}:Decidable (sn S r):=inferInstanceAs (Decidable (_=_))
def lf(L:List LLk)(P:LPt)(r:Nat):Option Int:=if pa P r=0 then none else(L[(pa P r-1).toNat]?).map (·.1)
def mc(P:LPt):Nat:=(List.range 12).countP fun r=>decide (pa P r≠0)
end
end L5
end Go.Proofs.YtfmelbioccbdoaaGreat
end
section
namespace Go.Proofs.YtfmelbioccbdoaaGreat
open Go Go.Md Go.RowKit

end Go.Proofs.YtfmelbioccbdoaaGreat
end
section
namespace Go.Proofs.YtfmelbioccbdoaaGreat
open Go Go.Md Go.RowKit
attribute [local irreducible] Go.wpList Go.Code.wp Go.Calls Go.Md.vI Go.Md.Mt Go.Md.wR Go.Md.iL Go.Code.wpIn Go.wpListIn
section
theorem AKU(l1 l2 vs:List Value)(o:Nat):Md.wO (l1++l2) (l1.length+o) vs=l1++Md.wO l2 o vs:=by
 unfold Md.wO;rw[List.take_append,List.drop_append,List.take_of_length_le (by omega),List.drop_of_length_le (l:=l1) (by omega),show l1.length+o-l1.length=o by omega,show l1.length+o+vs.length-l1.length=o+vs.length by omega];simp[List.append_assoc]
def AHG(n mm:Int)(a1:Option Addr)(c1:Nat)(kv:Value)(L:List LLk):List Value:=[.int .i64 n,.int .i64 mm,.slice a1 L.length c1,kv]++List.replicate 24 (.int .i64 0)
def ACC(n mm:Int)(a1:Option Addr)(c1:Nat)(kv:Value)(L:List LLk)(P:LPt):List Value:=AHG n mm a1 c1 kv L++P.l.flatMap Flat.enc
theorem AGn{n mm:Int}{a1:Option Addr}{c1:Nat}{kv:Value}{L:List LLk}:(AHG n mm a1 c1 kv L).length=28:=rfl
theorem AKV{n mm:Int}{a1:Option Addr}{c1:Nat}{kv:Value}{L:List LLk}{P:LPt}{r v:Int}(h0:0<=r)(h1:r<12):Md.wO (ACC n mm a1 c1 kv L P) (28+r.toNat) [.int .i64 v]=ACC n mm a1 c1 kv L (AL1 P r v):=by
 have hP:P.l.length=12:=P.h;have e2:(AL1 P r v).l.flatMap Flat.enc=Md.wO (P.l.flatMap Flat.enc) (r.toNat*Enc.n Int) (Flat.enc v):=(AFJ P.l r.toNat v (by omega)).symm;have n2:Enc.n Int=1:=rfl;have h3:(Flat.enc v:List Value)=[.int .i64 v]:=rfl;unfold ACC;rw[<-AGn (n:=n) (mm:=mm) (a1:=a1) (c1:=c1) (kv:=kv) (L:=L),AKU,e2,n2,Nat.mul_one,h3]
structure Jnm(N:Nat)(w:World)(b:Nat)(n mm:Int)(a1:Option Addr)(c1:Nat)(kv:Value)(L:List LLk)(P:LPt):Prop where
 size:N<=w.heap.size
 lb:b<N
 bx:Bx w b 241 (ACC n mm a1 c1 kv L P)
 rv:RVo (fun q=>q<N/\q≠b) w (.slice a1 L.length c1) L
 kn:∃a2 c2,kv=.slice a2 0 c2/\c2<=maxLen
section
variable {N:Nat}{w w':World}{b:Nat}{n mm:Int}{a1:Option Addr}{c1:Nat}{kv:Value}{L:List LLk}{P P':LPt}
theorem Jnm.ext(h:Jnm N w b n mm a1 c1 kv L P)(k:Ext w w'):Jnm N w' b n mm a1 c1 kv L P:=⟨Nat.le_trans h.size k.size,h.lb,h.bx.ext k,h.rv.ext k,h.kn⟩
theorem Jnm.keep(h:Jnm N w b n mm a1 c1 kv L P)(k:BelP (fun q=>q≠b) N w w')(hb:Bx w' b 241 (ACC n mm a1 c1 kv L P')):Jnm N w' b n mm a1 c1 kv L P':=
 ⟨Nat.le_trans h.size k.size,h.lb,hb,h.rv.keep (fun q hq _=>k.block q hq.1 hq.2) k.size,h.kn⟩
theorem Jnm.chg{l:Nat}(h:Jnm N w b n mm a1 c1 kv L P)(k:Chg l w w')(hl:N<=l):Jnm N w' b n mm a1 c1 kv L P:=by
 have hb:=h.lb;exact⟨by rw[k.size];exact h.size,h.lb,h.bx.chg k (by omega),h.rv.chg k (by omega),h.kn⟩
theorem Jnm.part(h:Jnm N w b n mm a1 c1 kv L P):Cs w b 28 (P.l.flatMap Flat.enc):=by
 have:=(Bx.cs h.bx).snd (l1:=AHG n mm a1 c1 kv L);rwa [AGn]at this
theorem Jnm.set{v r:Int}(h:Jnm N w b n mm a1 c1 kv L P)(h0:0<=r)(h1:r<12)(k:Chg b w w')(hb:Bx w' b 241 (Md.wO (ACC n mm a1 c1 kv L P) (28+r.toNat) [.int .i64 v])):Jnm N w' b n mm a1 c1 kv L (AL1 P r v):=by
 rw[AKV h0 h1]at hb;exact h.keep (BelP.refl.chg k (.inr fun e=>e rfl)) hb
theorem Jnm.tak{B:Nat}(h:Jnm N w b n mm a1 c1 kv L P)(k:Tak B w w')(hB:N<=B):Jnm N w' b n mm a1 c1 kv L P:=by
 have hb:=h.lb;exact⟨by rw[k.size];exact h.size,h.lb,(k.low b (by omega)).trans h.bx,h.rv.keep (fun q hq _=>k.low q (by omega)) (by rw[k.size];exact Nat.le_refl _),h.kn⟩
def JE(N b:Nat)(n mm:Int)(a1:Option Addr)(c1:Nat)(kv:Value)(L:List LLk)(w:World):Prop:=∃P,Jnm N w b n mm a1 c1 kv L P
def KpJ(N b:Nat)(n mm:Int)(a1:Option Addr)(c1:Nat)(kv:Value)(L:List LLk)(ok:Nat->Prop)(B:Nat)(A C:World):Prop:=BelP ok B A C/\(JE N b n mm a1 c1 kv L A->JE N b n mm a1 c1 kv L C)
def Al(N:Nat)(w0:World)(b:Nat)(n mm:Int)(a1:Option Addr)(c1:Nat)(kv:Value)(L:List LLk)(v:Value)(p:Int->Bool):Prop:=
 ∃(g:FuncId)(fs cs:List Value),v=.func (.func g) (List.toArray fs) (List.toArray cs)/\Ad Tryz.prog g/\∀W P(k:Nat),BelP (fun q=>q≠b) N w0 W->Jnm N W b n mm a1 c1 kv L P->k<L.length->
  Calls Tryz.prog g (fs++([.int .i64 (k:Int)]:List Value)++cs).toArray W (aZ fun r W'=>r=.bool (p k)/\Ext W W')
theorem Al.keep{v:Value}{p:Int->Bool}(h:Al N w b n mm a1 c1 kv L v p)(k:BelP (fun q=>q≠b) N w w'):Al N w' b n mm a1 c1 kv L v p:=
 let⟨g,fs,cs,e,c,h⟩:=h
 ⟨g,fs,cs,e,c,fun W P j h1=>h W P j (k.trans h1)⟩
end
set_option maxHeartbeats 2000000 in
theorem APD{m:Nat}{N:Nat}{w:World}{bj bl bf b:Nat}{n mm:Int}{a1:Option Addr}{c1:Nat}{kv:Value}{L:List LLk}{P:LPt}{v:Value}{al:Int->Bool}{left:Int}{ok:Nat->Prop}
  (h1:Bx w bj 233 [.pointer (some ⟨b,0,none⟩)]) (h2:Bx w bl 3 [.int .i64 left]) (h3:Bx w bf 236 [v]) (n1:ok bj) (n2:ok bl) (n3:ok bf) (hJn:Jnm N w b n mm a1 c1 kv L P) (hA:Al N w b n mm a1 c1 kv L v al) (hok:∀q,q<N->q≠b->ok q):
  ABR Tryz.prog (KpJ N b n mm a1 c1 kv L ok w.heap.size) m 318 #[.pointer (some ⟨bj,0,none⟩),.pointer (some ⟨bl,0,none⟩),.pointer (some ⟨bf,0,none⟩)] ((AFt L al left).map fun k=>#[fv k]) w:=by
 intro ll J Jx W kW hJ hJx hY h0;have d1:=h1.ext kW;have JW:=hJn.ext kW;have hN:=hJn.size;have hNW:w.heap.size<=W.heap.size:=kW.size;refine(callsIn_wide.2 ?_:CallsIn Fence.wide m Tryz.prog 318 ([.func (.yield ll) #[] #[],.pointer (some ⟨bj,0,none⟩),.pointer (some ⟨bl,0,none⟩),.pointer (some ⟨bf,0,none⟩)].toArray) W _);refine Calls.mono (R:=aZ fun v W'=>J ((AFt L al left).map fun x=>#[fv x]).length W'\/Jx W') ?_ ?_
 rotate_left
 ·rintro e W'⟨v,rfl,h⟩
  exact⟨⟨v,rfl⟩,h⟩
 have hcap:=(RVo.rv hJn.rv).cap;refine kR (n:=34) Tryz.func318 rfl rfl rfl<|Zr<|Zv (Ap rfl APc ((Bx.cs d1).at 0 rfl))<|Zv (ABZ rfl)<|Zv (DY rfl ANo)<|Zv (DY rfl ANl)<|Zv (Ap rfl APY ((Bx.cs JW.bx).at 2 rfl))<|Zv (bF rfl Tryz.underlying108)<|Zm<|nl<|wp_block<|lp (I:=fun m' L' w1=>∃(k:Nat)(pre:List Int),k+m'=L.length/\AFt L al left=pre++yR L al left m' k/\L' 13=.int .i64 (k:Int)/\L' 12=.int .i64 (L.length:Int)/\L' 11=.slice a1 L.length c1/\L' 0=.func (.yield ll) #[] #[]/\L' 2=.pointer (some ⟨bl,0,none⟩)/\L' 3=.pointer (some ⟨bf,0,none⟩)/\J pre.length w1/\KpJ N b n mm a1 c1 kv L ok w.heap.size W w1) L.length
  ⟨0,[],by simp,rfl,rfl,rfl,rfl,rfl,rfl,rfl,h0,BelP.refl,id⟩ ?_
 rintro m' L' w1⟨k,pre,hk,hl,l13,l12,l11,l0,l2,l3,hj,hx,hje⟩;refine Zr<|Zv (Oi l13 l12)<|nl<|wp_seq<|cnd rfl (fun hc=>?_) (fun hc=>?_)
 ·have hc:(k:Int)<(L.length:Int):=by simpa using hc
  have hkl:k<L.length:=by omega
  obtain⟨m'',rfl⟩:∃q,m'=q+1:=⟨m'-1,by omega⟩;have hg:L[k]?=some L[k]:=List.getElem?_eq_getElem hkl;have hix:ix L (k:Int)=some L[k]:=by simp[ix,hg]
  obtain⟨P1,J1⟩:=hje ⟨P,JW⟩;have hz:=(RVo.sl.1 J1.rv);obtain⟨a2',c2',e3,_,_,els⟩:=hz;cases e3;have hz:=Els.ix els hix;obtain⟨b5,off5,cs5,rfl,i1,i2,q5,hcE⟩:=hz;obtain rfl:=Flat.iff.1 q5;have hadd:AX ((k:Int)+1)=((k+1:Nat):Int):=by
   rw[AX,IntWalk.i64_in _ (by unfold maxLen at hcap;omega)]
   rfl
  refine wp_skip<|wp_seq<|wp_block<|Zr<|Zv (Ko l13)<|Zv (Ci l11 l13 Tryz.underlying108 AG4 i1 i2)<|Zv (vG rfl AG4 rfl hcE)<|sal AG4 fun b6 w2 hx2 hg2 hb2=>Za<|zo rfl rfl rfl AG4 hb2 rfl rfl (ble rfl) fun w3 hch3 hb3=>?_;have kx3:Ext w1 w3:=hx2.chg hch3 hg2;have hj3:J pre.length w3:=hJ _ _ _ hj kx3;have hx3:=hx.ext kx3 (Nat.le_trans hNW hx.size);have J3:=J1.ext kx3;have d2:=((h2.ext kW).belp hx (by have:=h2.lt;omega) n2).ext kx3;have d3:=((h3.ext kW).belp hx (by have:=h3.lt;omega) n3).ext kx3;have hb3':Bx w3 b6 112 (Flat.enc L[k]):=hb3;have kA:BelP (fun q=>q≠b) N w w3:=(BelP.of kW hN).trans (hx3.weak fun q h4 h5=>⟨by omega,hok q h4 h5⟩);refine nl<|wp_seq<|rgW (m:=m)<|PE rfl rfl nofun (DY rfl ANm)<|PE rfl rfl nofun (Ap rfl CG ((Bx.cs hb3').at 0 rfl))<|PE rfl rfl nofun (Ap l2 CG ((Bx.cs d2).at 0 rfl))<|PE rfl rfl nofun (AAF rfl rfl)<|PE rfl rfl nofun YA<|Or.elim (Bool.eq_false_or_eq_true (decide (L[k].1=left))) (fun hf0=>?_) (fun hf0=>?_)
  ·refine xk rfl rfl rfl rfl rfl (Md.bt hf0)<|PE rfl rfl nofun (Ap l3 AEa ((Bx.cs d3).at 0 rfl))<|xk rfl rfl rfl rfl rfl (Md.bt hf0)<|PE rfl rfl nofun (Ko rfl)<|xk rfl rfl rfl rfl rfl (Md.bt hf0)<|?_
   obtain⟨g,fs,cs,hv,hcb,hcall⟩:=hA;refine clW rfl rfl nofun (xcv (fs:=fs) (cs:=cs) hv hcb (mc rfl mn) rfl) (hcall w3 P1 k kA J3 hkl) ?_;rintro _ w4⟨rfl,hx4⟩;have hj4:=hJ _ _ _ hj3 hx4;have hx4':=hx3.ext hx4 (Nat.le_trans hNW (Nat.le_trans hx.size kx3.size));have J4:=J3.ext hx4;refine PE rfl rfl nofun (wu rfl hf0 rfl)<|PE rfl rfl nofun YA<|Or.elim (Bool.eq_false_or_eq_true (al k)) (fun hf1=>?_) (fun hf1=>?_)
   ·have hfr:yR L al left (m''+1) k=(k:Int)::yR L al left m'' (k+1):=by
     simp only[yR,hg,hf1,hf0,Bool.and_self,if_true]
    have hus:((AFt L al left).map fun u=>(#[fv u]:Array Value))[pre.length]?=some #[fv (k:Int)]:=by
     rw[List.getElem?_map,hl,List.getElem?_append_right (Nat.le_refl _),Nat.sub_self,hfr]
     rfl
    have hz:=hY pre.length #[fv (k:Int)] w4 hus hj4;obtain⟨fn,tmps,assign,body,hy,hR⟩:=hz;refine xk rfl rfl rfl rfl rfl (Md.bt hf1)<|PE rfl rfl nofun (Ko l0)<|xk rfl rfl rfl rfl rfl (Md.bt hf1)<|PE rfl rfl nofun (Ko rfl)<|xk rfl rfl rfl rfl rfl (Md.bt hf1)<|ylW rfl rfl nofun (xyl rfl (mc rfl mn) hy) hR fun e w5 he=>?_;rcases he with⟨rfl,hj5,k5⟩|⟨rfl,hj5⟩
    ·refine⟨_,rfl,xk rfl rfl rfl rfl rfl (Md.bt hf1)<|PE rfl rfl nofun (zK rfl)<|PE rfl rfl nofun (wu rfl hf1 rfl)<|nlW<|cnd rfl (fun h=>by cases h) (fun _=>wp_skip<|rg<|Zv (MH l13 rfl)<|Zm<|nl ?_)⟩
     refine lq m'' (by omega) ⟨k+1,pre++[(k:Int)],by omega,by rw[hl,hfr,List.append_assoc];rfl,congrArg _ hadd,l12,l11,l0,l2,l3,?_,hx4'.trans k5.1,fun _=>k5.2 ⟨P1,J4⟩⟩;rw[List.length_append];exact hj5
    ·refine⟨_,rfl,xk rfl rfl rfl rfl rfl (Md.bt hf1)<|PE rfl rfl nofun (zK rfl)<|PE rfl rfl nofun (wu rfl hf1 rfl)<|nlW<|cnd rfl (fun _=>?_) (fun h=>by cases h)⟩
     exact wp_ret<|rt rfl .nil (.inr hj5)
   ·have hfr:yR L al left (m''+1) k=yR L al left m'' (k+1):=by
     simp only[yR,hg,hf1,hf0,Bool.and_false,if_false,Bool.false_eq_true]
    refine gfW rfl rfl rfl rfl rfl (Bh hf1) rfl<|gfW rfl rfl rfl rfl rfl (Bh hf1) rfl<|gfW rfl rfl rfl rfl rfl (Bh hf1) rfl<|gfW rfl rfl rfl rfl rfl (Bh hf1) rfl<|PE rfl rfl nofun (yB rfl hf1 rfl)<|nlW<|cnd rfl (fun h=>by cases h) (fun _=>?_);refine wp_skip<|rg<|Zv (MH l13 rfl)<|Zm<|nl ?_;exact lq m'' (by omega) ⟨k+1,pre,by omega,by rw[hl,hfr],congrArg _ hadd,l12,l11,l0,l2,l3,hj4,hx4',fun _=>⟨P1,J4⟩⟩
  ·have hfr:yR L al left (m''+1) k=yR L al left m'' (k+1):=by
    simp only[yR,hg,hf0,Bool.false_and,if_false,Bool.false_eq_true]
   refine gfW rfl rfl rfl rfl rfl (Bh hf0) rfl<|gfW rfl rfl rfl rfl rfl (Bh hf0) rfl<|gfW rfl rfl rfl rfl rfl (Bh hf0) rfl<|PE rfl rfl nofun (yB rfl hf0 rfl)<|PE rfl rfl nofun YA<|gfW rfl rfl rfl rfl rfl (Bh rfl) rfl<|gfW rfl rfl rfl rfl rfl (Bh rfl) rfl<|gfW rfl rfl rfl rfl rfl (Bh rfl) rfl<|gfW rfl rfl rfl rfl rfl (Bh rfl) rfl<|PE rfl rfl nofun (yB rfl rfl rfl)<|nlW<|cnd rfl (fun h=>by cases h) (fun _=>?_);refine wp_skip<|rg<|Zv (MH l13 rfl)<|Zm<|nl ?_;exact lq m'' (by omega) ⟨k+1,pre,by omega,by rw[hl,hfr],congrArg _ hadd,l12,l11,l0,l2,l3,hj3,hx3,fun _=>⟨P1,J3⟩⟩
 ·have hc:¬(k:Int)<(L.length:Int):=by simpa using hc
  obtain rfl:m'=0:=by omega
  refine wp_exit<|rtn rfl .nil (.inl ?_);rw[List.length_map,hl];simp only[yR,List.append_nil];exact hj
def LkV(lo:Nat)(w:World)(u:Value)(b:Nat)(left:Int)(v:Value):Prop:=∃bj bl bf,u=.func (.func 318) #[] #[.pointer (some ⟨bj,0,none⟩),.pointer (some ⟨bl,0,none⟩),.pointer (some ⟨bf,0,none⟩)]/\
 Bx w bj 233 [.pointer (some ⟨b,0,none⟩)]/\Bx w bl 3 [.int .i64 left]/\Bx w bf 236 [v]/\lo<=bj/\lo<=bl/\lo<=bf
theorem LkV.go{lo N:Nat}{w:World}{u v:Value}{b:Nat}{n mm:Int}{a1:Option Addr}{c1:Nat}{kv:Value}{L:List LLk}{P:LPt}{al:Int->Bool}{left:Int}{ok:Nat->Prop}(h:LkV lo w u b left v)(hJn:Jnm N w b n mm a1 c1 kv L P)(hA:Al N w b n mm a1 c1 kv L v al)(hok:∀q,q<N->q≠b->ok q)(hlo:∀q,lo<=q->ok q)(m:Nat):
  ∃gf cs,u=.func (.func gf) #[] cs/\Ad Tryz.prog gf/\ABR Tryz.prog (KpJ N b n mm a1 c1 kv L ok w.heap.size) m gf cs ((AFt L al left).map fun k=>#[fv k]) w:=by
 obtain⟨bj,bl,bf,rfl,h1,h2,h3,h4,h5,h6⟩:=h;exact⟨318,_,rfl,AQC,APD h1 h2 h3 (hlo _ h4) (hlo _ h5) (hlo _ h6) hJn hA hok⟩
end
end Go.Proofs.YtfmelbioccbdoaaGreat
end
section
namespace Go.Md
open Go Go.RowKit
section
variable {κ ν:Type}[DecidableEq κ][Enc κ][Flat κ][Key κ][Enc ν][Flat ν]{w w':World}{P:Program}{t tk te:TypeId}
end
section
variable {P:Program}{Q:Exit->Act->World->Prop}{n:Nat}{L:Fr}{D:List Deferred}{w:World}{ops:Array Oper}{rest:List Oper}
variable {ty:TypeId}{pos:String}{af:Array Edge}{x y z:Operand}{t tk te:TypeId}
variable {κ ν:Type}[DecidableEq κ][Enc κ][Flat κ][Key κ][Enc ν][Flat ν]
end
end Go.Md
namespace Go.Proofs.YtfmelbioccbdoaaGreat
open Go Go.Md Go.RowKit
attribute [local irreducible] Go.wpList Go.Code.wp Go.Calls Go.Md.vI Go.Md.Mt Go.Md.wR Go.Md.iL Go.Code.wpIn Go.wpListIn
theorem Jnm.asg{N B:Nat}{w w':World}{b:Nat}{n mm:Int}{a1:Option Addr}{c1:Nat}{kv:Value}{L:List LLk}{P:LPt}(h:Jnm N w b n mm a1 c1 kv L P)(k:Asg B w w')(hB:N<=B):Jnm N w' b n mm a1 c1 kv L P:=by
 obtain⟨W1,l,o,h1,h2,_,_,_,h3⟩:=k;exact(h.ext h2).chg h3 (by omega)
theorem Bx.isc{w:World}{b:Nat}{T:TypeId}{cs:List Value}(h:Bx w b T cs):∃o:Obj,w.heap[b]?=some o/\o.isCells=true:=⟨_,h,rfl⟩
end Go.Proofs.YtfmelbioccbdoaaGreat
end
section
namespace Go.Proofs.YtfmelbioccbdoaaGreat
open Go Go.Md Go.RowKit
attribute [local irreducible] Go.wpList Go.Code.wp Go.Calls Go.Md.vI Go.Md.Mt Go.Md.wR Go.Md.iL Go.Code.wpIn Go.wpListIn

section
abbrev ALY:=Int×Int×List LLk×List Int
def VLk(L:List LLk):Prop:=L.length<=1000/\∀x∈L,(0<=x.2/\x.2<12)/\0<=x.1/\x.1<12
instance {L:List LLk}:Decidable (VLk L):=inferInstanceAs (Decidable (_/\_))
theorem AEP{B:Nat}{w w1 w2:World}(h:Ext w w1)(k:Below B w1 w2)(hB:w.heap.size<=B):Ext w w2:=
 ⟨k.os.trans h.os,k.tape.trans h.tape,k.output.trans h.output,Nat.le_trans h.size k.size,fun q hq=>(k.block q (by omega)).trans (h.block q hq)⟩
section
variable {N M:Nat}{w w':World}{b:Nat}{n mm:Int}{a1:Option Addr}{c1:Nat}{kv:Value}{L:List LLk}{P P':LPt}
theorem Jnm.mono(h:Jnm N w b n mm a1 c1 kv L P)(h1:N<=M)(h2:M<=w.heap.size):Jnm M w b n mm a1 c1 kv L P:=⟨h2,by have:=h.lb;omega,h.bx,h.rv.mono fun q _ hq=>⟨by omega,hq.2⟩,h.kn⟩
theorem Jnm.rep(h:Jnm N w b n mm a1 c1 kv L P):Enc.rep (fun _=>True) w (ACC n mm a1 c1 kv L P) ((((n,mm,L,[]):ALY),(Ar.fill 2 (Ar.fill 12 0)),P):ALY×Ar 2 (Ar 12 Int)×Ar 12 Int):=by
 obtain⟨a,cc,e,h3,h4,h5⟩:=RVo.sl.1 (RVo.rv h.rv);cases e;obtain⟨a2,c2,rfl,h6⟩:=h.kn;refine⟨[.int .i64 n,.int .i64 mm,.slice a1 L.length c1,.slice a2 0 c2],List.replicate 24 (.int .i64 0)++P.l.flatMap Flat.enc,by unfold ACC AHG;rw[List.append_assoc],?_,?_⟩
 ·exact⟨[.int .i64 n],[.int .i64 mm]++([.slice a1 L.length c1]++[.slice a2 0 c2]),rfl,rfl,[.int .i64 mm],[.slice a1 L.length c1]++[.slice a2 0 c2],rfl,rfl,[.slice a1 L.length c1],[.slice a2 0 c2],rfl,⟨a1,c1,rfl,h3,h4,h5⟩,a2,c2,rfl,Nat.zero_le _,h6,.inl rfl⟩
 ·exact⟨List.replicate 24 (.int .i64 0),P.l.flatMap Flat.enc,rfl,rfl,rfl⟩
end
theorem AN9{F:Nat}{x:Int}(hF:0<F):slices_Contains_int F [] x=some false:=by
 obtain⟨F,rfl⟩:∃g,F=g+1:=⟨F-1,by omega⟩
 rfl
end
end Go.Proofs.YtfmelbioccbdoaaGreat
end
section
namespace Go.Md
open Go Go.RowKit
section
variable {P:Program}{n:Nat}{L:Fr}{w:World}{ty:TypeId}{pos:String}{af:Array Edge}{dst:Option Nat}{gdd:Option (Nat×Bool)}{x z:Operand}
end
end Go.Md
namespace Go.Proofs.YtfmelbioccbdoaaGreat
open Go Go.Md Go.RowKit
attribute [local irreducible] Go.wpList Go.Code.wp Go.Calls Go.Md.vI Go.Md.Mt Go.Md.wR Go.Md.iL Go.Code.wpIn
end Go.Proofs.YtfmelbioccbdoaaGreat
end
section
namespace Go.Proofs.YtfmelbioccbdoaaGreat
open Go Go.Md Go.RowKit
attribute [local irreducible] Go.wpList Go.Code.wp Go.Calls Go.Md.vI Go.Md.Mt Go.Md.wR Go.Md.iL Go.Code.wpIn


end Go.Proofs.YtfmelbioccbdoaaGreat
end
section
namespace Go.Proofs.YtfmelbioccbdoaaGreat
open Go Go.Md Go.RowKit


end Go.Proofs.YtfmelbioccbdoaaGreat
end
section
namespace Go.Proofs.YtfmelbioccbdoaaGreat
open Go Go.Md Go.RowKit
attribute [local irreducible] Go.wpList Go.Code.wp Go.Calls Go.Md.vI Go.Md.Mt Go.Md.wR Go.Md.iL Go.Code.wpIn Go.wpListIn


end Go.Proofs.YtfmelbioccbdoaaGreat
end
section
namespace Go.Proofs.YtfmelbioccbdoaaGreat
open Go Go.Md Go.RowKit
attribute [local irreducible] Go.wpList Go.Code.wp Go.Calls Go.Md.vI Go.Md.Mt Go.Md.wR Go.Md.iL Go.Code.wpIn

end Go.Proofs.YtfmelbioccbdoaaGreat
end
section
namespace Go.Md
open Go Go.RowKit
section
section
variable {α:Type}[Enc α]{lo base:Nat}{e:TypeId}{w:World}{l:List α}
theorem DRowO.el{a:Option Addr}{m cap:Nat}(h:DRowO lo e base w (.slice a m cap) l){i:Int}{x:α}(hi:ix l i=some x):
  ∃b off cs,a=some ⟨b,off,none⟩/\0<=i/\i<l.length/\Enc.rep (fun _=>True) w cs x/\Cs w b (off+i.toNat*Enc.n α) cs/\Enc.rep (fun q=>q<lo) w cs x:=by
 obtain⟨S,h1,h2,h3⟩:=h;obtain⟨h0,hlt,hx⟩:=zL hi;have hs:i.toNat<S.length:=by omega
 have e1:S[i.toNat]?=some S[i.toNat]:=List.getElem?_eq_getElem hs;obtain⟨b,off,cs,e2,-,-,c1,c2⟩:=(RV.els h1.rv).ix (i:=i) (x:=S[i.toNat]) (by unfold ix;rw[if_pos h0,e1]);have c1':cs=S[i.toNat].l:=c1;subst c1';have h4:=h3 _ _ _ e1 hx;exact⟨b,off,_,e2,h0,hlt,Enc.mono (fun _ _ _=>trivial) h4,c2,Enc.mono (fun _ _ hq=>hq.1) h4⟩
end
end
end Go.Md
end
section
namespace Go.Proofs.YtfmelbioccbdoaaGreat
open Go Go.Md Go.RowKit
attribute [local irreducible] Go.wpList Go.Code.wp Go.Calls Go.Md.vI Go.Md.Mt Go.Md.wR Go.Md.iL Go.Code.wpIn


end Go.Proofs.YtfmelbioccbdoaaGreat
end
section
namespace Go.Proofs.YtfmelbioccbdoaaGreat
open Go Go.Md Go.RowKit

def yS(F:Nat)(x0:Int)(x3:(List Int)):Nat->Int->Int->Option (Sum Bool (Unit))
 |0,_,_=>none
 |m+1,y2,y3=>
  if(decide (y3<(x3.length:Int)))=true then
   (ix x3 y3)>>=fun x4=>
   if((decide (x4<=y2))||(decide (x0<=x4)))=true then
    some (.inl false)
   else
    yS F x0 x3 m x4 (AX (y3+1))
  else
   some (.inr ())
def yT(F:Nat)(x0:Int)(x1:(List (List Int))):Nat->Int->Option (Sum Bool (Unit))
 |0,_=>none
 |m+1,y1=>
  if(decide (y1<(x1.length:Int)))=true then
   (ix x1 y1)>>=fun x3=>
   ((yS F x0 x3 F (-1) 0)>>=fun o=>match o with
    |.inl r=>some (.inl r)
    |.inr ()=>
     yT F x0 x1 m (AX (y1+1)))
  else
   some (.inr ())
def AAz(F:Nat)(x0:Int)(x1:(List (List Int))):Option Bool:=
 ((yT F x0 x1 F 0)>>=fun o=>match o with
  |.inl r=>some r
  |.inr ()=>
   some true)
def AAR(x0:Int)(x1:(Int×(List (Int×Int×Int))×(List Int)×(List Int))):Option Bool:=
 some ((decide (0<=x0))&&(decide (x0<x1.1)))
def AAs(x0:(Int×Int×Int))(x1:(Int->Option Bool)):Option Bool:=
 (((x1 x0.1)>>=fun x5=>
 if(!x5)=true then
  if true=true then
   some true
  else
   if(decide (x0.1=x0.2.1))=true then
    some (decide (1000000<x0.2.2))
   else
    if(decide (x0.2.2<1))=true then
     some true
    else
     some (decide (1000000<x0.2.2))
 else
  (x1 x0.2.1)>>=fun x6=>
  if(!x6)=true then
   if true=true then
    some true
   else
    if(decide (x0.2.2<1))=true then
     some true
    else
     some (decide (1000000<x0.2.2))
  else
   if(decide (x0.1=x0.2.1))=true then
    if true=true then
     some true
    else
     some (decide (1000000<x0.2.2))
   else
    if(decide (x0.2.2<1))=true then
     some true
    else
     some (decide (1000000<x0.2.2)):Option (Bool))>>=fun y1=>
 some y1)
def ACD(x0:(List Int)):Option Bool:=
 some ((decide (0<(x0.length:Int)))&&(decide ((x0.length:Int)<=10)))
def XB(F:Nat)(x0:(List (Int×Int×Int)))(x1:((Int×Int×Int)->Option Bool)):Nat->Int->Option (Sum Int (Unit))
 |0,_=>none
 |m+1,y1=>
  if(decide (y1<(x0.length:Int)))=true then
   (ix x0 y1)>>=fun x3=>
   (x1 (x3.1,x3.2.1,x3.2.2))>>=fun x4=>
   if x4=true then
    some (.inl y1)
   else
    XB F x0 x1 m (AX (y1+1))
  else
   some (.inr ())
def xe(F:Nat)(x0:(List (Int×Int×Int)))(x1:((Int×Int×Int)->Option Bool)):Option Int:=
 ((XB F x0 x1 F 0)>>=fun o=>match o with
  |.inl r=>some r
  |.inr ()=>
   some (-1))
def vZ(F:Nat)(x0:(List (Int×Int×Int)))(x1:((Int×Int×Int)->Option Bool)):Option Bool:=
 (xe F x0 x1)>>=fun x3=>
 some (decide (0<=x3))
def AAt(F:Nat)(x0:Int)(x1:(Int×(List (Int×Int×Int))×(List Int)×(List Int))):Option Bool:=
 (slices_Contains_int F x1.2.2.2 x0)>>=fun x3=>
 some x3
def AAN(F:Nat)(x0:(Int×(List (Int×Int×Int))×(List Int)×(List Int))):Option Int:=
 (gd (!(((decide (x0.1<2))||(decide (40<x0.1)))||(decide (120<(x0.2.1.length:Int))))) (ACD x0.2.2.1) false)>>=fun x2=>
 (gd (!((((decide (x0.1<2))||(decide (40<x0.1)))||(decide (120<(x0.2.1.length:Int))))||(!x2))) (ACD x0.2.2.2) false)>>=fun x3=>
 if(((((decide (x0.1<2))||(decide (40<x0.1)))||(decide (120<(x0.2.1.length:Int))))||(!x2))||(!x3))=true then
  some 6
 else
  (vZ F x0.2.1 (fun y=>AAs y (fun y=>AAR y (x0.1,x0.2.1,x0.2.2.1,x0.2.2.2))))>>=fun x4=>
  if x4=true then
   some 2
  else
   (AAz F x0.1 ([x0.2.2.1,x0.2.2.2]:List (List Int)))>>=fun x5=>
   if(!x5)=true then
    some 3
   else
    (yE F x0.2.2.1 (fun y=>AAt F y (x0.1,x0.2.1,x0.2.2.1,x0.2.2.2)))>>=fun x6=>
    if x6=true then
     some 21
    else
     some 0
def vJ(F:Nat)(x0:(List Int))(x1:(Int->Option Bool)):Nat->Int->Option (Sum Int (Unit))
 |0,_=>none
 |m+1,y1=>
  if(decide (y1<(x0.length:Int)))=true then
   (ix x0 y1)>>=fun x3=>
   (x1 x3)>>=fun x4=>
   if x4=true then
    some (.inl y1)
   else
    vJ F x0 x1 m (AX (y1+1))
  else
   some (.inr ())
def zu(F:Nat)(x0:(List Int))(x1:(Int->Option Bool)):Option Int:=
 ((vJ F x0 x1 F 0)>>=fun o=>match o with
  |.inl r=>some r
  |.inr ()=>
   some (-1))
def xF(x0:Int):Option Bool:=
 some (decide (x0=0))
end Go.Proofs.YtfmelbioccbdoaaGreat
end
section
namespace Go.Proofs.YtfmelbioccbdoaaGreat
open Go Go.Md Go.RowKit
attribute [local irreducible] Go.wpList Go.Code.wp Go.Calls Go.Md.vI Go.Md.Mt Go.Md.wR Go.Md.iL Go.Code.wpIn
theorem c21{w0:World}{v0:Value}{x0:(List (Int×Int))}(r0:RV w0 v0 x0){F:Nat}{r:((List Int)×Int)}(hF:ABX F x0=some r):
  Calls Tryz.prog 21 [v0].toArray w0 (aZ fun v w'=>∃u0:Value,v=.tuple #[u0,.int .i64 r.2]/\RV w' u0 r.1/\Ext w0 w'):=by
 unfold ABX at hF;have hz:=r0.sl;obtain⟨a1,cq1,rfl,-,-,-⟩:=hz;refine kR (n:=29) Tryz.func21 rfl rfl rfl<|Zr<|Za<|Za<|nl<|wp_seq<|Zr<|Zm<|bS hF fun x2 Ex2 hF=>Zc (xc AL6 (mc rfl mn)) (c95 r0 Ex2) ?_;rintro _ w1⟨rfl,hx1⟩;have r2:=r0.ext hx1;refine Za<|nl<|Zr<|Zm<|Zv (AAA rfl rfl)<|nl<|cnd rfl (fun h2=>?_) (fun h2=>?_)
 ·have hF:=Cj hF h2;refine Zr<|Zm<|Za<|Za<|nl<|?_;cases hF;exact wp_ret<|rt rfl (.tmp rfl rfl (.tmp rfl rfl .nil)) ⟨_,rfl,(RVo.nil (Nat.zero_le _)),hx1⟩
 ·have hF:=DF hF h2;refine wp_skip<|Zr<|Zm<|bS hF fun x3 Ex3 hF=>Zc (xc AJW (mc rfl mn)) (c96 r2 Ex3) ?_;rintro _ w2⟨u1,rfl,r3,hx2⟩;have k1:=hx1.tr hx2;have hz:=AG9 r3;obtain⟨a2,rfl⟩:=hz;refine Zv (AAQ (r:=[.int .i64 1,.int .i64 0]) oG AHL (pc rfl pn) rfl)<|bS hF fun x4 Ex4 hF=>?_;have hz:=AFL r3 Ex4;obtain⟨b2,cs2,e1,q2,hc1⟩:=hz;cases e1;obtain⟨a3,cq2,rfl,p1,q3,e2⟩:=q2;have r4:=RV.of1 p1 q3 e2;refine bS hF fun x5 Ex5 hF=>Zc (xc AHO (mc rfl (mc rfl mn))) (c97 (x0:=(⟨x4.v⟩:(Uno (List ((Int×Int)×Int))))) hc1 r4.rep1 (show RV (α:=(Int×Int)) _ (.agg [.int .i64 1,.int .i64 0].toArray) (1,0)from⟨_,rfl,[.int .i64 1],[.int .i64 0],rfl,rfl,rfl⟩) Ex5) ?_;rintro _ w3⟨u2,u3,rfl,r5,r6,hx3⟩;have k2:=k1.tr hx3;have hz:=RV.sl r5.rv;obtain⟨a4,cq3,rfl,-,-,-⟩:=hz;have hz:=RV.sl r6.rv;obtain⟨a5,cq4,rfl,-,-,-⟩:=hz;refine Zm<|Zv (zW rfl rfl)<|Zv (zW rfl rfl)<|Za<|Za<|nl<|Zr<|Zm<|Zv (bF rfl Tryz.underlying41)<|bS hF fun x6 Ex6 hF=>AJb (α:=Int) (z0:=0) rfl rfl Tryz.underlying41 CG rfl rfl rfl Ex6 fun b3 w4 hx4 o1=>?_;have k3:=k2.tr hx4;have r7:=r6.ext hx4;refine Za<|nl<|Zr<|Zm<|Zm<|ARS (l:=x6) (k:=x5.2) rfl rfl Tryz.underlying41 CG o1 r7.rv fun w5 cq5 hch1 o2=>?_;have k5:=Ext.chg k3 hch1 (Nat.le_trans k2.size (Row.ge o1));have k7:=Ext.chg hx4 hch1 (Nat.le_trans (Nat.le_refl _) (Row.ge o1));refine nl<|Zr<|Zm<|bS hF fun x7 Ex7 hF=>Zc (xc ARH (mc rfl mn)) (ARa k7.size o2 Ex7) ?_;rintro _ w6⟨rfl,o3,hB1,hgr1⟩;have k8:=Ext.grow k5 k2.size hB1;have k10:Ext w3 w6:=k7.trans hB1;refine nl<|Zr<|Zm<|Za<|Za<|nl<|?_;cases hF;exact wp_ret<|rt rfl (.tmp rfl rfl (.tmp rfl rfl .nil)) ⟨_,rfl,o3.rv,k8⟩


theorem c15{w0:World}{F:Nat}{r:Bool}(hF:ADE F=some r):
  Calls Tryz.prog 15 [].toArray w0 (aZ fun v w'=>v=.bool r/\Ext w0 w'):=by
 unfold ADE at hF;refine kR (n:=8) Tryz.func15 rfl rfl rfl<|Zr<|Za<|nl<|Zr<|bS hF fun x1 Ex1 hF=>Zc (xc ARC mn) (ARi Ex1) ?_;rintro _ w1⟨rfl,hx1⟩;refine Zm<|bS hF fun x2 Ex2 hF=>gc rfl rfl rfl rfl (gw1 rfl) rfl (fun hc=>xc ARD mn) (fun hc=>(ARj (gdp Ex2 hc))) (fun v1 w2 hy1 hn1=>?_);have hx2:Ext w1 w2:=gx (fun h=>(hy1 h).2) (fun h=>(hn1 h).2▸Ext.refl _);have e1:=mkw (fun h=>(hy1 h).1) (fun h=>(hn1 h).1);have k1:=hx1.tr hx2;refine Zv (xpa rfl e1 rfl)<|Zm<|bS hF fun x3 Ex3 hF=>gc rfl rfl rfl rfl (gw1 rfl) rfl (fun hc=>xc ARF mn) (fun hc=>(ARk (gdp Ex3 hc))) (fun v2 w3 hy2 hn2=>?_);have hx3:Ext w2 w3:=gx (fun h=>(hy2 h).2) (fun h=>(hn2 h).2▸Ext.refl _);have e2:=mkw (fun h=>(hy2 h).1) (fun h=>(hn2 h).1);have k2:=k1.tr hx3;refine Zv (xpa rfl e2 rfl)<|Za<|nl<|?_;cases hF;exact wp_ret<|Zw rfl rfl rfl ⟨rfl,k2⟩
theorem c35{w0:World}{F:Nat}{r:Bool}(hF:ADF F=some r):
  Calls Tryz.prog 35 [].toArray w0 (aZ fun v w'=>v=.bool r/\Ext w0 w'):=by
 unfold ADF at hF;refine kR (n:=5) Tryz.func35 rfl rfl rfl<|Zr<|Za<|nl<|Zr<|bS hF fun x1 Ex1 hF=>Zc (xc AQ4 mn) (c15 Ex1) ?_;rintro _ w1⟨rfl,hx1⟩;refine Zm<|bS hF fun x2 Ex2 hF=>gc rfl rfl rfl rfl (gw1 rfl) rfl (fun hc=>xc APl mn) (fun hc=>(AQb (gdp Ex2 hc))) (fun v1 w2 hy1 hn1=>?_);have hx2:Ext w1 w2:=gx (fun h=>(hy1 h).2) (fun h=>(hn1 h).2▸Ext.refl _);have e1:=mkw (fun h=>(hy1 h).1) (fun h=>(hn1 h).1);have k1:=hx1.tr hx2;refine Zv (xpa rfl e1 rfl)<|Za<|nl<|?_;cases hF;exact wp_ret<|Zw rfl rfl rfl ⟨rfl,k1⟩

def G2(r1 r2:Option Nat)(w w':World):Prop:=∃wm,w.grownBy wm r1/\wm.grownBy w' r2
theorem G2.refl{r1 r2:Option Nat}{w:World}:G2 r1 r2 w w:=⟨w,Ext.gro (Ext.refl _),Ext.gro (Ext.refl _)⟩
theorem G2.of1{r1 r2:Option Nat}{w w':World}(h:w.grownBy w' r1):G2 r1 r2 w w':=⟨w',h,Ext.gro (Ext.refl _)⟩



end Go.Proofs.YtfmelbioccbdoaaGreat
end
