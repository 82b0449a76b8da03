/-
  Part 7 of 10 of what the last text stands on: lemmas about the model, pure functions, walks, laws in plain Lean; each part's own head says its condition. Merged by a program of our own.
-/
import Derived.Test.YtfmelbioccbdoaaGreatStepListsQf
import Derived.Scope
import Derived.IntWalk
import Derived.RangeFuncNested
import Derived.Maps.RangeRun
set_option maxHeartbeats 0
set_option linter.all false
section
namespace Go.Proofs.YtfmelbioccbdoaaGreat
open Go Go.Md Go.RowKit
theorem works_c{f:FuncId}(h:∀w,Calls Tryz.prog f #[] w fun e w'=>e=.returned (.bool true)/\Below w.heap.size w w'){w0:World}{r:Bool}(hr:some true=some r):
  Calls Tryz.prog f [].toArray w0 (BV fun v w'=>v=.bool r/\Ext w0 w'):=by
 cases hr;exact(h w0).mono fun e w' h=>⟨_,h.1,rfl,h.2⟩
def MQ(_:Nat):Option Bool:=some true
theorem kY{w0:World}{F:Nat}{r:Bool}(hF:MQ F=some r):Calls Tryz.prog 86 [].toArray w0 (BV fun v w'=>v=.bool r/\Ext w0 w'):=works_c iP hF
def MR(_:Nat):Option Bool:=some true
theorem kZ{w0:World}{F:Nat}{r:Bool}(hF:MR F=some r):Calls Tryz.prog 87 [].toArray w0 (BV fun v w'=>v=.bool r/\Ext w0 w'):=works_c iZ hF
def MS(_:Nat):Option Bool:=some true
theorem kg{w0:World}{F:Nat}{r:Bool}(hF:MS F=some r):Calls Tryz.prog 88 [].toArray w0 (BV fun v w'=>v=.bool r/\Ext w0 w'):=works_c iR hF
def MU(_:Nat):Option Bool:=some true
theorem ic{w0:World}{F:Nat}{r:Bool}(hF:MU F=some r):Calls Tryz.prog 116 [].toArray w0 (BV fun v w'=>v=.bool r/\Ext w0 w'):=works_c dI hF
def Ko(F:Nat):Option Bool:=
 (MQ F)>>=fun x1=>
 (gd x1 (MR F) false)>>=fun x2=>
 (gd (x1&&x2) (MS F) false)>>=fun x3=>
 some ((x1&&x2)&&x3)
def JG(x0:(Yz×(List (Int×Bool))×(Ar 16 (Ar 16 Int))×Opq×Opq))(x1:(Int×Int))(x2:Int):Option (Int×Int):=
 (ix x0.2.1 x2)>>=fun x4=>
 (shl .i64 1 x4.1)>>=fun x5=>
 some (QH .i64 x1.1 x5,x2)
def Gi(x0:Int)(x1:(Int×Int))(x2:(Ob (Yz×(List (Int×Bool))×(Ar 16 (Ar 16 Int))×Opq×Opq))):Option Bool:=
 (x2.v)>>=fun x4=>
 (ix x4.2.1 x0)>>=fun x5=>
 (shr .i64 x1.1 x5.1)>>=fun x6=>
 some (decide ((band .i64 x6 1)=0))
end Go.Proofs.YtfmelbioccbdoaaGreat
end
section
namespace Go.Proofs.YtfmelbioccbdoaaGreat
open Go Go.Md Go.RowKit
attribute [local irreducible] Go.wpList Go.Code.wp Go.Calls Go.Md.Cu Go.Md.Mt Go.Md.Dl Go.Md.Ch Go.Code.wpIn
theorem jR{w0:World}{b0:Nat}{cs0:List Value}{x0:(Uno (List ((Int×Int)×Int)))}(h0:Cs w0 b0 0 cs0)(q0:Enc.rep (fun _=>True) w0 cs0 x0){v1:Value}{x1:(Int×Int)}(r1:RV w0 v1 x1){F:Nat}{r:((List Int)×(List Int))}(hF:Ee F x0 x1=some r):
  Calls Tryz.prog 97 [.pointer (some ⟨b0,0,none⟩),v1].toArray w0 (BV fun v w'=>∃u0 u1:Value,v=.tuple #[u0,u1]/\Row 2 w0.heap.size w' u0 r.1/\Row 3 w0.heap.size w' u1 r.2/\Ext w0 w'):=by
 unfold Ee at hF;obtain⟨a1,cq1,rfl,p1,q3,e1⟩:=q0;have r3:=RV.of1 p1 q3 e1;have hz:=id r1;obtain⟨_,rfl,_,_,rfl,rfl,rfl⟩:=hz;have M1:Mks w0.heap.size [] w0:=Mks.nil;refine ZF (m:=12) (n:=52) Tryz.func97 rfl rfl rfl<|Zr<|FJ rfl rfl fun b3 w1 hx1 hg1 hb1=>?_;have M2:=M1.ext hx1;refine Za<|Za<|nl<|wp_scope_straight<|Zr<|FT UU fun b4 w2 hx2 hg2 hb2=>?_;have k1:=hx1.tr hx2;have M3:=M2.ext hx2;refine nl<|Zr<|FT JD fun b5 w3 hx3 hg3 hb4=>?_;have k2:=k1.tr hx3;have k3:=hx2.tr hx3;have M4:=M3.ext hx3;have hb6:=hb2.ext hx3;refine nl<|Zr<|FT Du fun b6 w4 hx4 hg4 hb7=>?_;have k4:=k2.tr hx4;have k5:=k3.tr hx4;have M5:=M4.ext hx4;refine EW rfl rfl rfl Du hb7 rfl rfl (ble rfl) fun w5 hch1 hb11=>?_;have k7:=Ext.chg k4 hch1 (Nat.le_trans k2.size hg4);have k8:=Ext.chg k5 hch1 (Nat.le_trans k3.size hg4);have k10:=Ext.chg hx4 hch1 (Nat.le_trans (Nat.le_refl _) hg4);have M6:=M5.chg hch1 hb7.nd;have hb13:=hb6.ext k10;have hb14:=hb4.ext k10;have hb15:Bx w5 b6 2 [.int .i64 (-1)]:=hb11;refine nl<|wp_seq<|wp_label<|wp_seq<|Zr<|Zm<|?_;have q4:RVo (·<w0.heap.size) w5 (.pointer (some ⟨b0,0,none⟩)) (⟨some (⟨x0.v⟩:(Uno (List ((Int×Int)×Int))))⟩:Ob (Uno (List ((Int×Int)×Int)))):=RVo.ext (RV.old (w:=w0) (ZC h0 rfl r3.rep1)) k7;refine bS hF fun x3 Ex3 hF=>Zc (xc gD (mc rfl mn)) (kP (a:=w0.heap.size) q4 (Below.size k7) Ex3) ?_;rintro v3 w6⟨sq1,hx5⟩;have k11:=k7.tr hx5;have k12:=k8.tr hx5;have M7:=M6.ext hx5;have hb17:=hb13.ext hx5;have hb18:=hb14.ext hx5;have hb19:=hb15.ext hx5;refine nl<|?_;have hin1:w0.heap.size<=b4/\b4<w5.heap.size:=⟨(Nat.le_trans hx1.size hg2),hb13.lt⟩;have hin2:w0.heap.size<=b5/\b5<w5.heap.size:=⟨(Nat.le_trans k1.size hg3),hb14.lt⟩;have hin3:w0.heap.size<=b6/\b6<w5.heap.size:=⟨(Nat.le_trans k2.size hg4),hb15.lt⟩;have hz:=bs hF;obtain⟨⟨z1,z2,z3⟩,hB1,hF⟩:=hz;refine jM w0.heap.size (fun L w=>∃v6 v7:Value,Bx w b4 28 [v6]/\Row 2 w6.heap.size w v6 z1/\some b4≠Value.ownBlock v6/\Bx w b5 41 [v7]/\Row 3 w6.heap.size w v7 z2/\some b5≠Value.ownBlock v7/\Bx w b6 2 (Flat.enc z3)/\Apart (v6) (v7)/\w6.heap.size<=w.heap.size/\Ext w1 w/\L 6=.pointer (some ⟨b4,0,none⟩)/\L 7=.pointer (some ⟨b5,0,none⟩)) ?_ ?_
 ·refine wp_block<|rangeB (α:=((Int×Int)×Int)) (xs:=x3) (m:=12) (by decide) rfl KpOk.beli (SeqV.go (by decide) sq1) rfl rfl rfl BI rfl (fun k w=>∃y1:(List Int),∃y2:(List Int),∃y3:Int,∃v4 v5:Value,Bz F x1 (List.drop k x3) y1 y2 y3=some (z1,z2,z3)/\Bx w b4 28 [v4]/\Row 2 w6.heap.size w v4 y1/\some b4≠Value.ownBlock v4/\Bx w b5 41 [v5]/\Row 3 w6.heap.size w v5 y2/\some b5≠Value.ownBlock v5/\Bx w b6 2 (Flat.enc y3)/\Apart (v4) (v5)/\w6.heap.size<=w.heap.size/\Ext w1 w/\Out w5.heap.size w6.heap.size v4/\Out w5.heap.size w6.heap.size v5/\Mks w0.heap.size [] w/\w6.heap.size<=w.heap.size) (fun c w=>∃v6 v7:Value,c=.exit 0/\Bx w b4 28 [v6]/\Row 2 w6.heap.size w v6 z1/\some b4≠Value.ownBlock v6/\Bx w b5 41 [v7]/\Row 3 w6.heap.size w v7 z2/\some b5≠Value.ownBlock v7/\Bx w b6 2 (Flat.enc z3)/\Apart (v6) (v7)/\w6.heap.size<=w.heap.size/\Ext w1 w/\Mks w0.heap.size [] w) (fun k=>Okb.ex fun _=>Okb.ex fun _=>Okb.ex fun _=>Okb.ex fun _=>Okb.ex fun _=>(Okb.and Okb.pure (Okb.and Okb.bx (Okb.and Okb.row (Okb.and Okb.pure (Okb.and Okb.bx (Okb.and Okb.row (Okb.and Okb.pure (Okb.and Okb.bx (Okb.and Okb.pure (Okb.and Okb.size (Okb.and (Okb.extw k12.size) (Okb.and Okb.pure (Okb.and Okb.pure (Okb.and (Okb.mks M7 rfl) Okb.size))))))))))))))) (fun c=>Okb.ex fun _=>Okb.ex fun _=>(Okb.and Okb.pure (Okb.and Okb.bx (Okb.and Okb.row (Okb.and Okb.pure (Okb.and Okb.bx (Okb.and Okb.row (Okb.and Okb.pure (Okb.and Okb.bx (Okb.and Okb.pure (Okb.and Okb.size (Okb.and (Okb.extw k12.size) (Okb.mks M7 rfl))))))))))))) ⟨_,_,_,_,_,hB1,hb17,Row.nil,(fun e=>by cases e),hb18,Row.nil,(fun e=>by cases e),hb19,Apart.nil1,(Nat.le_refl _),k12,Out.nil,Out.nil,M7,(Nat.le_refl _)⟩ ?round (fun k A h=>by obtain⟨_,_,_,_,_,_,_,_,_,_,_,_,_,_,_,_,_,_,_,_⟩:=h;assumption) ?done ?stop
  case round=>
   rintro _ k x4 w7 w8 b7 hx6⟨y1,y2,y3,v4,v5,hB1,B6_i1a,O6c1_i1a,N6c1_i1,B7_i1a,O7c1_i1a,N7c1_i1,B8_i1a,X0_i1,Z0_i1a,K0_i1a,U1,U2,M8a,sz1a⟩ ha1 hA1 hg5 hb20;rw[Tx hx6]at hB1;rw[Bz]at hB1;have B6_i1:=B6_i1a.asg ha1;have O6c1_i1:=O6c1_i1a.asg ha1;have B7_i1:=B7_i1a.asg ha1;have O7c1_i1:=O7c1_i1a.asg ha1;have B8_i1:=B8_i1a.asg ha1;have Z0_i1:=Nat.le_trans Z0_i1a ha1.size;have K0_i1:=Below.asg K0_i1a ha1 k12.size;have M8:=M8a.asg ha1;have sz1:=Nat.le_trans sz1a ha1.size;have hb21:=hb1.ext K0_i1;have hz:=RV.sl O6c1_i1.rv;obtain⟨a2,cq2,rfl,-,-,-⟩:=hz;have hz:=RV.sl O7c1_i1.rv;obtain⟨a3,cq3,rfl,-,-,-⟩:=hz;have kf1:KeepsFrom w6.heap.size w8 w8:=KeepsFrom.refl _ _;have bi1:BelI w0.heap.size w5.heap.size w6.heap.size w8 w8:=BelI.refl;refine wpIn_block<|wpIn_seq<|wpIn_seq<|Iy rfl<|Zv (Ah rfl Kw)<|Zv (Ah rfl Gn)<|Zv (AX rfl Du ((Bx.cs hb20).at 0 rfl))<|Zv (AX rfl Du ((Bx.cs B8_i1).at 0 rfl))<|Zv (IZ rfl rfl)<|nl<|PZ rfl (fun h8=>?_) (fun h8=>?_)
   ·have hB1:=Ac hB1 h8;refine wpIn_exit<|?_;exact⟨kf1,bi1,_,_,_,_,_,hB1,B6_i1,O6c1_i1,N6c1_i1,B7_i1,O7c1_i1,N7c1_i1,B8_i1,X0_i1,Z0_i1,K0_i1,U1,U2,M8,(Nat.le_trans sz1 kf1.size)⟩
   ·have hB1:=Ai hB1 h8;refine wpIn_skip<|wpIn_seq<|Iy rfl<|Zv (Ah rfl Kw)<|Zv (Ah rfl GY)<|Zv (AX rfl Du ((Bx.cs hb20).at 1 rfl))<|Za<|nl<|wpIn_seq<|wpIn_seq<|Iy rfl<|Zv (Ah rfl Gn)<|Zv (AX rfl Du ((Bx.cs hb21).at 0 rfl))<|Zm<|Zv (IZ rfl rfl)<|Zm<|Zg rfl rfl (Iw rfl) (fun hc=>Ba rfl)<|Zg rfl rfl (Iw rfl) (fun hc=>Ah rfl GY)<|Zg rfl rfl (Iw rfl) (fun hc=>AX (mv hc rfl) Du ((Bx.cs hb21).at 1 rfl))<|Zg rfl rfl (Iw rfl) (fun hc=>IZ (mv hc rfl) (mv hc rfl))<|Zv (QD rfl rfl rfl)<|nl<|bS hB1 fun y4 hB4 hB1=>jK (fun L w=>L 10=.int .i64 y4/\L 3=.pointer (some ⟨b3,0,none⟩)/\L 6=.pointer (some ⟨b4,0,none⟩)/\L 7=.pointer (some ⟨b5,0,none⟩)/\L 8=.pointer (some ⟨b6,0,none⟩)/\L 9=.pointer (some ⟨b7,0,none⟩)/\w6.heap.size<=w.heap.size/\Ext w8 w/\KeepsFrom w6.heap.size w8 w/\BelI w0.heap.size w5.heap.size w6.heap.size w8 w/\Mks w0.heap.size [] w) ?_ ?_
    ·refine PZ rfl (fun h9=>?_) (fun h9=>?_)
     ·have hB4:=Ac hB4 h9;refine Iy rfl<|Zv (Ah rfl Gn)<|Zv (AX rfl Du ((Bx.cs hb21).at 0 rfl))<|Zv (DX rfl rfl)<|Za<|nl<|?_;cases hB4;refine lf<|?_;exact⟨rfl,rfl,rfl,rfl,rfl,rfl,Z0_i1,(Ext.refl _),kf1,bi1,M8⟩
     ·have hB4:=Ai hB4 h9;refine wpIn_skip<|?_;cases hB4;refine lf<|?_;exact⟨rfl,rfl,rfl,rfl,rfl,rfl,Z0_i1,(Ext.refl _),kf1,bi1,M8⟩
    rintro L w9⟨l10_j1,l3_j1,l6_j1,l7_j1,l8_j1,l9_j1,Z0_j1,K0_j1,kf2,bi2,M9⟩;have k17:=K0_i1.tr K0_j1;have O1:=O6c1_i1.ext K0_j1;have B1:=B6_i1.ext K0_j1;have O2:=O7c1_i1.ext K0_j1;have B2:=B7_i1.ext K0_j1;have B3:=B8_i1.ext K0_j1;have hb23:=hb20.ext K0_j1;refine wpIn_seq<|Iy rfl<|Zv (AX l6_j1 UU ((Bx.cs B1).at 0 rfl))<|Zm<|JB (cs:=[.int .i64 y4]) Tryz.underlying28 Du rfl (pc l10_j1 pn) rfl rfl rfl rfl rfl fun b8 w10 hx7 hg6 hb24=>?_;have k19:=k17.tr hx7;have zs1:=Nat.le_trans Z0_j1 hx7.size;have M10:=M9.ext hx7;have kf3:=kf2.ext hx7;have bi3:=bi2.ext hx7 sz1;have B4:=B1.ext hx7;have O3:=O1.ext hx7;have B5:=B2.ext hx7;have O4:=O2.ext hx7;have B6:=B3.ext hx7;have hb26:=hb23.ext hx7;have o2:Row (α:=Int) 2 w9.heap.size w10 (.slice (some ⟨b8,0,none⟩) 1 1) [y4]:=Row.lit hg6 hb24 rfl (ble rfl);refine bS hB1 fun x5 Ex5 hB1=>Nr (l:=y1) (k:=([y4]:List Int)) rfl rfl Tryz.underlying28 Du rfl rfl O3 (RV.els o2.rv) Ex5 zs1 fun v8 w11 o3 hB7 hgr1 how1=>?_;have k22:=Ext.grow k19 k12.size hB7;have X1:=Apart.app how1 X0_i1 O4.own_lt;have U3:=Out.app U1 how1 (Nat.le_trans sz1 kf3.size);have zs2:=Nat.le_trans zs1 hgr1.size;have M11:=M10.gr hgr1 (Row.nd O3);have kf4:=kf3.grc hgr1 (fun q e=>Row.cells O3 e);have bi4:=bi3.gr hgr1 sz1 (Out.bi U1 O3 k11.size);have ne1:=Jr how1 N6c1_i1 B4.lt;have hb28:=Bx.gr B4 hgr1 N6c1_i1;have ne2:=Jr how1 (O3.ne_old hb18.lt) B5.lt;have hb29:=Bx.gr B5 hgr1 (O3.ne_old hb18.lt);have o4:=Row.gra O4 hgr1 X0_i1;have ne3:=Jr how1 (O3.ne_old hb19.lt) B6.lt;have hb30:=Bx.gr B6 hgr1 (O3.ne_old hb19.lt);have hb31:=Bx.gr hb26 hgr1 (Row.ne_new O6c1_i1a hA1);have hz:=RV.sl o3.rv;obtain⟨a4,cq4,rfl,-,-,-⟩:=hz;refine EW l6_j1 rfl rfl UU hb28 rfl rfl (ble rfl) fun w12 hch2 hb32=>?_;have k24:=Ext.chg k22 hch2 (Nat.le_trans (Nat.le_refl _) hg2);have zs3:=Nat.le_trans zs2 (Nat.le_of_eq hch2.size.symm);have M12:=M11.chg hch2 hb28.nd;have kf5:=kf4.chgc hch2 (.inr hb28.isc);have bi5:=bi4.chg hch2 (.inl hin1);have hb34:=Bx.chg hb29 hch2 (Ne.symm (Nat.ne_of_lt (Nat.lt_of_lt_of_le hb2.lt hg3)));have o5:=Row.chg o4 hch2 hb17.lt;have hb35:=Bx.chg hb30 hch2 (Ne.symm (Nat.ne_of_lt (Nat.lt_of_lt_of_le hb6.lt hg4)));have hb36:=Bx.chg hb31 hch2 (Ne.symm (Nat.ne_of_lt (Nat.lt_of_lt_of_le B6_i1a.lt hA1)));have o6:=Row.chgn o3 hch2 ne1;have hb37:Bx w12 b4 28 [.slice a4 x5.length cq4]:=hb32;refine nl<|wpIn_seq<|wpIn_seq<|Iy rfl<|Zm<|Zv (Ah l9_j1 Kw)<|Zv (Ah rfl Gn)<|Zv (AX rfl Du ((Bx.cs hb36).at 0 rfl))<|Zv (BN l10_j1 rfl)<|nl<|PZ rfl (fun h10=>?_) (fun h10=>?_)
    ·have hB1:=Ac hB1 h10;refine wpIn_exit<|?_;cases hB1;exact⟨kf5,_,_,rfl,hb37,o6,ne1,hb34,o5,N7c1_i1,hb35,X1,zs3,k24,M12⟩
    ·have hB1:=Ai hB1 h10;refine wpIn_skip<|wpIn_seq<|Iy rfl<|Zv (AX l7_j1 JD ((Bx.cs hb34).at 0 rfl))<|Zv (Ah l9_j1 Zi)<|Zv (AX rfl AY ((Bx.cs hb36).at 2 rfl))<|JB (cs:=[.int .i64 x4.2]) Tryz.underlying41 AY rfl (pc rfl pn) rfl rfl rfl rfl rfl fun b9 w13 hx8 hg7 hb38=>?_;have k26:=k24.tr hx8;have zs4:=Nat.le_trans zs3 hx8.size;have M13:=M12.ext hx8;have kf6:=kf5.ext hx8;have bi6:=bi5.ext hx8 sz1;have hb40:=hb37.ext hx8;have o7:=o6.ext hx8;have B7:=hb34.ext hx8;have O5:=o5.ext hx8;have B8:=hb35.ext hx8;have o8:Row (α:=Int) 3 w12.heap.size w13 (.slice (some ⟨b9,0,none⟩) 1 1) [x4.2]:=Row.lit hg7 hb38 rfl (ble rfl);refine bS hB1 fun x6 Ex6 hB1=>Nr (l:=y2) (k:=([x4.2]:List Int)) rfl rfl Tryz.underlying41 AY rfl rfl O5 (RV.els o8.rv) Ex6 zs4 fun v9 w14 o9 hB10 hgr2 how2=>?_;have k28:=Ext.grow k26 k12.size hB10;have X2:=Apart.app how2 (Apart.symm X1) o7.own_lt;have U4:=Out.app U2 how2 (Nat.le_trans sz1 kf6.size);have zs5:=Nat.le_trans zs4 hgr2.size;have M14:=M13.gr hgr2 (Row.nd O5);have kf7:=kf6.grc hgr2 (fun q e=>Row.cells O5 e);have bi7:=bi6.gr hgr2 sz1 (Out.bi U2 O5 k11.size);have hb42:=Bx.gr hb40 hgr2 (O5.ne_old hb17.lt);have o10:=Row.gra o7 hgr2 (Apart.symm X1);have ne6:=Jr how2 N7c1_i1 B7.lt;have hb43:=Bx.gr B7 hgr2 N7c1_i1;have ne7:=Jr how2 (O5.ne_old hb19.lt) B8.lt;have hb44:=Bx.gr B8 hgr2 (O5.ne_old hb19.lt);have hz:=RV.sl o9.rv;obtain⟨a5,cq5,rfl,-,-,-⟩:=hz;refine EW l7_j1 rfl rfl JD hb43 rfl rfl (ble rfl) fun w15 hch3 hb45=>?_;have k30:=Ext.chg k28 hch3 (Nat.le_trans (Nat.le_refl _) (Nat.le_trans hx2.size hg3));have zs6:=Nat.le_trans zs5 (Nat.le_of_eq hch3.size.symm);have M15:=M14.chg hch3 hb43.nd;have kf8:=kf7.chgc hch3 (.inr hb43.isc);have bi8:=bi7.chg hch3 (.inl hin2);have hb47:=Bx.chg hb42 hch3 (Nat.ne_of_lt (Nat.lt_of_lt_of_le hb2.lt hg3));have o11:=Row.chgn o10 hch3 ne2;have hb48:=Bx.chg hb44 hch3 (Ne.symm (Nat.ne_of_lt (Nat.lt_of_lt_of_le hb4.lt hg4)));have o12:=Row.chgn o9 hch3 ne6;have hb49:Bx w15 b5 41 [.slice a5 x6.length cq5]:=hb45;refine nl<|Iy rfl<|Zm<|EW l8_j1 l10_j1 rfl Du hb48 rfl rfl (ble rfl) fun w16 hch4 hb50=>?_;have k32:=Ext.chg k30 hch4 (Nat.le_trans (Nat.le_refl _) (Nat.le_trans k3.size hg4));have zs7:=Nat.le_trans zs6 (Nat.le_of_eq hch4.size.symm);have M16:=M15.chg hch4 hb48.nd;have kf9:=kf8.chgc hch4 (.inr hb48.isc);have bi9:=bi8.chg hch4 (.inl hin3);have hb52:=Bx.chg hb47 hch4 (Nat.ne_of_lt (Nat.lt_of_lt_of_le hb6.lt hg4));have o13:=Row.chgn o11 hch4 ne3;have hb53:=Bx.chg hb49 hch4 (Nat.ne_of_lt (Nat.lt_of_lt_of_le hb4.lt hg4));have o14:=Row.chgn o12 hch4 ne7;have hb54:Bx w16 b6 2 [.int .i64 y4]:=hb50;refine nl<|?_;exact⟨kf9,bi9,_,_,_,_,_,hB1,hb52,o13,ne1,hb53,o14,ne6,hb54,(Apart.symm X2),zs7,k32,U3,U4,M16,(Nat.le_trans sz1 kf9.size)⟩
  case done=>
   rintro D1 w17 hD1⟨y1,y2,y3,v4,v5,hB1,B6_j2,O6c1_j2,N6c1_j2,B7_j2,O7c1_j2,N7c1_j2,B8_j2,X0_j2,Z0_j2,K0_j2,_,_,M8,_⟩ hk1;rw[List.drop_length,Bz]at hB1;cases hB1;exact ZG (Mks.cons M7 M8 (Below.size k11) hD1 hk1) ⟨_,_,B6_j2,O6c1_j2,N6c1_j2,B7_j2,O7c1_j2,N7c1_j2,B8_j2,X0_j2,Z0_j2,K0_j2,rfl,rfl⟩
  case stop=>
   rintro D2 c w18 hD2⟨v6,v7,rfl,B6_j3,O6c1_j3,N6c1_j3,B7_j3,O7c1_j3,N7c1_j3,B8_j3,X0_j3,Z0_j3,K0_j3,M17⟩ hk2;exact wp_exit<|ZG (Mks.cons M7 M17 (Below.size k11) hD2 hk2) ⟨_,_,B6_j3,O6c1_j3,N6c1_j3,B7_j3,O7c1_j3,N7c1_j3,B8_j3,X0_j3,Z0_j3,K0_j3,rfl,rfl⟩
 rintro L D3 w19 M18⟨v6,v7,B6_j4,O6c1_j4,N6c1_j4,B7_j4,O7c1_j4,N7c1_j4,B8_j4,X0_j4,Z0_j4,K0_j4,l6_j4,l7_j4⟩;have k33:=hx1.tr K0_j4;have hz:=RV.sl O6c1_j4.rv;obtain⟨a6,cq6,rfl,-,-,-⟩:=hz;have hz:=RV.sl O7c1_j4.rv;obtain⟨a7,cq7,rfl,-,-,-⟩:=hz;refine wp_seq<|FZ [] (.pure false 0 (.pure false 1 (.pure true 2 (.pure true 3 .fin)))) mixed (by kernel_rfl) (fun w20 hx9=>?_);have k34:=k33.tr hx9;have M19:=M18.ext hx9;have B9:=B6_j4.ext hx9;have O6:=O6c1_j4.ext hx9;have B10:=B7_j4.ext hx9;have O7:=O7c1_j4.ext hx9;refine Zq rfl (fun _ hS=>AX l6_j4 UU ((Bx.cs (B9.ext (hS.resolve_left nofun))).at 0 rfl)) (Ext.refl _)<|Zq rfl (fun _ hS=>AX l7_j4 JD ((Bx.cs (B10.ext (hS.resolve_left nofun))).at 0 rfl)) (Ext.refl _)<|Zp rfl (fun _=>Li)<|Zp rfl (fun _=>Li)<|wp_ret<|bI rfl M19 fun w21 hT1=>?_;have k36:Ext w0 w21:=Below.tak k34 hT1 (Nat.le_refl _);have O8:=O6.tak hT1;have O9:=O7.tak hT1;cases hF;exact⟨_,(.tmp rfl rfl (.tmp rfl rfl .nil)),_,_,rfl,(O8.bnd k11.size),(O9.bnd k11.size),k36⟩
theorem Vg{w0:World}{v0:Value}{x0:((Int×Int)×Int)}(r0:RV w0 v0 x0){v1:Value}{x1:((Int×Int)×Int)}(r1:RV w0 v1 x1){r:Int}(hF:DL x0 x1=some r):
  Calls Tryz.prog 204 [v0,v1].toArray w0 (BV fun v w'=>v=.int .i64 r/\Ext w0 w'):=by
 unfold DL at hF;have hz:=id r0;obtain⟨_,rfl,_,_,rfl,⟨_,_,rfl,rfl,rfl⟩,rfl⟩:=hz;have hz:=id r1;obtain⟨_,rfl,_,_,rfl,⟨_,_,rfl,rfl,rfl⟩,rfl⟩:=hz;refine BX (n:=12) Tryz.func204 rfl rfl rfl<|Zr<|FJ rfl rfl fun b3 w1 hx1 hg1 hb1=>FJ rfl rfl fun b4 w2 hx2 hg2 hb2=>?_;have k1:=hx1.tr hx2;have hb3:=hb1.ext hx2;refine Za<|nl<|Zr<|Zv (Ah rfl Kw)<|Zv (Ah rfl GY)<|Zv (AX rfl Du ((Bx.cs hb3).at 1 rfl))<|Zv (Ah rfl Kw)<|Zv (Ah rfl GY)<|Zv (AX rfl Du ((Bx.cs hb2).at 1 rfl))<|Zv (DX rfl rfl)<|Za<|nl<|?_;cases hF;exact wp_ret<|Zw rfl rfl rfl ⟨rfl,k1⟩
theorem dJ{w0 wi:World}(hk:Ext w0 wi){v0:Value}{x0:(List ((Int×Int)×Int))}(o0:Row 302 w0.heap.size wi v0 x0){x1:Int}{x2:Int}{F:Nat}{r:(List ((Int×Int)×Int))}(hF:AZ F x0 x1 x2=some r):
  Calls Tryz.prog 330 [v0,.int .i64 x1,.int .i64 x2,.func (.func 204) #[] #[]].toArray wi (BV fun v w'=>v=.tuple #[]/\Row 302 w0.heap.size w' v0 r/\Ext w0 w'/\wi.heap.size<=w'.heap.size):=by
 unfold AZ at hF;have hz:=RV.sl o0.rv;obtain⟨a1,cq1,rfl,-,-,-⟩:=hz;have Z0:wi.heap.size<=wi.heap.size:=Nat.le_refl _;refine BX (n:=53) Tryz.func330 rfl rfl rfl<|Zr<|Zm<|Zv (BJ rfl rfl)<|Za<|nl<|bS hF fun z1 hB1 hF=>ct (fun L w=>L 0=(.slice a1 x0.length cq1)/\Row 302 w0.heap.size w (.slice a1 x0.length cq1) z1/\wi.heap.size<=w.heap.size/\Ext w0 w) ?_ ?_
 ·refine wp_block<|lp (I:=fun m L w=>∃y1:(List ((Int×Int)×Int)),∃y2:Int,Aw F x1 x2 m y1 y2=some z1/\L 0=(.slice a1 x0.length cq1)/\Row 302 w0.heap.size w (.slice a1 x0.length cq1) y1/\L 8=.int .i64 y2/\L 1=.int .i64 x1/\L 2=.int .i64 x2/\L 3=.func (.func 204) [].toArray [].toArray/\wi.heap.size<=w.heap.size/\Ext w0 w) F ⟨_,_,hB1,rfl,o0,rfl,rfl,rfl,rfl,Z0,hk⟩ ?_;rintro m L w1⟨y1,y2,hB1,l0_i1,O0_i1,l8_i1,l1_i1,l2_i1,l3_i1,Z0_i1,K0_i1⟩;rcases m with _|m
  ·rw[Aw]at hB1;cases hB1
  rw[Aw]at hB1;refine wp_seq<|Zr<|Zm<|Zm<|Zv (BN l8_i1 l2_i1)<|nl<|cnd rfl (fun h5=>?_) (fun h5=>?_)
  ·have hB1:=Ac hB1 h5;refine wp_skip<|wp_seq<|wp_block<|Zr<|Zm<|Za<|nl<|bS hB1 fun z2 hB3 hB1=>ct (fun L w=>L 0=(.slice a1 x0.length cq1)/\Row 302 w0.heap.size w (.slice a1 x0.length cq1) z2/\L 1=.int .i64 x1/\L 2=.int .i64 x2/\L 3=.func (.func 204) [].toArray [].toArray/\L 8=.int .i64 y2/\wi.heap.size<=w.heap.size/\Ext w0 w) ?_ ?_
   ·refine wp_block<|lp (I:=fun m L w=>∃y3:(List ((Int×Int)×Int)),∃y4:Int,Av F x1 m y3 y4=some z2/\L 0=(.slice a1 x0.length cq1)/\Row 302 w0.heap.size w (.slice a1 x0.length cq1) y3/\L 9=.int .i64 y4/\L 1=.int .i64 x1/\L 2=.int .i64 x2/\L 3=.func (.func 204) [].toArray [].toArray/\L 8=.int .i64 y2/\wi.heap.size<=w.heap.size/\Ext w0 w) F ⟨_,_,hB3,l0_i1,O0_i1,l8_i1,l1_i1,l2_i1,l3_i1,l8_i1,Z0_i1,K0_i1⟩ ?_;rintro m L w2⟨y3,y4,hB3,l0_i2,O0_i2,l9_i2,l1_i2,l2_i2,l3_i2,l8_i2,Z0_i2,K0_i2⟩;rcases m with _|m
    ·rw[Av]at hB3;cases hB3
    rw[Av]at hB3;refine wp_seq<|wp_seq<|bS hB3 fun y5 hB4 hB3=>ct (fun L w=>L 34=.bool y5/\L 0=.slice a1 x0.length cq1/\L 1=.int .i64 x1/\L 2=.int .i64 x2/\L 3=.func (.func 204) [].toArray [].toArray/\L 8=.int .i64 y2/\L 9=.int .i64 y4/\wi.heap.size<=w.heap.size/\Ext w2 w) ?_ ?_
    ·refine FZ [] (.pure true 0 (.pure true 1 (.pure true 2 (.pure true 3 (.pure true 4 (.pure true 5 (.pure true 6 (.pure true 7 (.pure false 8 (.pure true 9 (.pure true 10 (.pure true 11 (.pure true 12 (.pure false 13 (.eff 14 (.pure true 15 (.pure true 16 .fin)) .stop))))))))))))))) mixed (by kernel_rfl) (fun w4 hx2=>?_);have zs2:=Nat.le_trans Z0_i2 hx2.size;have O2:=O0_i2.ext hx2;refine Zn rfl<|Zn rfl<|Zp rfl (fun _=>EO l9_i2 l1_i2)<|Zn rfl<|Or.elim (Bool.eq_false_or_eq_true (decide (x1<y4))) (fun h6=>?_) (fun h6=>?_)
     ·have hB4:=Ac hB4 h6;refine Yt rfl (bt h6) (fun _=>Bw)<|Yt rfl (bt h6) (fun _=>Bw)<|Yt rfl (bt h6) (fun _=>Bw)<|bS hB4 fun x5 Ex5 hB4=>?_;have hz:=(RV.els O2.rv).ix Ex5;obtain⟨b5,f1,cs5,e1,i3,i4,q5,hc1⟩:=hz;cases e1;obtain⟨_,_,rfl,⟨_,_,rfl,rfl,rfl⟩,rfl⟩:=q5;have i5:y4<(x0.length:Int):=by rw[(RV.cap O2.rv).1];exact i4
      refine Yt rfl (bt h6) (fun _=>Ao l0_i2 l9_i2 Tryz.underlying298 BI i3 i5)<|Yi rfl (bt h6) (fun _ hS=>BO rfl BI rfl (hc1.ext (hS.resolve_left nofun))) (Ext.refl _)<|Yt rfl (bt h6) (fun _=>Bw)<|Yt rfl (bt h6) (fun _=>Bw)<|Yt rfl (bt h6) (fun _=>DX l9_i2 rfl)<|bS hB4 fun x6 Ex6 hB4=>?_;have hz:=EA O2.rv Ex6;obtain⟨cs6,i6,i7,q6,hc2⟩:=hz;obtain⟨_,_,rfl,⟨_,_,rfl,rfl,rfl⟩,rfl⟩:=q6;have i8:(AP (y4-1))<(x0.length:Int):=by rw[(RV.cap O2.rv).1];exact i7
      refine Yt rfl (bt h6) (fun _=>Ao l0_i2 rfl Tryz.underlying298 BI i6 i8)<|Yi rfl (bt h6) (fun _ hS=>BO rfl BI rfl (hc2.ext (hS.resolve_left nofun))) (Ext.refl _)<|bS hB4 fun x7 Ex7 hB4=>D9 rfl<|Gt rfl (bt h6)<|Zc (Lv l3_i2 Qk (mc rfl (mc rfl mn)) rfl) (Vg (show RV (α:=((Int×Int)×Int)) _ (.agg [.int .i64 x5.1.1,.int .i64 x5.1.2,.int .i64 x5.2].toArray) ((x5.1.1,x5.1.2),x5.2)from⟨_,rfl,[.int .i64 x5.1.1]++[.int .i64 x5.1.2],[.int .i64 x5.2],rfl,⟨[.int .i64 x5.1.1],[.int .i64 x5.1.2],rfl,rfl,rfl⟩,rfl⟩) (show RV (α:=((Int×Int)×Int)) _ (.agg [.int .i64 x6.1.1,.int .i64 x6.1.2,.int .i64 x6.2].toArray) ((x6.1.1,x6.1.2),x6.2)from⟨_,rfl,[.int .i64 x6.1.1]++[.int .i64 x6.1.2],[.int .i64 x6.2],rfl,⟨[.int .i64 x6.1.1],[.int .i64 x6.1.2],rfl,rfl,rfl⟩,rfl⟩) Ex7) ?_;rintro _ w5⟨rfl,hx3⟩;have k4:=hx2.tr hx3;have zs3:=Nat.le_trans zs2 hx3.size;refine nl ⟨fun _ _=>hx3,?_⟩;refine Yt rfl (bt h6) (fun _=>BN rfl rfl)<|Zp rfl (fun _=>EJ rfl h6 rfl)<|?_;cases hB4;refine lf<|?_;exact⟨rfl,l0_i2,l1_i2,l2_i2,l3_i2,l8_i2,l9_i2,zs3,k4⟩
     ·have hB4:=Ai hB4 h6;refine Yf rfl (Ak h6)<|Yf rfl (Ak h6)<|Yf rfl (Ak h6)<|Yf rfl (Ak h6)<|Yh rfl (Ak h6) (Ext.refl _)<|Yf rfl (Ak h6)<|Yf rfl (Ak h6)<|Yf rfl (Ak h6)<|Yf rfl (Ak h6)<|Yh rfl (Ak h6) (Ext.refl _)<|D9 rfl<|Gk rfl (Ak h6)<|nl ⟨fun _ _=>(Ext.refl _),?_⟩;refine Yf rfl (Ak h6)<|Zp rfl (fun _=>Eb rfl h6 rfl)<|?_;cases hB4;refine lf<|?_;exact⟨rfl,l0_i2,l1_i2,l2_i2,l3_i2,l8_i2,l9_i2,zs2,hx2⟩
    rintro L w6⟨l34_j1,l0_j1,l1_j1,l2_j1,l3_j1,l8_j1,l9_j1,Z0_j1,K0_j1⟩;have k5:=K0_i2.tr K0_j1;have O4:=O0_i2.ext K0_j1;refine cnd l34_j1 (fun h7=>?_) (fun h7=>?_)
    ·have hB3:=Ac hB3 h7;refine wp_skip<|wp_seq<|wp_block<|FZ [15,17] (.pure true 0 (.pure true 1 (.pure true 2 (.pure true 3 (.pure true 4 (.pure true 5 (.pure true 6 (.pure true 7 (.pure true 8 (.pure false 9 (.pure true 10 (.pure true 11 (.pure true 12 (.pure false 13 (.pure true 14 (.eff 15 (.pure true 16 (.eff 17 .fin .stop)) .stop)))))))))))))))) mixed (by kernel_rfl) (fun w7 hx4=>?_);have k6:=k5.tr hx4;have zs4:=Nat.le_trans Z0_j1 hx4.size;have O5:=O4.ext hx4;refine Zn rfl<|Zn rfl<|Zn rfl<|Zn rfl<|Zp rfl (fun _=>DX l9_j1 rfl)<|Zn rfl<|Zn rfl<|Zp rfl (fun _=>DX l9_j1 rfl)<|bS hB3 fun x8 Ex8 hB3=>?_;have hz:=(RV.els O5.rv).ix Ex8;obtain⟨b6,f2,cs7,e2,i9,i10,q7,hc3⟩:=hz;cases e2;obtain⟨_,_,rfl,⟨_,_,rfl,rfl,rfl⟩,rfl⟩:=q7;have i11:(AP (y4-1))<(x0.length:Int):=by rw[(RV.cap O5.rv).1];exact i10
     refine Zp rfl (fun _=>Ao l0_j1 rfl Tryz.underlying298 BI i9 i11)<|Zq rfl (fun _ hS=>BO rfl BI rfl (hc3.ext (hS.resolve_left nofun))) (Ext.refl _)<|Zn rfl<|Zn rfl<|bS hB3 fun x9 Ex9 hB3=>?_;have hz:=EA O5.rv Ex9;obtain⟨cs8,i12,i13,q8,hc4⟩:=hz;obtain⟨_,_,rfl,⟨_,_,rfl,rfl,rfl⟩,rfl⟩:=q8;have i14:y4<(x0.length:Int):=by rw[(RV.cap O5.rv).1];exact i13
     refine Zp rfl (fun _=>Ao l0_j1 l9_j1 Tryz.underlying298 BI i12 i14)<|Zq rfl (fun _ hS=>BO rfl BI rfl (hc4.ext (hS.resolve_left nofun))) (Ext.refl _)<|bS hB3 fun x10 Ex10 hB3=>?_;have hz:=EA O5.rv Ex10;obtain⟨cs9,i15,i16,q9,hc5⟩:=hz;obtain⟨_,_,rfl,⟨_,_,rfl,rfl,rfl⟩,rfl⟩:=q9;have i17:y4<(x0.length:Int):=by rw[(RV.cap O5.rv).1];exact i16
     refine Zp rfl (fun _=>Ao l0_j1 l9_j1 Tryz.underlying298 BI i15 i17)<|D9 rfl<|LC (l:=y3) (v:=((x8.1.1,x8.1.2),x8.2)) rfl rfl rfl BI O5 Ex10 fun w8 hch1 o12=>?_;have k8:=Ext.chg k6 hch1 (Nat.le_trans (Nat.le_refl _) (Row.ge O5));have zs5:=Nat.le_trans zs4 (Nat.le_of_eq hch1.size.symm);refine nl ⟨fun h=>(h (by decide)).elim,?_⟩;refine bS hB3 fun x11 Ex11 hB3=>?_;have hz:=EA o12.rv Ex11;obtain⟨cs10,i18,i19,q10,hc6⟩:=hz;obtain⟨_,_,rfl,⟨_,_,rfl,rfl,rfl⟩,rfl⟩:=q10;have i20:(AP (y4-1))<(x0.length:Int):=by rw[(RV.cap o12.rv).1];exact i19
     refine Zp rfl (fun _=>Ao l0_j1 rfl Tryz.underlying298 BI i18 i20)<|D9 rfl<|LC (l:=(CZ y3 y4 ((x8.1.1,x8.1.2),x8.2))) (v:=((x9.1.1,x9.1.2),x9.2)) rfl rfl rfl BI o12 Ex11 fun w9 hch2 o13=>?_;have k9:=Ext.chg k8 hch2 (Nat.le_trans (Nat.le_refl _) (Row.ge o12));have zs6:=Nat.le_trans zs5 (Nat.le_of_eq hch2.size.symm);refine nl ⟨fun h=>(h (by decide)).elim,?_⟩;refine rg<|Zm<|Zv (DX l9_j1 rfl)<|Za<|nl<|lq m (Nat.lt_succ_self _)<|?_;exact⟨_,_,hB3,l0_j1,o13,rfl,l1_j1,l2_j1,l3_j1,l8_j1,zs6,k9⟩
    ·have hB3:=Ai hB3 h7;refine wp_exit<|?_;cases hB3;refine lf<|?_;exact⟨l0_j1,O4,l1_j1,l2_j1,l3_j1,l8_j1,Z0_j1,k5⟩
   rintro L w10⟨l0_j2,O0_j2,l1_j2,l2_j2,l3_j2,l8_j2,Z0_j2,K0_j2⟩;refine rg<|Zm<|Zv (BJ l8_j2 rfl)<|Za<|nl<|lq m (Nat.lt_succ_self _)<|?_;exact⟨_,_,hB1,l0_j2,O0_j2,rfl,l1_j2,l2_j2,l3_j2,Z0_j2,K0_j2⟩
  ·have hB1:=Ai hB1 h5;refine wp_exit<|?_;cases hB1;refine lf<|?_;exact⟨l0_i1,O0_i1,Z0_i1,K0_i1⟩
 rintro L w11⟨l0_j3,O0_j3,Z0_j3,K0_j3⟩;cases hF;exact NZ rfl .nil ⟨rfl,O0_j3,K0_j3,Z0_j3⟩
theorem YW{w0 wi:World}(hk:Ext w0 wi){v0:Value}{x0:(List ((Int×Int)×Int))}(o0:Row 302 w0.heap.size wi v0 x0){x1:Int}{x2:Int}{x3:Int}{F:Nat}{r:(List ((Int×Int)×Int))}(hF:A7 F x0 x1 x2 x3=some r):
  Calls Tryz.prog 347 [v0,.int .i64 x1,.int .i64 x2,.int .i64 x3,.func (.func 204) #[] #[]].toArray wi (BV fun v w'=>v=.tuple #[]/\Row 302 w0.heap.size w' v0 r/\Ext w0 w'/\wi.heap.size<=w'.heap.size):=by
 unfold A7 at hF;have hz:=RV.sl o0.rv;obtain⟨a1,cq1,rfl,-,-,-⟩:=hz;have Z0:wi.heap.size<=wi.heap.size:=Nat.le_refl _;refine BX (n:=38) Tryz.func347 rfl rfl rfl<|Zr<|Za<|nl<|bS hF fun z1 hB1 hF=>ct (fun L w=>L 0=(.slice a1 x0.length cq1)/\Row 302 w0.heap.size w (.slice a1 x0.length cq1) z1/\wi.heap.size<=w.heap.size/\Ext w0 w) ?_ ?_
 ·refine wp_block<|lp (I:=fun m L w=>∃y1:(List ((Int×Int)×Int)),∃y2:Int,Au F x1 x2 x3 m y1 y2=some z1/\L 0=(.slice a1 x0.length cq1)/\Row 302 w0.heap.size w (.slice a1 x0.length cq1) y1/\L 10=.int .i64 y2/\L 1=.int .i64 x1/\L 2=.int .i64 x2/\L 3=.int .i64 x3/\wi.heap.size<=w.heap.size/\Ext w0 w) F ⟨_,_,hB1,rfl,o0,rfl,rfl,rfl,rfl,Z0,hk⟩ ?_;rintro m L w1⟨y1,y2,hB1,l0_i1,O0_i1,l10_i1,l1_i1,l2_i1,l3_i1,Z0_i1,K0_i1⟩;rcases m with _|m
  ·rw[Au]at hB1;cases hB1
  rw[Au]at hB1;refine wp_seq<|Zr<|Zm<|Zm<|Zv (BN l10_i1 l3_i1)<|nl<|cnd rfl (fun h6=>?_) (fun h6=>?_)
  ·have hB1:=Ac hB1 h6;refine wp_skip<|wp_seq<|wp_block<|FZ [21,23] (.pure true 0 (.pure true 1 (.pure true 2 (.pure true 3 (.pure true 4 (.pure true 5 (.pure true 6 (.pure true 7 (.pure true 8 (.pure true 9 (.pure true 10 (.pure true 11 (.pure true 12 (.pure false 13 (.pure true 14 (.pure true 15 (.pure true 16 (.pure true 17 (.pure true 18 (.pure false 19 (.pure true 20 (.eff 21 (.pure true 22 (.eff 23 .fin .stop)) .stop)))))))))))))))))))))) mixed (by kernel_rfl) (fun w2 hx1=>?_);have k1:=K0_i1.tr hx1;have zs1:=Nat.le_trans Z0_i1 hx1.size;have O1:=O0_i1.ext hx1;refine Zn rfl<|Zn rfl<|Zn rfl<|Zp rfl (fun _=>BJ l1_i1 l10_i1)<|Zn rfl<|Zn rfl<|Zn rfl<|Zp rfl (fun _=>BJ l2_i1 l10_i1)<|Zn rfl<|Zn rfl<|Zn rfl<|Zp rfl (fun _=>BJ l2_i1 l10_i1)<|bS hB1 fun x6 Ex6 hB1=>?_;have hz:=(RV.els O1.rv).ix Ex6;obtain⟨b6,f1,cs6,e1,i2,i3,q6,hc1⟩:=hz;cases e1;obtain⟨_,_,rfl,⟨_,_,rfl,rfl,rfl⟩,rfl⟩:=q6;have i4:(AP (x2+y2))<(x0.length:Int):=by rw[(RV.cap O1.rv).1];exact i3
   refine Zp rfl (fun _=>Ao l0_i1 rfl Tryz.underlying298 BI i2 i4)<|Zq rfl (fun _ hS=>BO rfl BI rfl (hc1.ext (hS.resolve_left nofun))) (Ext.refl _)<|Zn rfl<|Zn rfl<|Zn rfl<|Zp rfl (fun _=>BJ l1_i1 l10_i1)<|bS hB1 fun x7 Ex7 hB1=>?_;have hz:=EA O1.rv Ex7;obtain⟨cs7,i5,i6,q7,hc2⟩:=hz;obtain⟨_,_,rfl,⟨_,_,rfl,rfl,rfl⟩,rfl⟩:=q7;have i7:(AP (x1+y2))<(x0.length:Int):=by rw[(RV.cap O1.rv).1];exact i6
   refine Zp rfl (fun _=>Ao l0_i1 rfl Tryz.underlying298 BI i5 i7)<|Zq rfl (fun _ hS=>BO rfl BI rfl (hc2.ext (hS.resolve_left nofun))) (Ext.refl _)<|bS hB1 fun x8 Ex8 hB1=>?_;have hz:=EA O1.rv Ex8;obtain⟨cs8,i8,i9,q8,hc3⟩:=hz;obtain⟨_,_,rfl,⟨_,_,rfl,rfl,rfl⟩,rfl⟩:=q8;have i10:(AP (x1+y2))<(x0.length:Int):=by rw[(RV.cap O1.rv).1];exact i9
   refine Zp rfl (fun _=>Ao l0_i1 rfl Tryz.underlying298 BI i8 i10)<|D9 rfl<|LC (l:=y1) (v:=((x6.1.1,x6.1.2),x6.2)) rfl rfl rfl BI O1 Ex8 fun w3 hch1 o11=>?_;have k2:=Ext.chg k1 hch1 (Nat.le_trans (Nat.le_refl _) (Row.ge O1));have zs2:=Nat.le_trans zs1 (Nat.le_of_eq hch1.size.symm);refine nl ⟨fun h=>(h (by decide)).elim,?_⟩;refine bS hB1 fun x9 Ex9 hB1=>?_;have hz:=EA o11.rv Ex9;obtain⟨cs9,i11,i12,q9,hc4⟩:=hz;obtain⟨_,_,rfl,⟨_,_,rfl,rfl,rfl⟩,rfl⟩:=q9;have i13:(AP (x2+y2))<(x0.length:Int):=by rw[(RV.cap o11.rv).1];exact i12
   refine Zp rfl (fun _=>Ao l0_i1 rfl Tryz.underlying298 BI i11 i13)<|D9 rfl<|LC (l:=(CZ y1 (AP (x1+y2)) ((x6.1.1,x6.1.2),x6.2))) (v:=((x7.1.1,x7.1.2),x7.2)) rfl rfl rfl BI o11 Ex9 fun w4 hch2 o12=>?_;have k3:=Ext.chg k2 hch2 (Nat.le_trans (Nat.le_refl _) (Row.ge o11));have zs3:=Nat.le_trans zs2 (Nat.le_of_eq hch2.size.symm);refine nl ⟨fun h=>(h (by decide)).elim,?_⟩;refine rg<|Zm<|Zv (BJ l10_i1 rfl)<|Za<|nl<|lq m (Nat.lt_succ_self _)<|?_;exact⟨_,_,hB1,l0_i1,o12,rfl,l1_i1,l2_i1,l3_i1,zs3,k3⟩
  ·have hB1:=Ai hB1 h6;refine wp_exit<|?_;cases hB1;refine lf<|?_;exact⟨l0_i1,O0_i1,Z0_i1,K0_i1⟩
 rintro L w5⟨l0_j1,O0_j1,Z0_j1,K0_j1⟩;cases hF;exact NZ rfl .nil ⟨rfl,O0_j1,K0_j1,Z0_j1⟩
theorem ko{w0 wi:World}(hk:Ext w0 wi){v0:Value}{x0:(List ((Int×Int)×Int))}(o0:Row 302 w0.heap.size wi v0 x0){x1:Int}{x2:Int}{x3:Int}{F:Nat}{r:(List ((Int×Int)×Int))}(hF:Bl F x0 x1 x2 x3=some r):
  Calls Tryz.prog 345 [v0,.int .i64 x1,.int .i64 x2,.int .i64 x3,.func (.func 204) #[] #[]].toArray wi (BV fun v w'=>v=.tuple #[]/\Row 302 w0.heap.size w' v0 r/\Ext w0 w'/\wi.heap.size<=w'.heap.size):=by
 unfold Bl at hF;have hz:=RV.sl o0.rv;obtain⟨a1,cq1,rfl,-,-,-⟩:=hz;have Z0:wi.heap.size<=wi.heap.size:=Nat.le_refl _;refine BX (n:=58) Tryz.func345 rfl rfl rfl<|Zr<|Zm<|Zm<|Zv (DX rfl rfl)<|Za<|nl<|Zr<|Zm<|Zm<|Zv (DX rfl rfl)<|Za<|nl<|wp_seq<|?_;have hz:=bs hF;obtain⟨⟨z1,z2⟩,hB1,hF⟩:=hz;refine ct (fun L w=>L 0=(.slice a1 x0.length cq1)/\Row 302 w0.heap.size w (.slice a1 x0.length cq1) z1/\L 10=.int .i64 z2/\L 2=.int .i64 x2/\L 4=.func (.func 204) [].toArray [].toArray/\wi.heap.size<=w.heap.size/\Ext w0 w) ?_ ?_
 ·refine wp_block<|lp (I:=fun m L w=>∃y1:(List ((Int×Int)×Int)),∃y2:Int,∃y3:Int,BK F x2 m y1 y2 y3=some (z1,z2)/\L 0=(.slice a1 x0.length cq1)/\Row 302 w0.heap.size w (.slice a1 x0.length cq1) y1/\L 10=.int .i64 y2/\L 11=.int .i64 y3/\L 2=.int .i64 x2/\L 4=.func (.func 204) [].toArray [].toArray/\wi.heap.size<=w.heap.size/\Ext w0 w) F ⟨_,_,_,hB1,rfl,o0,rfl,rfl,rfl,rfl,Z0,hk⟩ ?_;rintro m L w1⟨y1,y2,y3,hB1,l0_i1,O0_i1,l10_i1,l11_i1,l2_i1,l4_i1,Z0_i1,K0_i1⟩;rcases m with _|m
  ·rw[BK]at hB1;cases hB1
  rw[BK]at hB1;refine wp_seq<|Zr<|Zm<|Zm<|Zv (Di l10_i1 l11_i1)<|nl<|cnd rfl (fun h6=>?_) (fun h6=>?_)
  ·have hB1:=Ac hB1 h6;refine wp_skip<|?_;have hz:=bs hB1;obtain⟨⟨y4,y5,y6⟩,hB3,hB1⟩:=hz;refine ct (fun L w=>L 0=(.slice a1 x0.length cq1)/\Row 302 w0.heap.size w (.slice a1 x0.length cq1) y4/\L 10=.int .i64 y5/\L 11=.int .i64 y6/\L 2=.int .i64 x2/\L 4=.func (.func 204) [].toArray [].toArray/\wi.heap.size<=w.heap.size/\Ext w0 w) ?_ ?_
   ·refine wp_block<|Zr<|Zm<|Zm<|Zv (EO l10_i1 l11_i1)<|nl<|?_;have hz:=bs hB3;obtain⟨⟨y7,y8,y9⟩,hB4,hB3⟩:=hz;refine ct (fun L w=>L 0=(.slice a1 x0.length cq1)/\Row 302 w0.heap.size w (.slice a1 x0.length cq1) y7/\L 10=.int .i64 y8/\L 11=.int .i64 y9/\L 2=.int .i64 x2/\L 4=.func (.func 204) [].toArray [].toArray/\wi.heap.size<=w.heap.size/\Ext w0 w) ?_ ?_
    ·refine cnd rfl (fun h7=>?_) (fun h7=>?_)
     ·have hB4:=Ac hB4 h7;refine Zr<|Zm<|Zm<|Zm<|Zv (DX l2_i1 l10_i1)<|Zm<|Zm<|Zm<|bS hB4 fun x6 Ex6 hB4=>Zc (xc Ua (mc l0_i1 (mc rfl (mc l2_i1 (mc l11_i1 (mc l4_i1 mn)))))) (YW K0_i1 O0_i1 Ex6) ?_;rintro _ w2⟨rfl,o11,hx1,hs1⟩;have Z1:=Nat.le_trans Z0_i1 hs1;refine nl<|rg<|Zm<|Zm<|Zv (DX l10_i1 l11_i1)<|Za<|nl<|?_;cases hB4;refine lf<|?_;exact⟨l0_i1,o11,rfl,l11_i1,l2_i1,l4_i1,Z1,hx1⟩
     ·have hB4:=Ai hB4 h7;refine Zr<|Zm<|Zm<|Zm<|Zv (DX l2_i1 l10_i1)<|Zm<|Zm<|Zv (BJ l2_i1 l11_i1)<|Zm<|Zv (DX rfl l10_i1)<|Zm<|Zm<|bS hB4 fun x7 Ex7 hB4=>Zc (xc Ua (mc l0_i1 (mc rfl (mc rfl (mc l10_i1 (mc l4_i1 mn)))))) (YW K0_i1 O0_i1 Ex7) ?_;rintro _ w3⟨rfl,o12,hx2,hs2⟩;have Z2:=Nat.le_trans Z0_i1 hs2;refine nl<|rg<|Zm<|Zm<|Zv (DX l11_i1 l10_i1)<|Za<|nl<|?_;cases hB4;refine lf<|?_;exact⟨l0_i1,o12,l10_i1,rfl,l2_i1,l4_i1,Z2,hx2⟩
    rintro L w4⟨l0_j1,O0_j1,l10_j1,l11_j1,l2_j1,l4_j1,Z0_j1,K0_j1⟩;cases hB3;refine lf<|?_;exact⟨l0_j1,O0_j1,l10_j1,l11_j1,l2_j1,l4_j1,Z0_j1,K0_j1⟩
   rintro L w5⟨l0_j2,O0_j2,l10_j2,l11_j2,l2_j2,l4_j2,Z0_j2,K0_j2⟩;refine lq m (Nat.lt_succ_self _)<|?_;exact⟨_,_,_,hB1,l0_j2,O0_j2,l10_j2,l11_j2,l2_j2,l4_j2,Z0_j2,K0_j2⟩
  ·have hB1:=Ai hB1 h6;refine wp_exit<|?_;cases hB1;refine lf<|?_;exact⟨l0_i1,O0_i1,l10_i1,l2_i1,l4_i1,Z0_i1,K0_i1⟩
 rintro L w6⟨l0_j3,O0_j3,l10_j3,l2_j3,l4_j3,Z0_j3,K0_j3⟩;refine rg<|Zm<|Zm<|Zm<|Zv (DX l2_j3 l10_j3)<|Zm<|Zm<|Zm<|bS hF fun x8 Ex8 hF=>Zc (xc Ua (mc l0_j3 (mc rfl (mc l2_j3 (mc l10_j3 (mc l4_j3 mn)))))) (YW K0_j3 O0_j3 Ex8) ?_;rintro _ w7⟨rfl,o13,hx3,hs3⟩;have Z3:=Nat.le_trans Z0_j3 hs3;refine nl<|?_;cases hF;exact NZ rfl .nil ⟨rfl,o13,hx3,Z3⟩
theorem ig(F:Nat):∀(m:Nat){w0 wi:World}(hk:Ext w0 wi){v0:Value}{x0:(List ((Int×Int)×Int))}(o0:Row 302 w0.heap.size wi v0 x0){x1:Int}{x2:Int}{x3:Int}{r:(List ((Int×Int)×Int))}(hF:Ab F m x0 x1 x2 x3=some r),
  Calls Tryz.prog 331 [v0,.int .i64 x1,.int .i64 x2,.int .i64 x3,.func (.func 204) #[] #[]].toArray wi (BV fun v w'=>v=.tuple #[]/\Row 302 w0.heap.size w' v0 r/\Ext w0 w'/\wi.heap.size<=w'.heap.size):=by
 intro m
 induction m with
 |zero=>
  intro w0 wi hk v0 x0 o0 x1 x2 x3 r hF;rw[Ab]at hF;cases hF
 |succ m ih=>
 intro w0 wi hk v0 x0 o0 x1 x2 x3 r hF;rw[Ab]at hF;have hz:=RV.sl o0.rv;obtain⟨a1,cq1,rfl,-,-,-⟩:=hz;have Z0:wi.heap.size<=wi.heap.size:=Nat.le_refl _;refine BX (n:=220) Tryz.func331 rfl rfl rfl<|wp_seq<|Zr<|Zm<|Zm<|Zv (DX rfl rfl)<|Zv (HV rfl rfl)<|nl<|cnd rfl (fun h6=>?_) (fun h6=>?_)
 ·have hF:=Ac hF h6;refine Zr<|Zm<|Za<|nl<|Zr<|Zm<|Za<|nl<|wp_seq<|bS hF fun z1 hB1 hF=>ct (fun L w=>L 10=.int .i64 z1/\L 0=.slice a1 x0.length cq1/\L 1=.int .i64 x1/\Ext wi w) ?_ ?_
  ·refine wp_block<|lp (I:=fun m L w=>∃y1:Int,∃y2:Int,BD F x0 x1 m y1 y2=some z1/\L 10=.int .i64 y1/\L 11=.int .i64 y2/\L 0=.slice a1 x0.length cq1/\L 1=.int .i64 x1/\L 4=.func (.func 204) [].toArray [].toArray/\Ext wi w) F ⟨_,_,hB1,rfl,rfl,rfl,rfl,rfl,(Ext.refl _)⟩ ?_;rintro m L w1⟨y1,y2,hB1,l10_i1,l11_i1,l0_i1,l1_i1,l4_i1,K0_i1⟩;rcases m with _|m
   ·rw[BD]at hB1;cases hB1
   rw[BD]at hB1;have o11:=o0.ext K0_i1;refine wp_seq<|Zr<|Zm<|Zm<|Zv (BN l10_i1 l11_i1)<|nl<|cnd rfl (fun h7=>?_) (fun h7=>?_)
   ·have hB1:=Ac hB1 h7;refine wp_skip<|?_;have hz:=bs hB1;obtain⟨⟨y3,y4⟩,hB3,hB1⟩:=hz;refine ct (fun L w=>L 10=.int .i64 y3/\L 11=.int .i64 y4/\L 0=.slice a1 x0.length cq1/\L 1=.int .i64 x1/\L 4=.func (.func 204) [].toArray [].toArray/\wi.heap.size<=w.heap.size/\Ext w1 w) ?_ ?_
    ·refine wp_block<|Zr<|Zm<|Zm<|Zv (BJ l10_i1 l11_i1)<|Zv (Lm rfl Tryz.underlying3 Tryz.underlying310)<|bS hB3 fun x6 Ex6 hB3=>Zv (Q6 rfl rfl Ex6)<|Zv (Lm rfl Tryz.underlying310 Tryz.underlying3)<|Za<|nl<|wp_seq<|FZ [] (.pure true 0 (.pure true 1 (.pure true 2 (.pure true 3 (.pure false 4 (.pure true 5 (.pure true 6 (.pure true 7 (.pure false 8 (.eff 9 (.pure true 10 .fin) .stop)))))))))) mixed (by kernel_rfl) (fun w2 hx1=>?_);have k3:=K0_i1.tr hx1;have o12:=o11.ext hx1;refine Zn rfl<|Zn rfl<|Zn rfl<|bS hB3 fun x7 Ex7 hB3=>?_;have hz:=(RV.els o12.rv).ix Ex7;obtain⟨b6,f1,cs6,e1,i2,i3,q6,hc1⟩:=hz;cases e1;obtain⟨_,_,rfl,⟨_,_,rfl,rfl,rfl⟩,rfl⟩:=q6;have i4:(AP x6)<(x0.length:Int):=by rw[(RV.cap o12.rv).1];exact i3
     refine Zp rfl (fun _=>Ao l0_i1 rfl Tryz.underlying298 BI i2 i4)<|Zq rfl (fun _ hS=>BO rfl BI rfl (hc1.ext (hS.resolve_left nofun))) (Ext.refl _)<|Zn rfl<|Zn rfl<|bS hB3 fun x8 Ex8 hB3=>?_;have hz:=EA o12.rv Ex8;obtain⟨cs7,i5,i6,q7,hc2⟩:=hz;obtain⟨_,_,rfl,⟨_,_,rfl,rfl,rfl⟩,rfl⟩:=q7;have i7:x1<(x0.length:Int):=by rw[(RV.cap o12.rv).1];exact i6
     refine Zp rfl (fun _=>Ao l0_i1 l1_i1 Tryz.underlying298 BI i5 i7)<|Zq rfl (fun _ hS=>BO rfl BI rfl (hc2.ext (hS.resolve_left nofun))) (Ext.refl _)<|bS hB3 fun x9 Ex9 hB3=>D9 rfl<|Zc (Lv l4_i1 Qk (mc rfl (mc rfl mn)) rfl) (Vg (show RV (α:=((Int×Int)×Int)) _ (.agg [.int .i64 x7.1.1,.int .i64 x7.1.2,.int .i64 x7.2].toArray) ((x7.1.1,x7.1.2),x7.2)from⟨_,rfl,[.int .i64 x7.1.1]++[.int .i64 x7.1.2],[.int .i64 x7.2],rfl,⟨[.int .i64 x7.1.1],[.int .i64 x7.1.2],rfl,rfl,rfl⟩,rfl⟩) (show RV (α:=((Int×Int)×Int)) _ (.agg [.int .i64 x8.1.1,.int .i64 x8.1.2,.int .i64 x8.2].toArray) ((x8.1.1,x8.1.2),x8.2)from⟨_,rfl,[.int .i64 x8.1.1]++[.int .i64 x8.1.2],[.int .i64 x8.2],rfl,⟨[.int .i64 x8.1.1],[.int .i64 x8.1.2],rfl,rfl,rfl⟩,rfl⟩) Ex9) ?_;rintro _ w3⟨rfl,hx2⟩;have k5:=k3.tr hx2;have k6:=hx1.tr hx2;refine nl ⟨fun _ _=>hx2,?_⟩;refine Zp rfl (fun _=>BN rfl rfl)<|?_;have hz:=bs hB3;obtain⟨⟨y5,y6⟩,hB4,hB3⟩:=hz;refine ct (fun L w=>L 10=.int .i64 y5/\L 11=.int .i64 y6/\L 0=.slice (some ⟨b6,f1,none⟩) x0.length cq1/\L 1=.int .i64 x1/\L 4=.func (.func 204) [].toArray [].toArray/\wi.heap.size<=w.heap.size/\Ext w3 w) ?_ ?_
     ·refine cnd rfl (fun h8=>?_) (fun h8=>?_)
      ·have hB4:=Ac hB4 h8;refine rg<|Zm<|Zv (BJ rfl rfl)<|Za<|nl<|?_;cases hB4;refine lf<|?_;exact⟨rfl,l11_i1,l0_i1,l1_i1,l4_i1,k5.size,(Ext.refl _)⟩
      ·have hB4:=Ai hB4 h8;refine rg<|Zm<|Za<|nl<|?_;cases hB4;refine lf<|?_;exact⟨l10_i1,rfl,l0_i1,l1_i1,l4_i1,k5.size,(Ext.refl _)⟩
     rintro L w4⟨l10_j1,l11_j1,l0_j1,l1_j1,l4_j1,Z0_j1,K0_j1⟩;have k9:=k6.tr K0_j1;cases hB3;refine lf<|?_;exact⟨l10_j1,l11_j1,l0_j1,l1_j1,l4_j1,Z0_j1,k9⟩
    rintro L w5⟨l10_j2,l11_j2,l0_j2,l1_j2,l4_j2,Z0_j2,K0_j2⟩;have k12:=K0_i1.tr K0_j2;refine lq m (Nat.lt_succ_self _)<|?_;exact⟨_,_,hB1,l10_j2,l11_j2,l0_j2,l1_j2,l4_j2,k12⟩
   ·have hB1:=Ai hB1 h7;refine wp_exit<|?_;cases hB1;refine lf<|?_;exact⟨l10_i1,l0_i1,l1_i1,K0_i1⟩
  rintro L w6⟨l10_j3,l0_j3,l1_j3,K0_j3⟩;have k13:=hk.tr K0_j3;have o16:=o0.ext K0_j3;refine wp_seq<|Zr<|Zm<|Za<|nl<|bS hF fun z2 hB8 hF=>ct (fun L w=>L 0=(.slice a1 x0.length cq1)/\Row 302 w0.heap.size w (.slice a1 x0.length cq1) z2/\wi.heap.size<=w.heap.size/\Ext w0 w) ?_ ?_
  ·refine wp_block<|lp (I:=fun m L w=>∃y7:(List ((Int×Int)×Int)),∃y8:Int,Ay F z1 m y7 y8=some z2/\L 0=(.slice a1 x0.length cq1)/\Row 302 w0.heap.size w (.slice a1 x0.length cq1) y7/\L 13=.int .i64 y8/\L 10=.int .i64 z1/\wi.heap.size<=w.heap.size/\Ext w0 w) F ⟨_,_,hB8,l0_j3,o16,l1_j3,l10_j3,K0_j3.size,k13⟩ ?_;rintro m L w7⟨y7,y8,hB8,l0_i8,O0_i8,l13_i8,l10_i8,Z0_i8,K0_i8⟩;rcases m with _|m
   ·rw[Ay]at hB8;cases hB8
   rw[Ay]at hB8;refine wp_seq<|Zr<|Zm<|Zm<|Zv (DX l10_i8 rfl)<|Zv (BN l13_i8 rfl)<|nl<|cnd rfl (fun h9=>?_) (fun h9=>?_)
   ·have hB8:=Ac hB8 h9;refine wp_skip<|wp_seq<|wp_block<|FZ [15,17] (.pure true 0 (.pure true 1 (.pure true 2 (.pure true 3 (.pure true 4 (.pure true 5 (.pure true 6 (.pure true 7 (.pure true 8 (.pure false 9 (.pure true 10 (.pure true 11 (.pure true 12 (.pure false 13 (.pure true 14 (.eff 15 (.pure true 16 (.eff 17 .fin .stop)) .stop)))))))))))))))) mixed (by kernel_rfl) (fun w8 hx3=>?_);have k14:=K0_i8.tr hx3;have zs1:=Nat.le_trans Z0_i8 hx3.size;have O1:=O0_i8.ext hx3;refine Zn rfl<|Zn rfl<|Zn rfl<|Zn rfl<|Zp rfl (fun _=>BJ l13_i8 rfl)<|Zn rfl<|Zn rfl<|Zp rfl (fun _=>BJ l13_i8 rfl)<|bS hB8 fun x10 Ex10 hB8=>?_;have hz:=(RV.els O1.rv).ix Ex10;obtain⟨b7,f2,cs8,e2,i9,i10,q8,hc3⟩:=hz;cases e2;obtain⟨_,_,rfl,⟨_,_,rfl,rfl,rfl⟩,rfl⟩:=q8;have i11:(AP (y8+1))<(x0.length:Int):=by rw[(RV.cap O1.rv).1];exact i10
    refine Zp rfl (fun _=>Ao l0_i8 rfl Tryz.underlying298 BI i9 i11)<|Zq rfl (fun _ hS=>BO rfl BI rfl (hc3.ext (hS.resolve_left nofun))) (Ext.refl _)<|Zn rfl<|Zn rfl<|bS hB8 fun x11 Ex11 hB8=>?_;have hz:=EA O1.rv Ex11;obtain⟨cs9,i12,i13,q9,hc4⟩:=hz;obtain⟨_,_,rfl,⟨_,_,rfl,rfl,rfl⟩,rfl⟩:=q9;have i14:y8<(x0.length:Int):=by rw[(RV.cap O1.rv).1];exact i13
    refine Zp rfl (fun _=>Ao l0_i8 l13_i8 Tryz.underlying298 BI i12 i14)<|Zq rfl (fun _ hS=>BO rfl BI rfl (hc4.ext (hS.resolve_left nofun))) (Ext.refl _)<|bS hB8 fun x12 Ex12 hB8=>?_;have hz:=EA O1.rv Ex12;obtain⟨cs10,i15,i16,q10,hc5⟩:=hz;obtain⟨_,_,rfl,⟨_,_,rfl,rfl,rfl⟩,rfl⟩:=q10;have i17:y8<(x0.length:Int):=by rw[(RV.cap O1.rv).1];exact i16
    refine Zp rfl (fun _=>Ao l0_i8 l13_i8 Tryz.underlying298 BI i15 i17)<|D9 rfl<|LC (l:=y7) (v:=((x10.1.1,x10.1.2),x10.2)) rfl rfl rfl BI O1 Ex12 fun w9 hch1 o18=>?_;have k15:=Ext.chg k14 hch1 (Nat.le_trans (Nat.le_refl _) (Row.ge O1));have zs2:=Nat.le_trans zs1 (Nat.le_of_eq hch1.size.symm);refine nl ⟨fun h=>(h (by decide)).elim,?_⟩;refine bS hB8 fun x13 Ex13 hB8=>?_;have hz:=EA o18.rv Ex13;obtain⟨cs11,i18,i19,q11,hc6⟩:=hz;obtain⟨_,_,rfl,⟨_,_,rfl,rfl,rfl⟩,rfl⟩:=q11;have i20:(AP (y8+1))<(x0.length:Int):=by rw[(RV.cap o18.rv).1];exact i19
    refine Zp rfl (fun _=>Ao l0_i8 rfl Tryz.underlying298 BI i18 i20)<|D9 rfl<|LC (l:=(CZ y7 y8 ((x10.1.1,x10.1.2),x10.2))) (v:=((x11.1.1,x11.1.2),x11.2)) rfl rfl rfl BI o18 Ex13 fun w10 hch2 o19=>?_;have k16:=Ext.chg k15 hch2 (Nat.le_trans (Nat.le_refl _) (Row.ge o18));have zs3:=Nat.le_trans zs2 (Nat.le_of_eq hch2.size.symm);refine nl ⟨fun h=>(h (by decide)).elim,?_⟩;refine rg<|Zm<|Zv (BJ l13_i8 rfl)<|Za<|nl<|lq m (Nat.lt_succ_self _)<|?_;exact⟨_,_,hB8,l0_i8,o19,rfl,l10_i8,zs3,k16⟩
   ·have hB8:=Ai hB8 h9;refine wp_exit<|?_;cases hB8;refine lf<|?_;exact⟨l0_i8,O0_i8,Z0_i8,K0_i8⟩
  rintro L w11⟨l0_j4,O0_j4,Z0_j4,K0_j4⟩;cases hF;exact wp_ret<|rt rfl .nil ⟨rfl,O0_j4,K0_j4,Z0_j4⟩
 ·have hF:=Ai hF h6;refine wp_skip<|wp_seq<|Zr<|Zm<|Zm<|Zv (DX rfl rfl)<|Zv (HV rfl rfl)<|nl<|cnd rfl (fun h10=>?_) (fun h10=>?_)
  ·have hF:=Ac hF h10;refine Zr<|Zm<|Za<|nl<|Zr<|Zm<|Za<|nl<|wp_seq<|bS hF fun z3 hB11 hF=>ct (fun L w=>L 14=.int .i64 z3/\L 0=.slice a1 x0.length cq1/\L 2=.int .i64 x2/\Ext wi w) ?_ ?_
   ·refine wp_block<|lp (I:=fun m L w=>∃y9:Int,∃y10:Int,BG F x0 x2 m y9 y10=some z3/\L 14=.int .i64 y9/\L 15=.int .i64 y10/\L 0=.slice a1 x0.length cq1/\L 2=.int .i64 x2/\L 4=.func (.func 204) [].toArray [].toArray/\Ext wi w) F ⟨_,_,hB11,rfl,rfl,rfl,rfl,rfl,(Ext.refl _)⟩ ?_;rintro m L w12⟨y9,y10,hB11,l14_i21,l15_i21,l0_i21,l2_i21,l4_i21,K0_i21⟩;rcases m with _|m
    ·rw[BG]at hB11;cases hB11
    rw[BG]at hB11;have o21:=o0.ext K0_i21;refine wp_seq<|Zr<|Zm<|Zm<|Zv (BN l14_i21 l15_i21)<|nl<|cnd rfl (fun h11=>?_) (fun h11=>?_)
    ·have hB11:=Ac hB11 h11;refine wp_skip<|?_;have hz:=bs hB11;obtain⟨⟨y11,y12⟩,hB13,hB11⟩:=hz;refine ct (fun L w=>L 14=.int .i64 y11/\L 15=.int .i64 y12/\L 0=.slice a1 x0.length cq1/\L 2=.int .i64 x2/\L 4=.func (.func 204) [].toArray [].toArray/\wi.heap.size<=w.heap.size/\Ext w12 w) ?_ ?_
     ·refine wp_block<|Zr<|Zm<|Zm<|Zv (BJ l14_i21 l15_i21)<|Zv (Lm rfl Tryz.underlying3 Tryz.underlying310)<|bS hB13 fun x14 Ex14 hB13=>Zv (Q6 rfl rfl Ex14)<|Zv (Lm rfl Tryz.underlying310 Tryz.underlying3)<|Za<|nl<|wp_seq<|FZ [] (.pure true 0 (.pure true 1 (.pure true 2 (.pure true 3 (.pure false 4 (.pure true 5 (.pure true 6 (.pure true 7 (.pure false 8 (.eff 9 (.pure true 10 (.pure true 11 .fin)) .stop)))))))))) mixed (by kernel_rfl) (fun w13 hx4=>?_);have k19:=K0_i21.tr hx4;have o22:=o21.ext hx4;refine Zn rfl<|Zn rfl<|Zn rfl<|bS hB13 fun x15 Ex15 hB13=>?_;have hz:=(RV.els o22.rv).ix Ex15;obtain⟨b8,f3,cs12,e3,i22,i23,q12,hc7⟩:=hz;cases e3;obtain⟨_,_,rfl,⟨_,_,rfl,rfl,rfl⟩,rfl⟩:=q12;have i24:x2<(x0.length:Int):=by rw[(RV.cap o22.rv).1];exact i23
      refine Zp rfl (fun _=>Ao l0_i21 l2_i21 Tryz.underlying298 BI i22 i24)<|Zq rfl (fun _ hS=>BO rfl BI rfl (hc7.ext (hS.resolve_left nofun))) (Ext.refl _)<|Zn rfl<|Zn rfl<|bS hB13 fun x16 Ex16 hB13=>?_;have hz:=EA o22.rv Ex16;obtain⟨cs13,i25,i26,q13,hc8⟩:=hz;obtain⟨_,_,rfl,⟨_,_,rfl,rfl,rfl⟩,rfl⟩:=q13;have i27:(AP x14)<(x0.length:Int):=by rw[(RV.cap o22.rv).1];exact i26
      refine Zp rfl (fun _=>Ao l0_i21 rfl Tryz.underlying298 BI i25 i27)<|Zq rfl (fun _ hS=>BO rfl BI rfl (hc8.ext (hS.resolve_left nofun))) (Ext.refl _)<|bS hB13 fun x17 Ex17 hB13=>D9 rfl<|Zc (Lv l4_i21 Qk (mc rfl (mc rfl mn)) rfl) (Vg (show RV (α:=((Int×Int)×Int)) _ (.agg [.int .i64 x15.1.1,.int .i64 x15.1.2,.int .i64 x15.2].toArray) ((x15.1.1,x15.1.2),x15.2)from⟨_,rfl,[.int .i64 x15.1.1]++[.int .i64 x15.1.2],[.int .i64 x15.2],rfl,⟨[.int .i64 x15.1.1],[.int .i64 x15.1.2],rfl,rfl,rfl⟩,rfl⟩) (show RV (α:=((Int×Int)×Int)) _ (.agg [.int .i64 x16.1.1,.int .i64 x16.1.2,.int .i64 x16.2].toArray) ((x16.1.1,x16.1.2),x16.2)from⟨_,rfl,[.int .i64 x16.1.1]++[.int .i64 x16.1.2],[.int .i64 x16.2],rfl,⟨[.int .i64 x16.1.1],[.int .i64 x16.1.2],rfl,rfl,rfl⟩,rfl⟩) Ex17) ?_;rintro _ w14⟨rfl,hx5⟩;have k21:=k19.tr hx5;have k22:=hx4.tr hx5;refine nl ⟨fun _ _=>hx5,?_⟩;refine Zp rfl (fun _=>BN rfl rfl)<|Zp rfl (fun _=>Ej rfl)<|?_;have hz:=bs hB13;obtain⟨⟨y13,y14⟩,hB14,hB13⟩:=hz;refine ct (fun L w=>L 14=.int .i64 y13/\L 15=.int .i64 y14/\L 0=.slice (some ⟨b8,f3,none⟩) x0.length cq1/\L 2=.int .i64 x2/\L 4=.func (.func 204) [].toArray [].toArray/\wi.heap.size<=w.heap.size/\Ext w14 w) ?_ ?_
      ·refine cnd rfl (fun h12=>?_) (fun h12=>?_)
       ·have hB14:=Ac hB14 h12;refine rg<|Zm<|Zv (BJ rfl rfl)<|Za<|nl<|?_;cases hB14;refine lf<|?_;exact⟨rfl,l15_i21,l0_i21,l2_i21,l4_i21,k21.size,(Ext.refl _)⟩
       ·have hB14:=Ai hB14 h12;refine rg<|Zm<|Za<|nl<|?_;cases hB14;refine lf<|?_;exact⟨l14_i21,rfl,l0_i21,l2_i21,l4_i21,k21.size,(Ext.refl _)⟩
      rintro L w15⟨l14_j5,l15_j5,l0_j5,l2_j5,l4_j5,Z0_j5,K0_j5⟩;have k25:=k22.tr K0_j5;cases hB13;refine lf<|?_;exact⟨l14_j5,l15_j5,l0_j5,l2_j5,l4_j5,Z0_j5,k25⟩
     rintro L w16⟨l14_j6,l15_j6,l0_j6,l2_j6,l4_j6,Z0_j6,K0_j6⟩;have k28:=K0_i21.tr K0_j6;refine lq m (Nat.lt_succ_self _)<|?_;exact⟨_,_,hB11,l14_j6,l15_j6,l0_j6,l2_j6,l4_j6,k28⟩
    ·have hB11:=Ai hB11 h11;refine wp_exit<|?_;cases hB11;refine lf<|?_;exact⟨l14_i21,l0_i21,l2_i21,K0_i21⟩
   rintro L w17⟨l14_j7,l0_j7,l2_j7,K0_j7⟩;have k29:=hk.tr K0_j7;have o26:=o0.ext K0_j7;refine wp_seq<|Zr<|Zm<|Za<|nl<|bS hF fun z4 hB18 hF=>ct (fun L w=>L 0=(.slice a1 x0.length cq1)/\Row 302 w0.heap.size w (.slice a1 x0.length cq1) z4/\wi.heap.size<=w.heap.size/\Ext w0 w) ?_ ?_
   ·refine wp_block<|lp (I:=fun m L w=>∃y15:(List ((Int×Int)×Int)),∃y16:Int,Az F z3 m y15 y16=some z4/\L 0=(.slice a1 x0.length cq1)/\Row 302 w0.heap.size w (.slice a1 x0.length cq1) y15/\L 17=.int .i64 y16/\L 14=.int .i64 z3/\wi.heap.size<=w.heap.size/\Ext w0 w) F ⟨_,_,hB18,l0_j7,o26,l2_j7,l14_j7,K0_j7.size,k29⟩ ?_;rintro m L w18⟨y15,y16,hB18,l0_i28,O0_i28,l17_i28,l14_i28,Z0_i28,K0_i28⟩;rcases m with _|m
    ·rw[Az]at hB18;cases hB18
    rw[Az]at hB18;refine wp_seq<|Zr<|Zm<|Zm<|Zv (EO l17_i28 l14_i28)<|nl<|cnd rfl (fun h13=>?_) (fun h13=>?_)
    ·have hB18:=Ac hB18 h13;refine wp_skip<|wp_seq<|wp_block<|FZ [15,17] (.pure true 0 (.pure true 1 (.pure true 2 (.pure true 3 (.pure true 4 (.pure true 5 (.pure true 6 (.pure true 7 (.pure true 8 (.pure false 9 (.pure true 10 (.pure true 11 (.pure true 12 (.pure false 13 (.pure true 14 (.eff 15 (.pure true 16 (.eff 17 .fin .stop)) .stop)))))))))))))))) mixed (by kernel_rfl) (fun w19 hx6=>?_);have k30:=K0_i28.tr hx6;have zs4:=Nat.le_trans Z0_i28 hx6.size;have O2:=O0_i28.ext hx6;refine Zn rfl<|Zn rfl<|Zn rfl<|Zn rfl<|Zp rfl (fun _=>DX l17_i28 rfl)<|Zn rfl<|Zn rfl<|Zp rfl (fun _=>DX l17_i28 rfl)<|bS hB18 fun x18 Ex18 hB18=>?_;have hz:=(RV.els O2.rv).ix Ex18;obtain⟨b9,f4,cs14,e4,i29,i30,q14,hc9⟩:=hz;cases e4;obtain⟨_,_,rfl,⟨_,_,rfl,rfl,rfl⟩,rfl⟩:=q14;have i31:(AP (y16-1))<(x0.length:Int):=by rw[(RV.cap O2.rv).1];exact i30
     refine Zp rfl (fun _=>Ao l0_i28 rfl Tryz.underlying298 BI i29 i31)<|Zq rfl (fun _ hS=>BO rfl BI rfl (hc9.ext (hS.resolve_left nofun))) (Ext.refl _)<|Zn rfl<|Zn rfl<|bS hB18 fun x19 Ex19 hB18=>?_;have hz:=EA O2.rv Ex19;obtain⟨cs15,i32,i33,q15,hc10⟩:=hz;obtain⟨_,_,rfl,⟨_,_,rfl,rfl,rfl⟩,rfl⟩:=q15;have i34:y16<(x0.length:Int):=by rw[(RV.cap O2.rv).1];exact i33
     refine Zp rfl (fun _=>Ao l0_i28 l17_i28 Tryz.underlying298 BI i32 i34)<|Zq rfl (fun _ hS=>BO rfl BI rfl (hc10.ext (hS.resolve_left nofun))) (Ext.refl _)<|bS hB18 fun x20 Ex20 hB18=>?_;have hz:=EA O2.rv Ex20;obtain⟨cs16,i35,i36,q16,hc11⟩:=hz;obtain⟨_,_,rfl,⟨_,_,rfl,rfl,rfl⟩,rfl⟩:=q16;have i37:y16<(x0.length:Int):=by rw[(RV.cap O2.rv).1];exact i36
     refine Zp rfl (fun _=>Ao l0_i28 l17_i28 Tryz.underlying298 BI i35 i37)<|D9 rfl<|LC (l:=y15) (v:=((x18.1.1,x18.1.2),x18.2)) rfl rfl rfl BI O2 Ex20 fun w20 hch3 o28=>?_;have k31:=Ext.chg k30 hch3 (Nat.le_trans (Nat.le_refl _) (Row.ge O2));have zs5:=Nat.le_trans zs4 (Nat.le_of_eq hch3.size.symm);refine nl ⟨fun h=>(h (by decide)).elim,?_⟩;refine bS hB18 fun x21 Ex21 hB18=>?_;have hz:=EA o28.rv Ex21;obtain⟨cs17,i38,i39,q17,hc12⟩:=hz;obtain⟨_,_,rfl,⟨_,_,rfl,rfl,rfl⟩,rfl⟩:=q17;have i40:(AP (y16-1))<(x0.length:Int):=by rw[(RV.cap o28.rv).1];exact i39
     refine Zp rfl (fun _=>Ao l0_i28 rfl Tryz.underlying298 BI i38 i40)<|D9 rfl<|LC (l:=(CZ y15 y16 ((x18.1.1,x18.1.2),x18.2))) (v:=((x19.1.1,x19.1.2),x19.2)) rfl rfl rfl BI o28 Ex21 fun w21 hch4 o29=>?_;have k32:=Ext.chg k31 hch4 (Nat.le_trans (Nat.le_refl _) (Row.ge o28));have zs6:=Nat.le_trans zs5 (Nat.le_of_eq hch4.size.symm);refine nl ⟨fun h=>(h (by decide)).elim,?_⟩;refine rg<|Zm<|Zv (DX l17_i28 rfl)<|Za<|nl<|lq m (Nat.lt_succ_self _)<|?_;exact⟨_,_,hB18,l0_i28,o29,rfl,l14_i28,zs6,k32⟩
    ·have hB18:=Ai hB18 h13;refine wp_exit<|?_;cases hB18;refine lf<|?_;exact⟨l0_i28,O0_i28,Z0_i28,K0_i28⟩
   rintro L w22⟨l0_j8,O0_j8,Z0_j8,K0_j8⟩;cases hF;exact wp_ret<|rt rfl .nil ⟨rfl,O0_j8,K0_j8,Z0_j8⟩
  ·have hF:=Ai hF h10;refine wp_skip<|Zr<|Zm<|Zm<|Zv (BJ rfl rfl)<|Zv (Lm rfl Tryz.underlying3 Tryz.underlying310)<|bS hF fun x22 Ex22 hF=>Zv (Q6 rfl rfl Ex22)<|Zv (Lm rfl Tryz.underlying310 Tryz.underlying3)<|Za<|nl<|Zr<|Zm<|Zm<|Zv (BJ rfl rfl)<|Za<|nl<|Zr<|Za<|Za<|nl<|wp_seq<|Zr<|Zm<|Zm<|Zv (EO rfl rfl)<|nl<|?_;have hz:=bs hF;obtain⟨⟨y17,y18⟩,hB21,hF⟩:=hz;refine ct (fun L w=>L 20=.int .i64 y17/\L 21=.int .i64 y18/\L 0=.slice a1 x0.length cq1/\L 1=.int .i64 x1/\L 2=.int .i64 x2/\L 3=.int .i64 x3/\L 4=.func (.func 204) [].toArray [].toArray/\L 18=.int .i64 (AP x22)/\L 19=.int .i64 (AP ((AP x22)+x2))/\Ext wi w) ?_ ?_
   ·refine cnd rfl (fun h14=>?_) (fun h14=>?_)
    ·have hB21:=Ac hB21 h14;refine Zr<|Zm<|Zm<|Zv (DX rfl rfl)<|Za<|nl<|rg<|Zm<|Za<|nl<|?_;cases hB21;refine lf<|?_;exact⟨rfl,rfl,rfl,rfl,rfl,rfl,rfl,rfl,rfl,(Ext.refl _)⟩
    ·have hB21:=Ai hB21 h14;refine Zr<|Zm<|Za<|nl<|rg<|Zm<|Za<|nl<|?_;cases hB21;refine lf<|?_;exact⟨rfl,rfl,rfl,rfl,rfl,rfl,rfl,rfl,rfl,(Ext.refl _)⟩
   rintro L w23⟨l20_j9,l21_j9,l0_j9,l1_j9,l2_j9,l3_j9,l4_j9,l18_j9,l19_j9,K0_j9⟩;have k33:=hk.tr K0_j9;have o30:=o0.ext K0_j9;refine Zr<|Zm<|Zv (DX l19_j9 rfl)<|Za<|nl<|wp_seq<|bS hF fun z5 hB24 hF=>ct (fun L w=>L 20=.int .i64 z5/\L 0=.slice a1 x0.length cq1/\L 1=.int .i64 x1/\L 2=.int .i64 x2/\L 3=.int .i64 x3/\L 4=.func (.func 204) [].toArray [].toArray/\L 18=.int .i64 (AP x22)/\L 19=.int .i64 (AP ((AP x22)+x2))/\wi.heap.size<=w.heap.size/\Ext w23 w) ?_ ?_
   ·refine wp_block<|lp (I:=fun m L w=>∃y19:Int,∃y20:Int,BH F x0 x2 x22 m y19 y20=some z5/\L 20=.int .i64 y19/\L 21=.int .i64 y20/\L 0=.slice a1 x0.length cq1/\L 1=.int .i64 x1/\L 2=.int .i64 x2/\L 3=.int .i64 x3/\L 4=.func (.func 204) [].toArray [].toArray/\L 18=.int .i64 (AP x22)/\L 19=.int .i64 (AP ((AP x22)+x2))/\L 22=.int .i64 (AP ((AP ((AP x22)+x2))-1))/\wi.heap.size<=w.heap.size/\Ext w23 w) F ⟨_,_,hB24,l20_j9,l21_j9,l0_j9,l1_j9,l2_j9,l3_j9,l4_j9,l18_j9,l19_j9,rfl,K0_j9.size,(Ext.refl _)⟩ ?_;rintro m L w24⟨y19,y20,hB24,l20_i41,l21_i41,l0_i41,l1_i41,l2_i41,l3_i41,l4_i41,l18_i41,l19_i41,l22_i41,Z0_i41,K0_i41⟩;rcases m with _|m
    ·rw[BH]at hB24;cases hB24
    rw[BH]at hB24;have o32:=o30.ext K0_i41;refine wp_seq<|Zr<|Zm<|Zm<|Zv (BN l20_i41 l21_i41)<|nl<|cnd rfl (fun h15=>?_) (fun h15=>?_)
    ·have hB24:=Ac hB24 h15;refine wp_skip<|?_;have hz:=bs hB24;obtain⟨⟨y21,y22⟩,hB26,hB24⟩:=hz;refine ct (fun L w=>L 20=.int .i64 y21/\L 21=.int .i64 y22/\L 0=.slice a1 x0.length cq1/\L 1=.int .i64 x1/\L 2=.int .i64 x2/\L 3=.int .i64 x3/\L 4=.func (.func 204) [].toArray [].toArray/\L 18=.int .i64 (AP x22)/\L 19=.int .i64 (AP ((AP x22)+x2))/\L 22=.int .i64 (AP ((AP ((AP x22)+x2))-1))/\wi.heap.size<=w.heap.size/\Ext w24 w) ?_ ?_
     ·refine wp_block<|Zr<|Zm<|Zm<|Zv (BJ l20_i41 l21_i41)<|Zv (Lm rfl Tryz.underlying3 Tryz.underlying310)<|bS hB26 fun x23 Ex23 hB26=>Zv (Q6 rfl rfl Ex23)<|Zv (Lm rfl Tryz.underlying310 Tryz.underlying3)<|Za<|nl<|wp_seq<|FZ [] (.pure true 0 (.pure true 1 (.pure true 2 (.pure true 3 (.pure true 4 (.pure true 5 (.pure false 6 (.pure true 7 (.pure true 8 (.pure true 9 (.pure false 10 (.eff 11 (.pure true 12 (.pure true 13 .fin)) .stop)))))))))))) mixed (by kernel_rfl) (fun w25 hx7=>?_);have zs7:=Nat.le_trans Z0_i41 hx7.size;have o33:=o32.ext hx7;refine Zn rfl<|Zn rfl<|Zn rfl<|Zn rfl<|Zp rfl (fun _=>DX l22_i41 rfl)<|bS hB26 fun x24 Ex24 hB26=>?_;have hz:=(RV.els o33.rv).ix Ex24;obtain⟨b10,f5,cs18,e5,i42,i43,q18,hc13⟩:=hz;cases e5;obtain⟨_,_,rfl,⟨_,_,rfl,rfl,rfl⟩,rfl⟩:=q18;have i44:(AP ((AP ((AP ((AP x22)+x2))-1))-(AP x23)))<(x0.length:Int):=by rw[(RV.cap o33.rv).1];exact i43
      refine Zp rfl (fun _=>Ao l0_i41 rfl Tryz.underlying298 BI i42 i44)<|Zq rfl (fun _ hS=>BO rfl BI rfl (hc13.ext (hS.resolve_left nofun))) (Ext.refl _)<|Zn rfl<|Zn rfl<|bS hB26 fun x25 Ex25 hB26=>?_;have hz:=EA o33.rv Ex25;obtain⟨cs19,i45,i46,q19,hc14⟩:=hz;obtain⟨_,_,rfl,⟨_,_,rfl,rfl,rfl⟩,rfl⟩:=q19;have i47:(AP x23)<(x0.length:Int):=by rw[(RV.cap o33.rv).1];exact i46
      refine Zp rfl (fun _=>Ao l0_i41 rfl Tryz.underlying298 BI i45 i47)<|Zq rfl (fun _ hS=>BO rfl BI rfl (hc14.ext (hS.resolve_left nofun))) (Ext.refl _)<|bS hB26 fun x26 Ex26 hB26=>D9 rfl<|Zc (Lv l4_i41 Qk (mc rfl (mc rfl mn)) rfl) (Vg (show RV (α:=((Int×Int)×Int)) _ (.agg [.int .i64 x24.1.1,.int .i64 x24.1.2,.int .i64 x24.2].toArray) ((x24.1.1,x24.1.2),x24.2)from⟨_,rfl,[.int .i64 x24.1.1]++[.int .i64 x24.1.2],[.int .i64 x24.2],rfl,⟨[.int .i64 x24.1.1],[.int .i64 x24.1.2],rfl,rfl,rfl⟩,rfl⟩) (show RV (α:=((Int×Int)×Int)) _ (.agg [.int .i64 x25.1.1,.int .i64 x25.1.2,.int .i64 x25.2].toArray) ((x25.1.1,x25.1.2),x25.2)from⟨_,rfl,[.int .i64 x25.1.1]++[.int .i64 x25.1.2],[.int .i64 x25.2],rfl,⟨[.int .i64 x25.1.1],[.int .i64 x25.1.2],rfl,rfl,rfl⟩,rfl⟩) Ex26) ?_;rintro _ w26⟨rfl,hx8⟩;have k42:=hx7.tr hx8;have zs8:=Nat.le_trans zs7 hx8.size;refine nl ⟨fun _ _=>hx8,?_⟩;refine Zp rfl (fun _=>BN rfl rfl)<|Zp rfl (fun _=>Ej rfl)<|?_;have hz:=bs hB26;obtain⟨⟨y23,y24⟩,hB27,hB26⟩:=hz;refine ct (fun L w=>L 20=.int .i64 y23/\L 21=.int .i64 y24/\L 0=.slice (some ⟨b10,f5,none⟩) x0.length cq1/\L 1=.int .i64 x1/\L 2=.int .i64 x2/\L 3=.int .i64 x3/\L 4=.func (.func 204) [].toArray [].toArray/\L 18=.int .i64 (AP x22)/\L 19=.int .i64 (AP ((AP x22)+x2))/\L 22=.int .i64 (AP ((AP ((AP x22)+x2))-1))/\wi.heap.size<=w.heap.size/\Ext w26 w) ?_ ?_
      ·refine cnd rfl (fun h16=>?_) (fun h16=>?_)
       ·have hB27:=Ac hB27 h16;refine rg<|Zm<|Zv (BJ rfl rfl)<|Za<|nl<|?_;cases hB27;refine lf<|?_;exact⟨rfl,l21_i41,l0_i41,l1_i41,l2_i41,l3_i41,l4_i41,l18_i41,l19_i41,l22_i41,zs8,(Ext.refl _)⟩
       ·have hB27:=Ai hB27 h16;refine rg<|Zm<|Za<|nl<|?_;cases hB27;refine lf<|?_;exact⟨l20_i41,rfl,l0_i41,l1_i41,l2_i41,l3_i41,l4_i41,l18_i41,l19_i41,l22_i41,zs8,(Ext.refl _)⟩
      rintro L w27⟨l20_j10,l21_j10,l0_j10,l1_j10,l2_j10,l3_j10,l4_j10,l18_j10,l19_j10,l22_j10,Z0_j10,K0_j10⟩;have k46:=k42.tr K0_j10;cases hB26;refine lf<|?_;exact⟨l20_j10,l21_j10,l0_j10,l1_j10,l2_j10,l3_j10,l4_j10,l18_j10,l19_j10,l22_j10,Z0_j10,k46⟩
     rintro L w28⟨l20_j11,l21_j11,l0_j11,l1_j11,l2_j11,l3_j11,l4_j11,l18_j11,l19_j11,l22_j11,Z0_j11,K0_j11⟩;have k50:=K0_i41.tr K0_j11;refine lq m (Nat.lt_succ_self _)<|?_;exact⟨_,_,hB24,l20_j11,l21_j11,l0_j11,l1_j11,l2_j11,l3_j11,l4_j11,l18_j11,l19_j11,l22_j11,Z0_j11,k50⟩
    ·have hB24:=Ai hB24 h15;refine wp_exit<|?_;cases hB24;refine lf<|?_;exact⟨l20_i41,l0_i41,l1_i41,l2_i41,l3_i41,l4_i41,l18_i41,l19_i41,Z0_i41,K0_i41⟩
   rintro L w29⟨l20_j12,l0_j12,l1_j12,l2_j12,l3_j12,l4_j12,l18_j12,l19_j12,Z0_j12,K0_j12⟩;have k51:=k33.tr K0_j12;have o37:=o30.ext K0_j12;refine Zr<|Zm<|Zm<|Zv (DX l19_j12 l20_j12)<|Za<|nl<|wp_seq<|Zr<|Zm<|Zm<|Zv (BN l20_j12 l2_j12)<|Zm<|Zg rfl rfl (Iw rfl) (fun hc=>Ba l2_j12)<|Zg rfl rfl (Iw rfl) (fun hc=>Ba rfl)<|Zg rfl rfl (Iw rfl) (fun hc=>BN (mv hc rfl) (mv hc rfl))<|Zv (QD rfl rfl rfl)<|nl<|bS hF fun y25 hB31 hF=>ct (fun L w=>L 0=(.slice a1 x0.length cq1)/\Row 302 w0.heap.size w (.slice a1 x0.length cq1) y25/\L 1=.int .i64 x1/\L 3=.int .i64 x3/\L 4=.func (.func 204) [].toArray [].toArray/\L 18=.int .i64 (AP x22)/\L 20=.int .i64 z5/\L 24=.int .i64 (AP ((AP ((AP x22)+x2))-z5))/\wi.heap.size<=w.heap.size/\Ext w0 w) ?_ ?_
   ·refine cnd rfl (fun h17=>?_) (fun h17=>?_)
    ·have hB31:=Ac hB31 h17;refine rg<|Zm<|Zm<|Zm<|Zm<|Zm<|bS hB31 fun x27 Ex27 hB31=>Zc (xc iA (mc l0_j12 (mc l20_j12 (mc l2_j12 (mc rfl (mc l4_j12 mn)))))) (ko k51 o37 Ex27) ?_;rintro _ w30⟨rfl,o38,hx9,hs1⟩;have Z1:=Nat.le_trans Z0_j12 hs1;refine nl<|?_;cases hB31;refine lf<|?_;exact⟨l0_j12,o38,l1_j12,l3_j12,l4_j12,l18_j12,l20_j12,rfl,Z1,hx9⟩
    ·have hB31:=Ai hB31 h17;refine wp_skip<|?_;cases hB31;refine lf<|?_;exact⟨l0_j12,o37,l1_j12,l3_j12,l4_j12,l18_j12,l20_j12,rfl,Z0_j12,k51⟩
   rintro L w31⟨l0_j13,O0_j13,l1_j13,l3_j13,l4_j13,l18_j13,l20_j13,l24_j13,Z0_j13,K0_j13⟩;refine wp_seq<|Zr<|Zm<|Zm<|Zv (BN l1_j13 l20_j13)<|Zm<|Zg rfl rfl (Iw rfl) (fun hc=>Ba l20_j13)<|Zg rfl rfl (Iw rfl) (fun hc=>Ba l18_j13)<|Zg rfl rfl (Iw rfl) (fun hc=>BN (mv hc rfl) (mv hc rfl))<|Zv (QD rfl rfl rfl)<|nl<|bS hF fun y26 hB34 hF=>ct (fun L w=>L 0=(.slice a1 x0.length cq1)/\Row 302 w0.heap.size w (.slice a1 x0.length cq1) y26/\L 3=.int .i64 x3/\L 4=.func (.func 204) [].toArray [].toArray/\L 18=.int .i64 (AP x22)/\L 24=.int .i64 (AP ((AP ((AP x22)+x2))-z5))/\wi.heap.size<=w.heap.size/\Ext w0 w) ?_ ?_
   ·refine cnd rfl (fun h18=>?_) (fun h18=>?_)
    ·have hB34:=Ac hB34 h18;refine rg<|Zm<|Zm<|Zm<|Zm<|Zm<|bS hB34 fun x28 Ex28 hB34=>Zc (xc Qm (mc l0_j13 (mc l1_j13 (mc l20_j13 (mc l18_j13 (mc l4_j13 mn)))))) (ih K0_j13 O0_j13 Ex28) ?_;rintro _ w32⟨rfl,o39,hx10,hs2⟩;have Z2:=Nat.le_trans Z0_j13 hs2;refine nl<|?_;cases hB34;refine lf<|?_;exact⟨l0_j13,o39,l3_j13,l4_j13,l18_j13,l24_j13,Z2,hx10⟩
    ·have hB34:=Ai hB34 h18;refine wp_skip<|?_;cases hB34;refine lf<|?_;exact⟨l0_j13,O0_j13,l3_j13,l4_j13,l18_j13,l24_j13,Z0_j13,K0_j13⟩
   rintro L w33⟨l0_j14,O0_j14,l3_j14,l4_j14,l18_j14,l24_j14,Z0_j14,K0_j14⟩;refine Zr<|Zm<|Zm<|Zv (BN l18_j14 l24_j14)<|Zm<|Zg rfl rfl (Iw rfl) (fun hc=>Ba l24_j14)<|Zg rfl rfl (Iw rfl) (fun hc=>Ba l3_j14)<|Zg rfl rfl (Iw rfl) (fun hc=>BN (mv hc rfl) (mv hc rfl))<|Zv (QD rfl rfl rfl)<|nl<|bS hF fun y27 hB37 hF=>ct (fun L w=>L 0=(.slice a1 x0.length cq1)/\Row 302 w0.heap.size w (.slice a1 x0.length cq1) y27/\wi.heap.size<=w.heap.size/\Ext w0 w) ?_ ?_
   ·refine cnd rfl (fun h19=>?_) (fun h19=>?_)
    ·have hB37:=Ac hB37 h19;refine rg<|Zm<|Zm<|Zm<|Zm<|Zm<|bS hB37 fun x29 Ex29 hB37=>Zc (xc Qm (mc l0_j14 (mc l18_j14 (mc l24_j14 (mc l3_j14 (mc l4_j14 mn)))))) (ih K0_j14 O0_j14 Ex29) ?_;rintro _ w34⟨rfl,o40,hx11,hs3⟩;have Z3:=Nat.le_trans Z0_j14 hs3;refine nl<|?_;cases hB37;refine lf<|?_;exact⟨l0_j14,o40,Z3,hx11⟩
    ·have hB37:=Ai hB37 h19;refine wp_skip<|?_;cases hB37;refine lf<|?_;exact⟨l0_j14,O0_j14,Z0_j14,K0_j14⟩
   rintro L w35⟨l0_j15,O0_j15,Z0_j15,K0_j15⟩;cases hF;exact NZ rfl .nil ⟨rfl,O0_j15,K0_j15,Z0_j15⟩
theorem dK{w0 wi:World}(hk:Ext w0 wi){v0:Value}{x0:(List ((Int×Int)×Int))}(o0:Row 302 w0.heap.size wi v0 x0){x1:Int}{x2:Int}{x3:Int}{F:Nat}{r:(List ((Int×Int)×Int))}(hF:Cj F x0 x1 x2 x3=some r):
  Calls Tryz.prog 331 [v0,.int .i64 x1,.int .i64 x2,.int .i64 x3,.func (.func 204) #[] #[]].toArray wi (BV fun v w'=>v=.tuple #[]/\Row 302 w0.heap.size w' v0 r/\Ext w0 w'/\wi.heap.size<=w'.heap.size):=ig F F hk o0 hF
theorem kr{w0 wi:World}(hk:Ext w0 wi){v0:Value}{x0:(List ((Int×Int)×Int))}(o0:Row 302 w0.heap.size wi v0 x0){x1:Int}{F:Nat}{r:(List ((Int×Int)×Int))}(hF:CJ F x0 x1=some r):
  Calls Tryz.prog 281 [v0,.int .i64 x1,.func (.func 204) #[] #[]].toArray wi (BV fun v w'=>v=.tuple #[]/\Row 302 w0.heap.size w' v0 r/\Ext w0 w'/\wi.heap.size<=w'.heap.size):=by
 unfold CJ at hF;have hz:=RV.sl o0.rv;obtain⟨a1,cq1,rfl,-,-,-⟩:=hz;have Z0:wi.heap.size<=wi.heap.size:=Nat.le_refl _;refine BX (n:=63) Tryz.func281 rfl rfl rfl<|Zr<|Za<|nl<|Zr<|Zm<|Za<|Za<|nl<|wp_seq<|?_;have hz:=bs hF;obtain⟨⟨z1,z2⟩,hB1,hF⟩:=hz;refine ct (fun L w=>L 0=(.slice a1 x0.length cq1)/\Row 302 w0.heap.size w (.slice a1 x0.length cq1) z1/\L 7=.int .i64 z2/\L 1=.int .i64 x1/\L 2=.func (.func 204) [].toArray [].toArray/\L 6=.int .i64 20/\wi.heap.size<=w.heap.size/\Ext w0 w) ?_ ?_
 ·refine wp_block<|lp (I:=fun m L w=>∃y1:(List ((Int×Int)×Int)),∃y2:Int,∃y3:Int,Ap F x1 m y1 y2 y3=some (z1,z2)/\L 0=(.slice a1 x0.length cq1)/\Row 302 w0.heap.size w (.slice a1 x0.length cq1) y1/\L 7=.int .i64 y2/\L 8=.int .i64 y3/\L 1=.int .i64 x1/\L 2=.func (.func 204) [].toArray [].toArray/\L 6=.int .i64 20/\wi.heap.size<=w.heap.size/\Ext w0 w) F ⟨_,_,_,hB1,rfl,o0,rfl,rfl,rfl,rfl,rfl,Z0,hk⟩ ?_;rintro m L w1⟨y1,y2,y3,hB1,l0_i1,O0_i1,l7_i1,l8_i1,l1_i1,l2_i1,l6_i1,Z0_i1,K0_i1⟩;rcases m with _|m
  ·rw[Ap]at hB1;cases hB1
  rw[Ap]at hB1;refine wp_seq<|Zr<|Zm<|Zm<|Zv (IZ l8_i1 l1_i1)<|nl<|cnd rfl (fun h4=>?_) (fun h4=>?_)
  ·have hB1:=Ac hB1 h4;refine wp_skip<|wp_block<|Zr<|Zm<|Zm<|Zm<|Zm<|bS hB1 fun x4 Ex4 hB1=>Zc (xc ZB (mc l0_i1 (mc l7_i1 (mc l8_i1 (mc l2_i1 mn))))) (dJ K0_i1 O0_i1 Ex4) ?_;rintro _ w2⟨rfl,o11,hx1,hs1⟩;have Z1:=Nat.le_trans Z0_i1 hs1;refine nl<|Zr<|Zm<|Za<|nl<|rg<|Zm<|Zm<|Zv (BJ l8_i1 l6_i1)<|Za<|nl<|lq m (Nat.lt_succ_self _)<|?_;exact⟨_,_,_,hB1,l0_i1,o11,l8_i1,rfl,l1_i1,l2_i1,l6_i1,Z1,hx1⟩
  ·have hB1:=Ai hB1 h4;refine wp_exit<|?_;cases hB1;refine lf<|?_;exact⟨l0_i1,O0_i1,l7_i1,l1_i1,l2_i1,l6_i1,Z0_i1,K0_i1⟩
 rintro L w3⟨l0_j1,O0_j1,l7_j1,l1_j1,l2_j1,l6_j1,Z0_j1,K0_j1⟩;refine Zr<|Zm<|Zm<|Zm<|Zm<|bS hF fun x5 Ex5 hF=>Zc (xc ZB (mc l0_j1 (mc l7_j1 (mc l1_j1 (mc l2_j1 mn))))) (dJ K0_j1 O0_j1 Ex5) ?_;rintro _ w4⟨rfl,o12,hx2,hs2⟩;have Z2:=Nat.le_trans Z0_j1 hs2;refine nl<|bS hF fun z3 hB4 hF=>ct (fun L w=>L 0=(.slice a1 x0.length cq1)/\Row 302 w0.heap.size w (.slice a1 x0.length cq1) z3/\wi.heap.size<=w.heap.size/\Ext w0 w) ?_ ?_
 ·refine wp_block<|lp (I:=fun m L w=>∃y4:(List ((Int×Int)×Int)),∃y5:Int,A8 F x1 m y4 y5=some z3/\L 0=(.slice a1 x0.length cq1)/\Row 302 w0.heap.size w (.slice a1 x0.length cq1) y4/\L 6=.int .i64 y5/\L 1=.int .i64 x1/\L 2=.func (.func 204) [].toArray [].toArray/\wi.heap.size<=w.heap.size/\Ext w0 w) F ⟨_,_,hB4,l0_j1,o12,l6_j1,l1_j1,l2_j1,Z2,hx2⟩ ?_;rintro m L w5⟨y4,y5,hB4,l0_i2,O0_i2,l6_i2,l1_i2,l2_i2,Z0_i2,K0_i2⟩;rcases m with _|m
  ·rw[A8]at hB4;cases hB4
  rw[A8]at hB4;refine wp_seq<|Zr<|Zm<|Zm<|Zv (BN l6_i2 l1_i2)<|nl<|cnd rfl (fun h5=>?_) (fun h5=>?_)
  ·have hB4:=Ac hB4 h5;refine wp_skip<|wp_block<|Zr<|Zm<|Zv (Xk rfl l6_i2)<|Za<|Za<|nl<|wp_seq<|?_;have hz:=bs hB4;obtain⟨⟨z4,z5⟩,hB6,hB4⟩:=hz;refine ct (fun L w=>L 0=(.slice a1 x0.length cq1)/\Row 302 w0.heap.size w (.slice a1 x0.length cq1) z4/\L 7=.int .i64 z5/\L 1=.int .i64 x1/\L 2=.func (.func 204) [].toArray [].toArray/\L 6=.int .i64 y5/\wi.heap.size<=w.heap.size/\Ext w0 w) ?_ ?_
   ·refine wp_block<|lp (I:=fun m L w=>∃y6:(List ((Int×Int)×Int)),∃y7:Int,∃y8:Int,BZ F x1 y5 m y6 y7 y8=some (z4,z5)/\L 0=(.slice a1 x0.length cq1)/\Row 302 w0.heap.size w (.slice a1 x0.length cq1) y6/\L 7=.int .i64 y7/\L 8=.int .i64 y8/\L 1=.int .i64 x1/\L 2=.func (.func 204) [].toArray [].toArray/\L 6=.int .i64 y5/\wi.heap.size<=w.heap.size/\Ext w0 w) F ⟨_,_,_,hB6,l0_i2,O0_i2,rfl,rfl,l1_i2,l2_i2,l6_i2,Z0_i2,K0_i2⟩ ?_;rintro m L w6⟨y6,y7,y8,hB6,l0_i3,O0_i3,l7_i3,l8_i3,l1_i3,l2_i3,l6_i3,Z0_i3,K0_i3⟩;rcases m with _|m
    ·rw[BZ]at hB6;cases hB6
    rw[BZ]at hB6;refine wp_seq<|Zr<|Zm<|Zm<|Zv (IZ l8_i3 l1_i3)<|nl<|cnd rfl (fun h6=>?_) (fun h6=>?_)
    ·have hB6:=Ac hB6 h6;refine wp_skip<|wp_block<|Zr<|Zm<|Zm<|Zm<|Zm<|Zv (BJ l7_i3 l6_i3)<|Zm<|Zm<|bS hB6 fun x6 Ex6 hB6=>Zc (xc Qm (mc l0_i3 (mc l7_i3 (mc rfl (mc l8_i3 (mc l2_i3 mn)))))) (dK K0_i3 O0_i3 Ex6) ?_;rintro _ w7⟨rfl,o15,hx3,hs3⟩;have Z3:=Nat.le_trans Z0_i3 hs3;refine nl<|Zr<|Zm<|Za<|nl<|rg<|Zm<|Zm<|Zv (Xk rfl l6_i3)<|Zv (BJ l8_i3 rfl)<|Za<|nl<|lq m (Nat.lt_succ_self _)<|?_;exact⟨_,_,_,hB6,l0_i3,o15,l8_i3,rfl,l1_i3,l2_i3,l6_i3,Z3,hx3⟩
    ·have hB6:=Ai hB6 h6;refine wp_exit<|?_;cases hB6;refine lf<|?_;exact⟨l0_i3,O0_i3,l7_i3,l1_i3,l2_i3,l6_i3,Z0_i3,K0_i3⟩
   rintro L w8⟨l0_j2,O0_j2,l7_j2,l1_j2,l2_j2,l6_j2,Z0_j2,K0_j2⟩;refine wp_seq<|Zr<|Zm<|Zm<|Zv (BJ l7_j2 l6_j2)<|Za<|nl<|Zr<|Zm<|Zm<|Zv (BN rfl l1_j2)<|nl<|bS hB4 fun y9 hB9 hB4=>ct (fun L w=>L 0=(.slice a1 x0.length cq1)/\Row 302 w0.heap.size w (.slice a1 x0.length cq1) y9/\L 1=.int .i64 x1/\L 2=.func (.func 204) [].toArray [].toArray/\L 6=.int .i64 y5/\wi.heap.size<=w.heap.size/\Ext w0 w) ?_ ?_
   ·refine cnd rfl (fun h7=>?_) (fun h7=>?_)
    ·have hB9:=Ac hB9 h7;refine rg<|Zm<|Zm<|Zm<|Zm<|Zm<|bS hB9 fun x7 Ex7 hB9=>Zc (xc Qm (mc l0_j2 (mc l7_j2 (mc rfl (mc l1_j2 (mc l2_j2 mn)))))) (dK K0_j2 O0_j2 Ex7) ?_;rintro _ w9⟨rfl,o16,hx4,hs4⟩;have Z4:=Nat.le_trans Z0_j2 hs4;refine nl<|?_;cases hB9;refine lf<|?_;exact⟨l0_j2,o16,l1_j2,l2_j2,l6_j2,Z4,hx4⟩
    ·have hB9:=Ai hB9 h7;refine wp_skip<|?_;cases hB9;refine lf<|?_;exact⟨l0_j2,O0_j2,l1_j2,l2_j2,l6_j2,Z0_j2,K0_j2⟩
   rintro L w10⟨l0_j3,O0_j3,l1_j3,l2_j3,l6_j3,Z0_j3,K0_j3⟩;refine rg<|Zm<|Zv (Xk l6_j3 rfl)<|Za<|nl<|lq m (Nat.lt_succ_self _)<|?_;exact⟨_,_,hB4,l0_j3,O0_j3,rfl,l1_j3,l2_j3,Z0_j3,K0_j3⟩
  ·have hB4:=Ai hB4 h5;refine wp_exit<|?_;cases hB4;refine lf<|?_;exact⟨l0_i2,O0_i2,Z0_i2,K0_i2⟩
 rintro L w11⟨l0_j4,O0_j4,Z0_j4,K0_j4⟩;cases hF;exact NZ rfl .nil ⟨rfl,O0_j4,K0_j4,Z0_j4⟩
theorem ku{w0 wi:World}(hk:Ext w0 wi){v0:Value}{x0:(List ((Int×Int)×Int))}(o0:Row 302 w0.heap.size wi v0 x0){F:Nat}{r:(List ((Int×Int)×Int))}(hF:BS F x0=some r):
  Calls Tryz.prog 203 [v0,.func (.func 204) #[] #[]].toArray wi (BV fun v w'=>v=.tuple #[]/\Row 302 w0.heap.size w' v0 r/\Ext w0 w'/\wi.heap.size<=w'.heap.size):=by
 unfold BS at hF;have hz:=RV.sl o0.rv;obtain⟨a1,cq1,rfl,-,-,-⟩:=hz;have Z0:wi.heap.size<=wi.heap.size:=Nat.le_refl _;refine BX (n:=9) Tryz.func203 rfl rfl rfl<|rg<|Zm<|Zm<|Zv (Bp rfl Tryz.underlying298)<|Zm<|bS hF fun x3 Ex3 hF=>Zc (xc gT (mc rfl (mc rfl (mc rfl mn)))) (kr hk o0 Ex3) ?_;rintro _ w1⟨rfl,o10,hx1,hs1⟩;have Z1:=Nat.le_trans Z0 hs1;refine nl<|?_;cases hF;exact NZ rfl .nil ⟨rfl,o10,hx1,Z1⟩
theorem jS{w0:World}{v0:Value}{x0:(List (Int×Int))}(r0:RV w0 v0 x0){F:Nat}{r:(Ob (Uno (List ((Int×Int)×Int))))}(hF:FW F x0=some r):
  Calls Tryz.prog 96 [v0].toArray w0 (BV fun v w'=>∃u0:Value,v=u0/\RV w' u0 r/\Ext w0 w'):=by
 unfold FW at hF;have hz:=r0.sl;obtain⟨a1,cq1,rfl,-,-,-⟩:=hz;refine BX (n:=34) Tryz.func96 rfl rfl rfl<|Zr<|Za<|nl<|Zr<|Zv (Ki (r:=[.slice none 0 0]) fG fH pn rfl)<|FJ rfl rfl fun b2 w1 hx1 hg1 hb1=>Za<|nl<|wp_seq<|Zr<|Zm<|Zv (Bp rfl Tryz.underlying32)<|Zm<|nl<|bS hF fun z1 hB1 hF=>ct (fun L w=>∃v3:Value,Bx w b2 300 [v3]/\Row 302 w1.heap.size w v3 z1.v/\some b2≠Value.ownBlock v3/\L 3=.pointer (some ⟨b2,0,none⟩)/\w1.heap.size<=w.heap.size/\Ext w0 w) ?_ ?_
 ·refine wp_block<|lp (I:=fun m L w=>∃y1:Int,∃y2:(Uno (List ((Int×Int)×Int))),∃v2:Value,DZ F x0 m y1 y2=some z1/\L 10=.int .i64 y1/\Bx w b2 300 [v2]/\Row 302 w1.heap.size w v2 y2.v/\some b2≠Value.ownBlock v2/\L 3=.pointer (some ⟨b2,0,none⟩)/\L 8=.slice a1 x0.length cq1/\L 9=.int .i64 (x0.length:Int)/\w1.heap.size<=w.heap.size/\Ext w0 w) F ⟨_,_,_,hB1,rfl,hb1,Row.nil,(fun e=>by cases e),rfl,rfl,rfl,(Nat.le_refl _),hx1⟩ ?_;rintro m L w2⟨y1,y2,v2,hB1,l10_i1,B3_i1,O3c1_i1,N3c1_i1,l3_i1,l8_i1,l9_i1,Z0_i1,K0_i1⟩;rcases m with _|m
  ·rw[DZ]at hB1;cases hB1
  rw[DZ]at hB1;have hz:=RV.sl O3c1_i1.rv;obtain⟨a2,cq2,rfl,-,-,-⟩:=hz;refine Zr<|Zv (BN l10_i1 l9_i1)<|nl<|wp_seq<|cnd rfl (fun h2=>?_) (fun h2=>?_)
  ·have hB1:=Ac hB1 h2;refine wp_skip<|wp_seq<|wp_block<|Zr<|Zm<|bS hB1 fun x2 Ex2 hB1=>?_;have hz:=(RV.els r0).ix Ex2;obtain⟨b3,f1,cs2,e1,i2,i3,q2,hc1⟩:=hz;cases e1;obtain⟨_,_,rfl,rfl,rfl⟩:=q2;have hc2:=hc1.ext K0_i1;refine Zv (Ao l8_i1 l10_i1 Tryz.underlying32 D8 i2 i3)<|Zv (BO rfl D8 rfl hc2)<|FT D8 fun b4 w3 hx2 hg2 hb2=>?_;have k1:=K0_i1.tr hx2;have zs1:=Nat.le_trans Z0_i1 hx2.size;refine Za<|EW rfl rfl rfl D8 hb2 rfl rfl (ble rfl) fun w4 hch1 hb3=>?_;have k2:=Ext.chg k1 hch1 (Nat.le_trans K0_i1.size hg2);have k3:=Ext.chg hx2 hch1 (Nat.le_trans (Nat.le_refl _) hg2);have zs2:=Nat.le_trans zs1 (Nat.le_of_eq hch1.size.symm);have B2:=B3_i1.ext k3;have O2:=O3c1_i1.ext k3;have hb4:Bx w4 b4 35 [.int .i64 x2.1,.int .i64 x2.2]:=hb3;refine nl<|bL (row:=(Value.ownBlock (.slice a2 y2.v.length cq2))) [12] (.pure true 0 (.pure true 1 (.pure true 2 (.pure true 3 (.pure false 4 (.pure false 5 (.pure true 6 (.pure true 7 (.eff 8 (.eff 9 (.pure true 10 (.pure true 11 (.eff 12 .fin .stop))) .stop) .stop))))))))) mixed (by kernel_rfl) (fun w5 hx3=>?_);have k4:=k2.tr hx3;have zs3:=Nat.le_trans zs2 hx3.size;have B3:=B2.ext hx3;have O3:=O2.ext hx3;have hb5:=hb4.ext hx3;refine Zn rfl<|Zn rfl<|Zp rfl (fun _=>FB l3_i1)<|Zp rfl (fun _=>Ah rfl M0)<|Zq rfl (fun _ hS=>AX rfl Qi ((Bx.cs (Bx.gr B3 (hS.resolve_left nofun) N3c1_i1)).at 0 rfl)) (Ext.gro (Ext.refl _))<|Zq rfl (fun _ hS=>BO rfl D8 rfl (Bx.cs (Bx.gr hb5 (hS.resolve_left nofun) (O3c1_i1.ne_new hg2)))) (Ext.gro (Ext.refl _))<|Zn rfl<|Zp rfl (fun _=>Ki (r:=[.int .i64 x2.1,.int .i64 x2.2,.int .i64 y1]) BI fI (pc rfl (pc l10_i1 pn)) rfl)<|D9 rfl<|JB (cs:=[.int .i64 x2.1,.int .i64 x2.2,.int .i64 y1]) Tryz.underlying298 BI rfl (pc rfl pn) rfl rfl rfl rfl rfl fun b5 w6 hx4 hg3 hb6=>?_;have k6:=k4.tr hx4;have zs4:=Nat.le_trans zs3 hx4.size;have B4:=B3.ext hx4;have O4:=O3.ext hx4;have o2:Row (α:=((Int×Int)×Int)) 302 w5.heap.size w6 (.slice (some ⟨b5,0,none⟩) 1 1) [((x2.1,x2.2),y1)]:=Row.lit hg3 hb6 rfl (ble rfl);refine nl ⟨fun _ _=>(Ext.gro hx4),?_⟩;refine bS hB1 fun x3 Ex3 hB1=>D9 rfl<|Nr (l:=y2.v) (k:=([((x2.1,x2.2),y1)]:List ((Int×Int)×Int))) rfl rfl Tryz.underlying298 BI rfl rfl O4 (RV.els o2.rv) Ex3 zs4 fun v4 w7 o3 hB3 hgr1 how1=>?_;have k8:=Ext.grow k6 hx1.size hB3;have zs5:=Nat.le_trans zs4 hgr1.size;have gS1:=World.grownBy.tr (Ext.gro hx4) hgr1;have ne1:=Jr how1 N3c1_i1 B4.lt;have hb7:=Bx.gr B4 hgr1 N3c1_i1;have hz:=RV.sl o3.rv;obtain⟨a3,cq3,rfl,-,-,-⟩:=hz;refine nl ⟨fun _ _=>gS1,?_⟩;refine Zp rfl (fun _=>FB l3_i1)<|Zp rfl (fun _=>Ah rfl M0)<|D9 rfl<|EW rfl rfl rfl Qi hb7 rfl rfl (ble rfl) fun w8 hch2 hb8=>?_;have k9:=Ext.chg k8 hch2 (Nat.le_trans (Nat.le_refl _) hg1);have zs6:=Nat.le_trans zs5 (Nat.le_of_eq hch2.size.symm);have o4:=Row.chgn o3 hch2 ne1;have hb9:Bx w8 b2 300 [.slice a3 x3.length cq3]:=hb8;refine nl ⟨fun h=>(h (by decide)).elim,?_⟩;refine rg<|Zv (BJ l10_i1 rfl)<|Zm<|nl<|lq m (Nat.lt_succ_self _)<|?_;exact⟨_,_,_,hB1,rfl,hb9,o4,ne1,l3_i1,l8_i1,l9_i1,zs6,k9⟩
  ·have hB1:=Ai hB1 h2;refine wp_exit<|?_;cases hB1;refine lf<|?_;exact⟨_,B3_i1,O3c1_i1,N3c1_i1,l3_i1,Z0_i1,K0_i1⟩
 rintro L w9⟨v3,B3_j1,O3c1_j1,N3c1_j1,l3_j1,Z0_j1,K0_j1⟩;have hz:=RV.sl O3c1_j1.rv;obtain⟨a4,cq4,rfl,-,-,-⟩:=hz;refine Zr<|Zm<|Zv (FB l3_j1)<|Zv (Ah rfl M0)<|Zv (AX rfl Qi ((Bx.cs B3_j1).at 0 rfl))<|bS hF fun x4 Ex4 hF=>Zc (xc gB (mc rfl (mc rfl mn))) (ku (Zl _ w1.heap.size) (by rw[Q8 Z0_j1];exact O3c1_j1) Ex4) ?_;rintro _ w10⟨rfl,o5,hx5,hs1⟩;rw[Q8 Z0_j1]at o5;have k10:=Ext.cut K0_j1 hx1.size hx5 hs1;have hb10:=Bx.cut B3_j1 hb1.lt hx5;have hl1:=(RV.cap o5.rv).1;rw[hl1]at o5 hb10;refine nl<|Zr<|Zm<|Za<|nl<|?_;have r11:RV w10 (.pointer (some ⟨b2,0,none⟩)) (⟨some (⟨x4⟩:(Uno (List ((Int×Int)×Int))))⟩:(Ob (Uno (List ((Int×Int)×Int))))):=ZC (Bx.cs hb10) rfl o5.rv.rep1;cases hF;exact wp_ret<|rt rfl (.tmp l3_j1 rfl .nil) ⟨_,rfl,r11,k10⟩
theorem kz{w0:World}{v0:Value}{x0:(List (Int×Int))}(r0:RV w0 v0 x0){v1:Value}{x1:(Int×Int)->Option Bool}(h1:FnB Tryz.prog (Int×Int) w0 v1 x1){F:Nat}{r:Int}(hF:Dr F x0 x1=some r):
  Calls Tryz.prog 329 [v0,v1].toArray w0 (BV fun v w'=>v=.int .i64 r/\Ext w0 w'):=by
 unfold Dr at hF;have hz:=r0.sl;obtain⟨a1,cq1,rfl,-,-,-⟩:=hz;refine BX (n:=19) Tryz.func329 rfl rfl rfl<|Zr<|Za<|nl<|wp_seq<|Zr<|Zm<|Zv (Bp rfl Tryz.underlying32)<|Zm<|nl<|bS hF fun o1 hB1 hF=>ct (fun L w=>o1=.inr ()/\Ext w0 w) ?_ ?_
 ·refine wp_block<|lp (I:=fun m L w=>∃y1:Int,Be F x0 x1 m y1=some o1/\L 8=.int .i64 y1/\L 0=.slice a1 x0.length cq1/\L 1=v1/\L 7=.int .i64 (x0.length:Int)/\Ext w0 w) F ⟨_,hB1,rfl,rfl,rfl,rfl,(Ext.refl _)⟩ ?_;rintro m L w1⟨y1,hB1,l8_i1,l0_i1,l1_i1,l7_i1,K0_i1⟩;rcases m with _|m
  ·rw[Be]at hB1;cases hB1
  rw[Be]at hB1;have h3:=h1.ext K0_i1;refine Zr<|Zv (BN l8_i1 l7_i1)<|nl<|wp_seq<|cnd rfl (fun h4=>?_) (fun h4=>?_)
  ·have hB1:=Ac hB1 h4;refine wp_skip<|wp_seq<|wp_block<|Zr<|Zm<|Za<|nl<|Zr<|Zm<|Zm<|Zm<|bS hB1 fun x3 Ex3 hB1=>?_;have hz:=(RV.els r0).ix Ex3;obtain⟨b3,f1,cs3,e1,i2,i3,q3,hc1⟩:=hz;cases e1;obtain⟨_,_,rfl,rfl,rfl⟩:=q3;have hc2:=hc1.ext K0_i1;refine Zv (Ao l0_i1 l8_i1 Tryz.underlying32 D8 i2 i3)<|Zv (BO rfl D8 rfl hc2)<|bS hB1 fun x4 Ex4 hB1=>?_;have hz:=id h3;obtain⟨g1,fs1,cs4,e2,hg1,hu1⟩:=hz;refine Zc (Lv (l1_i1.trans e2) hg1 (mc rfl mn) rfl) (hu1 _ _ _ _ (Ext.refl _) (show RV (α:=(Int×Int)) _ (.agg [.int .i64 x3.1,.int .i64 x3.2].toArray) (x3.1,x3.2)from⟨_,rfl,[.int .i64 x3.1],[.int .i64 x3.2],rfl,rfl,rfl⟩) Ex4) ?_;rintro _ w2⟨rfl,hx1⟩;have k1:=K0_i1.tr hx1;refine nl<|cnd rfl (fun h6=>?_) (fun h6=>?_)
   ·have hB1:=Ac hB1 h6;refine Zr<|Zm<|Za<|nl<|?_;cases hB1;have hF:=(show some _=some _ from hF);cases hF;exact wp_ret<|rt rfl (.tmp l8_i1 rfl .nil) ⟨rfl,k1⟩
   ·have hB1:=Ai hB1 h6;refine wp_skip<|rg<|Zv (BJ l8_i1 rfl)<|Zm<|nl<|lq m (Nat.lt_succ_self _)<|?_;exact⟨_,hB1,rfl,l0_i1,l1_i1,l7_i1,k1⟩
  ·have hB1:=Ai hB1 h4;refine wp_exit<|?_;cases hB1;refine lf<|?_;exact⟨rfl,K0_i1⟩
 rintro L w3⟨rfl,K0_j1⟩;refine Zr<|Za<|nl<|?_;cases hF;exact wp_ret<|Zw rfl rfl rfl ⟨rfl,K0_j1⟩
theorem lC{w0:World}{v0:Value}{x0:(List (Int×Int))}(r0:RV w0 v0 x0){v1:Value}{x1:(Int×Int)->Option Bool}(h1:FnB Tryz.prog (Int×Int) w0 v1 x1){F:Nat}{r:Bool}(hF:Cg F x0 x1=some r):
  Calls Tryz.prog 279 [v0,v1].toArray w0 (BV fun v w'=>v=.bool r/\Ext w0 w'):=by
 unfold Cg at hF;have hz:=r0.sl;obtain⟨a1,cq1,rfl,-,-,-⟩:=hz;refine BX (n:=9) Tryz.func279 rfl rfl rfl<|Zr<|Za<|nl<|Zr<|Zm<|Zm<|bS hF fun x3 Ex3 hF=>Zc (xc gy (mc rfl (mc rfl mn))) (kz r0 h1 Ex3) ?_;rintro _ w1⟨rfl,hx1⟩;refine Zv (Kh rfl rfl)<|Za<|nl<|?_;cases hF;exact wp_ret<|Zw rfl rfl rfl ⟨rfl,hx1⟩
theorem lD{w0:World}{v0:Value}{x0:(Int×Int)}(r0:RV w0 v0 x0){r:Bool}(hF:Gx x0=some r):
  Calls Tryz.prog 280 [v0].toArray w0 (BV fun v w'=>v=.bool r/\Ext w0 w'):=by
 unfold Gx at hF;have hz:=id r0;obtain⟨_,rfl,_,_,rfl,rfl,rfl⟩:=hz;refine BX (n:=18) Tryz.func280 rfl rfl rfl<|Zr<|FJ rfl rfl fun b2 w1 hx1 hg1 hb1=>Za<|nl<|Zr<|Zv (Ah rfl Gn)<|Zv (AX rfl Du ((Bx.cs hb1).at 0 rfl))<|Zv (BN rfl rfl)<|Zm<|Zg rfl rfl (A9 rfl) (fun hc=>Ah rfl Gn)<|Zg rfl rfl (A9 rfl) (fun hc=>AX (mv hc rfl) Du ((Bx.cs hb1).at 0 rfl))<|Zg rfl rfl (A9 rfl) (fun hc=>Ah rfl GY)<|Zg rfl rfl (A9 rfl) (fun hc=>AX (mv hc rfl) Du ((Bx.cs hb1).at 1 rfl))<|Zg rfl rfl (A9 rfl) (fun hc=>EO (mv hc rfl) (mv hc rfl))<|Zv (F6 rfl rfl rfl)<|Zm<|Zg rfl rfl (A9 rfl) (fun hc=>Ah rfl GY)<|Zg rfl rfl (A9 rfl) (fun hc=>AX (mv hc rfl) Du ((Bx.cs hb1).at 1 rfl))<|Zg rfl rfl (A9 rfl) (fun hc=>EO (mv hc rfl) rfl)<|Zv (F6 rfl rfl rfl)<|Za<|nl<|?_;cases hF;exact wp_ret<|Zw rfl rfl rfl ⟨rfl,hx1⟩
theorem lF{w0:World}{v0:Value}{x0:(List (Int×Int))}(r0:RV w0 v0 x0){F:Nat}{r:Bool}(hF:Gp F x0=some r):
  Calls Tryz.prog 202 [v0].toArray w0 (BV fun v w'=>v=.bool r/\Ext w0 w'):=by
 unfold Gp at hF;have hz:=r0.sl;obtain⟨a1,cq1,rfl,-,-,-⟩:=hz;refine BX (n:=6) Tryz.func202 rfl rfl rfl<|Zr<|Za<|nl<|Zr<|Zm<|bS hF fun x2 Ex2 hF=>Zc (xc gP (mc rfl (mc rfl mn))) (lC r0 ⟨280,[],[],rfl,gQ,fun w' u x b hk hu hp=>lD hu hp⟩ Ex2) ?_;rintro _ w1⟨rfl,hx1⟩;refine Zv (Ej rfl)<|Za<|nl<|?_;cases hF;exact wp_ret<|Zw rfl rfl rfl ⟨rfl,hx1⟩
theorem jT{w0:World}{v0:Value}{x0:(List (Int×Int))}(r0:RV w0 v0 x0){F:Nat}{r:Int}(hF:Eg F x0=some r):
  Calls Tryz.prog 95 [v0].toArray w0 (BV fun v w'=>v=.int .i64 r/\Ext w0 w'):=by
 unfold Eg at hF;have hz:=r0.sl;obtain⟨a1,cq1,rfl,-,-,-⟩:=hz;refine BX (n:=16) Tryz.func95 rfl rfl rfl<|Zr<|Za<|nl<|wp_seq<|wp_block<|Zr<|Zm<|Zv (Bp rfl Tryz.underlying32)<|Zv (HV rfl rfl)<|Zm<|Zg rfl rfl (A9 rfl) (fun hc=>Ba rfl)<|Zg rfl rfl (A9 rfl) (fun hc=>Bp (mv hc rfl) Tryz.underlying32)<|Zg rfl rfl (A9 rfl) (fun hc=>EO (mv hc rfl) rfl)<|Zv (F6 rfl rfl rfl)<|Za<|nl<|cnd rfl (fun h2=>?_) (fun h2=>?_)
 ·have hF:=Ac hF h2;refine Zr<|Za<|nl<|?_;cases hF;exact wp_ret<|Zw rfl rfl rfl ⟨rfl,(Ext.refl _)⟩
 ·have hF:=Ai hF h2;refine Zr<|Zm<|bS hF fun x2 Ex2 hF=>Zc (xc fu (mc rfl mn)) (lF r0 Ex2) ?_;rintro _ w1⟨rfl,hx1⟩;refine Zv (Ej rfl)<|Za<|nl<|cnd rfl (fun h3=>?_) (fun h3=>?_)
  ·have hF:=Ac hF h3;refine Zr<|Za<|nl<|?_;cases hF;exact wp_ret<|Zw rfl rfl rfl ⟨rfl,hx1⟩
  ·have hF:=Ai hF h3;refine wp_skip<|Zr<|Za<|nl<|?_;cases hF;exact wp_ret<|Zw rfl rfl rfl ⟨rfl,hx1⟩
theorem jU{w0:World}{v0:Value}{x0:(Int×Int)}(r0:RV w0 v0 x0){v1:Value}{x1:(List Int)}(r1:RV w0 v1 x1){F:Nat}{r:Bool}(hF:Gd F x0 x1=some r):
  Calls Tryz.prog 67 [v0,v1].toArray w0 (BV fun v w'=>v=.bool r/\Ext w0 w'):=by
 unfold Gd at hF;have hz:=id r0;obtain⟨_,rfl,_,_,rfl,rfl,rfl⟩:=hz;have hz:=r1.sl;obtain⟨a1,cq1,rfl,-,-,-⟩:=hz;refine BX (n:=28) Tryz.func67 rfl rfl rfl<|Zr<|FJ rfl rfl fun b3 w1 hx1 hg1 hb1=>Za<|nl<|wp_seq<|Zr<|Za<|nl<|bS hF fun o1 hB1 hF=>ct (fun L w=>o1=.inr ()/\Ext w1 w) ?_ ?_
 ·refine wp_block<|lp (I:=fun m L w=>∃y1:Int,ET F x0 x1 m y1=some o1/\L 5=.int .i64 y1/\L 1=.slice a1 x1.length cq1/\L 2=.pointer (some ⟨b3,0,none⟩)/\Ext w1 w) F ⟨_,hB1,rfl,rfl,rfl,(Ext.refl _)⟩ ?_;rintro m L w2⟨y1,hB1,l5_i1,l1_i1,l2_i1,K0_i1⟩;rcases m with _|m
  ·rw[ET]at hB1;cases hB1
  rw[ET]at hB1;have k1:=hx1.tr K0_i1;have hb2:=hb1.ext K0_i1;refine wp_seq<|Zr<|Zm<|Zm<|Zv (Bp l1_i1 Tryz.underlying28)<|Zv (BN l5_i1 rfl)<|nl<|cnd rfl (fun h3=>?_) (fun h3=>?_)
  ·have hB1:=Ac hB1 h3;refine wp_skip<|wp_seq<|wp_block<|wp_seq<|bS hB1 fun y2 hB3 hB1=>ct (fun L w=>L 27=.bool y2/\L 1=.slice a1 x1.length cq1/\L 2=.pointer (some ⟨b3,0,none⟩)/\L 5=.int .i64 y1/\Ext w2 w) ?_ ?_
   ·refine FZ [] (.pure true 0 (.pure true 1 (.pure true 2 (.pure false 3 (.pure true 4 (.pure false 5 (.pure true 6 (.pure true 7 (.pure true 8 (.pure true 9 (.pure true 10 (.pure false 11 (.pure true 12 (.pure false 13 (.pure true 14 (.pure true 15 .fin)))))))))))))))) mixed (by kernel_rfl) (fun w4 hx3=>?_);have k4:=k1.tr hx3;have hb4:=hb2.ext hx3;refine Zn rfl<|Zn rfl<|bS hB3 fun x4 Ex4 hB3=>?_;have hz:=(RV.els r1).ix Ex4;obtain⟨b5,f2,cs4,e2,i4,i5,q4,hc3⟩:=hz;cases e2;obtain rfl:=q4;have hc4:=hc3.ext k4;refine Zp rfl (fun _=>Ao l1_i1 l5_i1 Tryz.underlying28 Du i4 i5)<|Zq rfl (fun _ hS=>AX rfl Du ((hc4.ext (hS.resolve_left nofun)).at 0 rfl)) (Ext.refl _)<|Zp rfl (fun _=>Ah l2_i1 Gn)<|Zq rfl (fun _ hS=>AX rfl Du ((Bx.cs (hb4.ext (hS.resolve_left nofun))).at 0 rfl)) (Ext.refl _)<|Zp rfl (fun _=>Kh rfl rfl)<|Zn rfl<|Or.elim (Bool.eq_false_or_eq_true (decide (x0.1<=x4))) (fun h4=>?_) (fun h4=>?_)
    ·have hB3:=Ac hB3 h4;refine Yt rfl (bt h4) (fun _=>Bw)<|Yt rfl (bt h4) (fun _=>Bw)<|bS hB3 fun x5 Ex5 hB3=>?_;have hz:=EA r1 Ex5;obtain⟨cs5,i6,i7,q5,hc5⟩:=hz;obtain rfl:=q5;have hc6:=hc5.ext k4;refine Yt rfl (bt h4) (fun _=>Ao l1_i1 l5_i1 Tryz.underlying28 Du i6 i7)<|Yi rfl (bt h4) (fun _ hS=>AX rfl Du ((hc6.ext (hS.resolve_left nofun)).at 0 rfl)) (Ext.refl _)<|Yt rfl (bt h4) (fun _=>Ah l2_i1 GY)<|Yi rfl (bt h4) (fun _ hS=>AX rfl Du ((Bx.cs (hb4.ext (hS.resolve_left nofun))).at 1 rfl)) (Ext.refl _)<|Yt rfl (bt h4) (fun _=>IZ rfl rfl)<|Zp rfl (fun _=>EJ rfl h4 rfl)<|?_;cases hB3;refine lf<|?_;exact⟨rfl,l1_i1,l2_i1,l5_i1,hx3⟩
    ·have hB3:=Ai hB3 h4;refine Yf rfl (Ak h4)<|Yf rfl (Ak h4)<|Yf rfl (Ak h4)<|Yh rfl (Ak h4) (Ext.refl _)<|Yf rfl (Ak h4)<|Yh rfl (Ak h4) (Ext.refl _)<|Yf rfl (Ak h4)<|Zp rfl (fun _=>Eb rfl h4 rfl)<|?_;cases hB3;refine lf<|?_;exact⟨rfl,l1_i1,l2_i1,l5_i1,hx3⟩
   rintro L w5⟨l27_j1,l1_j1,l2_j1,l5_j1,K0_j1⟩;have k6:=k1.tr K0_j1;have k7:=K0_i1.tr K0_j1;refine cnd l27_j1 (fun h5=>?_) (fun h5=>?_)
   ·have hB1:=Ac hB1 h5;refine Zr<|Za<|nl<|?_;cases hB1;have hF:=(show some _=some _ from hF);cases hF;exact wp_ret<|Zw rfl rfl rfl ⟨rfl,k6⟩
   ·have hB1:=Ai hB1 h5;refine wp_skip<|rg<|Zm<|Zv (BJ l5_j1 rfl)<|Za<|nl<|lq m (Nat.lt_succ_self _)<|?_;exact⟨_,hB1,rfl,l1_j1,l2_j1,k7⟩
  ·have hB1:=Ai hB1 h3;refine wp_exit<|?_;cases hB1;refine lf<|?_;exact⟨rfl,K0_i1⟩
 rintro L w6⟨rfl,K0_j2⟩;have k8:=hx1.tr K0_j2;refine Zr<|Za<|nl<|?_;cases hF;exact wp_ret<|Zw rfl rfl rfl ⟨rfl,k8⟩
theorem XC{w0:World}{v0:Value}{x0:(List (Int×Int))}(r0:RV w0 v0 x0){F:Nat}{r:Int}(hF:DN F x0=some r):
  Calls Tryz.prog 65 [v0].toArray w0 (BV fun v w'=>v=.int .i64 r/\Ext w0 w'):=by
 unfold DN at hF;have hz:=r0.sl;obtain⟨a1,cq1,rfl,-,-,-⟩:=hz;refine BX (n:=45) Tryz.func65 rfl rfl rfl<|Zr<|Za<|nl<|wp_seq<|Zr<|Zm<|Zv (Bp rfl Tryz.underlying32)<|Zv (BN rfl rfl)<|Zm<|Zg rfl rfl (A9 rfl) (fun hc=>Ba rfl)<|Zg rfl rfl (A9 rfl) (fun hc=>Bp (mv hc rfl) Tryz.underlying32)<|Zg rfl rfl (A9 rfl) (fun hc=>EO (mv hc rfl) rfl)<|Zv (F6 rfl rfl rfl)<|nl<|cnd rfl (fun h2=>?_) (fun h2=>?_)
 ·have hF:=Ac hF h2;refine Zr<|Za<|nl<|?_;cases hF;exact wp_ret<|Zw rfl rfl rfl ⟨rfl,(Ext.refl _)⟩
 ·have hF:=Ai hF h2;refine wp_skip<|wp_seq<|Zr<|Za<|nl<|bS hF fun o1 hB1 hF=>ct (fun L w=>o1=.inr ()/\Ext w0 w) ?_ ?_
  ·refine wp_block<|lp (I:=fun m L w=>∃y1:Int,Da F x0 m y1=some o1/\L 3=.int .i64 y1/\L 0=.slice a1 x0.length cq1/\Ext w0 w) F ⟨_,hB1,rfl,rfl,(Ext.refl _)⟩ ?_;rintro m L w1⟨y1,hB1,l3_i1,l0_i1,K0_i1⟩;rcases m with _|m
   ·rw[Da]at hB1;cases hB1
   rw[Da]at hB1;refine wp_seq<|Zr<|Zm<|Zm<|Zv (Bp l0_i1 Tryz.underlying32)<|Zv (BN l3_i1 rfl)<|nl<|cnd rfl (fun h3=>?_) (fun h3=>?_)
   ·have hB1:=Ac hB1 h3;refine wp_skip<|wp_seq<|wp_block<|wp_seq<|bS hB1 fun y2 hB3 hB1=>ct (fun L w=>L 44=.bool y2/\L 0=.slice a1 x0.length cq1/\L 3=.int .i64 y1/\Ext w1 w) ?_ ?_
    ·refine FZ [] (.pure true 0 (.pure true 1 (.pure true 2 (.pure true 3 (.pure false 4 (.pure true 5 (.pure true 6 (.pure true 7 (.pure true 8 (.pure true 9 (.pure true 10 (.pure false 11 (.pure true 12 (.pure true 13 (.pure true 14 (.pure true 15 (.pure false 16 (.pure true 17 (.pure true 18 (.pure true 19 (.pure true 20 (.pure true 21 (.pure true 22 (.pure true 23 (.pure false 24 (.pure true 25 (.pure true 26 .fin))))))))))))))))))))))))))) mixed (by kernel_rfl) (fun w3 hx2=>?_);have k2:=K0_i1.tr hx2;refine Zn rfl<|Zn rfl<|bS hB3 fun x3 Ex3 hB3=>?_;have hz:=(RV.els r0).ix Ex3;obtain⟨b3,f2,cs3,e2,i4,i5,q3,hc3⟩:=hz;cases e2;obtain⟨_,_,rfl,rfl,rfl⟩:=q3;have hc4:=hc3.ext k2;refine Zp rfl (fun _=>Ao l0_i1 l3_i1 Tryz.underlying32 D8 i4 i5)<|Zp rfl (fun _=>Ah rfl Gn)<|Zq rfl (fun _ hS=>AX rfl Du ((hc4.ext (hS.resolve_left nofun)).at 0 rfl)) (Ext.refl _)<|Zp rfl (fun _=>BN rfl rfl)<|Zn rfl<|Or.elim (Bool.eq_false_or_eq_true (decide (x3.1<0))) (fun h4=>?_) (fun h4=>?_)
     ·have hB3:=Ac hB3 h4;refine Yf rfl (Bg h4)<|Yf rfl (Bg h4)<|Yf rfl (Bg h4)<|Yf rfl (Bg h4)<|Yh rfl (Bg h4) (Ext.refl _)<|Yf rfl (Bg h4)<|Yf rfl (Bg h4)<|Yf rfl (Bg h4)<|Yf rfl (Bg h4)<|Yh rfl (Bg h4) (Ext.refl _)<|Yf rfl (Bg h4)<|Zp rfl (fun _=>EJ rfl h4 rfl)<|Zn rfl<|Or.elim (Bool.eq_false_or_eq_true true) (fun h5=>?_) (fun h5=>?_)
      ·have hB3:=Ac hB3 h5;refine Yf rfl (Bg h5)<|Yf rfl (Bg h5)<|Yf rfl (Bg h5)<|Yf rfl (Bg h5)<|Yh rfl (Bg h5) (Ext.refl _)<|Yf rfl (Bg h5)<|Zp rfl (fun _=>EJ rfl h5 rfl)<|?_;cases hB3;refine lf<|?_;exact⟨rfl,l0_i1,l3_i1,hx2⟩
      ·have hB3:=Ai hB3 h5;refine Yt rfl (bf h5) (fun _=>Bw)<|Yt rfl (bf h5) (fun _=>Bw)<|bS hB3 fun x4 Ex4 hB3=>?_;have hz:=EA r0 Ex4;obtain⟨cs4,i6,i7,q4,hc5⟩:=hz;obtain⟨_,_,rfl,rfl,rfl⟩:=q4;have hc6:=hc5.ext k2;refine Yt rfl (bf h5) (fun _=>Ao l0_i1 l3_i1 Tryz.underlying32 D8 i6 i7)<|Yt rfl (bf h5) (fun _=>Ah rfl GY)<|Yi rfl (bf h5) (fun _ hS=>AX rfl Du ((hc6.ext (hS.resolve_left nofun)).at 1 rfl)) (Ext.refl _)<|Yt rfl (bf h5) (fun _=>EO rfl rfl)<|Zp rfl (fun _=>Eb rfl h5 rfl)<|?_;cases hB3;refine lf<|?_;exact⟨rfl,l0_i1,l3_i1,hx2⟩
     ·have hB3:=Ai hB3 h4;refine Yt rfl (bf h4) (fun _=>Bw)<|Yt rfl (bf h4) (fun _=>Bw)<|bS hB3 fun x5 Ex5 hB3=>?_;have hz:=EA r0 Ex5;obtain⟨cs5,i8,i9,q5,hc7⟩:=hz;obtain⟨_,_,rfl,rfl,rfl⟩:=q5;have hc8:=hc7.ext k2;refine Yt rfl (bf h4) (fun _=>Ao l0_i1 l3_i1 Tryz.underlying32 D8 i8 i9)<|Yt rfl (bf h4) (fun _=>Ah rfl Gn)<|Yi rfl (bf h4) (fun _ hS=>AX rfl Du ((hc8.ext (hS.resolve_left nofun)).at 0 rfl)) (Ext.refl _)<|Yt rfl (bf h4) (fun _=>Bw)<|Yt rfl (bf h4) (fun _=>Bw)<|bS hB3 fun x6 Ex6 hB3=>?_;have hz:=EA r0 Ex6;obtain⟨cs6,i10,i11,q6,hc9⟩:=hz;obtain⟨_,_,rfl,rfl,rfl⟩:=q6;have hc10:=hc9.ext k2;refine Yt rfl (bf h4) (fun _=>Ao l0_i1 l3_i1 Tryz.underlying32 D8 i10 i11)<|Yt rfl (bf h4) (fun _=>Ah rfl GY)<|Yi rfl (bf h4) (fun _ hS=>AX rfl Du ((hc10.ext (hS.resolve_left nofun)).at 1 rfl)) (Ext.refl _)<|Yt rfl (bf h4) (fun _=>EO rfl rfl)<|Zp rfl (fun _=>Eb rfl h4 rfl)<|Zn rfl<|Or.elim (Bool.eq_false_or_eq_true (decide (x6.2<x5.1))) (fun h6=>?_) (fun h6=>?_)
      ·have hB3:=Ac hB3 h6;refine Yf rfl (Bg h6)<|Yf rfl (Bg h6)<|Yf rfl (Bg h6)<|Yf rfl (Bg h6)<|Yh rfl (Bg h6) (Ext.refl _)<|Yf rfl (Bg h6)<|Zp rfl (fun _=>EJ rfl h6 rfl)<|?_;cases hB3;refine lf<|?_;exact⟨rfl,l0_i1,l3_i1,hx2⟩
      ·have hB3:=Ai hB3 h6;refine Yt rfl (bf h6) (fun _=>Bw)<|Yt rfl (bf h6) (fun _=>Bw)<|bS hB3 fun x7 Ex7 hB3=>?_;have hz:=EA r0 Ex7;obtain⟨cs7,i12,i13,q7,hc11⟩:=hz;obtain⟨_,_,rfl,rfl,rfl⟩:=q7;have hc12:=hc11.ext k2;refine Yt rfl (bf h6) (fun _=>Ao l0_i1 l3_i1 Tryz.underlying32 D8 i12 i13)<|Yt rfl (bf h6) (fun _=>Ah rfl GY)<|Yi rfl (bf h6) (fun _ hS=>AX rfl Du ((hc12.ext (hS.resolve_left nofun)).at 1 rfl)) (Ext.refl _)<|Yt rfl (bf h6) (fun _=>EO rfl rfl)<|Zp rfl (fun _=>Eb rfl h6 rfl)<|?_;cases hB3;refine lf<|?_;exact⟨rfl,l0_i1,l3_i1,hx2⟩
    rintro L w4⟨l44_j1,l0_j1,l3_j1,K0_j1⟩;have k3:=K0_i1.tr K0_j1;refine cnd l44_j1 (fun h7=>?_) (fun h7=>?_)
    ·have hB1:=Ac hB1 h7;refine Zr<|Za<|nl<|?_;cases hB1;have hF:=(show some _=some _ from hF);cases hF;exact wp_ret<|Zw rfl rfl rfl ⟨rfl,k3⟩
    ·have hB1:=Ai hB1 h7;refine wp_skip<|rg<|Zm<|Zv (BJ l3_j1 rfl)<|Za<|nl<|lq m (Nat.lt_succ_self _)<|?_;exact⟨_,hB1,rfl,l0_j1,k3⟩
   ·have hB1:=Ai hB1 h3;refine wp_exit<|?_;cases hB1;refine lf<|?_;exact⟨rfl,K0_i1⟩
  rintro L w5⟨rfl,K0_j2⟩;refine Zr<|Za<|nl<|?_;cases hF;exact wp_ret<|Zw rfl rfl rfl ⟨rfl,K0_j2⟩
theorem dL{w0:World}{v0:Value}{x0:(List (Int×Int))}(r0:RV w0 v0 x0){v1:Value}{x1:(List Int)}(r1:RV w0 v1 x1){F:Nat}{r:Int}(hF:FX F x0 x1=some r):
  Calls Tryz.prog 101 [v0,v1].toArray w0 (BV fun v w'=>v=.int .i64 r/\Ext w0 w'):=by
 unfold FX at hF;have hz:=r0.sl;obtain⟨a1,cq1,rfl,-,-,-⟩:=hz;have hz:=r1.sl;obtain⟨a2,cq2,rfl,-,-,-⟩:=hz;refine BX (n:=49) Tryz.func101 rfl rfl rfl<|Zr<|Za<|nl<|wp_seq<|Zr<|Zm<|bS hF fun x3 Ex3 hF=>Zc (xc Qy (mc rfl mn)) (XC r0 Ex3) ?_;rintro _ w1⟨rfl,hx1⟩;have r3:=r0.ext hx1;refine Zv (Di rfl rfl)<|nl<|cnd rfl (fun h3=>?_) (fun h3=>?_)
 ·have hF:=Ac hF h3;refine Zr<|Zm<|bS hF fun x4 Ex4 hF=>Zc (xc Qy (mc rfl mn)) (XC r3 Ex4) ?_;rintro _ w2⟨rfl,hx2⟩;have k1:=hx1.tr hx2;refine Za<|nl<|?_;cases hF;exact wp_ret<|Zw rfl rfl rfl ⟨rfl,k1⟩
 ·have hF:=Ai hF h3;refine wp_skip<|wp_seq<|Zr<|Zm<|Zv (Bp rfl Tryz.underlying28)<|Zv (EO rfl rfl)<|nl<|cnd rfl (fun h4=>?_) (fun h4=>?_)
  ·have hF:=Ac hF h4;refine Zr<|Za<|nl<|?_;cases hF;exact wp_ret<|Zw rfl rfl rfl ⟨rfl,hx1⟩
  ·have hF:=Ai hF h4;refine wp_skip<|wp_seq<|Zr<|Za<|nl<|bS hF fun o1 hB1 hF=>ct (fun L w=>o1=.inr ()/\L 1=.slice a2 x1.length cq2/\Ext w1 w) ?_ ?_
   ·refine wp_block<|lp (I:=fun m L w=>∃y1:Int,Dv F x1 m y1=some o1/\L 5=.int .i64 y1/\L 1=.slice a2 x1.length cq2/\Ext w1 w) F ⟨_,hB1,rfl,rfl,(Ext.refl _)⟩ ?_;rintro m L w3⟨y1,hB1,l5_i1,l1_i1,K0_i1⟩;rcases m with _|m
    ·rw[Dv]at hB1;cases hB1
    rw[Dv]at hB1;have k2:=hx1.tr K0_i1;refine wp_seq<|Zr<|Zm<|Zm<|Zv (Bp l1_i1 Tryz.underlying28)<|Zv (BN l5_i1 rfl)<|nl<|cnd rfl (fun h5=>?_) (fun h5=>?_)
    ·have hB1:=Ac hB1 h5;refine wp_skip<|wp_seq<|wp_block<|wp_seq<|bS hB1 fun y2 hB3 hB1=>ct (fun L w=>L 32=.bool y2/\L 1=.slice a2 x1.length cq2/\L 5=.int .i64 y1/\Ext w3 w) ?_ ?_
     ·refine rg<|Zm<|Zm<|bS hB3 fun x6 Ex6 hB3=>?_;have hz:=(RV.els r1).ix Ex6;obtain⟨b4,f2,cs4,e2,i4,i5,q4,hc3⟩:=hz;cases e2;obtain rfl:=q4;have hc4:=hc3.ext k2;refine Zv (Ao l1_i1 l5_i1 Tryz.underlying28 Du i4 i5)<|Zv (AX rfl Du (hc4.at 0 rfl))<|Zv (BN rfl rfl)<|Zm<|Or.elim (Bool.eq_false_or_eq_true (decide (x6<0))) (fun h6=>?_) (fun h6=>?_)
      ·have hB3:=Ac hB3 h6;refine Gk rfl (Bg h6)<|Gk rfl (Bg h6)<|Gk rfl (Bg h6)<|Gk rfl (Bg h6)<|Gk rfl (Bg h6)<|Zv (EJ rfl h6 rfl)<|nl<|?_;cases hB3;refine lf<|?_;exact⟨rfl,l1_i1,l5_i1,(Ext.refl _)⟩
      ·have hB3:=Ai hB3 h6;refine Gt rfl (bf h6)<|Zm<|Gt rfl (bf h6)<|Zm<|bS hB3 fun x7 Ex7 hB3=>?_;have hz:=EA r1 Ex7;obtain⟨cs5,i6,i7,q5,hc5⟩:=hz;obtain rfl:=q5;have hc6:=hc5.ext k2;refine Gt rfl (bf h6)<|Zv (Ao l1_i1 l5_i1 Tryz.underlying28 Du i6 i7)<|Gt rfl (bf h6)<|Zv (AX rfl Du (hc6.at 0 rfl))<|Gt rfl (bf h6)<|Zv (EO rfl rfl)<|Zv (Eb rfl h6 rfl)<|nl<|?_;cases hB3;refine lf<|?_;exact⟨rfl,l1_i1,l5_i1,(Ext.refl _)⟩
     rintro L w4⟨l32_j1,l1_j1,l5_j1,K0_j1⟩;have k3:=k2.tr K0_j1;have k4:=K0_i1.tr K0_j1;refine cnd l32_j1 (fun h7=>?_) (fun h7=>?_)
     ·have hB1:=Ac hB1 h7;refine Zr<|Za<|nl<|?_;cases hB1;have hF:=(show some _=some _ from hF);cases hF;exact wp_ret<|Zw rfl rfl rfl ⟨rfl,k3⟩
     ·have hB1:=Ai hB1 h7;refine wp_skip<|rg<|Zm<|Zv (BJ l5_j1 rfl)<|Za<|nl<|lq m (Nat.lt_succ_self _)<|?_;exact⟨_,hB1,rfl,l1_j1,k4⟩
    ·have hB1:=Ai hB1 h5;refine wp_exit<|?_;cases hB1;refine lf<|?_;exact⟨rfl,l1_i1,K0_i1⟩
   rintro L w5⟨rfl,l1_j2,K0_j2⟩;have k5:=hx1.tr K0_j2;refine wp_seq<|Zr<|Za<|nl<|bS hF fun o2 hB7 hF=>ct (fun L w=>o2=.inr ()/\Ext w5 w) ?_ ?_
   ·refine wp_block<|lp (I:=fun m L w=>∃y3:Int,Cq F x1 m y3=some o2/\L 6=.int .i64 y3/\L 1=.slice a2 x1.length cq2/\Ext w5 w) F ⟨_,hB7,rfl,l1_j2,(Ext.refl _)⟩ ?_;rintro m L w6⟨y3,hB7,l6_i8,l1_i8,K0_i8⟩;rcases m with _|m
    ·rw[Cq]at hB7;cases hB7
    rw[Cq]at hB7;have k6:=k5.tr K0_i8;refine wp_seq<|Zr<|Zm<|Zm<|Zv (Bp l1_i8 Tryz.underlying28)<|Zv (BN l6_i8 rfl)<|nl<|cnd rfl (fun h8=>?_) (fun h8=>?_)
    ·have hB7:=Ac hB7 h8;refine wp_skip<|wp_seq<|wp_block<|wp_seq<|FZ [] (.pure true 0 (.pure true 1 (.pure true 2 (.pure false 3 (.pure true 4 (.pure true 5 (.pure true 6 (.pure true 7 (.pure false 8 (.pure true 9 .fin)))))))))) mixed (by kernel_rfl) (fun w7 hx3=>?_);have k8:=k6.tr hx3;have k10:=K0_i8.tr hx3;refine Zn rfl<|Zn rfl<|bS hB7 fun x8 Ex8 hB7=>?_;have hz:=(RV.els r1).ix Ex8;obtain⟨b5,f3,cs6,e3,i9,i10,q6,hc7⟩:=hz;cases e3;obtain rfl:=q6;have hc8:=hc7.ext k8;refine Zp rfl (fun _=>Ao l1_i8 l6_i8 Tryz.underlying28 Du i9 i10)<|Zq rfl (fun _ hS=>AX rfl Du ((hc8.ext (hS.resolve_left nofun)).at 0 rfl)) (Ext.refl _)<|Zn rfl<|Zn rfl<|Zp rfl (fun _=>DX l6_i8 rfl)<|bS hB7 fun x9 Ex9 hB7=>?_;have hz:=EA r1 Ex9;obtain⟨cs7,i11,i12,q7,hc9⟩:=hz;obtain rfl:=q7;have hc10:=hc9.ext k8;refine Zp rfl (fun _=>Ao l1_i8 rfl Tryz.underlying28 Du i11 i12)<|Zq rfl (fun _ hS=>AX rfl Du ((hc10.ext (hS.resolve_left nofun)).at 0 rfl)) (Ext.refl _)<|Zp rfl (fun _=>IZ rfl rfl)<|cnd rfl (fun h9=>?_) (fun h9=>?_)
     ·have hB7:=Ac hB7 h9;refine Zr<|Za<|nl<|?_;cases hB7;have hF:=(show some _=some _ from hF);cases hF;exact wp_ret<|Zw rfl rfl rfl ⟨rfl,k8⟩
     ·have hB7:=Ai hB7 h9;refine wp_skip<|rg<|Zm<|Zv (BJ l6_i8 rfl)<|Za<|nl<|lq m (Nat.lt_succ_self _)<|?_;exact⟨_,hB7,rfl,l1_i8,k10⟩
    ·have hB7:=Ai hB7 h8;refine wp_exit<|?_;cases hB7;refine lf<|?_;exact⟨rfl,K0_i8⟩
   rintro L w8⟨rfl,K0_j3⟩;have k11:=k5.tr K0_j3;refine Zr<|Za<|nl<|?_;cases hF;exact wp_ret<|Zw rfl rfl rfl ⟨rfl,k11⟩
theorem nT{w0:World}{v0:Value}{x0:(List (Int×Int))}(r0:RV w0 v0 x0){v1:Value}{x1:(List Int)}(r1:RV w0 v1 x1){F:Nat}{r:Int}(hF:FM F x0 x1=some r):
  Calls Tryz.prog 23 [v0,v1].toArray w0 (BV fun v w'=>v=.int .i64 r/\Ext w0 w'):=by
 unfold FM at hF;have hz:=r0.sl;obtain⟨a1,cq1,rfl,-,-,-⟩:=hz;have hz:=r1.sl;obtain⟨a2,cq2,rfl,-,-,-⟩:=hz;refine BX (n:=26) Tryz.func23 rfl rfl rfl<|Zr<|Za<|nl<|wp_seq<|Zr<|Zm<|Zm<|bS hF fun x3 Ex3 hF=>Zc (xc Y7 (mc rfl (mc rfl mn))) (dL r0 r1 Ex3) ?_;rintro _ w1⟨rfl,hx1⟩;have r3:=r0.ext hx1;have r4:=r1.ext hx1;refine Zv (Di rfl rfl)<|nl<|cnd rfl (fun h3=>?_) (fun h3=>?_)
 ·have hF:=Ac hF h3;refine Zr<|Zm<|Zm<|bS hF fun x4 Ex4 hF=>Zc (xc Y7 (mc rfl (mc rfl mn))) (dL r3 r4 Ex4) ?_;rintro _ w2⟨rfl,hx2⟩;have k1:=hx1.tr hx2;refine Za<|nl<|?_;cases hF;exact wp_ret<|Zw rfl rfl rfl ⟨rfl,k1⟩
 ·have hF:=Ai hF h3;refine wp_skip<|wp_seq<|Zr<|Za<|nl<|bS hF fun o1 hB1 hF=>ct (fun L w=>o1=.inr ()/\Ext w1 w) ?_ ?_
  ·refine wp_block<|lp (I:=fun m L w=>∃y1:Int,Cx F x0 x1 m y1=some o1/\L 5=.int .i64 y1/\L 0=.slice a1 x0.length cq1/\L 1=.slice a2 x1.length cq2/\Ext w1 w) F ⟨_,hB1,rfl,rfl,rfl,(Ext.refl _)⟩ ?_;rintro m L w3⟨y1,hB1,l5_i1,l0_i1,l1_i1,K0_i1⟩;rcases m with _|m
   ·rw[Cx]at hB1;cases hB1
   rw[Cx]at hB1;have k2:=hx1.tr K0_i1;have r6:=r4.ext K0_i1;refine wp_seq<|Zr<|Zm<|Zm<|Zv (Bp l0_i1 Tryz.underlying32)<|Zv (BN l5_i1 rfl)<|nl<|cnd rfl (fun h4=>?_) (fun h4=>?_)
   ·have hB1:=Ac hB1 h4;refine wp_skip<|wp_seq<|wp_block<|Zr<|Zm<|Zm<|bS hB1 fun x5 Ex5 hB1=>?_;have hz:=(RV.els r0).ix Ex5;obtain⟨b3,f1,cs3,e1,i2,i3,q3,hc1⟩:=hz;cases e1;obtain⟨_,_,rfl,rfl,rfl⟩:=q3;have hc2:=hc1.ext k2;refine Zv (Ao l0_i1 l5_i1 Tryz.underlying32 D8 i2 i3)<|Zv (BO rfl D8 rfl hc2)<|Zm<|bS hB1 fun x6 Ex6 hB1=>Zc (xc ax (mc rfl (mc l1_i1 mn))) (jU (show RV (α:=(Int×Int)) _ (.agg [.int .i64 x5.1,.int .i64 x5.2].toArray) (x5.1,x5.2)from⟨_,rfl,[.int .i64 x5.1],[.int .i64 x5.2],rfl,rfl,rfl⟩) r6 Ex6) ?_;rintro _ w4⟨rfl,hx3⟩;have k3:=k2.tr hx3;have k4:=K0_i1.tr hx3;refine Zv (Ej rfl)<|nl<|cnd rfl (fun h5=>?_) (fun h5=>?_)
    ·have hB1:=Ac hB1 h5;refine Zr<|Za<|nl<|?_;cases hB1;have hF:=(show some _=some _ from hF);cases hF;exact wp_ret<|Zw rfl rfl rfl ⟨rfl,k3⟩
    ·have hB1:=Ai hB1 h5;refine wp_skip<|rg<|Zm<|Zv (BJ l5_i1 rfl)<|Za<|nl<|lq m (Nat.lt_succ_self _)<|?_;exact⟨_,hB1,rfl,l0_i1,l1_i1,k4⟩
   ·have hB1:=Ai hB1 h4;refine wp_exit<|?_;cases hB1;refine lf<|?_;exact⟨rfl,K0_i1⟩
  rintro L w5⟨rfl,K0_j1⟩;have k5:=hx1.tr K0_j1;refine Zr<|Za<|nl<|?_;cases hF;exact wp_ret<|Zw rfl rfl rfl ⟨rfl,k5⟩
theorem nU{w0:World}{v0:Value}{x0:(List (Int×Int))}(r0:RV w0 v0 x0){v1:Value}{x1:(List Int)}(r1:RV w0 v1 x1){F:Nat}{r:Int}(hF:EU F x0 x1=some r):
  Calls Tryz.prog 66 [v0,v1].toArray w0 (BV fun v w'=>v=.int .i64 r/\Ext w0 w'):=by
 unfold EU at hF;have hz:=r0.sl;obtain⟨a1,cq1,rfl,-,-,-⟩:=hz;have hz:=r1.sl;obtain⟨a2,cq2,rfl,-,-,-⟩:=hz;refine BX (n:=87) Tryz.func66 rfl rfl rfl<|Zr<|Za<|nl<|wp_seq<|Zr<|Zm<|bS hF fun x3 Ex3 hF=>Zc (xc Qy (mc rfl mn)) (XC r0 Ex3) ?_;rintro _ w1⟨rfl,hx1⟩;have r3:=r0.ext hx1;refine Zv (Di rfl rfl)<|nl<|cnd rfl (fun h3=>?_) (fun h3=>?_)
 ·have hF:=Ac hF h3;refine Zr<|Zm<|bS hF fun x4 Ex4 hF=>Zc (xc Qy (mc rfl mn)) (XC r3 Ex4) ?_;rintro _ w2⟨rfl,hx2⟩;have k1:=hx1.tr hx2;refine Za<|nl<|?_;cases hF;exact wp_ret<|Zw rfl rfl rfl ⟨rfl,k1⟩
 ·have hF:=Ai hF h3;refine wp_skip<|wp_seq<|Zr<|Za<|nl<|bS hF fun o1 hB1 hF=>ct (fun L w=>o1=.inr ()/\L 0=.slice a1 x0.length cq1/\L 1=.slice a2 x1.length cq2/\Ext w1 w) ?_ ?_
  ·refine wp_block<|lp (I:=fun m L w=>∃y1:Int,Cy F x0 x1 m y1=some o1/\L 5=.int .i64 y1/\L 0=.slice a1 x0.length cq1/\L 1=.slice a2 x1.length cq2/\Ext w1 w) F ⟨_,hB1,rfl,rfl,rfl,(Ext.refl _)⟩ ?_;rintro m L w3⟨y1,hB1,l5_i1,l0_i1,l1_i1,K0_i1⟩;rcases m with _|m
   ·rw[Cy]at hB1;cases hB1
   rw[Cy]at hB1;have k2:=hx1.tr K0_i1;refine wp_seq<|Zr<|Zm<|Zm<|Zv (Bp l1_i1 Tryz.underlying41)<|Zv (BN l5_i1 rfl)<|nl<|cnd rfl (fun h4=>?_) (fun h4=>?_)
   ·have hB1:=Ac hB1 h4;refine wp_skip<|wp_seq<|wp_block<|wp_seq<|bS hB1 fun y2 hB3 hB1=>ct (fun L w=>L 50=.bool y2/\L 0=.slice a1 x0.length cq1/\L 1=.slice a2 x1.length cq2/\L 5=.int .i64 y1/\Ext w3 w) ?_ ?_
    ·refine FZ [] (.pure true 0 (.pure true 1 (.pure true 2 (.pure false 3 (.pure true 4 (.pure true 5 (.pure true 6 (.pure true 7 (.pure true 8 (.pure false 9 (.pure true 10 (.pure false 11 (.pure true 12 (.pure true 13 (.pure true 14 (.pure true 15 (.pure true 16 (.pure true 17 (.pure true 18 (.pure true 19 (.pure true 20 (.pure false 21 (.pure true 22 (.pure true 23 (.pure true 24 (.pure true 25 (.pure false 26 (.pure true 27 (.pure true 28 (.pure true 29 .fin)))))))))))))))))))))))))))))) mixed (by kernel_rfl) (fun w5 hx4=>?_);have k5:=k2.tr hx4;refine Zn rfl<|Zn rfl<|bS hB3 fun x6 Ex6 hB3=>?_;have hz:=(RV.els r1).ix Ex6;obtain⟨b4,f2,cs4,e2,i4,i5,q4,hc3⟩:=hz;cases e2;obtain rfl:=q4;have hc4:=hc3.ext k5;refine Zp rfl (fun _=>Ao l1_i1 l5_i1 Tryz.underlying41 AY i4 i5)<|Zq rfl (fun _ hS=>AX rfl AY ((hc4.ext (hS.resolve_left nofun)).at 0 rfl)) (Ext.refl _)<|Zp rfl (fun _=>BN rfl rfl)<|Zn rfl<|Or.elim (Bool.eq_false_or_eq_true (decide (x6<0))) (fun h5=>?_) (fun h5=>?_)
     ·have hB3:=Ac hB3 h5;refine Yf rfl (Bg h5)<|Yf rfl (Bg h5)<|Yf rfl (Bg h5)<|Yh rfl (Bg h5) (Ext.refl _)<|Yf rfl (Bg h5)<|Yh rfl (Bg h5) (Ext.refl _)<|Yf rfl (Bg h5)<|Zp rfl (fun _=>EJ rfl h5 rfl)<|Zn rfl<|Or.elim (Bool.eq_false_or_eq_true true) (fun h6=>?_) (fun h6=>?_)
      ·have hB3:=Ac hB3 h6;refine Yf rfl (Bg h6)<|Yf rfl (Bg h6)<|Yf rfl (Bg h6)<|Yf rfl bu<|Yf rfl bu<|Yf rfl bu<|Yh rfl bu (Ext.refl _)<|Yf rfl bu<|Yf rfl bu<|Yf rfl bu<|Yf rfl bu<|Yh rfl bu (Ext.refl _)<|Yf rfl bu<|Yf rfl (Bg h6)<|Zp rfl (fun _=>EJ rfl h6 rfl)<|?_;cases hB3;refine lf<|?_;exact⟨rfl,l0_i1,l1_i1,l5_i1,hx4⟩
      ·have hB3:=Ai hB3 h6;refine Yt rfl (bf h6) (fun _=>Bw)<|Yt rfl (bf h6) (fun _=>EO l5_i1 rfl)<|Yt rfl (bf h6) (fun _=>Bw)<|Or.elim (Bool.eq_false_or_eq_true (decide (0<y1))) (fun h7=>?_) (fun h7=>?_)
       ·have hB3:=Ac hB3 h7;refine Yt rfl (bt h7) (fun _=>Bw)<|Yt rfl (bt h7) (fun _=>Bw)<|bS hB3 fun x7 Ex7 hB3=>?_;have hz:=EA r1 Ex7;obtain⟨cs5,i6,i7,q5,hc5⟩:=hz;obtain rfl:=q5;have hc6:=hc5.ext k5;refine Yt rfl (bt h7) (fun _=>Ao l1_i1 l5_i1 Tryz.underlying41 AY i6 i7)<|Yi rfl (bt h7) (fun _ hS=>AX rfl AY ((hc6.ext (hS.resolve_left nofun)).at 0 rfl)) (Ext.refl _)<|Yt rfl (bt h7) (fun _=>Bw)<|Yt rfl (bt h7) (fun _=>Bw)<|Yt rfl (bt h7) (fun _=>DX l5_i1 rfl)<|bS hB3 fun x8 Ex8 hB3=>?_;have hz:=EA r1 Ex8;obtain⟨cs6,i8,i9,q6,hc7⟩:=hz;obtain rfl:=q6;have hc8:=hc7.ext k5;refine Yt rfl (bt h7) (fun _=>Ao l1_i1 rfl Tryz.underlying41 AY i8 i9)<|Yi rfl (bt h7) (fun _ hS=>AX rfl AY ((hc8.ext (hS.resolve_left nofun)).at 0 rfl)) (Ext.refl _)<|Yt rfl (bt h7) (fun _=>IZ rfl rfl)<|Yt rfl (bf h6) (fun _=>EJ rfl h7 rfl)<|Zp rfl (fun _=>Eb rfl h6 rfl)<|?_;cases hB3;refine lf<|?_;exact⟨rfl,l0_i1,l1_i1,l5_i1,hx4⟩
       ·have hB3:=Ai hB3 h7;refine Yf rfl (Ak h7)<|Yf rfl (Ak h7)<|Yf rfl (Ak h7)<|Yh rfl (Ak h7) (Ext.refl _)<|Yf rfl (Ak h7)<|Yf rfl (Ak h7)<|Yf rfl (Ak h7)<|Yf rfl (Ak h7)<|Yh rfl (Ak h7) (Ext.refl _)<|Yf rfl (Ak h7)<|Yt rfl (bf h6) (fun _=>Eb rfl h7 rfl)<|Zp rfl (fun _=>Eb rfl h6 rfl)<|?_;cases hB3;refine lf<|?_;exact⟨rfl,l0_i1,l1_i1,l5_i1,hx4⟩
     ·have hB3:=Ai hB3 h5;refine Yt rfl (bf h5) (fun _=>Bw)<|Yt rfl (bf h5) (fun _=>Bw)<|bS hB3 fun x9 Ex9 hB3=>?_;have hz:=EA r1 Ex9;obtain⟨cs7,i10,i11,q7,hc9⟩:=hz;obtain rfl:=q7;have hc10:=hc9.ext k5;refine Yt rfl (bf h5) (fun _=>Ao l1_i1 l5_i1 Tryz.underlying41 AY i10 i11)<|Yi rfl (bf h5) (fun _ hS=>AX rfl AY ((hc10.ext (hS.resolve_left nofun)).at 0 rfl)) (Ext.refl _)<|Yt rfl (bf h5) (fun _=>Bw)<|Yi rfl (bf h5) (fun _ hS=>Bp l0_i1 Tryz.underlying32) (Ext.refl _)<|Yt rfl (bf h5) (fun _=>Kh rfl rfl)<|Zp rfl (fun _=>Eb rfl h5 rfl)<|Zn rfl<|Or.elim (Bool.eq_false_or_eq_true (decide ((x0.length:Int)<=x9))) (fun h8=>?_) (fun h8=>?_)
      ·have hB3:=Ac hB3 h8;refine Yf rfl (Bg h8)<|Yf rfl (Bg h8)<|Yf rfl (Bg h8)<|Yf rfl bu<|Yf rfl bu<|Yf rfl bu<|Yh rfl bu (Ext.refl _)<|Yf rfl bu<|Yf rfl bu<|Yf rfl bu<|Yf rfl bu<|Yh rfl bu (Ext.refl _)<|Yf rfl bu<|Yf rfl (Bg h8)<|Zp rfl (fun _=>EJ rfl h8 rfl)<|?_;cases hB3;refine lf<|?_;exact⟨rfl,l0_i1,l1_i1,l5_i1,hx4⟩
      ·have hB3:=Ai hB3 h8;refine Yt rfl (bf h8) (fun _=>Bw)<|Yt rfl (bf h8) (fun _=>EO l5_i1 rfl)<|Yt rfl (bf h8) (fun _=>Bw)<|Or.elim (Bool.eq_false_or_eq_true (decide (0<y1))) (fun h9=>?_) (fun h9=>?_)
       ·have hB3:=Ac hB3 h9;refine Yt rfl (bt h9) (fun _=>Bw)<|Yt rfl (bt h9) (fun _=>Bw)<|bS hB3 fun x10 Ex10 hB3=>?_;have hz:=EA r1 Ex10;obtain⟨cs8,i12,i13,q8,hc11⟩:=hz;obtain rfl:=q8;have hc12:=hc11.ext k5;refine Yt rfl (bt h9) (fun _=>Ao l1_i1 l5_i1 Tryz.underlying41 AY i12 i13)<|Yi rfl (bt h9) (fun _ hS=>AX rfl AY ((hc12.ext (hS.resolve_left nofun)).at 0 rfl)) (Ext.refl _)<|Yt rfl (bt h9) (fun _=>Bw)<|Yt rfl (bt h9) (fun _=>Bw)<|Yt rfl (bt h9) (fun _=>DX l5_i1 rfl)<|bS hB3 fun x11 Ex11 hB3=>?_;have hz:=EA r1 Ex11;obtain⟨cs9,i14,i15,q9,hc13⟩:=hz;obtain rfl:=q9;have hc14:=hc13.ext k5;refine Yt rfl (bt h9) (fun _=>Ao l1_i1 rfl Tryz.underlying41 AY i14 i15)<|Yi rfl (bt h9) (fun _ hS=>AX rfl AY ((hc14.ext (hS.resolve_left nofun)).at 0 rfl)) (Ext.refl _)<|Yt rfl (bt h9) (fun _=>IZ rfl rfl)<|Yt rfl (bf h8) (fun _=>EJ rfl h9 rfl)<|Zp rfl (fun _=>Eb rfl h8 rfl)<|?_;cases hB3;refine lf<|?_;exact⟨rfl,l0_i1,l1_i1,l5_i1,hx4⟩
       ·have hB3:=Ai hB3 h9;refine Yf rfl (Ak h9)<|Yf rfl (Ak h9)<|Yf rfl (Ak h9)<|Yh rfl (Ak h9) (Ext.refl _)<|Yf rfl (Ak h9)<|Yf rfl (Ak h9)<|Yf rfl (Ak h9)<|Yf rfl (Ak h9)<|Yh rfl (Ak h9) (Ext.refl _)<|Yf rfl (Ak h9)<|Yt rfl (bf h8) (fun _=>Eb rfl h9 rfl)<|Zp rfl (fun _=>Eb rfl h8 rfl)<|?_;cases hB3;refine lf<|?_;exact⟨rfl,l0_i1,l1_i1,l5_i1,hx4⟩
    rintro L w6⟨l50_j1,l0_j1,l1_j1,l5_j1,K0_j1⟩;have k7:=k2.tr K0_j1;have k8:=K0_i1.tr K0_j1;refine cnd l50_j1 (fun h10=>?_) (fun h10=>?_)
    ·have hB1:=Ac hB1 h10;refine Zr<|Za<|nl<|?_;cases hB1;have hF:=(show some _=some _ from hF);cases hF;exact wp_ret<|Zw rfl rfl rfl ⟨rfl,k7⟩
    ·have hB1:=Ai hB1 h10;refine wp_skip<|rg<|Zm<|Zv (BJ l5_j1 rfl)<|Za<|nl<|lq m (Nat.lt_succ_self _)<|?_;exact⟨_,hB1,rfl,l0_j1,l1_j1,k8⟩
   ·have hB1:=Ai hB1 h4;refine wp_exit<|?_;cases hB1;refine lf<|?_;exact⟨rfl,l0_i1,l1_i1,K0_i1⟩
  rintro L w7⟨rfl,l0_j2,l1_j2,K0_j2⟩;have k9:=hx1.tr K0_j2;refine wp_seq<|Zr<|Za<|nl<|bS hF fun o2 hB7 hF=>ct (fun L w=>o2=.inr ()/\Ext w7 w) ?_ ?_
  ·refine wp_block<|lp (I:=fun m L w=>∃y3:Int,C8 F x0 x1 m y3=some o2/\L 6=.int .i64 y3/\L 0=.slice a1 x0.length cq1/\L 1=.slice a2 x1.length cq2/\Ext w7 w) F ⟨_,hB7,rfl,l0_j2,l1_j2,(Ext.refl _)⟩ ?_;rintro m L w8⟨y3,hB7,l6_i16,l0_i16,l1_i16,K0_i16⟩;rcases m with _|m
   ·rw[C8]at hB7;cases hB7
   rw[C8]at hB7;have k10:=k9.tr K0_i16;refine wp_seq<|Zr<|Zm<|Zm<|Zv (Bp l1_i16 Tryz.underlying41)<|Zv (BN l6_i16 rfl)<|nl<|cnd rfl (fun h11=>?_) (fun h11=>?_)
   ·have hB7:=Ac hB7 h11;refine wp_skip<|wp_seq<|wp_block<|Zr<|Za<|nl<|bS hB7 fun o3 hB9 hB7=>ct (fun L w=>o3=.inr ()/\L 0=.slice a1 x0.length cq1/\L 1=.slice a2 x1.length cq2/\L 6=.int .i64 y3/\Ext w8 w) ?_ ?_
    ·refine wp_block<|lp (I:=fun m L w=>∃y4:Int,Cz F x0 x1 y3 m y4=some o3/\L 7=.int .i64 y4/\L 0=.slice a1 x0.length cq1/\L 1=.slice a2 x1.length cq2/\L 6=.int .i64 y3/\Ext w8 w) F ⟨_,hB9,rfl,l0_i16,l1_i16,l6_i16,(Ext.refl _)⟩ ?_;rintro m L w9⟨y4,hB9,l7_i17,l0_i17,l1_i17,l6_i17,K0_i17⟩;rcases m with _|m
     ·rw[Cz]at hB9;cases hB9
     rw[Cz]at hB9;have k12:=k10.tr K0_i17;refine wp_seq<|Zr<|Zm<|Zm<|Zv (BN l7_i17 l6_i17)<|nl<|cnd rfl (fun h12=>?_) (fun h12=>?_)
     ·have hB9:=Ac hB9 h12;refine wp_skip<|wp_seq<|wp_block<|wp_seq<|?_;have hz:=bs hB9;obtain⟨⟨y5,y6⟩,hB11,hB9⟩:=hz;refine ct (fun L w=>∃v3 v4:Value,L 8=v3/\PB 35 w9.heap.size w v3 y5/\L 9=v4/\PB 35 w9.heap.size w v4 y6/\v3≠v4/\L 0=.slice a1 x0.length cq1/\L 1=.slice a2 x1.length cq2/\L 6=.int .i64 y3/\L 7=.int .i64 y4/\Ext w9 w) ?_ ?_
      ·refine bS hB11 fun x12 Ex12 hB11=>bS hB11 fun x13 Ex13 hB11=>bS hB11 fun x14 Ex14 hB11=>bS hB11 fun x15 Ex15 hB11=>FZ [] (.pure true 0 (.pure true 1 (.pure true 2 (.pure true 3 (.pure false 4 (.pure true 5 (.pure false 6 (.pure true 7 (.pure true 8 (.pure true 9 (.pure true 10 (.pure false 11 (.pure true 12 (.pure false 13 (.eff 14 (.eff 15 (.eff 16 (.eff 17 .fin .stop) .stop) .stop) (.eff 15 (.eff 14 (.eff 16 (.eff 17 .fin .stop) .stop) .stop) .stop)))))))))))))))) mixed (by kernel_rfl) (fun w15 hx8=>?_);have k42:=k12.tr hx8;refine Zn rfl<|Zn rfl<|Zn rfl<|?_;have hz:=(RV.els r1).ix Ex12;obtain⟨b9,f5,cs14,e5,i26,i27,q14,hc23⟩:=hz;cases e5;obtain rfl:=q14;have hc24:=hc23.ext k42;refine Zp rfl (fun _=>Ao l1_i17 l6_i17 Tryz.underlying41 AY i26 i27)<|Zq rfl (fun _ hS=>AX rfl AY ((hc24.ext (hS.resolve_left nofun)).at 0 rfl)) (Ext.refl _)<|?_;have hz:=(RV.els r0).ix Ex13;obtain⟨b10,f6,cs15,e6,i28,i29,q15,hc25⟩:=hz;cases e6;obtain⟨_,_,rfl,rfl,rfl⟩:=q15;have hc26:=hc25.ext k42;refine Zp rfl (fun _=>Ao l0_i17 rfl Tryz.underlying32 D8 i28 i29)<|Zq rfl (fun _ hS=>BO rfl D8 rfl (hc26.ext (hS.resolve_left nofun))) (Ext.refl _)<|Zn rfl<|Zn rfl<|Zn rfl<|?_;have hz:=EA r1 Ex14;obtain⟨cs16,i30,i31,q16,hc27⟩:=hz;obtain rfl:=q16;have hc28:=hc27.ext k42;refine Zp rfl (fun _=>Ao l1_i17 l7_i17 Tryz.underlying41 AY i30 i31)<|Zq rfl (fun _ hS=>AX rfl AY ((hc28.ext (hS.resolve_left nofun)).at 0 rfl)) (Ext.refl _)<|?_;have hz:=EA r0 Ex15;obtain⟨cs17,i32,i33,q17,hc29⟩:=hz;obtain⟨_,_,rfl,rfl,rfl⟩:=q17;have hc30:=hc29.ext k42;refine Zp rfl (fun _=>Ao l0_i17 rfl Tryz.underlying32 D8 i32 i33)<|Zq rfl (fun _ hS=>BO rfl D8 rfl (hc30.ext (hS.resolve_left nofun))) (Ext.refl _)<|pe rfl ?_ ?_
       ·refine FT D8 fun b11 w16 hx9 hg3 hb10=>?_;have k50:=hx8.tr hx9;refine nl ⟨fun _ _=>hx9,?_⟩;refine D9 rfl<|FT D8 fun b12 w17 hx10 hg4 hb11=>?_;have k55:=k50.tr hx10;have k56:=hx9.tr hx10;have hb12:=hb10.ext hx10;refine nl ⟨fun _ _=>k56,?_⟩;refine D9 rfl<|EW rfl rfl rfl D8 hb12 rfl rfl (ble rfl) fun w18 hch3 hb13=>?_;have k61:=Ext.chg k55 hch3 (Nat.le_trans hx8.size hg3);have k62:=Ext.chg k56 hch3 (Nat.le_trans (Nat.le_refl _) hg3);have hb14:=Bx.chg hb11 hch3 (Ne.symm (Nat.ne_of_lt (Nat.lt_of_lt_of_le hb10.lt hg4)));have hb15:Bx w18 b11 35 [.int .i64 x13.1,.int .i64 x13.2]:=hb13;refine nl ⟨fun _ _=>k62,?_⟩;refine D9 rfl<|EW rfl rfl rfl D8 hb14 rfl rfl (ble rfl) fun w19 hch4 hb16=>?_;have k67:=Ext.chg k61 hch4 (Nat.le_trans hx8.size (Nat.le_trans hx9.size hg4));have k68:=Ext.chg k62 hch4 (Nat.le_trans (Nat.le_refl _) (Nat.le_trans hx9.size hg4));have hb17:=Bx.chg hb15 hch4 (Nat.ne_of_lt (Nat.lt_of_lt_of_le hb10.lt hg4));have hb18:Bx w19 b12 35 [.int .i64 x15.1,.int .i64 x15.2]:=hb16;refine nl ⟨fun _ _=>k68,?_⟩;cases hB11;refine lf<|?_;exact⟨_,_,rfl,⟨_,_,rfl,(Nat.le_trans hx8.size hg3),hb17,[.int .i64 x13.1],[.int .i64 x13.2],rfl,rfl,rfl⟩,rfl,⟨_,_,rfl,(Nat.le_trans hx8.size (Nat.le_trans hx9.size hg4)),hb18,[.int .i64 x15.1],[.int .i64 x15.2],rfl,rfl,rfl⟩,(Vz (Nat.ne_of_lt (Nat.lt_of_lt_of_le hb10.lt hg4))),l0_i17,l1_i17,l6_i17,l7_i17,k67⟩
       refine pm rfl ?_ ?_
       ·refine FT D8 fun b13 w20 hx11 hg5 hb19=>?_;have k73:=hx8.tr hx11;refine nl ⟨fun _ _=>hx11,?_⟩;refine D9 rfl<|FT D8 fun b14 w21 hx12 hg6 hb20=>?_;have k78:=k73.tr hx12;have k79:=hx11.tr hx12;refine nl ⟨fun _ _=>k79,?_⟩;refine D9 rfl<|EW rfl rfl rfl D8 hb20 rfl rfl (ble rfl) fun w22 hch5 hb22=>?_;have k84:=Ext.chg k78 hch5 (Nat.le_trans k73.size hg6);have k85:=Ext.chg k79 hch5 (Nat.le_trans hx11.size hg6);have k86:=Ext.chg hx12 hch5 (Nat.le_trans (Nat.le_refl _) hg6);have hb23:=hb19.ext k86;have hb24:Bx w22 b14 35 [.int .i64 x13.1,.int .i64 x13.2]:=hb22;refine nl ⟨fun _ _=>k85,?_⟩;refine D9 rfl<|EW rfl rfl rfl D8 hb23 rfl rfl (ble rfl) fun w23 hch6 hb25=>?_;have k91:=Ext.chg k84 hch6 (Nat.le_trans hx8.size hg5);have k92:=Ext.chg k85 hch6 (Nat.le_trans (Nat.le_refl _) hg5);have hb26:=Bx.chg hb24 hch6 (Ne.symm (Nat.ne_of_lt (Nat.lt_of_lt_of_le hb19.lt hg6)));have hb27:Bx w23 b13 35 [.int .i64 x15.1,.int .i64 x15.2]:=hb25;refine nl ⟨fun _ _=>k92,?_⟩;cases hB11;refine lf<|?_;exact⟨_,_,rfl,⟨_,_,rfl,(Nat.le_trans hx8.size (Nat.le_trans hx11.size hg6)),hb26,[.int .i64 x13.1],[.int .i64 x13.2],rfl,rfl,rfl⟩,rfl,⟨_,_,rfl,(Nat.le_trans hx8.size hg5),hb27,[.int .i64 x15.1],[.int .i64 x15.2],rfl,rfl,rfl⟩,(Vz (Ne.symm (Nat.ne_of_lt (Nat.lt_of_lt_of_le hb19.lt hg6)))),l0_i17,l1_i17,l6_i17,l7_i17,k91⟩
       trivial
      rintro L w24⟨v3,v4,l8_j3,P8_j3,l9_j3,P9_j3,N8_9_j3,l0_j3,l1_j3,l6_j3,l7_j3,K0_j3⟩;have k93:=k12.tr K0_j3;have k96:=K0_i17.tr K0_j3;obtain⟨b15,cs18,rfl,hg7,hb28,q18⟩:=P8_j3;obtain⟨_,_,rfl,rfl,rfl⟩:=q18;obtain⟨b16,cs19,rfl,hg8,hb29,q19⟩:=P9_j3;obtain⟨_,_,rfl,rfl,rfl⟩:=q19;refine Zr<|Zv (Ah l8_j3 Gn)<|Zv (AX rfl Du ((Bx.cs hb28).at 0 rfl))<|Zv (Ah l9_j3 Gn)<|Zv (AX rfl Du ((Bx.cs hb29).at 0 rfl))<|Zv (aZ rfl rfl)<|Zv (Ah l8_j3 GY)<|Zv (AX rfl Du ((Bx.cs hb28).at 1 rfl))<|Zv (Ah l9_j3 GY)<|Zv (AX rfl Du ((Bx.cs hb29).at 1 rfl))<|Zv (jY rfl rfl)<|Zv (IZ rfl rfl)<|nl<|cnd rfl (fun h13=>?_) (fun h13=>?_)
      ·have hB9:=Ac hB9 h13;refine Zr<|Za<|nl<|?_;cases hB9;have hB7:=(show some _=some _ from hB7);cases hB7;have hF:=(show some _=some _ from hF);cases hF;exact wp_ret<|Zw rfl rfl rfl ⟨rfl,k93⟩
      ·have hB9:=Ai hB9 h13;refine wp_skip<|rg<|Zm<|Zv (BJ l7_j3 rfl)<|Za<|nl<|lq m (Nat.lt_succ_self _)<|?_;exact⟨_,hB9,rfl,l0_j3,l1_j3,l6_j3,k96⟩
     ·have hB9:=Ai hB9 h12;refine wp_exit<|?_;cases hB9;refine lf<|?_;exact⟨rfl,l0_i17,l1_i17,l6_i17,K0_i17⟩
    rintro L w25⟨rfl,l0_j4,l1_j4,l6_j4,K0_j4⟩;have k99:=K0_i16.tr K0_j4;refine rg<|Zm<|Zv (BJ l6_j4 rfl)<|Za<|nl<|lq m (Nat.lt_succ_self _)<|?_;exact⟨_,hB7,rfl,l0_j4,l1_j4,k99⟩
   ·have hB7:=Ai hB7 h11;refine wp_exit<|?_;cases hB7;refine lf<|?_;exact⟨rfl,K0_i16⟩
  rintro L w26⟨rfl,K0_j5⟩;have k100:=k9.tr K0_j5;refine Zr<|Za<|nl<|?_;cases hF;exact wp_ret<|Zw rfl rfl rfl ⟨rfl,k100⟩
theorem nV{w0:World}{v0:Value}{x0:(List (Int×Int))}(r0:RV w0 v0 x0){F:Nat}{r:((List Int)×Int)}(hF:Gq F x0=some r):
  Calls Tryz.prog 20 [v0].toArray w0 (BV fun v w'=>∃u0:Value,v=.tuple #[u0,.int .i64 r.2]/\RV w' u0 r.1/\Ext w0 w'):=by
 unfold Gq at hF;have hz:=r0.sl;obtain⟨a1,cq1,rfl,-,-,-⟩:=hz;refine BX (n:=20) Tryz.func20 rfl rfl rfl<|Zr<|Za<|Za<|nl<|wp_seq<|Zr<|Zm<|bS hF fun x2 Ex2 hF=>Zc (xc ay (mc rfl mn)) (jT r0 Ex2) ?_;rintro _ w1⟨rfl,hx1⟩;have r2:=r0.ext hx1;refine Za<|nl<|Zr<|Zm<|Zv (Di rfl rfl)<|nl<|cnd rfl (fun h2=>?_) (fun h2=>?_)
 ·have hF:=Ac hF h2;refine Zr<|Zm<|Za<|Za<|nl<|?_;cases hF;exact wp_ret<|rt rfl (.tmp rfl rfl (.tmp rfl rfl .nil)) ⟨_,rfl,(RVo.nil (Nat.zero_le _)),hx1⟩
 ·have hF:=Ai hF h2;refine wp_skip<|Zr<|Zm<|bS hF fun x3 Ex3 hF=>Zc (xc bA (mc rfl mn)) (jS r2 Ex3) ?_;rintro _ w2⟨u1,rfl,r3,hx2⟩;have k1:=hx1.tr hx2;have hz:=ZE r3;obtain⟨a2,rfl⟩:=hz;refine Zv (Ki (r:=[.int .i64 1,.int .i64 0]) D8 ak (pc rfl pn) rfl)<|bS hF fun x4 Ex4 hF=>?_;have hz:=Ub r3 Ex4;obtain⟨b2,cs2,e1,q2,hc1⟩:=hz;cases e1;obtain⟨a3,cq2,rfl,p1,q3,e2⟩:=q2;have r4:=RV.of1 p1 q3 e2;refine bS hF fun x5 Ex5 hF=>Zc (xc bB (mc rfl (mc rfl mn))) (jR (x0:=(⟨x4.v⟩:(Uno (List ((Int×Int)×Int))))) hc1 r4.rep1 (show RV (α:=(Int×Int)) _ (.agg [.int .i64 1,.int .i64 0].toArray) (1,0)from⟨_,rfl,[.int .i64 1],[.int .i64 0],rfl,rfl,rfl⟩) Ex5) ?_;rintro _ w3⟨u2,u3,rfl,r5,r6,hx3⟩;have k2:=k1.tr hx3;have hz:=RV.sl r5.rv;obtain⟨a4,cq3,rfl,-,-,-⟩:=hz;have hz:=RV.sl r6.rv;obtain⟨a5,cq4,rfl,-,-,-⟩:=hz;refine Zm<|Zv (F4 rfl rfl)<|Zv (F4 rfl rfl)<|Za<|Za<|nl<|Zr<|Zm<|Za<|Za<|nl<|?_;cases hF;exact wp_ret<|rt rfl (.tmp rfl rfl (.tmp rfl rfl .nil)) ⟨_,rfl,r5.rv,k2⟩
theorem dM{w0:World}{b0:Nat}{cs0:List Value}{x0:(Yz×(List (Int×Bool))×(Ar 16 (Ar 16 Int))×Opq×Opq)}(h0:Cs w0 b0 0 cs0)(q0:Enc.rep (fun _=>True) w0 cs0 x0){v1:Value}{x1:(Int×Int)}(r1:RV w0 v1 x1){x2:Int}{r:(Int×Int)}(hF:JG x0 x1 x2=some r):
  Calls Tryz.prog 272 [.pointer (some ⟨b0,0,none⟩),v1,.int .i64 x2].toArray w0 (BV fun v w'=>∃u0:Value,v=u0/\RV w' u0 r/\Ext w0 w'):=by
 unfold JG at hF;obtain⟨_,_,rfl,⟨_,_,rfl,⟨a1,cq1,rfl,p1,q4,e1⟩,_,_,rfl,rfl,_,_,rfl,rfl,rfl⟩,_,_,rfl,⟨a2,cq2,rfl,p2,q5,e2⟩,_,_,rfl,rfl,_,_,rfl,⟨a3,rfl,q6⟩,a4,rfl,q7⟩:=q0;have r5:=RV.of1 p2 q5 e2;have hz:=id r1;obtain⟨_,rfl,_,_,rfl,rfl,rfl⟩:=hz;refine BX (n:=21) Tryz.func272 rfl rfl rfl<|Zr<|FJ rfl rfl fun b4 w1 hx1 hg1 hb1=>?_;have h4:=h0.ext hx1;refine FT LD fun b5 w2 hx2 hg2 hb2=>?_;have k1:=hx1.tr hx2;have hb3:=hb1.ext hx2;have h5:=h4.ext hx2;refine nl<|wp_seq<|FZ [14] (.pure true 0 (.pure false 1 (.pure true 2 (.pure true 3 (.pure true 4 (.pure false 5 (.pure true 6 (.pure true 7 (.pure true 8 (.pure false 9 (.pure true 10 (.pure true 11 (.pure true 12 (.pure true 13 (.eff 14 .fin .stop))))))))))))))) mixed (by kernel_rfl) (fun w3 hx3=>?_);have k2:=k1.tr hx3;have hb4:=hb3.ext hx3;have hb5:=hb2.ext hx3;have h6:=h5.ext hx3;refine Zp rfl (fun _=>Ah rfl Tn)<|Zq rfl (fun _ hS=>AX rfl AY ((Bx.cs (hb4.ext (hS.resolve_left nofun))).at 0 rfl)) (Ext.refl _)<|Zn rfl<|Zp rfl (fun _=>FB rfl)<|Zp rfl (fun _=>Ah rfl Mx)<|Zq rfl (fun _ hS=>AX rfl UW ((h6.ext (hS.resolve_left nofun)).at 4 rfl)) (Ext.refl _)<|Zn rfl<|bS hF fun x4 Ex4 hF=>?_;have hz:=(RV.els r5).ix Ex4;obtain⟨b6,f1,cs4,e3,i1,i2,q8,hc1⟩:=hz;cases e3;obtain⟨_,_,rfl,rfl,rfl⟩:=q8;have hc2:=hc1.ext k2;refine Zp rfl (fun _=>Ao rfl rfl Tryz.underlying51 Xm i1 i2)<|Zp rfl (fun _=>Ah rfl Qx)<|Zq rfl (fun _ hS=>AX rfl AY ((hc2.ext (hS.resolve_left nofun)).at 0 rfl)) (Ext.refl _)<|bS hF fun x5 Ex5 hF=>Zp rfl (fun _=>Xp rfl rfl Ex5)<|Zp rfl (fun _=>kK rfl rfl)<|Zn rfl<|Zp rfl (fun _=>Ki (r:=[.int .i64 (QH .i64 x1.1 x5),.int .i64 x2]) LD Y3 (pc rfl (pc rfl pn)) rfl)<|D9 rfl<|EW rfl rfl rfl LD hb5 rfl rfl (ble rfl) fun w4 hch1 hb6=>?_;have k4:=Ext.chg k2 hch1 (Nat.le_trans hx1.size hg2);have hb7:Bx w4 b5 326 [.int .i64 (QH .i64 x1.1 x5),.int .i64 x2]:=hb6;refine nl ⟨fun h=>(h (by decide)).elim,?_⟩;cases hF;exact wp_ret<|rt rfl (.cell rfl rfl LD rfl (Bx.cs hb7) .nil) ⟨_,rfl,(show RV (α:=(Int×Int)) _ (.agg [.int .i64 (QH .i64 x1.1 x5),.int .i64 x2].toArray) (QH .i64 x1.1 x5,x2)from⟨_,rfl,[.int .i64 (QH .i64 x1.1 x5)],[.int .i64 x2],rfl,rfl,rfl⟩),k4⟩
theorem lG{w0:World}{x0:Int}{b1:Nat}{cs1:List Value}{x1:(Int×Int)}(h1:Cs w0 b1 0 cs1)(q1:Enc.rep (fun _=>True) w0 cs1 x1){b2:Nat}{cs2:List Value}{x2:(Ob (Yz×(List (Int×Bool))×(Ar 16 (Ar 16 Int))×Opq×Opq))}(h2:Cs w0 b2 0 cs2)(q2:Enc.rep (fun _=>True) w0 cs2 x2){r:Bool}(hF:Gi x0 x1 x2=some r):
  Calls Tryz.prog 309 [.int .i64 x0,.pointer (some ⟨b1,0,none⟩),.pointer (some ⟨b2,0,none⟩)].toArray w0 (BV fun v w'=>v=.bool r/\Ext w0 w'):=by
 unfold Gi at hF;obtain⟨_,_,rfl,rfl,rfl⟩:=q1;have q4:=q2;have hz:=iB q4;obtain⟨a1,rfl,r4⟩:=hz;refine BX (n:=18) Tryz.func309 rfl rfl rfl<|Zr<|Za<|nl<|wp_seq<|FZ [] (.pure true 0 (.pure false 1 (.pure false 2 (.pure true 3 (.pure true 4 (.pure false 5 (.pure true 6 (.pure true 7 (.pure true 8 (.pure false 9 (.pure true 10 (.pure true 11 (.pure true 12 (.pure true 13 .fin)))))))))))))) mixed (by kernel_rfl) (fun w1 hx1=>?_);have h4:=h1.ext hx1;have h5:=h2.ext hx1;refine Zp rfl (fun _=>Ah rfl Tn)<|Zq rfl (fun _ hS=>AX rfl AY ((h4.ext (hS.resolve_left nofun)).at 0 rfl)) (Ext.refl _)<|Zq rfl (fun _ hS=>AX rfl KQ ((h5.ext (hS.resolve_left nofun)).at 0 rfl)) (Ext.refl _)<|bS hF fun x4 Ex4 hF=>?_;have hz:=Ub r4 Ex4;obtain⟨b4,cs4,e1,q5,hc1⟩:=hz;cases e1;obtain⟨_,_,rfl,⟨_,_,rfl,⟨a2,cq1,rfl,p1,q6,e2⟩,_,_,rfl,rfl,_,_,rfl,rfl,rfl⟩,_,_,rfl,⟨a3,cq2,rfl,p2,q7,e3⟩,_,_,rfl,rfl,_,_,rfl,⟨a4,rfl,q8⟩,a5,rfl,q9⟩:=q5;have r7:=RV.of1 p2 q7 e3;have hc2:=hc1.ext hx1;refine Zp rfl (fun _=>FB rfl)<|Zp rfl (fun _=>Ah rfl Mx)<|Zq rfl (fun _ hS=>AX rfl UW ((hc2.ext (hS.resolve_left nofun)).at 4 rfl)) (Ext.refl _)<|Zn rfl<|bS hF fun x5 Ex5 hF=>?_;have hz:=(RV.els r7).ix Ex5;obtain⟨b5,f1,cs5,e4,i1,i2,q10,hc3⟩:=hz;cases e4;obtain⟨_,_,rfl,rfl,rfl⟩:=q10;have hc4:=hc3.ext hx1;refine Zp rfl (fun _=>Ao rfl rfl Tryz.underlying51 Xm i1 i2)<|Zp rfl (fun _=>Ah rfl Qx)<|Zq rfl (fun _ hS=>AX rfl AY ((hc4.ext (hS.resolve_left nofun)).at 0 rfl)) (Ext.refl _)<|bS hF fun x6 Ex6 hF=>Zp rfl (fun _=>Q6 rfl rfl Ex6)<|Zp rfl (fun _=>bH rfl rfl)<|Zp rfl (fun _=>HV rfl rfl)<|Zp rfl (fun _=>Li)<|?_;cases hF;exact wp_ret<|Zw rfl rfl rfl ⟨rfl,hx1⟩
abbrev dN:=(Int×Int)×Int
abbrev dP:=(dN×dN)×Bool
abbrev Vh:=List dP×Int×(Int×Int)
abbrev Vi:=Int×Bool
abbrev Qs:=Ar 16 (Ar 16 Int)
abbrev Dy:=Vh×List Vi×Qs×Opq×Opq
abbrev Co:=Int×Int
def R6(a1:Option Addr)(c1:Nat)(c:Vh)(sv:Value)(X:Qs)(ma mu:Nat):List Value:=
 [.slice a1 c.1.length c1,.int .i64 c.2.1,.int .i64 c.2.2.1,.int .i64 c.2.2.2,sv]++(X.l.flatMap Flat.enc++[.map (some ma),.map (some mu)])
def TbP(N:Nat)(w:World)(v:Value)(x:Dy)(b ma mu:Nat):Prop:=
 v=.pointer (some ⟨b,0,none⟩)/\RVo (fun q=>q≠ma/\q≠mu) w v (⟨some x⟩:Ob Dy)/\w.cell? ⟨b,261,none⟩=some (.map (some ma))/\w.cell? ⟨b,262,none⟩=some (.map (some mu))/\
 Mp (κ:=Co) (ν:=Int) w ma []/\Mp (κ:=Co) (ν:=Int) w mu []/\ma≠mu/\N<=ma/\N<=mu
def TbN(N:Nat)(w:World)(v:Value)(x:Ob Dy):Prop:=∃y b ma mu,x=⟨some y⟩/\TbP N w v y b ma mu
theorem OA{w w':World}{b o:Nat}{c:Value}(h:w.cell? ⟨b,o,none⟩=some c)(k:Ext w w'):w'.cell? ⟨b,o,none⟩=some c:=by
 have hlt:=World.block_lt_of_cell? w _ h;exact(World.cell?_of_block (a:=⟨b,o,none⟩) (k.block b hlt)).trans h
theorem TbN.ext{N:Nat}{w w':World}{v:Value}{x:Ob Dy}(h:TbN N w v x)(k:Ext w w'):TbN N w' v x:=by
 obtain⟨y,b,ma,mu,rfl,h1,h2,h3,h4,h5,h6,h7⟩:=h;exact⟨y,b,ma,mu,rfl,h1,h2.ext k,OA h3 k,OA h4 k,h5.ext k,h6.ext k,h7⟩
theorem TbN.mono{N M:Nat}{w:World}{v:Value}{x:Ob Dy}(h:TbN N w v x)(hM:M<=N):TbN M w v x:=by
 obtain⟨y,b,ma,mu,rfl,h1,h2,h3,h4,h5,h6,h7,h8,h9⟩:=h;exact⟨y,b,ma,mu,rfl,h1,h2,h3,h4,h5,h6,h7,Nat.le_trans hM h8,Nat.le_trans hM h9⟩
theorem TbN.rv{N:Nat}{w:World}{v:Value}{x:Ob Dy}(h:TbN N w v x):RV w v x:=by
 obtain⟨y,b,ma,mu,rfl,h1,h2,h3⟩:=h;exact h2.rv
section
structure NT(w0 w:World)(base b4:Nat)(a1:Option Addr)(c1:Nat)(c:Vh)(sv:Value)(st:List Vi)(X:Qs)(ma mu:Nat):Prop where
 bx:Bx w b4 199 (R6 a1 c1 c sv X ma mu)
 row:Row 56 base w sv st
 ma:Mp (κ:=Co) (ν:=Int) w ma []
 mu:Mp (κ:=Co) (ν:=Int) w mu []
 ext:Ext w0 w
 size:base<=w.heap.size
section
variable {w0 w w1 w2:World}{base b4:Nat}{a1:Option Addr}{c1:Nat}{c:Vh}{sv sv':Value}{st st':List Vi}{X:Qs}{ma mu:Nat}
theorem NT.go(h:NT w0 w base b4 a1 c1 c sv st X ma mu)(k:Ext w w1):NT w0 w1 base b4 a1 c1 c sv st X ma mu:=
 ⟨h.bx.ext k,h.row.ext k,h.ma.ext k,h.mu.ext k,h.ext.tr k,Nat.le_trans h.size k.size⟩
theorem NT.steps(h:NT w0 w base b4 a1 c1 c sv st X ma mu)(hw0:w0.heap.size<=base)(h0:w0.heap.size<=b4)(h4:b4<base)(ha:ma<base)(hu:mu<base)(o:Row 56 base w1 sv' st')(hB:Below base w w1)(hc:Chg b4 w1 w2)(hb:Bx w2 b4 199 (Md.CX (R6 a1 c1 c sv X ma mu) 4 [sv'])):
  NT w0 w2 base b4 a1 c1 c sv' st' X ma mu:=by
 have hx:Bx w1 b4 199 (R6 a1 c1 c sv X ma mu):=h.bx.below hB h4;exact⟨hb,o.chg hc h4,(h.ma.below hB ha).chgb hc hx,(h.mu.below hB hu).chgb hc hx,Ext.chg (h.ext.trans (hB.mono hw0)) hc h0,by rw[hc.size];exact Nat.le_trans h.size hB.size⟩
end
end
end Go.Proofs.YtfmelbioccbdoaaGreat
end
section
namespace Go.Proofs.YtfmelbioccbdoaaGreat
open Go Go.Md Go.RowKit
def EN(F:Nat)(x0:(List Int))(x1:Int):Nat->Int->Option (Sum Int (Unit))
 |0,_=>none
 |m+1,y1=>
  if(decide (y1<(x0.length:Int)))=true then
   (ix x0 y1)>>=fun x3=>
   if(decide (x1=x3))=true then
    some (.inl y1)
   else
    EN F x0 x1 m (AP (y1+1))
  else
   some (.inr ())
def slices_Index_int(F:Nat)(x0:(List Int))(x1:Int):Option Int:=
 ((EN F x0 x1 F 0)>>=fun o=>match o with
  |.inl r=>some r
  |.inr ()=>
   some (-1))
def slices_Contains_int(F:Nat)(x0:(List Int))(x1:Int):Option Bool:=
 (slices_Index_int F x0 x1)>>=fun x3=>
 some (decide (0<=x3))
end Go.Proofs.YtfmelbioccbdoaaGreat
end
section
namespace Go.Proofs.YtfmelbioccbdoaaGreat
open Go Go.Md Go.RowKit
attribute [local irreducible] Go.wpList Go.Code.wp Go.Calls Go.Md.Cu Go.Md.Mt Go.Md.Dl Go.Md.Ch Go.Code.wpIn
theorem lH{w0:World}{v0:Value}{x0:(List Int)}(r0:RV w0 v0 x0){x1:Int}{F:Nat}{r:Int}(hF:slices_Index_int F x0 x1=some r):
  Calls Tryz.prog 250 [v0,.int .i64 x1].toArray w0 (BV fun v w'=>v=.int .i64 r/\Ext w0 w'):=by
 unfold slices_Index_int at hF;have hz:=r0.sl;obtain⟨a1,cq1,rfl,-,-,-⟩:=hz;refine BX (n:=19) Tryz.func250 rfl rfl rfl<|Zr<|Za<|nl<|wp_seq<|Zr<|Zm<|Zv (Bp rfl Tryz.underlying41)<|Zm<|nl<|bS hF fun o1 hB1 hF=>ct (fun L w=>o1=.inr ()/\Ext w0 w) ?_ ?_
 ·refine wp_block<|lp (I:=fun m L w=>∃y1:Int,EN F x0 x1 m y1=some o1/\L 8=.int .i64 y1/\L 0=.slice a1 x0.length cq1/\L 1=.int .i64 x1/\L 7=.int .i64 (x0.length:Int)/\Ext w0 w) F ⟨_,hB1,rfl,rfl,rfl,rfl,(Ext.refl _)⟩ ?_;rintro m L w1⟨y1,hB1,l8_i1,l0_i1,l1_i1,l7_i1,K0_i1⟩;rcases m with _|m
  ·rw[EN]at hB1;cases hB1
  rw[EN]at hB1;refine Zr<|Zv (BN l8_i1 l7_i1)<|nl<|wp_seq<|cnd rfl (fun h3=>?_) (fun h3=>?_)
  ·have hB1:=Ac hB1 h3;refine wp_skip<|wp_seq<|wp_block<|Zr<|Zm<|Za<|nl<|Zr<|Zm<|Zm<|Zm<|bS hB1 fun x3 Ex3 hB1=>?_;have hz:=(RV.els r0).ix Ex3;obtain⟨b3,f1,cs3,e1,i2,i3,q3,hc1⟩:=hz;cases e1;obtain rfl:=q3;have hc2:=hc1.ext K0_i1;refine Zv (Ao l0_i1 l8_i1 Tryz.underlying41 AY i2 i3)<|Zv (AX rfl AY (hc2.at 0 rfl))<|Zv (HV l1_i1 rfl)<|nl<|cnd rfl (fun h4=>?_) (fun h4=>?_)
   ·have hB1:=Ac hB1 h4;refine Zr<|Zm<|Za<|nl<|?_;cases hB1;have hF:=(show some _=some _ from hF);cases hF;exact wp_ret<|rt rfl (.tmp l8_i1 rfl .nil) ⟨rfl,K0_i1⟩
   ·have hB1:=Ai hB1 h4;refine wp_skip<|rg<|Zv (BJ l8_i1 rfl)<|Zm<|nl<|lq m (Nat.lt_succ_self _)<|?_;exact⟨_,hB1,rfl,l0_i1,l1_i1,l7_i1,K0_i1⟩
  ·have hB1:=Ai hB1 h3;refine wp_exit<|?_;cases hB1;refine lf<|?_;exact⟨rfl,K0_i1⟩
 rintro L w2⟨rfl,K0_j1⟩;refine Zr<|Za<|nl<|?_;cases hF;exact wp_ret<|Zw rfl rfl rfl ⟨rfl,K0_j1⟩
theorem lI{w0:World}{v0:Value}{x0:(List Int)}(r0:RV w0 v0 x0){x1:Int}{F:Nat}{r:Bool}(hF:slices_Contains_int F x0 x1=some r):
  Calls Tryz.prog 144 [v0,.int .i64 x1].toArray w0 (BV fun v w'=>v=.bool r/\Ext w0 w'):=by
 unfold slices_Contains_int at hF;have hz:=r0.sl;obtain⟨a1,cq1,rfl,-,-,-⟩:=hz;refine BX (n:=9) Tryz.func144 rfl rfl rfl<|Zr<|Za<|nl<|Zr<|Zm<|Zm<|bS hF fun x3 Ex3 hF=>Zc (xc gK (mc rfl (mc rfl mn))) (lH r0 Ex3) ?_;rintro _ w1⟨rfl,hx1⟩;refine Zv (Kh rfl rfl)<|Za<|nl<|?_;cases hF;exact wp_ret<|Zw rfl rfl rfl ⟨rfl,hx1⟩
end Go.Proofs.YtfmelbioccbdoaaGreat
end
section
namespace Go.Proofs.YtfmelbioccbdoaaGreat
open Go Go.Md Go.RowKit
attribute [local irreducible] Go.wpList Go.Code.wp Go.Calls Go.Md.Cu Go.Md.Mt Go.Md.Dl Go.Md.Ch Go.Code.wpIn Go.wpListIn
section
structure Tb(N:Nat)(w:World)(b ma mu:Nat)(x:Dy):Prop where
 size:N<=w.heap.size
 rv:RVo (fun q=>q<N/\q≠ma/\q≠mu) w (.pointer (some ⟨b,0,none⟩)) (⟨some x⟩:Ob Dy)
 ca:w.cell? ⟨b,261,none⟩=some (.map (some ma))
 cu:w.cell? ⟨b,262,none⟩=some (.map (some mu))
 la:ma<N
 lu:mu<N
 ne:ma≠mu
section
variable {N:Nat}{w w1:World}{b ma mu c d:Nat}{x:Dy}
theorem Tb.lb(h:Tb N w b ma mu x):b<N/\b≠ma/\b≠mu:=by
 have hz:=Jt h.rv rfl;obtain⟨b',ds,e,h1,_,_⟩:=hz;cases e;exact h1
theorem Tb.belx(h:Tb N w b ma mu x)(k:BelX N c d w w1)(hc:c=ma\/c=mu\/N<=c)(hd:d=ma\/d=mu\/N<=d):Tb N w1 b ma mu x:=by
 have hb:=h.lb;have e:w1.heap[b]?=w.heap[b]?:=k.block b hb.1 (by omega) (by omega);exact⟨Nat.le_trans h.size k.size,h.rv.keep (fun q hq _=>k.block q hq.1 (by omega) (by omega)) k.size,(World.cell?_of_block (a:=⟨b,261,none⟩) e).trans h.ca,(World.cell?_of_block (a:=⟨b,262,none⟩) e).trans h.cu,h.la,h.lu,h.ne⟩
theorem Tb.belp{ok:Nat->Prop}{M:Nat}(h:Tb N w b ma mu x)(k:BelP ok M w w1)(hM:N<=M)(hk:∀q,q<N->q≠ma->q≠mu->ok q):Tb N w1 b ma mu x:=by
 have hb:=h.lb;have e:w1.heap[b]?=w.heap[b]?:=k.block b (by omega) (hk b hb.1 hb.2.1 hb.2.2);exact⟨Nat.le_trans h.size k.size,h.rv.keep (fun q hq _=>k.block q (by omega) (hk q hq.1 hq.2.1 hq.2.2)) k.size,(World.cell?_of_block (a:=⟨b,261,none⟩) e).trans h.ca,(World.cell?_of_block (a:=⟨b,262,none⟩) e).trans h.cu,h.la,h.lu,h.ne⟩
theorem Tb.ext(h:Tb N w b ma mu x)(k:Ext w w1):Tb N w1 b ma mu x:=h.belx (c:=ma) (d:=ma) (BelX.of k h.size) (.inl rfl) (.inl rfl)
theorem Tb.mono{M:Nat}(h:Tb N w b ma mu x)(hM:N<=M)(hs:M<=w.heap.size):Tb M w b ma mu x:=
 ⟨hs,h.rv.mono fun q _ hq=>⟨by omega,hq.2⟩,h.ca,h.cu,Nat.lt_of_lt_of_le h.la hM,Nat.lt_of_lt_of_le h.lu hM,h.ne⟩
theorem Tb.cs(h:Tb N w b ma mu x):∃cs,Cs w b 0 cs/\Enc.rep (fun _=>True) w cs x:=by
 have hz:=Jt h.rv rfl;obtain⟨b',ds,e,_,h1,h2⟩:=hz;cases e;exact⟨ds,h2,Enc.mono (fun _ _ _=>trivial) h1⟩
theorem Tb.steps(h:Tb N w b ma mu x):∃a k,w.cell? ⟨b,4,none⟩=some (.slice a x.2.1.length k)/\RVo (fun q=>q<N/\q≠ma/\q≠mu) w (.slice a x.2.1.length k) x.2.1:=by
 have hz:=Jt h.rv rfl;obtain⟨b',ds,e,_,h1,h2⟩:=hz;cases e;obtain⟨_,_,rfl,⟨_,_,rfl,⟨a1,c1,rfl,p1,q3,e1⟩,_,_,rfl,rfl,_,_,rfl,rfl,rfl⟩,_,_,rfl,⟨a2,c2,rfl,p2,q4,e2⟩,_⟩:=h1;exact⟨a2,c2,h2.at 4 rfl,RVo.sl.2 ⟨a2,c2,rfl,p2,q4,e2⟩⟩
theorem Tb.pieces(h:Tb N w b ma mu x):∃a k,w.cell? ⟨b,0,none⟩=some (.slice a x.1.1.length k)/\RVo (fun q=>q<N/\q≠ma/\q≠mu) w (.slice a x.1.1.length k) x.1.1:=by
 have hz:=Jt h.rv rfl;obtain⟨b',ds,e,_,h1,h2⟩:=hz;cases e;obtain⟨_,_,rfl,⟨_,_,rfl,⟨a1,c1,rfl,p1,q3,e1⟩,_,_,rfl,rfl,_,_,rfl,rfl,rfl⟩,_,_,rfl,⟨a2,c2,rfl,p2,q4,e2⟩,_⟩:=h1;exact⟨a1,c1,h2.at 0 rfl,RVo.sl.2 ⟨a1,c1,rfl,p1,q3,e1⟩⟩
theorem Tb.fits(h:Tb N w b ma mu x):Cs w b 5 (x.2.2.1.l.flatMap Flat.enc):=by
 have hz:=Jt h.rv rfl;obtain⟨b',ds,e,_,h1,h2⟩:=hz;cases e;obtain⟨_,_,rfl,⟨_,_,rfl,⟨a1,c1,rfl,p1,q3,e1⟩,_,_,rfl,rfl,_,_,rfl,rfl,rfl⟩,_,_,rfl,⟨a2,c2,rfl,p2,q4,e2⟩,_,_,rfl,rfl,_⟩:=h1;exact(h2.snd.snd).fst
theorem TbP.tb{M:Nat}{v:Value}(h:TbP M w v x b ma mu):v=.pointer (some ⟨b,0,none⟩)/\Tb w.heap.size w b ma mu x/\Mp (κ:=Co) (ν:=Int) w ma []/\Mp (κ:=Co) (ν:=Int) w mu []:=by
 obtain⟨rfl,h1,h2,h3,h4,h5,h6,_⟩:=h;refine⟨rfl,⟨Nat.le_refl _,?_,h2,h3,h4.lt,h5.lt,h6⟩,h4,h5⟩;obtain⟨cs,e,h7⟩:=h1;refine⟨cs,e,?_⟩;obtain⟨a,e1,b',ds,e2,h8,h9,h10,h11⟩:=h7;exact⟨a,e1,b',ds,e2,⟨h9,h8⟩,h9,Enc.mono (fun q hq hok=>⟨hq,hok⟩) h10,h11⟩
end
def ZQ(x:Dy)(s:Co)(k:Int):Option Bool:=
 (Gi k s ⟨some x⟩)>>=fun f=>
 if f=true then
  (if decide (s.2=-1)=true then some true else(ix x.2.2.1.l s.2)>>=fun r=>(ix r.l k)>>=fun y=>some (decide (y=1)))
 else some false
def H6(x:Dy)(s:Co):Nat->Nat->Option (List Co)
 |0,_=>some []
 |n+1,k=>(ZQ x s k)>>=fun f=>(H6 x s n (k+1))>>=fun t=>if f=true then(JG x s k)>>=fun u=>some (u::t)else some t
def Kq(x:Dy)(s:Co):Option (List Co):=
 if(!decide (s.2=-1))=true then(ix x.2.2.1.l s.2)>>=fun r=>if decide (r=Ar.fill 16 0)=true then some []else H6 x s x.2.1.length 0
 else H6 x s x.2.1.length 0
set_option maxHeartbeats 8000000 in
theorem dQ{m:Nat}{w:World}{bs bt bf b ma mu N:Nat}{ok:Nat->Prop}{x:Dy}{s:Co}{l:List Co}(hs:Bx w bs 326 (Flat.enc s))(ht:Bx w bt 177 [.pointer (some ⟨b,0,none⟩)])(hf:Bx w bf 236 [.func (.func 309) #[] #[.pointer (some ⟨bs,0,none⟩),.pointer (some ⟨bt,0,none⟩)]])
  (n1:ok bs) (n2:ok bt) (n3:ok bf) (hT:Tb N w b ma mu x) (hok:∀q,q<N->q≠ma->q≠mu->ok q) (hL:Kq x s=some l):
  IA Tryz.prog (BelP ok w.heap.size) m 310 #[.pointer (some ⟨bs,0,none⟩),.pointer (some ⟨bt,0,none⟩),.pointer (some ⟨bf,0,none⟩)] (l.map fun u=>#[fv u]) w:=by
 intro ll J Jx W kW hJ hJx hY h0;have KW:BelP ok w.heap.size w W:=BelP.of kW (Nat.le_refl _);have TW:=hT.ext kW;have dsW:=hs.ext kW;have dtW:=ht.ext kW;refine(callsIn_wide.2 ?_:CallsIn Fence.wide m Tryz.prog 310 ([.func (.yield ll) #[] #[],.pointer (some ⟨bs,0,none⟩),.pointer (some ⟨bt,0,none⟩),.pointer (some ⟨bf,0,none⟩)].toArray) W _);refine Calls.mono (R:=BV fun v W'=>J (l.map fun u=>#[fv u]).length W'\/Jx W') ?_ ?_
 rotate_left
 ·rintro e W'⟨v,rfl,h⟩
  exact⟨⟨v,rfl⟩,h⟩
 unfold Kq at hL;refine BX (n:=58) Tryz.func310 rfl rfl rfl<|wp_seq<|ct (fun L w'=>L 0=.func (.yield ll) #[] #[]/\L 1=.pointer (some ⟨bs,0,none⟩)/\L 2=.pointer (some ⟨bt,0,none⟩)/\L 3=.pointer (some ⟨bf,0,none⟩)/\Ext W w'/\H6 x s x.2.1.length 0=some l) ?_ ?_
 ·refine wp_seq<|FZ [] (.pure true 0 (.pure false 1 (.pure true 2 (.pure true 3 (.pure false 4 (.pure true 5 (.pure false 6 (.pure true 7 (.pure true 8 (.pure true 9 (.pure false 10 (.pure true 11 (.pure true 12 (.pure true 13 .fin)))))))))))))) mixed (by kernel_rfl) (fun wd hxd=>?_)
  have ds:=dsW.ext hxd;have dt:=dtW.ext hxd;have Td:=TW.ext hxd;refine Zp rfl (fun _=>Ah rfl NA)<|Zq rfl (fun _ hS=>AX rfl AY ((Bx.cs (ds.ext (hS.resolve_left nofun))).at 1 rfl)) (Ext.refl _)<|Zp rfl (fun _=>Di rfl rfl)<|Zn rfl<|Or.elim (Bool.eq_false_or_eq_true (!decide (s.2=-1))) (fun hg=>?_) (fun hg=>?_)
  ·have hL:=Ac hL hg
   refine bS hL fun r Er hL=>?_;have hz:=JC Td.fits Er;obtain⟨j1,j2,hc1⟩:=hz;refine Yi rfl (Md.bt hg) (fun _ hS=>AX rfl KQ ((Bx.cs (dt.ext (hS.resolve_left nofun))).at 0 rfl)) (Ext.refl _)<|Yt rfl (Md.bt hg) (fun _=>Ah rfl NA)<|Yi rfl (Md.bt hg) (fun _ hS=>AX rfl AY ((Bx.cs (ds.ext (hS.resolve_left nofun))).at 1 rfl)) (Ext.refl _)<|Yt rfl (Md.bt hg) (fun _=>FB rfl)<|Yt rfl (Md.bt hg) (fun _=>Ah rfl Tk)<|Yt rfl (Md.bt hg) (fun _=>Ia rfl rfl Tryz.underlying196 Qg j1 j2)<|Yi rfl (Md.bt hg) (fun _ hS=>BO rfl Qg (LJ r) (hc1.ext (hS.resolve_left nofun))) (Ext.refl _)<|Yt rfl (Md.bt hg) (fun _=>fA (r:=List.flatMap Flat.enc (Ar.fill 16 0:Ar 16 Int).l) Qg Tryz.underlying195 AY pn rfl)<|Yt rfl (Md.bt hg) (fun _=>Xl (α:=Ar 16 Int) (a:=r) (b:=Ar.fill 16 0) rfl fM fK rfl rfl rfl rfl rfl)<|Zp rfl (fun _=>EJ rfl hg rfl)<|cnd rfl (fun hq=>?_) (fun hq=>?_)
   ·have hL:=Ac hL hq
    cases hL;exact wp_ret<|rt rfl .nil (.inl (hJ 0 _ _ h0 hxd))
   ·have hL:=Ai hL hq
    exact wp_skip<|lf ⟨rfl,rfl,rfl,rfl,hxd,hL⟩
  ·have hL:=Ai hL hg
   refine Yh rfl (Ak hg) (Ext.refl _)<|Yf rfl (Ak hg)<|Yh rfl (Ak hg) (Ext.refl _)<|Yf rfl (Ak hg)<|Yf rfl (Ak hg)<|Yf rfl (Ak hg)<|Yh rfl (Ak hg) (Ext.refl _)<|Yf rfl (Ak hg)<|Yf rfl (Ak hg)<|Zp rfl (fun _=>Eb rfl hg rfl)<|cnd rfl (fun hq=>by cases hq) (fun hq=>?_);exact wp_skip<|lf ⟨rfl,rfl,rfl,rfl,hxd,hL⟩
 clear hL;rintro L w2⟨l0,l1,l2,l3,k2,hL⟩;have T2:=TW.ext k2;have dt2:=dtW.ext k2;have hz:=T2.steps;obtain⟨a2,c2,h4,hsl⟩:=hz;have hlen:=(RVo.rv hsl).cap;have hj2:J 0 w2:=hJ 0 _ _ h0 k2;have K2:BelP ok w.heap.size w w2:=BelP.of (kW.tr k2) (Nat.le_refl _);refine Zr<|Zv (AX l2 KQ ((Bx.cs dt2).at 0 rfl))<|Zv (FB rfl)<|Zv (Ah rfl Mx)<|Zv (AX rfl UW h4)<|Zv (Bp rfl Tryz.underlying51)<|Zm<|nl<|wp_block<|lp (I:=fun m' L w1=>∃(k:Nat)(pre t:List Co),k+m'=x.2.1.length/\H6 x s m' k=some t/\l=pre++t/\L 25=.int .i64 (k:Int)/\L 24=.int .i64 (x.2.1.length:Int)/\L 0=.func (.yield ll) #[] #[]/\L 1=.pointer (some ⟨bs,0,none⟩)/\L 2=.pointer (some ⟨bt,0,none⟩)/\L 3=.pointer (some ⟨bf,0,none⟩)/\J pre.length w1/\BelP ok w.heap.size w w1) x.2.1.length
  ⟨0,[],l,by simp,hL,rfl,rfl,rfl,l0,l1,l2,l3,hj2,K2⟩ ?_
 clear l0 l1 l2 l3 hL;rintro m' L w1⟨k,pre,t,hk,hB,hl,l25,l24,l0,l1,l2,l3,hj,hx⟩;refine Zr<|Zv (BN l25 l24)<|nl<|wp_seq<|cnd rfl (fun hc0=>?_) (fun hc0=>?_)
 ·have hc0:(k:Int)<(x.2.1.length:Int):=by simpa using hc0
  obtain⟨n,rfl⟩:∃n,m'=n+1:=⟨m'-1,by omega⟩;rw[H6]at hB;refine bS hB fun f Ef hB=>?_;have hz:=Md.bs hB;obtain⟨t',Et,hB⟩:=hz;unfold ZQ at Ef;have hz:=Md.bs Ef;obtain⟨f0,Ef0,Ef⟩:=hz;have hadd:AP ((k:Int)+1)=((k+1:Nat):Int):=by
   have hmx:x.2.1.length<=maxLen:=by omega
   rw[AP,IntWalk.i64_in _ (by unfold maxLen at hmx;omega)]
   rfl
  have hNw:=hx.size;refine wp_skip<|wp_seq<|wp_block<|Zr<|Zv (Ba l25)<|Za<|nl<|wp_seq<|kL (m:=m) (fun wd w'=>Ext wd w') [26] (.pure false 0 (.pure true 1 (.eff 2 (.pure true 3 (.pure true 4 (.pure false 5 (.pure true 6 (.pure true 7 (.pure false 8 (.pure true 9 (.pure false 10 (.pure true 11 (.pure true 12 (.pure true 13 (.pure true 14 (.pure true 15 (.pure false 16 (.pure true 17 (.pure true 18 (.pure true 19 (.pure true 20 (.pure true 21 (.pure false 22 (.pure false 23 (.pure true 24 (.eff 25 (.eff 26 (.pure true 27 (.pure true 28 .fin)) .stop) .stop))))))))))))))))))))))) .stop))) mixed (by kernel_rfl) (fun wd hxd=>?_);have hxd':=hx.ext hxd hNw;have ds:=hs.belp hxd' hs.lt n1;have dt:=ht.belp hxd' ht.lt n2;have df:=hf.belp hxd' hf.lt n3;have Td:=hT.belp hxd' hT.size hok;have hjd:=hJ _ _ _ hj hxd;refine Jw rfl rfl rfl (fun _ hS=>AX l3 Qh ((Bx.cs (df.ext (hS.resolve_left nofun))).at 0 rfl)) (.inr (Ext.refl _))<|Jw rfl rfl rfl (fun _ _=>Bw) (.inl rfl)<|Uh rfl<|Zc (Lv (fs:=[]) (cs:=[.pointer (some ⟨bs,0,none⟩),.pointer (some ⟨bt,0,none⟩)]) rfl gW (mc rfl mn) rfl) (lG (x1:=s) (x2:=(⟨some x⟩:Ob Dy)) (Bx.cs ds) (Flat.iff.2 rfl) (Bx.cs dt) (Vx Td.rv.rv) Ef0) ?_;rintro _ w3⟨rfl,hx3⟩;refine nl ⟨fun _ h=>h.tr hx3,?_⟩;have kd3:=hxd.tr hx3;have hx3':=hx.ext kd3 hNw;have hjd3:=hJ _ _ _ hj kd3;have ds3:=ds.ext hx3;have dt3:=dt.ext hx3;have Td3:=Td.ext hx3;refine Jw rfl rfl rfl (fun _ _=>Bw) (.inl rfl)<|?_;have skip_:∀(L':Fr),f=false->L' 24=.int .i64 (x.2.1.length:Int)->L' 0=.func (.yield ll) #[] #[]->L' 1=.pointer (some ⟨bs,0,none⟩)->L' 2=.pointer (some ⟨bt,0,none⟩)->L' 3=.pointer (some ⟨bf,0,none⟩)->
    ∃(k':Nat)(pre t:List Co),k'+n=x.2.1.length/\H6 x s n k'=some t/\l=pre++t/\Value.int .i64 (AP ((k:Int)+1))=.int .i64 (k':Int)/\L' 24=.int .i64 (x.2.1.length:Int)/\L' 0=.func (.yield ll) #[] #[]/\L' 1=.pointer (some ⟨bs,0,none⟩)/\L' 2=.pointer (some ⟨bt,0,none⟩)/\L' 3=.pointer (some ⟨bf,0,none⟩)/\J pre.length w3/\BelP ok w.heap.size w w3:=by
   intro L' hf0 h24 h0 h1 h2 h3;have hB:=Ai hB hf0;cases hB;exact⟨k+1,pre,_,by omega,Et,hl,congrArg _ hadd,h24,h0,h1,h2,h3,hjd3,hx3'⟩
  refine Or.elim (Bool.eq_false_or_eq_true f0) (fun hf0=>?_) (fun hf0=>?_)
  ·have Ef:=Ac Ef hf0
   refine EI rfl rfl rfl rfl rfl rfl (Md.bt hf0) rfl (fun _ _=>Ah l1 NA) (.inl rfl)<|EI rfl rfl rfl rfl rfl rfl (Md.bt hf0) rfl (fun _ hS=>AX rfl AY ((Bx.cs (ds.ext (hS.resolve_left nofun))).at 1 rfl)) (.inr hx3)<|EI rfl rfl rfl rfl rfl rfl (Md.bt hf0) rfl (fun _ _=>HV rfl rfl) (.inl rfl)<|EI rfl rfl rfl rfl rfl rfl (Md.bt hf0) rfl (fun _ _=>Bw) (.inl rfl)<|Or.elim (Bool.eq_false_or_eq_true (decide (s.2=-1))) (fun hs2=>?_) (fun hs2=>?_)
   ·have Ef:=Ac Ef hs2
    obtain rfl:true=f:=by cases Ef;rfl
    refine DY rfl rfl rfl rfl rfl rfl (Bg hs2) rfl (.inr hx3)<|DY rfl rfl rfl rfl rfl rfl (Bg hs2) rfl (.inl rfl)<|DY rfl rfl rfl rfl rfl rfl (Bg hs2) rfl (.inr hx3)<|DY rfl rfl rfl rfl rfl rfl (Bg hs2) rfl (.inl rfl)<|DY rfl rfl rfl rfl rfl rfl (Bg hs2) rfl (.inl rfl)<|DY rfl rfl rfl rfl rfl rfl (Bg hs2) rfl (.inl rfl)<|DY rfl rfl rfl rfl rfl rfl (Bg hs2) rfl (.inl rfl)<|DY rfl rfl rfl rfl rfl rfl (Bg hs2) rfl (.inl rfl)<|DY rfl rfl rfl rfl rfl rfl (Bg hs2) rfl (.inr hx3)<|DY rfl rfl rfl rfl rfl rfl (Bg hs2) rfl (.inl rfl)<|EI rfl rfl rfl rfl rfl rfl (Md.bt hf0) rfl (fun _ _=>EJ rfl hs2 rfl) (.inl rfl)<|Jw rfl rfl rfl (fun _ _=>EJ rfl hf0 rfl) (.inl rfl)<|Jw rfl rfl rfl (fun _ _=>Bw) (.inl rfl)<|?_;have hf:true=true:=rfl;have hB:=Ac hB hf;refine bS hB fun u Eu hB=>?_;cases hB;have hz:=Td3.cs;obtain⟨cs3,hc3,hr3⟩:=hz;refine EI rfl rfl rfl rfl rfl rfl (Md.bt hf) rfl (fun _ _=>Ba l0) (.inl rfl)<|EI rfl rfl rfl rfl rfl rfl (Md.bt hf) rfl (fun _ hS=>AX l2 KQ ((Bx.cs (dt.ext (hS.resolve_left nofun))).at 0 rfl)) (.inr hx3)<|EI rfl rfl rfl rfl rfl rfl (Md.bt hf) rfl (fun _ hS=>BO l1 LD rfl (Bx.cs (ds.ext (hS.resolve_left nofun)))) (.inr hx3)<|EI rfl rfl rfl rfl rfl rfl (Md.bt hf) rfl (fun _ _=>Bw) (.inl rfl)<|Uh rfl<|Gt rfl (Md.bt hf)<|Zc (xc ZA (mc rfl<|mc rfl<|mc rfl mn)) (dM (x0:=x) hc3 hr3 (x1:=s) ⟨_,rfl,Flat.iff.2 rfl⟩ Eu) ?_;rintro _ w4⟨u0,rfl,ru,hx4⟩;refine nl ⟨fun _ h=>h.tr hx4,?_⟩;obtain⟨cu,rfl,hu⟩:=ru;obtain rfl:=Flat.iff.1 hu;have hus:(l.map fun u=>(#[fv u]:Array Value))[pre.length]?=some #[fv u]:=by
     rw[List.getElem?_map,hl,List.getElem?_append_right (Nat.le_refl _),Nat.sub_self]
     rfl
    have hz:=hY pre.length #[fv u] w4 hus (hJ _ _ _ hjd3 hx4);obtain⟨fn,tmps,assign,body,hy,hR⟩:=hz;refine jO rfl rfl rfl rfl rfl rfl (Md.bt hf) rfl (by decide) (V3 rfl (mc rfl mn) hy) hR fun e w5 he=>?_;rcases he with⟨rfl,hj5,k5⟩|⟨rfl,hj5⟩
    ·refine⟨_,rfl,?_⟩
     refine EI rfl rfl rfl rfl rfl rfl (Md.bt hf) rfl (fun _ _=>Ej rfl) (.inl rfl)<|Jw rfl rfl rfl (fun _ _=>EJ rfl hf rfl) (.inl rfl)<|cnd rfl (fun h=>by cases h) (fun _=>?_);refine wp_skip<|rg<|Zv (BJ l25 rfl)<|Zm<|nl<|lq n (Nat.lt_succ_self _) ⟨k+1,pre++[u],t',by omega,Et,by rw[hl,List.append_assoc];rfl,congrArg _ hadd,l24,l0,l1,l2,l3,?_,(hx3'.ext hx4 (Nat.le_trans hNw kd3.size)).trans k5⟩;rw[List.length_append];exact hj5
    ·refine⟨_,rfl,?_⟩
     refine EI rfl rfl rfl rfl rfl rfl (Md.bt hf) rfl (fun _ _=>Ej rfl) (.inl rfl)<|Jw rfl rfl rfl (fun _ _=>EJ rfl hf rfl) (.inl rfl)<|cnd rfl (fun _=>?_) (fun h=>by cases h);exact wp_ret<|rt rfl .nil (.inr hj5)
   ·have Ef:=Ai Ef hs2
    have hz:=Md.bs Ef;obtain⟨r,Er,Ef⟩:=hz;have hz:=Md.bs Ef;obtain⟨y,Ey,Ef⟩:=hz;obtain rfl:decide (y=1)=f:=by cases Ef;rfl
    have hz:=JC Td.fits Er;obtain⟨j1,j2,hc1⟩:=hz;have hz:=JC (X:=r) hc1 Ey;obtain⟨j3,j4,hc2⟩:=hz;refine EI rfl rfl rfl rfl rfl rfl (Md.bf hs2) rfl (fun _ hS=>AX l2 KQ ((Bx.cs (dt.ext (hS.resolve_left nofun))).at 0 rfl)) (.inr hx3)<|EI rfl rfl rfl rfl rfl rfl (Md.bf hs2) rfl (fun _ _=>Ah l1 NA) (.inl rfl)<|EI rfl rfl rfl rfl rfl rfl (Md.bf hs2) rfl (fun _ hS=>AX rfl AY ((Bx.cs (ds.ext (hS.resolve_left nofun))).at 1 rfl)) (.inr hx3)<|EI rfl rfl rfl rfl rfl rfl (Md.bf hs2) rfl (fun _ _=>Bw) (.inl rfl)<|EI rfl rfl rfl rfl rfl rfl (Md.bf hs2) rfl (fun _ _=>FB rfl) (.inl rfl)<|EI rfl rfl rfl rfl rfl rfl (Md.bf hs2) rfl (fun _ _=>Ah rfl Tk) (.inl rfl)<|EI rfl rfl rfl rfl rfl rfl (Md.bf hs2) rfl (fun _ _=>Ia rfl rfl Tryz.underlying196 Qg j1 j2) (.inl rfl)<|EI rfl rfl rfl rfl rfl rfl (Md.bf hs2) rfl (fun _ _=>Ia rfl rfl Tryz.underlying195 AY j3 j4) (.inl rfl)<|EI rfl rfl rfl rfl rfl rfl (Md.bf hs2) rfl (fun _ hS=>AX rfl AY ((hc2.ext (hS.resolve_left nofun)).at 0 rfl)) (.inr hx3)<|EI rfl rfl rfl rfl rfl rfl (Md.bf hs2) rfl (fun _ _=>HV rfl rfl) (.inl rfl)<|EI rfl rfl rfl rfl rfl rfl (Md.bt hf0) rfl (fun _ _=>Eb rfl hs2 rfl) (.inl rfl)<|Jw rfl rfl rfl (fun _ _=>EJ rfl hf0 rfl) (.inl rfl)<|Jw rfl rfl rfl (fun _ _=>Bw) (.inl rfl)<|Or.elim (Bool.eq_false_or_eq_true (decide (y=1))) (fun hf=>?_) (fun hf=>?_)
    ·skip
     have hB:=Ac hB hf;refine bS hB fun u Eu hB=>?_;cases hB;have hz:=Td3.cs;obtain⟨cs3,hc3,hr3⟩:=hz;refine EI rfl rfl rfl rfl rfl rfl (Md.bt hf) rfl (fun _ _=>Ba l0) (.inl rfl)<|EI rfl rfl rfl rfl rfl rfl (Md.bt hf) rfl (fun _ hS=>AX l2 KQ ((Bx.cs (dt.ext (hS.resolve_left nofun))).at 0 rfl)) (.inr hx3)<|EI rfl rfl rfl rfl rfl rfl (Md.bt hf) rfl (fun _ hS=>BO l1 LD rfl (Bx.cs (ds.ext (hS.resolve_left nofun)))) (.inr hx3)<|EI rfl rfl rfl rfl rfl rfl (Md.bt hf) rfl (fun _ _=>Bw) (.inl rfl)<|Uh rfl<|Gt rfl (Md.bt hf)<|Zc (xc ZA (mc rfl<|mc rfl<|mc rfl mn)) (dM (x0:=x) hc3 hr3 (x1:=s) ⟨_,rfl,Flat.iff.2 rfl⟩ Eu) ?_;rintro _ w4⟨u0,rfl,ru,hx4⟩;refine nl ⟨fun _ h=>h.tr hx4,?_⟩;obtain⟨cu,rfl,hu⟩:=ru;obtain rfl:=Flat.iff.1 hu;have hus:(l.map fun u=>(#[fv u]:Array Value))[pre.length]?=some #[fv u]:=by
      rw[List.getElem?_map,hl,List.getElem?_append_right (Nat.le_refl _),Nat.sub_self]
      rfl
     have hz:=hY pre.length #[fv u] w4 hus (hJ _ _ _ hjd3 hx4);obtain⟨fn,tmps,assign,body,hy,hR⟩:=hz;refine jO rfl rfl rfl rfl rfl rfl (Md.bt hf) rfl (by decide) (V3 rfl (mc rfl mn) hy) hR fun e w5 he=>?_;rcases he with⟨rfl,hj5,k5⟩|⟨rfl,hj5⟩
     ·refine⟨_,rfl,?_⟩
      refine EI rfl rfl rfl rfl rfl rfl (Md.bt hf) rfl (fun _ _=>Ej rfl) (.inl rfl)<|Jw rfl rfl rfl (fun _ _=>EJ rfl hf rfl) (.inl rfl)<|cnd rfl (fun h=>by cases h) (fun _=>?_);refine wp_skip<|rg<|Zv (BJ l25 rfl)<|Zm<|nl<|lq n (Nat.lt_succ_self _) ⟨k+1,pre++[u],t',by omega,Et,by rw[hl,List.append_assoc];rfl,congrArg _ hadd,l24,l0,l1,l2,l3,?_,(hx3'.ext hx4 (Nat.le_trans hNw kd3.size)).trans k5⟩;rw[List.length_append];exact hj5
     ·refine⟨_,rfl,?_⟩
      refine EI rfl rfl rfl rfl rfl rfl (Md.bt hf) rfl (fun _ _=>Ej rfl) (.inl rfl)<|Jw rfl rfl rfl (fun _ _=>EJ rfl hf rfl) (.inl rfl)<|cnd rfl (fun _=>?_) (fun h=>by cases h);exact wp_ret<|rt rfl .nil (.inr hj5)
    ·refine DY rfl rfl rfl rfl rfl rfl (Ak hf) rfl (.inl rfl)<|DY rfl rfl rfl rfl rfl rfl (Ak hf) rfl (.inr hx3)<|DY rfl rfl rfl rfl rfl rfl (Ak hf) rfl (.inr hx3)<|DY rfl rfl rfl rfl rfl rfl (Ak hf) rfl (.inl rfl)<|?_
     refine Ui rfl rfl rfl rfl rfl rfl (Ak hf) rfl<|Ui rfl rfl rfl rfl rfl rfl (Ak hf) rfl<|DY rfl rfl rfl rfl rfl rfl (Ak hf) rfl (.inl rfl)<|Jw rfl rfl rfl (fun _ _=>Eb rfl hf rfl) (.inl rfl)<|cnd rfl (fun h=>by cases h) (fun _=>?_);refine wp_skip<|rg<|Zv (BJ l25 rfl)<|Zm<|nl<|lq n (Nat.lt_succ_self _) (skip_ _ hf l24 l0 l1 l2 l3)
  ·have Ef:=Ai Ef hf0
   obtain rfl:false=f:=by cases Ef;rfl
   refine DY rfl rfl rfl rfl rfl rfl (Ak hf0) rfl (.inl rfl)<|DY rfl rfl rfl rfl rfl rfl (Ak hf0) rfl (.inr hx3)<|DY rfl rfl rfl rfl rfl rfl (Ak hf0) rfl (.inl rfl)<|DY rfl rfl rfl rfl rfl rfl (Ak hf0) rfl (.inl rfl)<|DY rfl rfl rfl rfl rfl rfl Md.bu rfl (.inr hx3)<|DY rfl rfl rfl rfl rfl rfl Md.bu rfl (.inl rfl)<|DY rfl rfl rfl rfl rfl rfl Md.bu rfl (.inr hx3)<|DY rfl rfl rfl rfl rfl rfl Md.bu rfl (.inl rfl)<|DY rfl rfl rfl rfl rfl rfl Md.bu rfl (.inl rfl)<|DY rfl rfl rfl rfl rfl rfl Md.bu rfl (.inl rfl)<|DY rfl rfl rfl rfl rfl rfl Md.bu rfl (.inl rfl)<|DY rfl rfl rfl rfl rfl rfl Md.bu rfl (.inl rfl)<|DY rfl rfl rfl rfl rfl rfl Md.bu rfl (.inr hx3)<|DY rfl rfl rfl rfl rfl rfl Md.bu rfl (.inl rfl)<|DY rfl rfl rfl rfl rfl rfl (Ak hf0) rfl (.inl rfl)<|Jw rfl rfl rfl (fun _ _=>Eb rfl hf0 rfl) (.inl rfl)<|Jw rfl rfl rfl (fun _ _=>Bw) (.inl rfl)<|DY rfl rfl rfl rfl rfl rfl (Ak rfl) rfl (.inl rfl)<|DY rfl rfl rfl rfl rfl rfl (Ak rfl) rfl (.inr hx3)<|DY rfl rfl rfl rfl rfl rfl (Ak rfl) rfl (.inr hx3)<|DY rfl rfl rfl rfl rfl rfl (Ak rfl) rfl (.inl rfl)<|Ui rfl rfl rfl rfl rfl rfl (Ak rfl) rfl<|Ui rfl rfl rfl rfl rfl rfl (Ak rfl) rfl<|DY rfl rfl rfl rfl rfl rfl (Ak rfl) rfl (.inl rfl)<|Jw rfl rfl rfl (fun _ _=>Eb rfl rfl rfl) (.inl rfl)<|cnd rfl (fun h=>by cases h) (fun _=>?_);refine wp_skip<|rg<|Zv (BJ l25 rfl)<|Zm<|nl<|lq n (Nat.lt_succ_self _) (skip_ _ rfl l24 l0 l1 l2 l3)
 ·have hc0:¬(k:Int)<(x.2.1.length:Int):=by simpa using hc0
  obtain rfl:m'=0:=by omega
  rw[H6]at hB;cases hB;refine wp_exit<|NZ rfl .nil (.inl ?_);rw[List.length_map,hl,List.append_nil];exact hj
end
def BhV(lo:Nat)(w:World)(v:Value)(s:Co)(b:Nat):Prop:=∃bs bt bf,v=.func (.func 310) #[] #[.pointer (some ⟨bs,0,none⟩),.pointer (some ⟨bt,0,none⟩),.pointer (some ⟨bf,0,none⟩)]/\
 Bx w bs 326 (Flat.enc s)/\Bx w bt 177 [.pointer (some ⟨b,0,none⟩)]/\Bx w bf 236 [.func (.func 309) #[] #[.pointer (some ⟨bs,0,none⟩),.pointer (some ⟨bt,0,none⟩)]]/\lo<=bs/\lo<=bt/\lo<=bf
theorem BhV.go{lo:Nat}{w:World}{v:Value}{s:Co}{b ma mu N:Nat}{ok:Nat->Prop}{x:Dy}{l:List Co}(h:BhV lo w v s b)(hT:Tb N w b ma mu x)(hok:∀q,q<N->q≠ma->q≠mu->ok q)(hlo:∀q,lo<=q->ok q)(hL:Kq x s=some l)(m:Nat):
  ∃gf cs,v=.func (.func gf) #[] cs/\AU Tryz.prog gf/\IA Tryz.prog (BelP ok w.heap.size) m gf cs (l.map fun u=>#[fv u]) w:=by
 obtain⟨bs,bt,bf,rfl,h1,h2,h3,h4,h5,h6⟩:=h;exact⟨310,_,rfl,gX,dQ h1 h2 h3 (hlo _ h4) (hlo _ h5) (hlo _ h6) hT hok hL⟩

def H7(own step:Int):Nat->Nat->List Co
 |0,_=>[]
 |n+1,k=>if(!decide (band .i64 (k:Int) own=0))=true then((k:Int),step)::H7 own step n (k+1)else H7 own step n (k+1)
def Kr(x:Dy)(step:Int):Option (List Co):=
 (ix x.2.1 step)>>=fun st=>(shl .i64 1 st.1)>>=fun own=>(shl .i64 1 (x.1.1.length:Int))>>=fun top=>
 if decide (0<=top/\top<=1000000)=true then some (H7 own step top.toNat 0)else none
set_option maxHeartbeats 8000000 in
theorem dR{m:Nat}{w:World}{bt b3 b ma mu N:Nat}{ok:Nat->Prop}{x:Dy}{step:Int}{l:List Co}(ht:Bx w bt 177 [.pointer (some ⟨b,0,none⟩)])(h3:Bx w b3 3 [.int .i64 step])
  (n1:ok bt) (n2:ok b3) (hT:Tb N w b ma mu x) (hok:∀q,q<N->q≠ma->q≠mu->ok q) (hL:Kr x step=some l):
  IA Tryz.prog (BelP ok w.heap.size) m 308 #[.pointer (some ⟨bt,0,none⟩),.pointer (some ⟨b3,0,none⟩)] (l.map fun u=>#[fv u]) w:=by
 intro ll J Jx W kW hJ hJx hY h0;have KW:BelP ok w.heap.size w W:=BelP.of kW (Nat.le_refl _);have TW:=hT.ext kW;have dtW:=ht.ext kW;have d3W:=h3.ext kW;refine(callsIn_wide.2 ?_:CallsIn Fence.wide m Tryz.prog 308 ([.func (.yield ll) #[] #[],.pointer (some ⟨bt,0,none⟩),.pointer (some ⟨b3,0,none⟩)].toArray) W _);refine Calls.mono (R:=BV fun v W'=>J (l.map fun u=>#[fv u]).length W'\/Jx W') ?_ ?_
 rotate_left
 ·rintro e W'⟨v,rfl,h⟩
  exact⟨⟨v,rfl⟩,h⟩
 unfold Kr at hL;refine bS hL fun st Es hL=>bS hL fun own Eo hL=>bS hL fun top Et hL=>?_;have hz:=nK hL;obtain⟨htop,hL⟩:=hz;cases hL;have htop:0<=top/\top<=1000000:=by simpa using htop
 refine BX (n:=38) Tryz.func308 rfl rfl rfl<|wp_seq<|FZ [] (.pure false 0 (.pure true 1 (.pure true 2 (.pure false 3 (.pure false 4 (.pure true 5 (.pure true 6 (.pure false 7 (.pure true 8 (.pure true 9 .fin)))))))))) mixed (by kernel_rfl) (fun wd hxd=>?_);have dt:=dtW.ext hxd;have d3:=d3W.ext hxd;have Td:=TW.ext hxd;have hz:=Td.steps;obtain⟨a1,c1,h4,hs4⟩:=hz;have hz:=(RVo.sl.1 hs4);obtain⟨a1',c1',e3,_,hcap,els⟩:=hz;cases e3;have hz:=Els.ix els Es;obtain⟨b5,off5,cs5,rfl,i1,i2,q5,hc5⟩:=hz;obtain rfl:=Flat.iff.1 q5;have hz:=Td.pieces;obtain⟨a6,c6,h6,hs6⟩:=hz;refine Zq rfl (fun _ hS=>AX rfl KQ ((Bx.cs (dt.ext (hS.resolve_left nofun))).at 0 rfl)) (Ext.refl _)<|Zp rfl (fun _=>FB rfl)<|Zp rfl (fun _=>Ah rfl Mx)<|Zq rfl (fun _ hS=>AX rfl UW (OA h4 (hS.resolve_left nofun))) (Ext.refl _)<|Zq rfl (fun _ hS=>AX rfl AY ((Bx.cs (d3.ext (hS.resolve_left nofun))).at 0 rfl)) (Ext.refl _)<|Zp rfl (fun _=>Ao rfl rfl Tryz.underlying51 Xm i1 i2)<|Zp rfl (fun _=>Ah rfl Qx)<|Zq rfl (fun _ hS=>AX rfl AY ((hc5.ext (hS.resolve_left nofun)).at 0 rfl)) (Ext.refl _)<|Zp rfl (fun _=>Xp rfl rfl Eo)<|Zp rfl (fun _=>Li)<|Zr<|Zv (AX rfl KQ ((Bx.cs dt).at 0 rfl))<|Zv (FB rfl)<|Zv (Ah rfl Zh)<|Zv (Ah rfl av)<|Zv (AX rfl je h6)<|Zv (Bp rfl Tryz.underlying46)<|Zv (Xp rfl rfl Et)<|Zm<|nl<|?_;have hjd:J 0 wd:=hJ 0 _ _ h0 hxd;have Kd:BelP ok w.heap.size w wd:=BelP.of (kW.tr hxd) (Nat.le_refl _);refine wp_block<|lp (I:=fun m' L w1=>∃(k:Nat)(pre:List Co),k+m'=top.toNat/\H7 own step top.toNat 0=pre++H7 own step m' k/\L 22=.int .i64 (k:Int)/\L 21=.int .i64 top/\L 4=.int .i64 own/\L 0=.func (.yield ll) #[] #[]/\L 1=.pointer (some ⟨bt,0,none⟩)/\L 2=.pointer (some ⟨b3,0,none⟩)/\J pre.length w1/\BelP ok w.heap.size w w1) top.toNat
  ⟨0,[],by simp,rfl,rfl,rfl,rfl,rfl,rfl,rfl,hjd,Kd⟩ ?_
 rintro m' L w1⟨k,pre,hk,hl,l22,l21,l4,l0,l1,l2,hj,hx⟩;refine Zr<|Zv (BN l22 l21)<|nl<|wp_seq<|cnd rfl (fun hc0=>?_) (fun hc0=>?_)
 ·have hc0:(k:Int)<top:=by simpa using hc0
  obtain⟨n,rfl⟩:∃n,m'=n+1:=⟨m'-1,by omega⟩;rw[H7]at hl;have hadd:AP ((k:Int)+1)=((k+1:Nat):Int):=by
   rw[AP,IntWalk.i64_in _ (by omega)]
   rfl
  have d31:=h3.belp hx h3.lt n2;refine wp_skip<|wp_seq<|wp_block<|Zr<|Zv (Ba l22)<|Za<|nl<|wp_seq<|bE (m:=m)<|EK rfl rfl nofun Bw<|EK rfl rfl nofun (Ba l4)<|EK rfl rfl nofun (bH rfl rfl)<|EK rfl rfl nofun (Di rfl rfl)<|EK rfl rfl nofun Bw<|Or.elim (Bool.eq_false_or_eq_true (!decide (band .i64 (k:Int) own=0))) (fun hg=>?_) (fun hg=>?_)
  ·rw[if_pos hg]at hl
   have hus:((H7 own step top.toNat 0).map fun u=>(#[fv u]:Array Value))[pre.length]?=some #[fv (((k:Int),step):Co)]:=by
    rw[List.getElem?_map,hl,List.getElem?_append_right (Nat.le_refl _),Nat.sub_self]
    rfl
   have hz:=hY pre.length _ w1 hus hj;obtain⟨fn,tmps,assign,body,hy,hR⟩:=hz;refine Ju rfl rfl rfl rfl rfl (Md.bt hg)<|EK rfl rfl nofun (Ba l0)<|Ju rfl rfl rfl rfl rfl (Md.bt hg)<|EK rfl rfl nofun Bw<|Ju rfl rfl rfl rfl rfl (Md.bt hg)<|EK rfl rfl nofun (AX l2 AY ((Bx.cs d31).at 0 rfl))<|Ju rfl rfl rfl rfl rfl (Md.bt hg)<|EK rfl rfl nofun (Ki (r:=[.int .i64 (k:Int),.int .i64 step]) LD Y3 (pc rfl (pc rfl pn)) rfl)<|Ju rfl rfl rfl rfl rfl (Md.bt hg)<|bF rfl rfl nofun (V3 rfl (mc rfl mn) hy) hR fun e w5 he=>?_;rcases he with⟨rfl,hj5,k5⟩|⟨rfl,hj5⟩
   ·refine⟨_,rfl,Ju rfl rfl rfl rfl rfl (Md.bt hg)<|EK rfl rfl nofun (Ej rfl)<|EK rfl rfl nofun (EJ rfl hg rfl)<|OM<|cnd rfl (fun h=>by cases h) (fun _=>?_)⟩
    refine wp_skip<|rg<|Zv (BJ l22 rfl)<|Zm<|nl<|lq n (Nat.lt_succ_self _) ⟨k+1,pre++[((k:Int),step)],by omega,by rw[hl,List.append_assoc];rfl,congrArg _ hadd,l21,l4,l0,l1,l2,?_,hx.trans k5⟩;rw[List.length_append];exact hj5
   ·refine⟨_,rfl,Ju rfl rfl rfl rfl rfl (Md.bt hg)<|EK rfl rfl nofun (Ej rfl)<|EK rfl rfl nofun (EJ rfl hg rfl)<|OM<|cnd rfl (fun _=>?_) (fun h=>by cases h)⟩
    exact wp_ret<|rt rfl .nil (.inr hj5)
  ·rw[if_neg (by rw[hg];simp)]at hl
   refine Iz rfl rfl rfl rfl rfl (Ak hg) rfl<|Iz rfl rfl rfl rfl rfl (Ak hg) rfl<|Iz rfl rfl rfl rfl rfl (Ak hg) rfl<|Iz rfl rfl rfl rfl rfl (Ak hg) rfl<|Iz rfl rfl rfl rfl rfl (Ak hg) rfl<|Iz rfl rfl rfl rfl rfl (Ak hg) rfl<|EK rfl rfl nofun (Eb rfl hg rfl)<|OM<|cnd rfl (fun h=>by cases h) (fun _=>?_);refine wp_skip<|rg<|Zv (BJ l22 rfl)<|Zm<|nl<|lq n (Nat.lt_succ_self _) ⟨k+1,pre,by omega,hl,congrArg _ hadd,l21,l4,l0,l1,l2,hj,hx⟩
 ·have hc0:¬(k:Int)<top:=by simpa using hc0
  obtain rfl:m'=0:=by omega
  rw[H7]at hl;refine wp_exit<|NZ rfl .nil (.inl ?_);rw[List.length_map,hl,List.append_nil];exact hj
def StV(lo:Nat)(w:World)(v:Value)(step:Int)(b:Nat):Prop:=∃bt b3,v=.func (.func 308) #[] #[.pointer (some ⟨bt,0,none⟩),.pointer (some ⟨b3,0,none⟩)]/\
 Bx w bt 177 [.pointer (some ⟨b,0,none⟩)]/\Bx w b3 3 [.int .i64 step]/\lo<=bt/\lo<=b3
theorem StV.go{lo:Nat}{w:World}{v:Value}{step:Int}{b ma mu N:Nat}{ok:Nat->Prop}{x:Dy}{l:List Co}(h:StV lo w v step b)(hT:Tb N w b ma mu x)(hok:∀q,q<N->q≠ma->q≠mu->ok q)(hlo:∀q,lo<=q->ok q)(hL:Kr x step=some l)(m:Nat):
  ∃gf cs,v=.func (.func gf) #[] cs/\AU Tryz.prog gf/\IA Tryz.prog (BelP ok w.heap.size) m gf cs (l.map fun u=>#[fv u]) w:=by
 obtain⟨bt,b3,rfl,h2,h3,h5,h6⟩:=h;exact⟨308,_,rfl,gV,dR h2 h3 (hlo _ h5) (hlo _ h6) hT hok hL⟩

end Go.Proofs.YtfmelbioccbdoaaGreat
end
section
namespace Go.Md
open Go Go.RowKit
section
section
variable {P:Program}{Q:Exit->Act->World->Prop}{m n:Nat}{L:Fr}{D:List Deferred}{w:World}
end
end
section
section
variable {κ ν:Type}[DecidableEq κ][Enc κ][Flat κ][Key κ][Enc ν][Flat ν]
def MpS(w:World)(b:Nat)(l:List (κ×ν)):Prop:=
 ∃es clock,w.heap[b]?=some (.map es clock)/\es.toList.map (fun e=>(e.key,e.val))=l.map (fun p=>(fv p.1,fv p.2))/\(l.map (·.1)).Nodup/\(∀p∈l,Key.ok p.1=true)/\
  (es.toList.map (·.born)).Nodup/\∀e∈es.toList,e.born<clock
variable {w w':World}{b:Nat}{l:List (κ×ν)}
omit [DecidableEq κ]in
theorem MpS.mp(h:MpS w b l):Mp w b l:=by
 obtain⟨es,c,h1,h2,h3,h4,_⟩:=h;exact⟨es,c,h1,h2,h3,h4⟩
omit [DecidableEq κ]in
theorem MpS.same(h:MpS w b l)(k:w'.heap[b]?=w.heap[b]?):MpS w' b l:=by
 obtain⟨es,c,h1,h⟩:=h;exact⟨es,c,k.trans h1,h⟩
omit [DecidableEq κ]in
theorem MpS.lt(h:MpS w b l):b<w.heap.size:=by
 obtain⟨es,c,h1,_⟩:=h;exact(Array.getElem?_eq_some_iff.1 h1).1
omit [DecidableEq κ]in
theorem MpS.ext(h:MpS w b l)(k:Ext w w'):MpS w' b l:=h.same (k.block b h.lt)
omit [DecidableEq κ]in
theorem MpS.chg{c:Nat}(h:MpS w b l)(k:Chg c w w')(hne:b≠c):MpS w' b l:=h.same (k.other b hne)
omit [DecidableEq κ]in
theorem MpS.belp{ok:Nat->Prop}{N:Nat}(h:MpS w b l)(k:BelP ok N w w')(hb:b<N)(h1:ok b):MpS w' b l:=h.same (k.block b hb h1)
omit [DecidableEq κ]in
theorem MpS.tak{B:Nat}(h:MpS w b l)(k:Tak B w w'):MpS w' b l:=by
 obtain⟨es,c,h1,h⟩:=h;exact⟨es,c,k.old _ _ h1 nofun,h⟩
omit [DecidableEq κ]in
theorem MpS.asg{B:Nat}(h:MpS w b l)(k:Asg B w w')(hb:b<B):MpS w' b l:=by
 obtain⟨W1,q,o,hl,h1,h2,h3,_,h4⟩:=k;exact(h.ext h1).chg h4 (by omega)
omit [DecidableEq κ]in
theorem Okb.mps{B:Nat}(hb:b<B):Okb B (fun w=>MpS w b l):=⟨fun h k=>h.ext k,fun h hB _ _ k=>h.chg k (by omega)⟩
omit [DecidableEq κ]in
theorem MpS.below{B:Nat}(h:MpS w b l)(k:Below B w w')(hB:b<B):MpS w' b l:=h.same (k.block b hB)
omit [DecidableEq κ]in
theorem MpS.new(w:World):MpS (κ:=κ) (ν:=ν) (w.alloc (.map #[] 0)) w.heap.size []:=
 ⟨#[],0,by show(w.heap.push _)[w.heap.size]?=_;rw[Array.getElem?_push,if_pos rfl],rfl,by simp,by simp,by simp,by simp⟩
end
section
variable {P:Program}{Q:Exit->Act->World->Prop}{n:Nat}{L:Fr}{D:List Deferred}{w:World}{ops:Array Oper}{rest:List Oper}
variable {ty:TypeId}{pos:String}{af:Array Edge}{x y z:Operand}{t tk te:TypeId}
variable {κ ν:Type}[DecidableEq κ][Enc κ][Flat κ][Key κ][Enc ν][Flat ν]
theorem iq{d:Nat}(cont:∀b w',Ext w w'->w.heap.size<=b->MpS (κ:=κ) (ν:=ν) w' b []->wpList P ops Q rest (act n (Br L d (.map (some b))) D) w'):
  wpList P ops Q ({dst:=some d,op:=.makeMap t none,type:=ty,pos:=pos,after:=af,guard:=none}::rest) (act n L D) w:=
 Zv (v:=.map (some w.heap.size)) (w':=w.alloc (.map #[] 0)) (by simp[execOp,RowKit.run_makeMap]) (cont _ _ (Ext.alloc _ _) (Nat.le_refl _) (MpS.new w))
end
end
end Go.Md
end
section
namespace Go.Proofs.YtfmelbioccbdoaaGreat
open Go Go.Md Go.RowKit
attribute [local irreducible] Go.wpList Go.Code.wp Go.Calls Go.Md.Cu Go.Md.Mt Go.Md.Dl Go.Md.Ch Go.Code.wpIn Go.wpListIn

end Go.Proofs.YtfmelbioccbdoaaGreat
end
section
namespace Go.Proofs.YtfmelbioccbdoaaGreat
open Go Go.Md Go.RowKit
attribute [local irreducible] Go.wpList Go.Code.wp Go.Calls Go.Md.Cu Go.Md.Mt Go.Md.Dl Go.Md.Ch Go.Code.wpIn

end Go.Proofs.YtfmelbioccbdoaaGreat
end
section
namespace Go.Proofs.YtfmelbioccbdoaaGreat
open Go Go.Md Go.RowKit
attribute [local irreducible] Go.wpList Go.Code.wp Go.Calls Go.Md.Cu Go.Md.Mt Go.Md.Dl Go.Md.Ch Go.Code.wpIn Go.wpListIn
theorem TbN.get{M:Nat}{w:World}{v:Value}{x:Ob Dy}(h:TbN M w v x):∃y b ma mu,x=⟨some y⟩/\v=.pointer (some ⟨b,0,none⟩)/\Tb w.heap.size w b ma mu y/\Mp (κ:=Co) (ν:=Int) w ma []/\Mp (κ:=Co) (ν:=Int) w mu []/\M<=ma/\M<=mu:=by
 obtain⟨y,b,ma,mu,rfl,hP⟩:=h;have h1:=hP.tb;obtain⟨_,_,_,_,_,_,_,h2,h3⟩:=hP;exact⟨y,b,ma,mu,rfl,h1.1,h1.2.1,h1.2.2.1,h1.2.2.2,h2,h3⟩

end Go.Proofs.YtfmelbioccbdoaaGreat
end
section
namespace Go.Md
open Go Go.RowKit
section
section
variable {κ ν:Type}[DecidableEq κ][Enc κ][Flat κ][Key κ][Enc ν][Flat ν]
def Rg(w:World)(r b:Nat)(l:List (κ×ν))(lf:κ->Bool):Prop:=
 ∃es clock seen,w.heap[r]?=some (.mapIter (some b) clock seen clock)/\w.heap[b]?=some (.map es clock)/\es.toList.map (fun e=>(e.key,e.val))=l.map (fun p=>(fv p.1,fv p.2))/\(l.map (·.1)).Nodup/\(∀p∈l,Key.ok p.1=true)/\
  (es.toList.map (·.born)).Nodup/\(∀e∈es.toList,e.born<clock)/\∀(i:Nat)(e:MapEntry)(p:κ×ν),es.toList[i]?=some e->l[i]?=some p->seen.contains e.born=!lf p.1
variable {w w':World}{r b:Nat}{l:List (κ×ν)}{lf:κ->Bool}
omit [DecidableEq κ]in
theorem Rg.mps(h:Rg w r b l lf):MpS w b l:=by
 obtain⟨es,c,s,_,h2,h3,h4,h5,h6,h7,_⟩:=h;exact⟨es,c,h2,h3,h4,h5,h6,h7⟩
omit [DecidableEq κ]in
theorem Rg.same(h:Rg w r b l lf)(k1:w'.heap[r]?=w.heap[r]?)(k2:w'.heap[b]?=w.heap[b]?):Rg w' r b l lf:=by
 obtain⟨es,c,s,h1,h2,h⟩:=h;exact⟨es,c,s,k1.trans h1,k2.trans h2,h⟩
omit [DecidableEq κ]in
theorem Rg.ltr(h:Rg w r b l lf):r<w.heap.size:=by
 obtain⟨es,c,s,h1,_⟩:=h;exact(Array.getElem?_eq_some_iff.1 h1).1
omit [DecidableEq κ]in
theorem Rg.ext(h:Rg w r b l lf)(k:Ext w w'):Rg w' r b l lf:=h.same (k.block r h.ltr) (k.block b h.mps.lt)
omit [DecidableEq κ]in
theorem Rg.chg{c:Nat}(h:Rg w r b l lf)(k:Chg c w w')(h1:r≠c)(h2:b≠c):Rg w' r b l lf:=h.same (k.other r h1) (k.other b h2)
omit [DecidableEq κ]in
theorem Rg.new(h:MpS w b l):Rg (w.alloc (.mapIter (some b) ((match w.heap[b]? with|some (.map _ c)=>c|_=>0)) #[] (match w.heap[b]? with|some (.map _ c)=>c|_=>0))) w.heap.size b l (fun _=>true):=by
 obtain⟨es,c,h1,h2,h3,h4,h5,h6⟩:=h;rw[h1];refine⟨es,c,#[],heap_alloc_new _ _,?_,h2,h3,h4,h5,h6,fun i e p _ _=>by simp⟩;rw[heap_alloc_old _ _ (Array.getElem?_eq_some_iff.1 h1).1];exact h1
theorem Rg.next{P:Program}{ty:TypeId}(h:Rg w r b l lf):
  ((∀p∈l,lf p.1=false)/\(Instr.next (.pointer (some ⟨r,0,none⟩)) false ty).run P w=.ok (.tuple #[.bool false]) w)\/
  ∃p w',p∈l/\lf p.1=true/\(Instr.next (.pointer (some ⟨r,0,none⟩)) false ty).run P w=.ok (.tuple #[.bool true,fv p.1,fv p.2]) w'/\BelP (fun q=>q≠r) w.heap.size w w'/\w'.heap.size=w.heap.size/\
   (Instr.entry (.pointer (some ⟨r,0,none⟩))).run P w'=.ok (.tuple #[fv p.1,fv p.2]) w'/\Rg w' r b l (fun k=>lf k&& !decide (k=p.1)):=by
 obtain⟨es,c,seen,h1,h2,h3,h4,h5,h6,h7,h8⟩:=h;have hlen:es.toList.length=l.length:=by have:=congrArg List.length h3;simpa using this
 have hrb:r≠b:=by rintro rfl;rw[h1]at h2;cases h2
 rcases run_next_at (P:=P) w ty r b c c seen es c h1 h2 h7 (Nat.le_refl _)with⟨g1,g2⟩|⟨e,he,w1,hw1,g2⟩
 ·refine .inl ⟨fun p hp=>?_,g2⟩
  obtain⟨i,hi,rfl⟩:=List.getElem_of_mem hp;have hi':i<es.toList.length:=by omega
  have:=h8 i es.toList[i] l[i] (List.getElem?_eq_getElem hi') (List.getElem?_eq_getElem hi);cases hlf:lf l[i].1 with
  |false=>rfl
  |true=>
   rw[hlf]at this;have hm:es.toList[i]∈(leftOf es seen).toList:=by
    unfold leftOf;simp only[Array.toList_filter,List.mem_filter];exact⟨List.getElem_mem _,by rw[this];rfl⟩
   have h0:(leftOf es seen).toList=[]:=by
    apply List.eq_nil_of_length_eq_zero;simpa using g1
   rw[h0]at hm;cases hm
 ·have hm:e∈es.toList/\seen.contains e.born=false:=by
   unfold leftOf at he;simp only[Array.toList_filter,List.mem_filter]at he;exact⟨he.1,by simpa using he.2⟩
  obtain⟨i,hi,rfl⟩:=List.getElem_of_mem hm.1;have hil:i<l.length:=by omega
  obtain⟨p,hp,e1,e2⟩:=Qn h3 (List.getElem?_eq_getElem hi);have hlf:=h8 i _ p (List.getElem?_eq_getElem hi) hp;rw[hm.2]at hlf;have hlt:lf p.1=true:=by
   cases h:lf p.1 with
   |true=>rfl
   |false=>rw[h]at hlf;cases hlf
  have hr1:w1.heap[r]?=some (.mapIter (some b) c seen c):=by rcases hw1 with rfl|rfl<;>exact h1
  have hb1:w1.heap[b]?=some (.map es c):=by rcases hw1 with rfl|rfl<;>exact h2
  have hrl:r<w1.heap.size:=(Array.getElem?_eq_some_iff.1 hr1).1;have hset:(ChangeMaps.setBlock w1 r (.mapIter (some b) c (seen.push es.toList[i].born) c)).heap[r]?=some (.mapIter (some b) c (seen.push es.toList[i].born) c):=by
   simp[ChangeMaps.setBlock,hrl]
  have hoth:∀q,q≠r->(ChangeMaps.setBlock w1 r (.mapIter (some b) c (seen.push es.toList[i].born) c)).heap[q]?=w.heap[q]?:=fun q hq=>by
   have:(ChangeMaps.setBlock w1 r (.mapIter (some b) c (seen.push es.toList[i].born) c)).heap[q]?=w1.heap[q]?:=by
    simp only[ChangeMaps.setBlock];rw[Array.getElem?_setIfInBounds_ne (Ne.symm hq)]
   rw[this];rcases hw1 with rfl|rfl<;>rfl
  have hsz:(ChangeMaps.setBlock w1 r (.mapIter (some b) c (seen.push es.toList[i].born) c)).heap.size=w.heap.size:=by
   simp only[ChangeMaps.setBlock,Array.size_setIfInBounds];rcases hw1 with rfl|rfl<;>rfl
  refine .inr ⟨p,_,List.mem_of_getElem? hp,hlt,by rw[<-e1,<-e2];exact g2,⟨?_,?_,?_,by rw[hsz];exact Nat.le_refl _,fun q _ hq=>hoth q hq⟩,hsz,?_,?_⟩
  ·rcases hw1 with rfl|rfl<;>rfl
  ·rcases hw1 with rfl|rfl<;>rfl
  ·rcases hw1 with rfl|rfl<;>rfl
  ·rw[<-e1,<-e2]
   exact run_entry_at _ r b c seen es c _ hset ((hoth b (Ne.symm hrb)).trans h2) hm.1 h6
  ·refine⟨es,c,_,hset,(hoth b (Ne.symm hrb)).trans h2,h3,h4,h5,h6,h7,fun j e p2 he2 hp2=>?_⟩
   have hj:=h8 j e p2 he2 hp2;by_cases hij:j=i
   ·subst hij
    rw[List.getElem?_eq_getElem hi]at he2;cases he2;rw[hp]at hp2;cases hp2;simp
   ·have hne:e.born≠es.toList[i].born:=fun eb=>by
     have h9:=List.pairwise_iff_getElem.1 h6;have hjl:j<es.toList.length:=(List.getElem?_eq_some_iff.1 he2).1;have he3:es.toList[j]=e:=by rw[List.getElem?_eq_getElem hjl]at he2;exact Option.some.inj he2
     rcases Nat.lt_or_gt_of_ne hij with h|h
     ·have:=h9 j i (by simpa using hjl) (by simpa using hi) h
      simp only[List.getElem_map]at this;rw[he3]at this;exact this eb
     ·have:=h9 i j (by simpa using hi) (by simpa using hjl) h
      simp only[List.getElem_map]at this;rw[he3]at this;exact this eb.symm
    have hnk:p2.1≠p.1:=fun ek=>by
     have h9:=List.pairwise_iff_getElem.1 h4;have hjl:j<l.length:=(List.getElem?_eq_some_iff.1 hp2).1;have hp3:l[j]=p2:=by rw[List.getElem?_eq_getElem hjl]at hp2;exact Option.some.inj hp2
     have hp4:l[i]=p:=by rw[List.getElem?_eq_getElem hil]at hp;exact Option.some.inj hp
     rcases Nat.lt_or_gt_of_ne hij with h|h
     ·have:=h9 j i (by simpa using hjl) (by simpa using hil) h
      simp only[List.getElem_map]at this;rw[hp3,hp4]at this;exact this ek
     ·have:=h9 i j (by simpa using hil) (by simpa using hjl) h
      simp only[List.getElem_map]at this;rw[hp3,hp4]at this;exact this ek.symm
    have:(seen.push es.toList[i].born).contains e.born=seen.contains e.born:=by
     have hb1:(e.born==es.toList[i].born)=false:=by simpa using hne
     have hb2:(es.toList[i].born==e.born)=false:=by simpa using Ne.symm hne
     rw[Array.contains_push];simp only[hb1,hb2,Bool.or_false,Bool.false_or]
    rw[this,hj];simp[hnk]
theorem Rg.del{P:Program}{t tk te ty:TypeId}{k:κ}(ht:P.underlying t=some (.map tk te))(K:KT P tk κ)(h:Rg w r b l lf)(hk:Key.ok k=true):
  ∃w',(Builtin.delete_ #[t,tk] ty #[.map (some b),fv k]).run P w=.ok (.tuple #[]) w'/\Chg b w w'/\Rg w' r b (Dq l k) lf:=by
 obtain⟨es,c,seen,h1,hb,he,hn,hok,hs,hc,h8⟩:=h;have hrb:r≠b:=by rintro rfl;rw[h1]at hb;cases hb
 obtain⟨lk,hlk⟩:=K.of k hk;have hok':∀p∈Dq l k,Key.ok p.1=true:=fun p hp=>hok p (Nt hp);rcases Mp.find K he hok hk w with⟨g1,g2⟩|⟨j,u,g1,g2,e,g3,g4⟩
 ·obtain⟨h5,h6⟩:=ND (w:=w) (o:=.map es c) hb
  refine⟨_,?_,h5,es,c,seen,(h5.other r hrb).trans h1,h6,?_⟩
  ·simp[Builtin.delete_,run_underlying ht,MapKept.run_getObj_map hb,K.kd.check w _ hlk,g1,MapKept.run_setObj_map _ hb,Result.andThen,ChangeMaps.setBlock]
  ·by_cases hl:l=[]
   ·subst hl
    exact⟨he,by simp[Dq],by simp[Dq],hs,hc,fun i e p _ hp=>by simp[Dq]at hp⟩
   ·obtain⟨p,hp⟩:=List.exists_mem_of_ne_nil l hl
    have hm:Dq l k=l:=(Ky (d:=p.2) g2).2.2.2;rw[hm];exact⟨he,hn,hok,hs,hc,h8⟩
 ·obtain⟨h5,h6⟩:=ND (w:=w) (o:=.map (es.eraseIdxIfInBounds j) c) hb
  have hjs:j<es.size:=(Array.getElem?_eq_some_iff.1 g3).1;have hsub:(es.eraseIdxIfInBounds j).toList=es.toList.eraseIdx j:=by
   unfold Array.eraseIdxIfInBounds;rw[dif_pos hjs];simp
  have hm:Dq l k=l.eraseIdx j:=(NC (d:=u) hn g2).2.2.2;refine⟨_,?_,h5,_,c,seen,(h5.other r hrb).trans h1,h6,?_,OL hn,hok',?_,?_,?_⟩
  ·simp[Builtin.delete_,run_underlying ht,MapKept.run_getObj_map hb,K.kd.check w _ hlk,g1,MapKept.run_setObj_map _ hb,Result.andThen,ChangeMaps.setBlock]
  ·rw[hm,hsub,ChangeMaps.map_eraseIdx,he,ChangeMaps.map_eraseIdx]
  ·rw[hsub,ChangeMaps.map_eraseIdx]
   exact hs.sublist (List.eraseIdx_sublist _ _)
  ·intro e he2
   rw[hsub]at he2;exact hc e (List.mem_of_mem_eraseIdx he2)
  ·intro i e p he2 hp2
   rw[hsub,List.getElem?_eraseIdx]at he2;rw[hm,List.getElem?_eraseIdx]at hp2;split at he2
   ·rename_i h;rw[if_pos h]at hp2;exact h8 i e p he2 hp2
   ·rename_i h;rw[if_neg h]at hp2;exact h8 (i+1) e p he2 hp2
theorem Nn{k:κ}:∀{l:List (κ×ν)},(l.map (·.1)).Nodup->Dq l k=l.filter (fun p=>!decide (p.1=k))
 |[],_=>rfl
 |(a,c)::l,h=>by
  simp only[List.map_cons,List.nodup_cons]at h;by_cases e:a=k
  ·subst e
   have:l.filter (fun p=>!decide (p.1=a))=l:=List.filter_eq_self.2 fun p hp=>by
    have:p.1≠a:=fun e=>h.1 (List.mem_map.2 ⟨p,hp,e⟩);simp[this]
   simp[Dq,this]
  ·simp[Dq,e,Nn h.2]
end
section
variable {P:Program}{Q:Exit->Act->World->Prop}{n:Nat}{L:Fr}{D:List Deferred}{w:World}{ops:Array Oper}{rest:List Oper}
variable {ty:TypeId}{pos:String}{af:Array Edge}{x y:Operand}{t tk te:TypeId}
variable {κ ν:Type}[DecidableEq κ][Enc κ][Flat κ][Key κ][Enc ν][Flat ν]
omit [DecidableEq κ]in
theorem lJ{d b:Nat}{l:List (κ×ν)}(hx:ev n L x=.map (some b))(ht:P.underlying t=some (.map tk te))(h:MpS w b l)
  (cont:∀r w',Ext w w'->w.heap.size<=r->Rg w' r b l (fun _=>true)->wpList P ops Q rest (act n (Br L d (.pointer (some ⟨r,0,none⟩))) D) w'):
  wpList P ops Q ({dst:=some d,op:=.range t x,type:=ty,pos:=pos,after:=af,guard:=none}::rest) (act n L D) w:=by
 have hR:=Rg.new h;obtain⟨es,c,h1,_⟩:=h;rw[h1]at hR;exact Zv (by simp[execOp,hx,run_range_map w t tk te b es c ht h1]) (cont _ _ (Ext.alloc _ _) (Nat.le_refl _) hR)
theorem lK{d r b:Nat}{l:List (κ×ν)}{lf:κ->Bool}(hx:ev n L x=.pointer (some ⟨r,0,none⟩))(h:Rg w r b l lf)
  (h0:(∀p∈l,lf p.1=false)->wpList P ops Q rest (act n (Br L d (.tuple #[.bool false])) D) w)
  (h1:∀p w',p∈l->lf p.1=true->BelP (fun q=>q≠r) w.heap.size w w'->w'.heap.size=w.heap.size->(Instr.entry (.pointer (some ⟨r,0,none⟩))).run P w'=.ok (.tuple #[fv p.1,fv p.2]) w'->Rg w' r b l (fun k=>lf k&& !decide (k=p.1))->
   wpList P ops Q rest (act n (Br L d (.tuple #[.bool true,fv p.1,fv p.2])) D) w'):
  wpList P ops Q ({dst:=some d,op:=.next x false,type:=ty,pos:=pos,after:=af,guard:=none}::rest) (act n L D) w:=by
 rcases h.next (P:=P) (ty:=ty)with⟨g1,g2⟩|⟨p,w',g1,g2,g3,g4,g5,g6,g7⟩
 ·exact Zv (by simp[execOp,hx,g2]) (h0 g1)
 ·exact Zv (by simp[execOp,hx,g3]) (h1 p w' g1 g2 g4 g5 g6 g7)
omit [DecidableEq κ] [Key κ]in
theorem lN{d r:Nat}{k:κ}{v:ν}(hx:ev n L x=.pointer (some ⟨r,0,none⟩))(h:(Instr.entry (.pointer (some ⟨r,0,none⟩))).run P w=.ok (.tuple #[fv k,fv v]) w):
  (execOp (ev n L) {dst:=some d,op:=.entry x,type:=ty,pos:=pos,after:=af,guard:=none}).run P w=.ok (.value (.tuple #[fv k,fv v])) w:=by
 simp[execOp,hx,h]
theorem iw{r b:Nat}{l:List (κ×ν)}{lf:κ->Bool}{k:κ}(hx:ev n L x=.map (some b))(hy:ev n L y=fv k)(ht:P.underlying t=some (.map tk te))(K:KT P tk κ)(h:Rg w r b l lf)(hk:Key.ok k=true)
  (cont:∀w',Chg b w w'->Rg w' r b (Dq l k) lf->wpList P ops Q rest (act n L D) w'):
  wpList P ops Q ({dst:=none,op:=.call {callee:=.builtin .delete,args:=#[x,y],argTypes:=#[t,tk]},type:=ty,pos:=pos,after:=af,guard:=none}::rest) (act n L D) w:=by
 obtain⟨w',hr,h1,h2⟩:=h.del (P:=P) (ty:=ty) ht K hk;refine wpList_plain rfl fun K hK=>?_;simp only[Oper.wp,Ep,execOp,resolve,invoke,Go.builtin,List.map_toArray,List.map_cons,List.map_nil,hx,hy,Sem.run_bind,Sem.run_pure,hr,Result.andThen,Oper.upon];exact hK _ _ (cont w' h1 h2)
end
end
end Go.Md
end
section
namespace Go.Proofs.YtfmelbioccbdoaaGreat
open Go Go.Md Go.RowKit
attribute [local irreducible] Go.wpList Go.Code.wp Go.Calls Go.Md.Cu Go.Md.Mt Go.Md.Dl Go.Md.Ch Go.Code.wpIn Go.wpListIn
theorem Tb.below{N B:Nat}{w w1:World}{b ma mu:Nat}{x:Dy}(h:Tb N w b ma mu x)(k:Below B w w1)(hB:N<=B):Tb N w1 b ma mu x:=
 h.belp (ok:=fun _=>True) (M:=B) ⟨k.os,k.tape,k.output,k.size,fun q hq _=>k.block q hq⟩ hB (fun _ _ _ _=>trivial)

end Go.Proofs.YtfmelbioccbdoaaGreat
end
section
namespace Go.Proofs.YtfmelbioccbdoaaGreat
open Go Go.Md Go.RowKit

end Go.Proofs.YtfmelbioccbdoaaGreat
end
