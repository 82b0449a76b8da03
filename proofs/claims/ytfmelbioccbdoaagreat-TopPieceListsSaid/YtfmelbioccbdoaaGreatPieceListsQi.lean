/-
  Part 9 of 10 of what the last text stands on: lemmas about the model, pure functions, walks, laws in plain Lean; each part's own head says its condition. Merged by a program of our own.
-/
import Derived.Test.YtfmelbioccbdoaaGreatPieceListsQh
import Derived.Scope
import Derived.IntWalk
import Derived.KernelRfl
set_option maxHeartbeats 0
set_option linter.all false
section
namespace Go.Proofs.YtfmelbioccbdoaaGreat
open Go Go.Md Go.RowKit
theorem bC{f:FuncId}(h:∀w,Calls Tryz.prog f #[] w fun e w'=>e=.returned (.bool true)/\Below w.heap.size w w'){w0:World}{r:Bool}(hr:some true=some r):
  Calls Tryz.prog f [].toArray w0 (A8 fun v w'=>v=.bool r/\Ext w0 w'):=by
 cases hr;exact(h w0).mono fun e w' h=>⟨_,h.1,rfl,h.2⟩
def OY(_:Nat):Option Bool:=some true
theorem nT{w0:World}{F:Nat}{r:Bool}(hF:OY F=some r):Calls Tryz.prog 135 [].toArray w0 (A8 fun v w'=>v=.bool r/\Ext w0 w'):=bC jW hF
def Hu(F:Nat):Option Bool:=
 (MQ F)>>=fun x1=>
 (gd x1 (OW F) false)>>=fun x2=>
 (gd (x1&&x2) (OY F) false)>>=fun x3=>
 some ((x1&&x2)&&x3)
end Go.Proofs.YtfmelbioccbdoaaGreat
end
section
namespace Go.Proofs.YtfmelbioccbdoaaGreat
open Go Go.Md Go.RowKit
attribute [local irreducible] Go.wpList Go.Code.wp Go.Calls Go.Md.C9 Go.Md.Mt Go.Md.Dz Go.Md.CW Go.Code.wpIn
theorem rQ{w0:World}{x0:Int}{b1:Nat}{cs1:List Value}{x1:Int}(h1:Cs w0 b1 0 cs1)(q1:Enc.rep (fun _=>True) w0 cs1 x1){b2:Nat}{cs2:List Value}{x2:Int}(h2:Cs w0 b2 0 cs2)(q2:Enc.rep (fun _=>True) w0 cs2 x2){r:Bool}(hF:Iu x0 x1 x2=some r):
  Calls Tryz.prog 315 [.int .i64 x0,.pointer (some ⟨b1,0,none⟩),.pointer (some ⟨b2,0,none⟩)].toArray w0 (A8 fun v w'=>v=.bool r/\Ext w0 w'):=by
 unfold Iu at hF;obtain rfl:=q1;obtain rfl:=q2;refine A9 (n:=13) Tryz.func315 rfl rfl rfl<|Zr<|Za<|nl<|Zr<|Zm<|Zv (AQ rfl AY (h1.at 0 rfl))<|Zv (BU rfl rfl)<|Zm<|Zg rfl rfl (Aq rfl) (fun hc=>BM rfl)<|Zg rfl rfl (Aq rfl) (fun hc=>AQ rfl AY (h2.at 0 rfl))<|Zg rfl rfl (Aq rfl) (fun hc=>IC (mv hc rfl) (mv hc rfl))<|Zv (Gh rfl rfl rfl)<|Za<|nl<|?_;cases hF;exact wp_ret<|Zw rfl rfl rfl ⟨rfl,(Ext.refl _)⟩
theorem Xw{w0:World}{x0:Int}{x1:Int}{v2:Value}{x2:(List Int)}(r2:RV w0 v2 x2){F:Nat}{r:Bool}(hF:ES F x0 x1 x2=some r):
  Calls Tryz.prog 243 [.int .i64 x0,.int .i64 x1,v2].toArray w0 (A8 fun v w'=>v=.bool r/\Ext w0 w'):=by
 unfold ES at hF;have hz:=r2.sl;obtain⟨a1,cq1,rfl,-,-,-⟩:=hz;refine A9 (n:=11) Tryz.func243 rfl rfl rfl<|Zr<|CO rfl rfl fun b4 w1 hx1 hg1 hb1=>?_;have r4:=r2.ext hx1;refine CO rfl rfl fun b5 w2 hx2 hg2 hb2=>?_;have k1:=hx1.tr hx2;have hb3:=hb1.ext hx2;have r5:=r4.ext hx2;refine Za<|nl<|Zr<|Zm<|Zv (Lj mn (mc rfl (mc rfl mn)))<|bS hF fun x4 Ex4 hF=>Zc (xc cO (mc rfl (mc rfl mn))) (iH r5 ⟨315,[],[.pointer (some ⟨b4,0,none⟩),.pointer (some ⟨b5,0,none⟩)],rfl,mJ,fun w' u x b hk hu hp=>by cases RVo.int.1 hu;exact rQ (Bx.cs (hb3.ext hk)) rfl (Bx.cs (hb2.ext hk)) rfl hp⟩ Ex4) ?_;rintro _ w3⟨rfl,hx3⟩;have k2:=k1.tr hx3;refine Zv (EK rfl)<|Za<|nl<|?_;cases hF;exact wp_ret<|Zw rfl rfl rfl ⟨rfl,k2⟩
theorem jX{w0:World}{v0:Value}{x0:(List Int)}(r0:RV w0 v0 x0){x1:Int}{F:Nat}{r:Bool}(hF:Gd F x0 x1=some r):
  Calls Tryz.prog 143 [v0,.int .i64 x1].toArray w0 (A8 fun v w'=>v=.bool r/\Ext w0 w'):=by
 unfold Gd at hF;have hz:=r0.sl;obtain⟨a1,cq1,rfl,-,-,-⟩:=hz;refine A9 (n:=34) Tryz.func143 rfl rfl rfl<|Zr<|Za<|nl<|wp_seq<|Zr<|Zm<|Zv (BV rfl Tryz.underlying41)<|Zm<|nl<|bS hF fun o1 hB1 hF=>ct (fun L w=>o1=.inr ()/\Ext w0 w) ?_ ?_
 ·refine wp_block<|lp (I:=fun m L w=>∃y1:Int,Ew F x0 x1 m y1=some o1/\L 9=.int .i64 y1/\L 0=.slice a1 x0.length cq1/\L 1=.int .i64 x1/\L 7=.slice a1 x0.length cq1/\L 8=.int .i64 (x0.length:Int)/\Ext w0 w) F ⟨_,hB1,rfl,rfl,rfl,rfl,rfl,(Ext.refl _)⟩ ?_;rintro m L w1⟨y1,hB1,l9_i1,l0_i1,l1_i1,l7_i1,l8_i1,K0_i1⟩;rcases m with _|m
  ·rw[Ew]at hB1;cases hB1
  rw[Ew]at hB1;refine Zr<|Zv (BU l9_i1 l8_i1)<|nl<|wp_seq<|cnd rfl (fun h3=>?_) (fun h3=>?_)
  ·have hB1:=Ah hB1 h3;refine wp_skip<|wp_seq<|wp_block<|Zr<|Zm<|bS hB1 fun x3 Ex3 hB1=>?_;have hz:=(RV.els r0).ix Ex3;obtain⟨b3,f1,cs3,e1,i2,i3,q3,hc1⟩:=hz;cases e1;obtain rfl:=q3;have hc2:=hc1.ext K0_i1;refine Zv (BG l7_i1 l9_i1 Tryz.underlying41 AY i2 i3)<|Zv (AQ rfl AY (hc2.at 0 rfl))<|Za<|Za<|nl<|wp_seq<|bS hB1 fun y2 hB3 hB1=>ct (fun L w=>L 32=.bool y2/\L 0=.slice (some ⟨b3,f1,none⟩) x0.length cq1/\L 1=.int .i64 x1/\L 7=.slice (some ⟨b3,f1,none⟩) x0.length cq1/\L 8=.int .i64 (x0.length:Int)/\L 9=.int .i64 y1/\Ext w1 w) ?_ ?_
   ·refine rg<|Zm<|Zv (F5 l1_i1 rfl)<|Zm<|Gb (cs:=[.int .i64 x3]) Tryz.underlying41 AY rfl (pc rfl pn) rfl rfl rfl rfl rfl fun b5 w4 hx3 hg2 hb2=>?_;have k4:=K0_i1.tr hx3;have o3:Row (α:=Int) 3 w1.heap.size w4 (.slice (some ⟨b5,0,none⟩) 1 1) [x3]:=Row.lit hg2 hb2 rfl (ble rfl);refine bS hB3 fun x5 Ex5 hB3=>Zc (xc Sb (mc rfl (mc rfl (mc rfl mn)))) (Xw o3.rv Ex5) ?_;rintro _ w5⟨rfl,hx4⟩;have k5:=k4.tr hx4;have k6:=hx3.tr hx4;refine Zv (EK rfl)<|Zm<|Or.elim (Bool.eq_false_or_eq_true (!x5)) (fun h4=>?_) (fun h4=>?_)
    ·have hB3:=Ah hB3 h4;refine Gk rfl (CY h4)<|Gk rfl (CY h4)<|Gk rfl (CY h4)<|Gk rfl bu<|Gk rfl bu<|Gk rfl bu<|Gk rfl bu<|Gk rfl bu<|Gk rfl bu<|Gk rfl bu<|Gk rfl (CY h4)<|Zv (DU rfl h4 rfl)<|nl<|?_;cases hB3;refine lf<|?_;exact⟨rfl,l0_i1,l1_i1,l7_i1,l8_i1,l9_i1,k6⟩
    ·have hB3:=Ai hB3 h4;refine Gt rfl (bf h4)<|Zm<|Gt rfl (bf h4)<|Zv (IC l9_i1 rfl)<|Gt rfl (bf h4)<|Zm<|Or.elim (Bool.eq_false_or_eq_true (decide (0<y1))) (fun h5=>?_) (fun h5=>?_)
     ·have hB3:=Ah hB3 h5;refine Gt rfl (bt h5)<|Zm<|Gt rfl (bt h5)<|Zm<|Gt rfl (bt h5)<|Zm<|Gt rfl (bt h5)<|Zv (F5 l9_i1 rfl)<|bS hB3 fun x6 Ex6 hB3=>?_;have hz:=JB r0 Ex6;obtain⟨cs4,i4,i5,q4,hc3⟩:=hz;obtain rfl:=q4;have hc4:=hc3.ext k5;refine Gt rfl (bt h5)<|Zv (BG l0_i1 rfl Tryz.underlying41 AY i4 i5)<|Gt rfl (bt h5)<|Zv (AQ rfl AY (hc4.at 0 rfl))<|Gt rfl (bt h5)<|Zv (Kk rfl rfl)<|Gt rfl (bf h4)<|Zv (DU rfl h5 rfl)<|Zv (EW rfl h4 rfl)<|nl<|?_;cases hB3;refine lf<|?_;exact⟨rfl,l0_i1,l1_i1,l7_i1,l8_i1,l9_i1,k6⟩
     ·have hB3:=Ai hB3 h5;refine Gk rfl (AZ h5)<|Gk rfl (AZ h5)<|Gk rfl (AZ h5)<|Gk rfl (AZ h5)<|Gk rfl (AZ h5)<|Gk rfl (AZ h5)<|Gk rfl (AZ h5)<|Gt rfl (bf h4)<|Zv (EW rfl h5 rfl)<|Zv (EW rfl h4 rfl)<|nl<|?_;cases hB3;refine lf<|?_;exact⟨rfl,l0_i1,l1_i1,l7_i1,l8_i1,l9_i1,k6⟩
   rintro L w6⟨l32_j1,l0_j1,l1_j1,l7_j1,l8_j1,l9_j1,K0_j1⟩;have k7:=K0_i1.tr K0_j1;refine cnd l32_j1 (fun h6=>?_) (fun h6=>?_)
   ·have hB1:=Ah hB1 h6;refine Zr<|Za<|nl<|?_;cases hB1;have hF:=(show some _=some _ from hF);cases hF;exact wp_ret<|Zw rfl rfl rfl ⟨rfl,k7⟩
   ·have hB1:=Ai hB1 h6;refine wp_skip<|rg<|Zv (Bg l9_j1 rfl)<|Zm<|nl<|lq m (Nat.lt_succ_self _)<|?_;exact⟨_,hB1,rfl,l0_j1,l1_j1,l7_j1,l8_j1,k7⟩
  ·have hB1:=Ai hB1 h3;refine wp_exit<|?_;cases hB1;refine lf<|?_;exact⟨rfl,K0_i1⟩
 rintro L w7⟨rfl,K0_j2⟩;refine Zr<|Za<|nl<|?_;cases hF;exact wp_ret<|Zw rfl rfl rfl ⟨rfl,K0_j2⟩
theorem jY{w0:World}{v0:Value}{x0:(Int×Int×(List (Int×Int))×(List Int))}(r0:RV w0 v0 x0){v1:Value}{x1:(List Int)}(r1:RV w0 v1 x1){F:Nat}{r:Bool}(hF:Gf F x0 x1=some r):
  Calls Tryz.prog 145 [v0,v1].toArray w0 (A8 fun v w'=>v=.bool r/\Ext w0 w'):=by
 unfold Gf at hF;have hz:=id r0;obtain⟨_,rfl,_,_,rfl,rfl,_,_,rfl,rfl,_,_,rfl,⟨a1,cq1,rfl,p1,q3,e1⟩,a2,cq2,rfl,p2,q4,e2⟩:=hz;have r3:=RV.of1 p1 q3 e1;have hz:=r1.sl;obtain⟨a3,cq3,rfl,-,-,-⟩:=hz;refine A9 (n:=38) Tryz.func145 rfl rfl rfl<|Zr<|CO rfl rfl fun b3 w1 hx1 hg1 hb1=>Za<|nl<|Zr<|D9 Iq fun b4 w2 hx2 hg2 hb2=>?_;have hb4:Bx w2 b4 238 (List.flatMap Flat.enc ((Ar.fill 12 0:(Ar 12 Int))).l):=hb2;refine D9 Iq fun b5 w3 hx3 hg3 hb5=>?_;have k3:=hx2.tr hx3;have hb7:=hb4.ext hx3;have hb8:Bx w3 b5 238 (List.flatMap Flat.enc ((Ar.fill 12 0:(Ar 12 Int))).l):=hb5;refine nl<|wp_seq<|Zr<|Zm<|Zv (BV rfl Tryz.underlying41)<|Zm<|nl<|bS hF fun o1 hB1 hF=>ct (fun L w=>o1=.inr ()/\Ext w1 w) ?_ ?_
 ·refine wp_block<|lp (I:=fun m L w=>∃y1:Int,∃y2:(Ar 12 Int),∃y3:(Ar 12 Int),FB F x0 x1 m y1 y2 y3=some o1/\L 12=.int .i64 y1/\Bx w b4 238 (List.flatMap Flat.enc y2.l)/\Bx w b5 238 (List.flatMap Flat.enc y3.l)/\L 2=.pointer (some ⟨b3,0,none⟩)/\L 5=.pointer (some ⟨b4,0,none⟩)/\L 6=.pointer (some ⟨b5,0,none⟩)/\L 10=.slice a3 x1.length cq3/\L 11=.int .i64 (x1.length:Int)/\Ext w1 w) F ⟨_,_,_,hB1,rfl,hb7,hb8,rfl,rfl,rfl,rfl,rfl,k3⟩ ?_;rintro m L w4⟨y1,y2,y3,hB1,l12_i1,B5_i1,B6_i1,l2_i1,l5_i1,l6_i1,l10_i1,l11_i1,K0_i1⟩;rcases m with _|m
  ·rw[FB]at hB1;cases hB1
  rw[FB]at hB1;have k4:=hx1.tr K0_i1;have hb9:=hb1.ext K0_i1;refine Zr<|Zv (BU l12_i1 l11_i1)<|nl<|wp_seq<|cnd rfl (fun h3=>?_) (fun h3=>?_)
  ·have hB1:=Ah hB1 h3;refine wp_skip<|wp_seq<|wp_block<|Zr<|bS hB1 fun x3 Ex3 hB1=>?_;have hz:=(RV.els r1).ix Ex3;obtain⟨b6,f1,cs3,e3,i2,i3,q5,hc1⟩:=hz;cases e3;obtain rfl:=q5;have hc2:=hc1.ext k4;refine Zv (BG l10_i1 l12_i1 Tryz.underlying41 AY i2 i3)<|Zv (AQ rfl AY (hc2.at 0 rfl))<|Za<|nl<|Zr<|Zv (AV l2_i1 Br)<|Zv (AQ rfl DV ((Bx.cs hb9).at 2 rfl))<|Zm<|bS hB1 fun x4 Ex4 hB1=>?_;have hz:=(RV.els r3).ix Ex4;obtain⟨b7,f2,cs4,e4,i4,i5,q6,hc3⟩:=hz;cases e4;obtain⟨_,_,rfl,rfl,rfl⟩:=q6;have hc4:=hc3.ext k4;refine Zv (BG rfl rfl Tryz.underlying108 BI i4 i5)<|Zv (Ab rfl BI rfl hc4)<|D9 BI fun b8 w5 hx4 hg4 hb10=>?_;have k5:=k4.tr hx4;have k6:=K0_i1.tr hx4;refine DC rfl rfl rfl BI hb10 rfl rfl (ble rfl) fun w6 hch1 hb12=>?_;have k7:=Ext.chg k5 hch1 (Nat.le_trans k4.size hg4);have k8:=Ext.chg k6 hch1 (Nat.le_trans K0_i1.size hg4);have k9:=Ext.chg hx4 hch1 (Nat.le_trans (Nat.le_refl _) hg4);have B3:=B5_i1.ext k9;have B4:=B6_i1.ext k9;have hb14:Bx w6 b8 112 [.int .i64 x4.1,.int .i64 x4.2]:=hb12;refine nl<|wp_seq<|wp_seq<|Gq [] (.pure true 0 (.pure false 1 (.pure true 2 (.pure false 3 (.pure true 4 (.pure false 5 (.pure true 6 (.pure false 7 (.pure true 8 (.pure true 9 .fin)))))))))) mixed (by kernel_rfl) (fun w7 hx5=>?_);have k10:=k7.tr hx5;have k11:=k8.tr hx5;have B5:=B3.ext hx5;have B6:=B4.ext hx5;have hb16:=hb14.ext hx5;refine Zp rfl (fun _=>AV rfl F7)<|Zq rfl (fun _ hS=>AQ rfl AY ((Bx.cs (hb16.ext (hS.resolve_left nofun))).at 0 rfl)) (Ext.refl _)<|bS hB1 fun x5 Ex5 hB1=>?_;have hz:=Hw (Bx.cs B5) Ex5;obtain⟨i6,i7,hc5⟩:=hz;refine Zp rfl (fun _=>FV l5_i1 rfl Tryz.underlying238 AY i6 i7)<|Zq rfl (fun _ hS=>AQ rfl AY ((hc5.ext (hS.resolve_left nofun)).at 0 rfl)) (Ext.refl _)<|Zp rfl (fun _=>AV rfl Gr)<|Zq rfl (fun _ hS=>AQ rfl AY ((Bx.cs (hb16.ext (hS.resolve_left nofun))).at 1 rfl)) (Ext.refl _)<|bS hB1 fun x6 Ex6 hB1=>?_;have hz:=Hw (Bx.cs B6) Ex6;obtain⟨i8,i9,hc6⟩:=hz;refine Zp rfl (fun _=>FV l6_i1 rfl Tryz.underlying238 AY i8 i9)<|Zq rfl (fun _ hS=>AQ rfl AY ((hc6.ext (hS.resolve_left nofun)).at 0 rfl)) (Ext.refl _)<|Zp rfl (fun _=>Bg rfl rfl)<|Zp rfl (fun _=>IC rfl rfl)<|cnd rfl (fun h4=>?_) (fun h4=>?_)
   ·have hB1:=Ah hB1 h4;refine Zr<|Za<|nl<|?_;cases hB1;have hF:=(show some _=some _ from hF);cases hF;exact wp_ret<|Zw rfl rfl rfl ⟨rfl,k10⟩
   ·have hB1:=Ai hB1 h4;refine wp_skip<|Z5 (row:=(some b4)) [7] (.pure true 0 (.pure false 1 (.pure true 2 (.pure false 3 (.pure true 4 (.eff 5 (.pure true 6 (.eff 7 .fin .stop)) .stop)))))) mixed (by kernel_rfl) (fun w8 hx6=>?_);have k14:=k11.tr hx6;have B7:=B5.ext hx6;have B8:=B6.ext hx6;have hb18:=hb16.ext hx6;refine Zp rfl (fun _=>AV rfl F7)<|Zq rfl (fun _ hS=>AQ rfl AY ((Bx.cs (Bx.gr hb18 (hS.resolve_left nofun) (fun e=>(Ne.symm (Nat.ne_of_lt (Nat.lt_of_lt_of_le B5_i1.lt hg4))) (Option.some.inj e)))).at 0 rfl)) (Ext.gro (Ext.refl _))<|Zp rfl (fun _=>AV rfl Gr)<|Zq rfl (fun _ hS=>AQ rfl AY ((Bx.cs (Bx.gr hb18 (hS.resolve_left nofun) (fun e=>(Ne.symm (Nat.ne_of_lt (Nat.lt_of_lt_of_le B5_i1.lt hg4))) (Option.some.inj e)))).at 1 rfl)) (Ext.gro (Ext.refl _))<|bS hB1 fun x7 Ex7 hB1=>?_;have hz:=Hw (Bx.cs B7) Ex7;obtain⟨i10,i11,hc7⟩:=hz;refine Zp rfl (fun _=>FV l5_i1 rfl Tryz.underlying238 AY i10 i11)<|CR rfl<|gV (X:=y2) (v:=1) rfl rfl rfl AY B7 Ex7 fun w9 hch2 hb19=>?_;have gS1:=World.grownBy.tr (Ext.gro (Ext.refl _)) (Chg.gro hch2);have k17:=Ext.chg k14 hch2 (Nat.le_trans (Nat.le_refl _) hg2);have hb21:=Bx.chg B8 hch2 (Ne.symm (Nat.ne_of_lt (Nat.lt_of_lt_of_le hb4.lt hg3)));refine nl ⟨fun _ _=>gS1,?_⟩;refine bS hB1 fun x8 Ex8 hB1=>?_;have hz:=Hw (Bx.cs hb21) Ex8;obtain⟨i12,i13,hc8⟩:=hz;refine Zp rfl (fun _=>FV l6_i1 rfl Tryz.underlying238 AY i12 i13)<|CR rfl<|gV (X:=y3) (v:=1) rfl rfl rfl AY hb21 Ex8 fun w10 hch3 hb22=>?_;have k19:=Ext.chg k17 hch3 (Nat.le_trans (Nat.le_refl _) (Nat.le_trans hx2.size hg3));have hb24:=Bx.chg hb19 hch3 (Nat.ne_of_lt (Nat.lt_of_lt_of_le hb4.lt hg3));refine nl ⟨fun h=>(h (by decide)).elim,?_⟩;refine rg<|Zv (Bg l12_i1 rfl)<|Zm<|nl<|lq m (Nat.lt_succ_self _)<|?_;exact⟨_,_,_,hB1,rfl,hb24,hb22,l2_i1,l5_i1,l6_i1,l10_i1,l11_i1,k19⟩
  ·have hB1:=Ai hB1 h3;refine wp_exit<|?_;cases hB1;refine lf<|?_;exact⟨rfl,K0_i1⟩
 rintro L w11⟨rfl,K0_j1⟩;have k20:=hx1.tr K0_j1;refine Zr<|Za<|nl<|?_;cases hF;exact wp_ret<|Zw rfl rfl rfl ⟨rfl,k20⟩
theorem rR{w0:World}{v0:Value}{x0:(List (Int×Int))}(r0:RV w0 v0 x0){v1:Value}{x1:(Int×Int)->Option Bool}(h1:FnB Tryz.prog (Int×Int) w0 v1 x1){F:Nat}{r:Int}(hF:Da F x0 x1=some r):
  Calls Tryz.prog 316 [v0,v1].toArray w0 (A8 fun v w'=>v=.int .i64 r/\Ext w0 w'):=by
 unfold Da at hF;have hz:=r0.sl;obtain⟨a1,cq1,rfl,-,-,-⟩:=hz;refine A9 (n:=19) Tryz.func316 rfl rfl rfl<|Zr<|Za<|nl<|wp_seq<|Zr<|Zm<|Zv (BV rfl Tryz.underlying108)<|Zm<|nl<|bS hF fun o1 hB1 hF=>ct (fun L w=>o1=.inr ()/\Ext w0 w) ?_ ?_
 ·refine wp_block<|lp (I:=fun m L w=>∃y1:Int,BN F x0 x1 m y1=some o1/\L 8=.int .i64 y1/\L 0=.slice a1 x0.length cq1/\L 1=v1/\L 7=.int .i64 (x0.length:Int)/\Ext w0 w) F ⟨_,hB1,rfl,rfl,rfl,rfl,(Ext.refl _)⟩ ?_;rintro m L w1⟨y1,hB1,l8_i1,l0_i1,l1_i1,l7_i1,K0_i1⟩;rcases m with _|m
  ·rw[BN]at hB1;cases hB1
  rw[BN]at hB1;have h3:=h1.ext K0_i1;refine Zr<|Zv (BU l8_i1 l7_i1)<|nl<|wp_seq<|cnd rfl (fun h4=>?_) (fun h4=>?_)
  ·have hB1:=Ah hB1 h4;refine wp_skip<|wp_seq<|wp_block<|Zr<|Zm<|Za<|nl<|Zr<|Zm<|Zm<|Zm<|bS hB1 fun x3 Ex3 hB1=>?_;have hz:=(RV.els r0).ix Ex3;obtain⟨b3,f1,cs3,e1,i2,i3,q3,hc1⟩:=hz;cases e1;obtain⟨_,_,rfl,rfl,rfl⟩:=q3;have hc2:=hc1.ext K0_i1;refine Zv (BG l0_i1 l8_i1 Tryz.underlying108 BI i2 i3)<|Zv (Ab rfl BI rfl hc2)<|bS hB1 fun x4 Ex4 hB1=>?_;have hz:=id h3;obtain⟨g1,fs1,cs4,e2,hg1,hu1⟩:=hz;refine Zc (Nn (l1_i1.trans e2) hg1 (mc rfl mn) rfl) (hu1 _ _ _ _ (Ext.refl _) (show RV (α:=(Int×Int)) _ (.agg [.int .i64 x3.1,.int .i64 x3.2].toArray) (x3.1,x3.2)from⟨_,rfl,[.int .i64 x3.1],[.int .i64 x3.2],rfl,rfl,rfl⟩) Ex4) ?_;rintro _ w2⟨rfl,hx1⟩;have k1:=K0_i1.tr hx1;refine nl<|cnd rfl (fun h6=>?_) (fun h6=>?_)
   ·have hB1:=Ah hB1 h6;refine Zr<|Zm<|Za<|nl<|?_;cases hB1;have hF:=(show some _=some _ from hF);cases hF;exact wp_ret<|rt rfl (.tmp l8_i1 rfl .nil) ⟨rfl,k1⟩
   ·have hB1:=Ai hB1 h6;refine wp_skip<|rg<|Zv (Bg l8_i1 rfl)<|Zm<|nl<|lq m (Nat.lt_succ_self _)<|?_;exact⟨_,hB1,rfl,l0_i1,l1_i1,l7_i1,k1⟩
  ·have hB1:=Ai hB1 h4;refine wp_exit<|?_;cases hB1;refine lf<|?_;exact⟨rfl,K0_i1⟩
 rintro L w3⟨rfl,K0_j1⟩;refine Zr<|Za<|nl<|?_;cases hF;exact wp_ret<|Zw rfl rfl rfl ⟨rfl,K0_j1⟩
theorem rT{w0:World}{v0:Value}{x0:(List (Int×Int))}(r0:RV w0 v0 x0){v1:Value}{x1:(Int×Int)->Option Bool}(h1:FnB Tryz.prog (Int×Int) w0 v1 x1){F:Nat}{r:Bool}(hF:CP F x0 x1=some r):
  Calls Tryz.prog 244 [v0,v1].toArray w0 (A8 fun v w'=>v=.bool r/\Ext w0 w'):=by
 unfold CP at hF;have hz:=r0.sl;obtain⟨a1,cq1,rfl,-,-,-⟩:=hz;refine A9 (n:=9) Tryz.func244 rfl rfl rfl<|Zr<|Za<|nl<|Zr<|Zm<|Zm<|bS hF fun x3 Ex3 hF=>Zc (xc mK (mc rfl (mc rfl mn))) (rR r0 h1 Ex3) ?_;rintro _ w1⟨rfl,hx1⟩;refine Zv (Jz rfl rfl)<|Za<|nl<|?_;cases hF;exact wp_ret<|Zw rfl rfl rfl ⟨rfl,hx1⟩
theorem rU{w0:World}{v0:Value}{x0:(Int×Int)}(r0:RV w0 v0 x0){b1:Nat}{cs1:List Value}{x1:(Int×Int×(List (Int×Int))×(List Int))}(h1:Cs w0 b1 0 cs1)(q1:Enc.rep (fun _=>True) w0 cs1 x1){F:Nat}{r:Bool}(hF:Gl F x0 x1=some r):
  Calls Tryz.prog 245 [v0,.pointer (some ⟨b1,0,none⟩)].toArray w0 (A8 fun v w'=>v=.bool r/\Ext w0 w'):=by
 unfold Gl at hF;have hz:=id r0;obtain⟨_,rfl,_,_,rfl,rfl,rfl⟩:=hz;obtain⟨_,_,rfl,rfl,_,_,rfl,rfl,_,_,rfl,⟨a1,cq1,rfl,p1,q3,e1⟩,a2,cq2,rfl,p2,q4,e2⟩:=q1;refine A9 (n:=22) Tryz.func245 rfl rfl rfl<|Zr<|CO rfl rfl fun b3 w1 hx1 hg1 hb1=>?_;have h3:=h1.ext hx1;refine Za<|nl<|Zr<|Zv (AV rfl K7)<|Zv (AQ rfl AY (h3.at 0 rfl))<|Zv (F5 rfl rfl)<|Zv (AV rfl F7)<|Zv (AQ rfl AY ((Bx.cs hb1).at 0 rfl))<|Gb (cs:=[.int .i64 x0.1]) Tryz.underlying41 AY rfl (pc rfl pn) rfl rfl rfl rfl rfl fun b4 w2 hx2 hg2 hb2=>?_;have k1:=hx1.tr hx2;have hb3:=hb1.ext hx2;have h4:=h3.ext hx2;have o1:Row (α:=Int) 3 w1.heap.size w2 (.slice (some ⟨b4,0,none⟩) 1 1) [x0.1]:=Row.lit hg2 hb2 rfl (ble rfl);refine bS hF fun x3 Ex3 hF=>Zc (xc Sb (mc rfl (mc rfl (mc rfl mn)))) (Xw o1.rv Ex3) ?_;rintro _ w3⟨rfl,hx3⟩;have k2:=k1.tr hx3;have hb4:=hb3.ext hx3;have h5:=h4.ext hx3;refine Zv (EK rfl)<|Zm<|Zg rfl rfl (Aq rfl) (fun hc=>AV rfl Mj)<|Zg rfl rfl (Aq rfl) (fun hc=>AQ (mv hc rfl) AY (h5.at 1 rfl))<|Zg rfl rfl (Aq rfl) (fun hc=>F5 (mv hc rfl) rfl)<|Zg rfl rfl (Aq rfl) (fun hc=>AV rfl Gr)<|Zg rfl rfl (Aq rfl) (fun hc=>AQ (mv hc rfl) AY ((Bx.cs hb4).at 1 rfl))<|gm (fun v w=>RV w v ([x0.2]:List Int)/\Ext w3 w) rfl rfl rfl rfl (Aq rfl) rfl (fun hc=>Gb (cs:=[.int .i64 x0.2]) Tryz.underlying41 AY rfl (pc (mv hc rfl) pn) rfl rfl rfl rfl rfl fun b w' hx hg hb=>nl ⟨_,rfl,(Row.lit (base:=0) (l:=([x0.2]:List Int)) (Nat.zero_le _) hb rfl (ble rfl)).rv,hx⟩) (fun v3 w4 hy1 hn1=>?_);have hx4:Ext w3 w4:=gx (fun h=>(hy1 h).2) (fun h=>(hn1 h).2▸Ext.refl _);have k4:=k2.tr hx4;refine bS hF fun x4 Ex4 hF=>gc rfl rfl rfl rfl (Aq rfl) rfl (fun hc=>xc Sb (mc rfl (mc (mv hc rfl) (mc rfl mn)))) (fun hc=>(Xw ((hy1 hc).1) (Lg Ex4 hc))) (fun v4 w5 hy2 hn2=>?_);have hx5:Ext w4 w5:=gx (fun h=>(hy2 h).2) (fun h=>(hn2 h).2▸Ext.refl _);have e3:=Li (fun h=>(hy2 h).1) (fun h=>(hn2 h).1);have k6:=k4.tr hx5;refine Zg rfl rfl (Aq rfl) (fun hc=>EK (mv hc e3))<|Zv (Gh rfl rfl rfl)<|Za<|nl<|?_;cases hF;exact wp_ret<|Zw rfl rfl rfl ⟨rfl,k6⟩
theorem rV{w0:World}{v0:Value}{x0:(List (Int×Int))}(r0:RV w0 v0 x0){v1:Value}{x1:(Int×Int)}(r1:RV w0 v1 x1){F:Nat}{r:Int}(hF:EJ F x0 x1=some r):
  Calls Tryz.prog 317 [v0,v1].toArray w0 (A8 fun v w'=>v=.int .i64 r/\Ext w0 w'):=by
 unfold EJ at hF;have hz:=r0.sl;obtain⟨a1,cq1,rfl,-,-,-⟩:=hz;have hz:=id r1;obtain⟨_,rfl,_,_,rfl,rfl,rfl⟩:=hz;refine A9 (n:=19) Tryz.func317 rfl rfl rfl<|Zr<|CO rfl rfl fun b3 w1 hx1 hg1 hb1=>Za<|nl<|wp_seq<|Zr<|Zm<|Zv (BV rfl Tryz.underlying108)<|Zm<|nl<|bS hF fun o1 hB1 hF=>ct (fun L w=>o1=.inr ()/\Ext w1 w) ?_ ?_
 ·refine wp_block<|lp (I:=fun m L w=>∃y1:Int,Bj F x0 x1 m y1=some o1/\L 8=.int .i64 y1/\L 0=.slice a1 x0.length cq1/\L 3=.pointer (some ⟨b3,0,none⟩)/\L 7=.int .i64 (x0.length:Int)/\Ext w1 w) F ⟨_,hB1,rfl,rfl,rfl,rfl,(Ext.refl _)⟩ ?_;rintro m L w2⟨y1,hB1,l8_i1,l0_i1,l3_i1,l7_i1,K0_i1⟩;rcases m with _|m
  ·rw[Bj]at hB1;cases hB1
  rw[Bj]at hB1;have k1:=hx1.tr K0_i1;have hb2:=hb1.ext K0_i1;refine Zr<|Zv (BU l8_i1 l7_i1)<|nl<|wp_seq<|cnd rfl (fun h3=>?_) (fun h3=>?_)
  ·have hB1:=Ah hB1 h3;refine wp_skip<|wp_seq<|wp_block<|Zr<|Zm<|Za<|nl<|wp_seq<|Gq [] (.pure false 0 (.pure true 1 (.pure true 2 (.pure true 3 (.pure false 4 (.pure true 5 .fin)))))) mixed (by kernel_rfl) (fun w3 hx2=>?_);have k2:=k1.tr hx2;have k3:=K0_i1.tr hx2;have hb3:=hb2.ext hx2;refine Zq rfl (fun _ hS=>Ab l3_i1 BI rfl (Bx.cs (hb3.ext (hS.resolve_left nofun)))) (Ext.refl _)<|Zn rfl<|Zn rfl<|bS hB1 fun x3 Ex3 hB1=>?_;have hz:=(RV.els r0).ix Ex3;obtain⟨b4,f1,cs3,e1,i2,i3,q3,hc1⟩:=hz;cases e1;obtain⟨_,_,rfl,rfl,rfl⟩:=q3;have hc2:=hc1.ext k2;refine Zp rfl (fun _=>BG l0_i1 l8_i1 Tryz.underlying108 BI i2 i3)<|Zq rfl (fun _ hS=>Ab rfl BI rfl (hc2.ext (hS.resolve_left nofun))) (Ext.refl _)<|Zp rfl (fun _=>Sz (α:=(Int×Int)) (a:=(x1.1,x1.2)) (b:=(x3.1,x3.2)) rfl WS WR rfl rfl rfl rfl rfl)<|cnd rfl (fun h4=>?_) (fun h4=>?_)
   ·have hB1:=Ah hB1 h4;refine Zr<|Zm<|Za<|nl<|?_;cases hB1;have hF:=(show some _=some _ from hF);cases hF;exact wp_ret<|rt rfl (.tmp l8_i1 rfl .nil) ⟨rfl,k2⟩
   ·have hB1:=Ai hB1 h4;refine wp_skip<|rg<|Zv (Bg l8_i1 rfl)<|Zm<|nl<|lq m (Nat.lt_succ_self _)<|?_;exact⟨_,hB1,rfl,l0_i1,l3_i1,l7_i1,k3⟩
  ·have hB1:=Ai hB1 h3;refine wp_exit<|?_;cases hB1;refine lf<|?_;exact⟨rfl,K0_i1⟩
 rintro L w4⟨rfl,K0_j1⟩;have k4:=hx1.tr K0_j1;refine Zr<|Za<|nl<|?_;cases hF;exact wp_ret<|Zw rfl rfl rfl ⟨rfl,k4⟩
theorem rW{w0:World}{v0:Value}{x0:(List (Int×Int))}(r0:RV w0 v0 x0){v1:Value}{x1:(Int×Int)}(r1:RV w0 v1 x1){F:Nat}{r:Bool}(hF:Co F x0 x1=some r):
  Calls Tryz.prog 246 [v0,v1].toArray w0 (A8 fun v w'=>v=.bool r/\Ext w0 w'):=by
 unfold Co at hF;have hz:=r0.sl;obtain⟨a1,cq1,rfl,-,-,-⟩:=hz;have hz:=id r1;obtain⟨_,rfl,_,_,rfl,rfl,rfl⟩:=hz;refine A9 (n:=9) Tryz.func246 rfl rfl rfl<|Zr<|CO rfl rfl fun b3 w1 hx1 hg1 hb1=>?_;have r3:=r0.ext hx1;refine Za<|nl<|Zr<|Zm<|Zv (Ab rfl BI rfl (Bx.cs hb1))<|bS hF fun x3 Ex3 hF=>Zc (xc mM (mc rfl (mc rfl mn))) (rV r3 (show RV (α:=(Int×Int)) _ (.agg [.int .i64 x1.1,.int .i64 x1.2].toArray) (x1.1,x1.2)from⟨_,rfl,[.int .i64 x1.1],[.int .i64 x1.2],rfl,rfl,rfl⟩) Ex3) ?_;rintro _ w2⟨rfl,hx2⟩;have k1:=hx1.tr hx2;refine Zv (Jz rfl rfl)<|Za<|nl<|?_;cases hF;exact wp_ret<|Zw rfl rfl rfl ⟨rfl,k1⟩
theorem bD{w0:World}{v0:Value}{x0:(Int×Int×(List (Int×Int))×(List Int))}(r0:RV w0 v0 x0){F:Nat}{r:Int}(hF:EY F x0=some r):
  Calls Tryz.prog 138 [v0].toArray w0 (A8 fun v w'=>v=.int .i64 r/\Ext w0 w'):=by
 unfold EY at hF;have hz:=id r0;obtain⟨_,rfl,_,_,rfl,rfl,_,_,rfl,rfl,_,_,rfl,⟨a1,cq1,rfl,p1,q2,e1⟩,a2,cq2,rfl,p2,q3,e2⟩:=hz;have r2:=RV.of1 p1 q2 e1;have r3:=RV.of1 p2 q3 e2;refine A9 (n:=52) Tryz.func138 rfl rfl rfl<|Zr<|CO rfl rfl fun b2 w1 hx1 hg1 hb1=>?_;have r4:=r2.ext hx1;have r5:=r3.ext hx1;refine Za<|nl<|wp_seq<|wp_block<|Zr<|Zv (AV rfl K7)<|Zv (AQ rfl AY ((Bx.cs hb1).at 0 rfl))<|Zv (AV rfl Mj)<|Zv (AQ rfl AY ((Bx.cs hb1).at 1 rfl))<|Gb (cs:=[.int .i64 x0.1,.int .i64 x0.2.1]) Tryz.underlying41 AY rfl (pc rfl (pc rfl pn)) rfl rfl rfl rfl rfl fun b3 w2 hx2 hg2 hb2=>?_;have k1:=hx1.tr hx2;have hb3:=hb1.ext hx2;have r7:=r4.ext hx2;have r8:=r5.ext hx2;have o1:Row (α:=Int) 3 w1.heap.size w2 (.slice (some ⟨b3,0,none⟩) 2 2) [x0.1,x0.2.1]:=Row.lit hg2 hb2 rfl (ble rfl);refine bS hF fun x2 Ex2 hF=>Zc (xc Sb (mc rfl (mc rfl (mc rfl mn)))) (Xw o1.rv Ex2) ?_;rintro _ w3⟨rfl,hx3⟩;have k2:=k1.tr hx3;have hb4:=hb3.ext hx3;have r10:=r7.ext hx3;have r11:=r8.ext hx3;refine Zv (EK rfl)<|Za<|nl<|cnd rfl (fun h2=>?_) (fun h2=>?_)
 ·have hF:=Ah hF h2;refine Zr<|Za<|nl<|?_;cases hF;exact wp_ret<|Zw rfl rfl rfl ⟨rfl,k2⟩
 ·have hF:=Ai hF h2;refine Zr<|Zv (AV rfl Br)<|Zv (AQ rfl DV ((Bx.cs hb4).at 2 rfl))<|Zv (BV rfl Tryz.underlying108)<|Zv (IC rfl rfl)<|Za<|nl<|cnd rfl (fun h3=>?_) (fun h3=>?_)
  ·have hF:=Ah hF h3;refine Zr<|Za<|nl<|?_;cases hF;exact wp_ret<|Zw rfl rfl rfl ⟨rfl,k2⟩
  ·have hF:=Ai hF h3;refine Zr<|Zv (AV rfl Br)<|Zv (AQ rfl DV ((Bx.cs hb4).at 2 rfl))<|Zv (Lj mn (mc rfl mn))<|bS hF fun x3 Ex3 hF=>Zc (xc lU (mc rfl (mc rfl mn))) (rT r10 ⟨245,[],[.pointer (some ⟨b2,0,none⟩)],rfl,lV,fun w' u x b hk hu hp=>rU hu (Bx.cs (hb4.ext hk)) ⟨[.int .i64 x0.1],[.int .i64 x0.2.1]++([.slice a1 x0.2.2.1.length cq1]++[.slice a2 x0.2.2.2.length cq2]),rfl,rfl,[.int .i64 x0.2.1],[.slice a1 x0.2.2.1.length cq1]++[.slice a2 x0.2.2.2.length cq2],rfl,rfl,[.slice a1 x0.2.2.1.length cq1],[.slice a2 x0.2.2.2.length cq2],rfl,(r10.ext hk).rep1,(r11.ext hk).rep1⟩ hp⟩ Ex3) ?_;rintro _ w4⟨rfl,hx4⟩;have k4:=k2.tr hx4;have hb5:=hb4.ext hx4;have r12:=r10.ext hx4;have r13:=r11.ext hx4;refine Za<|nl<|cnd rfl (fun h4=>?_) (fun h4=>?_)
   ·have hF:=Ah hF h4;refine Zr<|Za<|nl<|?_;cases hF;exact wp_ret<|Zw rfl rfl rfl ⟨rfl,k4⟩
   ·have hF:=Ai hF h4;refine wp_skip<|wp_seq<|Zr<|Zv (AV rfl Br)<|Zv (AQ rfl DV ((Bx.cs hb5).at 2 rfl))<|Zv (BV rfl Tryz.underlying108)<|Zm<|nl<|bS hF fun o2 hB1 hF=>ct (fun L w=>o2=.inr ()/\L 1=.pointer (some ⟨b2,0,none⟩)/\Ext w4 w) ?_ ?_
    ·refine wp_block<|lp (I:=fun m L w=>∃y1:Int,Di F x0 m y1=some o2/\L 26=.int .i64 y1/\L 1=.pointer (some ⟨b2,0,none⟩)/\L 24=.slice a1 x0.2.2.1.length cq1/\L 25=.int .i64 (x0.2.2.1.length:Int)/\Ext w4 w) F ⟨_,hB1,rfl,rfl,rfl,rfl,(Ext.refl _)⟩ ?_;rintro m L w5⟨y1,hB1,l26_i1,l1_i1,l24_i1,l25_i1,K0_i1⟩;rcases m with _|m
     ·rw[Di]at hB1;cases hB1
     rw[Di]at hB1;have k6:=k4.tr K0_i1;have hb6:=hb5.ext K0_i1;refine Zr<|Zv (BU l26_i1 l25_i1)<|nl<|wp_seq<|cnd rfl (fun h5=>?_) (fun h5=>?_)
     ·have hB1:=Ah hB1 h5;refine wp_skip<|wp_seq<|wp_block<|Zr<|Zm<|bS hB1 fun x4 Ex4 hB1=>?_;have hz:=(RV.els r2).ix Ex4;obtain⟨b4,f1,cs2,e3,i2,i3,q4,hc1⟩:=hz;cases e3;obtain⟨_,_,rfl,rfl,rfl⟩:=q4;have hc2:=hc1.ext k6;refine Zv (BG l24_i1 l26_i1 Tryz.underlying108 BI i2 i3)<|Zv (Ab rfl BI rfl hc2)<|D9 BI fun b5 w6 hx5 hg3 hb7=>?_;have k8:=k6.tr hx5;have k10:=K0_i1.tr hx5;refine Za<|DC rfl rfl rfl BI hb7 rfl rfl (ble rfl) fun w7 hch1 hb9=>?_;have k11:=Ext.chg k8 hch1 (Nat.le_trans k6.size hg3);have k13:=Ext.chg k10 hch1 (Nat.le_trans K0_i1.size hg3);have k14:=Ext.chg hx5 hch1 (Nat.le_trans (Nat.le_refl _) hg3);have hb10:=hb6.ext k14;have hb11:Bx w7 b5 112 [.int .i64 x4.1,.int .i64 x4.2]:=hb9;refine nl<|wp_seq<|Gq [] (.pure true 0 (.pure false 1 (.pure true 2 (.pure true 3 (.pure false 4 (.eff 5 .fin .stop)))))) mixed (by kernel_rfl) (fun w8 hx6=>?_);have k15:=k11.tr hx6;have k17:=k13.tr hx6;have hb12:=hb10.ext hx6;have hb13:=hb11.ext hx6;refine Zp rfl (fun _=>AV l1_i1 Br)<|Zq rfl (fun _ hS=>AQ rfl DV ((Bx.cs (hb12.ext (hS.resolve_left nofun))).at 2 rfl)) (Ext.refl _)<|Zn rfl<|bS hB1 fun x5 Ex5 hB1=>?_;have hz:=uK r2 Ex5 Tryz.underlying108 BI;obtain⟨a3,cq3,r22,hr1⟩:=hz;have r23:=r22.ext k15;refine Zp rfl (fun _=>hr1 _ _ _ _ _ _ _ _ _ _ rfl l26_i1)<|Zq rfl (fun _ hS=>Ab rfl BI rfl (Bx.cs (hb13.ext (hS.resolve_left nofun)))) (Ext.refl _)<|bS hB1 fun x6 Ex6 hB1=>CR rfl<|Zc (xc lW (mc rfl (mc rfl mn))) (rW r23 (show RV (α:=(Int×Int)) _ (.agg [.int .i64 x4.1,.int .i64 x4.2].toArray) (x4.1,x4.2)from⟨_,rfl,[.int .i64 x4.1],[.int .i64 x4.2],rfl,rfl,rfl⟩) Ex6) ?_;rintro _ w9⟨rfl,hx7⟩;have k19:=k15.tr hx7;have k21:=k17.tr hx7;refine nl ⟨fun _ _=>hx7,?_⟩;refine cnd rfl (fun h6=>?_) (fun h6=>?_)
      ·have hB1:=Ah hB1 h6;refine Zr<|Za<|nl<|?_;cases hB1;have hF:=(show some _=some _ from hF);cases hF;exact wp_ret<|Zw rfl rfl rfl ⟨rfl,k19⟩
      ·have hB1:=Ai hB1 h6;refine wp_skip<|rg<|Zv (Bg l26_i1 rfl)<|Zm<|nl<|lq m (Nat.lt_succ_self _)<|?_;exact⟨_,hB1,rfl,l1_i1,l24_i1,l25_i1,k21⟩
     ·have hB1:=Ai hB1 h5;refine wp_exit<|?_;cases hB1;refine lf<|?_;exact⟨rfl,l1_i1,K0_i1⟩
    rintro L w10⟨rfl,l1_j1,K0_j1⟩;have k23:=k4.tr K0_j1;have r26:=r12.ext K0_j1;have r27:=r13.ext K0_j1;have hb15:=hb5.ext K0_j1;refine wp_seq<|Zr<|Zv (AV l1_j1 IU)<|Zv (AQ rfl Kl ((Bx.cs hb15).at 3 rfl))<|Zv (AV l1_j1 Br)<|Zv (AQ rfl DV ((Bx.cs hb15).at 2 rfl))<|Zv (BV rfl Tryz.underlying108)<|bS hF fun x7 Ex7 hF=>Zc (xc bq (mc rfl (mc rfl mn))) (jX r27 Ex7) ?_;rintro _ w11⟨rfl,hx8⟩;have k25:=k23.tr hx8;have hb16:=hb15.ext hx8;have r28:=r26.ext hx8;have r29:=r27.ext hx8;refine Zv (EK rfl)<|Zm<|Zg rfl rfl (Aq rfl) (fun hc=>Ab l1_j1 GA rfl (Bx.cs hb16))<|Zg rfl rfl (Aq rfl) (fun hc=>AV l1_j1 IU)<|Zg rfl rfl (Aq rfl) (fun hc=>AQ (mv hc rfl) Kl ((Bx.cs hb16).at 3 rfl))<|bS hF fun x8 Ex8 hF=>gc rfl rfl rfl rfl (Aq rfl) rfl (fun hc=>xc cK (mc (mv hc rfl) (mc (mv hc rfl) mn))) (fun hc=>(jY (show RV (α:=(Int×Int×(List (Int×Int))×(List Int))) _ (.agg [.int .i64 x0.1,.int .i64 x0.2.1,.slice a1 x0.2.2.1.length cq1,.slice a2 x0.2.2.2.length cq2].toArray) (x0.1,x0.2.1,x0.2.2.1,x0.2.2.2)from⟨_,rfl,[.int .i64 x0.1],[.int .i64 x0.2.1]++([.slice a1 x0.2.2.1.length cq1]++[.slice a2 x0.2.2.2.length cq2]),rfl,rfl,[.int .i64 x0.2.1],[.slice a1 x0.2.2.1.length cq1]++[.slice a2 x0.2.2.2.length cq2],rfl,rfl,[.slice a1 x0.2.2.1.length cq1],[.slice a2 x0.2.2.2.length cq2],rfl,r28.rep1,r29.rep1⟩) r29 (Lg Ex8 hc))) (fun v2 w12 hy1 hn1=>?_);have hx9:Ext w11 w12:=gx (fun h=>(hy1 h).2) (fun h=>(hn1 h).2▸Ext.refl _);have e4:=Li (fun h=>(hy1 h).1) (fun h=>(hn1 h).1);have k28:=k25.tr hx9;refine Zg rfl rfl (Aq rfl) (fun hc=>EK (mv hc e4))<|Zv (Gh rfl rfl rfl)<|nl<|cnd rfl (fun h7=>?_) (fun h7=>?_)
    ·have hF:=Ah hF h7;refine Zr<|Za<|nl<|?_;cases hF;exact wp_ret<|Zw rfl rfl rfl ⟨rfl,k28⟩
    ·have hF:=Ai hF h7;refine wp_skip<|Zr<|Za<|nl<|?_;cases hF;exact wp_ret<|Zw rfl rfl rfl ⟨rfl,k28⟩
theorem rX{w0:World}{b0:Nat}{cs0:List Value}{x0:((Int×Int×(List (Int×Int))×(List Int))×(Ar 2 (Ar 12 Int))×(Ar 12 Int))}(h0:Cs w0 b0 0 cs0)(q0:Enc.rep (fun _=>True) w0 cs0 x0){x1:Int}{r:Bool}(hF:Iz x0 x1=some r):
  Calls Tryz.prog 141 [.pointer (some ⟨b0,0,none⟩),.int .i64 x1].toArray w0 (A8 fun v w'=>v=.bool r/\Ext w0 w'):=by
 unfold Iz at hF;obtain⟨_,_,rfl,⟨_,_,rfl,rfl,_,_,rfl,rfl,_,_,rfl,⟨a1,cq1,rfl,p1,q3,e1⟩,a2,cq2,rfl,p2,q4,e2⟩,_,_,rfl,rfl,rfl⟩:=q0;have r3:=RV.of1 p1 q3 e1;refine A9 (n:=32) Tryz.func141 rfl rfl rfl<|Zr<|Za<|nl<|Zr<|Zm<|Zv (Cv rfl)<|Zv (AV rfl Ml)<|Zv (AV rfl Br)<|Zv (AQ rfl DV (h0.at 2 rfl))<|Zm<|bS hF fun x3 Ex3 hF=>?_;have hz:=(RV.els r3).ix Ex3;obtain⟨b3,f1,cs3,e3,i1,i2,q5,hc1⟩:=hz;cases e3;obtain⟨_,_,rfl,rfl,rfl⟩:=q5;refine Zv (BG rfl rfl Tryz.underlying108 BI i1 i2)<|Zv (Ab rfl BI rfl hc1)<|D9 BI fun b4 w1 hx1 hg1 hb1=>DC rfl rfl rfl BI hb1 rfl rfl (ble rfl) fun w2 hch1 hb2=>?_;have k1:=Ext.chg hx1 hch1 (Nat.le_trans (Nat.le_refl _) hg1);have h4:=h0.ext k1;have hb3:Bx w2 b4 112 [.int .i64 x3.1,.int .i64 x3.2]:=hb2;refine nl<|wp_seq<|Gq [] (.pure true 0 (.pure true 1 (.pure false 2 (.pure true 3 (.pure true 4 (.pure true 5 (.pure true 6 (.pure false 7 (.pure true 8 (.pure true 9 (.pure false 10 (.pure true 11 (.pure true 12 (.pure true 13 (.pure true 14 (.pure false 15 (.pure true 16 (.pure true 17 (.pure true 18 .fin))))))))))))))))))) mixed (by kernel_rfl) (fun w3 hx2=>?_);have k2:=k1.tr hx2;have hb4:=hb3.ext hx2;have h5:=h4.ext hx2;refine Zn rfl<|Zp rfl (fun _=>AV rfl F7)<|Zq rfl (fun _ hS=>AQ rfl AY ((Bx.cs (hb4.ext (hS.resolve_left nofun))).at 0 rfl)) (Ext.refl _)<|Zp rfl (fun _=>Cv rfl)<|Zp rfl (fun _=>AV rfl Vq)<|?_;have hc2:Cs w3 b0 (0+4) (List.flatMap Flat.enc x0.2.1.l):=Cs.mid (l1:=[.int .i64 x0.1.1,.int .i64 x0.1.2.1,.slice (some ⟨b3,f1,none⟩) x0.1.2.2.1.length cq1,.slice a2 x0.1.2.2.2.length cq2]) (X:=x0.2.1) (l2:=List.flatMap Flat.enc x0.2.2.l) h5;refine bS hF fun x4 Ex4 hF=>?_;have hz:=Hw hc2 Ex4;obtain⟨i3,i4,hc3⟩:=hz;refine Zp rfl (fun _=>FV rfl rfl Tryz.underlying239 Iq i3 i4)<|bS hF fun x5 Ex5 hF=>?_;have hz:=Hw hc3 Ex5;obtain⟨i5,i6,hc4⟩:=hz;refine Zp rfl (fun _=>FV rfl rfl Tryz.underlying238 AY i5 i6)<|Zq rfl (fun _ hS=>AQ rfl AY ((hc4.ext (hS.resolve_left nofun)).at 0 rfl)) (Ext.refl _)<|Zn rfl<|Zp rfl (fun _=>AV rfl Gr)<|Zq rfl (fun _ hS=>AQ rfl AY ((Bx.cs (hb4.ext (hS.resolve_left nofun))).at 1 rfl)) (Ext.refl _)<|Zp rfl (fun _=>Cv rfl)<|Zp rfl (fun _=>AV rfl Vq)<|?_;have hc5:Cs w3 b0 (0+4) (List.flatMap Flat.enc x0.2.1.l):=Cs.mid (l1:=[.int .i64 x0.1.1,.int .i64 x0.1.2.1,.slice (some ⟨b3,f1,none⟩) x0.1.2.2.1.length cq1,.slice a2 x0.1.2.2.2.length cq2]) (X:=x0.2.1) (l2:=List.flatMap Flat.enc x0.2.2.l) h5;refine bS hF fun x6 Ex6 hF=>?_;have hz:=Hw hc5 Ex6;obtain⟨i7,i8,hc6⟩:=hz;refine Zp rfl (fun _=>FV rfl rfl Tryz.underlying239 Iq i7 i8)<|bS hF fun x7 Ex7 hF=>?_;have hz:=Hw hc6 Ex7;obtain⟨i9,i10,hc7⟩:=hz;refine Zp rfl (fun _=>FV rfl rfl Tryz.underlying238 AY i9 i10)<|Zq rfl (fun _ hS=>AQ rfl AY ((hc7.ext (hS.resolve_left nofun)).at 0 rfl)) (Ext.refl _)<|Zp rfl (fun _=>Bg rfl rfl)<|Zp rfl (fun _=>EU rfl rfl)<|Zp rfl (fun _=>Ij)<|?_;cases hF;exact wp_ret<|Zw rfl rfl rfl ⟨rfl,k2⟩
theorem oU{w0:World}{x0:Int}{x1:Int}{r:(Int×Int)}(hF:IV x0 x1=some r):
  Calls Tryz.prog 57 [.int .i64 x0,.int .i64 x1].toArray w0 (A8 fun v w'=>∃u0:Value,v=u0/\RV w' u0 r/\Ext w0 w'):=by
 unfold IV at hF;refine A9 (n:=8) Tryz.func57 rfl rfl rfl<|Zr<|D9 BI fun b3 w1 hx1 hg1 hb1=>nl<|Zr<|Zm<|Zm<|Zv (JL (r:=[.int .i64 x0,.int .i64 x1]) BI kV (pc rfl (pc rfl pn)) rfl)<|DC rfl rfl rfl BI hb1 rfl rfl (ble rfl) fun w2 hch1 hb2=>?_;have k1:=Ext.chg hx1 hch1 (Nat.le_trans (Nat.le_refl _) hg1);have hb3:Bx w2 b3 112 [.int .i64 x0,.int .i64 x1]:=hb2;refine nl<|?_;cases hF;exact wp_ret<|rt rfl (.cell rfl rfl BI rfl (Bx.cs hb3) .nil) ⟨_,rfl,(show RV (α:=(Int×Int)) _ (.agg [.int .i64 x0,.int .i64 x1].toArray) (x0,x1)from⟨_,rfl,[.int .i64 x0],[.int .i64 x1],rfl,rfl,rfl⟩),k1⟩
theorem rY{w0:World}{v0:Value}{x0:(List Int)}(r0:RV w0 v0 x0){x1:Int}{F:Nat}{r:Bool}(hF:JR F x0 x1=some r):
  Calls Tryz.prog 136 [v0,.int .i64 x1].toArray w0 (A8 fun v w'=>v=.bool r/\Ext w0 w'):=by
 unfold JR at hF;have hz:=r0.sl;obtain⟨a1,cq1,rfl,-,-,-⟩:=hz;refine A9 (n:=41) Tryz.func136 rfl rfl rfl<|Zr<|Za<|nl<|wp_seq<|Zr<|Za<|nl<|bS hF fun o1 hB1 hF=>ct (fun L w=>o1=.inr ()/\Ext w0 w) ?_ ?_
 ·refine wp_block<|lp (I:=fun m L w=>∃y1:Int,GH F x0 x1 m y1=some o1/\L 5=.int .i64 y1/\L 0=.slice a1 x0.length cq1/\L 1=.int .i64 x1/\Ext w0 w) F ⟨_,hB1,rfl,rfl,rfl,(Ext.refl _)⟩ ?_;rintro m L w1⟨y1,hB1,l5_i1,l0_i1,l1_i1,K0_i1⟩;rcases m with _|m
  ·rw[GH]at hB1;cases hB1
  rw[GH]at hB1;refine wp_seq<|Zr<|Zm<|Zm<|Zv (BV l0_i1 Tryz.underlying41)<|Zv (BU l5_i1 rfl)<|nl<|cnd rfl (fun h3=>?_) (fun h3=>?_)
  ·have hB1:=Ah hB1 h3;refine wp_skip<|wp_seq<|wp_block<|wp_seq<|bS hB1 fun y2 hB3 hB1=>ct (fun L w=>L 40=.bool y2/\L 0=.slice a1 x0.length cq1/\L 1=.int .i64 x1/\L 5=.int .i64 y1/\Ext w1 w) ?_ ?_
   ·refine Gq [] (.pure true 0 (.pure true 1 (.pure true 2 (.pure false 3 (.pure true 4 (.pure true 5 (.pure true 6 (.pure true 7 (.pure true 8 (.pure false 9 (.pure true 10 (.pure true 11 (.pure true 12 (.pure true 13 (.pure true 14 (.pure true 15 (.pure true 16 (.pure true 17 (.pure true 18 (.pure true 19 (.pure false 20 (.pure true 21 (.pure true 22 (.pure true 23 (.pure true 24 (.pure false 25 (.pure true 26 (.pure true 27 (.pure true 28 .fin))))))))))))))))))))))))))))) mixed (by kernel_rfl) (fun w3 hx2=>?_);have k2:=K0_i1.tr hx2;refine Zn rfl<|Zn rfl<|bS hB3 fun x4 Ex4 hB3=>?_;have hz:=(RV.els r0).ix Ex4;obtain⟨b4,f2,cs4,e2,i4,i5,q4,hc3⟩:=hz;cases e2;obtain rfl:=q4;have hc4:=hc3.ext k2;refine Zp rfl (fun _=>BG l0_i1 l5_i1 Tryz.underlying41 AY i4 i5)<|Zq rfl (fun _ hS=>AQ rfl AY ((hc4.ext (hS.resolve_left nofun)).at 0 rfl)) (Ext.refl _)<|Zp rfl (fun _=>BU rfl rfl)<|Zn rfl<|Or.elim (Bool.eq_false_or_eq_true (decide (x4<0))) (fun h4=>?_) (fun h4=>?_)
    ·have hB3:=Ah hB3 h4;refine Yf rfl (CY h4)<|Yf rfl (CY h4)<|Yf rfl (CY h4)<|Yh rfl (CY h4) (Ext.refl _)<|Yf rfl (CY h4)<|Yf rfl (CY h4)<|Zp rfl (fun _=>DU rfl h4 rfl)<|Zn rfl<|Or.elim (Bool.eq_false_or_eq_true true) (fun h5=>?_) (fun h5=>?_)
     ·have hB3:=Ah hB3 h5;refine Yf rfl (CY h5)<|Yf rfl (CY h5)<|Yf rfl (CY h5)<|Yf rfl bu<|Yf rfl bu<|Yf rfl bu<|Yh rfl bu (Ext.refl _)<|Yf rfl bu<|Yf rfl bu<|Yf rfl bu<|Yf rfl bu<|Yh rfl bu (Ext.refl _)<|Yf rfl bu<|Yf rfl (CY h5)<|Zp rfl (fun _=>DU rfl h5 rfl)<|?_;cases hB3;refine lf<|?_;exact⟨rfl,l0_i1,l1_i1,l5_i1,hx2⟩
     ·have hB3:=Ai hB3 h5;refine Yt rfl (bf h5) (fun _=>ET)<|Yt rfl (bf h5) (fun _=>IC l5_i1 rfl)<|Yt rfl (bf h5) (fun _=>ET)<|Or.elim (Bool.eq_false_or_eq_true (decide (0<y1))) (fun h6=>?_) (fun h6=>?_)
      ·have hB3:=Ah hB3 h6;refine Yt rfl (bt h6) (fun _=>ET)<|Yt rfl (bt h6) (fun _=>ET)<|bS hB3 fun x5 Ex5 hB3=>?_;have hz:=JB r0 Ex5;obtain⟨cs5,i6,i7,q5,hc5⟩:=hz;obtain rfl:=q5;have hc6:=hc5.ext k2;refine Yt rfl (bt h6) (fun _=>BG l0_i1 l5_i1 Tryz.underlying41 AY i6 i7)<|Yi rfl (bt h6) (fun _ hS=>AQ rfl AY ((hc6.ext (hS.resolve_left nofun)).at 0 rfl)) (Ext.refl _)<|Yt rfl (bt h6) (fun _=>ET)<|Yt rfl (bt h6) (fun _=>ET)<|Yt rfl (bt h6) (fun _=>F5 l5_i1 rfl)<|bS hB3 fun x6 Ex6 hB3=>?_;have hz:=JB r0 Ex6;obtain⟨cs6,i8,i9,q6,hc7⟩:=hz;obtain rfl:=q6;have hc8:=hc7.ext k2;refine Yt rfl (bt h6) (fun _=>BG l0_i1 rfl Tryz.underlying41 AY i8 i9)<|Yi rfl (bt h6) (fun _ hS=>AQ rfl AY ((hc8.ext (hS.resolve_left nofun)).at 0 rfl)) (Ext.refl _)<|Yt rfl (bt h6) (fun _=>Kk rfl rfl)<|Yt rfl (bf h5) (fun _=>DU rfl h6 rfl)<|Zp rfl (fun _=>EW rfl h5 rfl)<|?_;cases hB3;refine lf<|?_;exact⟨rfl,l0_i1,l1_i1,l5_i1,hx2⟩
      ·have hB3:=Ai hB3 h6;refine Yf rfl (AZ h6)<|Yf rfl (AZ h6)<|Yf rfl (AZ h6)<|Yh rfl (AZ h6) (Ext.refl _)<|Yf rfl (AZ h6)<|Yf rfl (AZ h6)<|Yf rfl (AZ h6)<|Yf rfl (AZ h6)<|Yh rfl (AZ h6) (Ext.refl _)<|Yf rfl (AZ h6)<|Yt rfl (bf h5) (fun _=>EW rfl h6 rfl)<|Zp rfl (fun _=>EW rfl h5 rfl)<|?_;cases hB3;refine lf<|?_;exact⟨rfl,l0_i1,l1_i1,l5_i1,hx2⟩
    ·have hB3:=Ai hB3 h4;refine Yt rfl (bf h4) (fun _=>ET)<|Yt rfl (bf h4) (fun _=>ET)<|bS hB3 fun x7 Ex7 hB3=>?_;have hz:=JB r0 Ex7;obtain⟨cs7,i10,i11,q7,hc9⟩:=hz;obtain rfl:=q7;have hc10:=hc9.ext k2;refine Yt rfl (bf h4) (fun _=>BG l0_i1 l5_i1 Tryz.underlying41 AY i10 i11)<|Yi rfl (bf h4) (fun _ hS=>AQ rfl AY ((hc10.ext (hS.resolve_left nofun)).at 0 rfl)) (Ext.refl _)<|Yt rfl (bf h4) (fun _=>ET)<|Yt rfl (bf h4) (fun _=>Jz rfl l1_i1)<|Zp rfl (fun _=>EW rfl h4 rfl)<|Zn rfl<|Or.elim (Bool.eq_false_or_eq_true (decide (x1<=x7))) (fun h7=>?_) (fun h7=>?_)
     ·have hB3:=Ah hB3 h7;refine Yf rfl (CY h7)<|Yf rfl (CY h7)<|Yf rfl (CY h7)<|Yf rfl bu<|Yf rfl bu<|Yf rfl bu<|Yh rfl bu (Ext.refl _)<|Yf rfl bu<|Yf rfl bu<|Yf rfl bu<|Yf rfl bu<|Yh rfl bu (Ext.refl _)<|Yf rfl bu<|Yf rfl (CY h7)<|Zp rfl (fun _=>DU rfl h7 rfl)<|?_;cases hB3;refine lf<|?_;exact⟨rfl,l0_i1,l1_i1,l5_i1,hx2⟩
     ·have hB3:=Ai hB3 h7;refine Yt rfl (bf h7) (fun _=>ET)<|Yt rfl (bf h7) (fun _=>IC l5_i1 rfl)<|Yt rfl (bf h7) (fun _=>ET)<|Or.elim (Bool.eq_false_or_eq_true (decide (0<y1))) (fun h8=>?_) (fun h8=>?_)
      ·have hB3:=Ah hB3 h8;refine Yt rfl (bt h8) (fun _=>ET)<|Yt rfl (bt h8) (fun _=>ET)<|bS hB3 fun x8 Ex8 hB3=>?_;have hz:=JB r0 Ex8;obtain⟨cs8,i12,i13,q8,hc11⟩:=hz;obtain rfl:=q8;have hc12:=hc11.ext k2;refine Yt rfl (bt h8) (fun _=>BG l0_i1 l5_i1 Tryz.underlying41 AY i12 i13)<|Yi rfl (bt h8) (fun _ hS=>AQ rfl AY ((hc12.ext (hS.resolve_left nofun)).at 0 rfl)) (Ext.refl _)<|Yt rfl (bt h8) (fun _=>ET)<|Yt rfl (bt h8) (fun _=>ET)<|Yt rfl (bt h8) (fun _=>F5 l5_i1 rfl)<|bS hB3 fun x9 Ex9 hB3=>?_;have hz:=JB r0 Ex9;obtain⟨cs9,i14,i15,q9,hc13⟩:=hz;obtain rfl:=q9;have hc14:=hc13.ext k2;refine Yt rfl (bt h8) (fun _=>BG l0_i1 rfl Tryz.underlying41 AY i14 i15)<|Yi rfl (bt h8) (fun _ hS=>AQ rfl AY ((hc14.ext (hS.resolve_left nofun)).at 0 rfl)) (Ext.refl _)<|Yt rfl (bt h8) (fun _=>Kk rfl rfl)<|Yt rfl (bf h7) (fun _=>DU rfl h8 rfl)<|Zp rfl (fun _=>EW rfl h7 rfl)<|?_;cases hB3;refine lf<|?_;exact⟨rfl,l0_i1,l1_i1,l5_i1,hx2⟩
      ·have hB3:=Ai hB3 h8;refine Yf rfl (AZ h8)<|Yf rfl (AZ h8)<|Yf rfl (AZ h8)<|Yh rfl (AZ h8) (Ext.refl _)<|Yf rfl (AZ h8)<|Yf rfl (AZ h8)<|Yf rfl (AZ h8)<|Yf rfl (AZ h8)<|Yh rfl (AZ h8) (Ext.refl _)<|Yf rfl (AZ h8)<|Yt rfl (bf h7) (fun _=>EW rfl h8 rfl)<|Zp rfl (fun _=>EW rfl h7 rfl)<|?_;cases hB3;refine lf<|?_;exact⟨rfl,l0_i1,l1_i1,l5_i1,hx2⟩
   rintro L w4⟨l40_j1,l0_j1,l1_j1,l5_j1,K0_j1⟩;have k3:=K0_i1.tr K0_j1;refine cnd l40_j1 (fun h9=>?_) (fun h9=>?_)
   ·have hB1:=Ah hB1 h9;refine Zr<|Za<|nl<|?_;cases hB1;have hF:=(show some _=some _ from hF);cases hF;exact wp_ret<|Zw rfl rfl rfl ⟨rfl,k3⟩
   ·have hB1:=Ai hB1 h9;refine wp_skip<|rg<|Zm<|Zv (Bg l5_j1 rfl)<|Za<|nl<|lq m (Nat.lt_succ_self _)<|?_;exact⟨_,hB1,rfl,l0_j1,l1_j1,k3⟩
  ·have hB1:=Ai hB1 h3;refine wp_exit<|?_;cases hB1;refine lf<|?_;exact⟨rfl,K0_i1⟩
 rintro L w5⟨rfl,K0_j2⟩;refine Zr<|Za<|nl<|?_;cases hF;exact wp_ret<|Zw rfl rfl rfl ⟨rfl,K0_j2⟩
theorem rZ{w0:World}{v0:Value}{x0:(Int×Int)}(r0:RV w0 v0 x0){v1:Value}{x1:(Int×Int)}(r1:RV w0 v1 x1){r:Bool}(hF:NN x0 x1=some r):
  Calls Tryz.prog 242 [v0,v1].toArray w0 (A8 fun v w'=>v=.bool r/\Ext w0 w'):=by
 unfold NN at hF;have hz:=id r0;obtain⟨_,rfl,_,_,rfl,rfl,rfl⟩:=hz;have hz:=id r1;obtain⟨_,rfl,_,_,rfl,rfl,rfl⟩:=hz;refine A9 (n:=17) Tryz.func242 rfl rfl rfl<|Zr<|CO rfl rfl fun b3 w1 hx1 hg1 hb1=>CO rfl rfl fun b4 w2 hx2 hg2 hb2=>?_;have k1:=hx1.tr hx2;have hb3:=hb1.ext hx2;refine Za<|nl<|Zr<|Zv (AV rfl F7)<|Zv (AQ rfl AY ((Bx.cs hb3).at 0 rfl))<|Zv (AV rfl F7)<|Zv (AQ rfl AY ((Bx.cs hb2).at 0 rfl))<|Zv (EU rfl rfl)<|Zm<|Zg rfl rfl (Aq rfl) (fun hc=>AV rfl Gr)<|Zg rfl rfl (Aq rfl) (fun hc=>AQ (mv hc rfl) AY ((Bx.cs hb3).at 1 rfl))<|Zg rfl rfl (Aq rfl) (fun hc=>AV rfl Gr)<|Zg rfl rfl (Aq rfl) (fun hc=>AQ (mv hc rfl) AY ((Bx.cs hb2).at 1 rfl))<|Zg rfl rfl (Aq rfl) (fun hc=>EU (mv hc rfl) (mv hc rfl))<|Zv (Gh rfl rfl rfl)<|Za<|nl<|?_;cases hF;exact wp_ret<|Zw rfl rfl rfl ⟨rfl,k1⟩
theorem rf{w0:World}{v0:Value}{x0:(Int×Int×(List (Int×Int))×(List Int))}(r0:RV w0 v0 x0){v1:Value}{x1:(List Int)}(r1:RV w0 v1 x1){F:Nat}{r:Bool}(hF:JS F x0 x1=some r):
  Calls Tryz.prog 137 [v0,v1].toArray w0 (A8 fun v w'=>v=.bool r/\Ext w0 w'):=by
 unfold JS at hF;have hz:=id r0;obtain⟨_,rfl,_,_,rfl,rfl,_,_,rfl,rfl,_,_,rfl,⟨a1,cq1,rfl,p1,q3,e1⟩,a2,cq2,rfl,p2,q4,e2⟩:=hz;have r3:=RV.of1 p1 q3 e1;have hz:=r1.sl;obtain⟨a3,cq3,rfl,-,-,-⟩:=hz;refine A9 (n:=35) Tryz.func137 rfl rfl rfl<|Zr<|CO rfl rfl fun b3 w1 hx1 hg1 hb1=>Za<|nl<|wp_seq<|Zr<|Za<|nl<|bS hF fun o1 hB1 hF=>ct (fun L w=>o1=.inr ()/\Ext w1 w) ?_ ?_
 ·refine wp_block<|lp (I:=fun m L w=>∃y1:Int,GJ F x0 x1 m y1=some o1/\L 5=.int .i64 y1/\L 1=.slice a3 x1.length cq3/\L 2=.pointer (some ⟨b3,0,none⟩)/\Ext w1 w) F ⟨_,hB1,rfl,rfl,rfl,(Ext.refl _)⟩ ?_;rintro m L w2⟨y1,hB1,l5_i1,l1_i1,l2_i1,K0_i1⟩;rcases m with _|m
  ·rw[GJ]at hB1;cases hB1
  rw[GJ]at hB1;have k1:=hx1.tr K0_i1;have hb2:=hb1.ext K0_i1;refine wp_seq<|Zr<|Zm<|Zm<|Zv (BV l1_i1 Tryz.underlying41)<|Zv (BU l5_i1 rfl)<|nl<|cnd rfl (fun h3=>?_) (fun h3=>?_)
  ·have hB1:=Ah hB1 h3;refine wp_skip<|wp_seq<|wp_block<|Zr<|Za<|nl<|bS hB1 fun o2 hB3 hB1=>ct (fun L w=>o2=.inr ()/\L 1=.slice a3 x1.length cq3/\L 2=.pointer (some ⟨b3,0,none⟩)/\L 5=.int .i64 y1/\Ext w2 w) ?_ ?_
   ·refine wp_block<|lp (I:=fun m L w=>∃y2:Int,GI F x0 x1 y1 m y2=some o2/\L 6=.int .i64 y2/\L 1=.slice a3 x1.length cq3/\L 2=.pointer (some ⟨b3,0,none⟩)/\L 5=.int .i64 y1/\Ext w2 w) F ⟨_,hB3,rfl,l1_i1,l2_i1,l5_i1,(Ext.refl _)⟩ ?_;rintro m L w3⟨y2,hB3,l6_i2,l1_i2,l2_i2,l5_i2,K0_i2⟩;rcases m with _|m
    ·rw[GI]at hB3;cases hB3
    rw[GI]at hB3;have k2:=k1.tr K0_i2;have hb3:=hb2.ext K0_i2;refine wp_seq<|Zr<|Zm<|Zm<|Zv (BU l6_i2 l5_i2)<|nl<|cnd rfl (fun h4=>?_) (fun h4=>?_)
    ·have hB3:=Ah hB3 h4;refine wp_skip<|wp_seq<|wp_block<|wp_seq<|Gq [] (.pure true 0 (.pure false 1 (.pure true 2 (.pure true 3 (.pure true 4 (.pure false 5 (.pure true 6 (.pure false 7 (.pure true 8 (.pure false 9 (.pure true 10 (.pure true 11 (.pure true 12 (.pure false 13 (.pure true 14 (.pure false 15 (.eff 16 .fin .stop))))))))))))))))) mixed (by kernel_rfl) (fun w4 hx2=>?_);have k4:=k2.tr hx2;have k6:=K0_i2.tr hx2;have hb4:=hb3.ext hx2;refine Zp rfl (fun _=>AV l2_i2 Br)<|Zq rfl (fun _ hS=>AQ rfl DV ((Bx.cs (hb4.ext (hS.resolve_left nofun))).at 2 rfl)) (Ext.refl _)<|Zn rfl<|Zn rfl<|bS hB3 fun x3 Ex3 hB3=>?_;have hz:=(RV.els r1).ix Ex3;obtain⟨b4,f1,cs3,e3,i3,i4,q5,hc1⟩:=hz;cases e3;obtain rfl:=q5;have hc2:=hc1.ext k4;refine Zp rfl (fun _=>BG l1_i2 l5_i2 Tryz.underlying41 AY i3 i4)<|Zq rfl (fun _ hS=>AQ rfl AY ((hc2.ext (hS.resolve_left nofun)).at 0 rfl)) (Ext.refl _)<|bS hB3 fun x4 Ex4 hB3=>?_;have hz:=(RV.els r3).ix Ex4;obtain⟨b5,f2,cs4,e4,i5,i6,q6,hc3⟩:=hz;cases e4;obtain⟨_,_,rfl,rfl,rfl⟩:=q6;have hc4:=hc3.ext k4;refine Zp rfl (fun _=>BG rfl rfl Tryz.underlying108 BI i5 i6)<|Zq rfl (fun _ hS=>Ab rfl BI rfl (hc4.ext (hS.resolve_left nofun))) (Ext.refl _)<|Zp rfl (fun _=>AV l2_i2 Br)<|Zq rfl (fun _ hS=>AQ rfl DV ((Bx.cs (hb4.ext (hS.resolve_left nofun))).at 2 rfl)) (Ext.refl _)<|Zn rfl<|Zn rfl<|bS hB3 fun x5 Ex5 hB3=>?_;have hz:=JB r1 Ex5;obtain⟨cs5,i7,i8,q7,hc5⟩:=hz;obtain rfl:=q7;have hc6:=hc5.ext k4;refine Zp rfl (fun _=>BG l1_i2 l6_i2 Tryz.underlying41 AY i7 i8)<|Zq rfl (fun _ hS=>AQ rfl AY ((hc6.ext (hS.resolve_left nofun)).at 0 rfl)) (Ext.refl _)<|bS hB3 fun x6 Ex6 hB3=>?_;have hz:=JB r3 Ex6;obtain⟨cs6,i9,i10,q8,hc7⟩:=hz;obtain⟨_,_,rfl,rfl,rfl⟩:=q8;have hc8:=hc7.ext k4;refine Zp rfl (fun _=>BG rfl rfl Tryz.underlying108 BI i9 i10)<|Zq rfl (fun _ hS=>Ab rfl BI rfl (hc8.ext (hS.resolve_left nofun))) (Ext.refl _)<|bS hB3 fun x7 Ex7 hB3=>CR rfl<|Zc (xc lT (mc rfl (mc rfl mn))) (rZ (show RV (α:=(Int×Int)) _ (.agg [.int .i64 x4.1,.int .i64 x4.2].toArray) (x4.1,x4.2)from⟨_,rfl,[.int .i64 x4.1],[.int .i64 x4.2],rfl,rfl,rfl⟩) (show RV (α:=(Int×Int)) _ (.agg [.int .i64 x6.1,.int .i64 x6.2].toArray) (x6.1,x6.2)from⟨_,rfl,[.int .i64 x6.1],[.int .i64 x6.2],rfl,rfl,rfl⟩) Ex7) ?_;rintro _ w5⟨rfl,hx3⟩;have k7:=k4.tr hx3;have k9:=k6.tr hx3;refine nl ⟨fun _ _=>hx3,?_⟩;refine cnd rfl (fun h5=>?_) (fun h5=>?_)
     ·have hB3:=Ah hB3 h5;refine Zr<|Za<|nl<|?_;cases hB3;have hB1:=(show some _=some _ from hB1);cases hB1;have hF:=(show some _=some _ from hF);cases hF;exact wp_ret<|Zw rfl rfl rfl ⟨rfl,k7⟩
     ·have hB3:=Ai hB3 h5;refine wp_skip<|rg<|Zm<|Zv (Bg l6_i2 rfl)<|Za<|nl<|lq m (Nat.lt_succ_self _)<|?_;exact⟨_,hB3,rfl,l1_i2,l2_i2,l5_i2,k9⟩
    ·have hB3:=Ai hB3 h4;refine wp_exit<|?_;cases hB3;refine lf<|?_;exact⟨rfl,l1_i2,l2_i2,l5_i2,K0_i2⟩
   rintro L w6⟨rfl,l1_j1,l2_j1,l5_j1,K0_j1⟩;have k11:=K0_i1.tr K0_j1;refine rg<|Zm<|Zv (Bg l5_j1 rfl)<|Za<|nl<|lq m (Nat.lt_succ_self _)<|?_;exact⟨_,hB1,rfl,l1_j1,l2_j1,k11⟩
  ·have hB1:=Ai hB1 h3;refine wp_exit<|?_;cases hB1;refine lf<|?_;exact⟨rfl,K0_i1⟩
 rintro L w7⟨rfl,K0_j2⟩;have k12:=hx1.tr K0_j2;refine Zr<|Za<|nl<|?_;cases hF;exact wp_ret<|Zw rfl rfl rfl ⟨rfl,k12⟩
theorem uS{w0:World}{v0:Value}{x0:(Int×Int×(List (Int×Int))×(List Int))}(r0:RV w0 v0 x0){F:Nat}{r:Int}(hF:Fv F x0=some r):
  Calls Tryz.prog 58 [v0].toArray w0 (A8 fun v w'=>v=.int .i64 r/\Ext w0 w'):=by
 unfold Fv at hF;have hz:=id r0;obtain⟨_,rfl,_,_,rfl,rfl,_,_,rfl,rfl,_,_,rfl,⟨a1,cq1,rfl,p1,q2,e1⟩,a2,cq2,rfl,p2,q3,e2⟩:=hz;have r2:=RV.of1 p1 q2 e1;have r3:=RV.of1 p2 q3 e2;refine A9 (n:=100) Tryz.func58 rfl rfl rfl<|Zr<|CO rfl rfl fun b2 w1 hx1 hg1 hb1=>?_;have r4:=r2.ext hx1;have r5:=r3.ext hx1;refine Za<|nl<|wp_seq<|Zr<|Zv (AV rfl K7)<|Zv (AQ rfl AY ((Bx.cs hb1).at 0 rfl))<|Zv (BU rfl rfl)<|Zm<|Zg rfl rfl (Aq rfl) (fun hc=>AV rfl K7)<|Zg rfl rfl (Aq rfl) (fun hc=>AQ (mv hc rfl) AY ((Bx.cs hb1).at 0 rfl))<|Zg rfl rfl (Aq rfl) (fun hc=>IC (mv hc rfl) rfl)<|Zv (Gh rfl rfl rfl)<|Zm<|Zg rfl rfl (Aq rfl) (fun hc=>AV rfl Mj)<|Zg rfl rfl (Aq rfl) (fun hc=>AQ (mv hc rfl) AY ((Bx.cs hb1).at 1 rfl))<|Zg rfl rfl (Aq rfl) (fun hc=>BU (mv hc rfl) rfl)<|Zv (Gh rfl rfl rfl)<|Zm<|Zg rfl rfl (Aq rfl) (fun hc=>AV rfl Mj)<|Zg rfl rfl (Aq rfl) (fun hc=>AQ (mv hc rfl) AY ((Bx.cs hb1).at 1 rfl))<|Zg rfl rfl (Aq rfl) (fun hc=>IC (mv hc rfl) rfl)<|Zv (Gh rfl rfl rfl)<|nl<|cnd rfl (fun h2=>?_) (fun h2=>?_)
 ·have hF:=Ah hF h2;refine Zr<|Za<|nl<|?_;cases hF;exact wp_ret<|Zw rfl rfl rfl ⟨rfl,hx1⟩
 ·have hF:=Ai hF h2;refine wp_skip<|wp_seq<|Zr<|Zv (AV rfl Br)<|Zv (AQ rfl DV ((Bx.cs hb1).at 2 rfl))<|Zv (BV rfl Tryz.underlying108)<|Zv (IC rfl rfl)<|nl<|cnd rfl (fun h3=>?_) (fun h3=>?_)
  ·have hF:=Ah hF h3;refine Zr<|Za<|nl<|?_;cases hF;exact wp_ret<|Zw rfl rfl rfl ⟨rfl,hx1⟩
  ·have hF:=Ai hF h3;refine wp_skip<|wp_seq<|Zr<|Za<|nl<|bS hF fun o1 hB1 hF=>ct (fun L w=>o1=.inr ()/\L 1=.pointer (some ⟨b2,0,none⟩)/\Ext w1 w) ?_ ?_
   ·refine wp_block<|lp (I:=fun m L w=>∃y1:Int,DN F x0 m y1=some o1/\L 3=.int .i64 y1/\L 1=.pointer (some ⟨b2,0,none⟩)/\Ext w1 w) F ⟨_,hB1,rfl,rfl,(Ext.refl _)⟩ ?_;rintro m L w2⟨y1,hB1,l3_i1,l1_i1,K0_i1⟩;rcases m with _|m
    ·rw[DN]at hB1;cases hB1
    rw[DN]at hB1;have k1:=hx1.tr K0_i1;have hb2:=hb1.ext K0_i1;refine wp_seq<|Zr<|Zm<|Zv (AV l1_i1 Br)<|Zv (AQ rfl DV ((Bx.cs hb2).at 2 rfl))<|Zv (BV rfl Tryz.underlying108)<|Zv (BU l3_i1 rfl)<|nl<|cnd rfl (fun h4=>?_) (fun h4=>?_)
    ·have hB1:=Ah hB1 h4;refine wp_skip<|wp_seq<|wp_block<|Zr<|Zv (AV l1_i1 Br)<|Zv (AQ rfl DV ((Bx.cs hb2).at 2 rfl))<|Zm<|bS hB1 fun x2 Ex2 hB1=>?_;have hz:=(RV.els r2).ix Ex2;obtain⟨b3,f1,cs2,e3,i2,i3,q4,hc1⟩:=hz;cases e3;obtain⟨_,_,rfl,rfl,rfl⟩:=q4;have hc2:=hc1.ext k1;refine Zv (BG rfl l3_i1 Tryz.underlying108 BI i2 i3)<|Zv (Ab rfl BI rfl hc2)<|D9 BI fun b4 w3 hx2 hg2 hb3=>?_;have k2:=k1.tr hx2;have k3:=K0_i1.tr hx2;refine DC rfl rfl rfl BI hb3 rfl rfl (ble rfl) fun w4 hch1 hb5=>?_;have k4:=Ext.chg k2 hch1 (Nat.le_trans k1.size hg2);have k5:=Ext.chg k3 hch1 (Nat.le_trans K0_i1.size hg2);have k6:=Ext.chg hx2 hch1 (Nat.le_trans (Nat.le_refl _) hg2);have hb6:=hb2.ext k6;have hb7:Bx w4 b4 112 [.int .i64 x2.1,.int .i64 x2.2]:=hb5;refine nl<|Zr<|Zv (AV rfl F7)<|Zv (AQ rfl AY ((Bx.cs hb7).at 0 rfl))<|Zv (BU rfl rfl)<|Zm<|Zg rfl rfl (Aq rfl) (fun hc=>AV rfl F7)<|Zg rfl rfl (Aq rfl) (fun hc=>AQ (mv hc rfl) AY ((Bx.cs hb7).at 0 rfl))<|Zg rfl rfl (Aq rfl) (fun hc=>AV l1_i1 K7)<|Zg rfl rfl (Aq rfl) (fun hc=>AQ (mv hc rfl) AY ((Bx.cs hb6).at 0 rfl))<|Zg rfl rfl (Aq rfl) (fun hc=>Jz (mv hc rfl) (mv hc rfl))<|Zv (Gh rfl rfl rfl)<|Zm<|Zg rfl rfl (Aq rfl) (fun hc=>AV rfl Gr)<|Zg rfl rfl (Aq rfl) (fun hc=>AQ (mv hc rfl) AY ((Bx.cs hb7).at 1 rfl))<|Zg rfl rfl (Aq rfl) (fun hc=>BU (mv hc rfl) rfl)<|Zv (Gh rfl rfl rfl)<|Zm<|Zg rfl rfl (Aq rfl) (fun hc=>AV rfl Gr)<|Zg rfl rfl (Aq rfl) (fun hc=>AQ (mv hc rfl) AY ((Bx.cs hb7).at 1 rfl))<|Zg rfl rfl (Aq rfl) (fun hc=>AV l1_i1 Mj)<|Zg rfl rfl (Aq rfl) (fun hc=>AQ (mv hc rfl) AY ((Bx.cs hb6).at 1 rfl))<|Zg rfl rfl (Aq rfl) (fun hc=>Jz (mv hc rfl) (mv hc rfl))<|Zv (Gh rfl rfl rfl)<|nl<|cnd rfl (fun h5=>?_) (fun h5=>?_)
     ·have hB1:=Ah hB1 h5;refine Zr<|Za<|nl<|?_;cases hB1;have hF:=(show some _=some _ from hF);cases hF;exact wp_ret<|Zw rfl rfl rfl ⟨rfl,k4⟩
     ·have hB1:=Ai hB1 h5;refine wp_skip<|rg<|Zm<|Zv (Bg l3_i1 rfl)<|Za<|nl<|lq m (Nat.lt_succ_self _)<|?_;exact⟨_,hB1,rfl,l1_i1,k5⟩
    ·have hB1:=Ai hB1 h4;refine wp_exit<|?_;cases hB1;refine lf<|?_;exact⟨rfl,l1_i1,K0_i1⟩
   rintro L w5⟨rfl,l1_j1,K0_j1⟩;have k7:=hx1.tr K0_j1;have r13:=r4.ext K0_j1;have r14:=r5.ext K0_j1;have hb8:=hb1.ext K0_j1;refine wp_seq<|Zr<|Za<|nl<|bS hF fun o2 hB6 hF=>ct (fun L w=>o2=.inr ()/\L 1=.pointer (some ⟨b2,0,none⟩)/\Ext w5 w) ?_ ?_
   ·refine wp_block<|lp (I:=fun m L w=>∃y2:Int,DT F x0 m y2=some o2/\L 5=.int .i64 y2/\L 1=.pointer (some ⟨b2,0,none⟩)/\Ext w5 w) F ⟨_,hB6,rfl,l1_j1,(Ext.refl _)⟩ ?_;rintro m L w6⟨y2,hB6,l5_i4,l1_i4,K0_i4⟩;rcases m with _|m
    ·rw[DT]at hB6;cases hB6
    rw[DT]at hB6;have k8:=k7.tr K0_i4;have hb9:=hb8.ext K0_i4;refine wp_seq<|Zr<|Zm<|Zv (AV l1_i4 Br)<|Zv (AQ rfl DV ((Bx.cs hb9).at 2 rfl))<|Zv (BV rfl Tryz.underlying108)<|Zv (BU l5_i4 rfl)<|nl<|cnd rfl (fun h6=>?_) (fun h6=>?_)
    ·have hB6:=Ah hB6 h6;refine wp_skip<|wp_seq<|wp_block<|Zr<|Za<|nl<|bS hB6 fun o3 hB8 hB6=>ct (fun L w=>o3=.inr ()/\L 1=.pointer (some ⟨b2,0,none⟩)/\L 5=.int .i64 y2/\Ext w6 w) ?_ ?_
     ·refine wp_block<|lp (I:=fun m L w=>∃y3:Int,DR F x0 y2 m y3=some o3/\L 6=.int .i64 y3/\L 1=.pointer (some ⟨b2,0,none⟩)/\L 5=.int .i64 y2/\Ext w6 w) F ⟨_,hB8,rfl,l1_i4,l5_i4,(Ext.refl _)⟩ ?_;rintro m L w7⟨y3,hB8,l6_i5,l1_i5,l5_i5,K0_i5⟩;rcases m with _|m
      ·rw[DR]at hB8;cases hB8
      rw[DR]at hB8;have k10:=k8.tr K0_i5;have hb10:=hb9.ext K0_i5;refine wp_seq<|Zr<|Zm<|Zm<|Zv (BU l6_i5 l5_i5)<|nl<|cnd rfl (fun h7=>?_) (fun h7=>?_)
      ·have hB8:=Ah hB8 h7;refine wp_skip<|wp_seq<|wp_block<|wp_seq<|Gq [] (.pure true 0 (.pure false 1 (.pure true 2 (.pure true 3 (.pure false 4 (.pure true 5 (.pure false 6 (.pure true 7 (.pure true 8 (.pure false 9 (.pure true 10 .fin))))))))))) mixed (by kernel_rfl) (fun w8 hx3=>?_);have k13:=k10.tr hx3;have k16:=K0_i5.tr hx3;have hb11:=hb10.ext hx3;refine Zp rfl (fun _=>AV l1_i5 Br)<|Zq rfl (fun _ hS=>AQ rfl DV ((Bx.cs (hb11.ext (hS.resolve_left nofun))).at 2 rfl)) (Ext.refl _)<|Zn rfl<|bS hB8 fun x3 Ex3 hB8=>?_;have hz:=(RV.els r2).ix Ex3;obtain⟨b5,f2,cs3,e4,i6,i7,q5,hc3⟩:=hz;cases e4;obtain⟨_,_,rfl,rfl,rfl⟩:=q5;have hc4:=hc3.ext k13;refine Zp rfl (fun _=>BG rfl l5_i5 Tryz.underlying108 BI i6 i7)<|Zq rfl (fun _ hS=>Ab rfl BI rfl (hc4.ext (hS.resolve_left nofun))) (Ext.refl _)<|Zp rfl (fun _=>AV l1_i5 Br)<|Zq rfl (fun _ hS=>AQ rfl DV ((Bx.cs (hb11.ext (hS.resolve_left nofun))).at 2 rfl)) (Ext.refl _)<|Zn rfl<|bS hB8 fun x4 Ex4 hB8=>?_;have hz:=JB r2 Ex4;obtain⟨cs4,i8,i9,q6,hc5⟩:=hz;obtain⟨_,_,rfl,rfl,rfl⟩:=q6;have hc6:=hc5.ext k13;refine Zp rfl (fun _=>BG rfl l6_i5 Tryz.underlying108 BI i8 i9)<|Zq rfl (fun _ hS=>Ab rfl BI rfl (hc6.ext (hS.resolve_left nofun))) (Ext.refl _)<|Zp rfl (fun _=>Sz (α:=(Int×Int)) (a:=(x3.1,x3.2)) (b:=(x4.1,x4.2)) rfl WS WR rfl rfl rfl rfl rfl)<|cnd rfl (fun h8=>?_) (fun h8=>?_)
       ·have hB8:=Ah hB8 h8;refine Zr<|Za<|nl<|?_;cases hB8;have hB6:=(show some _=some _ from hB6);cases hB6;have hF:=(show some _=some _ from hF);cases hF;exact wp_ret<|Zw rfl rfl rfl ⟨rfl,k13⟩
       ·have hB8:=Ai hB8 h8;refine wp_skip<|rg<|Zm<|Zv (Bg l6_i5 rfl)<|Za<|nl<|lq m (Nat.lt_succ_self _)<|?_;exact⟨_,hB8,rfl,l1_i5,l5_i5,k16⟩
      ·have hB8:=Ai hB8 h7;refine wp_exit<|?_;cases hB8;refine lf<|?_;exact⟨rfl,l1_i5,l5_i5,K0_i5⟩
     rintro L w9⟨rfl,l1_j2,l5_j2,K0_j2⟩;have k19:=K0_i4.tr K0_j2;refine rg<|Zm<|Zv (Bg l5_j2 rfl)<|Za<|nl<|lq m (Nat.lt_succ_self _)<|?_;exact⟨_,hB6,rfl,l1_j2,k19⟩
    ·have hB6:=Ai hB6 h6;refine wp_exit<|?_;cases hB6;refine lf<|?_;exact⟨rfl,l1_i4,K0_i4⟩
   rintro L w10⟨rfl,l1_j3,K0_j3⟩;have k20:=k7.tr K0_j3;have r23:=r13.ext K0_j3;have r24:=r14.ext K0_j3;have hb13:=hb8.ext K0_j3;refine wp_seq<|Zr<|Zv (AV l1_j3 IU)<|Zv (AQ rfl Kl ((Bx.cs hb13).at 3 rfl))<|Zv (AV l1_j3 Br)<|Zv (AQ rfl DV ((Bx.cs hb13).at 2 rfl))<|Zv (BV rfl Tryz.underlying108)<|bS hF fun x5 Ex5 hF=>Zc (xc lJ (mc rfl (mc rfl mn))) (rY r24 Ex5) ?_;rintro _ w11⟨rfl,hx4⟩;have k22:=k20.tr hx4;have hb14:=hb13.ext hx4;have r25:=r23.ext hx4;have r26:=r24.ext hx4;refine Zv (EK rfl)<|Zm<|Zg rfl rfl (Aq rfl) (fun hc=>Ab l1_j3 GA rfl (Bx.cs hb14))<|Zg rfl rfl (Aq rfl) (fun hc=>AV l1_j3 IU)<|Zg rfl rfl (Aq rfl) (fun hc=>AQ (mv hc rfl) Kl ((Bx.cs hb14).at 3 rfl))<|bS hF fun x6 Ex6 hF=>gc rfl rfl rfl rfl (Aq rfl) rfl (fun hc=>xc lK (mc (mv hc rfl) (mc (mv hc rfl) mn))) (fun hc=>(rf (show RV (α:=(Int×Int×(List (Int×Int))×(List Int))) _ (.agg [.int .i64 x0.1,.int .i64 x0.2.1,.slice a1 x0.2.2.1.length cq1,.slice a2 x0.2.2.2.length cq2].toArray) (x0.1,x0.2.1,x0.2.2.1,x0.2.2.2)from⟨_,rfl,[.int .i64 x0.1],[.int .i64 x0.2.1]++([.slice a1 x0.2.2.1.length cq1]++[.slice a2 x0.2.2.2.length cq2]),rfl,rfl,[.int .i64 x0.2.1],[.slice a1 x0.2.2.1.length cq1]++[.slice a2 x0.2.2.2.length cq2],rfl,rfl,[.slice a1 x0.2.2.1.length cq1],[.slice a2 x0.2.2.2.length cq2],rfl,r25.rep1,r26.rep1⟩) r26 (Lg Ex6 hc))) (fun v2 w12 hy1 hn1=>?_);have hx5:Ext w11 w12:=gx (fun h=>(hy1 h).2) (fun h=>(hn1 h).2▸Ext.refl _);have e5:=Li (fun h=>(hy1 h).1) (fun h=>(hn1 h).1);have k25:=k22.tr hx5;refine Zg rfl rfl (Aq rfl) (fun hc=>EK (mv hc e5))<|Zv (Gh rfl rfl rfl)<|nl<|cnd rfl (fun h9=>?_) (fun h9=>?_)
   ·have hF:=Ah hF h9;refine Zr<|Za<|nl<|?_;cases hF;exact wp_ret<|Zw rfl rfl rfl ⟨rfl,k25⟩
   ·have hF:=Ai hF h9;refine wp_skip<|Zr<|Za<|nl<|?_;cases hF;exact wp_ret<|Zw rfl rfl rfl ⟨rfl,k25⟩
end Go.Proofs.YtfmelbioccbdoaaGreat
end
section
namespace Go.Proofs.YtfmelbioccbdoaaGreat
open Go Go.Md Go.RowKit
abbrev Ba:=Int×Int
abbrev CF:=Ar 12 Int
abbrev Df:=List ((Bool×Int)×Int)
instance:Key (Bool×Int):=⟨fun k=>(Lit.int .i64 k.2).wf⟩
def EH(L:List Ba)(al:Int->Bool)(left:Int):Nat->Nat->List Int
 |0,_=>[]
 |n+1,k=>if(match L[k]? with|some x=>decide (x.1=left)&&al k|none=>false)=true then(k:Int)::EH L al left n (k+1)else EH L al left n (k+1)
def Gn(L:List Ba)(al:Int->Bool)(left:Int):List Int:=EH L al left L.length 0
def Ie(L:List Ba)(f:Int->CF->Df->Option (Bool×CF×Df)):List Int->CF->Df->Option (Bool×CF×Df)
 |[],P,S=>some (false,P,S)
 |k::l,P,S=>
  (ix L k)>>=fun x=>
  (PL ((true,x.2):Bool×Int))>>=fun _=>
  if decide (BQ 0 S (true,x.2)=1)=true then Ie L f l P S
  else
   (ix P.l x.2)>>=fun old=>
   if decide (old=0)=true then some (true,Cc P x.2 (Aa (k+1)),BL S (true,x.2) 1)
   else
    (ix L (Aa (old-1)))>>=fun y=>
    (f y.1 P (BL S (true,x.2) 1))>>=fun q=>
    if q.1=true then some (true,Cc q.2.1 x.2 (Aa (k+1)),q.2.2)else Ie L f l q.2.1 q.2.2
def GZ(L:List Ba)(al:Int->Bool):Nat->Int->CF->Df->Option (Bool×CF×Df)
 |0,_,_,_=>none
 |m+1,left,P,S=>Ie L (fun a P S=>GZ L al m a P S) (Gn L al left) P S
def Ig(L:List Ba)(al:Int->Bool)(F:Nat)(n:Int):Nat->Int->Int->CF->Option (Int×CF)
 |0,_,_,_=>none
 |m+1,i,c,P=>
  if decide (i<n)=true then
   (GZ L al F i P [])>>=fun q=>
   if(!decide (q.2.1=P))=true then Ig L al F n m (Aa (i+1)) (Aa (c+1)) q.2.1 else Ig L al F n m (Aa (i+1)) c q.2.1
  else some (c,P)
def FL(F:Nat)(L:List Ba)(n:Int)(al:Int->Bool):Option (Int×CF):=Ig L al F n F 0 0 (Ar.fill 12 0)
namespace L5
theorem Kh{f g:Nat->Bool}{r:Nat}(h:∀i,i≠r->f i=g i):∀{n:Nat},r<n->(List.range n).countP f+(if g r=true then 1 else 0)=(List.range n).countP g+(if f r=true then 1 else 0)
 |0,hr=>by omega
 |n+1,hr=>by
  rw[List.range_succ,List.countP_append,List.countP_append];by_cases e:r=n
  ·subst e
   have:(List.range r).countP f=(List.range r).countP g:=by
    apply List.countP_congr;intro x hx;have:=List.mem_range.1 hx;rw[h x (by omega)]
   rw[this];simp only[List.countP_cons,List.countP_nil];omega
  ·have ih:=Kh h (n:=n) (by omega)
   have:f n=g n:=h n (fun x=>e x.symm);simp only[List.countP_cons,List.countP_nil,this];omega
theorem bE{p q:Nat->Bool}{n r:Nat}(h:∀i,p i=true->q i=true)(hr:r<n)(h1:p r=false)(h2:q r=true):(List.range n).countP p<(List.range n).countP q:=by
 have e:=Kh (f:=p) (g:=fun i=>if i=r then true else p i) (r:=r) (fun i hi=>by simp[hi]) hr;have e2:(List.range n).countP (fun i=>if i=r then true else p i)<=(List.range n).countP q:=by
  apply List.countP_mono_left;intro x _ hx;by_cases hxr:x=r
  ·rw[hxr];exact h2
  ·simp only[hxr,if_false]at hx
   exact h x hx
 simp only[if_true,h1]at e;simp at e;simp at e2;omega
section
variable {L:List Ba}{al:Int->Bool}
theorem UZ{left:Int}:∀{n k:Nat}{j:Int},j∈EH L al left n k↔∃i:Nat,j=i/\k<=i/\i<k+n/\∃x,L[i]?=some x/\x.1=left/\al i=true
 |0,k,j=>by
  simp only[EH,List.not_mem_nil,false_iff];rintro⟨i,_,h1,h2,_⟩;omega
 |n+1,k,j=>by
  have ih:=UZ (left:=left) (n:=n) (k:=k+1) (j:=j);simp only[EH];cases hL:L[k]? with
  |none=>
   simp only[Bool.false_eq_true,if_false];rw[ih];constructor
   ·rintro⟨i,h1,h2,h3,h4⟩;exact⟨i,h1,by omega,by omega,h4⟩
   ·rintro⟨i,h1,h2,h3,x,h4,h5⟩
    refine⟨i,h1,?_,by omega,x,h4,h5⟩;rcases Nat.lt_or_eq_of_le h2 with h|h
    ·omega
    ·rw[<-h,hL]at h4;cases h4
  |some x=>
   by_cases hc:(decide (x.1=left)&&al k)=true
   ·simp only[hc,if_true,List.mem_cons,ih]
    simp only[Bool.and_eq_true,decide_eq_true_eq]at hc;constructor
    ·rintro(h|⟨i,h1,h2,h3,h4⟩)
     ·exact⟨k,h,by omega,by omega,x,hL,hc.1,hc.2⟩
     ·exact⟨i,h1,by omega,by omega,h4⟩
    ·rintro⟨i,h1,h2,h3,h4⟩
     rcases Nat.lt_or_eq_of_le h2 with h|h
     ·exact .inr ⟨i,h1,by omega,by omega,h4⟩
     ·exact .inl (by rw[h1,h])
   ·simp only[hc,if_false,ih,Bool.false_eq_true]
    simp only[Bool.and_eq_true,decide_eq_true_eq,not_and]at hc;constructor
    ·rintro⟨i,h1,h2,h3,h4⟩;exact⟨i,h1,by omega,by omega,h4⟩
    ·rintro⟨i,h1,h2,h3,y,h4,h5,h6⟩
     refine⟨i,h1,?_,by omega,y,h4,h5,h6⟩;rcases Nat.lt_or_eq_of_le h2 with h|h
     ·omega
     ·subst h
      rw[hL]at h4;cases h4;exact absurd h6 (by simpa using hc h5)
theorem Ua{left j:Int}:j∈Gn L al left↔∃i:Nat,j=i/\∃x,L[i]?=some x/\x.1=left/\al i=true:=by
 unfold Gn;rw[UZ];constructor
 ·rintro⟨i,h1,_,_,h⟩;exact⟨i,h1,h⟩
 ·rintro⟨i,h1,x,h2,h3⟩
  have:=(List.getElem?_eq_some_iff.1 h2).1;exact⟨i,h1,by omega,by omega,x,h2,h3⟩
def pa(P:CF)(r:Nat):Int:=P.l.getD r 0
def sn(S:Df)(r:Nat):Prop:=BQ 0 S (true,(r:Int))=1
instance {S:Df}{r:Nat}:Decidable (sn S r):=inferInstanceAs (Decidable (_=_))
theorem OZ{κ ν:Type}[DecidableEq κ]{d v:ν}{k:κ}:∀{l:List (κ×ν)},BQ d (BL l k v) k=v
 |[]=>by simp[BL,BQ]
 |(a,b)::l=>by
  unfold BL;split
  ·simp[BQ]
  ·rename_i h
   simp only[BQ,if_neg h];exact OZ
theorem Oa{κ ν:Type}[DecidableEq κ]{d v:ν}{k q:κ}(hq:q≠k):∀{l:List (κ×ν)},BQ d (BL l k v) q=BQ d l q
 |[]=>by simp[BL,BQ,Ne.symm hq]
 |(a,b)::l=>by
  unfold BL;split
  ·rename_i h
   subst h;simp[BQ,Ne.symm hq]
  ·rename_i h
   simp only[BQ];rw[Oa hq]
theorem JZ{S:Df}{r r':Nat}:sn (BL S (true,(r:Int)) 1) r'↔r'=r\/sn S r':=by
 unfold sn;by_cases h:r'=r
 ·subst h
  simp[OZ]
 ·rw[Oa (by intro e;simp only[Prod.mk.injEq,true_and]at e;omega)]
  simp[h]
theorem II{P:CF}{r r':Nat}{v:Int}(hr:r<12):pa (Cc P (r:Int) v) r'=if r'=r then v else pa P r':=by
 have hl:=P.h;have e:(Cc P (r:Int) v).l=P.l.set r v:=rfl;unfold pa;rw[e,List.getD_eq_getElem?_getD,List.getD_eq_getElem?_getD,List.getElem?_set];by_cases h:r'=r
 ·subst h
  simp[hl,hr]
 ·simp[h,Ne.symm h]
theorem dx{P:CF}{r:Nat}(hr:r<12):ix P.l (r:Int)=some (pa P r):=by
 have hl:=P.h;unfold ix pa;rw[if_pos (by omega),Int.toNat_natCast,List.getD_eq_getElem?_getD,List.getElem?_eq_getElem (by omega)]
 rfl
def VP(L:List Ba)(al:Int->Bool)(P:CF):Prop:=∀r,r<12->pa P r≠0->∃k:Nat,pa P r=(k:Int)+1/\∃x,L[k]?=some x/\x.2=r/\al k=true
def lf(L:List Ba)(P:CF)(r:Nat):Option Int:=if pa P r=0 then none else(L[(pa P r-1).toNat]?).map (·.1)
def cn(L:List Ba)(P:CF)(a:Int):Nat:=(List.range 12).countP fun r=>decide (lf L P r=some a)
def mc(P:CF):Nat:=(List.range 12).countP fun r=>decide (pa P r≠0)
def un(S:Df):Nat:=(List.range 12).countP fun r=>decide (¬sn S r)
def Nb(L:List Ba)(al:Int->Bool)(a:Int)(R:Nat->Prop):Prop:=∀(k:Nat)(x:Ba),L[k]?=some x->x.1=a->al k=true->R x.2.toNat
def oV(L:List Ba)(al:Int->Bool)(P:CF)(R:Nat->Prop):Prop:=∀r,R r->r<12/\pa P r≠0/\∀a,lf L P r=some a->Nb L al a R
structure FS(L:List Ba)(al:Int->Bool)(left:Int)(Q:List Int)(P:CF)(S:Df)(q:Bool×CF×Df):Prop where
 vp:VP L al q.2.1
 mono:∀r,sn S r->sn q.2.2 r
 keep:∀r,sn S r->pa q.2.1 r=pa P r
 fail:q.1=false->q.2.1=P/\(∀k∈Q,∀x,ix L k=some x->sn q.2.2 x.2.toNat)/\∀r,r<12->sn q.2.2 r->¬sn S r->pa P r≠0/\∀a,lf L P r=some a->Nb L al a (sn q.2.2)
 succ:q.1=true->mc q.2.1=mc P+1/\∀a,cn L q.2.1 a=cn L P a+(if a=left then 1 else 0)
 clo:∀R,oV L al P R->(∀r,R r->pa q.2.1 r=pa P r)/\((∀k∈Q,∀x,ix L k=some x->R x.2.toNat)->q.1=false)
theorem O4{P:CF}{r k:Nat}{x:Ba}(h:pa P r=(k:Int)+1)(hx:L[k]?=some x):lf L P r=some x.1:=by
 unfold lf;rw[if_neg (by omega),h,show((k:Int)+1-1).toNat=k by omega,hx]
 rfl
theorem RN{P:CF}{r:Nat}(h:pa P r=0):lf L P r=none:=by unfold lf;rw[if_pos h]
theorem ZB{P:CF}{r:Nat}{v:Int}(hr:r<12)(hv:v≠0):mc (Cc P (r:Int) v)+(if pa P r≠0 then 1 else 0)=mc P+1:=by
 have:=Kh (f:=fun i=>decide (pa (Cc P (r:Int) v) i≠0)) (g:=fun i=>decide (pa P i≠0)) (r:=r) (fun i hi=>by simp only[II hr,if_neg hi]) hr;simp only[decide_eq_true_eq,II hr,if_true,hv,ne_eq,not_false_eq_true]at this;unfold mc;simpa[II hr]using this
theorem ZC{P:CF}{r k:Nat}{x:Ba}(hr:r<12)(hx:L[k]?=some x)(a:Int):cn L (Cc P (r:Int) ((k:Int)+1)) a+(if lf L P r=some a then 1 else 0)=cn L P a+(if a=x.1 then 1 else 0):=by
 have e1:lf L (Cc P (r:Int) ((k:Int)+1)) r=some x.1:=O4 (k:=k) (by rw[II hr,if_pos rfl]) hx;have:=Kh (f:=fun i=>decide (lf L (Cc P (r:Int) ((k:Int)+1)) i=some a)) (g:=fun i=>decide (lf L P i=some a)) (r:=r) (fun i hi=>by
  have h2:lf L (Cc P (r:Int) ((k:Int)+1)) i=lf L P i:=by unfold lf;rw[II hr,if_neg hi]
  simp only[h2]) hr
 simp only[decide_eq_true_eq,e1,Option.some.injEq]at this;unfold cn;rw[this]
 congr 1
 simp only[eq_comm]
theorem jZ{S:Df}{r:Nat}(hr:r<12)(h:¬sn S r):un (BL S (true,(r:Int)) 1)<un S:=by
 unfold un;refine bE (r:=r) (fun i hi=>?_) hr (by simp[JZ]) (by simpa using h);simp only[decide_eq_true_eq,JZ,not_or]at hi⊢;exact hi.2
end
end L5
end Go.Proofs.YtfmelbioccbdoaaGreat
end
section
namespace Go.Proofs.YtfmelbioccbdoaaGreat
open Go Go.Md Go.RowKit
theorem ja:Tryz.prog.cellsOf 4=1:=by kernel_rfl
theorem fO{d:Nat}(hd:0<d){a:Bool}:Tryz.prog.keyLits d 4 [.bool a]=some [.bool a]:=by
 obtain⟨d,rfl⟩:∃e,d=e+1:=⟨d-1,by omega⟩;unfold Program.keyLits;rw[Tryz.underlying4]
theorem jb{a b:Bool×Int}(h:fv a=fv b):a=b:=by
 obtain⟨a1,a2⟩:=a;obtain⟨b1,b2⟩:=b;have:(Value.agg #[.bool a1,.int .i64 a2])=.agg #[.bool b1,.int .i64 b2]:=h;simp at this;simp[this.1,this.2]
theorem jc:(350:TypeId)<Tryz.prog.types.size:=of_decide_eq_true (by kernel_rfl)
theorem Ub:Tryz.prog.cellsOf 350=2:=by kernel_rfl
theorem fP:Tryz.prog.keyType 350=true:=by kernel_rfl
theorem bG:Tryz.prog.keyTypeAt 2 350=true:=by kernel_rfl
theorem Xx:KT Tryz.prog 350 (Bool×Int)where
 kd:=Maps.Keyed.of_law (by refine deep_law_laid TS (m:=2) (by omega) jc bG ?_;rw[Tryz.underlying350])
 of:=by
  rintro⟨a,b⟩ h;have hb:(Lit.int .i64 b).wf=true:=h;have hv:fv ((a,b):Bool×Int)=.agg #[.bool a,.int .i64 b]:=rfl;have hp:0<462:=by decide
  refine⟨.string (keyBytes [.bool a,.int .i64 b]),?_⟩;rw[hv,keyOf,Tryz.underlying350];simp only[fP,Value.formed,Tryz.underlying350,Ub];unfold Program.keyLits;rw[Tryz.underlying350];simp[Value.cells,Ub,YM,ja,Q5 hp hb,fO hp]
 inj:=fun _ _=>jb
end Go.Proofs.YtfmelbioccbdoaaGreat
end
section
namespace Go.Proofs.YtfmelbioccbdoaaGreat
open Go Go.Md Go.RowKit
attribute [local irreducible] Go.wpList Go.Code.wp Go.Calls Go.Md.C9 Go.Md.Mt Go.Md.Dz Go.Md.CW Go.Code.wpIn Go.wpListIn
section
theorem Qk(l1 l2 vs:List Value)(o:Nat):Md.BX (l1++l2) (l1.length+o) vs=l1++Md.BX l2 o vs:=by
 unfold Md.BX;rw[List.take_append,List.drop_append,List.take_of_length_le (by omega),List.drop_of_length_le (l:=l1) (by omega),show l1.length+o-l1.length=o by omega,show l1.length+o+vs.length-l1.length=o+vs.length by omega];simp[List.append_assoc]
def Ql(n mm:Int)(a1:Option Addr)(c1:Nat)(kv:Value)(L:List Ba):List Value:=[.int .i64 n,.int .i64 mm,.slice a1 L.length c1,kv]++List.replicate 24 (.int .i64 0)
def Fy(n mm:Int)(a1:Option Addr)(c1:Nat)(kv:Value)(L:List Ba)(P:CF):List Value:=Ql n mm a1 c1 kv L++P.l.flatMap Flat.enc
theorem ME{n mm:Int}{a1:Option Addr}{c1:Nat}{kv:Value}{L:List Ba}:(Ql n mm a1 c1 kv L).length=28:=rfl
theorem Qm{n mm:Int}{a1:Option Addr}{c1:Nat}{kv:Value}{L:List Ba}{P:CF}:(Fy n mm a1 c1 kv L P).length=40:=by
 unfold Fy;rw[List.length_append,ME,Ir]
 rfl
theorem Xy{n mm:Int}{a1:Option Addr}{c1:Nat}{kv:Value}{L:List Ba}{P:CF}{r v:Int}(h0:0<=r)(h1:r<12):Md.BX (Fy n mm a1 c1 kv L P) (28+r.toNat) [.int .i64 v]=Fy n mm a1 c1 kv L (Cc P r v):=by
 have hP:P.l.length=12:=P.h;have e2:(Cc P r v).l.flatMap Flat.enc=Md.BX (P.l.flatMap Flat.enc) (r.toNat*Enc.n Int) (Flat.enc v):=(JM P.l r.toNat v (by omega)).symm;have n2:Enc.n Int=1:=rfl;have h3:(Flat.enc v:List Value)=[.int .i64 v]:=rfl;unfold Fy;rw[<-ME (n:=n) (mm:=mm) (a1:=a1) (c1:=c1) (kv:=kv) (L:=L),Qk,e2,n2,Nat.mul_one,h3]
theorem Xz{n mm:Int}{a1:Option Addr}{c1:Nat}{kv:Value}{L:List Ba}{P:CF}:Md.BX (Fy n mm a1 c1 kv L P) 28 (List.replicate 12 (.int .i64 0))=Fy n mm a1 c1 kv L (Ar.fill 12 0):=by
 have e:Md.BX (P.l.flatMap Flat.enc) 0 (List.replicate 12 (Value.int .i64 0))=(Ar.fill 12 (0:Int)).l.flatMap Flat.enc:=by
  unfold Md.BX;have:(P.l.flatMap Flat.enc:List Value).length=12:=by rw[Ir];rfl
  rw[List.take_zero,List.length_replicate,List.drop_of_length_le (by omega)]
  rfl
 unfold Fy;have:=Qk (Ql n mm a1 c1 kv L) (P.l.flatMap Flat.enc) (List.replicate 12 (Value.int .i64 0)) 0;rw[ME,Nat.add_zero,e]at this;exact this
structure Jnm(N:Nat)(w:World)(b:Nat)(n mm:Int)(a1:Option Addr)(c1:Nat)(kv:Value)(L:List Ba)(P:CF):Prop where
 size:N<=w.heap.size
 lb:b<N
 bx:Bx w b 241 (Fy n mm a1 c1 kv L P)
 rv:RVo (fun q=>q<N/\q≠b) w (.slice a1 L.length c1) L
 kn:∃a2 c2,kv=.slice a2 0 c2/\c2<=maxLen
section
variable {N:Nat}{w w':World}{b:Nat}{n mm:Int}{a1:Option Addr}{c1:Nat}{kv:Value}{L:List Ba}{P P':CF}
theorem Jnm.ext(h:Jnm N w b n mm a1 c1 kv L P)(k:Ext w w'):Jnm N w' b n mm a1 c1 kv L P:=⟨Nat.le_trans h.size k.size,h.lb,h.bx.ext k,h.rv.ext k,h.kn⟩
theorem Jnm.keep(h:Jnm N w b n mm a1 c1 kv L P)(k:BelP (fun q=>q≠b) N w w')(hb:Bx w' b 241 (Fy n mm a1 c1 kv L P')):Jnm N w' b n mm a1 c1 kv L P':=
 ⟨Nat.le_trans h.size k.size,h.lb,hb,h.rv.keep (fun q hq _=>k.block q hq.1 hq.2) k.size,h.kn⟩
theorem Jnm.chg{l:Nat}(h:Jnm N w b n mm a1 c1 kv L P)(k:Chg l w w')(hl:N<=l):Jnm N w' b n mm a1 c1 kv L P:=by
 have hb:=h.lb;exact⟨by rw[k.size];exact h.size,h.lb,h.bx.chg k (by omega),h.rv.chg k (by omega),h.kn⟩
theorem Jnm.part(h:Jnm N w b n mm a1 c1 kv L P):Cs w b 28 (P.l.flatMap Flat.enc):=by
 have:=(Bx.cs h.bx).snd (l1:=Ql n mm a1 c1 kv L);rwa [ME]at this
theorem Jnm.set{v r:Int}(h:Jnm N w b n mm a1 c1 kv L P)(h0:0<=r)(h1:r<12)(k:Chg b w w')(hb:Bx w' b 241 (Md.BX (Fy n mm a1 c1 kv L P) (28+r.toNat) [.int .i64 v])):Jnm N w' b n mm a1 c1 kv L (Cc P r v):=by
 rw[Xy h0 h1]at hb;exact h.keep (BelP.refl.chg k (.inr fun e=>e rfl)) hb
theorem Jnm.tak{B:Nat}(h:Jnm N w b n mm a1 c1 kv L P)(k:Tak B w w')(hB:N<=B):Jnm N w' b n mm a1 c1 kv L P:=by
 have hb:=h.lb;exact⟨by rw[k.size];exact h.size,h.lb,(k.low b (by omega)).trans h.bx,h.rv.keep (fun q hq _=>k.low q (by omega)) (by rw[k.size];exact Nat.le_refl _),h.kn⟩
def JE(N b:Nat)(n mm:Int)(a1:Option Addr)(c1:Nat)(kv:Value)(L:List Ba)(w:World):Prop:=∃P,Jnm N w b n mm a1 c1 kv L P
def KpJ(N b:Nat)(n mm:Int)(a1:Option Addr)(c1:Nat)(kv:Value)(L:List Ba)(ok:Nat->Prop)(B:Nat)(A C:World):Prop:=BelP ok B A C/\(JE N b n mm a1 c1 kv L A->JE N b n mm a1 c1 kv L C)
theorem KpJ.kp{ok:Nat->Prop}{B:Nat}(hB:N<=B):KpOk B (KpJ N b n mm a1 c1 kv L ok B):=
 KpOk.and KpOk.belp ⟨fun h1 h2 h=>h2 (h1 h),fun _ k⟨P,h⟩=>⟨P,h.ext k⟩,fun hl _ k⟨P,h⟩=>⟨P,h.chg k (by omega)⟩⟩
def Al(N:Nat)(w0:World)(b:Nat)(n mm:Int)(a1:Option Addr)(c1:Nat)(kv:Value)(L:List Ba)(v:Value)(p:Int->Bool):Prop:=
 ∃(g:FuncId)(fs cs:List Value),v=.func (.func g) (List.toArray fs) (List.toArray cs)/\AR Tryz.prog g/\∀W P(k:Nat),BelP (fun q=>q≠b) N w0 W->Jnm N W b n mm a1 c1 kv L P->k<L.length->
  Calls Tryz.prog g (fs++([.int .i64 (k:Int)]:List Value)++cs).toArray W (A8 fun r W'=>r=.bool (p k)/\Ext W W')
theorem Al.keep{v:Value}{p:Int->Bool}(h:Al N w b n mm a1 c1 kv L v p)(k:BelP (fun q=>q≠b) N w w'):Al N w' b n mm a1 c1 kv L v p:=
 let⟨g,fs,cs,e,c,h⟩:=h
 ⟨g,fs,cs,e,c,fun W P j h1=>h W P j (k.trans h1)⟩
end
set_option maxHeartbeats 2000000 in
theorem jd{m:Nat}{N:Nat}{w:World}{bj bl bf b:Nat}{n mm:Int}{a1:Option Addr}{c1:Nat}{kv:Value}{L:List Ba}{P:CF}{v:Value}{al:Int->Bool}{left:Int}{ok:Nat->Prop}
  (h1:Bx w bj 233 [.pointer (some ⟨b,0,none⟩)]) (h2:Bx w bl 3 [.int .i64 left]) (h3:Bx w bf 236 [v]) (n1:ok bj) (n2:ok bl) (n3:ok bf) (hJn:Jnm N w b n mm a1 c1 kv L P) (hA:Al N w b n mm a1 c1 kv L v al) (hok:∀q,q<N->q≠b->ok q):
  KC Tryz.prog (KpJ N b n mm a1 c1 kv L ok w.heap.size) m 318 #[.pointer (some ⟨bj,0,none⟩),.pointer (some ⟨bl,0,none⟩),.pointer (some ⟨bf,0,none⟩)] ((Gn L al left).map fun k=>#[fv k]) w:=by
 intro ll J Jx W kW hJ hJx hY h0;have d1:=h1.ext kW;have JW:=hJn.ext kW;have hN:=hJn.size;have hNW:w.heap.size<=W.heap.size:=kW.size;refine(callsIn_wide.2 ?_:CallsIn Fence.wide m Tryz.prog 318 ([.func (.yield ll) #[] #[],.pointer (some ⟨bj,0,none⟩),.pointer (some ⟨bl,0,none⟩),.pointer (some ⟨bf,0,none⟩)].toArray) W _);refine Calls.mono (R:=A8 fun v W'=>J ((Gn L al left).map fun x=>#[fv x]).length W'\/Jx W') ?_ ?_
 rotate_left
 ·rintro e W'⟨v,rfl,h⟩
  exact⟨⟨v,rfl⟩,h⟩
 have hcap:=(RVo.rv hJn.rv).cap;refine A9 (n:=34) Tryz.func318 rfl rfl rfl<|Zr<|Zv (AQ rfl GD ((Bx.cs d1).at 0 rfl))<|Zv (Cv rfl)<|Zv (AV rfl Ml)<|Zv (AV rfl Br)<|Zv (AQ rfl DV ((Bx.cs JW.bx).at 2 rfl))<|Zv (BV rfl Tryz.underlying108)<|Zm<|nl<|wp_block<|lp (I:=fun m' L' w1=>∃(k:Nat)(pre:List Int),k+m'=L.length/\Gn L al left=pre++EH L al left m' k/\L' 13=.int .i64 (k:Int)/\L' 12=.int .i64 (L.length:Int)/\L' 11=.slice a1 L.length c1/\L' 0=.func (.yield ll) #[] #[]/\L' 2=.pointer (some ⟨bl,0,none⟩)/\L' 3=.pointer (some ⟨bf,0,none⟩)/\J pre.length w1/\KpJ N b n mm a1 c1 kv L ok w.heap.size W w1) L.length
  ⟨0,[],by simp,rfl,rfl,rfl,rfl,rfl,rfl,rfl,h0,BelP.refl,id⟩ ?_
 rintro m' L' w1⟨k,pre,hk,hl,l13,l12,l11,l0,l2,l3,hj,hx,hje⟩;refine Zr<|Zv (BU l13 l12)<|nl<|wp_seq<|cnd rfl (fun hc=>?_) (fun hc=>?_)
 ·have hc:(k:Int)<(L.length:Int):=by simpa using hc
  have hkl:k<L.length:=by omega
  obtain⟨m'',rfl⟩:∃q,m'=q+1:=⟨m'-1,by omega⟩;have hg:L[k]?=some L[k]:=List.getElem?_eq_getElem hkl;have hix:ix L (k:Int)=some L[k]:=by simp[ix,hg]
  obtain⟨P1,J1⟩:=hje ⟨P,JW⟩;have hz:=(RVo.sl.1 J1.rv);obtain⟨a2',c2',e3,_,_,els⟩:=hz;cases e3;have hz:=Els.ix els hix;obtain⟨b5,off5,cs5,rfl,i1,i2,q5,hcE⟩:=hz;obtain rfl:=Flat.iff.1 q5;have hadd:Aa ((k:Int)+1)=((k+1:Nat):Int):=by
   rw[Aa,IntWalk.i64_in _ (by unfold maxLen at hcap;omega)]
   rfl
  refine wp_skip<|wp_seq<|wp_block<|Zr<|Zv (BM l13)<|Zv (BG l11 l13 Tryz.underlying108 BI i1 i2)<|Zv (Ab rfl BI rfl hcE)<|D9 BI fun b6 w2 hx2 hg2 hb2=>Za<|DC rfl rfl rfl BI hb2 rfl rfl (ble rfl) fun w3 hch3 hb3=>?_;have kx3:Ext w1 w3:=hx2.chg hch3 hg2;have hj3:J pre.length w3:=hJ _ _ _ hj kx3;have hx3:=hx.ext kx3 (Nat.le_trans hNW hx.size);have J3:=J1.ext kx3;have d2:=((h2.ext kW).belp hx (by have:=h2.lt;omega) n2).ext kx3;have d3:=((h3.ext kW).belp hx (by have:=h3.lt;omega) n3).ext kx3;have hb3':Bx w3 b6 112 (Flat.enc L[k]):=hb3;have kA:BelP (fun q=>q≠b) N w w3:=(BelP.of kW hN).trans (hx3.weak fun q h4 h5=>⟨by omega,hok q h4 h5⟩);refine nl<|wp_seq<|oK (m:=m)<|FZ rfl rfl nofun (AV rfl F7)<|FZ rfl rfl nofun (AQ rfl AY ((Bx.cs hb3').at 0 rfl))<|FZ rfl rfl nofun (AQ l2 AY ((Bx.cs d2).at 0 rfl))<|FZ rfl rfl nofun (EU rfl rfl)<|FZ rfl rfl nofun ET<|Or.elim (Bool.eq_false_or_eq_true (decide (L[k].1=left))) (fun hf0=>?_) (fun hf0=>?_)
  ·refine LK rfl rfl rfl rfl rfl (Md.bt hf0)<|FZ rfl rfl nofun (AQ l3 Ou ((Bx.cs d3).at 0 rfl))<|LK rfl rfl rfl rfl rfl (Md.bt hf0)<|FZ rfl rfl nofun (BM rfl)<|LK rfl rfl rfl rfl rfl (Md.bt hf0)<|?_
   obtain⟨g,fs,cs,hv,hcb,hcall⟩:=hA;refine uI rfl rfl nofun (Nn (fs:=fs) (cs:=cs) hv hcb (mc rfl mn) rfl) (hcall w3 P1 k kA J3 hkl) ?_;rintro _ w4⟨rfl,hx4⟩;have hj4:=hJ _ _ _ hj3 hx4;have hx4':=hx3.ext hx4 (Nat.le_trans hNW (Nat.le_trans hx.size kx3.size));have J4:=J3.ext hx4;refine FZ rfl rfl nofun (DU rfl hf0 rfl)<|FZ rfl rfl nofun ET<|Or.elim (Bool.eq_false_or_eq_true (al k)) (fun hf1=>?_) (fun hf1=>?_)
   ·have hfr:EH L al left (m''+1) k=(k:Int)::EH L al left m'' (k+1):=by
     simp only[EH,hg,hf1,hf0,Bool.and_self,if_true]
    have hus:((Gn L al left).map fun u=>(#[fv u]:Array Value))[pre.length]?=some #[fv (k:Int)]:=by
     rw[List.getElem?_map,hl,List.getElem?_append_right (Nat.le_refl _),Nat.sub_self,hfr]
     rfl
    have hz:=hY pre.length #[fv (k:Int)] w4 hus hj4;obtain⟨fn,tmps,assign,body,hy,hR⟩:=hz;refine LK rfl rfl rfl rfl rfl (Md.bt hf1)<|FZ rfl rfl nofun (BM l0)<|LK rfl rfl rfl rfl rfl (Md.bt hf1)<|FZ rfl rfl nofun (BM rfl)<|LK rfl rfl rfl rfl rfl (Md.bt hf1)<|oL rfl rfl nofun (dM rfl (mc rfl mn) hy) hR fun e w5 he=>?_;rcases he with⟨rfl,hj5,k5⟩|⟨rfl,hj5⟩
    ·refine⟨_,rfl,LK rfl rfl rfl rfl rfl (Md.bt hf1)<|FZ rfl rfl nofun (EK rfl)<|FZ rfl rfl nofun (DU rfl hf1 rfl)<|TD<|cnd rfl (fun h=>by cases h) (fun _=>wp_skip<|rg<|Zv (Bg l13 rfl)<|Zm<|nl ?_)⟩
     refine lq m'' (by omega) ⟨k+1,pre++[(k:Int)],by omega,by rw[hl,hfr,List.append_assoc];rfl,congrArg _ hadd,l12,l11,l0,l2,l3,?_,hx4'.trans k5.1,fun _=>k5.2 ⟨P1,J4⟩⟩;rw[List.length_append];exact hj5
    ·refine⟨_,rfl,LK rfl rfl rfl rfl rfl (Md.bt hf1)<|FZ rfl rfl nofun (EK rfl)<|FZ rfl rfl nofun (DU rfl hf1 rfl)<|TD<|cnd rfl (fun _=>?_) (fun h=>by cases h)⟩
     exact wp_ret<|rt rfl .nil (.inr hj5)
   ·have hfr:EH L al left (m''+1) k=EH L al left m'' (k+1):=by
     simp only[EH,hg,hf1,hf0,Bool.and_false,if_false,Bool.false_eq_true]
    refine KY rfl rfl rfl rfl rfl (AZ hf1) rfl<|KY rfl rfl rfl rfl rfl (AZ hf1) rfl<|KY rfl rfl rfl rfl rfl (AZ hf1) rfl<|KY rfl rfl rfl rfl rfl (AZ hf1) rfl<|FZ rfl rfl nofun (EW rfl hf1 rfl)<|TD<|cnd rfl (fun h=>by cases h) (fun _=>?_);refine wp_skip<|rg<|Zv (Bg l13 rfl)<|Zm<|nl ?_;exact lq m'' (by omega) ⟨k+1,pre,by omega,by rw[hl,hfr],congrArg _ hadd,l12,l11,l0,l2,l3,hj4,hx4',fun _=>⟨P1,J4⟩⟩
  ·have hfr:EH L al left (m''+1) k=EH L al left m'' (k+1):=by
    simp only[EH,hg,hf0,Bool.false_and,if_false,Bool.false_eq_true]
   refine KY rfl rfl rfl rfl rfl (AZ hf0) rfl<|KY rfl rfl rfl rfl rfl (AZ hf0) rfl<|KY rfl rfl rfl rfl rfl (AZ hf0) rfl<|FZ rfl rfl nofun (EW rfl hf0 rfl)<|FZ rfl rfl nofun ET<|KY rfl rfl rfl rfl rfl (AZ rfl) rfl<|KY rfl rfl rfl rfl rfl (AZ rfl) rfl<|KY rfl rfl rfl rfl rfl (AZ rfl) rfl<|KY rfl rfl rfl rfl rfl (AZ rfl) rfl<|FZ rfl rfl nofun (EW rfl rfl rfl)<|TD<|cnd rfl (fun h=>by cases h) (fun _=>?_);refine wp_skip<|rg<|Zv (Bg l13 rfl)<|Zm<|nl ?_;exact lq m'' (by omega) ⟨k+1,pre,by omega,by rw[hl,hfr],congrArg _ hadd,l12,l11,l0,l2,l3,hj3,hx3,fun _=>⟨P1,J3⟩⟩
 ·have hc:¬(k:Int)<(L.length:Int):=by simpa using hc
  obtain rfl:m'=0:=by omega
  refine wp_exit<|gU rfl .nil (.inl ?_);rw[List.length_map,hl];simp only[EH,List.append_nil];exact hj
def LkV(lo:Nat)(w:World)(u:Value)(b:Nat)(left:Int)(v:Value):Prop:=∃bj bl bf,u=.func (.func 318) #[] #[.pointer (some ⟨bj,0,none⟩),.pointer (some ⟨bl,0,none⟩),.pointer (some ⟨bf,0,none⟩)]/\
 Bx w bj 233 [.pointer (some ⟨b,0,none⟩)]/\Bx w bl 3 [.int .i64 left]/\Bx w bf 236 [v]/\lo<=bj/\lo<=bl/\lo<=bf
theorem LkV.go{lo N:Nat}{w:World}{u v:Value}{b:Nat}{n mm:Int}{a1:Option Addr}{c1:Nat}{kv:Value}{L:List Ba}{P:CF}{al:Int->Bool}{left:Int}{ok:Nat->Prop}(h:LkV lo w u b left v)(hJn:Jnm N w b n mm a1 c1 kv L P)(hA:Al N w b n mm a1 c1 kv L v al)(hok:∀q,q<N->q≠b->ok q)(hlo:∀q,lo<=q->ok q)(m:Nat):
  ∃gf cs,u=.func (.func gf) #[] cs/\AR Tryz.prog gf/\KC Tryz.prog (KpJ N b n mm a1 c1 kv L ok w.heap.size) m gf cs ((Gn L al left).map fun k=>#[fv k]) w:=by
 obtain⟨bj,bl,bf,rfl,h1,h2,h3,h4,h5,h6⟩:=h;exact⟨318,_,rfl,mO,jd h1 h2 h3 (hlo _ h4) (hlo _ h5) (hlo _ h6) hJn hA hok⟩
theorem rq{w0:World}{b:Nat}{left:Int}{v:Value}(hv:v.cells=#[v])(h1:v.oneCell'=true):Calls Tryz.prog 249 [.pointer (some ⟨b,0,none⟩),.int .i64 left,v].toArray w0 (A8 fun u w'=>LkV w0.heap.size w' u b left v/\Ext w0 w'):=by
 refine A9 (n:=8) Tryz.func249 rfl rfl rfl<|Zr<|CO rfl rfl fun bj w1 hx1 hg1 hb1=>CO rfl rfl fun bl w2 hx2 hg2 hb2=>CO rfl hv fun bf w3 hx3 hg3 hb3=>?_;have s1:=hx1.size;have s2:=hx2.size;refine Za<|nl<|Zr<|Zv (Lj (l:=[]) (k:=[.pointer (some ⟨bj,0,none⟩),.pointer (some ⟨bl,0,none⟩),.pointer (some ⟨bf,0,none⟩)]) rfl rfl)<|Za<|nl<|wp_ret<|Zw rfl rfl rfl ⟨⟨bj,bl,bf,rfl,(hb1.ext hx2).ext hx3,hb2.ext hx3,hb3,hg1,by omega,by omega⟩,(hx1.tr hx2).tr hx3⟩
end
end Go.Proofs.YtfmelbioccbdoaaGreat
end
section
namespace Go.Md
open Go Go.RowKit
section
variable {κ ν:Type}[DecidableEq κ][Enc κ][Flat κ][Key κ][Enc ν][Flat ν]{w w':World}{P:Program}{t tk te:TypeId}
theorem MpS.chgb{b c:Nat}{l:List (κ×ν)}{T:TypeId}{cs:List Value}(h:MpS w b l)(k:Chg c w w')(hx:Bx w c T cs):MpS w' b l:=h.chg k (h.mp.not_cells hx)
theorem ZE{b:Nat}{l:List (κ×ν)}{k:κ}{v:ν}(ht:P.underlying t=some (.map tk te))(K:KT P tk κ)(h:MpS w b l)(hk:Key.ok k=true):
  ∃w',(Instr.mapUpdate t (.map (some b)) (fv k) (fv v)).run P w=.ok () w'/\Chg b w w'/\MpS w' b (BL l k v):=by
 obtain⟨es,c,hb,he,hn,hok,hs,hc⟩:=h;obtain⟨lk,hlk⟩:=K.of k hk;have hok':∀p∈BL l k v,Key.ok p.1=true:=fun p hp=>by
  rcases mput_keys hp with rfl|hp
  ·exact hk
  ·exact hok p hp
 rcases Mp.find K he hok hk w with⟨h1,h2⟩|⟨j,u,h1,h2,e,h3,h4⟩
 ·obtain⟨h5,h6⟩:=K9 (w:=w) (o:=.map (es.push ⟨fv k,fv v,c⟩) (c+1)) hb
  refine⟨_,?_,h5,_,_,h6,?_,JP hn,hok',?_,?_⟩
  ·simp[Instr.mapUpdate,run_underlying ht,MapKept.run_getObj_map hb,K.kd.check w false hlk,h1,MapKept.run_setObj_map _ hb,Result.andThen,ChangeMaps.setBlock]
  ·rw[(JD (d:=v) h2).2.2.1 v,Array.toList_push,List.map_append,he]
   simp
  ·rw[Array.toList_push,List.map_append,List.nodup_append]
   refine⟨hs,by simp,fun a ha b hb=>?_⟩;obtain⟨e,he,rfl⟩:=List.mem_map.1 ha;have:=hc e he;simp at hb;omega
  ·intro e he
   rw[Array.toList_push]at he;rcases List.mem_append.1 he with he|he
   ·have:=hc e he;omega
   ·simp at he;subst he;exact Nat.lt_succ_self _
 ·obtain⟨h5,h6⟩:=K9 (w:=w) (o:=.map (es.modify j (fun e'=>{e' with key:=fv k,val:=fv v})) c) hb
  have hset:(es.modify j (fun e'=>{e' with key:=fv k,val:=fv v})).toList=es.toList.set j {e with key:=fv k,val:=fv v}:=by
   rw[Array.toList_modify,ChangeMaps.modify_eq_set _ _ _ e (by simpa using h3)]
  have hj:es.toList[j]?=some e:=by simpa using h3
  have hjl:=(List.getElem?_eq_some_iff.1 hj).1;have hbn:(es.toList.set j {e with key:=fv k,val:=fv v}).map (·.born)=es.toList.map (·.born):=by
   rw[List.map_set];apply List.ext_getElem?;intro i;rw[List.getElem?_set];split
   ·rename_i hi
    subst hi;rw[List.length_map,if_pos hjl,List.getElem?_map,hj]
    rfl
   ·rfl
  refine⟨_,?_,h5,_,_,h6,?_,JP hn,hok',?_,?_⟩
  ·simp[Instr.mapUpdate,run_underlying ht,MapKept.run_getObj_map hb,K.kd.check w false hlk,h1,h3,h4,K.kd.stays w hlk,MapKept.run_setObj_map _ hb,Result.andThen,ChangeMaps.setBlock]
  ·rw[(J7 (d:=v) hn h2).2.2.1 v,Array.toList_modify,ChangeMaps.modify_eq_set _ _ _ e (by simpa using h3),List.map_set,he,List.map_set]
  ·rw[hset,hbn];exact hs
  ·intro e' he'
   have:e'.born∈(es.toList.set j {e with key:=fv k,val:=fv v}).map (·.born):=List.mem_map.2 ⟨e',by rw[<-hset];exact he',rfl⟩;rw[hbn]at this;obtain⟨e2,h7,h8⟩:=List.mem_map.1 this;have:=hc e2 h7;omega
end
section
variable {P:Program}{Q:Exit->Act->World->Prop}{n:Nat}{L:Fr}{D:List Deferred}{w:World}{ops:Array Oper}{rest:List Oper}
variable {ty:TypeId}{pos:String}{af:Array Edge}{x y z:Operand}{t tk te:TypeId}
variable {κ ν:Type}[DecidableEq κ][Enc κ][Flat κ][Key κ][Enc ν][Flat ν]
theorem nU{b:Nat}{l:List (κ×ν)}{k:κ}{v:ν}(hx:ev n L x=.map (some b))(hy:ev n L y=fv k)(hz:ev n L z=fv v)(ht:P.underlying t=some (.map tk te))(K:KT P tk κ)(h:MpS w b l)(hk:Key.ok k=true)
  (cont:∀w',Chg b w w'->MpS w' b (BL l k v)->wpList P ops Q rest (act n L D) w'):
  wpList P ops Q ({dst:=none,op:=.mapUpdate t x y z,type:=ty,pos:=pos,after:=af,guard:=none}::rest) (act n L D) w:=by
 obtain⟨w',hr,h1,h2⟩:=ZE (v:=v) ht K h hk;refine wpList_plain rfl fun K hK=>?_;simp only[Oper.wp,FI,execOp,hx,hy,hz,Sem.run_bind,hr,Result.andThen,Oper.upon];exact hK _ _ (cont w' h1 h2)
end
end Go.Md
namespace Go.Proofs.YtfmelbioccbdoaaGreat
open Go Go.Md Go.RowKit
attribute [local irreducible] Go.wpList Go.Code.wp Go.Calls Go.Md.C9 Go.Md.Mt Go.Md.Dz Go.Md.CW Go.Code.wpIn Go.wpListIn
theorem Jnm.asg{N B:Nat}{w w':World}{b:Nat}{n mm:Int}{a1:Option Addr}{c1:Nat}{kv:Value}{L:List Ba}{P:CF}(h:Jnm N w b n mm a1 c1 kv L P)(k:Asg B w w')(hB:N<=B):Jnm N w' b n mm a1 c1 kv L P:=by
 obtain⟨W1,l,o,h1,h2,_,_,_,h3⟩:=k;exact(h.ext h2).chg h3 (by omega)
theorem Okb.jn{N B:Nat}{b:Nat}{n mm:Int}{a1:Option Addr}{c1:Nat}{kv:Value}{L:List Ba}{P:CF}(hB:N<=B):Okb B (fun w=>Jnm N w b n mm a1 c1 kv L P):=⟨fun h k=>h.ext k,fun h hl _ _ k=>h.chg k (by omega)⟩
theorem uU(w:World):(zeroValue 3).run Tryz.prog w=.ok (fv (0:Int)) w:=TI.zv (α:=Int) (d:=0) AY rfl rfl w
set_option maxHeartbeats 8000000 in
theorem rz{N b:Nat}{n mm:Int}{a1:Option Addr}{c1:Nat}{kv:Value}{L:List Ba}{al:Int->Bool}{v:Value}:∀(m:Nat){w0:World}{ms:Nat}{P:CF}{S:Df}{left:Int}{r:Bool×CF×Df},Jnm N w0 b n mm a1 c1 kv L P->Al N w0 b n mm a1 c1 kv L v al->MpS w0 ms S->N<=ms->GZ L al m left P S=some r->
  Calls Tryz.prog 247 [.pointer (some ⟨b,0,none⟩),.int .i64 left,v,.map (some ms)].toArray w0 (A8 fun u w'=>u=.bool r.1/\Jnm N w' b n mm a1 c1 kv L r.2.1/\MpS w' ms r.2.2/\BelP (fun q=>q≠b/\q≠ms) w0.heap.size w0 w'):=by
 intro m
 induction m with
 |zero=>intro w0 ms P S left r _ _ _ _ hF;rw[GZ]at hF;cases hF
 |succ m ih=>
  intro w0 ms P S left r hJ hA hM hms hF;rw[GZ]at hF;have hv:v.cells=#[v]/\v.oneCell'=true:=by obtain⟨g,fs,cs,rfl,_,_⟩:=hA;exact⟨rfl,rfl⟩
  have hN:=hJ.size;have hlb:=hJ.lb;have hml:=hM.lt;refine Wj (m:=9) (n:=70) Tryz.func247 rfl rfl rfl<|Zr<|CO rfl rfl fun b4 w1 hx1 hg1 hb1=>CO rfl hv.1 fun b6 w2 hx2 hg2 hb2=>CO rfl rfl fun b7 w3 hx3 hg3 hb3=>Za<|nl<|wp_scope_straight<|Zr<|D9 MX fun b9 w4 hx4 hg4 hb4=>DC rfl rfl rfl MX hb4 rfl rfl (ble rfl) fun w5 hch5 hb5=>?_;have kx5:Ext w3 w5:=hx4.chg hch5 hg4;have k5:Ext w0 w5:=((hx1.tr hx2).tr hx3).tr kx5;have s1:=hx1.size;have s2:=hx2.size;have s3:=hx3.size;have s5:=kx5.size;have d4:Bx w5 b4 233 [.pointer (some ⟨b,0,none⟩)]:=((hb1.ext hx2).ext hx3).ext kx5;have d6:Bx w5 b6 236 [v]:=(hb2.ext hx3).ext kx5;have d7:Bx w5 b7 348 [.map (some ms)]:=hb3.ext kx5;have h9:Bx w5 b9 4 [.bool false]:=hb5;refine nl<|wp_seq<|wp_label<|wp_seq<|Zr<|Zv (AQ rfl GD ((Bx.cs d4).at 0 rfl))<|Zm<|Zv (AQ rfl Ou ((Bx.cs d6).at 0 rfl))<|Zc (xc lX (mc rfl<|mc rfl<|mc rfl mn)) (rq hv.1 hv.2) fun u w6 hu=>?_;obtain⟨hlk,hx6⟩:=hu;have k6:=k5.tr hx6;have s6:=hx6.size;have z5:=k5.size;have l4:=hb1.lt;have l6:=hb2.lt;have l7:=hb3.lt;have l9:=h9.lt;have e4:=d4.ext hx6;have e6:=d6.ext hx6;have e7:=d7.ext hx6;have e9:=h9.ext hx6;have J6:=hJ.ext k6;have M6:=hM.ext k6;have A6:=hA.keep (BelP.of k6 hN);have hg4':w0.heap.size<=b4:=hg1;refine nl<|iD w0.heap.size (fun L' w=>L' 9=.pointer (some ⟨b9,0,none⟩)/\Bx w b9 4 [.bool r.1]/\Jnm N w b n mm a1 c1 kv L r.2.1/\MpS w ms r.2.2/\BelP (fun q=>q≠b/\q≠ms) w0.heap.size w0 w) ?_ ?_
  ·refine wp_block<|iE (α:=Int) (xs:=Gn L al left) (m:=9) (by decide) rfl (KpJ.kp (n:=n) (mm:=mm) (a1:=a1) (c1:=c1) (kv:=kv) (L:=L) (b:=b) (ok:=fun q=>q≠b/\q≠ms/\q≠b9) (show N<=w6.heap.size by omega))
    (hlk.go (N:=N) (ok:=fun q=>q≠b/\q≠ms/\q≠b9) J6 A6 (fun q h1 h2=>⟨h2,by omega,by omega⟩) (fun q h1=>⟨by omega,by omega,by omega⟩) 8) rfl
    (fun k W=>∃(P':CF)(S':Df),Ie L (fun a P S=>GZ L al m a P S) ((Gn L al left).drop k) P' S'=some r/\Bx W b9 4 [.bool false]/\Jnm N W b n mm a1 c1 kv L P'/\MpS W ms S'/\BelP (fun q=>q≠b/\q≠ms/\q≠b9) w6.heap.size w6 W/\w6.heap.size<=W.heap.size)
    (fun c W=>c=.exit 0/\Bx W b9 4 [.bool r.1]/\Jnm N W b n mm a1 c1 kv L r.2.1/\MpS W ms r.2.2/\BelP (fun q=>q≠b/\q≠ms/\q≠b9) w6.heap.size w6 W/\w6.heap.size<=W.heap.size)
    (fun k=>Okb.ex fun _=>Okb.ex fun _=>Okb.pure.and (Okb.bx.and ((Okb.jn (by omega)).and ((Okb.mps (by omega)).and ((Okb.belp (Nat.le_refl _) (Nat.le_refl _)).and Okb.size)))))
    (fun c=>Okb.pure.and (Okb.bx.and ((Okb.jn (by omega)).and ((Okb.mps (by omega)).and ((Okb.belp (Nat.le_refl _) (Nat.le_refl _)).and Okb.size)))))
    ⟨P,S,hF,e9,J6,M6,BelP.refl,Nat.le_refl _⟩ ?round ?done ?stop
   case done=>
    rintro D' W hD⟨P',S',hB,i1,iJ,iM,i3,i4⟩ hK;rw[List.drop_length,Ie]at hB;cases hB;refine YK (Mks.cons (w:=w6) Mks.nil Mks.nil (by omega) hD hK) ⟨rfl,i1,iJ,iM,?_⟩;exact(BelP.of k6 (Nat.le_refl _)).trans (i3.weak fun q h1 h2=>⟨by omega,h2.1,h2.2,by omega⟩)
   case stop=>
    rintro D' c W hD⟨rfl,i1,iJ,iM,i3,i4⟩ hK;refine wp_exit<|YK (Mks.cons (w:=w6) Mks.nil Mks.nil (by omega) hD hK) ⟨rfl,i1,iJ,iM,?_⟩;exact(BelP.of k6 (Nat.le_refl _)).trans (i3.weak fun q h1 h2=>⟨by omega,h2.1,h2.2,by omega⟩)
   case round=>
    rintro ll k j A W hu⟨P',S',hB,i1,iJ,iM,i3,i4⟩ hAs;rw[Q0 hu,Ie]at hB;refine bS hB fun x Ex hB=>bS hB fun _ Ek hB=>?_;have hkey:=TL Ek;have i1:=i1.asg hAs;have iJ:=iJ.asg hAs (show N<=w6.heap.size by omega);have iM:=iM.asg hAs (show ms<w6.heap.size by omega);have i3:=i3.asg hAs i4 (Nat.le_refl _);have i4:w6.heap.size<=W.heap.size:=Nat.le_trans i4 hAs.size;have f4:=e4.belp i3 e4.lt ⟨by omega,by omega,by omega⟩;have f6:=e6.belp i3 e6.lt ⟨by omega,by omega,by omega⟩;have f7:=e7.belp i3 e7.lt ⟨by omega,by omega,by omega⟩;have hz:=(RVo.sl.1 iJ.rv);obtain⟨a2',c2',e3,_,_,els⟩:=hz;cases e3;have hz:=Els.ix els Ex;obtain⟨b5,off5,cs5,rfl,i5,i6,q5,hcE⟩:=hz;obtain rfl:=Flat.iff.1 q5;refine wpIn_block<|wpIn_seq<|Mr rfl<|Zv (AQ rfl GD ((Bx.cs f4).at 0 rfl))<|Zv (Cv rfl)<|Zv (AV rfl Ml)<|Zv (AV rfl Br)<|Zv (AQ rfl DV ((Bx.cs iJ.bx).at 2 rfl))<|Zm<|Zv (BG rfl rfl Tryz.underlying108 BI i5 i6)<|Zv (AV rfl Gr)<|Zv (AQ rfl AY (hcE.at 1 rfl))<|Zv (JL (r:=[.bool true,.int .i64 x.2]) Ll ko (pc rfl (pc rfl pn)) rfl)<|D9 Ll fun b11 w7 hx7 hg7 hb7=>DC rfl rfl rfl Ll hb7 rfl rfl (ble rfl) fun w8 hch8 hb8=>nl<|?_;have kx8:Ext W w8:=hx7.chg hch8 hg7;have hb11:Bx w8 b11 350 (Flat.enc ((true,x.2):Bool×Int)):=hb8;have g4:=f4.ext kx8;have g6:=f6.ext kx8;have g7:=f7.ext kx8;have g9:=i1.ext kx8;have J8:=iJ.ext kx8;have M8:=iM.ext kx8;have s8:=kx8.size;have l11:=hb11.lt;have hW11:W.heap.size<=b11:=hg7;refine wpIn_seq<|wpIn_seq<|Mr rfl<|Zv (AQ rfl WQ ((Bx.cs g7).at 0 rfl))<|Zv (Ab rfl Ll rfl (Bx.cs hb11))<|Zv (qK (k:=((true,x.2):Bool×Int)) Tryz.underlying348 Xx (uU _) M8.mp hkey rfl rfl)<|Zv (EU rfl rfl)<|nl<|Wi rfl (fun hs=>?_) (fun hs=>?_)
    ·have hB:=Ah hB hs
     exact wpIn_exit ⟨kx8.kf,⟨BelP.of kx8 i4,fun _=>⟨P',J8⟩⟩,P',S',hB,g9,J8,M8,i3.ext kx8 i4,Nat.le_trans i4 s8⟩
    have hB:=Ai hB hs;refine bS hB fun old Eo hB=>wpIn_skip<|wpIn_seq<|Mr rfl<|Zv (AQ rfl WQ ((Bx.cs g7).at 0 rfl))<|Zv (Ab rfl Ll rfl (Bx.cs hb11))<|nU (k:=((true,x.2):Bool×Int)) (v:=(1:Int)) rfl rfl rfl Tryz.underlying348 Xx M8 hkey fun w9 hch9 hM9=>nl<|?_;have m4:=g4.chgm hch9 M8.mp;have m6:=g6.chgm hch9 M8.mp;have m7:=g7.chgm hch9 M8.mp;have m9:=g9.chgm hch9 M8.mp;have m11:=hb11.chgm hch9 M8.mp;have J9:=J8.chg hch9 hms;have kf9:KeepsFrom w6.heap.size W w9:=kx8.kf.chgc hch9 (.inl (by omega));have be9:BelP (fun q=>q≠b/\q≠ms/\q≠b9) w6.heap.size W w9:=(BelP.of kx8 i4).chg hch9 (.inr fun h=>h.2.1 rfl);have s9:=hch9.size;refine wpIn_seq<|gZ [] (.pure false 0 (.pure true 1 (.pure false 2 (.pure true 3 (.pure true 4 (.pure true 5 (.pure false 6 (.pure true 7 .fin)))))))) mixed (by kernel_rfl) (fun wd hxd=>?_);have p4:=m4.ext hxd;have p6:=m6.ext hxd;have p7:=m7.ext hxd;have p9:=m9.ext hxd;have p11:=m11.ext hxd;have Jd:=J9.ext hxd;have Mpd:=hM9.ext hxd;have kfd:=kf9.ext hxd;have bed:=be9.ext hxd (show w6.heap.size<=w9.heap.size by omega);have sd:=hxd.size;have hz:=Hw Jd.part Eo;obtain⟨j1,j2,hco⟩:=hz;refine Zq rfl (fun _ hS=>AQ rfl GD ((Bx.cs (p4.ext (hS.resolve_left nofun))).at 0 rfl)) (Ext.refl _)<|Zp rfl (fun _=>AV rfl Vr)<|Zq rfl (fun _ hS=>AQ rfl AY ((Bx.cs (p11.ext (hS.resolve_left nofun))).at 1 rfl)) (Ext.refl _)<|Zp rfl (fun _=>Cv rfl)<|Zp rfl (fun _=>AV rfl K8)<|Zp rfl (fun _=>FV rfl rfl Tryz.underlying238 AY j1 j2)<|Zq rfl (fun _ hS=>AQ rfl AY ((hco.ext (hS.resolve_left nofun)).at 0 rfl)) (Ext.refl _)<|Zp rfl (fun _=>Ij)<|wpIn_seq<|Mr rfl<|Zm<|Zv (EU rfl rfl)<|Za<|nl<|wpIn_seq<|wpIn_seq<|Mr rfl<|Zm<|Zv (EK rfl)<|nl<|tq (fun L' w=>∃(fr:Bool)(P2:CF)(S2:Df),L' 13=.bool fr/\L' 4=.pointer (some ⟨b4,0,none⟩)/\L' 9=.pointer (some ⟨b9,0,none⟩)/\L' 10=.int .i64 j/\L' 11=.pointer (some ⟨b11,0,none⟩)/\
     (fr=true->r=(true,Cc P2 x.2 (Aa (j+1)),S2))/\(fr=false->Ie L (fun a P S=>GZ L al m a P S) ((Gn L al left).drop (k+1)) P2 S2=some r)/\
     Bx w b4 233 [.pointer (some ⟨b,0,none⟩)]/\Bx w b9 4 [.bool false]/\Bx w b11 350 (Flat.enc ((true,x.2):Bool×Int))/\Jnm N w b n mm (some ⟨b5,off5,none⟩) c1 kv L P2/\MpS w ms S2/\KeepsFrom w6.heap.size W w/\BelP (fun q=>q≠b/\q≠ms/\q≠b9) w6.heap.size W w) ?_ ?_
    ·refine Wi rfl (fun ho=>?_) (fun ho=>?_)
     ·have hB:=Ai hB (by simpa using ho)
      refine bS hB fun y Ey hB=>bS hB fun q Eq hB=>dQ (fun wd w'=>BelP (fun q=>q≠b/\q≠ms) wd.heap.size wd w'/\∃P,Jnm N w' b n mm (some ⟨b5,off5,none⟩) c1 kv L P) [] (.pure false 0 (.pure false 1 (.pure true 2 (.pure true 3 (.pure true 4 (.pure false 5 (.pure true 6 (.pure true 7 (.pure true 8 (.pure true 9 (.pure false 10 (.pure false 11 (.pure false 12 (.eff 13 (.pure true 14 .fin) .stop)))))))))))))) mixed (by kernel_rfl) (fun we hxe=>?_);have q4:=p4.ext hxe;have q6:=p6.ext hxe;have q7:=p7.ext hxe;have q9:=p9.ext hxe;have q11:=p11.ext hxe;have Je:=Jd.ext hxe;have Me:=Mpd.ext hxe;have se:=hxe.size;have S0:BelP (fun q=>q≠b/\q≠ms) we.heap.size we we/\∃P,Jnm N we b n mm (some ⟨b5,off5,none⟩) c1 kv L P:=⟨BelP.refl,_,Je⟩;have hz:=(RVo.sl.1 Je.rv);obtain⟨a3',c3',e3,_,_,els⟩:=hz;cases e3;have hz:=Els.ix els Ey;obtain⟨b8,off8,cs8,e8,i7,i8,q8,hcY⟩:=hz;cases e8;obtain rfl:=Flat.iff.1 q8;have hby:b5<N/\b5≠b:=by
       have hz:=(RVo.sl.1 Je.rv);obtain⟨a3',c3',e3,_,_,els⟩:=hz;cases e3;rcases els with e|⟨b',o',e,h1,h2,_⟩
       ·rw[e]at i8;simp at i8;omega
       ·cases e;exact h1
      have hcY':∀w',BelP (fun q=>q≠b/\q≠ms) we.heap.size we w'->Cs w' b5 (off5+(Aa (old-1)).toNat*Enc.n (Int×Int)) (Flat.enc y):=fun w' hk i c hc=>by
       have h1:=hcY i c hc;have h2:=World.block_lt_of_cell? we _ h1;exact(World.cell?_of_block (a:=⟨b5,_,none⟩) (hk.block b5 (by omega) ⟨hby.2,by omega⟩)).trans h1
      refine Zq rfl (fun _ hS=>AQ rfl GD ((Bx.cs (q4.belp (hS.resolve_left nofun).1 q4.lt ⟨by omega,by omega⟩)).at 0 rfl)) S0<|Zq rfl (fun _ hS=>AQ rfl GD ((Bx.cs (q4.belp (hS.resolve_left nofun).1 q4.lt ⟨by omega,by omega⟩)).at 0 rfl)) S0<|Zp rfl (fun _=>Cv rfl)<|Zp rfl (fun _=>AV rfl Ml)<|Zp rfl (fun _=>AV rfl Br)<|Zq rfl (fun _ hS=>by obtain⟨_,h⟩:=(hS.resolve_left nofun).2;exact AQ rfl DV ((Bx.cs h.bx).at 2 rfl)) S0<|Zn rfl<|Zp rfl (fun _=>F5 rfl rfl)<|Zp rfl (fun _=>BG rfl rfl Tryz.underlying108 BI i7 i8)<|Zp rfl (fun _=>AV rfl F7)<|?_;refine Zq rfl (fun _ hS=>AQ rfl AY ((hcY' _ (hS.resolve_left nofun).1).at 0 rfl)) S0<|Zq rfl (fun _ hS=>AQ rfl Ou ((Bx.cs (q6.belp (hS.resolve_left nofun).1 q6.lt ⟨by omega,by omega⟩)).at 0 rfl)) S0<|Zq rfl (fun _ hS=>AQ rfl WQ ((Bx.cs (q7.belp (hS.resolve_left nofun).1 q7.lt ⟨by omega,by omega⟩)).at 0 rfl)) S0<|?_;have Ae:Al N we b n mm (some ⟨b5,off5,none⟩) c1 kv L v al:=A6.keep (((i3.trans bed).ext hxe (by omega)).weak fun q h1 h2=>⟨by omega,h2,by omega,by omega⟩);refine CR rfl<|Zc (xc dI (mc rfl<|mc rfl<|mc rfl<|mc rfl mn)) (ih Je Ae Me hms Eq) ?_;rintro _ wf⟨rfl,Jf,Mf,JJ⟩;refine nl ⟨fun _ _=>⟨JJ,_,Jf⟩,?_⟩;refine Zp rfl (fun _=>Ij)<|lf ⟨q.1,q.2.1,q.2.2,rfl,rfl,rfl,rfl,rfl,fun h=>?_,fun h=>?_,?_,?_,?_,Jf,Mf,?_,?_⟩
      ·have hB:=Ah hB h
       cases hB;rfl
      ·exact Ai hB h
      ·exact q4.belp JJ q4.lt ⟨by omega,by omega⟩
      ·exact q9.belp JJ q9.lt ⟨by omega,by omega⟩
      ·exact q11.belp JJ q11.lt ⟨by omega,by omega⟩
      ·exact(kfd.ext hxe).trans (JJ.kf fun q h1=>⟨by omega,by omega⟩)
      ·exact(bed.ext hxe (by omega)).trans (JJ.weak fun q h1 h2=>⟨by omega,h2.1,h2.2.1⟩)
     ·have hB:=Ah hB (by simpa using ho)
      cases hB;have ho:(decide (old=0))=true:=by simpa using ho
      refine wpIn_skip<|lf ⟨true,P',_,?_,rfl,rfl,rfl,rfl,fun _=>rfl,(fun h=>by cases h),p4,p9,p11,Jd,Mpd,kfd,bed⟩;exact congrArg Value.bool ho
    rintro L' wg⟨fr,P2,S2,l13,l4',l9',l10,l11',hft,hff,r4,r9,r11,Jg,Mg,kfg,beg⟩;have zg:w6.heap.size<=wg.heap.size:=Nat.le_trans i4 beg.size;refine wpIn_seq<|Mr rfl<|Zv (BM l13)<|nl<|Wi rfl (fun hf=>?_) (fun hf=>?_)
    ·have hz:=Dt Eo;obtain⟨j3,j4,_⟩:=hz
     have hP:P'.l.length=12:=P'.h;refine wpIn_seq<|gZ [8] (.pure false 0 (.pure true 1 (.pure false 2 (.pure true 3 (.pure true 4 (.pure true 5 (.pure true 6 (.pure true 7 (.eff 8 .fin .stop))))))))) mixed (by kernel_rfl) (fun wh hxh=>?_);have t4:=r4.ext hxh;have t9:=r9.ext hxh;have t11:=r11.ext hxh;have Jh:=Jg.ext hxh;have Mh:=Mg.ext hxh;have sh:=hxh.size;refine Zq rfl (fun _ hS=>AQ l4' GD ((Bx.cs (t4.ext (hS.resolve_left nofun))).at 0 rfl)) (Ext.refl _)<|Zp rfl (fun _=>AV l11' Vr)<|Zq rfl (fun _ hS=>AQ rfl AY ((Bx.cs (t11.ext (hS.resolve_left nofun))).at 1 rfl)) (Ext.refl _)<|Zp rfl (fun _=>BM l10)<|Zp rfl (fun _=>Bg rfl rfl)<|Zp rfl (fun _=>Cv rfl)<|Zp rfl (fun _=>AV rfl K8)<|Zp rfl (fun _=>FV rfl rfl Tryz.underlying238 AY j3 (by omega))<|?_;refine CR rfl<|DC (vs:=[.int .i64 (Aa (j+1))]) rfl rfl rfl AY Jh.bx rfl rfl (by rw[Qm,List.length_singleton];omega) fun wi hchi hbi=>nl ⟨fun h=>(h (by decide)).elim,?_⟩;rw[show 0+28+x.2.toNat*1=28+x.2.toNat by omega]at hbi;have Ji:=Jh.set j3 (by omega) hchi hbi;have u9:=t9.chg hchi (by omega);have Mi:=Mh.chgb hchi Jh.bx;have bei:BelP (fun q=>q≠b/\q≠ms/\q≠b9) w6.heap.size W wi:=(beg.ext hxh zg).chg hchi (.inr fun h=>h.1 rfl);have kfi:=(kfg.ext hxh).chgc hchi (.inl (by omega));refine wpIn_seq<|Mr rfl<|DC l9' rfl rfl MX u9 rfl rfl (ble rfl) fun wj hchj hbj=>nl<|wpIn_exit ?_;have hr:=hft hf;subst hr;refine⟨kfi.chgc hchj (.inl (by omega)),rfl,hbj,Ji.chg hchj (by omega),Mi.chgb hchj u9,i3.trans (bei.chg hchj (.inr fun h=>h.2.2 rfl)),?_⟩;rw[hchj.size,hchi.size];omega
    ·exact wpIn_skip ⟨kfg,⟨beg,fun _=>⟨P2,Jg⟩⟩,P2,S2,hff hf,r9,Jg,Mg,i3.trans beg,zg⟩
  rintro L' D3 w19 M19⟨l9',h9',J19,Mp19,be19⟩;refine Zr<|Zv (AQ l9' MX ((Bx.cs h9').at 0 rfl))<|Za<|nl<|wp_ret<|TK rfl M19 fun w' hk=>⟨_,.tmp rfl rfl .nil,rfl,J19.tak hk (by omega),Mp19.tak hk,be19.tak hk (Nat.le_refl _)⟩
end Go.Proofs.YtfmelbioccbdoaaGreat
end
section
namespace Go.Proofs.YtfmelbioccbdoaaGreat
open Go Go.Md Go.RowKit
attribute [local irreducible] Go.wpList Go.Code.wp Go.Calls Go.Md.C9 Go.Md.Mt Go.Md.Dz Go.Md.CW Go.Code.wpIn Go.wpListIn
theorem fQ{S:Df}{lf:Bool×Int->Bool}{k:Bool×Int}(hn:(S.map (·.1)).Nodup):EA (S.filter fun z=>lf z.1) k=S.filter fun z=>lf z.1&& !decide (z.1=k):=by
 rw[PZ (List.Nodup.sublist (List.Sublist.map _ List.filter_sublist) hn),List.filter_filter]
 congr 1
 funext z
 rw[Bool.and_comm]
theorem Ud{κ ν:Type}[DecidableEq κ]{lf:κ->Bool}{k:κ}:∀{S:List (κ×ν)}{z:κ×ν},z∈S->z.1=k->lf k=true->(S.filter fun z=>lf z.1&& !decide (z.1=k)).length<(S.filter fun z=>lf z.1).length
 |a::S,z,hz,hk,hl=>by
  have le:(S.filter fun z=>lf z.1&& !decide (z.1=k)).length<=(S.filter fun z=>lf z.1).length:=by
   have:(S.filter fun z=>lf z.1&& !decide (z.1=k))=(S.filter fun z=>lf z.1).filter fun z=>!decide (z.1=k):=by
    rw[List.filter_filter];congr 1;funext z;rw[Bool.and_comm]
   rw[this];exact List.length_filter_le _ _
  rcases List.mem_cons.1 hz with rfl|hz
  ·subst hk
   simp only[List.filter_cons,hl,decide_true,Bool.not_true,Bool.and_false,Bool.false_eq_true,if_false,if_true,List.length_cons];omega
  ·have ih:=Ud hz hk hl
   simp only[List.filter_cons];split<;>split<;>simp_all<;>omega
set_option maxHeartbeats 8000000 in
theorem X3{N b F:Nat}{n mm:Int}{a1:Option Addr}{c1:Nat}{kv:Value}{L:List Ba}{al:Int->Bool}{v:Value}{w0:World}{P:CF}{r:Int×CF}(hJ:Jnm N w0 b n mm a1 c1 kv L P)(hA:Al N w0 b n mm a1 c1 kv L v al)(hF:FL F L n al=some r):
  Calls Tryz.prog 140 [.pointer (some ⟨b,0,none⟩),v].toArray w0 (A8 fun u w'=>u=.int .i64 r.1/\Jnm N w' b n mm a1 c1 kv L r.2/\BelP (fun q=>q≠b) w0.heap.size w0 w'):=by
 unfold FL at hF;have hN:=hJ.size;have hlb:=hJ.lb;refine A9 (n:=50) Tryz.func140 rfl rfl rfl<|Zr<|Za<|nl<|Zr<|Zm<|Zv (gT (r:=List.replicate 12 (.int .i64 0)) Iq Tryz.underlying238 AY rfl)<|Zv (Cv rfl)<|Zv (AV rfl K8)<|DC (vs:=List.replicate 12 (.int .i64 0)) rfl rfl rfl Iq hJ.bx rfl rfl (by rw[Qm];exact ble rfl) fun w1 hch1 hb1=>?_;have hb1':Bx w1 b 241 (Fy n mm a1 c1 kv L (Ar.fill 12 0)):=by rw[<-Xz (P:=P)];exact hb1
 have be1:BelP (fun q=>q≠b) w0.heap.size w0 w1:=BelP.refl.chg hch1 (.inr fun h=>h rfl);have J1:=hJ.keep (be1.mono hN) hb1';have s1:=hch1.size;refine nl<|Zr<|nR (κ:=Bool×Int) (ν:=Int) fun ms w2 hx2 hg2 hM2=>?_;have J2:=J1.ext hx2;have be2:=be1.ext hx2 (by omega);have s2:=hx2.size;have l2:=hM2.lt;refine Za<|nl<|Zr<|Za<|nl<|wp_seq<|Zr<|Zm<|Zv (Cv rfl)<|Zv (AV rfl Ml)<|Zv (AV rfl K7)<|Zv (AQ rfl AY ((Bx.cs J2.bx).at 0 rfl))<|Zm<|nl<|ct (fun L' w=>L' 6=.int .i64 r.1/\Jnm N w b n mm a1 c1 kv L r.2/\BelP (fun q=>q≠b) w0.heap.size w0 w) ?_ ?_
 ·refine wp_block<|lp (I:=fun m' L' w=>∃(i c:Int)(P':CF)(S:Df),Ig L al F n m' i c P'=some r/\L' 20=.int .i64 i/\L' 19=.int .i64 n/\L' 6=.int .i64 c/\L' 5=.map (some ms)/\L' 0=.pointer (some ⟨b,0,none⟩)/\L' 1=v/\Jnm N w b n mm a1 c1 kv L P'/\MpS w ms S/\BelP (fun q=>q≠b) w0.heap.size w0 w/\w2.heap.size<=w.heap.size) F
   ⟨0,0,Ar.fill 12 0,[],hF,rfl,rfl,rfl,rfl,rfl,rfl,J2,hM2,be2,Nat.le_refl _⟩ ?_
  rintro m' L' w⟨i,c,P',S,hB,l20,l19,l6,l5,l0,l1,J,M,be,hs⟩;rcases m' with _|m'
  ·rw[Ig]at hB;cases hB
  rw[Ig]at hB;refine Zr<|Zv (BU l20 l19)<|nl<|wp_seq<|cnd rfl (fun hi=>?_) (fun hi=>?_)
  ·have hB:=Ah hB hi
   refine bS hB fun q Eq hB=>wp_skip<|wp_seq<|ct (fun L' w=>∃(c':Int)(S':Df),Ig L al F n m' (Aa (i+1)) c' q.2.1=some r/\L' 20=.int .i64 i/\L' 19=.int .i64 n/\L' 6=.int .i64 c'/\L' 5=.map (some ms)/\L' 0=.pointer (some ⟨b,0,none⟩)/\L' 1=v/\Jnm N w b n mm a1 c1 kv L q.2.1/\MpS w ms S'/\BelP (fun q=>q≠b) w0.heap.size w0 w/\w2.heap.size<=w.heap.size) ?_ ?_
   ·refine wp_block<|Zr<|Zv (BM l20)<|Za<|nl<|Zr<|Zv (BM l0)<|Zv (Cv rfl)<|Zv (AV rfl K8)<|Zv (Ab rfl Iq (Ir P') J.part)<|D9 Iq fun b8 w3 hx3 hg3 hb3=>TM (u:=P') rfl rfl Iq rfl hb3 rfl fun w4 hch4 hb4=>?_
    have kx4:Ext w w4:=hx3.chg hch4 hg3;have J4:=J.ext kx4;have M4:=M.ext kx4;have be4:=be.ext kx4 (by omega);have s4:=kx4.size;have l4:=hb4.lt;refine nl<|wp_seq<|Zr<|Zv (BM l5)<|rM rfl Tryz.underlying348 M4 fun br w5 hx5 hg5 hR5=>nl<|?_;have J5:=J4.ext hx5;have be5:=be4.ext hx5 (by omega);have hb5:=hb4.ext hx5;have s5:=hx5.size;have hnd:(S.map (·.1)).Nodup:=by obtain⟨_,_,_,_,h,_⟩:=M;exact h
    have hml:ms<w4.heap.size:=M4.lt;refine ct (fun L' w=>L' 7=.int .i64 i/\L' 8=.pointer (some ⟨b8,0,none⟩)/\L' 20=.int .i64 i/\L' 19=.int .i64 n/\L' 6=.int .i64 c/\L' 5=.map (some ms)/\L' 0=.pointer (some ⟨b,0,none⟩)/\L' 1=v/\Jnm N w b n mm a1 c1 kv L P'/\MpS w ms ([]:Df)/\Bx w b8 238 (Flat.enc P')/\BelP (fun q=>q≠b) w0.heap.size w0 w/\w5.heap.size<=w.heap.size) ?_ ?_
    ·refine wp_block<|lp (I:=fun m'' L' w=>∃lf:Bool×Int->Bool,(S.filter fun z=>lf z.1).length<=m''/\Rg w br ms (S.filter fun z=>lf z.1) lf/\L' 28=.pointer (some ⟨br,0,none⟩)/\L' 7=.int .i64 i/\L' 8=.pointer (some ⟨b8,0,none⟩)/\L' 20=.int .i64 i/\L' 19=.int .i64 n/\L' 6=.int .i64 c/\L' 5=.map (some ms)/\L' 0=.pointer (some ⟨b,0,none⟩)/\L' 1=v/\Jnm N w b n mm a1 c1 kv L P'/\Bx w b8 238 (Flat.enc P')/\BelP (fun q=>q≠b) w0.heap.size w0 w/\w5.heap.size<=w.heap.size) S.length
      ⟨fun _=>true,List.length_filter_le _ _,?_,rfl,rfl,rfl,l20,l19,l6,l5,l0,l1,J5,hb5,be5,Nat.le_refl _⟩ ?_
     ·rw[List.filter_eq_self.2 fun _ _=>rfl]
      exact hR5
     clear l20 l19 l6 l5 l0 l1;rintro m'' L' w⟨lf,hm',hR,l28,l7,l8,l20,l19,l6,l5,l0,l1,J,hb8,be,hs⟩;have hokk:=hR.mps.mp.ok;have hrl:=hR.ltr;have hbl:=hR.mps.lt;have zJ:=J.size;have l8':=hb8.lt;refine Zr<|rO l28 hR (fun hd=>?_) (fun z w' hz hlz hpz hsz hent hR'=>?_)
     ·refine Zv (FU (vs:=[.bool false]) rfl rfl)<|nl<|wp_seq<|cnd rfl (fun h=>by cases h) (fun _=>?_)
      have e0:(S.filter fun z=>lf z.1)=[]:=by
       rw[List.eq_nil_iff_forall_not_mem];intro z hz;have h1:=hd z hz;have h2:=(List.mem_filter.1 hz).2;rw[h1]at h2;cases h2
      rw[e0]at hR;exact wp_exit<|Md.lf ⟨l7,l8,l20,l19,l6,l5,l0,l1,J,hR.mps,hb8,be,hs⟩
     ·have hk:Key.ok z.1=true:=hokk z hz
      have hzO:z∈S:=(List.mem_filter.1 hz).1;have J':Jnm N w' b n mm a1 c1 kv L P':=J.keep (hpz.weak fun q h1 h2=>⟨by omega,by omega⟩) (J.bx.belp hpz (by omega) (by omega));have be':=be.trans (hpz.weak fun q h1 h2=>⟨by omega,by omega⟩);have hb8':=hb8.belp hpz l8' (by omega);refine Zv (FU (vs:=[.bool true,fv z.1,fv z.2]) rfl rfl)<|nl<|wp_seq<|cnd rfl (fun _=>?_) (fun h=>by cases h);refine wp_skip<|wp_block<|Zr<|Zv (rP l28 hent)<|Zv (FU (vs:=[fv z.1,fv z.2]) rfl rfl)<|D9 Ll fun b9 w6 hx6 hg6 hb6=>TM (u:=z.1) rfl rfl Ll rfl hb6 rfl fun w7 hch7 hb7=>?_;have kx7:Ext w' w7:=hx6.chg hch7 hg6;have hR7:=hR'.ext kx7;have s7:=kx7.size;refine nl<|rg<|Zv (BM l5)<|Zv (Ab rfl Ll (Flat.len z.1) (Bx.cs hb7))<|nS (k:=z.1) rfl rfl Tryz.underlying348 Xx hR7 hk fun w8 hch8 hR8=>nl ?_;rw[fQ hnd]at hR8;have hlt:=Ud (lf:=lf) hzO rfl hlz;refine lq (m''-1) (by omega) ⟨fun k=>lf k&& !decide (k=z.1),(show(S.filter fun y=>lf y.1&& !decide (y.1=z.1)).length<=m''-1 by omega),hR8,l28,l7,l8,l20,l19,l6,l5,l0,l1,(J'.ext kx7).chg hch8 (by omega),(hb8'.ext kx7).chgm hch8 hR7.mps.mp,(be'.ext kx7 (by omega)).chg hch8 (.inl (by omega)),?_⟩;rw[hch8.size];omega
    rintro L'' w9⟨l7,l8,l20,l19,l6,l5,l0,l1,J9,M9,hb9,be9,s9⟩;have hA9:=hA.keep (be9.mono hN);refine Zr<|Zv (BM l0)<|Zv (BM l7)<|Zv (BM l1)<|Zv (BM l5)<|Zc (xc dI (mc rfl<|mc rfl<|mc rfl<|mc rfl mn)) (rz F J9 hA9 M9 (by omega) Eq) fun u wa hu=>?_;obtain⟨rfl,Ja,Ma,bea⟩:=hu;have l8':=hb9.lt;have M9l:=M9.lt;have hba:=hb9.belp bea l8' ⟨by omega,fun e=>by subst e;exact M9.mp.not_cells hb9 rfl⟩;have be10:=be9.trans (bea.weak fun q h1 h2=>⟨by omega,h2,by omega⟩);have s10:=bea.size;refine nl<|wp_seq<|Gq [] (.pure true 0 (.pure true 1 (.pure true 2 (.pure false 3 (.pure false 4 (.pure true 5 .fin)))))) mixed (by kernel_rfl) (fun wd hxd=>?_);have Jd:=Ja.ext hxd;have Md':=Ma.ext hxd;have hbd:=hba.ext hxd;have sd:=hxd.size;have bed:=be10.ext hxd (by omega);refine Zp rfl (fun _=>BM l0)<|Zp rfl (fun _=>Cv rfl)<|Zp rfl (fun _=>AV rfl K8)<|Zq rfl (fun _ hS=>Ab rfl Iq (Ir q.2.1) ((Jd.ext (hS.resolve_left nofun)).part)) (Ext.refl _)<|Zq rfl (fun _ hS=>Ab l8 Iq (Ir P') (Bx.cs (hbd.ext (hS.resolve_left nofun)))) (Ext.refl _)<|Zp rfl (fun _=>pO (α:=Ar 12 Int) (a:=q.2.1) (b:=P') rfl lC kz rfl rfl rfl rfl rfl)<|cnd rfl (fun hne=>?_) (fun hne=>?_)
    ·have hB:=Ah hB hne
     refine rg<|Zv (BM l6)<|Zv (Bg rfl rfl)<|Za<|nl<|Md.lf ⟨_,_,hB,l20,l19,rfl,l5,l0,l1,Jd,Md',bed,by omega⟩
    ·have hB:=Ai hB hne
     exact wp_skip<|Md.lf ⟨_,_,hB,l20,l19,l6,l5,l0,l1,Jd,Md',bed,by omega⟩
   ·rintro L'' w9⟨c',S',hB,l20,l19,l6,l5,l0,l1,J9,M9,be9,s9⟩
    refine rg<|Zv (Bg l20 rfl)<|Zm<|nl<|lq m' (Nat.lt_succ_self _) ⟨_,_,_,_,hB,rfl,l19,l6,l5,l0,l1,J9,M9,be9,s9⟩
  ·have hB:=Ai hB hi
   cases hB;exact wp_exit<|Md.lf ⟨l6,J,be⟩
 rintro L' w9⟨l6,J9,be9⟩;exact Zr<|Zv (BM l6)<|Za<|nl<|wp_ret<|Zw rfl rfl rfl ⟨rfl,J9,be9⟩
section
abbrev FM:=Int×Int×List Ba×List Int
def Kt(L:List Ba):Prop:=L.length<=1000/\∀x∈L,(0<=x.2/\x.2<12)/\0<=x.1/\x.1<12
instance {L:List Ba}:Decidable (Kt L):=inferInstanceAs (Decidable (_/\_))
def ShOk(x:FM):Bool:=decide (Kt x.2.2.1)&&decide (x.2.2.2=[])
theorem ShOk.spec{x:FM}(h:ShOk x=true):Kt x.2.2.1/\x.2.2.2=[]:=by simpa[ShOk]using h
theorem IJ{B:Nat}{w w1 w2:World}(h:Ext w w1)(k:Below B w1 w2)(hB:w.heap.size<=B):Ext w w2:=
 ⟨k.os.trans h.os,k.tape.trans h.tape,k.output.trans h.output,Nat.le_trans h.size k.size,fun q hq=>(k.block q (by omega)).trans (h.block q hq)⟩
section
variable {N M:Nat}{w w':World}{b:Nat}{n mm:Int}{a1:Option Addr}{c1:Nat}{kv:Value}{L:List Ba}{P P':CF}
theorem Jnm.mono(h:Jnm N w b n mm a1 c1 kv L P)(h1:N<=M)(h2:M<=w.heap.size):Jnm M w b n mm a1 c1 kv L P:=⟨h2,by have:=h.lb;omega,h.bx,h.rv.mono fun q _ hq=>⟨by omega,hq.2⟩,h.kn⟩
theorem Jnm.back(h:Jnm N w b n mm a1 c1 kv L P)(k:BelP (fun q=>q≠b) w.heap.size w w')(h1:Jnm M w' b n mm a1 c1 kv L P'):Jnm N w' b n mm a1 c1 kv L P':=h.keep (k.mono h.size) h1.bx
theorem Jnm.bel(h:Jnm N w b n mm a1 c1 kv L P)(k:Below N w w'):Jnm N w' b n mm a1 c1 kv L P:=
 ⟨Nat.le_trans h.size k.size,h.lb,h.bx.below k h.lb,h.rv.keep (fun q hq _=>k.block q hq.1) k.size,h.kn⟩
theorem Jnm.rep(h:Jnm N w b n mm a1 c1 kv L P):Enc.rep (fun _=>True) w (Fy n mm a1 c1 kv L P) ((((n,mm,L,[]):FM),(Ar.fill 2 (Ar.fill 12 0)),P):FM×Ar 2 (Ar 12 Int)×Ar 12 Int):=by
 obtain⟨a,cc,e,h3,h4,h5⟩:=RVo.sl.1 (RVo.rv h.rv);cases e;obtain⟨a2,c2,rfl,h6⟩:=h.kn;refine⟨[.int .i64 n,.int .i64 mm,.slice a1 L.length c1,.slice a2 0 c2],List.replicate 24 (.int .i64 0)++P.l.flatMap Flat.enc,by unfold Fy Ql;rw[List.append_assoc],?_,?_⟩
 ·exact⟨[.int .i64 n],[.int .i64 mm]++([.slice a1 L.length c1]++[.slice a2 0 c2]),rfl,rfl,[.int .i64 mm],[.slice a1 L.length c1]++[.slice a2 0 c2],rfl,rfl,[.slice a1 L.length c1],[.slice a2 0 c2],rfl,⟨a1,c1,rfl,h3,h4,h5⟩,a2,c2,rfl,Nat.zero_le _,h6,.inl rfl⟩
 ·exact⟨List.replicate 24 (.int .i64 0),P.l.flatMap Flat.enc,rfl,rfl,rfl⟩
theorem O5{m:Nat}{i:Int}{α:Type}{x:α}(h0:0<=i)(h1:i<m):ix (Ar.fill m x).l i=some x:=by
 unfold ix;rw[if_pos h0];show(List.replicate m x)[i.toNat]?=some x;rw[List.getElem?_replicate,if_pos (by omega)]
theorem Od(h:Jnm N w b n mm a1 c1 kv L P)(hv:Kt L){k:Nat}(hk:k<L.length):Calls Tryz.prog 141 [.pointer (some ⟨b,0,none⟩),.int .i64 (k:Int)].toArray w (A8 fun r W'=>r=.bool true/\Ext w W'):=by
 refine rX (x0:=((n,mm,L,[]),Ar.fill 2 (Ar.fill 12 0),P)) (Bx.cs h.bx) h.rep (x1:=(k:Int)) (r:=true) ?_;have hL:=hv.2 _ (List.getElem_mem hk);have e1:ix L (k:Int)=some L[k]:=by simp[ix,List.getElem?_eq_getElem hk]
 unfold Iz;simp only[e1,Am,AJ];rw[O5 (by decide) (by decide)];simp only[AJ];rw[O5 hL.2.1 hL.2.2];simp only[AJ];rw[O5 (by decide) (by decide)];simp only[AJ];rw[O5 hL.1.1 hL.1.2]
 rfl
theorem V6(hv:Kt L):Al N w b n mm a1 c1 kv L (.func (.func 141) #[.pointer (some ⟨b,0,none⟩)] #[]) (fun _=>true):=
 ⟨141,[.pointer (some ⟨b,0,none⟩)],[],rfl,P6,fun _ _ _ _ hJ hk=>Od hJ hv hk⟩
theorem je{b3 b6:Nat}{k:Int}(hv:Kt L)(h3:Bx w b3 233 [.pointer (some ⟨b,0,none⟩)])(h6:Bx w b6 3 [.int .i64 k])(n3:b3<N/\b3≠b)(n6:b6<N/\b6≠b):
  Al N w b n mm a1 c1 kv L (.func (.func 252) #[] #[.pointer (some ⟨b3,0,none⟩),.pointer (some ⟨b6,0,none⟩)]) (fun i=>!decide (i=k)):=by
 refine⟨252,[],[.pointer (some ⟨b3,0,none⟩),.pointer (some ⟨b6,0,none⟩)],rfl,lg,fun W P i hW hJ hi=>?_⟩;have d3:=h3.belp hW n3.1 n3.2;have d6:=h6.belp hW n6.1 n6.2;refine(?_:Calls Tryz.prog 252 [.int .i64 (i:Int),.pointer (some ⟨b3,0,none⟩),.pointer (some ⟨b6,0,none⟩)].toArray W _);refine A9 (n:=13) Tryz.func252 rfl rfl rfl<|Zr<|Za<|nl<|Zr<|Zv (AQ rfl GD ((Bx.cs d3).at 0 rfl))<|Zm<|Zc (xc P6 (mc rfl<|mc rfl mn)) (Od hJ hv hi) ?_;rintro _ w1⟨rfl,hx1⟩;have e6:=d6.ext hx1;refine Zm<|Gt rfl rfl<|Zm<|Gt rfl rfl<|Zv (AQ rfl AY ((Bx.cs e6).at 0 rfl))<|Gt rfl rfl<|Zv (FT rfl rfl)<|Zv (DU rfl rfl rfl)<|Za<|nl<|wp_ret<|Zw rfl rfl rfl ⟨rfl,hx1⟩
def Jk(L:List Ba)(x:Ba)(i:Int):Bool:=match ix L i with|some y=>(!decide (y.1=x.1))&& !decide (y.2=x.2)|none=>false
theorem jf{b3 bs b7:Nat}{x:Ba}(hv:Kt L)(h3:Bx w b3 233 [.pointer (some ⟨b,0,none⟩)])(hs:Bx w bs 110 [.int .i64 n,.int .i64 mm,.slice a1 L.length c1,kv])(h7:Bx w b7 112 (Flat.enc x))(n3:b3<N/\b3≠b)(ns:bs<N/\bs≠b)(n7:b7<N/\b7≠b):
  Al N w b n mm a1 c1 kv L (.func (.func 253) #[] #[.pointer (some ⟨b3,0,none⟩),.pointer (some ⟨bs,0,none⟩),.pointer (some ⟨b7,0,none⟩)]) (Jk L x):=by
 refine⟨253,[],[.pointer (some ⟨b3,0,none⟩),.pointer (some ⟨bs,0,none⟩),.pointer (some ⟨b7,0,none⟩)],rfl,lm,fun W P i hW hJ hi=>?_⟩;have d3:=h3.belp hW n3.1 n3.2;have ds:=hs.belp hW ns.1 ns.2;have d7:=h7.belp hW n7.1 n7.2;refine(?_:Calls Tryz.prog 253 [.int .i64 (i:Int),.pointer (some ⟨b3,0,none⟩),.pointer (some ⟨bs,0,none⟩),.pointer (some ⟨b7,0,none⟩)].toArray W _);have e1:ix L (i:Int)=some L[i]:=by simp[ix,List.getElem?_eq_getElem hi]
 have hp2:Jk L x (i:Int)=((!decide (L[i].1=x.1))&& !decide (L[i].2=x.2)):=by unfold Jk;rw[e1]
 refine A9 (n:=31) Tryz.func253 rfl rfl rfl<|Zr<|Za<|nl<|wp_seq<|qV (fun wd w'=>Ext wd w') [] (.pure false 0 (.pure true 1 (.eff 2 (.pure true 3 (.pure true 4 (.pure false 5 (.pure true 6 (.pure true 7 (.pure true 8 (.pure false 9 (.pure true 10 (.pure false 11 (.pure true 12 (.pure true 13 (.pure true 14 (.pure true 15 (.pure false 16 (.pure true 17 (.pure true 18 (.pure true 19 (.pure false 20 (.pure true 21 (.pure false 22 (.pure true 23 (.pure true 24 (.pure true 25 .fin))))))))))))))))))))))) .stop))) mixed (by kernel_rfl) (fun wd hxd=>?_);have f3:=d3.ext hxd;have fs:=ds.ext hxd;have f7:=d7.ext hxd;have Jd:=hJ.ext hxd;refine Zq rfl (fun _ hS=>AQ rfl GD ((Bx.cs (f3.ext (hS.resolve_left nofun))).at 0 rfl)) (Ext.refl _)<|Zn rfl<|CR rfl<|Zc (xc P6 (mc rfl<|mc rfl mn)) (Od Jd hv hi) ?_;rintro _ w1⟨rfl,hx1⟩;have gs:=fs.ext hx1;have g7:=f7.ext hx1;have Jg:=Jd.ext hx1;have hz:=(RVo.sl.1 Jg.rv);obtain⟨a3',c3',e3,_,_,els⟩:=hz;cases e3;have hz:=Els.ix els e1;obtain⟨b8,off8,cs8,rfl,i7,i8,q8,hcY⟩:=hz;obtain rfl:=Flat.iff.1 q8;have hld:∀w',Ext wd w'->Cs w' b8 (off8+((i:Int)).toNat*Enc.n (Int×Int)) (Flat.enc L[i]):=fun w' hk=>by
  have hz:=(RVo.sl.1 Jd.rv);obtain⟨a3',c3',e3,_,_,els⟩:=hz;cases e3;have hz:=Els.ix els e1;obtain⟨b9,off9,cs9,e9,_,_,q9,hc9⟩:=hz;cases e9;obtain rfl:=Flat.iff.1 q9;exact hc9.ext hk
 refine nl ⟨fun _ _=>hx1,?_⟩;refine Zn rfl<|Yt rfl rfl (fun _=>AV rfl Br)<|Yi rfl rfl (fun _ hS=>AQ rfl DV ((Bx.cs (fs.ext (hS.resolve_left nofun))).at 2 rfl)) hx1<|Yt rfl rfl (fun _=>ET)<|Yt rfl rfl (fun _=>BG rfl rfl Tryz.underlying108 BI i7 i8)<|Yt rfl rfl (fun _=>AV rfl F7)<|Yi rfl rfl (fun _ hS=>AQ rfl AY ((hld _ (hS.resolve_left nofun)).at 0 rfl)) hx1<|Yt rfl rfl (fun _=>AV rfl F7)<|Yi rfl rfl (fun _ hS=>AQ rfl AY ((Bx.cs (f7.ext (hS.resolve_left nofun))).at 0 rfl)) hx1<|Yt rfl rfl (fun _=>FT rfl rfl)<|Zp rfl (fun _=>DU rfl rfl rfl)<|Zn rfl<|Or.elim (Bool.eq_false_or_eq_true (!decide (L[i].1=x.1))) (fun hg=>?_) (fun hg=>?_)
 ·refine Yt rfl (bt hg) (fun _=>AV rfl Br)<|Yi rfl (bt hg) (fun _ hS=>AQ rfl DV ((Bx.cs (fs.ext (hS.resolve_left nofun))).at 2 rfl)) hx1<|Yt rfl (bt hg) (fun _=>ET)<|Yt rfl (bt hg) (fun _=>BG rfl rfl Tryz.underlying108 BI i7 i8)<|Yt rfl (bt hg) (fun _=>AV rfl Gr)<|Yi rfl (bt hg) (fun _ hS=>AQ rfl AY ((hld _ (hS.resolve_left nofun)).at 1 rfl)) hx1<|Yt rfl (bt hg) (fun _=>AV rfl Gr)<|Yi rfl (bt hg) (fun _ hS=>AQ rfl AY ((Bx.cs (f7.ext (hS.resolve_left nofun))).at 1 rfl)) hx1<|Yt rfl (bt hg) (fun _=>FT rfl rfl)<|Zp rfl (fun _=>DU rfl hg rfl)<|Zp rfl (fun _=>Ij)<|?_
  refine wp_ret<|Zw rfl rfl rfl ⟨?_,hxd.tr hx1⟩;rw[hp2,hg,Bool.true_and]
  rfl
 ·refine Yf rfl (AZ hg)<|Yh rfl (AZ hg) hx1<|Yf rfl (AZ hg)<|Yf rfl (AZ hg)<|Yf rfl (AZ hg)<|Yh rfl (AZ hg) hx1<|Yf rfl (AZ hg)<|Yh rfl (AZ hg) hx1<|Yf rfl (AZ hg)<|Zp rfl (fun _=>EW rfl hg rfl)<|Zp rfl (fun _=>Ij)<|?_
  refine wp_ret<|Zw rfl rfl rfl ⟨?_,hxd.tr hx1⟩;rw[hp2,hg,Bool.false_and]
  rfl
end
set_option maxHeartbeats 2000000 in
theorem jh{w0:World}{n mm:Int}{a1 a2:Option Addr}{c1 c2:Nat}{L:List Ba}(r1:RV w0 (.slice a1 L.length c1) L)(h2:c2<=maxLen):
  Calls Tryz.prog 139 [.agg [.int .i64 n,.int .i64 mm,.slice a1 L.length c1,.slice a2 0 c2].toArray].toArray w0 (A8 fun u w'=>∃b,u=.pointer (some ⟨b,0,none⟩)/\w0.heap.size<=b/\Jnm w'.heap.size w' b n mm a1 c1 (.slice a2 0 c2) L (Ar.fill 12 0)/\Ext w0 w'):=by
 refine A9 (n:=40) Tryz.func139 rfl rfl rfl<|Zr<|CO rfl rfl fun b1 w1 hx1 hg1 hb1=>Za<|nl<|Zr<|Zv (Ab rfl GA rfl (Bx.cs hb1))<|Zv (JL (r:=Fy n mm a1 c1 (.slice a2 0 c2) L (Ar.fill 12 0)) kZ kg (pc rfl pn) rfl)<|CO rfl rfl fun b w2 hx2 hg2 hb2=>?_;have d1:=hb1.ext hx2;have k2:=hx1.tr hx2;have s1:=hx1.size;refine Za<|nl<|wp_seq<|Zr<|Zv (AV rfl IU)<|Zv (AQ rfl Kl ((Bx.cs d1).at 3 rfl))<|Zv (BV rfl Tryz.underlying41)<|Zm<|nl<|?_;have hlt:=hb2.lt;have J:Jnm w2.heap.size w2 b n mm a1 c1 (.slice a2 0 c2) L (Ar.fill 12 0):=⟨Nat.le_refl _,hlt,hb2,((r1.old).ext k2).mono fun q _ hq=>⟨by have:=k2.size;omega,by omega⟩,a2,c2,rfl,h2⟩;refine wp_block<|lp (I:=fun m' L' w=>L' 12=.int .i64 0/\L' 11=.int .i64 ((0:Nat):Int)/\L' 3=.pointer (some ⟨b,0,none⟩)/\w=w2) 0 ⟨rfl,rfl,rfl,rfl⟩ ?_;rintro m' L' w⟨l12,l11,l3,rfl⟩;refine Zr<|Zv (BU l12 l11)<|nl<|wp_seq<|cnd rfl (fun h=>by simp at h) (fun _=>?_);exact wp_exit<|Zr<|Zv (BM l3)<|Za<|nl<|wp_ret<|Zw rfl rfl rfl ⟨b,rfl,by omega,J,k2⟩
def IK(F:Nat)(L:List Ba)(n c0:Int):Nat->Int->List Int->Option (List Int)
 |0,_,_=>none
 |m+1,k,out=>
  if decide (k<(L.length:Int))=true then
   (ix L k)>>=fun x=>
   (FL F L n (fun i=>!decide (i=k)))>>=fun q1=>
   (FL F L n (Jk L x))>>=fun q2=>
   (app 8 out ([if decide (q1.1<c0)=true then 2 else if decide (Aa (1+q2.1)=c0)=true then 1 else 0]:List Int))>>=fun o=>
   IK F L n c0 m (Aa (k+1)) o
  else some out
def Jl(F:Nat)(x0:FM):Option (List Int):=
 if ShOk x0=true then(FL F x0.2.2.1 x0.1 (fun _=>true))>>=fun q0=>IK F x0.2.2.1 x0.1 q0.1 F 0 []else none
theorem fT{F:Nat}{x:Int}(hF:0<F):slices_Contains_int F [] x=some false:=by
 obtain⟨F,rfl⟩:∃g,F=g+1:=⟨F-1,by omega⟩
 rfl
set_option maxHeartbeats 8000000 in
theorem sD{w0:World}{v0:Value}{x0:FM}(r0:RV w0 v0 x0){F:Nat}{r:List Int}(hF:Jl F x0=some r):
  Calls Tryz.prog 148 [v0].toArray w0 (A8 fun v w'=>∃u0:Value,v=u0/\Row 3 w0.heap.size w' u0 r/\Ext w0 w'):=by
 obtain⟨n,mm,L,K⟩:=x0;unfold Jl at hF;rcases hok:ShOk (n,mm,L,K)with _|_
 ·rw[if_neg (by simp[hok])]at hF;cases hF
 rw[if_pos hok]at hF;have hz:=ShOk.spec hok;obtain⟨hv,hK⟩:=hz;have hv:Kt L:=hv;have hK:K=[]:=hK;subst hK;refine bS hF fun q0 E0 hF=>?_;have E0:FL F L n (fun _=>true)=some q0:=E0;have hF:IK F L n q0.1 F 0 []=some r:=hF;have hz:=id r0;obtain⟨_,rfl,_,_,rfl,rfl,_,_,rfl,rfl,_,_,rfl,⟨a1,c1,rfl,p1,q3,e1⟩,a2,c2,rfl,p2,q4,e2⟩:=hz;have r3:=RV.of1 p1 q3 e1;refine A9 (n:=64) Tryz.func148 rfl rfl rfl<|Zr<|CO rfl rfl fun b1 w1 hx1 hg1 hb1=>Za<|nl<|Zr<|Zv (Ab rfl GA rfl (Bx.cs hb1))<|Zc (xc bn (mc rfl mn)) (jh (a2:=a2) (n:=n) (mm:=mm) (r3.ext hx1) q4) ?_;rintro _ w2⟨b,rfl,hgb,J2,hx2⟩;refine D9 GD fun b3 w3 hx3 hg3 hb3=>DC rfl rfl rfl GD hb3 rfl rfl (ble rfl) fun w4 hch4 hb4=>?_;have kx4:Ext w2 w4:=hx3.chg hch4 hg3;have d1:=(hb1.ext hx2).ext kx4;have d3:Bx w4 b3 233 [.pointer (some ⟨b,0,none⟩)]:=hb4;have s1:=hx1.size;have s2:=hx2.size;have s4:=kx4.size;have l1:=hb1.lt;have lb2:=J2.lb;have l3:=d3.lt;have J4:Jnm w4.heap.size w4 b n mm a1 c1 (.slice a2 0 c2) L (Ar.fill 12 0):=(J2.ext kx4).mono s4 (Nat.le_refl _);have k4:=(hx1.tr hx2).tr kx4;have hB:w0.heap.size<=w4.heap.size:=k4.size;refine nl<|Zr<|Zv (AQ rfl GD ((Bx.cs d3).at 0 rfl))<|Zv (AQ rfl GD ((Bx.cs d3).at 0 rfl))<|Zv (Lj (l:=[.pointer (some ⟨b,0,none⟩)]) (k:=[]) rfl rfl)<|Zc (xc SY (mc rfl<|mc rfl mn)) (X3 (n:=n) (mm:=mm) (kv:=.slice a2 0 c2) J4 (V6 hv) E0) ?_;rintro _ w5⟨rfl,J5,be5⟩;have s5:=be5.size;have d15:=d1.belp be5 d1.lt (by omega);have d35:=d3.belp be5 d3.lt (by omega);have k5:Ext w0 w5:=IJ k4 (be5.below (B:=w0.heap.size) (by omega) fun q hq=>by omega) (Nat.le_refl _);refine Za<|nl<|Zr<|Za<|nl<|wp_seq<|Zr<|Zv (AV rfl Br)<|Zv (AQ rfl DV ((Bx.cs d15).at 2 rfl))<|Zv (BV rfl Tryz.underlying108)<|Zm<|nl<|?_;have l1b:b1<w4.heap.size:=by omega
 have l3b:b3<w4.heap.size:=l3;refine ct (fun L' w=>∃u:Value,L' 5=u/\Row 3 w4.heap.size w u r/\Ext w0 w) ?_ ?_
 ·refine wp_block<|lp (I:=fun m' L' w=>∃(kk:Int)(out:List Int)(u:Value)(Pc:CF),IK F L n q0.1 m' kk out=some r/\L' 5=u/\Row 3 w4.heap.size w u out/\L' 19=.int .i64 kk/\L' 18=.int .i64 (L.length:Int)/\L' 17=.slice a1 L.length c1/\L' 4=.int .i64 q0.1/\L' 3=.pointer (some ⟨b3,0,none⟩)/\L' 1=.pointer (some ⟨b1,0,none⟩)/\Bx w b1 110 [.int .i64 n,.int .i64 mm,.slice a1 L.length c1,.slice a2 0 c2]/\Bx w b3 233 [.pointer (some ⟨b,0,none⟩)]/\Jnm w4.heap.size w b n mm a1 c1 (.slice a2 0 c2) L Pc/\Ext w0 w/\w4.heap.size<=w.heap.size) F
   ⟨0,[],_,q0.2,hF,rfl,Row.nil,rfl,rfl,rfl,rfl,rfl,rfl,d15,d35,J4.back be5 J5,k5,s5⟩ ?_
  clear d15 d35 J5 k5 be5 d1 d3 J4;rintro m' L' w⟨kk,out,u,Pc,hBq,l5,R,l19,l18,l17,l4,l3,l1,d1,d3,J,k,hs⟩;rcases m' with _|m'
  ·rw[IK]at hBq;cases hBq
  rw[IK]at hBq;have hz:=RV.sl R.rv;obtain⟨au,cu,rfl,-,-,-⟩:=hz;refine Zr<|Zv (BU l19 l18)<|nl<|wp_seq<|cnd rfl (fun hi=>?_) (fun hi=>?_)
  ·have hBq:=Ah hBq hi
   refine bS hBq fun x Ex hBq=>bS hBq fun q1 E1 hBq=>bS hBq fun q2 E2 hBq=>bS hBq fun o Ea hBq=>?_;have hz:=Dt Ex;obtain⟨i0,i1,i2⟩:=hz;obtain⟨kn,rfl⟩:∃kn:Nat,kk=(kn:Int):=⟨kk.toNat,by omega⟩;have hz:=(RVo.sl.1 J.rv);obtain⟨a3',c3',e3,_,_,els⟩:=hz;cases e3;have hz:=Els.ix els Ex;obtain⟨b8,off8,cs8,rfl,i7,i8,q8,hcY⟩:=hz;obtain rfl:=Flat.iff.1 q8;refine wp_skip<|wp_seq<|ct (fun L' w=>∃(u:Value)(Pc:CF),L' 5=u/\Row 3 w4.heap.size w u o/\L' 19=.int .i64 (kn:Int)/\L' 18=.int .i64 (L.length:Int)/\L' 17=.slice (some ⟨b8,off8,none⟩) L.length c1/\L' 4=.int .i64 q0.1/\L' 3=.pointer (some ⟨b3,0,none⟩)/\L' 1=.pointer (some ⟨b1,0,none⟩)/\Bx w b1 110 [.int .i64 n,.int .i64 mm,.slice (some ⟨b8,off8,none⟩) L.length c1,.slice a2 0 c2]/\Bx w b3 233 [.pointer (some ⟨b,0,none⟩)]/\Jnm w4.heap.size w b n mm (some ⟨b8,off8,none⟩) c1 (.slice a2 0 c2) L Pc/\Ext w0 w/\w4.heap.size<=w.heap.size) ?_ ?_
   ·refine wp_block<|Zr<|Zv (BM l19)<|Zv (BG l17 l19 Tryz.underlying108 BI i7 i8)<|Zv (Ab rfl BI rfl hcY)<|D9 AY fun b6 w6 hx6 hg6 hb6=>D9 BI fun b7 w7 hx7 hg7 hb7=>DC rfl rfl rfl AY (hb6.ext hx7) rfl rfl (ble rfl) fun w8 hch8 hb8=>DC rfl rfl rfl BI (hb7.chg hch8 (by have:=hb6.lt;omega)) rfl rfl (ble rfl) fun w9 hch9 hb9=>nl<|?_
    have s6:=hx6.size;have s7:=hx7.size;have kx9:Ext w w9:=((hx6.tr hx7).chg hch8 hg6).chg hch9 (by omega);have l6:=hb6.lt;have l7:=hb7.lt;have s9:=kx9.size;have z9:w9.heap.size=w7.heap.size:=by rw[hch9.size,hch8.size]
    have e6:Bx w9 b6 3 [.int .i64 (kn:Int)]:=hb8.chg hch9 (by omega);have e7:Bx w9 b7 112 (Flat.enc x):=hb9;have e1:=d1.ext kx9;have e3:=d3.ext kx9;have J9:=J.ext kx9;have hlb:=J.lb;have J9':Jnm w9.heap.size w9 b n mm (some ⟨b8,off8,none⟩) c1 (.slice a2 0 c2) L Pc:=J9.mono (by omega) (Nat.le_refl _);refine Zr<|Zv (AQ l3 GD ((Bx.cs e3).at 0 rfl))<|Zv (Lj (l:=[]) (k:=[.pointer (some ⟨b3,0,none⟩),.pointer (some ⟨b6,0,none⟩)]) rfl (mc l3<|mc rfl mn))<|Zc (xc SY (mc rfl<|mc rfl mn)) (X3 J9' (je hv e3 e6 ⟨by omega,by omega⟩ ⟨by omega,by omega⟩) E1) ?_;rintro _ wa⟨rfl,Ja,bea⟩;have sa:=bea.size;have f1:=e1.belp bea e1.lt (by omega);have f3:=e3.belp bea e3.lt (by omega);have f6:=e6.belp bea e6.lt (by omega);have f7:=e7.belp bea e7.lt (by omega);have Ja':=J9.back bea Ja;have Ja2:Jnm wa.heap.size wa b n mm (some ⟨b8,off8,none⟩) c1 (.slice a2 0 c2) L q1.2:=Ja.mono sa (Nat.le_refl _);refine Za<|nl<|Zr<|Zv (AQ l3 GD ((Bx.cs f3).at 0 rfl))<|Zv (Lj (l:=[]) (k:=[.pointer (some ⟨b3,0,none⟩),.pointer (some ⟨b1,0,none⟩),.pointer (some ⟨b7,0,none⟩)]) rfl (mc l3<|mc l1<|mc rfl mn))<|Zc (xc SY (mc rfl<|mc rfl mn)) (X3 Ja2 (jf hv f3 f1 f7 ⟨by omega,by omega⟩ ⟨by omega,by omega⟩ ⟨by omega,by omega⟩) E2) ?_;rintro _ wb⟨rfl,Jb,beb⟩;have sb:=beb.size;have g1:=f1.belp beb f1.lt (by omega);have g3:=f3.belp beb f3.lt (by omega);have g6:=f6.belp beb f6.lt (by omega);have Jb':=Ja'.back beb Jb;have kb:Ext w0 wb:=IJ (IJ (k.tr kx9) (bea.below (B:=w0.heap.size) (by omega) fun q hq=>by omega) (Nat.le_refl _)) (beb.below (B:=w0.heap.size) (by omega) fun q hq=>by omega) (Nat.le_refl _);have hrw:∀q,(Value.slice au out.length cu).ownBlock=some q->w4.heap.size<=q/\q<w.heap.size:=fun q e=>R.lt q e;have Rb:Row 3 w4.heap.size wb (.slice au out.length cu) out:=((R.ext kx9).belp bea fun q e=>⟨by have:=hrw q e;omega,by have:=hrw q e;omega⟩).belp beb fun q e=>⟨by have:=hrw q e;omega,by have:=hrw q e;omega⟩;have hsb:w4.heap.size<=wb.heap.size:=by omega
    have hkn:RV wb (.slice a2 0 c2) ([]:List Int):=RV.of1 (l:=[]) (Nat.zero_le _) q4 (.inl rfl);clear Ja Ja2 J9 J9' J R k d1 d3 hs;refine Zv (Bg rfl rfl)<|Za<|nl<|wp_block<|wp_seq<|Zr<|Zv (AV l1 IU)<|Zv (AQ rfl Kl ((Bx.cs g1).at 3 rfl))<|Zv (AQ rfl AY ((Bx.cs g6).at 0 rfl))<|Zc (xc cB (mc rfl<|mc rfl mn)) (jK hkn (F:=1) (r:=false) (fT (by decide))) ?_;rintro _ wc⟨rfl,hxc⟩;refine Za<|nl<|cnd rfl (fun h=>by cases h) (fun _=>?_);have h1:=g1.ext hxc;have h3:=g3.ext hxc;have h6:=g6.ext hxc;have Jc:=Jb'.ext hxc;have kc:=kb.tr hxc;have Rc:=Rb.ext hxc;have sc:=hxc.size;have i1':kn<L.length:=by omega
    refine rg<|Zv (AQ l3 GD ((Bx.cs h3).at 0 rfl))<|Zv (AQ rfl AY ((Bx.cs h6).at 0 rfl))<|Zc (xc P6 (mc rfl<|mc rfl mn)) (Od Jc hv i1') ?_;rintro _ we⟨rfl,hxe⟩;refine Zm<|Gt rfl rfl<|Zm<|Gt rfl rfl<|Zv (BM l4)<|Gt rfl rfl<|Zv (BU rfl rfl)<|Zv (DU rfl rfl rfl)<|Za<|nl<|?_;have d1:=h1.ext hxe;have d3:=h3.ext hxe;have d6:=h6.ext hxe;have J:=Jc.ext hxe;have k:=kc.tr hxe;have R:=Rc.ext hxe;have hs:w4.heap.size<=we.heap.size:=Nat.le_trans hsb (Nat.le_trans sc hxe.size);refine cnd rfl (fun hlt=>?_) (fun hlt=>?_)
    ·skip
     refine rg<|Zv (BM l5)<|Gb (cs:=[.int .i64 2]) Tryz.underlying41 AY rfl (pc rfl pn) rfl rfl rfl rfl rfl fun bo w8 hx8 hg8 hb8=>?_;have o8:Row (α:=Int) 3 _ w8 (.slice (some ⟨bo,0,none⟩) 1 1) [2]:=Row.lit hg8 hb8 rfl (ble rfl);have ew:(if decide (q1.1<q0.1)=true then(2:Int)else if decide (Aa (1+q2.1)=q0.1)=true then 1 else 0)=2:=by rw[if_pos hlt]
     rw[ew]at Ea;have Rx:=R.ext hx8;refine MI (l:=out) (k:=([2]:List Int)) rfl rfl Tryz.underlying41 AY rfl rfl Rx (RV.els o8.rv) Ea (Nat.le_trans hs hx8.size) fun v9 w9 o9 hB9 hg9 hw9=>?_;have s8:=hx8.size;have J8:=J.ext hx8;have lb:=J.lb;refine Za<|nl<|lf ⟨v9,_,rfl,o9,l19,l18,l17,l4,l3,l1,(d1.ext hx8).below hB9 l1b,(d3.ext hx8).below hB9 l3b,J8.bel hB9,IJ (k.tr hx8) hB9 hB,Nat.le_trans (Nat.le_trans hs s8) hB9.size⟩
    ·refine Zr<|Zv (AQ l3 GD ((Bx.cs d3).at 0 rfl))<|Zv (AQ rfl AY ((Bx.cs d6).at 0 rfl))<|Zc (xc P6 (mc rfl<|mc rfl mn)) (Od J hv i1') ?_
     rintro _ wf⟨rfl,hxf⟩;refine Zm<|Gt rfl rfl<|Zm<|Gt rfl rfl<|Zv (BM l4)<|Gt rfl rfl<|Zv (EU rfl rfl)<|Zv (DU rfl rfl rfl)<|Za<|nl<|?_;have d1:=d1.ext hxf;have d3:=d3.ext hxf;have J:=J.ext hxf;have k:=k.tr hxf;have R:=R.ext hxf;have hs:w4.heap.size<=wf.heap.size:=Nat.le_trans hs hxf.size;refine cnd rfl (fun heq=>?_) (fun heq=>?_)
     ·skip
      refine rg<|Zv (BM l5)<|Gb (cs:=[.int .i64 1]) Tryz.underlying41 AY rfl (pc rfl pn) rfl rfl rfl rfl rfl fun bo w8 hx8 hg8 hb8=>?_;have o8:Row (α:=Int) 3 _ w8 (.slice (some ⟨bo,0,none⟩) 1 1) [1]:=Row.lit hg8 hb8 rfl (ble rfl);have ew:(if decide (q1.1<q0.1)=true then(2:Int)else if decide (Aa (1+q2.1)=q0.1)=true then 1 else 0)=1:=by rw[if_neg (by simp[hlt]),if_pos heq]
      rw[ew]at Ea;have Rx:=R.ext hx8;refine MI (l:=out) (k:=([1]:List Int)) rfl rfl Tryz.underlying41 AY rfl rfl Rx (RV.els o8.rv) Ea (Nat.le_trans hs hx8.size) fun v9 w9 o9 hB9 hg9 hw9=>?_;have s8:=hx8.size;have J8:=J.ext hx8;have lb:=J.lb;refine Za<|nl<|lf ⟨v9,_,rfl,o9,l19,l18,l17,l4,l3,l1,(d1.ext hx8).below hB9 l1b,(d3.ext hx8).below hB9 l3b,J8.bel hB9,IJ (k.tr hx8) hB9 hB,Nat.le_trans (Nat.le_trans hs s8) hB9.size⟩
     ·skip
      refine rg<|Zv (BM l5)<|Gb (cs:=[.int .i64 0]) Tryz.underlying41 AY rfl (pc rfl pn) rfl rfl rfl rfl rfl fun bo w8 hx8 hg8 hb8=>?_;have o8:Row (α:=Int) 3 _ w8 (.slice (some ⟨bo,0,none⟩) 1 1) [0]:=Row.lit hg8 hb8 rfl (ble rfl);have ew:(if decide (q1.1<q0.1)=true then(2:Int)else if decide (Aa (1+q2.1)=q0.1)=true then 1 else 0)=0:=by rw[if_neg (by simp[hlt]),if_neg (by simp[heq])]
      rw[ew]at Ea;have Rx:=R.ext hx8;refine MI (l:=out) (k:=([0]:List Int)) rfl rfl Tryz.underlying41 AY rfl rfl Rx (RV.els o8.rv) Ea (Nat.le_trans hs hx8.size) fun v9 w9 o9 hB9 hg9 hw9=>?_;have s8:=hx8.size;have J8:=J.ext hx8;have lb:=J.lb;refine Za<|nl<|lf ⟨v9,_,rfl,o9,l19,l18,l17,l4,l3,l1,(d1.ext hx8).below hB9 l1b,(d3.ext hx8).below hB9 l3b,J8.bel hB9,IJ (k.tr hx8) hB9 hB,Nat.le_trans (Nat.le_trans hs s8) hB9.size⟩
   ·rintro L'' wz⟨u,Pz,l5,R,l19,l18,l17,l4,l3,l1,d1,d3,J,k,hs⟩
    refine rg<|Zv (Bg l19 rfl)<|Zm<|nl<|lq m' (Nat.lt_succ_self _) ⟨_,_,_,_,hBq,l5,R,rfl,l18,l17,l4,l3,l1,d1,d3,J,k,hs⟩
  ·have hBq:=Ai hBq hi
   cases hBq;exact wp_exit<|lf ⟨_,l5,R,k⟩
 rintro L' wz⟨u,l5,R,k⟩;exact Zr<|Zv (BM l5)<|Za<|nl<|wp_ret<|Zw rfl rfl rfl ⟨_,rfl,R.bnd hB,k⟩
end
end Go.Proofs.YtfmelbioccbdoaaGreat
end
section
namespace Go.Md
open Go Go.RowKit
section
variable {P:Program}{n:Nat}{L:Fr}{w:World}{ty:TypeId}{pos:String}{af:Array Edge}{dst:Option Nat}{gdd:Option (Nat×Bool)}{x z:Operand}
theorem sF{α:Type}[Enc α][Flat α]{m:Nat}{X:Ar m α}{k:IntKind}{i:Int}{y:α}{t e:TypeId}{bytes:Nat}{z0:List Value}(hx:ev n L x=.agg (List.flatMap Flat.enc X.l).toArray)(hi:ev n L z=.int k i)(ht:P.underlying t=some (.array m e))(he:TI P e (Enc.agg α) (Enc.n α) bytes z0)(hy:ix X.l i=some y):
  (execOp (ev n L) {dst:=dst,op:=.index t x z,type:=ty,pos:=pos,after:=af,guard:=gdd}).run P w=.ok (.value (Enc.val α (Flat.enc y))) w:=by
 obtain⟨i0,i1,i2⟩:=Dt hy;have hX:=X.h;have hl:i.toNat<X.l.length:=(List.getElem?_eq_some_iff.1 i2).1;have hs:X.l=X.l.take i.toNat++(y::X.l.drop (i.toNat+1)):=by
  rw[<-(List.getElem?_eq_some_iff.1 i2).2,List.getElem_cons_drop,List.take_append_drop]
 have hlen:((X.l.take i.toNat).flatMap Flat.enc:List Value).length=i.toNat*Enc.n α:=by rw[Flat.flen,List.length_take,Nat.min_eq_left (by omega)]
 have hr:=Fu he w ((X.l.take i.toNat).flatMap Flat.enc) ((X.l.drop (i.toNat+1)).flatMap Flat.enc) y;have e1:(X.l.take i.toNat).flatMap Flat.enc++(Flat.enc y++(X.l.drop (i.toNat+1)).flatMap Flat.enc)=(X.l.flatMap Flat.enc:List Value):=by
  conv=>rhs;rw[hs]
  rw[List.flatMap_append,List.flatMap_cons]
 rw[e1,hlen]at hr;have i3:i<(m:Int):=by omega
 simp[execOp,hx,hi,Instr.index,asIntOf,run_underlying ht,i0,i3,he.size,hr,Result.andThen]
end
end Go.Md
namespace Go.Proofs.YtfmelbioccbdoaaGreat
open Go Go.Md Go.RowKit
attribute [local irreducible] Go.wpList Go.Code.wp Go.Calls Go.Md.C9 Go.Md.Mt Go.Md.Dz Go.Md.CW Go.Code.wpIn
def Iy(F:Nat)(x:FM):Option (Ar 12 Int):=if ShOk x=true then(FL F x.2.2.1 x.1 (fun _=>true))>>=fun q=>some q.2 else none
def Ue(X:Ar 12 Int)(i:Int):Option Int:=ix X.l i
theorem SQ{F:Nat}{x:FM}{X:Ar 12 Int}(h:Iy F x=some X):Kt x.2.2.1/\x.2.2.2=[]/\∃q,FL F x.2.2.1 x.1 (fun _=>true)=some q/\q.2=X:=by
 unfold Iy at h;rcases hok:ShOk x with _|_
 ·rw[if_neg (by simp[hok])]at h;cases h
 rw[if_pos hok]at h;obtain⟨q,h1,h2⟩:=Md.bs h;cases h2;exact⟨(ShOk.spec hok).1,(ShOk.spec hok).2,q,h1,rfl⟩
theorem nV{w0:World}{n mm:Int}{a1 a2:Option Addr}{c1 c2:Nat}{L:List Ba}{K:List Int}(hK:K=[])(r1:RV w0 (.slice a1 L.length c1) L)(h2:c2<=maxLen):
  Calls Tryz.prog 139 [.agg [.int .i64 n,.int .i64 mm,.slice a1 L.length c1,.slice a2 K.length c2].toArray].toArray w0 (A8 fun u w'=>∃b,u=.pointer (some ⟨b,0,none⟩)/\w0.heap.size<=b/\Jnm w'.heap.size w' b n mm a1 c1 (.slice a2 0 c2) L (Ar.fill 12 0)/\Ext w0 w'):=by
 subst hK;exact jh r1 h2
def ED(F:Nat)(x3:(Ar 12 Int)):Nat->(List Int)->Int->Option ((List Int))
 |0,_,_=>none
 |m+1,y1,y2=>
  if(decide (y2<12))=true then
   (((Ue x3 y2)>>=fun x5=>
   ((if(decide (0<x5))=true then
    (app 8 y1 ([Aa (x5-1)]:List Int))>>=fun x6=>
    some x6
   else
    some y1:Option ((List Int)))>>=fun y4=>
   some y4):Option ((List Int)))>>=fun y3=>
   ED F x3 m y3 (Aa (y2+1)))
  else
   some y1
def Hf(F:Nat)(x0:(Int×Int×(List (Int×Int))×(List Int))):Option ((List Int)×Int):=
 (EY F (x0.1,x0.2.1,x0.2.2.1,x0.2.2.2))>>=fun x2=>
 if(!decide (x2=0))=true then
  some ([],x2)
 else
  (Iy F (x0.1,x0.2.1,x0.2.2.1,x0.2.2.2))>>=fun x3=>
  (mks 8 (x0.2.2.2.length:Int) (0))>>=fun x4=>
  ((ED F x3 F (KO x4 x0.2.2.2) 0)>>=fun z1=>
  (slices_Sort_int z1)>>=fun x7=>
  some (x7,0))
theorem uV{w0:World}{v0:Value}{x0:(Int×Int×(List (Int×Int))×(List Int))}(r0:RV w0 v0 x0){F:Nat}{r:((List Int)×Int)}(hF:Hf F x0=some r):
  Calls Tryz.prog 59 [v0].toArray w0 (A8 fun v w'=>∃u0:Value,v=.tuple #[u0,.int .i64 r.2]/\RV w' u0 r.1/\Ext w0 w'):=by
 unfold Hf at hF;have hz:=id r0;obtain⟨_,rfl,_,_,rfl,rfl,_,_,rfl,rfl,_,_,rfl,⟨a1,cq1,rfl,p1,q2,e1⟩,a2,cq2,rfl,p2,q3,e2⟩:=hz;have r2:=RV.of1 p1 q2 e1;have r3:=RV.of1 p2 q3 e2;refine A9 (n:=51) Tryz.func59 rfl rfl rfl<|Zr<|CO rfl rfl fun b2 w1 hx1 hg1 hb1=>?_;have r4:=r2.ext hx1;have r5:=r3.ext hx1;have r6:=r0.ext hx1;refine Za<|Za<|nl<|wp_seq<|Zr<|Zv (Ab rfl GA rfl (Bx.cs hb1))<|bS hF fun x2 Ex2 hF=>Zc (xc WW (mc rfl mn)) (bD (show RV (α:=(Int×Int×(List (Int×Int))×(List Int))) _ (.agg [.int .i64 x0.1,.int .i64 x0.2.1,.slice a1 x0.2.2.1.length cq1,.slice a2 x0.2.2.2.length cq2].toArray) (x0.1,x0.2.1,x0.2.2.1,x0.2.2.2)from⟨_,rfl,[.int .i64 x0.1],[.int .i64 x0.2.1]++([.slice a1 x0.2.2.1.length cq1]++[.slice a2 x0.2.2.2.length cq2]),rfl,rfl,[.int .i64 x0.2.1],[.slice a1 x0.2.2.1.length cq1]++[.slice a2 x0.2.2.2.length cq2],rfl,rfl,[.slice a1 x0.2.2.1.length cq1],[.slice a2 x0.2.2.2.length cq2],rfl,r4.rep1,r5.rep1⟩) Ex2) ?_;rintro _ w2⟨rfl,hx2⟩;have k1:=hx1.tr hx2;have hb2:=hb1.ext hx2;have r7:=r4.ext hx2;have r8:=r5.ext hx2;refine Za<|nl<|Zr<|Zm<|Zv (FT rfl rfl)<|nl<|cnd rfl (fun h2=>?_) (fun h2=>?_)
 ·have hF:=Ah hF h2;refine Zr<|Zm<|Za<|Za<|nl<|?_;cases hF;exact wp_ret<|rt rfl (.tmp rfl rfl (.tmp rfl rfl .nil)) ⟨_,rfl,(RVo.nil (Nat.zero_le _)),k1⟩
 ·have hF:=Ai hF h2;refine wp_skip<|Zr<|Zv (Ab rfl GA rfl (Bx.cs hb2))<|bS hF fun x3 Ex3 hF=>?_;have hz:=SQ Ex3;obtain⟨hv,hK,q0,E0,rfl⟩:=hz;refine Zc (xc bn (mc rfl mn)) (nV (n:=x0.1) (mm:=x0.2.1) hK r7 q3) ?_;rintro _ wj⟨b,rfl,hgb,Jj,hxj⟩;refine Za<|nl<|Zr<|Zm<|Zm<|Zv (Lj (l:=[.pointer (some ⟨b,0,none⟩)]) (k:=[]) rfl rfl)<|Zc (xc SY (mc rfl<|mc rfl mn)) (X3 Jj (V6 hv) E0) ?_;rintro _ w3⟨rfl,J3,be3⟩;have sj:=hxj.size;have hx3:Ext w2 w3:=IJ hxj (be3.below (B:=w2.heap.size) sj fun q hq=>by omega) (Nat.le_refl _);have k2:=k1.tr hx3;have hb3:=hb2.ext hx3;have r10:=r7.ext hx3;have r11:=r8.ext hx3;have r9:RV (α:=Ar 12 Int) w3 (.agg (List.flatMap Flat.enc q0.2.l).toArray) q0.2:=⟨_,rfl,rfl⟩;refine nl<|Zr<|Zv (AV rfl IU)<|Zv (AQ rfl Kl ((Bx.cs hb3).at 3 rfl))<|Zv (BV rfl Tryz.underlying41)<|bS hF fun x4 Ex4 hF=>Z4 (α:=Int) (z0:=0) rfl rfl Tryz.underlying41 AY rfl rfl rfl Ex4 fun b3 w4 hx4 o1=>?_;have k3:=k2.tr hx4;have hb4:=hb3.ext hx4;have r12:=r10.ext hx4;have r13:=r11.ext hx4;have r14:=r9.ext hx4;refine Za<|nl<|Zr<|Zm<|Zv (AV rfl IU)<|Zv (AQ rfl Kl ((Bx.cs hb4).at 3 rfl))<|iG (l:=x4) (k:=x0.2.2.2) rfl rfl Tryz.underlying41 AY o1 r13 fun w5 cq3 hch1 o2=>?_;have k4:=Ext.chg k3 hch1 (Nat.le_trans k2.size (Row.ge o1));have k5:=Ext.chg hx4 hch1 (Nat.le_trans (Nat.le_refl _) (Row.ge o1));have r15:=r9.ext k5;have J5:=J3.ext k5;refine nl<|wp_seq<|Zr<|Zm<|Zv (Cv rfl)<|Zv (AV rfl K8)<|Zv (Ab rfl Iq (Ir q0.2) J5.part)<|Zm<|nl<|bS hF fun z1 hB1 hF=>ct (fun L w=>∃v3:Value,L 6=v3/\Row 3 w3.heap.size w v3 z1/\Ext w3 w) ?_ ?_
  ·refine wp_block<|lp (I:=fun m L w=>∃y1:(List Int),∃y2:Int,∃v2:Value,ED F q0.2 m y1 y2=some z1/\L 6=v2/\Row 3 w3.heap.size w v2 y1/\L 32=.int .i64 y2/\L 31=.agg (List.flatMap Flat.enc q0.2.l).toArray/\Ext w3 w) F ⟨_,_,_,hB1,rfl,o2,rfl,rfl,k5⟩ ?_;rintro m L w6⟨y1,y2,v2,hB1,l6_i1,O6_i1,l32_i1,l31_i1,K0_i1⟩;rcases m with _|m
   ·rw[ED]at hB1;cases hB1
   rw[ED]at hB1;have k6:=k2.tr K0_i1;have r16:=r9.ext K0_i1;have hz:=RV.sl O6_i1.rv;obtain⟨a3,cq4,rfl,-,-,-⟩:=hz;refine Zr<|Zv (BU l32_i1 rfl)<|nl<|wp_seq<|cnd rfl (fun h3=>?_) (fun h3=>?_)
   ·have hB1:=Ah hB1 h3;refine wp_skip<|wp_seq<|bS hB1 fun y3 hB3 hB1=>ct (fun L w=>∃v4:Value,L 6=v4/\Row 3 w3.heap.size w v4 y3/\L 31=.agg (List.flatMap Flat.enc q0.2.l).toArray/\L 32=.int .i64 y2/\Ext w3 w) ?_ ?_
    ·refine wp_block<|Zr<|bS hB3 fun x5 Ex5 hB3=>?_;have hx5:Ext w6 w6:=Ext.refl _;have k7:=k6.tr hx5;have k8:=K0_i1.tr hx5;have r17:=r16.ext hx5;have O1:=O6_i1.ext hx5;refine Zv (sF l31_i1 l32_i1 Tryz.underlying238 AY Ex5)<|Za<|nl<|Zr<|Zm<|Zv (IC rfl rfl)<|nl<|bS hB3 fun y4 hB4 hB3=>ct (fun L w=>∃v5:Value,L 6=v5/\Row 3 w3.heap.size w v5 y4/\L 31=.agg (List.flatMap Flat.enc q0.2.l).toArray/\L 32=.int .i64 y2/\Ext w3 w) ?_ ?_
     ·refine cnd rfl (fun h4=>?_) (fun h4=>?_)
      ·have hB4:=Ah hB4 h4;refine rg<|Zm<|Zm<|Zv (BV l6_i1 Tryz.underlying41)<|Zm<|Zv (BV l6_i1 Tryz.underlying41)<|?_;have r18:=RV.full O1.rv;refine Zv (qI l6_i1 (RV.cap O1.rv).2.1 Tryz.underlying41 AY rfl rfl)<|Zm<|Zv (F5 rfl rfl)<|Gb (cs:=[.int .i64 (Aa (x5-1))]) Tryz.underlying41 AY rfl (pc rfl pn) rfl rfl rfl rfl rfl fun b4 w8 hx6 hg2 hb5=>?_;have k9:=k7.tr hx6;have k10:=k8.tr hx6;have k11:=hx5.tr hx6;have r19:=r17.ext hx6;have r20:=r18.ext hx6;have o4:Row (α:=Int) 3 w6.heap.size w8 (.slice (some ⟨b4,0,none⟩) 1 1) [Aa (x5-1)]:=Row.lit hg2 hb5 rfl (ble rfl);refine bS hB4 fun x6 Ex6 hB4=>qJ (l:=y1) (k:=([Aa (x5-1)]:List Int)) rfl rfl Tryz.underlying41 AY rfl rfl r20 o4.rv rfl Ex6 fun v6 w9 o5 hx7=>?_;have k12:=k9.tr hx7;have k13:=k10.tr hx7;have k14:=k11.tr hx7;have k15:=hx6.tr hx7;have r22:=r19.ext hx7;have hz:=RV.sl o5.rv;obtain⟨a4,cq5,rfl,-,-,-⟩:=hz;refine Za<|nl<|?_;cases hB4;refine lf<|?_;exact⟨_,rfl,(o5.bnd k10.size),l31_i1,l32_i1,k13⟩
      ·have hB4:=Ai hB4 h4;refine wp_skip<|?_;cases hB4;refine lf<|?_;exact⟨_,l6_i1,O1,l31_i1,l32_i1,k8⟩
     rintro L w10⟨v5,l6_j1,O6_j1,l31_j1,l32_j1,K0_j1⟩;have k16:=k2.tr K0_j1;have r23:=r9.ext K0_j1;have hz:=RV.sl O6_j1.rv;obtain⟨a5,cq6,rfl,-,-,-⟩:=hz;cases hB3;refine lf<|?_;exact⟨_,l6_j1,O6_j1,l31_j1,l32_j1,K0_j1⟩
    rintro L w11⟨v4,l6_j2,O6_j2,l31_j2,l32_j2,K0_j2⟩;have k17:=k2.tr K0_j2;have r24:=r9.ext K0_j2;have hz:=RV.sl O6_j2.rv;obtain⟨a6,cq7,rfl,-,-,-⟩:=hz;refine rg<|Zv (Bg l32_j2 rfl)<|Zm<|nl<|lq m (Nat.lt_succ_self _)<|?_;exact⟨_,_,_,hB1,l6_j2,O6_j2,rfl,l31_j2,K0_j2⟩
   ·have hB1:=Ai hB1 h3;refine wp_exit<|?_;cases hB1;refine lf<|?_;exact⟨_,l6_i1,O6_i1,K0_i1⟩
  rintro L w12⟨v3,l6_j3,O6_j3,K0_j3⟩;have k18:=k2.tr K0_j3;have hz:=RV.sl O6_j3.rv;obtain⟨a7,cq8,rfl,-,-,-⟩:=hz;refine Zr<|Zm<|bS hF fun x7 Ex7 hF=>Zc (xc qH (mc l6_j3 mn)) (qX K0_j3.size O6_j3 Ex7) ?_;rintro _ w13⟨rfl,o6,hB8,hgr1⟩;have k19:=Ext.grow k18 k2.size hB8;have k20:Ext w3 w13:=K0_j3.trans hB8;refine nl<|Zr<|Zm<|Za<|Za<|nl<|?_;cases hF;exact wp_ret<|rt rfl (.tmp l6_j3 rfl (.tmp rfl rfl .nil)) ⟨_,rfl,o6.rv,k19⟩
end Go.Proofs.YtfmelbioccbdoaaGreat
end
section
namespace Go.Proofs.YtfmelbioccbdoaaGreat
open Go Go.Md Go.RowKit
attribute [local irreducible] Go.wpList Go.Code.wp Go.Calls Go.Md.C9 Go.Md.Mt Go.Md.Dz Go.Md.CW Go.Code.wpIn


end Go.Proofs.YtfmelbioccbdoaaGreat
end
section
namespace Go.Proofs.YtfmelbioccbdoaaGreat
open Go Go.Md Go.RowKit
def Jm(F:Nat)(x0:(Int×Int×(List (Int×Int))×(List Int))):Option ((List Int)×Int):=
 (EY F (x0.1,x0.2.1,x0.2.2.1,x0.2.2.2))>>=fun x2=>
 if(!decide (x2=0))=true then
  some ([],x2)
 else
  (Jl F (x0.1,x0.2.1,x0.2.2.1,x0.2.2.2))>>=fun x3=>
  some (x3,0)
def Hy(F:Nat)(x0:Int)(x1:(List Int)):Option Bool:=
 (slices_Contains_int F x1 x0)>>=fun x3=>
 some (!x3)
def Fe(F:Nat)(x0:(Int×Int×(List (Int×Int))×(List Int)))(x1:(List Int)):Option Int:=
 (EY F (x0.1,x0.2.1,x0.2.2.1,x0.2.2.2))>>=fun x3=>
 if(!decide (x3=0))=true then
  some x3
 else
  (Gd F x1 (x0.2.2.1.length:Int))>>=fun x4=>
  if(!x4)=true then
   some 3
  else
   (Gf F (x0.1,x0.2.1,x0.2.2.1,x0.2.2.2) x1)>>=fun x5=>
   (gd (!(!x5)) (Cu F x0.2.2.2 (fun y=>Hy F y x1)) false)>>=fun x6=>
   if((!x5)||x6)=true then
    some 16
   else
    some 0
def Cw(F:Nat)(x0:Bq)(x5:(List (Int×Bool)))(y1:Int)(y3:Int)(y7:Int):Nat->Bool->Int->Option (Sum Bool (Bool))
 |0,_,_=>none
 |m+1,y8,y9=>
  if(decide (y9<(x5.length:Int)))=true then
   (((((ix x5 y7)>>=fun x7=>
   if(decide (x7.1=y1))=true then
    (ix x5 y9)>>=fun x8=>
    some (decide (x8.1=y3))
   else
    some false:Option (Bool))>>=fun y11=>
   ((if y11=true then
    (ix x5 y7)>>=fun x9=>
    (ix x5 y9)>>=fun x10=>
    (JH F (x0.1,x0.2.1,(x0.2.2.1,x0.2.2.2)) (x9.1,x9.2) (x10.1,x10.2))>>=fun x11=>
    if(!decide (x11.2=0))=true then
     some (.inl false)
    else
     some (.inr (y8||x11.1))
   else
    some (.inr y8):Option (Sum Bool (Bool)))>>=fun o=>match o with
    |.inl r=>some (.inl r)
    |.inr y12=>
     some (.inr y12))):Option (Sum Bool (Bool)))>>=fun o=>match o with
    |.inl r=>some (.inl r)
    |.inr y10=>
     Cw F x0 x5 y1 y3 y7 m y10 (Aa (y9+1)))
  else
   some (.inr y8)
def Cx(F:Nat)(x0:Bq)(x5:(List (Int×Bool)))(y1:Int)(y3:Int):Nat->Bool->Int->Option (Sum Bool (Bool))
 |0,_,_=>none
 |m+1,y6,y7=>
  if(decide (y7<(x5.length:Int)))=true then
   ((Cw F x0 x5 y1 y3 y7 F y6 0)>>=fun o=>match o with
    |.inl r=>some (.inl r)
    |.inr z4=>
     Cx F x0 x5 y1 y3 m z4 (Aa (y7+1)))
  else
   some (.inr y6)
def Cy(F:Nat)(x0:Bq)(x5:(List (Int×Bool)))(y1:Int):Nat->Int->(Int×Int×(List (Int×Int))×(List Int))->Option (Sum Bool ((Int×Int×(List (Int×Int))×(List Int))))
 |0,_,_=>none
 |m+1,y3,y4=>
  if(decide (y3<(x0.1.length:Int)))=true then
   ((((Cx F x0 x5 y1 y3 F false 0)>>=fun o=>match o with
    |.inl r=>some (.inl r)
    |.inr z3=>
     ((if z3=true then
      (IV y1 y3)>>=fun x12=>
      (app 16 y4.2.2.1 ([x12]:List (Int×Int)))>>=fun x13=>
      some (y4.1,y4.2.1,x13,[])
     else
      some (y4.1,y4.2.1,y4.2.2.1,[]):Option ((Int×Int×(List (Int×Int))×(List Int))))>>=fun y13=>
     some (.inr (y13.1,y13.2.1,y13.2.2.1,[])))):Option (Sum Bool ((Int×Int×(List (Int×Int))×(List Int)))))>>=fun o=>match o with
    |.inl r=>some (.inl r)
    |.inr y5=>
     Cy F x0 x5 y1 m (Aa (y3+1)) (y5.1,y5.2.1,y5.2.2.1,[]))
  else
   some (.inr (y4.1,y4.2.1,y4.2.2.1,[]))
def Cz(F:Nat)(x0:Bq)(x5:(List (Int×Bool))):Nat->Int->(Int×Int×(List (Int×Int))×(List Int))->Option (Sum Bool ((Int×Int×(List (Int×Int))×(List Int))))
 |0,_,_=>none
 |m+1,y1,y2=>
  if(decide (y1<(x0.1.length:Int)))=true then
   ((Cy F x0 x5 y1 F 0 (y2.1,y2.2.1,y2.2.2.1,[]))>>=fun o=>match o with
    |.inl r=>some (.inl r)
    |.inr z2=>
     Cz F x0 x5 m (Aa (y1+1)) (z2.1,z2.2.1,z2.2.2.1,[]))
  else
   some (.inr (y2.1,y2.2.1,y2.2.2.1,[]))
def C8(F:Nat)(x20:((List (Int×Bool))×Int))(y15:Int)(z1:(Int×Int×(List (Int×Int))×(List Int))):Nat->(List Int)->Int->Option ((List Int))
 |0,_,_=>none
 |m+1,y16,y17=>
  if(decide (y17<(z1.2.2.1.length:Int)))=true then
   (((ix z1.2.2.1 y17)>>=fun x23=>
   (ix x20.1 (Aa (y15-1)))>>=fun x24=>
   (ix x20.1 y15)>>=fun x25=>
   (IV x24.1 x25.1)>>=fun x26=>
   ((if(decide ((x23.1,x23.2)=x26))=true then
    (ix y16 y17)>>=fun x27=>
    some (Eh y16 y17 1)
   else
    some y16:Option ((List Int)))>>=fun y19=>
   some y19):Option ((List Int)))>>=fun y18=>
   C8 F x20 y15 z1 m y18 (Aa (y17+1)))
  else
   some y16
def CZ(F:Nat)(x0:Bq)(x20:((List (Int×Bool))×Int))(z1:(Int×Int×(List (Int×Int))×(List Int))):Nat->(List Int)->Int->Option ((List Int))
 |0,_,_=>none
 |m+1,y14,y15=>
  if(decide (y15<(x0.1.length:Int)))=true then
   ((C8 F x20 y15 z1 F y14 0)>>=fun z6=>
   CZ F x0 x20 z1 m z6 (Aa (y15+1)))
  else
   some y14
def Ca(F:Nat)(x0:Bq)(x16:((List Int)×Int))(x17:((List Int)×Int))(z5:(List Int)):Nat->(List Int)->Int->Option (Sum Bool ((List Int)))
 |0,_,_=>none
 |m+1,y20,y21=>
  if(decide (y21<(z5.length:Int)))=true then
   (ix z5 y21)>>=fun x28=>
   ((if(decide (x28=1))=true then
    (app 8 y20 ([y21]:List Int))>>=fun x29=>
    some x29
   else
    some y20:Option ((List Int)))>>=fun y22=>
   ((if(decide ((x16.1.length:Int)=(Aa ((x0.1.length:Int)-1))))=true then
    (ix x17.1 y21)>>=fun x30=>
    if(decide (x30=2))=true then
     (ix z5 y21)>>=fun x31=>
     if(decide (x31=0))=true then
      some true
     else
      (ix x17.1 y21)>>=fun x32=>
      if(decide (x32=0))=true then
       (ix z5 y21)>>=fun x33=>
       some (decide (x33=1))
      else
       some false
    else
     if false=true then
      some true
     else
      (ix x17.1 y21)>>=fun x34=>
      if(decide (x34=0))=true then
       (ix z5 y21)>>=fun x35=>
       some (decide (x35=1))
      else
       some false
   else
    some false:Option (Bool))>>=fun y23=>
   if y23=true then
    some (.inl false)
   else
    Ca F x0 x16 x17 z5 m y22 (Aa (y21+1))))
  else
   some (.inr y20)
def Ff(F:Nat)(x0:Bq)(x1:Int):Option Bool:=
 (EG F (x0.1,x0.2.1,(x0.2.2.1,x0.2.2.2)))>>=fun x3=>
 if((!x3)||(decide (6<(x0.1.length:Int))))=true then
  (Hu F)>>=fun x4=>
  some x4
 else
  (Ht F (x0.1,x0.2.1,(x0.2.2.1,x0.2.2.2)))>>=fun x5=>
  ((Cz F x0 x5 F 0 ((x0.1.length:Int),(x0.1.length:Int),[],[]))>>=fun o=>match o with
   |.inl r=>some r
   |.inr z1=>
    (Fv F (z1.1,z1.2.1,z1.2.2.1,[]))>>=fun x14=>
    if(!decide (x14=0))=true then
     some false
    else
     (Ic F (x0.1,x0.2.1,(x0.2.2.1,x0.2.2.2)))>>=fun x15=>
     (Hf F (z1.1,z1.2.1,z1.2.2.1,[]))>>=fun x16=>
     (Jm F (z1.1,z1.2.1,z1.2.2.1,[]))>>=fun x17=>
     if(((((!decide (x15.2=0))||(!decide (x16.2=0)))||(!decide (x17.2=0)))||(decide (x15.1<0)))||(!decide ((x17.1.length:Int)=(z1.2.2.1.length:Int))))=true then
      some false
     else
      if(decide (x15.1=0))=true then
       (Hu F)>>=fun x18=>
       some x18
      else
       (rem (Aa x1) x15.1)>>=fun x19=>
       (KJ F (x0.1,x0.2.1,(x0.2.2.1,x0.2.2.2)) x19)>>=fun x20=>
       (gd (!(!decide (x20.2=0))) (FO F (x0.1,x0.2.1,(x0.2.2.1,x0.2.2.2)) x20.1) 0)>>=fun x21=>
       if(((!decide (x20.2=0))||(!decide (x21=0)))||(decide ((x16.1.length:Int)<(Aa ((x0.1.length:Int)-1)))))=true then
        some false
       else
        (mks 8 (z1.2.2.1.length:Int) (0))>>=fun x22=>
        ((CZ F x0 x20 z1 F x22 1)>>=fun z5=>
        ((Ca F x0 x16 x17 z5 F ([]) 0)>>=fun o=>match o with
         |.inl r=>some r
         |.inr z7=>
          (gd (decide ((z7.length:Int)=(Aa ((x0.1.length:Int)-1)))) (Fe F (z1.1,z1.2.1,z1.2.2.1,[]) z7) 0)>>=fun x36=>
          (gd ((decide ((z7.length:Int)=(Aa ((x0.1.length:Int)-1))))&&(decide (x36=0))) (Hu F) false)>>=fun x37=>
          some (((decide ((z7.length:Int)=(Aa ((x0.1.length:Int)-1))))&&(decide (x36=0)))&&x37))))
end Go.Proofs.YtfmelbioccbdoaaGreat
end
section
namespace Go.Proofs.YtfmelbioccbdoaaGreat
open Go Go.Md Go.RowKit
attribute [local irreducible] Go.wpList Go.Code.wp Go.Calls Go.Md.C9 Go.Md.Mt Go.Md.Dz Go.Md.CW Go.Code.wpIn



theorem uW{w0:World}{F:Nat}{r:Bool}(hF:MQ F=some r):
  Calls Tryz.prog 15 [].toArray w0 (A8 fun v w'=>v=.bool r/\Ext w0 w'):=by
 unfold MQ at hF;refine A9 (n:=8) Tryz.func15 rfl rfl rfl<|Zr<|Za<|nl<|Zr<|bS hF fun x1 Ex1 hF=>Zc (xc qE mn) (qh Ex1) ?_;rintro _ w1⟨rfl,hx1⟩;refine Zm<|bS hF fun x2 Ex2 hF=>gc rfl rfl rfl rfl (Bn rfl) rfl (fun hc=>xc qF mn) (fun hc=>(qi (Lg Ex2 hc))) (fun v1 w2 hy1 hn1=>?_);have hx2:Ext w1 w2:=gx (fun h=>(hy1 h).2) (fun h=>(hn1 h).2▸Ext.refl _);have e1:=Li (fun h=>(hy1 h).1) (fun h=>(hn1 h).1);have k1:=hx1.tr hx2;refine Zv (Kq rfl e1 rfl)<|Zm<|bS hF fun x3 Ex3 hF=>gc rfl rfl rfl rfl (Bn rfl) rfl (fun hc=>xc qG mn) (fun hc=>(qj (Lg Ex3 hc))) (fun v2 w3 hy2 hn2=>?_);have hx3:Ext w2 w3:=gx (fun h=>(hy2 h).2) (fun h=>(hn2 h).2▸Ext.refl _);have e2:=Li (fun h=>(hy2 h).1) (fun h=>(hn2 h).1);have k2:=k1.tr hx3;refine Zv (Kq rfl e2 rfl)<|Za<|nl<|?_;cases hF;exact wp_ret<|Zw rfl rfl rfl ⟨rfl,k2⟩
theorem uX{w0:World}{v0:Value}{x0:Bq}(r0:RV w0 v0 x0){F:Nat}{r:Bool}(hF:EG F x0=some r):
  Calls Tryz.prog 24 [v0].toArray w0 (A8 fun v w'=>v=.bool r/\Ext w0 w'):=by
 unfold EG at hF;have hz:=id r0;obtain⟨_,rfl,_,_,rfl,⟨a1,cq1,rfl,p1,q2,e1⟩,_,_,rfl,rfl,_,_,rfl,rfl,rfl⟩:=hz;have r2:=RV.of1 p1 q2 e1;refine A9 (n:=12) Tryz.func24 rfl rfl rfl<|Zr<|CO rfl rfl fun b2 w1 hx1 hg1 hb1=>?_;have r3:=r2.ext hx1;refine Za<|nl<|Zr<|Zv (AV rfl Dy)<|Zv (AQ rfl F6 ((Bx.cs hb1).at 0 rfl))<|Zv (BV rfl Tryz.underlying46)<|Zv (Kk rfl rfl)<|Zm<|Zg rfl rfl (Bn rfl) (fun hc=>Ab rfl Gc rfl (Bx.cs hb1))<|bS hF fun x2 Ex2 hF=>gc rfl rfl rfl rfl (Bn rfl) rfl (fun hc=>xc WT (mc (mv hc rfl) mn)) (fun hc=>(bA (show RV (α:=Bq) _ (.agg [.slice a1 x0.1.length cq1,.int .i64 x0.2.1,.int .i64 x0.2.2.1,.int .i64 x0.2.2.2].toArray) (x0.1,x0.2.1,(x0.2.2.1,x0.2.2.2))from⟨_,rfl,[.slice a1 x0.1.length cq1],[.int .i64 x0.2.1]++([.int .i64 x0.2.2.1]++[.int .i64 x0.2.2.2]),rfl,r3.rep1,[.int .i64 x0.2.1],[.int .i64 x0.2.2.1]++[.int .i64 x0.2.2.2],rfl,rfl,[.int .i64 x0.2.2.1],[.int .i64 x0.2.2.2],rfl,rfl,rfl⟩) (Lg Ex2 hc))) (fun v2 w2 hy1 hn1=>?_);have hx2:Ext w1 w2:=gx (fun h=>(hy1 h).2) (fun h=>(hn1 h).2▸Ext.refl _);have e2:=Li (fun h=>(hy1 h).1) (fun h=>(hn1 h).1);have k1:=hx1.tr hx2;refine Zg rfl rfl (Bn rfl) (fun hc=>EU (mv hc e2) rfl)<|Zv (Kq rfl rfl rfl)<|Za<|nl<|?_;cases hF;exact wp_ret<|Zw rfl rfl rfl ⟨rfl,k1⟩
theorem uY{w0:World}{v0:Value}{x0:Bq}(r0:RV w0 v0 x0){v1:Value}{x1:(List (Int×Bool))}(r1:RV w0 v1 x1){F:Nat}{r:Int}(hF:FO F x0 x1=some r):
  Calls Tryz.prog 39 [v0,v1].toArray w0 (A8 fun v w'=>v=.int .i64 r/\Ext w0 w'):=by
 unfold FO at hF;have hz:=id r0;obtain⟨_,rfl,_,_,rfl,⟨a1,cq1,rfl,p1,q3,e1⟩,_,_,rfl,rfl,_,_,rfl,rfl,rfl⟩:=hz;have r3:=RV.of1 p1 q3 e1;have hz:=r1.sl;obtain⟨a2,cq2,rfl,-,-,-⟩:=hz;refine A9 (n:=73) Tryz.func39 rfl rfl rfl<|Zr<|CO rfl rfl fun b3 w1 hx1 hg1 hb1=>?_;have r5:=r3.ext hx1;refine Za<|nl<|wp_seq<|Zr<|Zv (Ab rfl Gc rfl (Bx.cs hb1))<|bS hF fun x3 Ex3 hF=>Zc (xc WT (mc rfl mn)) (bA (show RV (α:=Bq) _ (.agg [.slice a1 x0.1.length cq1,.int .i64 x0.2.1,.int .i64 x0.2.2.1,.int .i64 x0.2.2.2].toArray) (x0.1,x0.2.1,(x0.2.2.1,x0.2.2.2))from⟨_,rfl,[.slice a1 x0.1.length cq1],[.int .i64 x0.2.1]++([.int .i64 x0.2.2.1]++[.int .i64 x0.2.2.2]),rfl,r5.rep1,[.int .i64 x0.2.1],[.int .i64 x0.2.2.1]++[.int .i64 x0.2.2.2],rfl,rfl,[.int .i64 x0.2.2.1],[.int .i64 x0.2.2.2],rfl,rfl,rfl⟩) Ex3) ?_;rintro _ w2⟨rfl,hx2⟩;have k1:=hx1.tr hx2;have hb2:=hb1.ext hx2;have r7:=r5.ext hx2;refine Zv (FT rfl rfl)<|nl<|cnd rfl (fun h3=>?_) (fun h3=>?_)
 ·have hF:=Ah hF h3;refine Zr<|Zv (Ab rfl Gc rfl (Bx.cs hb2))<|bS hF fun x4 Ex4 hF=>Zc (xc WT (mc rfl mn)) (bA (show RV (α:=Bq) _ (.agg [.slice a1 x0.1.length cq1,.int .i64 x0.2.1,.int .i64 x0.2.2.1,.int .i64 x0.2.2.2].toArray) (x0.1,x0.2.1,(x0.2.2.1,x0.2.2.2))from⟨_,rfl,[.slice a1 x0.1.length cq1],[.int .i64 x0.2.1]++([.int .i64 x0.2.2.1]++[.int .i64 x0.2.2.2]),rfl,r7.rep1,[.int .i64 x0.2.1],[.int .i64 x0.2.2.1]++[.int .i64 x0.2.2.2],rfl,rfl,[.int .i64 x0.2.2.1],[.int .i64 x0.2.2.2],rfl,rfl,rfl⟩) Ex4) ?_;rintro _ w3⟨rfl,hx3⟩;have k2:=k1.tr hx3;refine Za<|nl<|?_;cases hF;exact wp_ret<|Zw rfl rfl rfl ⟨rfl,k2⟩
 ·have hF:=Ai hF h3;refine wp_skip<|wp_seq<|Zr<|Zm<|Zv (BV rfl Tryz.underlying51)<|Zv (AV rfl Dy)<|Zv (AQ rfl F6 ((Bx.cs hb2).at 0 rfl))<|Zv (BV rfl Tryz.underlying46)<|Zv (FT rfl rfl)<|nl<|cnd rfl (fun h4=>?_) (fun h4=>?_)
  ·have hF:=Ah hF h4;refine Zr<|Za<|nl<|?_;cases hF;exact wp_ret<|Zw rfl rfl rfl ⟨rfl,k1⟩
  ·have hF:=Ai hF h4;refine wp_skip<|wp_seq<|Zr<|Za<|nl<|bS hF fun o1 hB1 hF=>ct (fun L w=>o1=.inr ()/\L 1=.slice a2 x1.length cq2/\L 2=.pointer (some ⟨b3,0,none⟩)/\Ext w2 w) ?_ ?_
   ·refine wp_block<|lp (I:=fun m L w=>∃y1:Int,Dk F x0 x1 m y1=some o1/\L 5=.int .i64 y1/\L 1=.slice a2 x1.length cq2/\L 2=.pointer (some ⟨b3,0,none⟩)/\Ext w2 w) F ⟨_,hB1,rfl,rfl,rfl,(Ext.refl _)⟩ ?_;rintro m L w4⟨y1,hB1,l5_i1,l1_i1,l2_i1,K0_i1⟩;rcases m with _|m
    ·rw[Dk]at hB1;cases hB1
    rw[Dk]at hB1;have k3:=k1.tr K0_i1;have r10:=r7.ext K0_i1;have hb3:=hb2.ext K0_i1;refine wp_seq<|Zr<|Zm<|Zm<|Zv (BV l1_i1 Tryz.underlying51)<|Zv (BU l5_i1 rfl)<|nl<|cnd rfl (fun h5=>?_) (fun h5=>?_)
    ·have hB1:=Ah hB1 h5;refine wp_skip<|wp_seq<|wp_block<|wp_seq<|Gq [] (.pure false 0 (.pure true 1 (.pure true 2 (.pure true 3 (.pure false 4 (.eff 5 (.pure true 6 .fin) .stop)))))) mixed (by kernel_rfl) (fun w5 hx4=>?_);have k4:=k3.tr hx4;have k5:=K0_i1.tr hx4;have hb4:=hb3.ext hx4;have r11:=r10.ext hx4;refine Zq rfl (fun _ hS=>Ab l2_i1 Gc rfl (Bx.cs (hb4.ext (hS.resolve_left nofun)))) (Ext.refl _)<|Zn rfl<|Zn rfl<|bS hB1 fun x5 Ex5 hB1=>?_;have hz:=(RV.els r1).ix Ex5;obtain⟨b4,f1,cs3,e2,i2,i3,q4,hc1⟩:=hz;cases e2;obtain⟨_,_,rfl,rfl,rfl⟩:=q4;have hc2:=hc1.ext k4;refine Zp rfl (fun _=>BG l1_i1 l5_i1 Tryz.underlying51 BK i2 i3)<|Zq rfl (fun _ hS=>Ab rfl BK rfl (hc2.ext (hS.resolve_left nofun))) (Ext.refl _)<|bS hB1 fun x6 Ex6 hB1=>CR rfl<|Zc (xc lG (mc rfl (mc rfl mn))) (qo (show RV (α:=Bq) _ (.agg [.slice a1 x0.1.length cq1,.int .i64 x0.2.1,.int .i64 x0.2.2.1,.int .i64 x0.2.2.2].toArray) (x0.1,x0.2.1,(x0.2.2.1,x0.2.2.2))from⟨_,rfl,[.slice a1 x0.1.length cq1],[.int .i64 x0.2.1]++([.int .i64 x0.2.2.1]++[.int .i64 x0.2.2.2]),rfl,r11.rep1,[.int .i64 x0.2.1],[.int .i64 x0.2.2.1]++[.int .i64 x0.2.2.2],rfl,rfl,[.int .i64 x0.2.2.1],[.int .i64 x0.2.2.2],rfl,rfl,rfl⟩) (show RV (α:=(Int×Bool)) _ (.agg [.int .i64 x5.1,.bool x5.2].toArray) (x5.1,x5.2)from⟨_,rfl,[.int .i64 x5.1],[.bool x5.2],rfl,rfl,rfl⟩) Ex6) ?_;rintro _ w6⟨rfl,hx5⟩;have k6:=k4.tr hx5;have k7:=k5.tr hx5;refine nl ⟨fun _ _=>hx5,?_⟩;refine Zp rfl (fun _=>EK rfl)<|cnd rfl (fun h6=>?_) (fun h6=>?_)
     ·have hB1:=Ah hB1 h6;refine Zr<|Za<|nl<|?_;cases hB1;have hF:=(show some _=some _ from hF);cases hF;exact wp_ret<|Zw rfl rfl rfl ⟨rfl,k6⟩
     ·have hB1:=Ai hB1 h6;refine wp_skip<|rg<|Zm<|Zv (Bg l5_i1 rfl)<|Za<|nl<|lq m (Nat.lt_succ_self _)<|?_;exact⟨_,hB1,rfl,l1_i1,l2_i1,k7⟩
    ·have hB1:=Ai hB1 h5;refine wp_exit<|?_;cases hB1;refine lf<|?_;exact⟨rfl,l1_i1,l2_i1,K0_i1⟩
   rintro L w7⟨rfl,l1_j1,l2_j1,K0_j1⟩;have k8:=k1.tr K0_j1;have r16:=r7.ext K0_j1;have hb6:=hb2.ext K0_j1;refine wp_seq<|Zr<|Za<|nl<|bS hF fun o2 hB6 hF=>ct (fun L w=>o2=.inr ()/\L 1=.slice a2 x1.length cq2/\L 2=.pointer (some ⟨b3,0,none⟩)/\Ext w7 w) ?_ ?_
   ·refine wp_block<|lp (I:=fun m L w=>∃y2:Int,Dm F x1 m y2=some o2/\L 6=.int .i64 y2/\L 1=.slice a2 x1.length cq2/\L 2=.pointer (some ⟨b3,0,none⟩)/\Ext w7 w) F ⟨_,hB6,rfl,l1_j1,l2_j1,(Ext.refl _)⟩ ?_;rintro m L w8⟨y2,hB6,l6_i4,l1_i4,l2_i4,K0_i4⟩;rcases m with _|m
    ·rw[Dm]at hB6;cases hB6
    rw[Dm]at hB6;have k9:=k8.tr K0_i4;refine wp_seq<|Zr<|Zm<|Zm<|Zv (BV l1_i4 Tryz.underlying51)<|Zv (BU l6_i4 rfl)<|nl<|cnd rfl (fun h7=>?_) (fun h7=>?_)
    ·have hB6:=Ah hB6 h7;refine wp_skip<|wp_seq<|wp_block<|Zr<|Za<|nl<|bS hB6 fun o3 hB8 hB6=>ct (fun L w=>o3=.inr ()/\L 1=.slice a2 x1.length cq2/\L 2=.pointer (some ⟨b3,0,none⟩)/\L 6=.int .i64 y2/\Ext w8 w) ?_ ?_
     ·refine wp_block<|lp (I:=fun m L w=>∃y3:Int,Dl F x1 y2 m y3=some o3/\L 7=.int .i64 y3/\L 1=.slice a2 x1.length cq2/\L 2=.pointer (some ⟨b3,0,none⟩)/\L 6=.int .i64 y2/\Ext w8 w) F ⟨_,hB8,rfl,l1_i4,l2_i4,l6_i4,(Ext.refl _)⟩ ?_;rintro m L w9⟨y3,hB8,l7_i5,l1_i5,l2_i5,l6_i5,K0_i5⟩;rcases m with _|m
      ·rw[Dl]at hB8;cases hB8
      rw[Dl]at hB8;have k11:=k9.tr K0_i5;refine wp_seq<|Zr<|Zm<|Zm<|Zv (BU l7_i5 l6_i5)<|nl<|cnd rfl (fun h8=>?_) (fun h8=>?_)
      ·have hB8:=Ah hB8 h8;refine wp_skip<|wp_seq<|wp_block<|wp_seq<|Gq [] (.pure true 0 (.pure true 1 (.pure true 2 (.pure true 3 (.pure false 4 (.pure true 5 (.pure true 6 (.pure true 7 (.pure true 8 (.pure false 9 (.pure true 10 .fin))))))))))) mixed (by kernel_rfl) (fun w10 hx6=>?_);have k14:=k11.tr hx6;have k17:=K0_i5.tr hx6;refine Zn rfl<|Zn rfl<|bS hB8 fun x7 Ex7 hB8=>?_;have hz:=(RV.els r1).ix Ex7;obtain⟨b5,f2,cs4,e3,i6,i7,q5,hc3⟩:=hz;cases e3;obtain⟨_,_,rfl,rfl,rfl⟩:=q5;have hc4:=hc3.ext k14;refine Zp rfl (fun _=>BG l1_i5 l6_i5 Tryz.underlying51 BK i6 i7)<|Zp rfl (fun _=>AV rfl EX)<|Zq rfl (fun _ hS=>AQ rfl AY ((hc4.ext (hS.resolve_left nofun)).at 0 rfl)) (Ext.refl _)<|Zn rfl<|Zn rfl<|bS hB8 fun x8 Ex8 hB8=>?_;have hz:=JB r1 Ex8;obtain⟨cs5,i8,i9,q6,hc5⟩:=hz;obtain⟨_,_,rfl,rfl,rfl⟩:=q6;have hc6:=hc5.ext k14;refine Zp rfl (fun _=>BG l1_i5 l7_i5 Tryz.underlying51 BK i8 i9)<|Zp rfl (fun _=>AV rfl EX)<|Zq rfl (fun _ hS=>AQ rfl AY ((hc6.ext (hS.resolve_left nofun)).at 0 rfl)) (Ext.refl _)<|Zp rfl (fun _=>EU rfl rfl)<|cnd rfl (fun h9=>?_) (fun h9=>?_)
       ·have hB8:=Ah hB8 h9;refine Zr<|Za<|nl<|?_;cases hB8;have hB6:=(show some _=some _ from hB6);cases hB6;have hF:=(show some _=some _ from hF);cases hF;exact wp_ret<|Zw rfl rfl rfl ⟨rfl,k14⟩
       ·have hB8:=Ai hB8 h9;refine wp_skip<|rg<|Zm<|Zv (Bg l7_i5 rfl)<|Za<|nl<|lq m (Nat.lt_succ_self _)<|?_;exact⟨_,hB8,rfl,l1_i5,l2_i5,l6_i5,k17⟩
      ·have hB8:=Ai hB8 h8;refine wp_exit<|?_;cases hB8;refine lf<|?_;exact⟨rfl,l1_i5,l2_i5,l6_i5,K0_i5⟩
     rintro L w11⟨rfl,l1_j2,l2_j2,l6_j2,K0_j2⟩;have k20:=K0_i4.tr K0_j2;refine rg<|Zm<|Zv (Bg l6_j2 rfl)<|Za<|nl<|lq m (Nat.lt_succ_self _)<|?_;exact⟨_,hB6,rfl,l1_j2,l2_j2,k20⟩
    ·have hB6:=Ai hB6 h7;refine wp_exit<|?_;cases hB6;refine lf<|?_;exact⟨rfl,l1_i4,l2_i4,K0_i4⟩
   rintro L w12⟨rfl,l1_j3,l2_j3,K0_j3⟩;have k21:=k8.tr K0_j3;have r26:=r16.ext K0_j3;have hb11:=hb6.ext K0_j3;refine wp_seq<|Zr<|Za<|nl<|bS hF fun o4 hB14 hF=>ct (fun L w=>o4=.inr ()/\Ext w12 w) ?_ ?_
   ·refine wp_block<|lp (I:=fun m L w=>∃y4:Int,Dn F x0 x1 m y4=some o4/\L 8=.int .i64 y4/\L 1=.slice a2 x1.length cq2/\L 2=.pointer (some ⟨b3,0,none⟩)/\Ext w12 w) F ⟨_,hB14,rfl,l1_j3,l2_j3,(Ext.refl _)⟩ ?_;rintro m L w13⟨y4,hB14,l8_i10,l1_i10,l2_i10,K0_i10⟩;rcases m with _|m
    ·rw[Dn]at hB14;cases hB14
    rw[Dn]at hB14;have k23:=k21.tr K0_i10;have r28:=r26.ext K0_i10;have hb12:=hb11.ext K0_i10;refine wp_seq<|Zr<|Zm<|Zm<|Zv (BV l1_i10 Tryz.underlying51)<|Zv (BU l8_i10 rfl)<|nl<|cnd rfl (fun h10=>?_) (fun h10=>?_)
    ·have hB14:=Ah hB14 h10;refine wp_skip<|wp_seq<|wp_block<|wp_seq<|Gq [] (.pure false 0 (.pure true 1 (.pure true 2 (.pure true 3 (.pure true 4 (.pure false 5 (.pure true 6 (.pure true 7 (.pure true 8 (.pure false 9 (.eff 10 (.pure true 11 .fin) .stop))))))))))) mixed (by kernel_rfl) (fun w14 hx7=>?_);have k26:=k23.tr hx7;have k29:=K0_i10.tr hx7;have hb13:=hb12.ext hx7;have r29:=r28.ext hx7;refine Zq rfl (fun _ hS=>Ab l2_i10 Gc rfl (Bx.cs (hb13.ext (hS.resolve_left nofun)))) (Ext.refl _)<|Zn rfl<|Zn rfl<|Zp rfl (fun _=>F5 l8_i10 rfl)<|bS hB14 fun x9 Ex9 hB14=>?_;have hz:=(RV.els r1).ix Ex9;obtain⟨b6,f3,cs6,e4,i11,i12,q7,hc7⟩:=hz;cases e4;obtain⟨_,_,rfl,rfl,rfl⟩:=q7;have hc8:=hc7.ext k26;refine Zp rfl (fun _=>BG l1_i10 rfl Tryz.underlying51 BK i11 i12)<|Zq rfl (fun _ hS=>Ab rfl BK rfl (hc8.ext (hS.resolve_left nofun))) (Ext.refl _)<|Zn rfl<|Zn rfl<|bS hB14 fun x10 Ex10 hB14=>?_;have hz:=JB r1 Ex10;obtain⟨cs7,i13,i14,q8,hc9⟩:=hz;obtain⟨_,_,rfl,rfl,rfl⟩:=q8;have hc10:=hc9.ext k26;refine Zp rfl (fun _=>BG l1_i10 l8_i10 Tryz.underlying51 BK i13 i14)<|Zq rfl (fun _ hS=>Ab rfl BK rfl (hc10.ext (hS.resolve_left nofun))) (Ext.refl _)<|bS hB14 fun x11 Ex11 hB14=>CR rfl<|Zc (xc lH (mc rfl (mc rfl (mc rfl mn)))) (qp (show RV (α:=Bq) _ (.agg [.slice a1 x0.1.length cq1,.int .i64 x0.2.1,.int .i64 x0.2.2.1,.int .i64 x0.2.2.2].toArray) (x0.1,x0.2.1,(x0.2.2.1,x0.2.2.2))from⟨_,rfl,[.slice a1 x0.1.length cq1],[.int .i64 x0.2.1]++([.int .i64 x0.2.2.1]++[.int .i64 x0.2.2.2]),rfl,r29.rep1,[.int .i64 x0.2.1],[.int .i64 x0.2.2.1]++[.int .i64 x0.2.2.2],rfl,rfl,[.int .i64 x0.2.2.1],[.int .i64 x0.2.2.2],rfl,rfl,rfl⟩) (show RV (α:=(Int×Bool)) _ (.agg [.int .i64 x9.1,.bool x9.2].toArray) (x9.1,x9.2)from⟨_,rfl,[.int .i64 x9.1],[.bool x9.2],rfl,rfl,rfl⟩) (show RV (α:=(Int×Bool)) _ (.agg [.int .i64 x10.1,.bool x10.2].toArray) (x10.1,x10.2)from⟨_,rfl,[.int .i64 x10.1],[.bool x10.2],rfl,rfl,rfl⟩) Ex11) ?_;rintro _ w15⟨rfl,hx8⟩;have k30:=k26.tr hx8;have k33:=k29.tr hx8;refine nl ⟨fun _ _=>hx8,?_⟩;refine Zp rfl (fun _=>EK rfl)<|cnd rfl (fun h11=>?_) (fun h11=>?_)
     ·have hB14:=Ah hB14 h11;refine Zr<|Za<|nl<|?_;cases hB14;have hF:=(show some _=some _ from hF);cases hF;exact wp_ret<|Zw rfl rfl rfl ⟨rfl,k30⟩
     ·have hB14:=Ai hB14 h11;refine wp_skip<|rg<|Zm<|Zv (Bg l8_i10 rfl)<|Za<|nl<|lq m (Nat.lt_succ_self _)<|?_;exact⟨_,hB14,rfl,l1_i10,l2_i10,k33⟩
    ·have hB14:=Ai hB14 h10;refine wp_exit<|?_;cases hB14;refine lf<|?_;exact⟨rfl,K0_i10⟩
   rintro L w16⟨rfl,K0_j4⟩;have k34:=k21.tr K0_j4;refine Zr<|Za<|nl<|?_;cases hF;exact wp_ret<|Zw rfl rfl rfl ⟨rfl,k34⟩
theorem ji{w0:World}{F:Nat}{r:Bool}(hF:Hu F=some r):
  Calls Tryz.prog 54 [].toArray w0 (A8 fun v w'=>v=.bool r/\Ext w0 w'):=by
 unfold Hu at hF;refine A9 (n:=8) Tryz.func54 rfl rfl rfl<|Zr<|Za<|nl<|Zr<|bS hF fun x1 Ex1 hF=>Zc (xc pV mn) (uW Ex1) ?_;rintro _ w1⟨rfl,hx1⟩;refine Zm<|bS hF fun x2 Ex2 hF=>gc rfl rfl rfl rfl (Bn rfl) rfl (fun hc=>xc lD mn) (fun hc=>(nP (Lg Ex2 hc))) (fun v1 w2 hy1 hn1=>?_);have hx2:Ext w1 w2:=gx (fun h=>(hy1 h).2) (fun h=>(hn1 h).2▸Ext.refl _);have e1:=Li (fun h=>(hy1 h).1) (fun h=>(hn1 h).1);have k1:=hx1.tr hx2;refine Zv (Kq rfl e1 rfl)<|Zm<|bS hF fun x3 Ex3 hF=>gc rfl rfl rfl rfl (Bn rfl) rfl (fun hc=>xc lI mn) (fun hc=>(nT (Lg Ex3 hc))) (fun v2 w3 hy2 hn2=>?_);have hx3:Ext w2 w3:=gx (fun h=>(hy2 h).2) (fun h=>(hn2 h).2▸Ext.refl _);have e2:=Li (fun h=>(hy2 h).1) (fun h=>(hn2 h).1);have k2:=k1.tr hx3;refine Zv (Kq rfl e2 rfl)<|Za<|nl<|?_;cases hF;exact wp_ret<|Zw rfl rfl rfl ⟨rfl,k2⟩
def G2(r1 r2:Option Nat)(w w':World):Prop:=∃wm,w.grownBy wm r1/\wm.grownBy w' r2
theorem G2.refl{r1 r2:Option Nat}{w:World}:G2 r1 r2 w w:=⟨w,Ext.gro (Ext.refl _),Ext.gro (Ext.refl _)⟩
theorem G2.of1{r1 r2:Option Nat}{w w':World}(h:w.grownBy w' r1):G2 r1 r2 w w':=⟨w',h,Ext.gro (Ext.refl _)⟩
theorem Cs.g2{r1 r2:Option Nat}{w0 w w':World}{b o:Nat}{cs:List Value}(h:Cs w0 b o cs)(k:Ext w0 w)(g:G2 r1 r2 w w')(h1:∀q,r1=some q->w0.heap.size<=q)(h2:∀q,r2=some q->w0.heap.size<=q):Cs w' b o cs:=fun j c hc=>by
 obtain⟨wm,ga,gb⟩:=g;have e0:=h j c hc;have hlt:b<w0.heap.size:=World.block_lt_of_cell? w0 _ e0;have e1:wm.heap[b]?=w0.heap[b]?:=(ga.block b (Nat.lt_of_lt_of_le hlt k.size) fun e=>by have:=h1 b e.symm;omega).trans (k.block b hlt);have e2:w'.heap[b]?=wm.heap[b]?:=gb.block b (Nat.lt_of_lt_of_le hlt (Nat.le_trans k.size ga.size)) fun e=>by have:=h2 b e.symm;omega
 exact(World.cell?_of_block (a:=⟨b,o+j,none⟩) (e2.trans e1)).trans e0
theorem uZ{w0:World}{v0:Value}{x0:(Int×Int×(List (Int×Int))×(List Int))}(r0:RV w0 v0 x0){F:Nat}{r:((List Int)×Int)}(hF:Jm F x0=some r):
  Calls Tryz.prog 68 [v0].toArray w0 (A8 fun v w'=>∃u0:Value,v=.tuple #[u0,.int .i64 r.2]/\RV w' u0 r.1/\Ext w0 w'):=by
 unfold Jm at hF;have hz:=id r0;obtain⟨_,rfl,_,_,rfl,rfl,_,_,rfl,rfl,_,_,rfl,⟨a1,cq1,rfl,p1,q2,e1⟩,a2,cq2,rfl,p2,q3,e2⟩:=hz;have r2:=RV.of1 p1 q2 e1;have r3:=RV.of1 p2 q3 e2;refine A9 (n:=12) Tryz.func68 rfl rfl rfl<|Zr<|CO rfl rfl fun b2 w1 hx1 hg1 hb1=>?_;have r4:=r2.ext hx1;have r5:=r3.ext hx1;refine Za<|Za<|nl<|wp_seq<|Zr<|Zv (Ab rfl GA rfl (Bx.cs hb1))<|bS hF fun x2 Ex2 hF=>Zc (xc WW (mc rfl mn)) (bD (show RV (α:=(Int×Int×(List (Int×Int))×(List Int))) _ (.agg [.int .i64 x0.1,.int .i64 x0.2.1,.slice a1 x0.2.2.1.length cq1,.slice a2 x0.2.2.2.length cq2].toArray) (x0.1,x0.2.1,x0.2.2.1,x0.2.2.2)from⟨_,rfl,[.int .i64 x0.1],[.int .i64 x0.2.1]++([.slice a1 x0.2.2.1.length cq1]++[.slice a2 x0.2.2.2.length cq2]),rfl,rfl,[.int .i64 x0.2.1],[.slice a1 x0.2.2.1.length cq1]++[.slice a2 x0.2.2.2.length cq2],rfl,rfl,[.slice a1 x0.2.2.1.length cq1],[.slice a2 x0.2.2.2.length cq2],rfl,r4.rep1,r5.rep1⟩) Ex2) ?_;rintro _ w2⟨rfl,hx2⟩;have k1:=hx1.tr hx2;have hb2:=hb1.ext hx2;have r7:=r4.ext hx2;have r8:=r5.ext hx2;refine Za<|nl<|Zr<|Zm<|Zv (FT rfl rfl)<|nl<|cnd rfl (fun h2=>?_) (fun h2=>?_)
 ·have hF:=Ah hF h2;refine Zr<|Zm<|Za<|Za<|nl<|?_;cases hF;exact wp_ret<|rt rfl (.tmp rfl rfl (.tmp rfl rfl .nil)) ⟨_,rfl,(RVo.nil (Nat.zero_le _)),k1⟩
 ·have hF:=Ai hF h2;refine wp_skip<|Zr<|Zv (Ab rfl GA rfl (Bx.cs hb2))<|bS hF fun x3 Ex3 hF=>Zc (xc lN (mc rfl mn)) (sD (show RV (α:=(Int×Int×(List (Int×Int))×(List Int))) _ (.agg [.int .i64 x0.1,.int .i64 x0.2.1,.slice a1 x0.2.2.1.length cq1,.slice a2 x0.2.2.2.length cq2].toArray) (x0.1,x0.2.1,x0.2.2.1,x0.2.2.2)from⟨_,rfl,[.int .i64 x0.1],[.int .i64 x0.2.1]++([.slice a1 x0.2.2.1.length cq1]++[.slice a2 x0.2.2.2.length cq2]),rfl,rfl,[.int .i64 x0.2.1],[.slice a1 x0.2.2.1.length cq1]++[.slice a2 x0.2.2.2.length cq2],rfl,rfl,[.slice a1 x0.2.2.1.length cq1],[.slice a2 x0.2.2.2.length cq2],rfl,r7.rep1,r8.rep1⟩) Ex3) ?_;rintro _ w3⟨u1,rfl,r9,hx3⟩;have k2:=k1.tr hx3;have hz:=RV.sl r9.rv;obtain⟨a3,cq3,rfl,-,-,-⟩:=hz;refine Za<|Za<|nl<|?_;cases hF;exact wp_ret<|rt rfl (.tmp rfl rfl (.tmp rfl rfl .nil)) ⟨_,rfl,r9.rv,k2⟩
theorem sG{w0:World}{x0:Int}{b1:Nat}{cs1:List Value}{x1:(List Int)}(h1:Cs w0 b1 0 cs1)(q1:Enc.rep (fun _=>True) w0 cs1 x1){F:Nat}{r:Bool}(hF:Hy F x0 x1=some r):
  Calls Tryz.prog 147 [.int .i64 x0,.pointer (some ⟨b1,0,none⟩)].toArray w0 (A8 fun v w'=>v=.bool r/\Ext w0 w'):=by
 unfold Hy at hF;obtain⟨a1,cq1,rfl,p1,q3,e1⟩:=q1;have r3:=RV.of1 p1 q3 e1;refine A9 (n:=8) Tryz.func147 rfl rfl rfl<|Zr<|Za<|nl<|Zr<|Zv (AQ rfl Kl (h1.at 0 rfl))<|Zm<|bS hF fun x3 Ex3 hF=>Zc (xc cB (mc rfl (mc rfl mn))) (jK r3 Ex3) ?_;rintro _ w1⟨rfl,hx1⟩;refine Zv (EK rfl)<|Za<|nl<|?_;cases hF;exact wp_ret<|Zw rfl rfl rfl ⟨rfl,hx1⟩
theorem uf{w0:World}{v0:Value}{x0:(Int×Int×(List (Int×Int))×(List Int))}(r0:RV w0 v0 x0){v1:Value}{x1:(List Int)}(r1:RV w0 v1 x1){F:Nat}{r:Int}(hF:Fe F x0 x1=some r):
  Calls Tryz.prog 64 [v0,v1].toArray w0 (A8 fun v w'=>v=.int .i64 r/\Ext w0 w'):=by
 unfold Fe at hF;have hz:=id r0;obtain⟨_,rfl,_,_,rfl,rfl,_,_,rfl,rfl,_,_,rfl,⟨a1,cq1,rfl,p1,q3,e1⟩,a2,cq2,rfl,p2,q4,e2⟩:=hz;have r3:=RV.of1 p1 q3 e1;have r4:=RV.of1 p2 q4 e2;have hz:=r1.sl;obtain⟨a3,cq3,rfl,-,-,-⟩:=hz;refine A9 (n:=30) Tryz.func64 rfl rfl rfl<|Zr<|CO rfl rfl fun b3 w1 hx1 hg1 hb1=>?_;have r5:=r1.ext hx1;have r6:=r3.ext hx1;have r7:=r4.ext hx1;refine CO rfl rfl fun b4 w2 hx2 hg2 hb2=>?_;have k1:=hx1.tr hx2;have hb3:=hb1.ext hx2;have r9:=r6.ext hx2;have r10:=r7.ext hx2;have r11:=r5.ext hx2;refine Za<|nl<|Zr<|Zv (Ab rfl GA rfl (Bx.cs hb3))<|bS hF fun x3 Ex3 hF=>Zc (xc WW (mc rfl mn)) (bD (show RV (α:=(Int×Int×(List (Int×Int))×(List Int))) _ (.agg [.int .i64 x0.1,.int .i64 x0.2.1,.slice a1 x0.2.2.1.length cq1,.slice a2 x0.2.2.2.length cq2].toArray) (x0.1,x0.2.1,x0.2.2.1,x0.2.2.2)from⟨_,rfl,[.int .i64 x0.1],[.int .i64 x0.2.1]++([.slice a1 x0.2.2.1.length cq1]++[.slice a2 x0.2.2.2.length cq2]),rfl,rfl,[.int .i64 x0.2.1],[.slice a1 x0.2.2.1.length cq1]++[.slice a2 x0.2.2.2.length cq2],rfl,rfl,[.slice a1 x0.2.2.1.length cq1],[.slice a2 x0.2.2.2.length cq2],rfl,r9.rep1,r10.rep1⟩) Ex3) ?_;rintro _ w3⟨rfl,hx3⟩;have k2:=k1.tr hx3;have hb4:=hb3.ext hx3;have r12:=r9.ext hx3;have r13:=r10.ext hx3;have hb5:=hb2.ext hx3;have r14:=r11.ext hx3;refine Za<|nl<|wp_seq<|wp_block<|Zr<|Zm<|Zv (FT rfl rfl)<|Za<|nl<|cnd rfl (fun h3=>?_) (fun h3=>?_)
 ·have hF:=Ah hF h3;refine Zr<|Zm<|Za<|nl<|?_;cases hF;exact wp_ret<|Zw rfl rfl rfl ⟨rfl,k2⟩
 ·have hF:=Ai hF h3;refine Zr<|Zv (AQ rfl Kl ((Bx.cs hb5).at 0 rfl))<|Zv (AV rfl Br)<|Zv (AQ rfl DV ((Bx.cs hb4).at 2 rfl))<|Zv (BV rfl Tryz.underlying108)<|bS hF fun x4 Ex4 hF=>Zc (xc bq (mc rfl (mc rfl mn))) (jX r14 Ex4) ?_;rintro _ w4⟨rfl,hx4⟩;have k4:=k2.tr hx4;have hb6:=hb4.ext hx4;have r15:=r12.ext hx4;have r16:=r13.ext hx4;have hb7:=hb5.ext hx4;have r17:=r14.ext hx4;refine Zv (EK rfl)<|Za<|nl<|cnd rfl (fun h4=>?_) (fun h4=>?_)
  ·have hF:=Ah hF h4;refine Zr<|Za<|nl<|?_;cases hF;exact wp_ret<|Zw rfl rfl rfl ⟨rfl,k4⟩
  ·have hF:=Ai hF h4;refine Zr<|Zv (Ab rfl GA rfl (Bx.cs hb6))<|Zv (AQ rfl Kl ((Bx.cs hb7).at 0 rfl))<|bS hF fun x5 Ex5 hF=>Zc (xc cK (mc rfl (mc rfl mn))) (jY (show RV (α:=(Int×Int×(List (Int×Int))×(List Int))) _ (.agg [.int .i64 x0.1,.int .i64 x0.2.1,.slice a1 x0.2.2.1.length cq1,.slice a2 x0.2.2.2.length cq2].toArray) (x0.1,x0.2.1,x0.2.2.1,x0.2.2.2)from⟨_,rfl,[.int .i64 x0.1],[.int .i64 x0.2.1]++([.slice a1 x0.2.2.1.length cq1]++[.slice a2 x0.2.2.2.length cq2]),rfl,rfl,[.int .i64 x0.2.1],[.slice a1 x0.2.2.1.length cq1]++[.slice a2 x0.2.2.2.length cq2],rfl,rfl,[.slice a1 x0.2.2.1.length cq1],[.slice a2 x0.2.2.2.length cq2],rfl,r15.rep1,r16.rep1⟩) r17 Ex5) ?_;rintro _ w5⟨rfl,hx5⟩;have k6:=k4.tr hx5;have hb8:=hb6.ext hx5;have r19:=r16.ext hx5;have hb9:=hb7.ext hx5;have r20:=r17.ext hx5;refine Zv (EK rfl)<|Zm<|Zg rfl rfl (Aq rfl) (fun hc=>AV rfl IU)<|Zg rfl rfl (Aq rfl) (fun hc=>AQ (mv hc rfl) Kl ((Bx.cs hb8).at 3 rfl))<|Zg rfl rfl (Aq rfl) (fun hc=>Lj mn (mc rfl mn))<|bS hF fun x6 Ex6 hF=>gc rfl rfl rfl rfl (Aq rfl) rfl (fun hc=>xc cO (mc (mv hc rfl) (mc (mv hc rfl) mn))) (fun hc=>(iH r19 ⟨147,[],[.pointer (some ⟨b4,0,none⟩)],rfl,lM,fun w' u x b hk hu hp=>by cases RVo.int.1 hu;exact sG (Bx.cs (hb9.ext hk)) (r20.ext hk).rep1 hp⟩ (Lg Ex6 hc))) (fun v3 w6 hy1 hn1=>?_);have hx6:Ext w5 w6:=gx (fun h=>(hy1 h).2) (fun h=>(hn1 h).2▸Ext.refl _);have e3:=Li (fun h=>(hy1 h).1) (fun h=>(hn1 h).1);have k8:=k6.tr hx6;refine Zv (Gh rfl e3 rfl)<|Za<|nl<|cnd rfl (fun h5=>?_) (fun h5=>?_)
   ·have hF:=Ah hF h5;refine Zr<|Za<|nl<|?_;cases hF;exact wp_ret<|Zw rfl rfl rfl ⟨rfl,k8⟩
   ·have hF:=Ai hF h5;refine wp_skip<|Zr<|Za<|nl<|?_;cases hF;exact wp_ret<|Zw rfl rfl rfl ⟨rfl,k8⟩
theorem ug{w0:World}{v0:Value}{x0:Bq}(r0:RV w0 v0 x0){x1:Int}{F:Nat}{r:Bool}(hF:Ff F x0 x1=some r):
  Calls Tryz.prog 10 [v0,.int .u16 x1].toArray w0 (A8 fun v w'=>v=.bool r/\Ext w0 w'):=by
 unfold Ff at hF;have hz:=id r0;obtain⟨_,rfl,_,_,rfl,⟨a1,cq1,rfl,p1,q3,e1⟩,_,_,rfl,rfl,_,_,rfl,rfl,rfl⟩:=hz;have r3:=RV.of1 p1 q3 e1;refine A9 (n:=278) Tryz.func10 rfl rfl rfl<|Zr<|CO rfl rfl fun b3 w1 hx1 hg1 hb1=>?_;have r4:=r3.ext hx1;refine Za<|nl<|wp_seq<|Zr<|Zv (Ab rfl Gc rfl (Bx.cs hb1))<|bS hF fun x3 Ex3 hF=>Zc (xc pW (mc rfl mn)) (uX (show RV (α:=Bq) _ (.agg [.slice a1 x0.1.length cq1,.int .i64 x0.2.1,.int .i64 x0.2.2.1,.int .i64 x0.2.2.2].toArray) (x0.1,x0.2.1,(x0.2.2.1,x0.2.2.2))from⟨_,rfl,[.slice a1 x0.1.length cq1],[.int .i64 x0.2.1]++([.int .i64 x0.2.2.1]++[.int .i64 x0.2.2.2]),rfl,r4.rep1,[.int .i64 x0.2.1],[.int .i64 x0.2.2.1]++[.int .i64 x0.2.2.2],rfl,rfl,[.int .i64 x0.2.2.1],[.int .i64 x0.2.2.2],rfl,rfl,rfl⟩) Ex3) ?_;rintro _ w2⟨rfl,hx2⟩;have k1:=hx1.tr hx2;have hb2:=hb1.ext hx2;have r6:=r4.ext hx2;refine Zv (EK rfl)<|Zm<|Zg rfl rfl (Aq rfl) (fun hc=>AV rfl Dy)<|Zg rfl rfl (Aq rfl) (fun hc=>AQ (mv hc rfl) F6 ((Bx.cs hb2).at 0 rfl))<|Zg rfl rfl (Aq rfl) (fun hc=>BV (mv hc rfl) Tryz.underlying46)<|Zg rfl rfl (Aq rfl) (fun hc=>IC (mv hc rfl) rfl)<|Zv (Gh rfl rfl rfl)<|nl<|cnd rfl (fun h3=>?_) (fun h3=>?_)
 ·have hF:=Ah hF h3;refine Zr<|bS hF fun x4 Ex4 hF=>Zc (xc Zx mn) (ji Ex4) ?_;rintro _ w3⟨rfl,hx3⟩;have k2:=k1.tr hx3;refine Za<|nl<|?_;cases hF;exact wp_ret<|Zw rfl rfl rfl ⟨rfl,k2⟩
 ·have hF:=Ai hF h3;refine wp_skip<|Zr<|Zv (AV rfl Dy)<|Zv (AQ rfl F6 ((Bx.cs hb2).at 0 rfl))<|Zv (BV rfl Tryz.underlying46)<|Za<|nl<|Zr<|Zv (Ab rfl Gc rfl (Bx.cs hb2))<|bS hF fun x5 Ex5 hF=>Zc (xc qD (mc rfl mn)) (uN (show RV (α:=Bq) _ (.agg [.slice a1 x0.1.length cq1,.int .i64 x0.2.1,.int .i64 x0.2.2.1,.int .i64 x0.2.2.2].toArray) (x0.1,x0.2.1,(x0.2.2.1,x0.2.2.2))from⟨_,rfl,[.slice a1 x0.1.length cq1],[.int .i64 x0.2.1]++([.int .i64 x0.2.2.1]++[.int .i64 x0.2.2.2]),rfl,r6.rep1,[.int .i64 x0.2.1],[.int .i64 x0.2.2.1]++[.int .i64 x0.2.2.2],rfl,rfl,[.int .i64 x0.2.2.1],[.int .i64 x0.2.2.2],rfl,rfl,rfl⟩) Ex5) ?_;rintro _ w4⟨u1,rfl,r7,hx4⟩;have k3:=k1.tr hx4;have hb3:=hb2.ext hx4;have r8:=r6.ext hx4;have hz:=RV.sl r7;obtain⟨a2,cq2,rfl,-,-,-⟩:=hz;refine Za<|nl<|Zr<|Zm<|Zm<|Zv (JL (r:=[.int .i64 (x0.1.length:Int),.int .i64 (x0.1.length:Int),.slice none 0 0,.slice none 0 0]) GA kU (pc rfl (pc rfl pn)) rfl)<|D9 GA fun b4 w5 hx5 hg2 hb4=>DC rfl rfl rfl GA hb4 rfl rfl (ble rfl) fun w6 hch1 hb6=>?_;have k6:=Ext.chg hx5 hch1 (Nat.le_trans (Nat.le_refl _) hg2);have hb8:Bx w6 b4 110 [.int .i64 (x0.1.length:Int),.int .i64 (x0.1.length:Int),.slice none 0 0,.slice none 0 0]:=hb6;refine nl<|wp_seq<|Zr<|Za<|nl<|bS hF fun o1 hB1 hF=>ct (fun L w=>∃z1:(Int×Int×(List (Int×Int))×(List Int)),∃v4:Value,o1=.inr z1/\Bx w b4 110 [.int .i64 z1.1,.int .i64 z1.2.1,v4,.slice none 0 0]/\Row 112 w6.heap.size w v4 z1.2.2.1/\some b4≠Value.ownBlock v4/\L 1=.int .u16 x1/\L 2=.pointer (some ⟨b3,0,none⟩)/\L 5=.int .i64 (x0.1.length:Int)/\L 7=.pointer (some ⟨b4,0,none⟩)/\w6.heap.size<=w.heap.size/\Ext w4 w) ?_ ?_
  ·refine wp_block<|lp (I:=fun m L w=>∃y1:Int,∃y2:(Int×Int×(List (Int×Int))×(List Int)),∃v3:Value,Cz F x0 x5 m y1 y2=some o1/\L 8=.int .i64 y1/\Bx w b4 110 [.int .i64 y2.1,.int .i64 y2.2.1,v3,.slice none 0 0]/\Row 112 w6.heap.size w v3 y2.2.2.1/\some b4≠Value.ownBlock v3/\L 1=.int .u16 x1/\L 2=.pointer (some ⟨b3,0,none⟩)/\L 5=.int .i64 (x0.1.length:Int)/\L 6=.slice a2 x5.length cq2/\L 7=.pointer (some ⟨b4,0,none⟩)/\w6.heap.size<=w.heap.size/\Ext w4 w) F ⟨_,_,_,hB1,rfl,hb8,Row.nil,(fun e=>by cases e),rfl,rfl,rfl,rfl,rfl,(Nat.le_refl _),k6⟩ ?_;rintro m L w7⟨y1,y2,v3,hB1,l8_i1,B7_i1,O7c1_i1,N7c1_i1,l1_i1,l2_i1,l5_i1,l6_i1,l7_i1,Z0_i1,K0_i1⟩;rcases m with _|m
   ·rw[Cz]at hB1;cases hB1
   rw[Cz]at hB1;have hz:=RV.sl O7c1_i1.rv;obtain⟨a3,cq3,rfl,-,-,-⟩:=hz;refine wp_seq<|Zr<|Zm<|Zm<|Zv (BU l8_i1 l5_i1)<|nl<|cnd rfl (fun h4=>?_) (fun h4=>?_)
   ·have hB1:=Ah hB1 h4;refine wp_skip<|wp_seq<|wp_block<|Zr<|Za<|nl<|bS hB1 fun o2 hB3 hB1=>ct (fun L w=>∃z2:(Int×Int×(List (Int×Int))×(List Int)),∃v6:Value,o2=.inr z2/\Bx w b4 110 [.int .i64 z2.1,.int .i64 z2.2.1,v6,.slice none 0 0]/\Row 112 w6.heap.size w v6 z2.2.2.1/\some b4≠Value.ownBlock v6/\L 1=.int .u16 x1/\L 2=.pointer (some ⟨b3,0,none⟩)/\L 5=.int .i64 (x0.1.length:Int)/\L 6=.slice a2 x5.length cq2/\L 7=.pointer (some ⟨b4,0,none⟩)/\L 8=.int .i64 y1/\w6.heap.size<=w.heap.size/\Ext w4 w) ?_ ?_
    ·refine wp_block<|lp (I:=fun m L w=>∃y3:Int,∃y4:(Int×Int×(List (Int×Int))×(List Int)),∃v5:Value,Cy F x0 x5 y1 m y3 y4=some o2/\L 9=.int .i64 y3/\Bx w b4 110 [.int .i64 y4.1,.int .i64 y4.2.1,v5,.slice none 0 0]/\Row 112 w6.heap.size w v5 y4.2.2.1/\some b4≠Value.ownBlock v5/\L 1=.int .u16 x1/\L 2=.pointer (some ⟨b3,0,none⟩)/\L 5=.int .i64 (x0.1.length:Int)/\L 6=.slice a2 x5.length cq2/\L 7=.pointer (some ⟨b4,0,none⟩)/\L 8=.int .i64 y1/\w6.heap.size<=w.heap.size/\Ext w4 w) F ⟨_,_,_,hB3,rfl,B7_i1,O7c1_i1,N7c1_i1,l1_i1,l2_i1,l5_i1,l6_i1,l7_i1,l8_i1,Z0_i1,K0_i1⟩ ?_;rintro m L w8⟨y3,y4,v5,hB3,l9_i2,B7_i2,O7c1_i2,N7c1_i2,l1_i2,l2_i2,l5_i2,l6_i2,l7_i2,l8_i2,Z0_i2,K0_i2⟩;rcases m with _|m
     ·rw[Cy]at hB3;cases hB3
     rw[Cy]at hB3;have k8:=k3.tr K0_i2;have r15:=r8.ext K0_i2;have hb10:=hb3.ext K0_i2;have hz:=RV.sl O7c1_i2.rv;obtain⟨a4,cq4,rfl,-,-,-⟩:=hz;refine wp_seq<|Zr<|Zm<|Zm<|Zv (BU l9_i2 l5_i2)<|nl<|cnd rfl (fun h5=>?_) (fun h5=>?_)
     ·have hB3:=Ah hB3 h5;refine wp_skip<|wp_seq<|bS hB3 fun o3 hB5 hB3=>ct (fun L w=>∃y5:(Int×Int×(List (Int×Int))×(List Int)),∃v7:Value,o3=.inr y5/\Bx w b4 110 [.int .i64 y5.1,.int .i64 y5.2.1,v7,.slice none 0 0]/\Row 112 w6.heap.size w v7 y5.2.2.1/\some b4≠Value.ownBlock v7/\L 1=.int .u16 x1/\L 2=.pointer (some ⟨b3,0,none⟩)/\L 5=.int .i64 (x0.1.length:Int)/\L 6=.slice a2 x5.length cq2/\L 7=.pointer (some ⟨b4,0,none⟩)/\L 8=.int .i64 y1/\L 9=.int .i64 y3/\w6.heap.size<=w.heap.size/\Ext w4 w) ?_ ?_
      ·refine wp_block<|Zr<|Za<|nl<|wp_seq<|Zr<|Za<|nl<|bS hB5 fun o4 hB6 hB5=>ct (fun L w=>∃z3:Bool,o4=.inr z3/\L 10=.bool z3/\L 1=.int .u16 x1/\L 2=.pointer (some ⟨b3,0,none⟩)/\L 5=.int .i64 (x0.1.length:Int)/\L 6=.slice a2 x5.length cq2/\L 7=.pointer (some ⟨b4,0,none⟩)/\L 8=.int .i64 y1/\L 9=.int .i64 y3/\w6.heap.size<=w.heap.size/\Ext w8 w) ?_ ?_
       ·refine wp_block<|lp (I:=fun m L w=>∃y6:Bool,∃y7:Int,Cx F x0 x5 y1 y3 m y6 y7=some o4/\L 10=.bool y6/\L 11=.int .i64 y7/\L 1=.int .u16 x1/\L 2=.pointer (some ⟨b3,0,none⟩)/\L 5=.int .i64 (x0.1.length:Int)/\L 6=.slice a2 x5.length cq2/\L 7=.pointer (some ⟨b4,0,none⟩)/\L 8=.int .i64 y1/\L 9=.int .i64 y3/\w6.heap.size<=w.heap.size/\Ext w8 w) F ⟨_,_,hB6,rfl,rfl,l1_i2,l2_i2,l5_i2,l6_i2,l7_i2,l8_i2,l9_i2,Z0_i2,(Ext.refl _)⟩ ?_;rintro m L w9⟨y6,y7,hB6,l10_i3,l11_i3,l1_i3,l2_i3,l5_i3,l6_i3,l7_i3,l8_i3,l9_i3,Z0_i3,K0_i3⟩;rcases m with _|m
        ·rw[Cx]at hB6;cases hB6
        rw[Cx]at hB6;have k9:=k8.tr K0_i3;have k10:=K0_i2.tr K0_i3;have r17:=r15.ext K0_i3;have hb11:=hb10.ext K0_i3;refine wp_seq<|Zr<|Zm<|Zm<|Zv (BV l6_i3 Tryz.underlying51)<|Zv (BU l11_i3 rfl)<|nl<|cnd rfl (fun h6=>?_) (fun h6=>?_)
        ·have hB6:=Ah hB6 h6;refine wp_skip<|wp_seq<|wp_block<|Zr<|Za<|nl<|bS hB6 fun o5 hB8 hB6=>ct (fun L w=>∃z4:Bool,o5=.inr z4/\L 10=.bool z4/\L 1=.int .u16 x1/\L 2=.pointer (some ⟨b3,0,none⟩)/\L 5=.int .i64 (x0.1.length:Int)/\L 6=.slice a2 x5.length cq2/\L 7=.pointer (some ⟨b4,0,none⟩)/\L 8=.int .i64 y1/\L 9=.int .i64 y3/\L 11=.int .i64 y7/\w6.heap.size<=w.heap.size/\Ext w9 w) ?_ ?_
         ·refine wp_block<|lp (I:=fun m L w=>∃y8:Bool,∃y9:Int,Cw F x0 x5 y1 y3 y7 m y8 y9=some o5/\L 10=.bool y8/\L 12=.int .i64 y9/\L 1=.int .u16 x1/\L 2=.pointer (some ⟨b3,0,none⟩)/\L 5=.int .i64 (x0.1.length:Int)/\L 6=.slice a2 x5.length cq2/\L 7=.pointer (some ⟨b4,0,none⟩)/\L 8=.int .i64 y1/\L 9=.int .i64 y3/\L 11=.int .i64 y7/\w6.heap.size<=w.heap.size/\Ext w9 w) F ⟨_,_,hB8,l10_i3,rfl,l1_i3,l2_i3,l5_i3,l6_i3,l7_i3,l8_i3,l9_i3,l11_i3,Z0_i3,(Ext.refl _)⟩ ?_;rintro m L w10⟨y8,y9,hB8,l10_i4,l12_i4,l1_i4,l2_i4,l5_i4,l6_i4,l7_i4,l8_i4,l9_i4,l11_i4,Z0_i4,K0_i4⟩;rcases m with _|m
          ·rw[Cw]at hB8;cases hB8
          rw[Cw]at hB8;have k11:=k9.tr K0_i4;have k12:=k10.tr K0_i4;have r19:=r17.ext K0_i4;have hb12:=hb11.ext K0_i4;refine wp_seq<|Zr<|Zm<|Zm<|Zv (BV l6_i4 Tryz.underlying51)<|Zv (BU l12_i4 rfl)<|nl<|cnd rfl (fun h7=>?_) (fun h7=>?_)
          ·have hB8:=Ah hB8 h7;refine wp_skip<|wp_seq<|bS hB8 fun o6 hB10 hB8=>ct (fun L w=>∃y10:Bool,o6=.inr y10/\L 10=.bool y10/\L 1=.int .u16 x1/\L 2=.pointer (some ⟨b3,0,none⟩)/\L 5=.int .i64 (x0.1.length:Int)/\L 6=.slice a2 x5.length cq2/\L 7=.pointer (some ⟨b4,0,none⟩)/\L 8=.int .i64 y1/\L 9=.int .i64 y3/\L 11=.int .i64 y7/\L 12=.int .i64 y9/\w6.heap.size<=w.heap.size/\Ext w10 w) ?_ ?_
           ·refine wp_block<|wp_seq<|bS hB10 fun y11 hB11 hB10=>ct (fun L w=>L 83=.bool y11/\L 1=.int .u16 x1/\L 2=.pointer (some ⟨b3,0,none⟩)/\L 5=.int .i64 (x0.1.length:Int)/\L 6=.slice a2 x5.length cq2/\L 7=.pointer (some ⟨b4,0,none⟩)/\L 8=.int .i64 y1/\L 9=.int .i64 y3/\L 10=.bool y8/\L 11=.int .i64 y7/\L 12=.int .i64 y9/\w6.heap.size<=w.heap.size/\Ext w10 w) ?_ ?_
            ·refine rg<|Zm<|Zm<|bS hB11 fun x7 Ex7 hB11=>?_;have hz:=(RV.els r7).ix Ex7;obtain⟨b6,f2,cs4,e3,i7,i8,q5,hc3⟩:=hz;cases e3;obtain⟨_,_,rfl,rfl,rfl⟩:=q5;have hc4:=hc3.ext k12;refine Zv (BG l6_i4 l11_i4 Tryz.underlying51 BK i7 i8)<|Zv (AV rfl EX)<|Zv (AQ rfl AY (hc4.at 0 rfl))<|Zm<|Zv (EU rfl l8_i4)<|Zm<|Or.elim (Bool.eq_false_or_eq_true (decide (x7.1=y1))) (fun h8=>?_) (fun h8=>?_)
             ·have hB11:=Ah hB11 h8;refine Gt rfl (bt h8)<|Zm<|Gt rfl (bt h8)<|Zm<|bS hB11 fun x8 Ex8 hB11=>?_;have hz:=JB r7 Ex8;obtain⟨cs5,i9,i10,q6,hc5⟩:=hz;obtain⟨_,_,rfl,rfl,rfl⟩:=q6;have hc6:=hc5.ext k12;refine Gt rfl (bt h8)<|Zv (BG l6_i4 l12_i4 Tryz.underlying51 BK i9 i10)<|Gt rfl (bt h8)<|Zv (AV rfl EX)<|Gt rfl (bt h8)<|Zv (AQ rfl AY (hc6.at 0 rfl))<|Gt rfl (bt h8)<|Zm<|Gt rfl (bt h8)<|Zv (EU rfl l9_i4)<|Zv (DU rfl h8 rfl)<|nl<|?_;cases hB11;refine lf<|?_;exact⟨rfl,l1_i4,l2_i4,l5_i4,l6_i4,l7_i4,l8_i4,l9_i4,l10_i4,l11_i4,l12_i4,Z0_i4,(Ext.refl _)⟩
             ·have hB11:=Ai hB11 h8;refine Gk rfl (AZ h8)<|Gk rfl (AZ h8)<|Gk rfl (AZ h8)<|Gk rfl (AZ h8)<|Gk rfl (AZ h8)<|Gk rfl (AZ h8)<|Gk rfl (AZ h8)<|Zv (EW rfl h8 rfl)<|nl<|?_;cases hB11;refine lf<|?_;exact⟨rfl,l1_i4,l2_i4,l5_i4,l6_i4,l7_i4,l8_i4,l9_i4,l10_i4,l11_i4,l12_i4,Z0_i4,(Ext.refl _)⟩
            rintro L w11⟨l83_j1,l1_j1,l2_j1,l5_j1,l6_j1,l7_j1,l8_j1,l9_j1,l10_j1,l11_j1,l12_j1,Z0_j1,K0_j1⟩;have k14:=k11.tr K0_j1;have k15:=k12.tr K0_j1;have r21:=r19.ext K0_j1;have hb13:=hb12.ext K0_j1;refine bS hB10 fun o7 hB12 hB10=>ct (fun L w=>∃y12:Bool,o7=.inr y12/\L 10=.bool y12/\L 1=.int .u16 x1/\L 2=.pointer (some ⟨b3,0,none⟩)/\L 5=.int .i64 (x0.1.length:Int)/\L 6=.slice a2 x5.length cq2/\L 7=.pointer (some ⟨b4,0,none⟩)/\L 8=.int .i64 y1/\L 9=.int .i64 y3/\L 11=.int .i64 y7/\L 12=.int .i64 y9/\w6.heap.size<=w.heap.size/\Ext w11 w) ?_ ?_
            ·refine cnd l83_j1 (fun h9=>?_) (fun h9=>?_)
             ·have hB12:=Ah hB12 h9;refine wp_seq<|Gq [] (.pure false 0 (.pure true 1 (.pure true 2 (.pure true 3 (.pure false 4 (.pure true 5 (.pure true 6 (.pure true 7 (.pure false 8 (.eff 9 (.pure true 10 (.pure true 11 (.pure true 12 (.pure true 13 (.pure true 14 .fin))))) .stop)))))))))) mixed (by kernel_rfl) (fun w12 hx6=>?_);have k18:=k14.tr hx6;have k19:=k15.tr hx6;have zs1:=Nat.le_trans Z0_j1 hx6.size;have hb14:=hb13.ext hx6;have r23:=r21.ext hx6;refine Zq rfl (fun _ hS=>Ab l2_j1 Gc rfl (Bx.cs (hb14.ext (hS.resolve_left nofun)))) (Ext.refl _)<|Zn rfl<|Zn rfl<|bS hB12 fun x9 Ex9 hB12=>?_;have hz:=(RV.els r7).ix Ex9;obtain⟨b7,f3,cs6,e4,i11,i12,q7,hc7⟩:=hz;cases e4;obtain⟨_,_,rfl,rfl,rfl⟩:=q7;have hc8:=hc7.ext k19;refine Zp rfl (fun _=>BG l6_j1 l11_j1 Tryz.underlying51 BK i11 i12)<|Zq rfl (fun _ hS=>Ab rfl BK rfl (hc8.ext (hS.resolve_left nofun))) (Ext.refl _)<|Zn rfl<|Zn rfl<|bS hB12 fun x10 Ex10 hB12=>?_;have hz:=JB r7 Ex10;obtain⟨cs7,i13,i14,q8,hc9⟩:=hz;obtain⟨_,_,rfl,rfl,rfl⟩:=q8;have hc10:=hc9.ext k19;refine Zp rfl (fun _=>BG l6_j1 l12_j1 Tryz.underlying51 BK i13 i14)<|Zq rfl (fun _ hS=>Ab rfl BK rfl (hc10.ext (hS.resolve_left nofun))) (Ext.refl _)<|bS hB12 fun x11 Ex11 hB12=>CR rfl<|Zc (xc pX (mc rfl (mc rfl (mc rfl mn)))) (uO (show RV (α:=Bq) _ (.agg [.slice a1 x0.1.length cq1,.int .i64 x0.2.1,.int .i64 x0.2.2.1,.int .i64 x0.2.2.2].toArray) (x0.1,x0.2.1,(x0.2.2.1,x0.2.2.2))from⟨_,rfl,[.slice a1 x0.1.length cq1],[.int .i64 x0.2.1]++([.int .i64 x0.2.2.1]++[.int .i64 x0.2.2.2]),rfl,r23.rep1,[.int .i64 x0.2.1],[.int .i64 x0.2.2.1]++[.int .i64 x0.2.2.2],rfl,rfl,[.int .i64 x0.2.2.1],[.int .i64 x0.2.2.2],rfl,rfl,rfl⟩) (show RV (α:=(Int×Bool)) _ (.agg [.int .i64 x9.1,.bool x9.2].toArray) (x9.1,x9.2)from⟨_,rfl,[.int .i64 x9.1],[.bool x9.2],rfl,rfl,rfl⟩) (show RV (α:=(Int×Bool)) _ (.agg [.int .i64 x10.1,.bool x10.2].toArray) (x10.1,x10.2)from⟨_,rfl,[.int .i64 x10.1],[.bool x10.2],rfl,rfl,rfl⟩) Ex11) ?_;rintro _ w13⟨rfl,hx7⟩;have k23:=k18.tr hx7;have k28:=hx6.tr hx7;have zs2:=Nat.le_trans zs1 hx7.size;refine nl ⟨fun _ _=>hx7,?_⟩;refine Zn rfl<|Zp rfl (fun _=>FU rfl rfl)<|Zp rfl (fun _=>FU rfl rfl)<|Zp rfl (fun _=>Ij)<|Zp rfl (fun _=>Ij)<|wp_seq<|Zr<|Zm<|Zv (FT rfl rfl)<|nl<|cnd rfl (fun h10=>?_) (fun h10=>?_)
              ·have hB12:=Ah hB12 h10;refine Zr<|Za<|nl<|?_;cases hB12;have hB10:=(show some _=some _ from hB10);cases hB10;have hB8:=(show some _=some _ from hB8);cases hB8;have hB6:=(show some _=some _ from hB6);cases hB6;have hB5:=(show some _=some _ from hB5);cases hB5;have hB3:=(show some _=some _ from hB3);cases hB3;have hB1:=(show some _=some _ from hB1);cases hB1;have hF:=(show some _=some _ from hF);cases hF;exact wp_ret<|Zw rfl rfl rfl ⟨rfl,k23⟩
              ·have hB12:=Ai hB12 h10;refine wp_skip<|rg<|Zm<|Zm<|Zg rfl rfl (Aq l10_j1) (fun hc=>BM rfl)<|Zv (Gh l10_j1 rfl rfl)<|Za<|nl<|?_;cases hB12;refine lf<|?_;exact⟨_,rfl,rfl,l1_j1,l2_j1,l5_j1,l6_j1,l7_j1,l8_j1,l9_j1,l11_j1,l12_j1,zs2,k28⟩
             ·have hB12:=Ai hB12 h9;refine wp_skip<|?_;cases hB12;refine lf<|?_;exact⟨_,rfl,l10_j1,l1_j1,l2_j1,l5_j1,l6_j1,l7_j1,l8_j1,l9_j1,l11_j1,l12_j1,Z0_j1,(Ext.refl _)⟩
            rintro L w14⟨y12,rfl,l10_j2,l1_j2,l2_j2,l5_j2,l6_j2,l7_j2,l8_j2,l9_j2,l11_j2,l12_j2,Z0_j2,K0_j2⟩;have k33:=K0_j1.tr K0_j2;cases hB10;refine lf<|?_;exact⟨_,rfl,l10_j2,l1_j2,l2_j2,l5_j2,l6_j2,l7_j2,l8_j2,l9_j2,l11_j2,l12_j2,Z0_j2,k33⟩
           rintro L w15⟨y10,rfl,l10_j3,l1_j3,l2_j3,l5_j3,l6_j3,l7_j3,l8_j3,l9_j3,l11_j3,l12_j3,Z0_j3,K0_j3⟩;have k37:=K0_i4.tr K0_j3;refine rg<|Zm<|Zv (Bg l12_j3 rfl)<|Za<|nl<|lq m (Nat.lt_succ_self _)<|?_;exact⟨_,_,hB8,l10_j3,rfl,l1_j3,l2_j3,l5_j3,l6_j3,l7_j3,l8_j3,l9_j3,l11_j3,Z0_j3,k37⟩
          ·have hB8:=Ai hB8 h7;refine wp_exit<|?_;cases hB8;refine lf<|?_;exact⟨_,rfl,l10_i4,l1_i4,l2_i4,l5_i4,l6_i4,l7_i4,l8_i4,l9_i4,l11_i4,Z0_i4,K0_i4⟩
         rintro L w16⟨z4,rfl,l10_j4,l1_j4,l2_j4,l5_j4,l6_j4,l7_j4,l8_j4,l9_j4,l11_j4,Z0_j4,K0_j4⟩;have k40:=K0_i3.tr K0_j4;refine rg<|Zm<|Zv (Bg l11_j4 rfl)<|Za<|nl<|lq m (Nat.lt_succ_self _)<|?_;exact⟨_,_,hB6,l10_j4,rfl,l1_j4,l2_j4,l5_j4,l6_j4,l7_j4,l8_j4,l9_j4,Z0_j4,k40⟩
        ·have hB6:=Ai hB6 h6;refine wp_exit<|?_;cases hB6;refine lf<|?_;exact⟨_,rfl,l10_i3,l1_i3,l2_i3,l5_i3,l6_i3,l7_i3,l8_i3,l9_i3,Z0_i3,K0_i3⟩
       rintro L w17⟨z3,rfl,l10_j5,l1_j5,l2_j5,l5_j5,l6_j5,l7_j5,l8_j5,l9_j5,Z0_j5,K0_j5⟩;have k42:=K0_i2.tr K0_j5;have O9:=O7c1_i2.ext K0_j5;have B9:=B7_i2.ext K0_j5;refine Zr<|Zm<|nl<|bS hB5 fun y13 hB19 hB5=>ct (fun L w=>∃v8:Value,Bx w b4 110 [.int .i64 y13.1,.int .i64 y13.2.1,v8,.slice none 0 0]/\Row 112 w6.heap.size w v8 y13.2.2.1/\some b4≠Value.ownBlock v8/\L 1=.int .u16 x1/\L 2=.pointer (some ⟨b3,0,none⟩)/\L 5=.int .i64 (x0.1.length:Int)/\L 6=.slice a2 x5.length cq2/\L 7=.pointer (some ⟨b4,0,none⟩)/\L 8=.int .i64 y1/\L 9=.int .i64 y3/\w6.heap.size<=w.heap.size/\Ext w4 w) ?_ ?_
       ·refine cnd l10_j5 (fun h11=>?_) (fun h11=>?_)
        ·have hB19:=Ah hB19 h11;refine Gq [6,8] (.pure true 0 (.pure false 1 (.pure true 2 (.pure true 3 (.eff 4 (.eff 5 (.eff 6 (.pure true 7 (.eff 8 .fin .stop)) .stop) .stop) .stop))))) mixed (by kernel_rfl) (fun w18 hx8=>?_);have k44:=k42.tr hx8;have zs3:=Nat.le_trans Z0_j5 hx8.size;have B10:=B9.ext hx8;have O10:=O9.ext hx8;refine Zp rfl (fun _=>AV l7_j5 Br)<|Zq rfl (fun _ hS=>AQ rfl DV ((Bx.cs (B10.ext (hS.resolve_left nofun))).at 2 rfl)) (Ext.refl _)<|Zn rfl<|Zn rfl<|bS hB19 fun x12 Ex12 hB19=>CR rfl<|Zc (xc gX (mc l8_j5 (mc l9_j5 mn))) (oU Ex12) ?_;rintro _ w19⟨u2,rfl,r37,hx9⟩;have k47:=k44.tr hx9;have zs4:=Nat.le_trans zs3 hx9.size;have B11:=B10.ext hx9;have O11:=O10.ext hx9;have hz:=id r37;obtain⟨_,rfl,_,_,rfl,rfl,rfl⟩:=hz;refine nl ⟨fun _ _=>hx9,?_⟩;refine CR rfl<|Gb (cs:=[.int .i64 x12.1,.int .i64 x12.2]) Tryz.underlying108 BI rfl (pc rfl pn) rfl rfl rfl rfl rfl fun b8 w20 hx10 hg3 hb22=>?_;have k51:=k47.tr hx10;have k54:=hx9.tr hx10;have zs5:=Nat.le_trans zs4 hx10.size;have B12:=B11.ext hx10;have O12:=O11.ext hx10;have o8:Row (α:=(Int×Int)) 112 w19.heap.size w20 (.slice (some ⟨b8,0,none⟩) 1 1) [x12]:=Row.lit hg3 hb22 rfl (ble rfl);refine nl ⟨fun _ _=>k54,?_⟩;refine bS hB19 fun x13 Ex13 hB19=>CR rfl<|MI (l:=y4.2.2.1) (k:=([x12]:List (Int×Int))) rfl rfl Tryz.underlying108 BI rfl rfl O12 (RV.els o8.rv) Ex13 zs5 fun v9 w21 o9 hB21 hgr1 how1=>?_;have k56:=Ext.grow k51 k6.size hB21;have zs6:=Nat.le_trans zs5 hgr1.size;have ne1:=gY how1 N7c1_i2 B12.lt;have hb25:=Bx.gr B12 hgr1 N7c1_i2;have hz:=RV.sl o9.rv;obtain⟨a5,cq5,rfl,-,-,-⟩:=hz;refine nl ⟨fun h=>(h (by decide)).elim,?_⟩;refine Zp rfl (fun _=>AV l7_j5 Br)<|CR rfl<|DC rfl rfl rfl DV hb25 rfl rfl (ble rfl) fun w22 hch2 hb26=>?_;have k58:=Ext.chg k56 hch2 (Nat.le_trans (Nat.le_refl _) hg2);have zs7:=Nat.le_trans zs6 (Nat.le_of_eq hch2.size.symm);have o10:=Row.chgn o9 hch2 ne1;have hb28:Bx w22 b4 110 [.int .i64 y4.1,.int .i64 y4.2.1,.slice a5 x13.length cq5,.slice none 0 0]:=hb26;refine nl ⟨fun h=>(h (by decide)).elim,?_⟩;cases hB19;refine lf<|?_;exact⟨_,hb28,o10,ne1,l1_j5,l2_j5,l5_j5,l6_j5,l7_j5,l8_j5,l9_j5,zs7,k58⟩
        ·have hB19:=Ai hB19 h11;refine wp_skip<|?_;cases hB19;refine lf<|?_;exact⟨_,B9,O9,N7c1_i2,l1_j5,l2_j5,l5_j5,l6_j5,l7_j5,l8_j5,l9_j5,Z0_j5,k42⟩
       rintro L w23⟨v8,B7_j6,O7c1_j6,N7c1_j6,l1_j6,l2_j6,l5_j6,l6_j6,l7_j6,l8_j6,l9_j6,Z0_j6,K0_j6⟩;have hz:=RV.sl O7c1_j6.rv;obtain⟨a6,cq6,rfl,-,-,-⟩:=hz;cases hB5;refine lf<|?_;exact⟨_,_,rfl,B7_j6,O7c1_j6,N7c1_j6,l1_j6,l2_j6,l5_j6,l6_j6,l7_j6,l8_j6,l9_j6,Z0_j6,K0_j6⟩
      rintro L w24⟨y5,v7,rfl,B7_j7,O7c1_j7,N7c1_j7,l1_j7,l2_j7,l5_j7,l6_j7,l7_j7,l8_j7,l9_j7,Z0_j7,K0_j7⟩;have hz:=RV.sl O7c1_j7.rv;obtain⟨a7,cq7,rfl,-,-,-⟩:=hz;refine rg<|Zm<|Zv (Bg l9_j7 rfl)<|Za<|nl<|lq m (Nat.lt_succ_self _)<|?_;exact⟨_,_,_,hB3,rfl,B7_j7,O7c1_j7,N7c1_j7,l1_j7,l2_j7,l5_j7,l6_j7,l7_j7,l8_j7,Z0_j7,K0_j7⟩
     ·have hB3:=Ai hB3 h5;refine wp_exit<|?_;cases hB3;refine lf<|?_;exact⟨_,_,rfl,B7_i2,O7c1_i2,N7c1_i2,l1_i2,l2_i2,l5_i2,l6_i2,l7_i2,l8_i2,Z0_i2,K0_i2⟩
    rintro L w25⟨z2,v6,rfl,B7_j8,O7c1_j8,N7c1_j8,l1_j8,l2_j8,l5_j8,l6_j8,l7_j8,l8_j8,Z0_j8,K0_j8⟩;have hz:=RV.sl O7c1_j8.rv;obtain⟨a8,cq8,rfl,-,-,-⟩:=hz;refine rg<|Zm<|Zv (Bg l8_j8 rfl)<|Za<|nl<|lq m (Nat.lt_succ_self _)<|?_;exact⟨_,_,_,hB1,rfl,B7_j8,O7c1_j8,N7c1_j8,l1_j8,l2_j8,l5_j8,l6_j8,l7_j8,Z0_j8,K0_j8⟩
   ·have hB1:=Ai hB1 h4;refine wp_exit<|?_;cases hB1;refine lf<|?_;exact⟨_,_,rfl,B7_i1,O7c1_i1,N7c1_i1,l1_i1,l2_i1,l5_i1,l7_i1,Z0_i1,K0_i1⟩
  rintro L w26⟨z1,v4,rfl,B7_j9,O7c1_j9,N7c1_j9,l1_j9,l2_j9,l5_j9,l7_j9,Z0_j9,K0_j9⟩;have k62:=k3.tr K0_j9;have r53:=r8.ext K0_j9;have hb32:=hb3.ext K0_j9;have hz:=RV.sl O7c1_j9.rv;obtain⟨a9,cq9,rfl,-,-,-⟩:=hz;refine wp_seq<|Zr<|Zv (Ab l7_j9 GA rfl (Bx.cs B7_j9))<|bS hF fun x14 Ex14 hF=>Zc (xc pz (mc rfl mn)) (uS (show RV (α:=(Int×Int×(List (Int×Int))×(List Int))) _ (.agg [.int .i64 z1.1,.int .i64 z1.2.1,.slice a9 z1.2.2.1.length cq9,.slice none 0 0].toArray) (z1.1,z1.2.1,z1.2.2.1,[])from⟨_,rfl,[.int .i64 z1.1],[.int .i64 z1.2.1]++([.slice a9 z1.2.2.1.length cq9]++[.slice none 0 0]),rfl,rfl,[.int .i64 z1.2.1],[.slice a9 z1.2.2.1.length cq9]++[.slice none 0 0],rfl,rfl,[.slice a9 z1.2.2.1.length cq9],[.slice none 0 0],rfl,O7c1_j9.rv.rep1,(RVo.nil (Nat.zero_le _)).rep1⟩) Ex14) ?_;rintro _ w27⟨rfl,hx11⟩;have k63:=k62.tr hx11;have zs8:=Nat.le_trans Z0_j9 hx11.size;have hb33:=hb32.ext hx11;have r54:=r53.ext hx11;have B13:=B7_j9.ext hx11;have O13:=O7c1_j9.ext hx11;refine Zv (FT rfl rfl)<|nl<|cnd rfl (fun h12=>?_) (fun h12=>?_)
  ·have hF:=Ah hF h12;refine Zr<|Za<|nl<|?_;cases hF;exact wp_ret<|Zw rfl rfl rfl ⟨rfl,k63⟩
  ·have hF:=Ai hF h12;refine wp_skip<|Zr<|Zv (Ab l2_j9 Gc rfl (Bx.cs hb33))<|bS hF fun x15 Ex15 hF=>Zc (xc pY (mc rfl mn)) (uQ (show RV (α:=Bq) _ (.agg [.slice a1 x0.1.length cq1,.int .i64 x0.2.1,.int .i64 x0.2.2.1,.int .i64 x0.2.2.2].toArray) (x0.1,x0.2.1,(x0.2.2.1,x0.2.2.2))from⟨_,rfl,[.slice a1 x0.1.length cq1],[.int .i64 x0.2.1]++([.int .i64 x0.2.2.1]++[.int .i64 x0.2.2.2]),rfl,r54.rep1,[.int .i64 x0.2.1],[.int .i64 x0.2.2.1]++[.int .i64 x0.2.2.2],rfl,rfl,[.int .i64 x0.2.2.1],[.int .i64 x0.2.2.2],rfl,rfl,rfl⟩) Ex15) ?_;rintro _ w28⟨rfl,hx12⟩;have k65:=k63.tr hx12;have zs9:=Nat.le_trans zs8 hx12.size;have hb34:=hb33.ext hx12;have r55:=r54.ext hx12;have B14:=B13.ext hx12;have O14:=O13.ext hx12;refine Zm<|Zv (FU rfl rfl)<|Zv (FU rfl rfl)<|Za<|Za<|nl<|Zr<|Zv (Ab l7_j9 GA rfl (Bx.cs B14))<|bS hF fun x16 Ex16 hF=>Zc (xc qA (mc rfl mn)) (uV (show RV (α:=(Int×Int×(List (Int×Int))×(List Int))) _ (.agg [.int .i64 z1.1,.int .i64 z1.2.1,.slice a9 z1.2.2.1.length cq9,.slice none 0 0].toArray) (z1.1,z1.2.1,z1.2.2.1,[])from⟨_,rfl,[.int .i64 z1.1],[.int .i64 z1.2.1]++([.slice a9 z1.2.2.1.length cq9]++[.slice none 0 0]),rfl,rfl,[.int .i64 z1.2.1],[.slice a9 z1.2.2.1.length cq9]++[.slice none 0 0],rfl,rfl,[.slice a9 z1.2.2.1.length cq9],[.slice none 0 0],rfl,O14.rv.rep1,(RVo.nil (Nat.zero_le _)).rep1⟩) Ex16) ?_;rintro _ w29⟨u3,rfl,r56,hx13⟩;have k67:=k65.tr hx13;have zs10:=Nat.le_trans zs9 hx13.size;have hb35:=hb34.ext hx13;have r57:=r55.ext hx13;have B15:=B14.ext hx13;have O15:=O14.ext hx13;have hz:=RV.sl r56;obtain⟨a10,cq10,rfl,-,-,-⟩:=hz;refine Zm<|Zv (FU rfl rfl)<|Zv (FU rfl rfl)<|Za<|Za<|nl<|Zr<|Zv (Ab l7_j9 GA rfl (Bx.cs B15))<|bS hF fun x17 Ex17 hF=>Zc (xc qC (mc rfl mn)) (uZ (show RV (α:=(Int×Int×(List (Int×Int))×(List Int))) _ (.agg [.int .i64 z1.1,.int .i64 z1.2.1,.slice a9 z1.2.2.1.length cq9,.slice none 0 0].toArray) (z1.1,z1.2.1,z1.2.2.1,[])from⟨_,rfl,[.int .i64 z1.1],[.int .i64 z1.2.1]++([.slice a9 z1.2.2.1.length cq9]++[.slice none 0 0]),rfl,rfl,[.int .i64 z1.2.1],[.slice a9 z1.2.2.1.length cq9]++[.slice none 0 0],rfl,rfl,[.slice a9 z1.2.2.1.length cq9],[.slice none 0 0],rfl,O15.rv.rep1,(RVo.nil (Nat.zero_le _)).rep1⟩) Ex17) ?_;rintro _ w30⟨u4,rfl,r58,hx14⟩;have k69:=k67.tr hx14;have zs11:=Nat.le_trans zs10 hx14.size;have hb36:=hb35.ext hx14;have r59:=r57.ext hx14;have B16:=B15.ext hx14;have O16:=O15.ext hx14;have hz:=RV.sl r58;obtain⟨a11,cq11,rfl,-,-,-⟩:=hz;refine Zm<|Zv (FU rfl rfl)<|Zv (FU rfl rfl)<|Za<|Za<|nl<|wp_seq<|Zr<|Zm<|Zv (FT rfl rfl)<|Zm<|Zg rfl rfl (Aq rfl) (fun hc=>BM rfl)<|Zg rfl rfl (Aq rfl) (fun hc=>FT (mv hc rfl) rfl)<|Zv (Gh rfl rfl rfl)<|Zm<|Zg rfl rfl (Aq rfl) (fun hc=>BM rfl)<|Zg rfl rfl (Aq rfl) (fun hc=>FT (mv hc rfl) rfl)<|Zv (Gh rfl rfl rfl)<|Zm<|Zg rfl rfl (Aq rfl) (fun hc=>BM rfl)<|Zg rfl rfl (Aq rfl) (fun hc=>BU (mv hc rfl) rfl)<|Zv (Gh rfl rfl rfl)<|Zm<|Zg rfl rfl (Aq rfl) (fun hc=>BM rfl)<|Zg rfl rfl (Aq rfl) (fun hc=>BV (mv hc rfl) Tryz.underlying41)<|Zg rfl rfl (Aq rfl) (fun hc=>AV l7_j9 Br)<|Zg rfl rfl (Aq rfl) (fun hc=>AQ (mv hc rfl) DV ((Bx.cs B16).at 2 rfl))<|Zg rfl rfl (Aq rfl) (fun hc=>BV (mv hc rfl) Tryz.underlying108)<|Zg rfl rfl (Aq rfl) (fun hc=>FT (mv hc rfl) (mv hc rfl))<|Zv (Gh rfl rfl rfl)<|nl<|cnd rfl (fun h13=>?_) (fun h13=>?_)
   ·have hF:=Ah hF h13;refine Zr<|Za<|nl<|?_;cases hF;exact wp_ret<|Zw rfl rfl rfl ⟨rfl,k69⟩
   ·have hF:=Ai hF h13;refine wp_skip<|wp_seq<|Zr<|Zm<|Zv (EU rfl rfl)<|nl<|cnd rfl (fun h14=>?_) (fun h14=>?_)
    ·have hF:=Ah hF h14;refine Zr<|bS hF fun x18 Ex18 hF=>Zc (xc Zx mn) (ji Ex18) ?_;rintro _ w31⟨rfl,hx15⟩;have k71:=k69.tr hx15;refine Za<|nl<|?_;cases hF;exact wp_ret<|Zw rfl rfl rfl ⟨rfl,k71⟩
    ·have hF:=Ai hF h14;refine wp_skip<|wp_seq<|Gq [] (.pure false 0 (.pure true 1 (.pure true 2 (.pure true 3 (.pure true 4 (.eff 5 (.pure true 6 (.pure true 7 (.pure true 8 (.pure true 9 (.pure true 10 .fin))))) .stop)))))) mixed (by kernel_rfl) (fun w32 hx16=>?_);have k73:=k69.tr hx16;have zs13:=Nat.le_trans zs11 hx16.size;have hb37:=hb36.ext hx16;have r61:=r59.ext hx16;have B17:=B16.ext hx16;have O17:=O16.ext hx16;have r63:=r58.ext hx16;refine Zq rfl (fun _ hS=>Ab l2_j9 Gc rfl (Bx.cs (hb37.ext (hS.resolve_left nofun)))) (Ext.refl _)<|Zn rfl<|Zp rfl (fun _=>pG l1_j9 Tryz.underlying33 Tryz.underlying2)<|Zn rfl<|bS hF fun x19 Ex19 hF=>Zp rfl (fun _=>kT rfl rfl Ex19)<|bS hF fun x20 Ex20 hF=>CR rfl<|Zc (xc pq (mc rfl (mc rfl mn))) (uR (show RV (α:=Bq) _ (.agg [.slice a1 x0.1.length cq1,.int .i64 x0.2.1,.int .i64 x0.2.2.1,.int .i64 x0.2.2.2].toArray) (x0.1,x0.2.1,(x0.2.2.1,x0.2.2.2))from⟨_,rfl,[.slice a1 x0.1.length cq1],[.int .i64 x0.2.1]++([.int .i64 x0.2.2.1]++[.int .i64 x0.2.2.2]),rfl,r61.rep1,[.int .i64 x0.2.1],[.int .i64 x0.2.2.1]++[.int .i64 x0.2.2.2],rfl,rfl,[.int .i64 x0.2.2.1],[.int .i64 x0.2.2.2],rfl,rfl,rfl⟩) Ex20) ?_;rintro _ w33⟨u5,rfl,r64,hx17⟩;have k75:=k73.tr hx17;have zs14:=Nat.le_trans zs13 hx17.size;have hb38:=hb37.ext hx17;have r65:=r61.ext hx17;have B18:=B17.ext hx17;have O18:=O17.ext hx17;have hz:=RV.sl r64;obtain⟨a12,cq12,rfl,-,-,-⟩:=hz;refine nl ⟨fun _ _=>hx17,?_⟩;refine Zn rfl<|Zp rfl (fun _=>FU rfl rfl)<|Zp rfl (fun _=>FU rfl rfl)<|Zp rfl (fun _=>Ij)<|Zp rfl (fun _=>Ij)<|wp_seq<|Zr<|Zm<|Zv (FT rfl rfl)<|Zm<|Zg rfl rfl (Aq rfl) (fun hc=>Ab l2_j9 Gc rfl (Bx.cs hb38))<|Zg rfl rfl (Aq rfl) (fun hc=>BM rfl)<|bS hF fun x21 Ex21 hF=>gc rfl rfl rfl rfl (Aq rfl) rfl (fun hc=>xc pu (mc (mv hc rfl) (mc (mv hc rfl) mn))) (fun hc=>(uY (show RV (α:=Bq) _ (.agg [.slice a1 x0.1.length cq1,.int .i64 x0.2.1,.int .i64 x0.2.2.1,.int .i64 x0.2.2.2].toArray) (x0.1,x0.2.1,(x0.2.2.1,x0.2.2.2))from⟨_,rfl,[.slice a1 x0.1.length cq1],[.int .i64 x0.2.1]++([.int .i64 x0.2.2.1]++[.int .i64 x0.2.2.2]),rfl,r65.rep1,[.int .i64 x0.2.1],[.int .i64 x0.2.2.1]++[.int .i64 x0.2.2.2],rfl,rfl,[.int .i64 x0.2.2.1],[.int .i64 x0.2.2.2],rfl,rfl,rfl⟩) r64 (Lg Ex21 hc))) (fun v10 w34 hy1 hn1=>?_);have hx18:Ext w33 w34:=gx (fun h=>(hy1 h).2) (fun h=>(hn1 h).2▸Ext.refl _);have e5:=Li (fun h=>(hy1 h).1) (fun h=>(hn1 h).1);have k77:=k75.tr hx18;have k79:=hx17.tr hx18;have zs15:=Nat.le_trans zs14 hx18.size;have B19:=B18.ext hx18;have O19:=O18.ext hx18;have r70:=r64.ext hx18;refine Zg rfl rfl (Aq rfl) (fun hc=>FT (mv hc e5) rfl)<|Zv (Gh rfl rfl rfl)<|Zm<|Zg rfl rfl (Aq rfl) (fun hc=>BM rfl)<|Zg rfl rfl (Aq rfl) (fun hc=>BV (mv hc rfl) Tryz.underlying41)<|Zg rfl rfl (Aq rfl) (fun hc=>BM l5_j9)<|Zg rfl rfl (Aq rfl) (fun hc=>F5 (mv hc rfl) rfl)<|Zg rfl rfl (Aq rfl) (fun hc=>BU (mv hc rfl) (mv hc rfl))<|Zv (Gh rfl rfl rfl)<|nl<|cnd rfl (fun h15=>?_) (fun h15=>?_)
     ·have hF:=Ah hF h15;refine Zr<|Za<|nl<|?_;cases hF;exact wp_ret<|Zw rfl rfl rfl ⟨rfl,k77⟩
     ·have hF:=Ai hF h15;refine wp_skip<|Zr<|Zv (AV l7_j9 Br)<|Zv (AQ rfl DV ((Bx.cs B19).at 2 rfl))<|Zv (BV rfl Tryz.underlying108)<|bS hF fun x22 Ex22 hF=>Z4 (α:=Int) (z0:=0) rfl rfl Tryz.underlying41 AY rfl rfl rfl Ex22 fun b9 w35 hx19 o11=>?_;have zs16:=Nat.le_trans zs15 hx19.size;refine Za<|nl<|wp_seq<|Zr<|Za<|nl<|bS hF fun z5 hB25 hF=>ct (fun L w=>∃v12:Value,L 23=v12/\Row 3 w34.heap.size w v12 z5/\L 5=.int .i64 (x0.1.length:Int)/\L 7=.pointer (some ⟨b4,0,none⟩)/\L 17=.slice a10 x16.1.length cq10/\L 19=.slice a11 x17.1.length cq11/\w6.heap.size<=w.heap.size/\Ext w34 w) ?_ ?_
      ·refine wp_block<|lp (I:=fun m L w=>∃y14:(List Int),∃y15:Int,∃v11:Value,CZ F x0 x20 z1 m y14 y15=some z5/\L 23=v11/\Row 3 w34.heap.size w v11 y14/\L 24=.int .i64 y15/\L 5=.int .i64 (x0.1.length:Int)/\L 7=.pointer (some ⟨b4,0,none⟩)/\L 17=.slice a10 x16.1.length cq10/\L 19=.slice a11 x17.1.length cq11/\L 21=.slice a12 x20.1.length cq12/\w6.heap.size<=w.heap.size/\Ext w34 w) F ⟨_,_,_,hB25,rfl,o11,rfl,l5_j9,l7_j9,rfl,rfl,rfl,zs16,hx19⟩ ?_;rintro m L w36⟨y14,y15,v11,hB25,l23_i15,O23_i15,l24_i15,l5_i15,l7_i15,l17_i15,l19_i15,l21_i15,Z0_i15,K0_i15⟩;rcases m with _|m
       ·rw[CZ]at hB25;cases hB25
       rw[CZ]at hB25;have hz:=RV.sl O23_i15.rv;obtain⟨a13,cq13,rfl,-,-,-⟩:=hz;refine wp_seq<|Zr<|Zm<|Zm<|Zv (BU l24_i15 l5_i15)<|nl<|cnd rfl (fun h16=>?_) (fun h16=>?_)
       ·have hB25:=Ah hB25 h16;refine wp_skip<|wp_seq<|wp_block<|Zr<|Za<|nl<|bS hB25 fun z6 hB27 hB25=>ct (fun L w=>∃v14:Value,L 23=v14/\Row 3 w34.heap.size w v14 z6/\L 5=.int .i64 (x0.1.length:Int)/\L 7=.pointer (some ⟨b4,0,none⟩)/\L 17=.slice a10 x16.1.length cq10/\L 19=.slice a11 x17.1.length cq11/\L 21=.slice a12 x20.1.length cq12/\L 24=.int .i64 y15/\w6.heap.size<=w.heap.size/\Ext w34 w) ?_ ?_
        ·refine wp_block<|lp (I:=fun m L w=>∃y16:(List Int),∃y17:Int,∃v13:Value,C8 F x20 y15 z1 m y16 y17=some z6/\L 23=v13/\Row 3 w34.heap.size w v13 y16/\L 25=.int .i64 y17/\L 5=.int .i64 (x0.1.length:Int)/\L 7=.pointer (some ⟨b4,0,none⟩)/\L 17=.slice a10 x16.1.length cq10/\L 19=.slice a11 x17.1.length cq11/\L 21=.slice a12 x20.1.length cq12/\L 24=.int .i64 y15/\w6.heap.size<=w.heap.size/\Ext w34 w) F ⟨_,_,_,hB27,l23_i15,O23_i15,rfl,l5_i15,l7_i15,l17_i15,l19_i15,l21_i15,l24_i15,Z0_i15,K0_i15⟩ ?_;rintro m L w37⟨y16,y17,v13,hB27,l23_i16,O23_i16,l25_i16,l5_i16,l7_i16,l17_i16,l19_i16,l21_i16,l24_i16,Z0_i16,K0_i16⟩;rcases m with _|m
         ·rw[C8]at hB27;cases hB27
         rw[C8]at hB27;have O22:=O19.ext K0_i16;have B22:=B19.ext K0_i16;have hz:=RV.sl O23_i16.rv;obtain⟨a14,cq14,rfl,-,-,-⟩:=hz;refine wp_seq<|Zr<|Zm<|Zv (AV l7_i16 Br)<|Zv (AQ rfl DV ((Bx.cs B22).at 2 rfl))<|Zv (BV rfl Tryz.underlying108)<|Zv (BU l25_i16 rfl)<|nl<|cnd rfl (fun h17=>?_) (fun h17=>?_)
         ·have hB27:=Ah hB27 h17;refine wp_skip<|wp_seq<|bS hB27 fun y18 hB29 hB27=>ct (fun L w=>∃v15:Value,L 23=v15/\Row 3 w34.heap.size w v15 y18/\L 5=.int .i64 (x0.1.length:Int)/\L 7=.pointer (some ⟨b4,0,none⟩)/\L 17=.slice a10 x16.1.length cq10/\L 19=.slice a11 x17.1.length cq11/\L 21=.slice a12 x20.1.length cq12/\L 24=.int .i64 y15/\L 25=.int .i64 y17/\w6.heap.size<=w.heap.size/\Ext w34 w) ?_ ?_
          ·refine wp_block<|wp_seq<|Gq [] (.pure true 0 (.pure false 1 (.pure true 2 (.pure true 3 (.pure false 4 (.pure true 5 (.pure true 6 (.pure true 7 (.pure true 8 (.pure true 9 (.pure false 10 (.pure true 11 (.pure true 12 (.pure true 13 (.pure true 14 (.pure false 15 (.eff 16 (.pure true 17 .fin) .stop))))))))))))))))) mixed (by kernel_rfl) (fun w38 hx20=>?_);have k92:=K0_i16.tr hx20;have zs17:=Nat.le_trans Z0_i16 hx20.size;have B23:=B22.ext hx20;have O23:=O22.ext hx20;have O24:=O23_i16.ext hx20;refine Zp rfl (fun _=>AV l7_i16 Br)<|Zq rfl (fun _ hS=>AQ rfl DV ((Bx.cs (B23.ext (hS.resolve_left nofun))).at 2 rfl)) (Ext.refl _)<|Zn rfl<|bS hB29 fun x23 Ex23 hB29=>?_;have hz:=(RV.els O23.rv).ix Ex23;obtain⟨b10,f4,cs8,e6,i17,i18,q9,hc11⟩:=hz;cases e6;obtain⟨_,_,rfl,rfl,rfl⟩:=q9;refine Zp rfl (fun _=>BG rfl l25_i16 Tryz.underlying108 BI i17 i18)<|Zq rfl (fun _ hS=>Ab rfl BI rfl (hc11.ext (hS.resolve_left nofun))) (Ext.refl _)<|Zn rfl<|Zn rfl<|Zp rfl (fun _=>F5 l24_i16 rfl)<|bS hB29 fun x24 Ex24 hB29=>?_;have hz:=(RV.els r70).ix Ex24;obtain⟨b11,f5,cs9,e7,i19,i20,q10,hc12⟩:=hz;cases e7;obtain⟨_,_,rfl,rfl,rfl⟩:=q10;have hc13:=hc12.ext k92;refine Zp rfl (fun _=>BG l21_i16 rfl Tryz.underlying51 BK i19 i20)<|Zp rfl (fun _=>AV rfl EX)<|Zq rfl (fun _ hS=>AQ rfl AY ((hc13.ext (hS.resolve_left nofun)).at 0 rfl)) (Ext.refl _)<|Zn rfl<|Zn rfl<|bS hB29 fun x25 Ex25 hB29=>?_;have hz:=JB r70 Ex25;obtain⟨cs10,i21,i22,q11,hc14⟩:=hz;obtain⟨_,_,rfl,rfl,rfl⟩:=q11;have hc15:=hc14.ext k92;refine Zp rfl (fun _=>BG l21_i16 l24_i16 Tryz.underlying51 BK i21 i22)<|Zp rfl (fun _=>AV rfl EX)<|Zq rfl (fun _ hS=>AQ rfl AY ((hc15.ext (hS.resolve_left nofun)).at 0 rfl)) (Ext.refl _)<|bS hB29 fun x26 Ex26 hB29=>CR rfl<|Zc (xc gX (mc rfl (mc rfl mn))) (oU Ex26) ?_;rintro _ w39⟨u6,rfl,r83,hx21⟩;have k96:=k92.tr hx21;have zs18:=Nat.le_trans zs17 hx21.size;have O26:=O24.ext hx21;have hz:=id r83;obtain⟨_,rfl,_,_,rfl,rfl,rfl⟩:=hz;refine nl ⟨fun _ _=>hx21,?_⟩;refine Zp rfl (fun _=>Sz (α:=(Int×Int)) (a:=(x23.1,x23.2)) (b:=x26) rfl WS WR rfl rfl rfl rfl rfl)<|bS hB29 fun y19 hB30 hB29=>ct (fun L w=>∃v16:Value,L 23=v16/\Row 3 w34.heap.size w v16 y19/\L 5=.int .i64 (x0.1.length:Int)/\L 7=.pointer (some ⟨b4,0,none⟩)/\L 17=.slice a10 x16.1.length cq10/\L 19=.slice a11 x17.1.length cq11/\L 21=.slice (some ⟨b11,f5,none⟩) x20.1.length cq12/\L 24=.int .i64 y15/\L 25=.int .i64 y17/\w6.heap.size<=w.heap.size/\Ext w34 w) ?_ ?_
           ·refine cnd rfl (fun h18=>?_) (fun h18=>?_)
            ·have hB30:=Ah hB30 h18;refine rg<|Zm<|Zm<|bS hB30 fun x27 Ex27 hB30=>?_;have hz:=(RV.els O26.rv).ix Ex27;obtain⟨b12,f6,cs11,e8,i23,i24,q12,hc16⟩:=hz;cases e8;obtain rfl:=q12;refine Zv (BG l23_i16 l25_i16 Tryz.underlying41 AY i23 i24)<|pM (l:=y16) (v:=1) rfl rfl rfl AY O26 Ex27 fun w40 hch3 o14=>?_;have k101:=Ext.chg k96 hch3 (Nat.le_trans (Nat.le_refl _) (Row.ge O26));have zs19:=Nat.le_trans zs18 (Nat.le_of_eq hch3.size.symm);refine nl<|?_;cases hB30;refine lf<|?_;exact⟨_,l23_i16,o14,l5_i16,l7_i16,l17_i16,l19_i16,l21_i16,l24_i16,l25_i16,zs19,k101⟩
            ·have hB30:=Ai hB30 h18;refine wp_skip<|?_;cases hB30;refine lf<|?_;exact⟨_,l23_i16,O26,l5_i16,l7_i16,l17_i16,l19_i16,l21_i16,l24_i16,l25_i16,zs18,k96⟩
           rintro L w41⟨v16,l23_j10,O23_j10,l5_j10,l7_j10,l17_j10,l19_j10,l21_j10,l24_j10,l25_j10,Z0_j10,K0_j10⟩;have hz:=RV.sl O23_j10.rv;obtain⟨a15,cq15,rfl,-,-,-⟩:=hz;cases hB29;refine lf<|?_;exact⟨_,l23_j10,O23_j10,l5_j10,l7_j10,l17_j10,l19_j10,l21_j10,l24_j10,l25_j10,Z0_j10,K0_j10⟩
          rintro L w42⟨v15,l23_j11,O23_j11,l5_j11,l7_j11,l17_j11,l19_j11,l21_j11,l24_j11,l25_j11,Z0_j11,K0_j11⟩;have hz:=RV.sl O23_j11.rv;obtain⟨a16,cq16,rfl,-,-,-⟩:=hz;refine rg<|Zm<|Zv (Bg l25_j11 rfl)<|Za<|nl<|lq m (Nat.lt_succ_self _)<|?_;exact⟨_,_,_,hB27,l23_j11,O23_j11,rfl,l5_j11,l7_j11,l17_j11,l19_j11,l21_j11,l24_j11,Z0_j11,K0_j11⟩
         ·have hB27:=Ai hB27 h17;refine wp_exit<|?_;cases hB27;refine lf<|?_;exact⟨_,l23_i16,O23_i16,l5_i16,l7_i16,l17_i16,l19_i16,l21_i16,l24_i16,Z0_i16,K0_i16⟩
        rintro L w43⟨v14,l23_j12,O23_j12,l5_j12,l7_j12,l17_j12,l19_j12,l21_j12,l24_j12,Z0_j12,K0_j12⟩;have hz:=RV.sl O23_j12.rv;obtain⟨a17,cq17,rfl,-,-,-⟩:=hz;refine rg<|Zm<|Zv (Bg l24_j12 rfl)<|Za<|nl<|lq m (Nat.lt_succ_self _)<|?_;exact⟨_,_,_,hB25,l23_j12,O23_j12,rfl,l5_j12,l7_j12,l17_j12,l19_j12,l21_j12,Z0_j12,K0_j12⟩
       ·have hB25:=Ai hB25 h16;refine wp_exit<|?_;cases hB25;refine lf<|?_;exact⟨_,l23_i15,O23_i15,l5_i15,l7_i15,l17_i15,l19_i15,Z0_i15,K0_i15⟩
      rintro L w44⟨v12,l23_j13,O23_j13,l5_j13,l7_j13,l17_j13,l19_j13,Z0_j13,K0_j13⟩;have k111:=k77.tr K0_j13;have k113:=k79.tr K0_j13;have O31:=O19.ext K0_j13;have B29:=B19.ext K0_j13;have hz:=RV.sl O23_j13.rv;obtain⟨a18,cq18,rfl,-,-,-⟩:=hz;refine Zr<|Za<|nl<|wp_seq<|Zr<|Za<|nl<|?_;have o15:Row (α:=Int) 3 w44.heap.size w44 (.slice none 0 0) []:=Row.nil;refine bS hF fun o16 hB35 hF=>ct (fun L w=>∃z7:(List Int),∃v18:Value,o16=.inr z7/\L 26=v18/\Row 3 w44.heap.size w v18 z7/\Apart (v18) (.slice a18 z5.length cq18)/\L 5=.int .i64 (x0.1.length:Int)/\L 7=.pointer (some ⟨b4,0,none⟩)/\w6.heap.size<=w.heap.size/\w34.heap.size<=w.heap.size/\Ext w44 w) ?_ ?_
      ·refine wp_block<|lp (I:=fun m L w=>∃y20:(List Int),∃y21:Int,∃v17:Value,Ca F x0 x16 x17 z5 m y20 y21=some o16/\L 26=v17/\Row 3 w44.heap.size w v17 y20/\L 27=.int .i64 y21/\Apart (v17) (.slice a18 z5.length cq18)/\L 5=.int .i64 (x0.1.length:Int)/\L 7=.pointer (some ⟨b4,0,none⟩)/\L 17=.slice a10 x16.1.length cq10/\L 19=.slice a11 x17.1.length cq11/\L 23=.slice a18 z5.length cq18/\w6.heap.size<=w.heap.size/\w34.heap.size<=w.heap.size/\Ext w44 w) F ⟨_,_,_,hB35,rfl,o15,rfl,(Apart.symm (Apart.old' O23_j13.own_lt (fun q e=>(o15.lt q e).1))),l5_j13,l7_j13,l17_j13,l19_j13,l23_j13,Z0_j13,K0_j13.size,(Ext.refl _)⟩ ?_;rintro m L w45⟨y20,y21,v17,hB35,l26_i25,O26_i25,l27_i25,X0_i25,l5_i25,l7_i25,l17_i25,l19_i25,l23_i25,Z0_i25,Z1_i25,K0_i25⟩;rcases m with _|m
       ·rw[Ca]at hB35;cases hB35
       rw[Ca]at hB35;have O33:=O23_j13.ext K0_i25;have hz:=RV.sl O26_i25.rv;obtain⟨a19,cq19,rfl,-,-,-⟩:=hz;refine wp_seq<|Zr<|Zm<|Zm<|Zv (BV l23_i25 Tryz.underlying41)<|Zv (BU l27_i25 rfl)<|nl<|cnd rfl (fun h19=>?_) (fun h19=>?_)
       ·have hB35:=Ah hB35 h19;refine wp_skip<|wp_seq<|wp_block<|wp_seq<|Zr<|Zm<|Zm<|bS hB35 fun x28 Ex28 hB35=>?_;have hz:=(RV.els O33.rv).ix Ex28;obtain⟨b13,f7,cs12,e9,i26,i27,q13,hc17⟩:=hz;cases e9;obtain rfl:=q13;refine Zv (BG l23_i25 l27_i25 Tryz.underlying41 AY i26 i27)<|Zv (AQ rfl AY (hc17.at 0 rfl))<|Zv (EU rfl rfl)<|nl<|bS hB35 fun y22 hB37 hB35=>ct (fun L w=>∃v19:Value,L 26=v19/\Row 3 w44.heap.size w v19 y22/\Apart (v19) (.slice (some ⟨b13,f7,none⟩) z5.length cq18)/\L 5=.int .i64 (x0.1.length:Int)/\L 7=.pointer (some ⟨b4,0,none⟩)/\L 17=.slice a10 x16.1.length cq10/\L 19=.slice a11 x17.1.length cq11/\L 23=.slice (some ⟨b13,f7,none⟩) z5.length cq18/\L 27=.int .i64 y21/\w6.heap.size<=w.heap.size/\w34.heap.size<=w.heap.size/\Ext w44 w) ?_ ?_
        ·refine cnd rfl (fun h20=>?_) (fun h20=>?_)
         ·have hB37:=Ah hB37 h20;refine rg<|Zm<|Zm<|Gb (cs:=[.int .i64 y21]) Tryz.underlying41 AY rfl (pc l27_i25 pn) rfl rfl rfl rfl rfl fun b14 w46 hx22 hg4 hb39=>?_;have k122:=K0_i25.tr hx22;have zs20:=Nat.le_trans Z0_i25 hx22.size;have zs21:=Nat.le_trans Z1_i25 hx22.size;have O35:=O33.ext hx22;have O36:=O26_i25.ext hx22;have o17:Row (α:=Int) 3 w45.heap.size w46 (.slice (some ⟨b14,0,none⟩) 1 1) [y21]:=Row.lit hg4 hb39 rfl (ble rfl);refine bS hB37 fun x29 Ex29 hB37=>MI (l:=y20) (k:=([y21]:List Int)) l26_i25 rfl Tryz.underlying41 AY rfl rfl O36 (RV.els o17.rv) Ex29 k122.size fun v20 w47 o18 hB39 hgr2 how2=>?_;have k127:Ext w44 w47:=k122.trans hB39;have X1:=Apart.app how2 X0_i25 O35.own_lt;have zs22:=Nat.le_trans zs20 hgr2.size;have zs23:=Nat.le_trans zs21 hgr2.size;have hz:=RV.sl o18.rv;obtain⟨a20,cq20,rfl,-,-,-⟩:=hz;refine Za<|nl<|?_;cases hB37;refine lf<|?_;exact⟨_,rfl,o18,X1,l5_i25,l7_i25,l17_i25,l19_i25,l23_i25,l27_i25,zs22,zs23,k127⟩
         ·have hB37:=Ai hB37 h20;refine wp_skip<|?_;cases hB37;refine lf<|?_;exact⟨_,l26_i25,O26_i25,X0_i25,l5_i25,l7_i25,l17_i25,l19_i25,l23_i25,l27_i25,Z0_i25,Z1_i25,K0_i25⟩
        rintro L w48⟨v19,l26_j14,O26_j14,X0_j14,l5_j14,l7_j14,l17_j14,l19_j14,l23_j14,l27_j14,Z0_j14,Z1_j14,K0_j14⟩;have k128:=k111.tr K0_j14;have k130:=k113.tr K0_j14;have O40:=O23_j13.ext K0_j14;have hz:=RV.sl O26_j14.rv;obtain⟨a21,cq21,rfl,-,-,-⟩:=hz;refine wp_seq<|bS hB35 fun y23 hB41 hB35=>ct (fun L w=>L 263=.bool y23/\L 5=.int .i64 (x0.1.length:Int)/\L 7=.pointer (some ⟨b4,0,none⟩)/\L 17=.slice a10 x16.1.length cq10/\L 19=.slice a11 x17.1.length cq11/\L 23=.slice (some ⟨b13,f7,none⟩) z5.length cq18/\L 26=.slice a21 y22.length cq21/\L 27=.int .i64 y21/\w6.heap.size<=w.heap.size/\w34.heap.size<=w.heap.size/\w44.heap.size<=w.heap.size/\Ext w48 w) ?_ ?_
        ·refine rg<|Zm<|Zv (BV l17_j14 Tryz.underlying41)<|Zm<|Zv (F5 l5_j14 rfl)<|Zv (EU rfl rfl)<|Zm<|Or.elim (Bool.eq_false_or_eq_true (decide ((x16.1.length:Int)=(Aa ((x0.1.length:Int)-1))))) (fun h21=>?_) (fun h21=>?_)
         ·have hB41:=Ah hB41 h21;refine Gt rfl (bt h21)<|Zm<|Gt rfl (bt h21)<|Zm<|bS hB41 fun x30 Ex30 hB41=>?_;have hz:=(RV.els r63).ix Ex30;obtain⟨b15,f8,cs13,e10,i28,i29,q14,hc18⟩:=hz;cases e10;obtain rfl:=q14;have hc19:=hc18.ext k130;refine Gt rfl (bt h21)<|Zv (BG l19_j14 l27_j14 Tryz.underlying41 AY i28 i29)<|Gt rfl (bt h21)<|Zv (AQ rfl AY (hc19.at 0 rfl))<|Gt rfl (bt h21)<|Zv (EU rfl rfl)<|Gt rfl (bt h21)<|Zm<|Or.elim (Bool.eq_false_or_eq_true (decide (x30=2))) (fun h22=>?_) (fun h22=>?_)
          ·have hB41:=Ah hB41 h22;refine Gt rfl (bt h22)<|Zm<|Gt rfl (bt h22)<|Zm<|bS hB41 fun x31 Ex31 hB41=>?_;have hz:=JB O40.rv Ex31;obtain⟨cs14,i30,i31,q15,hc20⟩:=hz;obtain rfl:=q15;refine Gt rfl (bt h22)<|Zv (BG l23_j14 l27_j14 Tryz.underlying41 AY i30 i31)<|Gt rfl (bt h22)<|Zv (AQ rfl AY (hc20.at 0 rfl))<|Gt rfl (bt h22)<|Zv (EU rfl rfl)<|Gt rfl (bt h21)<|Zv (DU rfl h22 rfl)<|Gt rfl (bt h21)<|Zm<|Or.elim (Bool.eq_false_or_eq_true (decide (x31=0))) (fun h23=>?_) (fun h23=>?_)
           ·have hB41:=Ah hB41 h23;refine Gk rfl (CY h23)<|Gk rfl (CY h23)<|Gk rfl (CY h23)<|Gk rfl (CY h23)<|Gk rfl (CY h23)<|Gk rfl (CY h23)<|Gk rfl bu<|Gk rfl bu<|Gk rfl bu<|Gk rfl bu<|Gk rfl bu<|Gk rfl (CY h23)<|Gt rfl (bt h21)<|Zv (DU rfl h23 rfl)<|Zv (DU rfl h21 rfl)<|nl<|?_;cases hB41;refine lf<|?_;exact⟨rfl,l5_j14,l7_j14,l17_j14,l19_j14,l23_j14,l26_j14,l27_j14,Z0_j14,Z1_j14,K0_j14.size,(Ext.refl _)⟩
           ·have hB41:=Ai hB41 h23;refine Gt rfl (bf h23)<|Zm<|Gt rfl (bf h23)<|Zm<|bS hB41 fun x32 Ex32 hB41=>?_;have hz:=JB r63 Ex32;obtain⟨cs15,i32,i33,q16,hc21⟩:=hz;obtain rfl:=q16;have hc22:=hc21.ext k130;refine Gt rfl (bf h23)<|Zv (BG l19_j14 l27_j14 Tryz.underlying41 AY i32 i33)<|Gt rfl (bf h23)<|Zv (AQ rfl AY (hc22.at 0 rfl))<|Gt rfl (bf h23)<|Zv (EU rfl rfl)<|Gt rfl (bf h23)<|Zm<|Or.elim (Bool.eq_false_or_eq_true (decide (x32=0))) (fun h24=>?_) (fun h24=>?_)
            ·have hB41:=Ah hB41 h24;refine Gt rfl (bt h24)<|Zm<|Gt rfl (bt h24)<|Zm<|bS hB41 fun x33 Ex33 hB41=>?_;have hz:=JB O40.rv Ex33;obtain⟨cs16,i34,i35,q17,hc23⟩:=hz;obtain rfl:=q17;refine Gt rfl (bt h24)<|Zv (BG l23_j14 l27_j14 Tryz.underlying41 AY i34 i35)<|Gt rfl (bt h24)<|Zv (AQ rfl AY (hc23.at 0 rfl))<|Gt rfl (bt h24)<|Zv (EU rfl rfl)<|Gt rfl (bf h23)<|Zv (DU rfl h24 rfl)<|Gt rfl (bt h21)<|Zv (EW rfl h23 rfl)<|Zv (DU rfl h21 rfl)<|nl<|?_;cases hB41;refine lf<|?_;exact⟨rfl,l5_j14,l7_j14,l17_j14,l19_j14,l23_j14,l26_j14,l27_j14,Z0_j14,Z1_j14,K0_j14.size,(Ext.refl _)⟩
            ·have hB41:=Ai hB41 h24;refine Gk rfl (AZ h24)<|Gk rfl (AZ h24)<|Gk rfl (AZ h24)<|Gk rfl (AZ h24)<|Gk rfl (AZ h24)<|Gt rfl (bf h23)<|Zv (EW rfl h24 rfl)<|Gt rfl (bt h21)<|Zv (EW rfl h23 rfl)<|Zv (DU rfl h21 rfl)<|nl<|?_;cases hB41;refine lf<|?_;exact⟨rfl,l5_j14,l7_j14,l17_j14,l19_j14,l23_j14,l26_j14,l27_j14,Z0_j14,Z1_j14,K0_j14.size,(Ext.refl _)⟩
          ·have hB41:=Ai hB41 h22;refine Gk rfl (AZ h22)<|Gk rfl (AZ h22)<|Gk rfl (AZ h22)<|Gk rfl (AZ h22)<|Gk rfl (AZ h22)<|Gt rfl (bt h21)<|Zv (EW rfl h22 rfl)<|Gt rfl (bt h21)<|Zm<|Or.elim (Bool.eq_false_or_eq_true false) (fun h25=>?_) (fun h25=>?_)
           ·have hB41:=Ah hB41 h25;refine Gk rfl (CY h25)<|Gk rfl (CY h25)<|Gk rfl (CY h25)<|Gk rfl (CY h25)<|Gk rfl (CY h25)<|Gk rfl (CY h25)<|Gk rfl bu<|Gk rfl bu<|Gk rfl bu<|Gk rfl bu<|Gk rfl bu<|Gk rfl (CY h25)<|Gt rfl (bt h21)<|Zv (DU rfl h25 rfl)<|Zv (DU rfl h21 rfl)<|nl<|?_;cases hB41;refine lf<|?_;exact⟨rfl,l5_j14,l7_j14,l17_j14,l19_j14,l23_j14,l26_j14,l27_j14,Z0_j14,Z1_j14,K0_j14.size,(Ext.refl _)⟩
           ·have hB41:=Ai hB41 h25;refine Gt rfl (bf h25)<|Zm<|Gt rfl (bf h25)<|Zm<|bS hB41 fun x34 Ex34 hB41=>?_;have hz:=JB r63 Ex34;obtain⟨cs17,i36,i37,q18,hc24⟩:=hz;obtain rfl:=q18;have hc25:=hc24.ext k130;refine Gt rfl (bf h25)<|Zv (BG l19_j14 l27_j14 Tryz.underlying41 AY i36 i37)<|Gt rfl (bf h25)<|Zv (AQ rfl AY (hc25.at 0 rfl))<|Gt rfl (bf h25)<|Zv (EU rfl rfl)<|Gt rfl (bf h25)<|Zm<|Or.elim (Bool.eq_false_or_eq_true (decide (x34=0))) (fun h26=>?_) (fun h26=>?_)
            ·have hB41:=Ah hB41 h26;refine Gt rfl (bt h26)<|Zm<|Gt rfl (bt h26)<|Zm<|bS hB41 fun x35 Ex35 hB41=>?_;have hz:=JB O40.rv Ex35;obtain⟨cs18,i38,i39,q19,hc26⟩:=hz;obtain rfl:=q19;refine Gt rfl (bt h26)<|Zv (BG l23_j14 l27_j14 Tryz.underlying41 AY i38 i39)<|Gt rfl (bt h26)<|Zv (AQ rfl AY (hc26.at 0 rfl))<|Gt rfl (bt h26)<|Zv (EU rfl rfl)<|Gt rfl (bf h25)<|Zv (DU rfl h26 rfl)<|Gt rfl (bt h21)<|Zv (EW rfl h25 rfl)<|Zv (DU rfl h21 rfl)<|nl<|?_;cases hB41;refine lf<|?_;exact⟨rfl,l5_j14,l7_j14,l17_j14,l19_j14,l23_j14,l26_j14,l27_j14,Z0_j14,Z1_j14,K0_j14.size,(Ext.refl _)⟩
            ·have hB41:=Ai hB41 h26;refine Gk rfl (AZ h26)<|Gk rfl (AZ h26)<|Gk rfl (AZ h26)<|Gk rfl (AZ h26)<|Gk rfl (AZ h26)<|Gt rfl (bf h25)<|Zv (EW rfl h26 rfl)<|Gt rfl (bt h21)<|Zv (EW rfl h25 rfl)<|Zv (DU rfl h21 rfl)<|nl<|?_;cases hB41;refine lf<|?_;exact⟨rfl,l5_j14,l7_j14,l17_j14,l19_j14,l23_j14,l26_j14,l27_j14,Z0_j14,Z1_j14,K0_j14.size,(Ext.refl _)⟩
         ·have hB41:=Ai hB41 h21;refine Gk rfl (AZ h21)<|Gk rfl (AZ h21)<|Gk rfl (AZ h21)<|Gk rfl (AZ h21)<|Gk rfl (AZ h21)<|Gk rfl (AZ h21)<|Gk rfl bu<|Gk rfl bu<|Gk rfl bu<|Gk rfl bu<|Gk rfl bu<|Gk rfl (AZ h21)<|Gk rfl (AZ h21)<|Gk rfl bu<|Gk rfl bu<|Gk rfl bu<|Gk rfl bu<|Gk rfl bu<|Gk rfl bu<|Gk rfl bu<|Gk rfl bu<|Gk rfl bu<|Gk rfl bu<|Gk rfl bu<|Gk rfl bu<|Gk rfl (AZ h21)<|Zv (EW rfl h21 rfl)<|nl<|?_;cases hB41;refine lf<|?_;exact⟨rfl,l5_j14,l7_j14,l17_j14,l19_j14,l23_j14,l26_j14,l27_j14,Z0_j14,Z1_j14,K0_j14.size,(Ext.refl _)⟩
        rintro L w49⟨l263_j15,l5_j15,l7_j15,l17_j15,l19_j15,l23_j15,l26_j15,l27_j15,Z0_j15,Z1_j15,Z2_j15,K0_j15⟩;have k132:=k128.tr K0_j15;have k136:=K0_j14.tr K0_j15;have O43:=O26_j14.ext K0_j15;refine cnd l263_j15 (fun h27=>?_) (fun h27=>?_)
        ·have hB35:=Ah hB35 h27;refine Zr<|Za<|nl<|?_;cases hB35;have hF:=(show some _=some _ from hF);cases hF;exact wp_ret<|Zw rfl rfl rfl ⟨rfl,k132⟩
        ·have hB35:=Ai hB35 h27;refine wp_skip<|rg<|Zm<|Zv (Bg l27_j15 rfl)<|Za<|nl<|lq m (Nat.lt_succ_self _)<|?_;exact⟨_,_,_,hB35,l26_j15,O43,rfl,X0_j14,l5_j15,l7_j15,l17_j15,l19_j15,l23_j15,Z0_j15,Z1_j15,k136⟩
       ·have hB35:=Ai hB35 h19;refine wp_exit<|?_;cases hB35;refine lf<|?_;exact⟨_,_,rfl,l26_i25,O26_i25,X0_i25,l5_i25,l7_i25,Z0_i25,Z1_i25,K0_i25⟩
      rintro L w50⟨z7,v18,rfl,l26_j16,O26_j16,X0_j16,l5_j16,l7_j16,Z0_j16,Z1_j16,K0_j16⟩;have k137:=k111.tr K0_j16;have O44:=O31.ext K0_j16;have B35:=B29.ext K0_j16;have hz:=RV.sl O26_j16.rv;obtain⟨a22,cq22,rfl,-,-,-⟩:=hz;refine Zr<|Zm<|Zv (BV l26_j16 Tryz.underlying41)<|Zm<|Zv (F5 l5_j16 rfl)<|Zv (EU rfl rfl)<|Zm<|Zg rfl rfl (Bn rfl) (fun hc=>Ab l7_j16 GA rfl (Bx.cs B35))<|Zg rfl rfl (Bn rfl) (fun hc=>BM l26_j16)<|bS hF fun x36 Ex36 hF=>gc rfl rfl rfl rfl (Bn rfl) rfl (fun hc=>xc qB (mc (mv hc rfl) (mc (mv hc rfl) mn))) (fun hc=>(uf (show RV (α:=(Int×Int×(List (Int×Int))×(List Int))) _ (.agg [.int .i64 z1.1,.int .i64 z1.2.1,.slice a9 z1.2.2.1.length cq9,.slice none 0 0].toArray) (z1.1,z1.2.1,z1.2.2.1,[])from⟨_,rfl,[.int .i64 z1.1],[.int .i64 z1.2.1]++([.slice a9 z1.2.2.1.length cq9]++[.slice none 0 0]),rfl,rfl,[.int .i64 z1.2.1],[.slice a9 z1.2.2.1.length cq9]++[.slice none 0 0],rfl,rfl,[.slice a9 z1.2.2.1.length cq9],[.slice none 0 0],rfl,O44.rv.rep1,(RVo.nil (Nat.zero_le _)).rep1⟩) O26_j16.rv (Lg Ex36 hc))) (fun v21 w51 hy2 hn2=>?_);have hx23:Ext w50 w51:=gx (fun h=>(hy2 h).2) (fun h=>(hn2 h).2▸Ext.refl _);have e11:=Li (fun h=>(hy2 h).1) (fun h=>(hn2 h).1);have k141:=k137.tr hx23;refine Zg rfl rfl (Bn rfl) (fun hc=>EU (mv hc e11) rfl)<|Zv (Kq rfl rfl rfl)<|Zm<|bS hF fun x37 Ex37 hF=>gc rfl rfl rfl rfl (Bn rfl) rfl (fun hc=>xc Zx mn) (fun hc=>(ji (Lg Ex37 hc))) (fun v22 w52 hy3 hn3=>?_);have hx24:Ext w51 w52:=gx (fun h=>(hy3 h).2) (fun h=>(hn3 h).2▸Ext.refl _);have e12:=Li (fun h=>(hy3 h).1) (fun h=>(hn3 h).1);have k146:=k141.tr hx24;refine Zv (Kq rfl e12 rfl)<|Za<|nl<|?_;cases hF;exact wp_ret<|Zw rfl rfl rfl ⟨rfl,k146⟩
end Go.Proofs.YtfmelbioccbdoaaGreat
end
section
namespace Go.Proofs.YtfmelbioccbdoaaGreat
open Go Go.Md Go.RowKit
section
theorem Au{n:Int}(h:-9223372036854775808<=n/\n<=9223372036854775807):Aa n=n:=IntWalk.i64_in n h
def HZ{α:Type}(l:List α)(f:α->Option Bool):Nat->Int->Option (Sum Int Unit)
 |0,_=>none
 |m+1,k=>
  if(decide (k<(l.length:Int)))=true then
   (ix l k)>>=fun x=>(f x)>>=fun b=>if b=true then some (.inl k)else HZ l f m (Aa (k+1))
  else some (.inr ())
theorem Bb{α:Type}{l:List α}{k:Nat}(h:k<l.length):ix l (k:Int)=some l[k]:=by
 simp[ix,List.getElem?_eq_getElem h]
theorem KL{α:Type}{l:List α}{f:α->Option Bool}{p:α->Bool}(hf:∀x∈l,f x=some (p x))(hl:l.length<4611686018427387904):
  ∀(m k:Nat),k<=l.length->l.length-k<m->∃r,HZ l f m (k:Int)=some r/\((l.drop k).any p=true->∃j:Nat,r=.inl (j:Int))/\((l.drop k).any p=false->r=.inr ())
 |0,k,_,h=>by omega
 |m+1,k,hk,h=>by
  unfold HZ;by_cases hlt:k<l.length
  ·have e:decide ((k:Int)<(l.length:Int))=true:=by simpa using hlt
   rw[if_pos e,Bb hlt];have hd:l.drop k=l[k]::l.drop (k+1):=List.drop_eq_getElem_cons hlt;have hfx:=hf l[k] (List.getElem_mem hlt);simp only[Am,AJ,hfx];cases hp:p l[k]with
   |true=>
    refine⟨_,if_pos rfl,fun _=>⟨k,rfl⟩,fun h=>?_⟩;rw[hd,List.any_cons,hp]at h;cases h
   |false=>
    rw[if_neg (by simp),Au (by omega)];obtain⟨r,h1,h2,h3⟩:=KL hf hl m (k+1) (by omega) (by omega);refine⟨r,h1,?_,?_⟩<;>rw[hd,List.any_cons,hp,Bool.false_or]<;>assumption
  ·have e:¬decide ((k:Int)<(l.length:Int))=true:=by simpa using hlt
   rw[if_neg e];have:l.drop k=[]:=List.drop_of_length_le (by omega);refine⟨_,rfl,?_,fun _=>rfl⟩;rw[this];intro h;cases h
section
variable {α:Type}{f:α->Option Bool}{p:α->Bool}
theorem V7{l:List Int}{f:Int->Option Bool}(F:Nat):∀m k,CX F l f m k=HZ l f m k
 |0,_=>rfl
 |m+1,k=>by unfold CX HZ;simp only[V7 F m]
theorem fU{l:List Int}{f:Int->Option Bool}{p:Int->Bool}{F:Nat}(hf:∀x∈l,f x=some (p x))(hF:l.length<F)(hl:l.length<4611686018427387904):Cu F l f=some (l.any p):=by
 obtain⟨r,h1,h2,h3⟩:=KL hf hl F 0 (Nat.zero_le _) (by omega);unfold Cu Fg;rw[V7];simp only[Int.natCast_zero,List.drop_zero]at h1 h2 h3;rw[h1];cases hp:l.any p with
 |true=>obtain⟨j,rfl⟩:=h2 hp;simp[Am]
 |false=>obtain rfl:=h3 hp;simp[Am]
end
def Ki(lo hi n:Int):Bool:=decide (lo<=n)&&decide (n<=hi)
theorem fV{lo hi:Int}(l:List Int):(!l.any fun n=>decide (n<lo)||decide (hi<n))=l.all (Ki lo hi):=by
 induction l with
 |nil=>rfl
 |cons a l ih=>
  simp only[List.any_cons,List.all_cons,Bool.not_or,ih,Ki]
  congr 1
  by_cases h1:a<lo<;>by_cases h2:hi<a<;>simp[h1,h2]<;>omega
end
end Go.Proofs.YtfmelbioccbdoaaGreat
end
