/-
  Part 9 of 10 of what the last text stands on: lemmas about the model, pure functions, walks, laws in plain Lean; each part's own head says its condition. Merged by a program of our own.
-/
import Derived.Test.YtfmelbioccbdoaaGreatStepListsQh
import Derived.Scope
import Derived.IntWalk
import Derived.KernelRfl
set_option maxHeartbeats 0
set_option linter.all false
section
namespace Go.Proofs.YtfmelbioccbdoaaGreat
open Go Go.Md Go.RowKit
theorem works_c5{f:FuncId}(h:∀w,Calls Tryz.prog f #[] w fun e w'=>e=.returned (.bool true)/\Below w.heap.size w w'){w0:World}{r:Bool}(hr:some true=some r):
  Calls Tryz.prog f [].toArray w0 (BV fun v w'=>v=.bool r/\Ext w0 w'):=by
 cases hr;exact(h w0).mono fun e w' h=>⟨_,h.1,rfl,h.2⟩
def MV(_:Nat):Option Bool:=some true
theorem iy{w0:World}{F:Nat}{r:Bool}(hF:MV F=some r):Calls Tryz.prog 135 [].toArray w0 (BV fun v w'=>v=.bool r/\Ext w0 w'):=works_c5 dX hF
def Gh(F:Nat):Option Bool:=
 (Ko F)>>=fun x1=>
 (gd x1 (MU F) false)>>=fun x2=>
 (gd (x1&&x2) (MV F) false)>>=fun x3=>
 some ((x1&&x2)&&x3)
end Go.Proofs.YtfmelbioccbdoaaGreat
end
section
namespace Go.Proofs.YtfmelbioccbdoaaGreat
open Go Go.Md Go.RowKit
attribute [local irreducible] Go.wpList Go.Code.wp Go.Calls Go.Md.Cu Go.Md.Mt Go.Md.Dl Go.Md.Ch Go.Code.wpIn
theorem lQ{w0:World}{x0:Int}{b1:Nat}{cs1:List Value}{x1:Int}(h1:Cs w0 b1 0 cs1)(q1:Enc.rep (fun _=>True) w0 cs1 x1){b2:Nat}{cs2:List Value}{x2:Int}(h2:Cs w0 b2 0 cs2)(q2:Enc.rep (fun _=>True) w0 cs2 x2){r:Bool}(hF:Hl x0 x1 x2=some r):
  Calls Tryz.prog 315 [.int .i64 x0,.pointer (some ⟨b1,0,none⟩),.pointer (some ⟨b2,0,none⟩)].toArray w0 (BV fun v w'=>v=.bool r/\Ext w0 w'):=by
 unfold Hl at hF;obtain rfl:=q1;obtain rfl:=q2;refine BX (n:=13) Tryz.func315 rfl rfl rfl<|Zr<|Za<|nl<|Zr<|Zm<|Zv (AX rfl AY (h1.at 0 rfl))<|Zv (BN rfl rfl)<|Zm<|Zg rfl rfl (A9 rfl) (fun hc=>Ba rfl)<|Zg rfl rfl (A9 rfl) (fun hc=>AX rfl AY (h2.at 0 rfl))<|Zg rfl rfl (A9 rfl) (fun hc=>EO (mv hc rfl) (mv hc rfl))<|Zv (F6 rfl rfl rfl)<|Za<|nl<|?_;cases hF;exact wp_ret<|Zw rfl rfl rfl ⟨rfl,(Ext.refl _)⟩
theorem Vj{w0:World}{x0:Int}{x1:Int}{v2:Value}{x2:(List Int)}(r2:RV w0 v2 x2){F:Nat}{r:Bool}(hF:EB F x0 x1 x2=some r):
  Calls Tryz.prog 243 [.int .i64 x0,.int .i64 x1,v2].toArray w0 (BV fun v w'=>v=.bool r/\Ext w0 w'):=by
 unfold EB at hF;have hz:=r2.sl;obtain⟨a1,cq1,rfl,-,-,-⟩:=hz;refine BX (n:=11) Tryz.func243 rfl rfl rfl<|Zr<|FJ rfl rfl fun b4 w1 hx1 hg1 hb1=>?_;have r4:=r2.ext hx1;refine FJ rfl rfl fun b5 w2 hx2 hg2 hb2=>?_;have k1:=hx1.tr hx2;have hb3:=hb1.ext hx2;have r5:=r4.ext hx2;refine Za<|nl<|Zr<|Zm<|Zv (Lx mn (mc rfl (mc rfl mn)))<|bS hF fun x4 Ex4 hF=>Zc (xc fq (mc rfl (mc rfl mn))) (kN r5 ⟨315,[],[.pointer (some ⟨b4,0,none⟩),.pointer (some ⟨b5,0,none⟩)],rfl,gY,fun w' u x b hk hu hp=>by cases RVo.int.1 hu;exact lQ (Bx.cs (hb3.ext hk)) rfl (Bx.cs (hb2.ext hk)) rfl hp⟩ Ex4) ?_;rintro _ w3⟨rfl,hx3⟩;have k2:=k1.tr hx3;refine Zv (Ej rfl)<|Za<|nl<|?_;cases hF;exact wp_ret<|Zw rfl rfl rfl ⟨rfl,k2⟩
theorem lS{w0:World}{v0:Value}{x0:(List Int)}(r0:RV w0 v0 x0){x1:Int}{F:Nat}{r:Bool}(hF:Im F x0 x1=some r):
  Calls Tryz.prog 143 [v0,.int .i64 x1].toArray w0 (BV fun v w'=>v=.bool r/\Ext w0 w'):=by
 unfold Im at hF;have hz:=r0.sl;obtain⟨a1,cq1,rfl,-,-,-⟩:=hz;refine BX (n:=34) Tryz.func143 rfl rfl rfl<|Zr<|Za<|nl<|wp_seq<|Zr<|Zm<|Zv (Bp rfl Tryz.underlying41)<|Zm<|nl<|bS hF fun o1 hB1 hF=>ct (fun L w=>o1=.inr ()/\Ext w0 w) ?_ ?_
 ·refine wp_block<|lp (I:=fun m L w=>∃y1:Int,F8 F x0 x1 m y1=some o1/\L 9=.int .i64 y1/\L 0=.slice a1 x0.length cq1/\L 1=.int .i64 x1/\L 7=.slice a1 x0.length cq1/\L 8=.int .i64 (x0.length:Int)/\Ext w0 w) F ⟨_,hB1,rfl,rfl,rfl,rfl,rfl,(Ext.refl _)⟩ ?_;rintro m L w1⟨y1,hB1,l9_i1,l0_i1,l1_i1,l7_i1,l8_i1,K0_i1⟩;rcases m with _|m
  ·rw[F8]at hB1;cases hB1
  rw[F8]at hB1;refine Zr<|Zv (BN l9_i1 l8_i1)<|nl<|wp_seq<|cnd rfl (fun h3=>?_) (fun h3=>?_)
  ·have hB1:=Ac hB1 h3;refine wp_skip<|wp_seq<|wp_block<|Zr<|Zm<|bS hB1 fun x3 Ex3 hB1=>?_;have hz:=(RV.els r0).ix Ex3;obtain⟨b3,f1,cs3,e1,i2,i3,q3,hc1⟩:=hz;cases e1;obtain rfl:=q3;have hc2:=hc1.ext K0_i1;refine Zv (Ao l7_i1 l9_i1 Tryz.underlying41 AY i2 i3)<|Zv (AX rfl AY (hc2.at 0 rfl))<|Za<|Za<|nl<|wp_seq<|bS hB1 fun y2 hB3 hB1=>ct (fun L w=>L 32=.bool y2/\L 0=.slice (some ⟨b3,f1,none⟩) x0.length cq1/\L 1=.int .i64 x1/\L 7=.slice (some ⟨b3,f1,none⟩) x0.length cq1/\L 8=.int .i64 (x0.length:Int)/\L 9=.int .i64 y1/\Ext w1 w) ?_ ?_
   ·refine rg<|Zm<|Zv (DX l1_i1 rfl)<|Zm<|JB (cs:=[.int .i64 x3]) Tryz.underlying41 AY rfl (pc rfl pn) rfl rfl rfl rfl rfl fun b5 w4 hx3 hg2 hb2=>?_;have k4:=K0_i1.tr hx3;have o3:Row (α:=Int) 3 w1.heap.size w4 (.slice (some ⟨b5,0,none⟩) 1 1) [x3]:=Row.lit hg2 hb2 rfl (ble rfl);refine bS hB3 fun x5 Ex5 hB3=>Zc (xc Ql (mc rfl (mc rfl (mc rfl mn)))) (Vj o3.rv Ex5) ?_;rintro _ w5⟨rfl,hx4⟩;have k5:=k4.tr hx4;have k6:=hx3.tr hx4;refine Zv (Ej rfl)<|Zm<|Or.elim (Bool.eq_false_or_eq_true (!x5)) (fun h4=>?_) (fun h4=>?_)
    ·have hB3:=Ac hB3 h4;refine Gk rfl (Bg h4)<|Gk rfl (Bg h4)<|Gk rfl (Bg h4)<|Gk rfl bu<|Gk rfl bu<|Gk rfl bu<|Gk rfl bu<|Gk rfl bu<|Gk rfl bu<|Gk rfl bu<|Gk rfl (Bg h4)<|Zv (EJ rfl h4 rfl)<|nl<|?_;cases hB3;refine lf<|?_;exact⟨rfl,l0_i1,l1_i1,l7_i1,l8_i1,l9_i1,k6⟩
    ·have hB3:=Ai hB3 h4;refine Gt rfl (bf h4)<|Zm<|Gt rfl (bf h4)<|Zv (EO l9_i1 rfl)<|Gt rfl (bf h4)<|Zm<|Or.elim (Bool.eq_false_or_eq_true (decide (0<y1))) (fun h5=>?_) (fun h5=>?_)
     ·have hB3:=Ac hB3 h5;refine Gt rfl (bt h5)<|Zm<|Gt rfl (bt h5)<|Zm<|Gt rfl (bt h5)<|Zm<|Gt rfl (bt h5)<|Zv (DX l9_i1 rfl)<|bS hB3 fun x6 Ex6 hB3=>?_;have hz:=EA r0 Ex6;obtain⟨cs4,i4,i5,q4,hc3⟩:=hz;obtain rfl:=q4;have hc4:=hc3.ext k5;refine Gt rfl (bt h5)<|Zv (Ao l0_i1 rfl Tryz.underlying41 AY i4 i5)<|Gt rfl (bt h5)<|Zv (AX rfl AY (hc4.at 0 rfl))<|Gt rfl (bt h5)<|Zv (IZ rfl rfl)<|Gt rfl (bf h4)<|Zv (EJ rfl h5 rfl)<|Zv (Eb rfl h4 rfl)<|nl<|?_;cases hB3;refine lf<|?_;exact⟨rfl,l0_i1,l1_i1,l7_i1,l8_i1,l9_i1,k6⟩
     ·have hB3:=Ai hB3 h5;refine Gk rfl (Ak h5)<|Gk rfl (Ak h5)<|Gk rfl (Ak h5)<|Gk rfl (Ak h5)<|Gk rfl (Ak h5)<|Gk rfl (Ak h5)<|Gk rfl (Ak h5)<|Gt rfl (bf h4)<|Zv (Eb rfl h5 rfl)<|Zv (Eb rfl h4 rfl)<|nl<|?_;cases hB3;refine lf<|?_;exact⟨rfl,l0_i1,l1_i1,l7_i1,l8_i1,l9_i1,k6⟩
   rintro L w6⟨l32_j1,l0_j1,l1_j1,l7_j1,l8_j1,l9_j1,K0_j1⟩;have k7:=K0_i1.tr K0_j1;refine cnd l32_j1 (fun h6=>?_) (fun h6=>?_)
   ·have hB1:=Ac hB1 h6;refine Zr<|Za<|nl<|?_;cases hB1;have hF:=(show some _=some _ from hF);cases hF;exact wp_ret<|Zw rfl rfl rfl ⟨rfl,k7⟩
   ·have hB1:=Ai hB1 h6;refine wp_skip<|rg<|Zv (BJ l9_j1 rfl)<|Zm<|nl<|lq m (Nat.lt_succ_self _)<|?_;exact⟨_,hB1,rfl,l0_j1,l1_j1,l7_j1,l8_j1,k7⟩
  ·have hB1:=Ai hB1 h3;refine wp_exit<|?_;cases hB1;refine lf<|?_;exact⟨rfl,K0_i1⟩
 rintro L w7⟨rfl,K0_j2⟩;refine Zr<|Za<|nl<|?_;cases hF;exact wp_ret<|Zw rfl rfl rfl ⟨rfl,K0_j2⟩
theorem lT{w0:World}{v0:Value}{x0:(Int×Int×(List (Int×Int))×(List Int))}(r0:RV w0 v0 x0){v1:Value}{x1:(List Int)}(r1:RV w0 v1 x1){F:Nat}{r:Bool}(hF:Ip F x0 x1=some r):
  Calls Tryz.prog 145 [v0,v1].toArray w0 (BV fun v w'=>v=.bool r/\Ext w0 w'):=by
 unfold Ip at hF;have hz:=id r0;obtain⟨_,rfl,_,_,rfl,rfl,_,_,rfl,rfl,_,_,rfl,⟨a1,cq1,rfl,p1,q3,e1⟩,a2,cq2,rfl,p2,q4,e2⟩:=hz;have r3:=RV.of1 p1 q3 e1;have hz:=r1.sl;obtain⟨a3,cq3,rfl,-,-,-⟩:=hz;refine BX (n:=38) Tryz.func145 rfl rfl rfl<|Zr<|FJ rfl rfl fun b3 w1 hx1 hg1 hb1=>Za<|nl<|Zr<|FT Hg fun b4 w2 hx2 hg2 hb2=>?_;have hb4:Bx w2 b4 238 (List.flatMap Flat.enc ((Ar.fill 12 0:(Ar 12 Int))).l):=hb2;refine FT Hg fun b5 w3 hx3 hg3 hb5=>?_;have k3:=hx2.tr hx3;have hb7:=hb4.ext hx3;have hb8:Bx w3 b5 238 (List.flatMap Flat.enc ((Ar.fill 12 0:(Ar 12 Int))).l):=hb5;refine nl<|wp_seq<|Zr<|Zm<|Zv (Bp rfl Tryz.underlying41)<|Zm<|nl<|bS hF fun o1 hB1 hF=>ct (fun L w=>o1=.inr ()/\Ext w1 w) ?_ ?_
 ·refine wp_block<|lp (I:=fun m L w=>∃y1:Int,∃y2:(Ar 12 Int),∃y3:(Ar 12 Int),F9 F x0 x1 m y1 y2 y3=some o1/\L 12=.int .i64 y1/\Bx w b4 238 (List.flatMap Flat.enc y2.l)/\Bx w b5 238 (List.flatMap Flat.enc y3.l)/\L 2=.pointer (some ⟨b3,0,none⟩)/\L 5=.pointer (some ⟨b4,0,none⟩)/\L 6=.pointer (some ⟨b5,0,none⟩)/\L 10=.slice a3 x1.length cq3/\L 11=.int .i64 (x1.length:Int)/\Ext w1 w) F ⟨_,_,_,hB1,rfl,hb7,hb8,rfl,rfl,rfl,rfl,rfl,k3⟩ ?_;rintro m L w4⟨y1,y2,y3,hB1,l12_i1,B5_i1,B6_i1,l2_i1,l5_i1,l6_i1,l10_i1,l11_i1,K0_i1⟩;rcases m with _|m
  ·rw[F9]at hB1;cases hB1
  rw[F9]at hB1;have k4:=hx1.tr K0_i1;have hb9:=hb1.ext K0_i1;refine Zr<|Zv (BN l12_i1 l11_i1)<|nl<|wp_seq<|cnd rfl (fun h3=>?_) (fun h3=>?_)
  ·have hB1:=Ac hB1 h3;refine wp_skip<|wp_seq<|wp_block<|Zr<|bS hB1 fun x3 Ex3 hB1=>?_;have hz:=(RV.els r1).ix Ex3;obtain⟨b6,f1,cs3,e3,i2,i3,q5,hc1⟩:=hz;cases e3;obtain rfl:=q5;have hc2:=hc1.ext k4;refine Zv (Ao l10_i1 l12_i1 Tryz.underlying41 AY i2 i3)<|Zv (AX rfl AY (hc2.at 0 rfl))<|Za<|nl<|Zr<|Zv (Ah l2_i1 CP)<|Zv (AX rfl Dk ((Bx.cs hb9).at 2 rfl))<|Zm<|bS hB1 fun x4 Ex4 hB1=>?_;have hz:=(RV.els r3).ix Ex4;obtain⟨b7,f2,cs4,e4,i4,i5,q6,hc3⟩:=hz;cases e4;obtain⟨_,_,rfl,rfl,rfl⟩:=q6;have hc4:=hc3.ext k4;refine Zv (Ao rfl rfl Tryz.underlying108 BR i4 i5)<|Zv (BO rfl BR rfl hc4)<|FT BR fun b8 w5 hx4 hg4 hb10=>?_;have k5:=k4.tr hx4;have k6:=K0_i1.tr hx4;refine EW rfl rfl rfl BR hb10 rfl rfl (ble rfl) fun w6 hch1 hb12=>?_;have k7:=Ext.chg k5 hch1 (Nat.le_trans k4.size hg4);have k8:=Ext.chg k6 hch1 (Nat.le_trans K0_i1.size hg4);have k9:=Ext.chg hx4 hch1 (Nat.le_trans (Nat.le_refl _) hg4);have B3:=B5_i1.ext k9;have B4:=B6_i1.ext k9;have hb14:Bx w6 b8 112 [.int .i64 x4.1,.int .i64 x4.2]:=hb12;refine nl<|wp_seq<|wp_seq<|FZ [] (.pure true 0 (.pure false 1 (.pure true 2 (.pure false 3 (.pure true 4 (.pure false 5 (.pure true 6 (.pure false 7 (.pure true 8 (.pure true 9 .fin)))))))))) mixed (by kernel_rfl) (fun w7 hx5=>?_);have k10:=k7.tr hx5;have k11:=k8.tr hx5;have B5:=B3.ext hx5;have B6:=B4.ext hx5;have hb16:=hb14.ext hx5;refine Zp rfl (fun _=>Ah rfl FU)<|Zq rfl (fun _ hS=>AX rfl AY ((Bx.cs (hb16.ext (hS.resolve_left nofun))).at 0 rfl)) (Ext.refl _)<|bS hB1 fun x5 Ex5 hB1=>?_;have hz:=JC (Bx.cs B5) Ex5;obtain⟨i6,i7,hc5⟩:=hz;refine Zp rfl (fun _=>Ia l5_i1 rfl Tryz.underlying238 AY i6 i7)<|Zq rfl (fun _ hS=>AX rfl AY ((hc5.ext (hS.resolve_left nofun)).at 0 rfl)) (Ext.refl _)<|Zp rfl (fun _=>Ah rfl FV)<|Zq rfl (fun _ hS=>AX rfl AY ((Bx.cs (hb16.ext (hS.resolve_left nofun))).at 1 rfl)) (Ext.refl _)<|bS hB1 fun x6 Ex6 hB1=>?_;have hz:=JC (Bx.cs B6) Ex6;obtain⟨i8,i9,hc6⟩:=hz;refine Zp rfl (fun _=>Ia l6_i1 rfl Tryz.underlying238 AY i8 i9)<|Zq rfl (fun _ hS=>AX rfl AY ((hc6.ext (hS.resolve_left nofun)).at 0 rfl)) (Ext.refl _)<|Zp rfl (fun _=>BJ rfl rfl)<|Zp rfl (fun _=>EO rfl rfl)<|cnd rfl (fun h4=>?_) (fun h4=>?_)
   ·have hB1:=Ac hB1 h4;refine Zr<|Za<|nl<|?_;cases hB1;have hF:=(show some _=some _ from hF);cases hF;exact wp_ret<|Zw rfl rfl rfl ⟨rfl,k10⟩
   ·have hB1:=Ai hB1 h4;refine wp_skip<|bL (row:=(some b4)) [7] (.pure true 0 (.pure false 1 (.pure true 2 (.pure false 3 (.pure true 4 (.eff 5 (.pure true 6 (.eff 7 .fin .stop)) .stop)))))) mixed (by kernel_rfl) (fun w8 hx6=>?_);have k14:=k11.tr hx6;have B7:=B5.ext hx6;have B8:=B6.ext hx6;have hb18:=hb16.ext hx6;refine Zp rfl (fun _=>Ah rfl FU)<|Zq rfl (fun _ hS=>AX rfl AY ((Bx.cs (Bx.gr hb18 (hS.resolve_left nofun) (fun e=>(Ne.symm (Nat.ne_of_lt (Nat.lt_of_lt_of_le B5_i1.lt hg4))) (Option.some.inj e)))).at 0 rfl)) (Ext.gro (Ext.refl _))<|Zp rfl (fun _=>Ah rfl FV)<|Zq rfl (fun _ hS=>AX rfl AY ((Bx.cs (Bx.gr hb18 (hS.resolve_left nofun) (fun e=>(Ne.symm (Nat.ne_of_lt (Nat.lt_of_lt_of_le B5_i1.lt hg4))) (Option.some.inj e)))).at 1 rfl)) (Ext.gro (Ext.refl _))<|bS hB1 fun x7 Ex7 hB1=>?_;have hz:=JC (Bx.cs B7) Ex7;obtain⟨i10,i11,hc7⟩:=hz;refine Zp rfl (fun _=>Ia l5_i1 rfl Tryz.underlying238 AY i10 i11)<|D9 rfl<|ai (X:=y2) (v:=1) rfl rfl rfl AY B7 Ex7 fun w9 hch2 hb19=>?_;have gS1:=World.grownBy.tr (Ext.gro (Ext.refl _)) (Chg.gro hch2);have k17:=Ext.chg k14 hch2 (Nat.le_trans (Nat.le_refl _) hg2);have hb21:=Bx.chg B8 hch2 (Ne.symm (Nat.ne_of_lt (Nat.lt_of_lt_of_le hb4.lt hg3)));refine nl ⟨fun _ _=>gS1,?_⟩;refine bS hB1 fun x8 Ex8 hB1=>?_;have hz:=JC (Bx.cs hb21) Ex8;obtain⟨i12,i13,hc8⟩:=hz;refine Zp rfl (fun _=>Ia l6_i1 rfl Tryz.underlying238 AY i12 i13)<|D9 rfl<|ai (X:=y3) (v:=1) rfl rfl rfl AY hb21 Ex8 fun w10 hch3 hb22=>?_;have k19:=Ext.chg k17 hch3 (Nat.le_trans (Nat.le_refl _) (Nat.le_trans hx2.size hg3));have hb24:=Bx.chg hb19 hch3 (Nat.ne_of_lt (Nat.lt_of_lt_of_le hb4.lt hg3));refine nl ⟨fun h=>(h (by decide)).elim,?_⟩;refine rg<|Zv (BJ l12_i1 rfl)<|Zm<|nl<|lq m (Nat.lt_succ_self _)<|?_;exact⟨_,_,_,hB1,rfl,hb24,hb22,l2_i1,l5_i1,l6_i1,l10_i1,l11_i1,k19⟩
  ·have hB1:=Ai hB1 h3;refine wp_exit<|?_;cases hB1;refine lf<|?_;exact⟨rfl,K0_i1⟩
 rintro L w11⟨rfl,K0_j1⟩;have k20:=hx1.tr K0_j1;refine Zr<|Za<|nl<|?_;cases hF;exact wp_ret<|Zw rfl rfl rfl ⟨rfl,k20⟩
theorem lV{w0:World}{v0:Value}{x0:(List (Int×Int))}(r0:RV w0 v0 x0){v1:Value}{x1:(Int×Int)->Option Bool}(h1:FnB Tryz.prog (Int×Int) w0 v1 x1){F:Nat}{r:Int}(hF:DU F x0 x1=some r):
  Calls Tryz.prog 316 [v0,v1].toArray w0 (BV fun v w'=>v=.int .i64 r/\Ext w0 w'):=by
 unfold DU at hF;have hz:=r0.sl;obtain⟨a1,cq1,rfl,-,-,-⟩:=hz;refine BX (n:=19) Tryz.func316 rfl rfl rfl<|Zr<|Za<|nl<|wp_seq<|Zr<|Zm<|Zv (Bp rfl Tryz.underlying108)<|Zm<|nl<|bS hF fun o1 hB1 hF=>ct (fun L w=>o1=.inr ()/\Ext w0 w) ?_ ?_
 ·refine wp_block<|lp (I:=fun m L w=>∃y1:Int,BU F x0 x1 m y1=some o1/\L 8=.int .i64 y1/\L 0=.slice a1 x0.length cq1/\L 1=v1/\L 7=.int .i64 (x0.length:Int)/\Ext w0 w) F ⟨_,hB1,rfl,rfl,rfl,rfl,(Ext.refl _)⟩ ?_;rintro m L w1⟨y1,hB1,l8_i1,l0_i1,l1_i1,l7_i1,K0_i1⟩;rcases m with _|m
  ·rw[BU]at hB1;cases hB1
  rw[BU]at hB1;have h3:=h1.ext K0_i1;refine Zr<|Zv (BN l8_i1 l7_i1)<|nl<|wp_seq<|cnd rfl (fun h4=>?_) (fun h4=>?_)
  ·have hB1:=Ac hB1 h4;refine wp_skip<|wp_seq<|wp_block<|Zr<|Zm<|Za<|nl<|Zr<|Zm<|Zm<|Zm<|bS hB1 fun x3 Ex3 hB1=>?_;have hz:=(RV.els r0).ix Ex3;obtain⟨b3,f1,cs3,e1,i2,i3,q3,hc1⟩:=hz;cases e1;obtain⟨_,_,rfl,rfl,rfl⟩:=q3;have hc2:=hc1.ext K0_i1;refine Zv (Ao l0_i1 l8_i1 Tryz.underlying108 BR i2 i3)<|Zv (BO rfl BR rfl hc2)<|bS hB1 fun x4 Ex4 hB1=>?_;have hz:=id h3;obtain⟨g1,fs1,cs4,e2,hg1,hu1⟩:=hz;refine Zc (Lv (l1_i1.trans e2) hg1 (mc rfl mn) rfl) (hu1 _ _ _ _ (Ext.refl _) (show RV (α:=(Int×Int)) _ (.agg [.int .i64 x3.1,.int .i64 x3.2].toArray) (x3.1,x3.2)from⟨_,rfl,[.int .i64 x3.1],[.int .i64 x3.2],rfl,rfl,rfl⟩) Ex4) ?_;rintro _ w2⟨rfl,hx1⟩;have k1:=K0_i1.tr hx1;refine nl<|cnd rfl (fun h6=>?_) (fun h6=>?_)
   ·have hB1:=Ac hB1 h6;refine Zr<|Zm<|Za<|nl<|?_;cases hB1;have hF:=(show some _=some _ from hF);cases hF;exact wp_ret<|rt rfl (.tmp l8_i1 rfl .nil) ⟨rfl,k1⟩
   ·have hB1:=Ai hB1 h6;refine wp_skip<|rg<|Zv (BJ l8_i1 rfl)<|Zm<|nl<|lq m (Nat.lt_succ_self _)<|?_;exact⟨_,hB1,rfl,l0_i1,l1_i1,l7_i1,k1⟩
  ·have hB1:=Ai hB1 h4;refine wp_exit<|?_;cases hB1;refine lf<|?_;exact⟨rfl,K0_i1⟩
 rintro L w3⟨rfl,K0_j1⟩;refine Zr<|Za<|nl<|?_;cases hF;exact wp_ret<|Zw rfl rfl rfl ⟨rfl,K0_j1⟩
theorem lW{w0:World}{v0:Value}{x0:(List (Int×Int))}(r0:RV w0 v0 x0){v1:Value}{x1:(Int×Int)->Option Bool}(h1:FnB Tryz.prog (Int×Int) w0 v1 x1){F:Nat}{r:Bool}(hF:CO F x0 x1=some r):
  Calls Tryz.prog 244 [v0,v1].toArray w0 (BV fun v w'=>v=.bool r/\Ext w0 w'):=by
 unfold CO at hF;have hz:=r0.sl;obtain⟨a1,cq1,rfl,-,-,-⟩:=hz;refine BX (n:=9) Tryz.func244 rfl rfl rfl<|Zr<|Za<|nl<|Zr<|Zm<|Zm<|bS hF fun x3 Ex3 hF=>Zc (xc gZ (mc rfl (mc rfl mn))) (lV r0 h1 Ex3) ?_;rintro _ w1⟨rfl,hx1⟩;refine Zv (Kh rfl rfl)<|Za<|nl<|?_;cases hF;exact wp_ret<|Zw rfl rfl rfl ⟨rfl,hx1⟩
theorem lX{w0:World}{v0:Value}{x0:(Int×Int)}(r0:RV w0 v0 x0){b1:Nat}{cs1:List Value}{x1:(Int×Int×(List (Int×Int))×(List Int))}(h1:Cs w0 b1 0 cs1)(q1:Enc.rep (fun _=>True) w0 cs1 x1){F:Nat}{r:Bool}(hF:Fy F x0 x1=some r):
  Calls Tryz.prog 245 [v0,.pointer (some ⟨b1,0,none⟩)].toArray w0 (BV fun v w'=>v=.bool r/\Ext w0 w'):=by
 unfold Fy at hF;have hz:=id r0;obtain⟨_,rfl,_,_,rfl,rfl,rfl⟩:=hz;obtain⟨_,_,rfl,rfl,_,_,rfl,rfl,_,_,rfl,⟨a1,cq1,rfl,p1,q3,e1⟩,a2,cq2,rfl,p2,q4,e2⟩:=q1;refine BX (n:=22) Tryz.func245 rfl rfl rfl<|Zr<|FJ rfl rfl fun b3 w1 hx1 hg1 hb1=>?_;have h3:=h1.ext hx1;refine Za<|nl<|Zr<|Zv (Ah rfl Ib)<|Zv (AX rfl AY (h3.at 0 rfl))<|Zv (DX rfl rfl)<|Zv (Ah rfl FU)<|Zv (AX rfl AY ((Bx.cs hb1).at 0 rfl))<|JB (cs:=[.int .i64 x0.1]) Tryz.underlying41 AY rfl (pc rfl pn) rfl rfl rfl rfl rfl fun b4 w2 hx2 hg2 hb2=>?_;have k1:=hx1.tr hx2;have hb3:=hb1.ext hx2;have h4:=h3.ext hx2;have o1:Row (α:=Int) 3 w1.heap.size w2 (.slice (some ⟨b4,0,none⟩) 1 1) [x0.1]:=Row.lit hg2 hb2 rfl (ble rfl);refine bS hF fun x3 Ex3 hF=>Zc (xc Ql (mc rfl (mc rfl (mc rfl mn)))) (Vj o1.rv Ex3) ?_;rintro _ w3⟨rfl,hx3⟩;have k2:=k1.tr hx3;have hb4:=hb3.ext hx3;have h5:=h4.ext hx3;refine Zv (Ej rfl)<|Zm<|Zg rfl rfl (A9 rfl) (fun hc=>Ah rfl JX)<|Zg rfl rfl (A9 rfl) (fun hc=>AX (mv hc rfl) AY (h5.at 1 rfl))<|Zg rfl rfl (A9 rfl) (fun hc=>DX (mv hc rfl) rfl)<|Zg rfl rfl (A9 rfl) (fun hc=>Ah rfl FV)<|Zg rfl rfl (A9 rfl) (fun hc=>AX (mv hc rfl) AY ((Bx.cs hb4).at 1 rfl))<|gm (fun v w=>RV w v ([x0.2]:List Int)/\Ext w3 w) rfl rfl rfl rfl (A9 rfl) rfl (fun hc=>JB (cs:=[.int .i64 x0.2]) Tryz.underlying41 AY rfl (pc (mv hc rfl) pn) rfl rfl rfl rfl rfl fun b w' hx hg hb=>nl ⟨_,rfl,(Row.lit (base:=0) (l:=([x0.2]:List Int)) (Nat.zero_le _) hb rfl (ble rfl)).rv,hx⟩) (fun v3 w4 hy1 hn1=>?_);have hx4:Ext w3 w4:=gx (fun h=>(hy1 h).2) (fun h=>(hn1 h).2▸Ext.refl _);have k4:=k2.tr hx4;refine bS hF fun x4 Ex4 hF=>gc rfl rfl rfl rfl (A9 rfl) rfl (fun hc=>xc Ql (mc rfl (mc (mv hc rfl) (mc rfl mn)))) (fun hc=>(Vj ((hy1 hc).1) (NW Ex4 hc))) (fun v4 w5 hy2 hn2=>?_);have hx5:Ext w4 w5:=gx (fun h=>(hy2 h).2) (fun h=>(hn2 h).2▸Ext.refl _);have e3:=NY (fun h=>(hy2 h).1) (fun h=>(hn2 h).1);have k6:=k4.tr hx5;refine Zg rfl rfl (A9 rfl) (fun hc=>Ej (mv hc e3))<|Zv (F6 rfl rfl rfl)<|Za<|nl<|?_;cases hF;exact wp_ret<|Zw rfl rfl rfl ⟨rfl,k6⟩
theorem lY{w0:World}{v0:Value}{x0:(List (Int×Int))}(r0:RV w0 v0 x0){v1:Value}{x1:(Int×Int)}(r1:RV w0 v1 x1){F:Nat}{r:Int}(hF:D7 F x0 x1=some r):
  Calls Tryz.prog 317 [v0,v1].toArray w0 (BV fun v w'=>v=.int .i64 r/\Ext w0 w'):=by
 unfold D7 at hF;have hz:=r0.sl;obtain⟨a1,cq1,rfl,-,-,-⟩:=hz;have hz:=id r1;obtain⟨_,rfl,_,_,rfl,rfl,rfl⟩:=hz;refine BX (n:=19) Tryz.func317 rfl rfl rfl<|Zr<|FJ rfl rfl fun b3 w1 hx1 hg1 hb1=>Za<|nl<|wp_seq<|Zr<|Zm<|Zv (Bp rfl Tryz.underlying108)<|Zm<|nl<|bS hF fun o1 hB1 hF=>ct (fun L w=>o1=.inr ()/\Ext w1 w) ?_ ?_
 ·refine wp_block<|lp (I:=fun m L w=>∃y1:Int,Bn F x0 x1 m y1=some o1/\L 8=.int .i64 y1/\L 0=.slice a1 x0.length cq1/\L 3=.pointer (some ⟨b3,0,none⟩)/\L 7=.int .i64 (x0.length:Int)/\Ext w1 w) F ⟨_,hB1,rfl,rfl,rfl,rfl,(Ext.refl _)⟩ ?_;rintro m L w2⟨y1,hB1,l8_i1,l0_i1,l3_i1,l7_i1,K0_i1⟩;rcases m with _|m
  ·rw[Bn]at hB1;cases hB1
  rw[Bn]at hB1;have k1:=hx1.tr K0_i1;have hb2:=hb1.ext K0_i1;refine Zr<|Zv (BN l8_i1 l7_i1)<|nl<|wp_seq<|cnd rfl (fun h3=>?_) (fun h3=>?_)
  ·have hB1:=Ac hB1 h3;refine wp_skip<|wp_seq<|wp_block<|Zr<|Zm<|Za<|nl<|wp_seq<|FZ [] (.pure false 0 (.pure true 1 (.pure true 2 (.pure true 3 (.pure false 4 (.pure true 5 .fin)))))) mixed (by kernel_rfl) (fun w3 hx2=>?_);have k2:=k1.tr hx2;have k3:=K0_i1.tr hx2;have hb3:=hb2.ext hx2;refine Zq rfl (fun _ hS=>BO l3_i1 BR rfl (Bx.cs (hb3.ext (hS.resolve_left nofun)))) (Ext.refl _)<|Zn rfl<|Zn rfl<|bS hB1 fun x3 Ex3 hB1=>?_;have hz:=(RV.els r0).ix Ex3;obtain⟨b4,f1,cs3,e1,i2,i3,q3,hc1⟩:=hz;cases e1;obtain⟨_,_,rfl,rfl,rfl⟩:=q3;have hc2:=hc1.ext k2;refine Zp rfl (fun _=>Ao l0_i1 l8_i1 Tryz.underlying108 BR i2 i3)<|Zq rfl (fun _ hS=>BO rfl BR rfl (hc2.ext (hS.resolve_left nofun))) (Ext.refl _)<|Zp rfl (fun _=>Xl (α:=(Int×Int)) (a:=(x1.1,x1.2)) (b:=(x3.1,x3.2)) rfl Y6 Y5 rfl rfl rfl rfl rfl)<|cnd rfl (fun h4=>?_) (fun h4=>?_)
   ·have hB1:=Ac hB1 h4;refine Zr<|Zm<|Za<|nl<|?_;cases hB1;have hF:=(show some _=some _ from hF);cases hF;exact wp_ret<|rt rfl (.tmp l8_i1 rfl .nil) ⟨rfl,k2⟩
   ·have hB1:=Ai hB1 h4;refine wp_skip<|rg<|Zv (BJ l8_i1 rfl)<|Zm<|nl<|lq m (Nat.lt_succ_self _)<|?_;exact⟨_,hB1,rfl,l0_i1,l3_i1,l7_i1,k3⟩
  ·have hB1:=Ai hB1 h3;refine wp_exit<|?_;cases hB1;refine lf<|?_;exact⟨rfl,K0_i1⟩
 rintro L w4⟨rfl,K0_j1⟩;have k4:=hx1.tr K0_j1;refine Zr<|Za<|nl<|?_;cases hF;exact wp_ret<|Zw rfl rfl rfl ⟨rfl,k4⟩
theorem lZ{w0:World}{v0:Value}{x0:(List (Int×Int))}(r0:RV w0 v0 x0){v1:Value}{x1:(Int×Int)}(r1:RV w0 v1 x1){F:Nat}{r:Bool}(hF:Ck F x0 x1=some r):
  Calls Tryz.prog 246 [v0,v1].toArray w0 (BV fun v w'=>v=.bool r/\Ext w0 w'):=by
 unfold Ck at hF;have hz:=r0.sl;obtain⟨a1,cq1,rfl,-,-,-⟩:=hz;have hz:=id r1;obtain⟨_,rfl,_,_,rfl,rfl,rfl⟩:=hz;refine BX (n:=9) Tryz.func246 rfl rfl rfl<|Zr<|FJ rfl rfl fun b3 w1 hx1 hg1 hb1=>?_;have r3:=r0.ext hx1;refine Za<|nl<|Zr<|Zm<|Zv (BO rfl BR rfl (Bx.cs hb1))<|bS hF fun x3 Ex3 hF=>Zc (xc gq (mc rfl (mc rfl mn))) (lY r3 (show RV (α:=(Int×Int)) _ (.agg [.int .i64 x1.1,.int .i64 x1.2].toArray) (x1.1,x1.2)from⟨_,rfl,[.int .i64 x1.1],[.int .i64 x1.2],rfl,rfl,rfl⟩) Ex3) ?_;rintro _ w2⟨rfl,hx2⟩;have k1:=hx1.tr hx2;refine Zv (Kh rfl rfl)<|Za<|nl<|?_;cases hF;exact wp_ret<|Zw rfl rfl rfl ⟨rfl,k1⟩
theorem Vk{w0:World}{v0:Value}{x0:(Int×Int×(List (Int×Int))×(List Int))}(r0:RV w0 v0 x0){F:Nat}{r:Int}(hF:Dm F x0=some r):
  Calls Tryz.prog 138 [v0].toArray w0 (BV fun v w'=>v=.int .i64 r/\Ext w0 w'):=by
 unfold Dm at hF;have hz:=id r0;obtain⟨_,rfl,_,_,rfl,rfl,_,_,rfl,rfl,_,_,rfl,⟨a1,cq1,rfl,p1,q2,e1⟩,a2,cq2,rfl,p2,q3,e2⟩:=hz;have r2:=RV.of1 p1 q2 e1;have r3:=RV.of1 p2 q3 e2;refine BX (n:=52) Tryz.func138 rfl rfl rfl<|Zr<|FJ rfl rfl fun b2 w1 hx1 hg1 hb1=>?_;have r4:=r2.ext hx1;have r5:=r3.ext hx1;refine Za<|nl<|wp_seq<|wp_block<|Zr<|Zv (Ah rfl Ib)<|Zv (AX rfl AY ((Bx.cs hb1).at 0 rfl))<|Zv (Ah rfl JX)<|Zv (AX rfl AY ((Bx.cs hb1).at 1 rfl))<|JB (cs:=[.int .i64 x0.1,.int .i64 x0.2.1]) Tryz.underlying41 AY rfl (pc rfl (pc rfl pn)) rfl rfl rfl rfl rfl fun b3 w2 hx2 hg2 hb2=>?_;have k1:=hx1.tr hx2;have hb3:=hb1.ext hx2;have r7:=r4.ext hx2;have r8:=r5.ext hx2;have o1:Row (α:=Int) 3 w1.heap.size w2 (.slice (some ⟨b3,0,none⟩) 2 2) [x0.1,x0.2.1]:=Row.lit hg2 hb2 rfl (ble rfl);refine bS hF fun x2 Ex2 hF=>Zc (xc Ql (mc rfl (mc rfl (mc rfl mn)))) (Vj o1.rv Ex2) ?_;rintro _ w3⟨rfl,hx3⟩;have k2:=k1.tr hx3;have hb4:=hb3.ext hx3;have r10:=r7.ext hx3;have r11:=r8.ext hx3;refine Zv (Ej rfl)<|Za<|nl<|cnd rfl (fun h2=>?_) (fun h2=>?_)
 ·have hF:=Ac hF h2;refine Zr<|Za<|nl<|?_;cases hF;exact wp_ret<|Zw rfl rfl rfl ⟨rfl,k2⟩
 ·have hF:=Ai hF h2;refine Zr<|Zv (Ah rfl CP)<|Zv (AX rfl Dk ((Bx.cs hb4).at 2 rfl))<|Zv (Bp rfl Tryz.underlying108)<|Zv (EO rfl rfl)<|Za<|nl<|cnd rfl (fun h3=>?_) (fun h3=>?_)
  ·have hF:=Ac hF h3;refine Zr<|Za<|nl<|?_;cases hF;exact wp_ret<|Zw rfl rfl rfl ⟨rfl,k2⟩
  ·have hF:=Ai hF h3;refine Zr<|Zv (Ah rfl CP)<|Zv (AX rfl Dk ((Bx.cs hb4).at 2 rfl))<|Zv (Lx mn (mc rfl mn))<|bS hF fun x3 Ex3 hF=>Zc (xc gG (mc rfl (mc rfl mn))) (lW r10 ⟨245,[],[.pointer (some ⟨b2,0,none⟩)],rfl,gH,fun w' u x b hk hu hp=>lX hu (Bx.cs (hb4.ext hk)) ⟨[.int .i64 x0.1],[.int .i64 x0.2.1]++([.slice a1 x0.2.2.1.length cq1]++[.slice a2 x0.2.2.2.length cq2]),rfl,rfl,[.int .i64 x0.2.1],[.slice a1 x0.2.2.1.length cq1]++[.slice a2 x0.2.2.2.length cq2],rfl,rfl,[.slice a1 x0.2.2.1.length cq1],[.slice a2 x0.2.2.2.length cq2],rfl,(r10.ext hk).rep1,(r11.ext hk).rep1⟩ hp⟩ Ex3) ?_;rintro _ w4⟨rfl,hx4⟩;have k4:=k2.tr hx4;have hb5:=hb4.ext hx4;have r12:=r10.ext hx4;have r13:=r11.ext hx4;refine Za<|nl<|cnd rfl (fun h4=>?_) (fun h4=>?_)
   ·have hF:=Ac hF h4;refine Zr<|Za<|nl<|?_;cases hF;exact wp_ret<|Zw rfl rfl rfl ⟨rfl,k4⟩
   ·have hF:=Ai hF h4;refine wp_skip<|wp_seq<|Zr<|Zv (Ah rfl CP)<|Zv (AX rfl Dk ((Bx.cs hb5).at 2 rfl))<|Zv (Bp rfl Tryz.underlying108)<|Zm<|nl<|bS hF fun o2 hB1 hF=>ct (fun L w=>o2=.inr ()/\L 1=.pointer (some ⟨b2,0,none⟩)/\Ext w4 w) ?_ ?_
    ·refine wp_block<|lp (I:=fun m L w=>∃y1:Int,Db F x0 m y1=some o2/\L 26=.int .i64 y1/\L 1=.pointer (some ⟨b2,0,none⟩)/\L 24=.slice a1 x0.2.2.1.length cq1/\L 25=.int .i64 (x0.2.2.1.length:Int)/\Ext w4 w) F ⟨_,hB1,rfl,rfl,rfl,rfl,(Ext.refl _)⟩ ?_;rintro m L w5⟨y1,hB1,l26_i1,l1_i1,l24_i1,l25_i1,K0_i1⟩;rcases m with _|m
     ·rw[Db]at hB1;cases hB1
     rw[Db]at hB1;have k6:=k4.tr K0_i1;have hb6:=hb5.ext K0_i1;refine Zr<|Zv (BN l26_i1 l25_i1)<|nl<|wp_seq<|cnd rfl (fun h5=>?_) (fun h5=>?_)
     ·have hB1:=Ac hB1 h5;refine wp_skip<|wp_seq<|wp_block<|Zr<|Zm<|bS hB1 fun x4 Ex4 hB1=>?_;have hz:=(RV.els r2).ix Ex4;obtain⟨b4,f1,cs2,e3,i2,i3,q4,hc1⟩:=hz;cases e3;obtain⟨_,_,rfl,rfl,rfl⟩:=q4;have hc2:=hc1.ext k6;refine Zv (Ao l24_i1 l26_i1 Tryz.underlying108 BR i2 i3)<|Zv (BO rfl BR rfl hc2)<|FT BR fun b5 w6 hx5 hg3 hb7=>?_;have k8:=k6.tr hx5;have k10:=K0_i1.tr hx5;refine Za<|EW rfl rfl rfl BR hb7 rfl rfl (ble rfl) fun w7 hch1 hb9=>?_;have k11:=Ext.chg k8 hch1 (Nat.le_trans k6.size hg3);have k13:=Ext.chg k10 hch1 (Nat.le_trans K0_i1.size hg3);have k14:=Ext.chg hx5 hch1 (Nat.le_trans (Nat.le_refl _) hg3);have hb10:=hb6.ext k14;have hb11:Bx w7 b5 112 [.int .i64 x4.1,.int .i64 x4.2]:=hb9;refine nl<|wp_seq<|FZ [] (.pure true 0 (.pure false 1 (.pure true 2 (.pure true 3 (.pure false 4 (.eff 5 .fin .stop)))))) mixed (by kernel_rfl) (fun w8 hx6=>?_);have k15:=k11.tr hx6;have k17:=k13.tr hx6;have hb12:=hb10.ext hx6;have hb13:=hb11.ext hx6;refine Zp rfl (fun _=>Ah l1_i1 CP)<|Zq rfl (fun _ hS=>AX rfl Dk ((Bx.cs (hb12.ext (hS.resolve_left nofun))).at 2 rfl)) (Ext.refl _)<|Zn rfl<|bS hB1 fun x5 Ex5 hB1=>?_;have hz:=nP r2 Ex5 Tryz.underlying108 BR;obtain⟨a3,cq3,r22,hr1⟩:=hz;have r23:=r22.ext k15;refine Zp rfl (fun _=>hr1 _ _ _ _ _ _ _ _ _ _ rfl l26_i1)<|Zq rfl (fun _ hS=>BO rfl BR rfl (Bx.cs (hb13.ext (hS.resolve_left nofun)))) (Ext.refl _)<|bS hB1 fun x6 Ex6 hB1=>D9 rfl<|Zc (xc gI (mc rfl (mc rfl mn))) (lZ r23 (show RV (α:=(Int×Int)) _ (.agg [.int .i64 x4.1,.int .i64 x4.2].toArray) (x4.1,x4.2)from⟨_,rfl,[.int .i64 x4.1],[.int .i64 x4.2],rfl,rfl,rfl⟩) Ex6) ?_;rintro _ w9⟨rfl,hx7⟩;have k19:=k15.tr hx7;have k21:=k17.tr hx7;refine nl ⟨fun _ _=>hx7,?_⟩;refine cnd rfl (fun h6=>?_) (fun h6=>?_)
      ·have hB1:=Ac hB1 h6;refine Zr<|Za<|nl<|?_;cases hB1;have hF:=(show some _=some _ from hF);cases hF;exact wp_ret<|Zw rfl rfl rfl ⟨rfl,k19⟩
      ·have hB1:=Ai hB1 h6;refine wp_skip<|rg<|Zv (BJ l26_i1 rfl)<|Zm<|nl<|lq m (Nat.lt_succ_self _)<|?_;exact⟨_,hB1,rfl,l1_i1,l24_i1,l25_i1,k21⟩
     ·have hB1:=Ai hB1 h5;refine wp_exit<|?_;cases hB1;refine lf<|?_;exact⟨rfl,l1_i1,K0_i1⟩
    rintro L w10⟨rfl,l1_j1,K0_j1⟩;have k23:=k4.tr K0_j1;have r26:=r12.ext K0_j1;have r27:=r13.ext K0_j1;have hb15:=hb5.ext K0_j1;refine wp_seq<|Zr<|Zv (Ah l1_j1 Hw)<|Zv (AX rfl JD ((Bx.cs hb15).at 3 rfl))<|Zv (Ah l1_j1 CP)<|Zv (AX rfl Dk ((Bx.cs hb15).at 2 rfl))<|Zv (Bp rfl Tryz.underlying108)<|bS hF fun x7 Ex7 hF=>Zc (xc fZ (mc rfl (mc rfl mn))) (lS r27 Ex7) ?_;rintro _ w11⟨rfl,hx8⟩;have k25:=k23.tr hx8;have hb16:=hb15.ext hx8;have r28:=r26.ext hx8;have r29:=r27.ext hx8;refine Zv (Ej rfl)<|Zm<|Zg rfl rfl (A9 rfl) (fun hc=>BO l1_j1 EX rfl (Bx.cs hb16))<|Zg rfl rfl (A9 rfl) (fun hc=>Ah l1_j1 Hw)<|Zg rfl rfl (A9 rfl) (fun hc=>AX (mv hc rfl) JD ((Bx.cs hb16).at 3 rfl))<|bS hF fun x8 Ex8 hF=>gc rfl rfl rfl rfl (A9 rfl) rfl (fun hc=>xc fo (mc (mv hc rfl) (mc (mv hc rfl) mn))) (fun hc=>(lT (show RV (α:=(Int×Int×(List (Int×Int))×(List Int))) _ (.agg [.int .i64 x0.1,.int .i64 x0.2.1,.slice a1 x0.2.2.1.length cq1,.slice a2 x0.2.2.2.length cq2].toArray) (x0.1,x0.2.1,x0.2.2.1,x0.2.2.2)from⟨_,rfl,[.int .i64 x0.1],[.int .i64 x0.2.1]++([.slice a1 x0.2.2.1.length cq1]++[.slice a2 x0.2.2.2.length cq2]),rfl,rfl,[.int .i64 x0.2.1],[.slice a1 x0.2.2.1.length cq1]++[.slice a2 x0.2.2.2.length cq2],rfl,rfl,[.slice a1 x0.2.2.1.length cq1],[.slice a2 x0.2.2.2.length cq2],rfl,r28.rep1,r29.rep1⟩) r29 (NW Ex8 hc))) (fun v2 w12 hy1 hn1=>?_);have hx9:Ext w11 w12:=gx (fun h=>(hy1 h).2) (fun h=>(hn1 h).2▸Ext.refl _);have e4:=NY (fun h=>(hy1 h).1) (fun h=>(hn1 h).1);have k28:=k25.tr hx9;refine Zg rfl rfl (A9 rfl) (fun hc=>Ej (mv hc e4))<|Zv (F6 rfl rfl rfl)<|nl<|cnd rfl (fun h7=>?_) (fun h7=>?_)
    ·have hF:=Ac hF h7;refine Zr<|Za<|nl<|?_;cases hF;exact wp_ret<|Zw rfl rfl rfl ⟨rfl,k28⟩
    ·have hF:=Ai hF h7;refine wp_skip<|Zr<|Za<|nl<|?_;cases hF;exact wp_ret<|Zw rfl rfl rfl ⟨rfl,k28⟩
theorem lg{w0:World}{b0:Nat}{cs0:List Value}{x0:((Int×Int×(List (Int×Int))×(List Int))×(Ar 2 (Ar 12 Int))×(Ar 12 Int))}(h0:Cs w0 b0 0 cs0)(q0:Enc.rep (fun _=>True) w0 cs0 x0){x1:Int}{r:Bool}(hF:Hq x0 x1=some r):
  Calls Tryz.prog 141 [.pointer (some ⟨b0,0,none⟩),.int .i64 x1].toArray w0 (BV fun v w'=>v=.bool r/\Ext w0 w'):=by
 unfold Hq at hF;obtain⟨_,_,rfl,⟨_,_,rfl,rfl,_,_,rfl,rfl,_,_,rfl,⟨a1,cq1,rfl,p1,q3,e1⟩,a2,cq2,rfl,p2,q4,e2⟩,_,_,rfl,rfl,rfl⟩:=q0;have r3:=RV.of1 p1 q3 e1;refine BX (n:=32) Tryz.func141 rfl rfl rfl<|Zr<|Za<|nl<|Zr<|Zm<|Zv (FB rfl)<|Zv (Ah rfl Kv)<|Zv (Ah rfl CP)<|Zv (AX rfl Dk (h0.at 2 rfl))<|Zm<|bS hF fun x3 Ex3 hF=>?_;have hz:=(RV.els r3).ix Ex3;obtain⟨b3,f1,cs3,e3,i1,i2,q5,hc1⟩:=hz;cases e3;obtain⟨_,_,rfl,rfl,rfl⟩:=q5;refine Zv (Ao rfl rfl Tryz.underlying108 BR i1 i2)<|Zv (BO rfl BR rfl hc1)<|FT BR fun b4 w1 hx1 hg1 hb1=>EW rfl rfl rfl BR hb1 rfl rfl (ble rfl) fun w2 hch1 hb2=>?_;have k1:=Ext.chg hx1 hch1 (Nat.le_trans (Nat.le_refl _) hg1);have h4:=h0.ext k1;have hb3:Bx w2 b4 112 [.int .i64 x3.1,.int .i64 x3.2]:=hb2;refine nl<|wp_seq<|FZ [] (.pure true 0 (.pure true 1 (.pure false 2 (.pure true 3 (.pure true 4 (.pure true 5 (.pure true 6 (.pure false 7 (.pure true 8 (.pure true 9 (.pure false 10 (.pure true 11 (.pure true 12 (.pure true 13 (.pure true 14 (.pure false 15 (.pure true 16 (.pure true 17 (.pure true 18 .fin))))))))))))))))))) mixed (by kernel_rfl) (fun w3 hx2=>?_);have k2:=k1.tr hx2;have hb4:=hb3.ext hx2;have h5:=h4.ext hx2;refine Zn rfl<|Zp rfl (fun _=>Ah rfl FU)<|Zq rfl (fun _ hS=>AX rfl AY ((Bx.cs (hb4.ext (hS.resolve_left nofun))).at 0 rfl)) (Ext.refl _)<|Zp rfl (fun _=>FB rfl)<|Zp rfl (fun _=>Ah rfl Tm)<|?_;have hc2:Cs w3 b0 (0+4) (List.flatMap Flat.enc x0.2.1.l):=Cs.mid (l1:=[.int .i64 x0.1.1,.int .i64 x0.1.2.1,.slice (some ⟨b3,f1,none⟩) x0.1.2.2.1.length cq1,.slice a2 x0.1.2.2.2.length cq2]) (X:=x0.2.1) (l2:=List.flatMap Flat.enc x0.2.2.l) h5;refine bS hF fun x4 Ex4 hF=>?_;have hz:=JC hc2 Ex4;obtain⟨i3,i4,hc3⟩:=hz;refine Zp rfl (fun _=>Ia rfl rfl Tryz.underlying239 Hg i3 i4)<|bS hF fun x5 Ex5 hF=>?_;have hz:=JC hc3 Ex5;obtain⟨i5,i6,hc4⟩:=hz;refine Zp rfl (fun _=>Ia rfl rfl Tryz.underlying238 AY i5 i6)<|Zq rfl (fun _ hS=>AX rfl AY ((hc4.ext (hS.resolve_left nofun)).at 0 rfl)) (Ext.refl _)<|Zn rfl<|Zp rfl (fun _=>Ah rfl FV)<|Zq rfl (fun _ hS=>AX rfl AY ((Bx.cs (hb4.ext (hS.resolve_left nofun))).at 1 rfl)) (Ext.refl _)<|Zp rfl (fun _=>FB rfl)<|Zp rfl (fun _=>Ah rfl Tm)<|?_;have hc5:Cs w3 b0 (0+4) (List.flatMap Flat.enc x0.2.1.l):=Cs.mid (l1:=[.int .i64 x0.1.1,.int .i64 x0.1.2.1,.slice (some ⟨b3,f1,none⟩) x0.1.2.2.1.length cq1,.slice a2 x0.1.2.2.2.length cq2]) (X:=x0.2.1) (l2:=List.flatMap Flat.enc x0.2.2.l) h5;refine bS hF fun x6 Ex6 hF=>?_;have hz:=JC hc5 Ex6;obtain⟨i7,i8,hc6⟩:=hz;refine Zp rfl (fun _=>Ia rfl rfl Tryz.underlying239 Hg i7 i8)<|bS hF fun x7 Ex7 hF=>?_;have hz:=JC hc6 Ex7;obtain⟨i9,i10,hc7⟩:=hz;refine Zp rfl (fun _=>Ia rfl rfl Tryz.underlying238 AY i9 i10)<|Zq rfl (fun _ hS=>AX rfl AY ((hc7.ext (hS.resolve_left nofun)).at 0 rfl)) (Ext.refl _)<|Zp rfl (fun _=>BJ rfl rfl)<|Zp rfl (fun _=>HV rfl rfl)<|Zp rfl (fun _=>Li)<|?_;cases hF;exact wp_ret<|Zw rfl rfl rfl ⟨rfl,k2⟩
theorem nW{w0:World}{x0:Int}{x1:Int}{r:(Int×Int)}(hF:JP x0 x1=some r):
  Calls Tryz.prog 57 [.int .i64 x0,.int .i64 x1].toArray w0 (BV fun v w'=>∃u0:Value,v=u0/\RV w' u0 r/\Ext w0 w'):=by
 unfold JP at hF;refine BX (n:=8) Tryz.func57 rfl rfl rfl<|Zr<|FT BR fun b3 w1 hx1 hg1 hb1=>nl<|Zr<|Zm<|Zm<|Zv (Ki (r:=[.int .i64 x0,.int .i64 x1]) BR fC (pc rfl (pc rfl pn)) rfl)<|EW rfl rfl rfl BR hb1 rfl rfl (ble rfl) fun w2 hch1 hb2=>?_;have k1:=Ext.chg hx1 hch1 (Nat.le_trans (Nat.le_refl _) hg1);have hb3:Bx w2 b3 112 [.int .i64 x0,.int .i64 x1]:=hb2;refine nl<|?_;cases hF;exact wp_ret<|rt rfl (.cell rfl rfl BR rfl (Bx.cs hb3) .nil) ⟨_,rfl,(show RV (α:=(Int×Int)) _ (.agg [.int .i64 x0,.int .i64 x1].toArray) (x0,x1)from⟨_,rfl,[.int .i64 x0],[.int .i64 x1],rfl,rfl,rfl⟩),k1⟩
theorem lm{w0:World}{v0:Value}{x0:(List Int)}(r0:RV w0 v0 x0){x1:Int}{F:Nat}{r:Bool}(hF:IC F x0 x1=some r):
  Calls Tryz.prog 136 [v0,.int .i64 x1].toArray w0 (BV fun v w'=>v=.bool r/\Ext w0 w'):=by
 unfold IC at hF;have hz:=r0.sl;obtain⟨a1,cq1,rfl,-,-,-⟩:=hz;refine BX (n:=41) Tryz.func136 rfl rfl rfl<|Zr<|Za<|nl<|wp_seq<|Zr<|Za<|nl<|bS hF fun o1 hB1 hF=>ct (fun L w=>o1=.inr ()/\Ext w0 w) ?_ ?_
 ·refine wp_block<|lp (I:=fun m L w=>∃y1:Int,Fa F x0 x1 m y1=some o1/\L 5=.int .i64 y1/\L 0=.slice a1 x0.length cq1/\L 1=.int .i64 x1/\Ext w0 w) F ⟨_,hB1,rfl,rfl,rfl,(Ext.refl _)⟩ ?_;rintro m L w1⟨y1,hB1,l5_i1,l0_i1,l1_i1,K0_i1⟩;rcases m with _|m
  ·rw[Fa]at hB1;cases hB1
  rw[Fa]at hB1;refine wp_seq<|Zr<|Zm<|Zm<|Zv (Bp l0_i1 Tryz.underlying41)<|Zv (BN l5_i1 rfl)<|nl<|cnd rfl (fun h3=>?_) (fun h3=>?_)
  ·have hB1:=Ac hB1 h3;refine wp_skip<|wp_seq<|wp_block<|wp_seq<|bS hB1 fun y2 hB3 hB1=>ct (fun L w=>L 40=.bool y2/\L 0=.slice a1 x0.length cq1/\L 1=.int .i64 x1/\L 5=.int .i64 y1/\Ext w1 w) ?_ ?_
   ·refine FZ [] (.pure true 0 (.pure true 1 (.pure true 2 (.pure false 3 (.pure true 4 (.pure true 5 (.pure true 6 (.pure true 7 (.pure true 8 (.pure false 9 (.pure true 10 (.pure true 11 (.pure true 12 (.pure true 13 (.pure true 14 (.pure true 15 (.pure true 16 (.pure true 17 (.pure true 18 (.pure true 19 (.pure false 20 (.pure true 21 (.pure true 22 (.pure true 23 (.pure true 24 (.pure false 25 (.pure true 26 (.pure true 27 (.pure true 28 .fin))))))))))))))))))))))))))))) mixed (by kernel_rfl) (fun w3 hx2=>?_);have k2:=K0_i1.tr hx2;refine Zn rfl<|Zn rfl<|bS hB3 fun x4 Ex4 hB3=>?_;have hz:=(RV.els r0).ix Ex4;obtain⟨b4,f2,cs4,e2,i4,i5,q4,hc3⟩:=hz;cases e2;obtain rfl:=q4;have hc4:=hc3.ext k2;refine Zp rfl (fun _=>Ao l0_i1 l5_i1 Tryz.underlying41 AY i4 i5)<|Zq rfl (fun _ hS=>AX rfl AY ((hc4.ext (hS.resolve_left nofun)).at 0 rfl)) (Ext.refl _)<|Zp rfl (fun _=>BN rfl rfl)<|Zn rfl<|Or.elim (Bool.eq_false_or_eq_true (decide (x4<0))) (fun h4=>?_) (fun h4=>?_)
    ·have hB3:=Ac hB3 h4;refine Yf rfl (Bg h4)<|Yf rfl (Bg h4)<|Yf rfl (Bg h4)<|Yh rfl (Bg h4) (Ext.refl _)<|Yf rfl (Bg h4)<|Yf rfl (Bg h4)<|Zp rfl (fun _=>EJ rfl h4 rfl)<|Zn rfl<|Or.elim (Bool.eq_false_or_eq_true true) (fun h5=>?_) (fun h5=>?_)
     ·have hB3:=Ac hB3 h5;refine Yf rfl (Bg h5)<|Yf rfl (Bg h5)<|Yf rfl (Bg h5)<|Yf rfl bu<|Yf rfl bu<|Yf rfl bu<|Yh rfl bu (Ext.refl _)<|Yf rfl bu<|Yf rfl bu<|Yf rfl bu<|Yf rfl bu<|Yh rfl bu (Ext.refl _)<|Yf rfl bu<|Yf rfl (Bg h5)<|Zp rfl (fun _=>EJ rfl h5 rfl)<|?_;cases hB3;refine lf<|?_;exact⟨rfl,l0_i1,l1_i1,l5_i1,hx2⟩
     ·have hB3:=Ai hB3 h5;refine Yt rfl (bf h5) (fun _=>Bw)<|Yt rfl (bf h5) (fun _=>EO l5_i1 rfl)<|Yt rfl (bf h5) (fun _=>Bw)<|Or.elim (Bool.eq_false_or_eq_true (decide (0<y1))) (fun h6=>?_) (fun h6=>?_)
      ·have hB3:=Ac hB3 h6;refine Yt rfl (bt h6) (fun _=>Bw)<|Yt rfl (bt h6) (fun _=>Bw)<|bS hB3 fun x5 Ex5 hB3=>?_;have hz:=EA r0 Ex5;obtain⟨cs5,i6,i7,q5,hc5⟩:=hz;obtain rfl:=q5;have hc6:=hc5.ext k2;refine Yt rfl (bt h6) (fun _=>Ao l0_i1 l5_i1 Tryz.underlying41 AY i6 i7)<|Yi rfl (bt h6) (fun _ hS=>AX rfl AY ((hc6.ext (hS.resolve_left nofun)).at 0 rfl)) (Ext.refl _)<|Yt rfl (bt h6) (fun _=>Bw)<|Yt rfl (bt h6) (fun _=>Bw)<|Yt rfl (bt h6) (fun _=>DX l5_i1 rfl)<|bS hB3 fun x6 Ex6 hB3=>?_;have hz:=EA r0 Ex6;obtain⟨cs6,i8,i9,q6,hc7⟩:=hz;obtain rfl:=q6;have hc8:=hc7.ext k2;refine Yt rfl (bt h6) (fun _=>Ao l0_i1 rfl Tryz.underlying41 AY i8 i9)<|Yi rfl (bt h6) (fun _ hS=>AX rfl AY ((hc8.ext (hS.resolve_left nofun)).at 0 rfl)) (Ext.refl _)<|Yt rfl (bt h6) (fun _=>IZ rfl rfl)<|Yt rfl (bf h5) (fun _=>EJ rfl h6 rfl)<|Zp rfl (fun _=>Eb rfl h5 rfl)<|?_;cases hB3;refine lf<|?_;exact⟨rfl,l0_i1,l1_i1,l5_i1,hx2⟩
      ·have hB3:=Ai hB3 h6;refine Yf rfl (Ak h6)<|Yf rfl (Ak h6)<|Yf rfl (Ak h6)<|Yh rfl (Ak h6) (Ext.refl _)<|Yf rfl (Ak h6)<|Yf rfl (Ak h6)<|Yf rfl (Ak h6)<|Yf rfl (Ak h6)<|Yh rfl (Ak h6) (Ext.refl _)<|Yf rfl (Ak h6)<|Yt rfl (bf h5) (fun _=>Eb rfl h6 rfl)<|Zp rfl (fun _=>Eb rfl h5 rfl)<|?_;cases hB3;refine lf<|?_;exact⟨rfl,l0_i1,l1_i1,l5_i1,hx2⟩
    ·have hB3:=Ai hB3 h4;refine Yt rfl (bf h4) (fun _=>Bw)<|Yt rfl (bf h4) (fun _=>Bw)<|bS hB3 fun x7 Ex7 hB3=>?_;have hz:=EA r0 Ex7;obtain⟨cs7,i10,i11,q7,hc9⟩:=hz;obtain rfl:=q7;have hc10:=hc9.ext k2;refine Yt rfl (bf h4) (fun _=>Ao l0_i1 l5_i1 Tryz.underlying41 AY i10 i11)<|Yi rfl (bf h4) (fun _ hS=>AX rfl AY ((hc10.ext (hS.resolve_left nofun)).at 0 rfl)) (Ext.refl _)<|Yt rfl (bf h4) (fun _=>Bw)<|Yt rfl (bf h4) (fun _=>Kh rfl l1_i1)<|Zp rfl (fun _=>Eb rfl h4 rfl)<|Zn rfl<|Or.elim (Bool.eq_false_or_eq_true (decide (x1<=x7))) (fun h7=>?_) (fun h7=>?_)
     ·have hB3:=Ac hB3 h7;refine Yf rfl (Bg h7)<|Yf rfl (Bg h7)<|Yf rfl (Bg h7)<|Yf rfl bu<|Yf rfl bu<|Yf rfl bu<|Yh rfl bu (Ext.refl _)<|Yf rfl bu<|Yf rfl bu<|Yf rfl bu<|Yf rfl bu<|Yh rfl bu (Ext.refl _)<|Yf rfl bu<|Yf rfl (Bg h7)<|Zp rfl (fun _=>EJ rfl h7 rfl)<|?_;cases hB3;refine lf<|?_;exact⟨rfl,l0_i1,l1_i1,l5_i1,hx2⟩
     ·have hB3:=Ai hB3 h7;refine Yt rfl (bf h7) (fun _=>Bw)<|Yt rfl (bf h7) (fun _=>EO l5_i1 rfl)<|Yt rfl (bf h7) (fun _=>Bw)<|Or.elim (Bool.eq_false_or_eq_true (decide (0<y1))) (fun h8=>?_) (fun h8=>?_)
      ·have hB3:=Ac hB3 h8;refine Yt rfl (bt h8) (fun _=>Bw)<|Yt rfl (bt h8) (fun _=>Bw)<|bS hB3 fun x8 Ex8 hB3=>?_;have hz:=EA r0 Ex8;obtain⟨cs8,i12,i13,q8,hc11⟩:=hz;obtain rfl:=q8;have hc12:=hc11.ext k2;refine Yt rfl (bt h8) (fun _=>Ao l0_i1 l5_i1 Tryz.underlying41 AY i12 i13)<|Yi rfl (bt h8) (fun _ hS=>AX rfl AY ((hc12.ext (hS.resolve_left nofun)).at 0 rfl)) (Ext.refl _)<|Yt rfl (bt h8) (fun _=>Bw)<|Yt rfl (bt h8) (fun _=>Bw)<|Yt rfl (bt h8) (fun _=>DX l5_i1 rfl)<|bS hB3 fun x9 Ex9 hB3=>?_;have hz:=EA r0 Ex9;obtain⟨cs9,i14,i15,q9,hc13⟩:=hz;obtain rfl:=q9;have hc14:=hc13.ext k2;refine Yt rfl (bt h8) (fun _=>Ao l0_i1 rfl Tryz.underlying41 AY i14 i15)<|Yi rfl (bt h8) (fun _ hS=>AX rfl AY ((hc14.ext (hS.resolve_left nofun)).at 0 rfl)) (Ext.refl _)<|Yt rfl (bt h8) (fun _=>IZ rfl rfl)<|Yt rfl (bf h7) (fun _=>EJ rfl h8 rfl)<|Zp rfl (fun _=>Eb rfl h7 rfl)<|?_;cases hB3;refine lf<|?_;exact⟨rfl,l0_i1,l1_i1,l5_i1,hx2⟩
      ·have hB3:=Ai hB3 h8;refine Yf rfl (Ak h8)<|Yf rfl (Ak h8)<|Yf rfl (Ak h8)<|Yh rfl (Ak h8) (Ext.refl _)<|Yf rfl (Ak h8)<|Yf rfl (Ak h8)<|Yf rfl (Ak h8)<|Yf rfl (Ak h8)<|Yh rfl (Ak h8) (Ext.refl _)<|Yf rfl (Ak h8)<|Yt rfl (bf h7) (fun _=>Eb rfl h8 rfl)<|Zp rfl (fun _=>Eb rfl h7 rfl)<|?_;cases hB3;refine lf<|?_;exact⟨rfl,l0_i1,l1_i1,l5_i1,hx2⟩
   rintro L w4⟨l40_j1,l0_j1,l1_j1,l5_j1,K0_j1⟩;have k3:=K0_i1.tr K0_j1;refine cnd l40_j1 (fun h9=>?_) (fun h9=>?_)
   ·have hB1:=Ac hB1 h9;refine Zr<|Za<|nl<|?_;cases hB1;have hF:=(show some _=some _ from hF);cases hF;exact wp_ret<|Zw rfl rfl rfl ⟨rfl,k3⟩
   ·have hB1:=Ai hB1 h9;refine wp_skip<|rg<|Zm<|Zv (BJ l5_j1 rfl)<|Za<|nl<|lq m (Nat.lt_succ_self _)<|?_;exact⟨_,hB1,rfl,l0_j1,l1_j1,k3⟩
  ·have hB1:=Ai hB1 h3;refine wp_exit<|?_;cases hB1;refine lf<|?_;exact⟨rfl,K0_i1⟩
 rintro L w5⟨rfl,K0_j2⟩;refine Zr<|Za<|nl<|?_;cases hF;exact wp_ret<|Zw rfl rfl rfl ⟨rfl,K0_j2⟩
theorem mD{w0:World}{v0:Value}{x0:(Int×Int)}(r0:RV w0 v0 x0){v1:Value}{x1:(Int×Int)}(r1:RV w0 v1 x1){r:Bool}(hF:LP x0 x1=some r):
  Calls Tryz.prog 242 [v0,v1].toArray w0 (BV fun v w'=>v=.bool r/\Ext w0 w'):=by
 unfold LP at hF;have hz:=id r0;obtain⟨_,rfl,_,_,rfl,rfl,rfl⟩:=hz;have hz:=id r1;obtain⟨_,rfl,_,_,rfl,rfl,rfl⟩:=hz;refine BX (n:=17) Tryz.func242 rfl rfl rfl<|Zr<|FJ rfl rfl fun b3 w1 hx1 hg1 hb1=>FJ rfl rfl fun b4 w2 hx2 hg2 hb2=>?_;have k1:=hx1.tr hx2;have hb3:=hb1.ext hx2;refine Za<|nl<|Zr<|Zv (Ah rfl FU)<|Zv (AX rfl AY ((Bx.cs hb3).at 0 rfl))<|Zv (Ah rfl FU)<|Zv (AX rfl AY ((Bx.cs hb2).at 0 rfl))<|Zv (HV rfl rfl)<|Zm<|Zg rfl rfl (A9 rfl) (fun hc=>Ah rfl FV)<|Zg rfl rfl (A9 rfl) (fun hc=>AX (mv hc rfl) AY ((Bx.cs hb3).at 1 rfl))<|Zg rfl rfl (A9 rfl) (fun hc=>Ah rfl FV)<|Zg rfl rfl (A9 rfl) (fun hc=>AX (mv hc rfl) AY ((Bx.cs hb2).at 1 rfl))<|Zg rfl rfl (A9 rfl) (fun hc=>HV (mv hc rfl) (mv hc rfl))<|Zv (F6 rfl rfl rfl)<|Za<|nl<|?_;cases hF;exact wp_ret<|Zw rfl rfl rfl ⟨rfl,k1⟩
theorem mE{w0:World}{v0:Value}{x0:(Int×Int×(List (Int×Int))×(List Int))}(r0:RV w0 v0 x0){v1:Value}{x1:(List Int)}(r1:RV w0 v1 x1){F:Nat}{r:Bool}(hF:IE F x0 x1=some r):
  Calls Tryz.prog 137 [v0,v1].toArray w0 (BV fun v w'=>v=.bool r/\Ext w0 w'):=by
 unfold IE at hF;have hz:=id r0;obtain⟨_,rfl,_,_,rfl,rfl,_,_,rfl,rfl,_,_,rfl,⟨a1,cq1,rfl,p1,q3,e1⟩,a2,cq2,rfl,p2,q4,e2⟩:=hz;have r3:=RV.of1 p1 q3 e1;have hz:=r1.sl;obtain⟨a3,cq3,rfl,-,-,-⟩:=hz;refine BX (n:=35) Tryz.func137 rfl rfl rfl<|Zr<|FJ rfl rfl fun b3 w1 hx1 hg1 hb1=>Za<|nl<|wp_seq<|Zr<|Za<|nl<|bS hF fun o1 hB1 hF=>ct (fun L w=>o1=.inr ()/\Ext w1 w) ?_ ?_
 ·refine wp_block<|lp (I:=fun m L w=>∃y1:Int,Fe F x0 x1 m y1=some o1/\L 5=.int .i64 y1/\L 1=.slice a3 x1.length cq3/\L 2=.pointer (some ⟨b3,0,none⟩)/\Ext w1 w) F ⟨_,hB1,rfl,rfl,rfl,(Ext.refl _)⟩ ?_;rintro m L w2⟨y1,hB1,l5_i1,l1_i1,l2_i1,K0_i1⟩;rcases m with _|m
  ·rw[Fe]at hB1;cases hB1
  rw[Fe]at hB1;have k1:=hx1.tr K0_i1;have hb2:=hb1.ext K0_i1;refine wp_seq<|Zr<|Zm<|Zm<|Zv (Bp l1_i1 Tryz.underlying41)<|Zv (BN l5_i1 rfl)<|nl<|cnd rfl (fun h3=>?_) (fun h3=>?_)
  ·have hB1:=Ac hB1 h3;refine wp_skip<|wp_seq<|wp_block<|Zr<|Za<|nl<|bS hB1 fun o2 hB3 hB1=>ct (fun L w=>o2=.inr ()/\L 1=.slice a3 x1.length cq3/\L 2=.pointer (some ⟨b3,0,none⟩)/\L 5=.int .i64 y1/\Ext w2 w) ?_ ?_
   ·refine wp_block<|lp (I:=fun m L w=>∃y2:Int,Fb F x0 x1 y1 m y2=some o2/\L 6=.int .i64 y2/\L 1=.slice a3 x1.length cq3/\L 2=.pointer (some ⟨b3,0,none⟩)/\L 5=.int .i64 y1/\Ext w2 w) F ⟨_,hB3,rfl,l1_i1,l2_i1,l5_i1,(Ext.refl _)⟩ ?_;rintro m L w3⟨y2,hB3,l6_i2,l1_i2,l2_i2,l5_i2,K0_i2⟩;rcases m with _|m
    ·rw[Fb]at hB3;cases hB3
    rw[Fb]at hB3;have k2:=k1.tr K0_i2;have hb3:=hb2.ext K0_i2;refine wp_seq<|Zr<|Zm<|Zm<|Zv (BN l6_i2 l5_i2)<|nl<|cnd rfl (fun h4=>?_) (fun h4=>?_)
    ·have hB3:=Ac hB3 h4;refine wp_skip<|wp_seq<|wp_block<|wp_seq<|FZ [] (.pure true 0 (.pure false 1 (.pure true 2 (.pure true 3 (.pure true 4 (.pure false 5 (.pure true 6 (.pure false 7 (.pure true 8 (.pure false 9 (.pure true 10 (.pure true 11 (.pure true 12 (.pure false 13 (.pure true 14 (.pure false 15 (.eff 16 .fin .stop))))))))))))))))) mixed (by kernel_rfl) (fun w4 hx2=>?_);have k4:=k2.tr hx2;have k6:=K0_i2.tr hx2;have hb4:=hb3.ext hx2;refine Zp rfl (fun _=>Ah l2_i2 CP)<|Zq rfl (fun _ hS=>AX rfl Dk ((Bx.cs (hb4.ext (hS.resolve_left nofun))).at 2 rfl)) (Ext.refl _)<|Zn rfl<|Zn rfl<|bS hB3 fun x3 Ex3 hB3=>?_;have hz:=(RV.els r1).ix Ex3;obtain⟨b4,f1,cs3,e3,i3,i4,q5,hc1⟩:=hz;cases e3;obtain rfl:=q5;have hc2:=hc1.ext k4;refine Zp rfl (fun _=>Ao l1_i2 l5_i2 Tryz.underlying41 AY i3 i4)<|Zq rfl (fun _ hS=>AX rfl AY ((hc2.ext (hS.resolve_left nofun)).at 0 rfl)) (Ext.refl _)<|bS hB3 fun x4 Ex4 hB3=>?_;have hz:=(RV.els r3).ix Ex4;obtain⟨b5,f2,cs4,e4,i5,i6,q6,hc3⟩:=hz;cases e4;obtain⟨_,_,rfl,rfl,rfl⟩:=q6;have hc4:=hc3.ext k4;refine Zp rfl (fun _=>Ao rfl rfl Tryz.underlying108 BR i5 i6)<|Zq rfl (fun _ hS=>BO rfl BR rfl (hc4.ext (hS.resolve_left nofun))) (Ext.refl _)<|Zp rfl (fun _=>Ah l2_i2 CP)<|Zq rfl (fun _ hS=>AX rfl Dk ((Bx.cs (hb4.ext (hS.resolve_left nofun))).at 2 rfl)) (Ext.refl _)<|Zn rfl<|Zn rfl<|bS hB3 fun x5 Ex5 hB3=>?_;have hz:=EA r1 Ex5;obtain⟨cs5,i7,i8,q7,hc5⟩:=hz;obtain rfl:=q7;have hc6:=hc5.ext k4;refine Zp rfl (fun _=>Ao l1_i2 l6_i2 Tryz.underlying41 AY i7 i8)<|Zq rfl (fun _ hS=>AX rfl AY ((hc6.ext (hS.resolve_left nofun)).at 0 rfl)) (Ext.refl _)<|bS hB3 fun x6 Ex6 hB3=>?_;have hz:=EA r3 Ex6;obtain⟨cs6,i9,i10,q8,hc7⟩:=hz;obtain⟨_,_,rfl,rfl,rfl⟩:=q8;have hc8:=hc7.ext k4;refine Zp rfl (fun _=>Ao rfl rfl Tryz.underlying108 BR i9 i10)<|Zq rfl (fun _ hS=>BO rfl BR rfl (hc8.ext (hS.resolve_left nofun))) (Ext.refl _)<|bS hB3 fun x7 Ex7 hB3=>D9 rfl<|Zc (xc gF (mc rfl (mc rfl mn))) (mD (show RV (α:=(Int×Int)) _ (.agg [.int .i64 x4.1,.int .i64 x4.2].toArray) (x4.1,x4.2)from⟨_,rfl,[.int .i64 x4.1],[.int .i64 x4.2],rfl,rfl,rfl⟩) (show RV (α:=(Int×Int)) _ (.agg [.int .i64 x6.1,.int .i64 x6.2].toArray) (x6.1,x6.2)from⟨_,rfl,[.int .i64 x6.1],[.int .i64 x6.2],rfl,rfl,rfl⟩) Ex7) ?_;rintro _ w5⟨rfl,hx3⟩;have k7:=k4.tr hx3;have k9:=k6.tr hx3;refine nl ⟨fun _ _=>hx3,?_⟩;refine cnd rfl (fun h5=>?_) (fun h5=>?_)
     ·have hB3:=Ac hB3 h5;refine Zr<|Za<|nl<|?_;cases hB3;have hB1:=(show some _=some _ from hB1);cases hB1;have hF:=(show some _=some _ from hF);cases hF;exact wp_ret<|Zw rfl rfl rfl ⟨rfl,k7⟩
     ·have hB3:=Ai hB3 h5;refine wp_skip<|rg<|Zm<|Zv (BJ l6_i2 rfl)<|Za<|nl<|lq m (Nat.lt_succ_self _)<|?_;exact⟨_,hB3,rfl,l1_i2,l2_i2,l5_i2,k9⟩
    ·have hB3:=Ai hB3 h4;refine wp_exit<|?_;cases hB3;refine lf<|?_;exact⟨rfl,l1_i2,l2_i2,l5_i2,K0_i2⟩
   rintro L w6⟨rfl,l1_j1,l2_j1,l5_j1,K0_j1⟩;have k11:=K0_i1.tr K0_j1;refine rg<|Zm<|Zv (BJ l5_j1 rfl)<|Za<|nl<|lq m (Nat.lt_succ_self _)<|?_;exact⟨_,hB1,rfl,l1_j1,l2_j1,k11⟩
  ·have hB1:=Ai hB1 h3;refine wp_exit<|?_;cases hB1;refine lf<|?_;exact⟨rfl,K0_i1⟩
 rintro L w7⟨rfl,K0_j2⟩;have k12:=hx1.tr K0_j2;refine Zr<|Za<|nl<|?_;cases hF;exact wp_ret<|Zw rfl rfl rfl ⟨rfl,k12⟩
theorem nX{w0:World}{v0:Value}{x0:(Int×Int×(List (Int×Int))×(List Int))}(r0:RV w0 v0 x0){F:Nat}{r:Int}(hF:FN F x0=some r):
  Calls Tryz.prog 58 [v0].toArray w0 (BV fun v w'=>v=.int .i64 r/\Ext w0 w'):=by
 unfold FN at hF;have hz:=id r0;obtain⟨_,rfl,_,_,rfl,rfl,_,_,rfl,rfl,_,_,rfl,⟨a1,cq1,rfl,p1,q2,e1⟩,a2,cq2,rfl,p2,q3,e2⟩:=hz;have r2:=RV.of1 p1 q2 e1;have r3:=RV.of1 p2 q3 e2;refine BX (n:=100) Tryz.func58 rfl rfl rfl<|Zr<|FJ rfl rfl fun b2 w1 hx1 hg1 hb1=>?_;have r4:=r2.ext hx1;have r5:=r3.ext hx1;refine Za<|nl<|wp_seq<|Zr<|Zv (Ah rfl Ib)<|Zv (AX rfl AY ((Bx.cs hb1).at 0 rfl))<|Zv (BN rfl rfl)<|Zm<|Zg rfl rfl (A9 rfl) (fun hc=>Ah rfl Ib)<|Zg rfl rfl (A9 rfl) (fun hc=>AX (mv hc rfl) AY ((Bx.cs hb1).at 0 rfl))<|Zg rfl rfl (A9 rfl) (fun hc=>EO (mv hc rfl) rfl)<|Zv (F6 rfl rfl rfl)<|Zm<|Zg rfl rfl (A9 rfl) (fun hc=>Ah rfl JX)<|Zg rfl rfl (A9 rfl) (fun hc=>AX (mv hc rfl) AY ((Bx.cs hb1).at 1 rfl))<|Zg rfl rfl (A9 rfl) (fun hc=>BN (mv hc rfl) rfl)<|Zv (F6 rfl rfl rfl)<|Zm<|Zg rfl rfl (A9 rfl) (fun hc=>Ah rfl JX)<|Zg rfl rfl (A9 rfl) (fun hc=>AX (mv hc rfl) AY ((Bx.cs hb1).at 1 rfl))<|Zg rfl rfl (A9 rfl) (fun hc=>EO (mv hc rfl) rfl)<|Zv (F6 rfl rfl rfl)<|nl<|cnd rfl (fun h2=>?_) (fun h2=>?_)
 ·have hF:=Ac hF h2;refine Zr<|Za<|nl<|?_;cases hF;exact wp_ret<|Zw rfl rfl rfl ⟨rfl,hx1⟩
 ·have hF:=Ai hF h2;refine wp_skip<|wp_seq<|Zr<|Zv (Ah rfl CP)<|Zv (AX rfl Dk ((Bx.cs hb1).at 2 rfl))<|Zv (Bp rfl Tryz.underlying108)<|Zv (EO rfl rfl)<|nl<|cnd rfl (fun h3=>?_) (fun h3=>?_)
  ·have hF:=Ac hF h3;refine Zr<|Za<|nl<|?_;cases hF;exact wp_ret<|Zw rfl rfl rfl ⟨rfl,hx1⟩
  ·have hF:=Ai hF h3;refine wp_skip<|wp_seq<|Zr<|Za<|nl<|bS hF fun o1 hB1 hF=>ct (fun L w=>o1=.inr ()/\L 1=.pointer (some ⟨b2,0,none⟩)/\Ext w1 w) ?_ ?_
   ·refine wp_block<|lp (I:=fun m L w=>∃y1:Int,C9 F x0 m y1=some o1/\L 3=.int .i64 y1/\L 1=.pointer (some ⟨b2,0,none⟩)/\Ext w1 w) F ⟨_,hB1,rfl,rfl,(Ext.refl _)⟩ ?_;rintro m L w2⟨y1,hB1,l3_i1,l1_i1,K0_i1⟩;rcases m with _|m
    ·rw[C9]at hB1;cases hB1
    rw[C9]at hB1;have k1:=hx1.tr K0_i1;have hb2:=hb1.ext K0_i1;refine wp_seq<|Zr<|Zm<|Zv (Ah l1_i1 CP)<|Zv (AX rfl Dk ((Bx.cs hb2).at 2 rfl))<|Zv (Bp rfl Tryz.underlying108)<|Zv (BN l3_i1 rfl)<|nl<|cnd rfl (fun h4=>?_) (fun h4=>?_)
    ·have hB1:=Ac hB1 h4;refine wp_skip<|wp_seq<|wp_block<|Zr<|Zv (Ah l1_i1 CP)<|Zv (AX rfl Dk ((Bx.cs hb2).at 2 rfl))<|Zm<|bS hB1 fun x2 Ex2 hB1=>?_;have hz:=(RV.els r2).ix Ex2;obtain⟨b3,f1,cs2,e3,i2,i3,q4,hc1⟩:=hz;cases e3;obtain⟨_,_,rfl,rfl,rfl⟩:=q4;have hc2:=hc1.ext k1;refine Zv (Ao rfl l3_i1 Tryz.underlying108 BR i2 i3)<|Zv (BO rfl BR rfl hc2)<|FT BR fun b4 w3 hx2 hg2 hb3=>?_;have k2:=k1.tr hx2;have k3:=K0_i1.tr hx2;refine EW rfl rfl rfl BR hb3 rfl rfl (ble rfl) fun w4 hch1 hb5=>?_;have k4:=Ext.chg k2 hch1 (Nat.le_trans k1.size hg2);have k5:=Ext.chg k3 hch1 (Nat.le_trans K0_i1.size hg2);have k6:=Ext.chg hx2 hch1 (Nat.le_trans (Nat.le_refl _) hg2);have hb6:=hb2.ext k6;have hb7:Bx w4 b4 112 [.int .i64 x2.1,.int .i64 x2.2]:=hb5;refine nl<|Zr<|Zv (Ah rfl FU)<|Zv (AX rfl AY ((Bx.cs hb7).at 0 rfl))<|Zv (BN rfl rfl)<|Zm<|Zg rfl rfl (A9 rfl) (fun hc=>Ah rfl FU)<|Zg rfl rfl (A9 rfl) (fun hc=>AX (mv hc rfl) AY ((Bx.cs hb7).at 0 rfl))<|Zg rfl rfl (A9 rfl) (fun hc=>Ah l1_i1 Ib)<|Zg rfl rfl (A9 rfl) (fun hc=>AX (mv hc rfl) AY ((Bx.cs hb6).at 0 rfl))<|Zg rfl rfl (A9 rfl) (fun hc=>Kh (mv hc rfl) (mv hc rfl))<|Zv (F6 rfl rfl rfl)<|Zm<|Zg rfl rfl (A9 rfl) (fun hc=>Ah rfl FV)<|Zg rfl rfl (A9 rfl) (fun hc=>AX (mv hc rfl) AY ((Bx.cs hb7).at 1 rfl))<|Zg rfl rfl (A9 rfl) (fun hc=>BN (mv hc rfl) rfl)<|Zv (F6 rfl rfl rfl)<|Zm<|Zg rfl rfl (A9 rfl) (fun hc=>Ah rfl FV)<|Zg rfl rfl (A9 rfl) (fun hc=>AX (mv hc rfl) AY ((Bx.cs hb7).at 1 rfl))<|Zg rfl rfl (A9 rfl) (fun hc=>Ah l1_i1 JX)<|Zg rfl rfl (A9 rfl) (fun hc=>AX (mv hc rfl) AY ((Bx.cs hb6).at 1 rfl))<|Zg rfl rfl (A9 rfl) (fun hc=>Kh (mv hc rfl) (mv hc rfl))<|Zv (F6 rfl rfl rfl)<|nl<|cnd rfl (fun h5=>?_) (fun h5=>?_)
     ·have hB1:=Ac hB1 h5;refine Zr<|Za<|nl<|?_;cases hB1;have hF:=(show some _=some _ from hF);cases hF;exact wp_ret<|Zw rfl rfl rfl ⟨rfl,k4⟩
     ·have hB1:=Ai hB1 h5;refine wp_skip<|rg<|Zm<|Zv (BJ l3_i1 rfl)<|Za<|nl<|lq m (Nat.lt_succ_self _)<|?_;exact⟨_,hB1,rfl,l1_i1,k5⟩
    ·have hB1:=Ai hB1 h4;refine wp_exit<|?_;cases hB1;refine lf<|?_;exact⟨rfl,l1_i1,K0_i1⟩
   rintro L w5⟨rfl,l1_j1,K0_j1⟩;have k7:=hx1.tr K0_j1;have r13:=r4.ext K0_j1;have r14:=r5.ext K0_j1;have hb8:=hb1.ext K0_j1;refine wp_seq<|Zr<|Za<|nl<|bS hF fun o2 hB6 hF=>ct (fun L w=>o2=.inr ()/\L 1=.pointer (some ⟨b2,0,none⟩)/\Ext w5 w) ?_ ?_
   ·refine wp_block<|lp (I:=fun m L w=>∃y2:Int,DF F x0 m y2=some o2/\L 5=.int .i64 y2/\L 1=.pointer (some ⟨b2,0,none⟩)/\Ext w5 w) F ⟨_,hB6,rfl,l1_j1,(Ext.refl _)⟩ ?_;rintro m L w6⟨y2,hB6,l5_i4,l1_i4,K0_i4⟩;rcases m with _|m
    ·rw[DF]at hB6;cases hB6
    rw[DF]at hB6;have k8:=k7.tr K0_i4;have hb9:=hb8.ext K0_i4;refine wp_seq<|Zr<|Zm<|Zv (Ah l1_i4 CP)<|Zv (AX rfl Dk ((Bx.cs hb9).at 2 rfl))<|Zv (Bp rfl Tryz.underlying108)<|Zv (BN l5_i4 rfl)<|nl<|cnd rfl (fun h6=>?_) (fun h6=>?_)
    ·have hB6:=Ac hB6 h6;refine wp_skip<|wp_seq<|wp_block<|Zr<|Za<|nl<|bS hB6 fun o3 hB8 hB6=>ct (fun L w=>o3=.inr ()/\L 1=.pointer (some ⟨b2,0,none⟩)/\L 5=.int .i64 y2/\Ext w6 w) ?_ ?_
     ·refine wp_block<|lp (I:=fun m L w=>∃y3:Int,DC F x0 y2 m y3=some o3/\L 6=.int .i64 y3/\L 1=.pointer (some ⟨b2,0,none⟩)/\L 5=.int .i64 y2/\Ext w6 w) F ⟨_,hB8,rfl,l1_i4,l5_i4,(Ext.refl _)⟩ ?_;rintro m L w7⟨y3,hB8,l6_i5,l1_i5,l5_i5,K0_i5⟩;rcases m with _|m
      ·rw[DC]at hB8;cases hB8
      rw[DC]at hB8;have k10:=k8.tr K0_i5;have hb10:=hb9.ext K0_i5;refine wp_seq<|Zr<|Zm<|Zm<|Zv (BN l6_i5 l5_i5)<|nl<|cnd rfl (fun h7=>?_) (fun h7=>?_)
      ·have hB8:=Ac hB8 h7;refine wp_skip<|wp_seq<|wp_block<|wp_seq<|FZ [] (.pure true 0 (.pure false 1 (.pure true 2 (.pure true 3 (.pure false 4 (.pure true 5 (.pure false 6 (.pure true 7 (.pure true 8 (.pure false 9 (.pure true 10 .fin))))))))))) mixed (by kernel_rfl) (fun w8 hx3=>?_);have k13:=k10.tr hx3;have k16:=K0_i5.tr hx3;have hb11:=hb10.ext hx3;refine Zp rfl (fun _=>Ah l1_i5 CP)<|Zq rfl (fun _ hS=>AX rfl Dk ((Bx.cs (hb11.ext (hS.resolve_left nofun))).at 2 rfl)) (Ext.refl _)<|Zn rfl<|bS hB8 fun x3 Ex3 hB8=>?_;have hz:=(RV.els r2).ix Ex3;obtain⟨b5,f2,cs3,e4,i6,i7,q5,hc3⟩:=hz;cases e4;obtain⟨_,_,rfl,rfl,rfl⟩:=q5;have hc4:=hc3.ext k13;refine Zp rfl (fun _=>Ao rfl l5_i5 Tryz.underlying108 BR i6 i7)<|Zq rfl (fun _ hS=>BO rfl BR rfl (hc4.ext (hS.resolve_left nofun))) (Ext.refl _)<|Zp rfl (fun _=>Ah l1_i5 CP)<|Zq rfl (fun _ hS=>AX rfl Dk ((Bx.cs (hb11.ext (hS.resolve_left nofun))).at 2 rfl)) (Ext.refl _)<|Zn rfl<|bS hB8 fun x4 Ex4 hB8=>?_;have hz:=EA r2 Ex4;obtain⟨cs4,i8,i9,q6,hc5⟩:=hz;obtain⟨_,_,rfl,rfl,rfl⟩:=q6;have hc6:=hc5.ext k13;refine Zp rfl (fun _=>Ao rfl l6_i5 Tryz.underlying108 BR i8 i9)<|Zq rfl (fun _ hS=>BO rfl BR rfl (hc6.ext (hS.resolve_left nofun))) (Ext.refl _)<|Zp rfl (fun _=>Xl (α:=(Int×Int)) (a:=(x3.1,x3.2)) (b:=(x4.1,x4.2)) rfl Y6 Y5 rfl rfl rfl rfl rfl)<|cnd rfl (fun h8=>?_) (fun h8=>?_)
       ·have hB8:=Ac hB8 h8;refine Zr<|Za<|nl<|?_;cases hB8;have hB6:=(show some _=some _ from hB6);cases hB6;have hF:=(show some _=some _ from hF);cases hF;exact wp_ret<|Zw rfl rfl rfl ⟨rfl,k13⟩
       ·have hB8:=Ai hB8 h8;refine wp_skip<|rg<|Zm<|Zv (BJ l6_i5 rfl)<|Za<|nl<|lq m (Nat.lt_succ_self _)<|?_;exact⟨_,hB8,rfl,l1_i5,l5_i5,k16⟩
      ·have hB8:=Ai hB8 h7;refine wp_exit<|?_;cases hB8;refine lf<|?_;exact⟨rfl,l1_i5,l5_i5,K0_i5⟩
     rintro L w9⟨rfl,l1_j2,l5_j2,K0_j2⟩;have k19:=K0_i4.tr K0_j2;refine rg<|Zm<|Zv (BJ l5_j2 rfl)<|Za<|nl<|lq m (Nat.lt_succ_self _)<|?_;exact⟨_,hB6,rfl,l1_j2,k19⟩
    ·have hB6:=Ai hB6 h6;refine wp_exit<|?_;cases hB6;refine lf<|?_;exact⟨rfl,l1_i4,K0_i4⟩
   rintro L w10⟨rfl,l1_j3,K0_j3⟩;have k20:=k7.tr K0_j3;have r23:=r13.ext K0_j3;have r24:=r14.ext K0_j3;have hb13:=hb8.ext K0_j3;refine wp_seq<|Zr<|Zv (Ah l1_j3 Hw)<|Zv (AX rfl JD ((Bx.cs hb13).at 3 rfl))<|Zv (Ah l1_j3 CP)<|Zv (AX rfl Dk ((Bx.cs hb13).at 2 rfl))<|Zv (Bp rfl Tryz.underlying108)<|bS hF fun x5 Ex5 hF=>Zc (xc fU (mc rfl (mc rfl mn))) (lm r24 Ex5) ?_;rintro _ w11⟨rfl,hx4⟩;have k22:=k20.tr hx4;have hb14:=hb13.ext hx4;have r25:=r23.ext hx4;have r26:=r24.ext hx4;refine Zv (Ej rfl)<|Zm<|Zg rfl rfl (A9 rfl) (fun hc=>BO l1_j3 EX rfl (Bx.cs hb14))<|Zg rfl rfl (A9 rfl) (fun hc=>Ah l1_j3 Hw)<|Zg rfl rfl (A9 rfl) (fun hc=>AX (mv hc rfl) JD ((Bx.cs hb14).at 3 rfl))<|bS hF fun x6 Ex6 hF=>gc rfl rfl rfl rfl (A9 rfl) rfl (fun hc=>xc fV (mc (mv hc rfl) (mc (mv hc rfl) mn))) (fun hc=>(mE (show RV (α:=(Int×Int×(List (Int×Int))×(List Int))) _ (.agg [.int .i64 x0.1,.int .i64 x0.2.1,.slice a1 x0.2.2.1.length cq1,.slice a2 x0.2.2.2.length cq2].toArray) (x0.1,x0.2.1,x0.2.2.1,x0.2.2.2)from⟨_,rfl,[.int .i64 x0.1],[.int .i64 x0.2.1]++([.slice a1 x0.2.2.1.length cq1]++[.slice a2 x0.2.2.2.length cq2]),rfl,rfl,[.int .i64 x0.2.1],[.slice a1 x0.2.2.1.length cq1]++[.slice a2 x0.2.2.2.length cq2],rfl,rfl,[.slice a1 x0.2.2.1.length cq1],[.slice a2 x0.2.2.2.length cq2],rfl,r25.rep1,r26.rep1⟩) r26 (NW Ex6 hc))) (fun v2 w12 hy1 hn1=>?_);have hx5:Ext w11 w12:=gx (fun h=>(hy1 h).2) (fun h=>(hn1 h).2▸Ext.refl _);have e5:=NY (fun h=>(hy1 h).1) (fun h=>(hn1 h).1);have k25:=k22.tr hx5;refine Zg rfl rfl (A9 rfl) (fun hc=>Ej (mv hc e5))<|Zv (F6 rfl rfl rfl)<|nl<|cnd rfl (fun h9=>?_) (fun h9=>?_)
   ·have hF:=Ac hF h9;refine Zr<|Za<|nl<|?_;cases hF;exact wp_ret<|Zw rfl rfl rfl ⟨rfl,k25⟩
   ·have hF:=Ai hF h9;refine wp_skip<|Zr<|Za<|nl<|?_;cases hF;exact wp_ret<|Zw rfl rfl rfl ⟨rfl,k25⟩
end Go.Proofs.YtfmelbioccbdoaaGreat
end
section
namespace Go.Proofs.YtfmelbioccbdoaaGreat
open Go Go.Md Go.RowKit
abbrev CG:=Int×Int
abbrev CW:=Ar 12 Int
abbrev DV:=List ((Bool×Int)×Int)
instance:Key (Bool×Int):=⟨fun k=>(Lit.int .i64 k.2).wf⟩
def Dz(L:List CG)(al:Int->Bool)(left:Int):Nat->Nat->List Int
 |0,_=>[]
 |n+1,k=>if(match L[k]? with|some x=>decide (x.1=left)&&al k|none=>false)=true then(k:Int)::Dz L al left n (k+1)else Dz L al left n (k+1)
def F3(L:List CG)(al:Int->Bool)(left:Int):List Int:=Dz L al left L.length 0
def G8(L:List CG)(f:Int->CW->DV->Option (Bool×CW×DV)):List Int->CW->DV->Option (Bool×CW×DV)
 |[],P,S=>some (false,P,S)
 |k::l,P,S=>
  (ix L k)>>=fun x=>
  (V8 ((true,x.2):Bool×Int))>>=fun _=>
  if decide (Cw 0 S (true,x.2)=1)=true then G8 L f l P S
  else
   (ix P.l x.2)>>=fun old=>
   if decide (old=0)=true then some (true,GK P x.2 (AP (k+1)),Ca S (true,x.2) 1)
   else
    (ix L (AP (old-1)))>>=fun y=>
    (f y.1 P (Ca S (true,x.2) 1))>>=fun q=>
    if q.1=true then some (true,GK q.2.1 x.2 (AP (k+1)),q.2.2)else G8 L f l q.2.1 q.2.2
def Fu(L:List CG)(al:Int->Bool):Nat->Int->CW->DV->Option (Bool×CW×DV)
 |0,_,_,_=>none
 |m+1,left,P,S=>G8 L (fun a P S=>Fu L al m a P S) (F3 L al left) P S
def G9(L:List CG)(al:Int->Bool)(F:Nat)(n:Int):Nat->Int->Int->CW->Option (Int×CW)
 |0,_,_,_=>none
 |m+1,i,c,P=>
  if decide (i<n)=true then
   (Fu L al F i P [])>>=fun q=>
   if(!decide (q.2.1=P))=true then G9 L al F n m (AP (i+1)) (AP (c+1)) q.2.1 else G9 L al F n m (AP (i+1)) c q.2.1
  else some (c,P)
def D5(F:Nat)(L:List CG)(n:Int)(al:Int->Bool):Option (Int×CW):=G9 L al F n F 0 0 (Ar.fill 12 0)
namespace L5
theorem I8{f g:Nat->Bool}{r:Nat}(h:∀i,i≠r->f i=g i):∀{n:Nat},r<n->(List.range n).countP f+(if g r=true then 1 else 0)=(List.range n).countP g+(if f r=true then 1 else 0)
 |0,hr=>by omega
 |n+1,hr=>by
  rw[List.range_succ,List.countP_append,List.countP_append];by_cases e:r=n
  ·subst e
   have:(List.range r).countP f=(List.range r).countP g:=by
    apply List.countP_congr;intro x hx;have:=List.mem_range.1 hx;rw[h x (by omega)]
   rw[this];simp only[List.countP_cons,List.countP_nil];omega
  ·have ih:=I8 h (n:=n) (by omega)
   have:f n=g n:=h n (fun x=>e x.symm);simp only[List.countP_cons,List.countP_nil,this];omega
theorem YX{p q:Nat->Bool}{n r:Nat}(h:∀i,p i=true->q i=true)(hr:r<n)(h1:p r=false)(h2:q r=true):(List.range n).countP p<(List.range n).countP q:=by
 have e:=I8 (f:=p) (g:=fun i=>if i=r then true else p i) (r:=r) (fun i hi=>by simp[hi]) hr;have e2:(List.range n).countP (fun i=>if i=r then true else p i)<=(List.range n).countP q:=by
  apply List.countP_mono_left;intro x _ hx;by_cases hxr:x=r
  ·rw[hxr];exact h2
  ·simp only[hxr,if_false]at hx
   exact h x hx
 simp only[if_true,h1]at e;simp at e;simp at e2;omega
section
variable {L:List CG}{al:Int->Bool}
theorem R7{left:Int}:∀{n k:Nat}{j:Int},j∈Dz L al left n k↔∃i:Nat,j=i/\k<=i/\i<k+n/\∃x,L[i]?=some x/\x.1=left/\al i=true
 |0,k,j=>by
  simp only[Dz,List.not_mem_nil,false_iff];rintro⟨i,_,h1,h2,_⟩;omega
 |n+1,k,j=>by
  have ih:=R7 (left:=left) (n:=n) (k:=k+1) (j:=j);simp only[Dz];cases hL:L[k]? with
  |none=>
   simp only[Bool.false_eq_true,if_false];rw[ih];constructor
   ·rintro⟨i,h1,h2,h3,h4⟩;exact⟨i,h1,by omega,by omega,h4⟩
   ·rintro⟨i,h1,h2,h3,x,h4,h5⟩
    refine⟨i,h1,?_,by omega,x,h4,h5⟩;rcases Nat.lt_or_eq_of_le h2 with h|h
    ·omega
    ·rw[<-h,hL]at h4;cases h4
  |some x=>
   by_cases hc:(decide (x.1=left)&&al k)=true
   ·simp only[hc,if_true,List.mem_cons,ih]
    simp only[Bool.and_eq_true,decide_eq_true_eq]at hc;constructor
    ·rintro(h|⟨i,h1,h2,h3,h4⟩)
     ·exact⟨k,h,by omega,by omega,x,hL,hc.1,hc.2⟩
     ·exact⟨i,h1,by omega,by omega,h4⟩
    ·rintro⟨i,h1,h2,h3,h4⟩
     rcases Nat.lt_or_eq_of_le h2 with h|h
     ·exact .inr ⟨i,h1,by omega,by omega,h4⟩
     ·exact .inl (by rw[h1,h])
   ·simp only[hc,if_false,ih,Bool.false_eq_true]
    simp only[Bool.and_eq_true,decide_eq_true_eq,not_and]at hc;constructor
    ·rintro⟨i,h1,h2,h3,h4⟩;exact⟨i,h1,by omega,by omega,h4⟩
    ·rintro⟨i,h1,h2,h3,y,h4,h5,h6⟩
     refine⟨i,h1,?_,by omega,y,h4,h5,h6⟩;rcases Nat.lt_or_eq_of_le h2 with h|h
     ·omega
     ·subst h
      rw[hL]at h4;cases h4;exact absurd h6 (by simpa using hc h5)
theorem R8{left j:Int}:j∈F3 L al left↔∃i:Nat,j=i/\∃x,L[i]?=some x/\x.1=left/\al i=true:=by
 unfold F3;rw[R7];constructor
 ·rintro⟨i,h1,_,_,h⟩;exact⟨i,h1,h⟩
 ·rintro⟨i,h1,x,h2,h3⟩
  have:=(List.getElem?_eq_some_iff.1 h2).1;exact⟨i,h1,by omega,by omega,x,h2,h3⟩
def pa(P:CW)(r:Nat):Int:=P.l.getD r 0
def sn(S:DV)(r:Nat):Prop:=Cw 0 S (true,(r:Int))=1
instance {S:DV}{r:Nat}:Decidable (sn S r):=inferInstanceAs (Decidable (_=_))
theorem MW{κ ν:Type}[DecidableEq κ]{d v:ν}{k:κ}:∀{l:List (κ×ν)},Cw d (Ca l k v) k=v
 |[]=>by simp[Ca,Cw]
 |(a,b)::l=>by
  unfold Ca;split
  ·simp[Cw]
  ·rename_i h
   simp only[Cw,if_neg h];exact MW
theorem MX{κ ν:Type}[DecidableEq κ]{d v:ν}{k q:κ}(hq:q≠k):∀{l:List (κ×ν)},Cw d (Ca l k v) q=Cw d l q
 |[]=>by simp[Ca,Cw,Ne.symm hq]
 |(a,b)::l=>by
  unfold Ca;split
  ·rename_i h
   subst h;simp[Cw,Ne.symm hq]
  ·rename_i h
   simp only[Cw];rw[MX hq]
theorem IJ{S:DV}{r r':Nat}:sn (Ca S (true,(r:Int)) 1) r'↔r'=r\/sn S r':=by
 unfold sn;by_cases h:r'=r
 ·subst h
  simp[MW]
 ·rw[MX (by intro e;simp only[Prod.mk.injEq,true_and]at e;omega)]
  simp[h]
theorem Gs{P:CW}{r r':Nat}{v:Int}(hr:r<12):pa (GK P (r:Int) v) r'=if r'=r then v else pa P r':=by
 have hl:=P.h;have e:(GK P (r:Int) v).l=P.l.set r v:=rfl;unfold pa;rw[e,List.getD_eq_getElem?_getD,List.getD_eq_getElem?_getD,List.getElem?_set];by_cases h:r'=r
 ·subst h
  simp[hl,hr]
 ·simp[h,Ne.symm h]
theorem ZR{P:CW}{r:Nat}(hr:r<12):ix P.l (r:Int)=some (pa P r):=by
 have hl:=P.h;unfold ix pa;rw[if_pos (by omega),Int.toNat_natCast,List.getD_eq_getElem?_getD,List.getElem?_eq_getElem (by omega)]
 rfl
def VP(L:List CG)(al:Int->Bool)(P:CW):Prop:=∀r,r<12->pa P r≠0->∃k:Nat,pa P r=(k:Int)+1/\∃x,L[k]?=some x/\x.2=r/\al k=true
def lf(L:List CG)(P:CW)(r:Nat):Option Int:=if pa P r=0 then none else(L[(pa P r-1).toNat]?).map (·.1)
def cn(L:List CG)(P:CW)(a:Int):Nat:=(List.range 12).countP fun r=>decide (lf L P r=some a)
def mc(P:CW):Nat:=(List.range 12).countP fun r=>decide (pa P r≠0)
def un(S:DV):Nat:=(List.range 12).countP fun r=>decide (¬sn S r)
def Nb(L:List CG)(al:Int->Bool)(a:Int)(R:Nat->Prop):Prop:=∀(k:Nat)(x:CG),L[k]?=some x->x.1=a->al k=true->R x.2.toNat
def jV(L:List CG)(al:Int->Bool)(P:CW)(R:Nat->Prop):Prop:=∀r,R r->r<12/\pa P r≠0/\∀a,lf L P r=some a->Nb L al a R
structure FS(L:List CG)(al:Int->Bool)(left:Int)(Q:List Int)(P:CW)(S:DV)(q:Bool×CW×DV):Prop where
 vp:VP L al q.2.1
 mono:∀r,sn S r->sn q.2.2 r
 keep:∀r,sn S r->pa q.2.1 r=pa P r
 fail:q.1=false->q.2.1=P/\(∀k∈Q,∀x,ix L k=some x->sn q.2.2 x.2.toNat)/\∀r,r<12->sn q.2.2 r->¬sn S r->pa P r≠0/\∀a,lf L P r=some a->Nb L al a (sn q.2.2)
 succ:q.1=true->mc q.2.1=mc P+1/\∀a,cn L q.2.1 a=cn L P a+(if a=left then 1 else 0)
 clo:∀R,jV L al P R->(∀r,R r->pa q.2.1 r=pa P r)/\((∀k∈Q,∀x,ix L k=some x->R x.2.toNat)->q.1=false)
theorem NJ{P:CW}{r k:Nat}{x:CG}(h:pa P r=(k:Int)+1)(hx:L[k]?=some x):lf L P r=some x.1:=by
 unfold lf;rw[if_neg (by omega),h,show((k:Int)+1-1).toNat=k by omega,hx]
 rfl
theorem Pt{P:CW}{r:Nat}(h:pa P r=0):lf L P r=none:=by unfold lf;rw[if_pos h]
theorem XG{P:CW}{r:Nat}{v:Int}(hr:r<12)(hv:v≠0):mc (GK P (r:Int) v)+(if pa P r≠0 then 1 else 0)=mc P+1:=by
 have:=I8 (f:=fun i=>decide (pa (GK P (r:Int) v) i≠0)) (g:=fun i=>decide (pa P i≠0)) (r:=r) (fun i hi=>by simp only[Gs hr,if_neg hi]) hr;simp only[decide_eq_true_eq,Gs hr,if_true,hv,ne_eq,not_false_eq_true]at this;unfold mc;simpa[Gs hr]using this
theorem XH{P:CW}{r k:Nat}{x:CG}(hr:r<12)(hx:L[k]?=some x)(a:Int):cn L (GK P (r:Int) ((k:Int)+1)) a+(if lf L P r=some a then 1 else 0)=cn L P a+(if a=x.1 then 1 else 0):=by
 have e1:lf L (GK P (r:Int) ((k:Int)+1)) r=some x.1:=NJ (k:=k) (by rw[Gs hr,if_pos rfl]) hx;have:=I8 (f:=fun i=>decide (lf L (GK P (r:Int) ((k:Int)+1)) i=some a)) (g:=fun i=>decide (lf L P i=some a)) (r:=r) (fun i hi=>by
  have h2:lf L (GK P (r:Int) ((k:Int)+1)) i=lf L P i:=by unfold lf;rw[Gs hr,if_neg hi]
  simp only[h2]) hr
 simp only[decide_eq_true_eq,e1,Option.some.injEq]at this;unfold cn;rw[this]
 congr 1
 simp only[eq_comm]
theorem dY{S:DV}{r:Nat}(hr:r<12)(h:¬sn S r):un (Ca S (true,(r:Int)) 1)<un S:=by
 unfold un;refine YX (r:=r) (fun i hi=>?_) hr (by simp[IJ]) (by simpa using h);simp only[decide_eq_true_eq,IJ,not_or]at hi⊢;exact hi.2
end
end L5
end Go.Proofs.YtfmelbioccbdoaaGreat
end
section
namespace Go.Proofs.YtfmelbioccbdoaaGreat
open Go Go.Md Go.RowKit
theorem dZ:Tryz.prog.cellsOf 4=1:=by kernel_rfl
theorem aF{d:Nat}(hd:0<d){a:Bool}:Tryz.prog.keyLits d 4 [.bool a]=some [.bool a]:=by
 obtain⟨d,rfl⟩:∃e,d=e+1:=⟨d-1,by omega⟩;unfold Program.keyLits;rw[Tryz.underlying4]
theorem dh{a b:Bool×Int}(h:fv a=fv b):a=b:=by
 obtain⟨a1,a2⟩:=a;obtain⟨b1,b2⟩:=b;have:(Value.agg #[.bool a1,.int .i64 a2])=.agg #[.bool b1,.int .i64 b2]:=h;simp at this;simp[this.1,this.2]
theorem di:(350:TypeId)<Tryz.prog.types.size:=of_decide_eq_true (by kernel_rfl)
theorem R9:Tryz.prog.cellsOf 350=2:=by kernel_rfl
theorem aG:Tryz.prog.keyType 350=true:=by kernel_rfl
theorem Ya:Tryz.prog.keyTypeAt 2 350=true:=by kernel_rfl
theorem Vl:KT Tryz.prog 350 (Bool×Int)where
 kd:=Maps.Keyed.of_law (by refine deep_law_laid Xw (m:=2) (by omega) di Ya ?_;rw[Tryz.underlying350])
 of:=by
  rintro⟨a,b⟩ h;have hb:(Lit.int .i64 b).wf=true:=h;have hv:fv ((a,b):Bool×Int)=.agg #[.bool a,.int .i64 b]:=rfl;have hp:0<462:=by decide
  refine⟨.string (keyBytes [.bool a,.int .i64 b]),?_⟩;rw[hv,keyOf,Tryz.underlying350];simp only[aG,Value.formed,Tryz.underlying350,R9];unfold Program.keyLits;rw[Tryz.underlying350];simp[Value.cells,R9,bR,dZ,Zt hp hb,aF hp]
 inj:=fun _ _=>dh
end Go.Proofs.YtfmelbioccbdoaaGreat
end
section
namespace Go.Proofs.YtfmelbioccbdoaaGreat
open Go Go.Md Go.RowKit
attribute [local irreducible] Go.wpList Go.Code.wp Go.Calls Go.Md.Cu Go.Md.Mt Go.Md.Dl Go.Md.Ch Go.Code.wpIn Go.wpListIn
section
theorem PI(l1 l2 vs:List Value)(o:Nat):Md.CX (l1++l2) (l1.length+o) vs=l1++Md.CX l2 o vs:=by
 unfold Md.CX;rw[List.take_append,List.drop_append,List.take_of_length_le (by omega),List.drop_of_length_le (l:=l1) (by omega),show l1.length+o-l1.length=o by omega,show l1.length+o+vs.length-l1.length=o+vs.length by omega];simp[List.append_assoc]
def PK(n mm:Int)(a1:Option Addr)(c1:Nat)(kv:Value)(L:List CG):List Value:=[.int .i64 n,.int .i64 mm,.slice a1 L.length c1,kv]++List.replicate 24 (.int .i64 0)
def FO(n mm:Int)(a1:Option Addr)(c1:Nat)(kv:Value)(L:List CG)(P:CW):List Value:=PK n mm a1 c1 kv L++P.l.flatMap Flat.enc
theorem Kg{n mm:Int}{a1:Option Addr}{c1:Nat}{kv:Value}{L:List CG}:(PK n mm a1 c1 kv L).length=28:=rfl
theorem PL{n mm:Int}{a1:Option Addr}{c1:Nat}{kv:Value}{L:List CG}{P:CW}:(FO n mm a1 c1 kv L P).length=40:=by
 unfold FO;rw[List.length_append,Kg,LJ]
 rfl
theorem Vm{n mm:Int}{a1:Option Addr}{c1:Nat}{kv:Value}{L:List CG}{P:CW}{r v:Int}(h0:0<=r)(h1:r<12):Md.CX (FO n mm a1 c1 kv L P) (28+r.toNat) [.int .i64 v]=FO n mm a1 c1 kv L (GK P r v):=by
 have hP:P.l.length=12:=P.h;have e2:(GK P r v).l.flatMap Flat.enc=Md.CX (P.l.flatMap Flat.enc) (r.toNat*Enc.n Int) (Flat.enc v):=(LB P.l r.toNat v (by omega)).symm;have n2:Enc.n Int=1:=rfl;have h3:(Flat.enc v:List Value)=[.int .i64 v]:=rfl;unfold FO;rw[<-Kg (n:=n) (mm:=mm) (a1:=a1) (c1:=c1) (kv:=kv) (L:=L),PI,e2,n2,Nat.mul_one,h3]
theorem Vn{n mm:Int}{a1:Option Addr}{c1:Nat}{kv:Value}{L:List CG}{P:CW}:Md.CX (FO n mm a1 c1 kv L P) 28 (List.replicate 12 (.int .i64 0))=FO n mm a1 c1 kv L (Ar.fill 12 0):=by
 have e:Md.CX (P.l.flatMap Flat.enc) 0 (List.replicate 12 (Value.int .i64 0))=(Ar.fill 12 (0:Int)).l.flatMap Flat.enc:=by
  unfold Md.CX;have:(P.l.flatMap Flat.enc:List Value).length=12:=by rw[LJ];rfl
  rw[List.take_zero,List.length_replicate,List.drop_of_length_le (by omega)]
  rfl
 unfold FO;have:=PI (PK n mm a1 c1 kv L) (P.l.flatMap Flat.enc) (List.replicate 12 (Value.int .i64 0)) 0;rw[Kg,Nat.add_zero,e]at this;exact this
structure Jn(N:Nat)(w:World)(b:Nat)(n mm:Int)(a1:Option Addr)(c1:Nat)(kv:Value)(L:List CG)(P:CW):Prop where
 size:N<=w.heap.size
 lb:b<N
 bx:Bx w b 241 (FO n mm a1 c1 kv L P)
 rv:RVo (fun q=>q<N/\q≠b) w (.slice a1 L.length c1) L
 kn:∃a2 c2,kv=.slice a2 0 c2/\c2<=maxLen
section
variable {N:Nat}{w w':World}{b:Nat}{n mm:Int}{a1:Option Addr}{c1:Nat}{kv:Value}{L:List CG}{P P':CW}
theorem Jn.ext(h:Jn N w b n mm a1 c1 kv L P)(k:Ext w w'):Jn N w' b n mm a1 c1 kv L P:=⟨Nat.le_trans h.size k.size,h.lb,h.bx.ext k,h.rv.ext k,h.kn⟩
theorem Jn.keep(h:Jn N w b n mm a1 c1 kv L P)(k:BelP (fun q=>q≠b) N w w')(hb:Bx w' b 241 (FO n mm a1 c1 kv L P')):Jn N w' b n mm a1 c1 kv L P':=
 ⟨Nat.le_trans h.size k.size,h.lb,hb,h.rv.keep (fun q hq _=>k.block q hq.1 hq.2) k.size,h.kn⟩
theorem Jn.chg{l:Nat}(h:Jn N w b n mm a1 c1 kv L P)(k:Chg l w w')(hl:N<=l):Jn N w' b n mm a1 c1 kv L P:=by
 have hb:=h.lb;exact⟨by rw[k.size];exact h.size,h.lb,h.bx.chg k (by omega),h.rv.chg k (by omega),h.kn⟩
theorem Jn.part(h:Jn N w b n mm a1 c1 kv L P):Cs w b 28 (P.l.flatMap Flat.enc):=by
 have:=(Bx.cs h.bx).snd (l1:=PK n mm a1 c1 kv L);rwa [Kg]at this
theorem Jn.set{v r:Int}(h:Jn N w b n mm a1 c1 kv L P)(h0:0<=r)(h1:r<12)(k:Chg b w w')(hb:Bx w' b 241 (Md.CX (FO n mm a1 c1 kv L P) (28+r.toNat) [.int .i64 v])):Jn N w' b n mm a1 c1 kv L (GK P r v):=by
 rw[Vm h0 h1]at hb;exact h.keep (BelP.refl.chg k (.inr fun e=>e rfl)) hb
theorem Jn.tak{B:Nat}(h:Jn N w b n mm a1 c1 kv L P)(k:Tak B w w')(hB:N<=B):Jn N w' b n mm a1 c1 kv L P:=by
 have hb:=h.lb;exact⟨by rw[k.size];exact h.size,h.lb,(k.low b (by omega)).trans h.bx,h.rv.keep (fun q hq _=>k.low q (by omega)) (by rw[k.size];exact Nat.le_refl _),h.kn⟩
def JE(N b:Nat)(n mm:Int)(a1:Option Addr)(c1:Nat)(kv:Value)(L:List CG)(w:World):Prop:=∃P,Jn N w b n mm a1 c1 kv L P
def KpJ(N b:Nat)(n mm:Int)(a1:Option Addr)(c1:Nat)(kv:Value)(L:List CG)(ok:Nat->Prop)(B:Nat)(A C:World):Prop:=BelP ok B A C/\(JE N b n mm a1 c1 kv L A->JE N b n mm a1 c1 kv L C)
theorem KpJ.kp{ok:Nat->Prop}{B:Nat}(hB:N<=B):KpOk B (KpJ N b n mm a1 c1 kv L ok B):=
 KpOk.and KpOk.belp ⟨fun h1 h2 h=>h2 (h1 h),fun _ k⟨P,h⟩=>⟨P,h.ext k⟩,fun hl _ k⟨P,h⟩=>⟨P,h.chg k (by omega)⟩⟩
def Al(N:Nat)(w0:World)(b:Nat)(n mm:Int)(a1:Option Addr)(c1:Nat)(kv:Value)(L:List CG)(v:Value)(p:Int->Bool):Prop:=
 ∃(g:FuncId)(fs cs:List Value),v=.func (.func g) (List.toArray fs) (List.toArray cs)/\AU Tryz.prog g/\∀W P(k:Nat),BelP (fun q=>q≠b) N w0 W->Jn N W b n mm a1 c1 kv L P->k<L.length->
  Calls Tryz.prog g (fs++([.int .i64 (k:Int)]:List Value)++cs).toArray W (BV fun r W'=>r=.bool (p k)/\Ext W W')
theorem Al.keep{v:Value}{p:Int->Bool}(h:Al N w b n mm a1 c1 kv L v p)(k:BelP (fun q=>q≠b) N w w'):Al N w' b n mm a1 c1 kv L v p:=
 let⟨g,fs,cs,e,c,h⟩:=h
 ⟨g,fs,cs,e,c,fun W P j h1=>h W P j (k.trans h1)⟩
end
set_option maxHeartbeats 2000000 in
theorem dm{m:Nat}{N:Nat}{w:World}{bj bl bf b:Nat}{n mm:Int}{a1:Option Addr}{c1:Nat}{kv:Value}{L:List CG}{P:CW}{v:Value}{al:Int->Bool}{left:Int}{ok:Nat->Prop}
  (h1:Bx w bj 233 [.pointer (some ⟨b,0,none⟩)]) (h2:Bx w bl 3 [.int .i64 left]) (h3:Bx w bf 236 [v]) (n1:ok bj) (n2:ok bl) (n3:ok bf) (hJn:Jn N w b n mm a1 c1 kv L P) (hA:Al N w b n mm a1 c1 kv L v al) (hok:∀q,q<N->q≠b->ok q):
  IA Tryz.prog (KpJ N b n mm a1 c1 kv L ok w.heap.size) m 318 #[.pointer (some ⟨bj,0,none⟩),.pointer (some ⟨bl,0,none⟩),.pointer (some ⟨bf,0,none⟩)] ((F3 L al left).map fun k=>#[fv k]) w:=by
 intro ll J Jx W kW hJ hJx hY h0;have d1:=h1.ext kW;have JW:=hJn.ext kW;have hN:=hJn.size;have hNW:w.heap.size<=W.heap.size:=kW.size;refine(callsIn_wide.2 ?_:CallsIn Fence.wide m Tryz.prog 318 ([.func (.yield ll) #[] #[],.pointer (some ⟨bj,0,none⟩),.pointer (some ⟨bl,0,none⟩),.pointer (some ⟨bf,0,none⟩)].toArray) W _);refine Calls.mono (R:=BV fun v W'=>J ((F3 L al left).map fun x=>#[fv x]).length W'\/Jx W') ?_ ?_
 rotate_left
 ·rintro e W'⟨v,rfl,h⟩
  exact⟨⟨v,rfl⟩,h⟩
 have hcap:=(RVo.rv hJn.rv).cap;refine BX (n:=34) Tryz.func318 rfl rfl rfl<|Zr<|Zv (AX rfl EY ((Bx.cs d1).at 0 rfl))<|Zv (FB rfl)<|Zv (Ah rfl Kv)<|Zv (Ah rfl CP)<|Zv (AX rfl Dk ((Bx.cs JW.bx).at 2 rfl))<|Zv (Bp rfl Tryz.underlying108)<|Zm<|nl<|wp_block<|lp (I:=fun m' L' w1=>∃(k:Nat)(pre:List Int),k+m'=L.length/\F3 L al left=pre++Dz L al left m' k/\L' 13=.int .i64 (k:Int)/\L' 12=.int .i64 (L.length:Int)/\L' 11=.slice a1 L.length c1/\L' 0=.func (.yield ll) #[] #[]/\L' 2=.pointer (some ⟨bl,0,none⟩)/\L' 3=.pointer (some ⟨bf,0,none⟩)/\J pre.length w1/\KpJ N b n mm a1 c1 kv L ok w.heap.size W w1) L.length
  ⟨0,[],by simp,rfl,rfl,rfl,rfl,rfl,rfl,rfl,h0,BelP.refl,id⟩ ?_
 rintro m' L' w1⟨k,pre,hk,hl,l13,l12,l11,l0,l2,l3,hj,hx,hje⟩;refine Zr<|Zv (BN l13 l12)<|nl<|wp_seq<|cnd rfl (fun hc=>?_) (fun hc=>?_)
 ·have hc:(k:Int)<(L.length:Int):=by simpa using hc
  have hkl:k<L.length:=by omega
  obtain⟨m'',rfl⟩:∃q,m'=q+1:=⟨m'-1,by omega⟩;have hg:L[k]?=some L[k]:=List.getElem?_eq_getElem hkl;have hix:ix L (k:Int)=some L[k]:=by simp[ix,hg]
  obtain⟨P1,J1⟩:=hje ⟨P,JW⟩;have hz:=(RVo.sl.1 J1.rv);obtain⟨a2',c2',e3,_,_,els⟩:=hz;cases e3;have hz:=Els.ix els hix;obtain⟨b5,off5,cs5,rfl,i1,i2,q5,hcE⟩:=hz;obtain rfl:=Flat.iff.1 q5;have hadd:AP ((k:Int)+1)=((k+1:Nat):Int):=by
   rw[AP,IntWalk.i64_in _ (by unfold maxLen at hcap;omega)]
   rfl
  refine wp_skip<|wp_seq<|wp_block<|Zr<|Zv (Ba l13)<|Zv (Ao l11 l13 Tryz.underlying108 BR i1 i2)<|Zv (BO rfl BR rfl hcE)<|FT BR fun b6 w2 hx2 hg2 hb2=>Za<|EW rfl rfl rfl BR hb2 rfl rfl (ble rfl) fun w3 hch3 hb3=>?_;have kx3:Ext w1 w3:=hx2.chg hch3 hg2;have hj3:J pre.length w3:=hJ _ _ _ hj kx3;have hx3:=hx.ext kx3 (Nat.le_trans hNW hx.size);have J3:=J1.ext kx3;have d2:=((h2.ext kW).belp hx (by have:=h2.lt;omega) n2).ext kx3;have d3:=((h3.ext kW).belp hx (by have:=h3.lt;omega) n3).ext kx3;have hb3':Bx w3 b6 112 (Flat.enc L[k]):=hb3;have kA:BelP (fun q=>q≠b) N w w3:=(BelP.of kW hN).trans (hx3.weak fun q h4 h5=>⟨by omega,hok q h4 h5⟩);refine nl<|wp_seq<|bE (m:=m)<|EK rfl rfl nofun (Ah rfl FU)<|EK rfl rfl nofun (AX rfl AY ((Bx.cs hb3').at 0 rfl))<|EK rfl rfl nofun (AX l2 AY ((Bx.cs d2).at 0 rfl))<|EK rfl rfl nofun (HV rfl rfl)<|EK rfl rfl nofun Bw<|Or.elim (Bool.eq_false_or_eq_true (decide (L[k].1=left))) (fun hf0=>?_) (fun hf0=>?_)
  ·refine Ju rfl rfl rfl rfl rfl (Md.bt hf0)<|EK rfl rfl nofun (AX l3 Qh ((Bx.cs d3).at 0 rfl))<|Ju rfl rfl rfl rfl rfl (Md.bt hf0)<|EK rfl rfl nofun (Ba rfl)<|Ju rfl rfl rfl rfl rfl (Md.bt hf0)<|?_
   obtain⟨g,fs,cs,hv,hcb,hcall⟩:=hA;refine nM rfl rfl nofun (Lv (fs:=fs) (cs:=cs) hv hcb (mc rfl mn) rfl) (hcall w3 P1 k kA J3 hkl) ?_;rintro _ w4⟨rfl,hx4⟩;have hj4:=hJ _ _ _ hj3 hx4;have hx4':=hx3.ext hx4 (Nat.le_trans hNW (Nat.le_trans hx.size kx3.size));have J4:=J3.ext hx4;refine EK rfl rfl nofun (EJ rfl hf0 rfl)<|EK rfl rfl nofun Bw<|Or.elim (Bool.eq_false_or_eq_true (al k)) (fun hf1=>?_) (fun hf1=>?_)
   ·have hfr:Dz L al left (m''+1) k=(k:Int)::Dz L al left m'' (k+1):=by
     simp only[Dz,hg,hf1,hf0,Bool.and_self,if_true]
    have hus:((F3 L al left).map fun u=>(#[fv u]:Array Value))[pre.length]?=some #[fv (k:Int)]:=by
     rw[List.getElem?_map,hl,List.getElem?_append_right (Nat.le_refl _),Nat.sub_self,hfr]
     rfl
    have hz:=hY pre.length #[fv (k:Int)] w4 hus hj4;obtain⟨fn,tmps,assign,body,hy,hR⟩:=hz;refine Ju rfl rfl rfl rfl rfl (Md.bt hf1)<|EK rfl rfl nofun (Ba l0)<|Ju rfl rfl rfl rfl rfl (Md.bt hf1)<|EK rfl rfl nofun (Ba rfl)<|Ju rfl rfl rfl rfl rfl (Md.bt hf1)<|bF rfl rfl nofun (V3 rfl (mc rfl mn) hy) hR fun e w5 he=>?_;rcases he with⟨rfl,hj5,k5⟩|⟨rfl,hj5⟩
    ·refine⟨_,rfl,Ju rfl rfl rfl rfl rfl (Md.bt hf1)<|EK rfl rfl nofun (Ej rfl)<|EK rfl rfl nofun (EJ rfl hf1 rfl)<|OM<|cnd rfl (fun h=>by cases h) (fun _=>wp_skip<|rg<|Zv (BJ l13 rfl)<|Zm<|nl ?_)⟩
     refine lq m'' (by omega) ⟨k+1,pre++[(k:Int)],by omega,by rw[hl,hfr,List.append_assoc];rfl,congrArg _ hadd,l12,l11,l0,l2,l3,?_,hx4'.trans k5.1,fun _=>k5.2 ⟨P1,J4⟩⟩;rw[List.length_append];exact hj5
    ·refine⟨_,rfl,Ju rfl rfl rfl rfl rfl (Md.bt hf1)<|EK rfl rfl nofun (Ej rfl)<|EK rfl rfl nofun (EJ rfl hf1 rfl)<|OM<|cnd rfl (fun _=>?_) (fun h=>by cases h)⟩
     exact wp_ret<|rt rfl .nil (.inr hj5)
   ·have hfr:Dz L al left (m''+1) k=Dz L al left m'' (k+1):=by
     simp only[Dz,hg,hf1,hf0,Bool.and_false,if_false,Bool.false_eq_true]
    refine Iz rfl rfl rfl rfl rfl (Ak hf1) rfl<|Iz rfl rfl rfl rfl rfl (Ak hf1) rfl<|Iz rfl rfl rfl rfl rfl (Ak hf1) rfl<|Iz rfl rfl rfl rfl rfl (Ak hf1) rfl<|EK rfl rfl nofun (Eb rfl hf1 rfl)<|OM<|cnd rfl (fun h=>by cases h) (fun _=>?_);refine wp_skip<|rg<|Zv (BJ l13 rfl)<|Zm<|nl ?_;exact lq m'' (by omega) ⟨k+1,pre,by omega,by rw[hl,hfr],congrArg _ hadd,l12,l11,l0,l2,l3,hj4,hx4',fun _=>⟨P1,J4⟩⟩
  ·have hfr:Dz L al left (m''+1) k=Dz L al left m'' (k+1):=by
    simp only[Dz,hg,hf0,Bool.false_and,if_false,Bool.false_eq_true]
   refine Iz rfl rfl rfl rfl rfl (Ak hf0) rfl<|Iz rfl rfl rfl rfl rfl (Ak hf0) rfl<|Iz rfl rfl rfl rfl rfl (Ak hf0) rfl<|EK rfl rfl nofun (Eb rfl hf0 rfl)<|EK rfl rfl nofun Bw<|Iz rfl rfl rfl rfl rfl (Ak rfl) rfl<|Iz rfl rfl rfl rfl rfl (Ak rfl) rfl<|Iz rfl rfl rfl rfl rfl (Ak rfl) rfl<|Iz rfl rfl rfl rfl rfl (Ak rfl) rfl<|EK rfl rfl nofun (Eb rfl rfl rfl)<|OM<|cnd rfl (fun h=>by cases h) (fun _=>?_);refine wp_skip<|rg<|Zv (BJ l13 rfl)<|Zm<|nl ?_;exact lq m'' (by omega) ⟨k+1,pre,by omega,by rw[hl,hfr],congrArg _ hadd,l12,l11,l0,l2,l3,hj3,hx3,fun _=>⟨P1,J3⟩⟩
 ·have hc:¬(k:Int)<(L.length:Int):=by simpa using hc
  obtain rfl:m'=0:=by omega
  refine wp_exit<|NZ rfl .nil (.inl ?_);rw[List.length_map,hl];simp only[Dz,List.append_nil];exact hj
def LkV(lo:Nat)(w:World)(u:Value)(b:Nat)(left:Int)(v:Value):Prop:=∃bj bl bf,u=.func (.func 318) #[] #[.pointer (some ⟨bj,0,none⟩),.pointer (some ⟨bl,0,none⟩),.pointer (some ⟨bf,0,none⟩)]/\
 Bx w bj 233 [.pointer (some ⟨b,0,none⟩)]/\Bx w bl 3 [.int .i64 left]/\Bx w bf 236 [v]/\lo<=bj/\lo<=bl/\lo<=bf
theorem LkV.go{lo N:Nat}{w:World}{u v:Value}{b:Nat}{n mm:Int}{a1:Option Addr}{c1:Nat}{kv:Value}{L:List CG}{P:CW}{al:Int->Bool}{left:Int}{ok:Nat->Prop}(h:LkV lo w u b left v)(hJn:Jn N w b n mm a1 c1 kv L P)(hA:Al N w b n mm a1 c1 kv L v al)(hok:∀q,q<N->q≠b->ok q)(hlo:∀q,lo<=q->ok q)(m:Nat):
  ∃gf cs,u=.func (.func gf) #[] cs/\AU Tryz.prog gf/\IA Tryz.prog (KpJ N b n mm a1 c1 kv L ok w.heap.size) m gf cs ((F3 L al left).map fun k=>#[fv k]) w:=by
 obtain⟨bj,bl,bf,rfl,h1,h2,h3,h4,h5,h6⟩:=h;exact⟨318,_,rfl,gu,dm h1 h2 h3 (hlo _ h4) (hlo _ h5) (hlo _ h6) hJn hA hok⟩
theorem mF{w0:World}{b:Nat}{left:Int}{v:Value}(hv:v.cells=#[v])(h1:v.oneCell'=true):Calls Tryz.prog 249 [.pointer (some ⟨b,0,none⟩),.int .i64 left,v].toArray w0 (BV fun u w'=>LkV w0.heap.size w' u b left v/\Ext w0 w'):=by
 refine BX (n:=8) Tryz.func249 rfl rfl rfl<|Zr<|FJ rfl rfl fun bj w1 hx1 hg1 hb1=>FJ rfl rfl fun bl w2 hx2 hg2 hb2=>FJ rfl hv fun bf w3 hx3 hg3 hb3=>?_;have s1:=hx1.size;have s2:=hx2.size;refine Za<|nl<|Zr<|Zv (Lx (l:=[]) (k:=[.pointer (some ⟨bj,0,none⟩),.pointer (some ⟨bl,0,none⟩),.pointer (some ⟨bf,0,none⟩)]) rfl rfl)<|Za<|nl<|wp_ret<|Zw rfl rfl rfl ⟨⟨bj,bl,bf,rfl,(hb1.ext hx2).ext hx3,hb2.ext hx3,hb3,hg1,by omega,by omega⟩,(hx1.tr hx2).tr hx3⟩
end
end Go.Proofs.YtfmelbioccbdoaaGreat
end
section
namespace Go.Md
open Go Go.RowKit
section
variable {κ ν:Type}[DecidableEq κ][Enc κ][Flat κ][Key κ][Enc ν][Flat ν]{w w':World}{P:Program}{t tk te:TypeId}
theorem MpS.chgb{b c:Nat}{l:List (κ×ν)}{T:TypeId}{cs:List Value}(h:MpS w b l)(k:Chg c w w')(hx:Bx w c T cs):MpS w' b l:=h.chg k (h.mp.not_cells hx)
theorem XI{b:Nat}{l:List (κ×ν)}{k:κ}{v:ν}(ht:P.underlying t=some (.map tk te))(K:KT P tk κ)(h:MpS w b l)(hk:Key.ok k=true):
  ∃w',(Instr.mapUpdate t (.map (some b)) (fv k) (fv v)).run P w=.ok () w'/\Chg b w w'/\MpS w' b (Ca l k v):=by
 obtain⟨es,c,hb,he,hn,hok,hs,hc⟩:=h;obtain⟨lk,hlk⟩:=K.of k hk;have hok':∀p∈Ca l k v,Key.ok p.1=true:=fun p hp=>by
  rcases QG hp with rfl|hp
  ·exact hk
  ·exact hok p hp
 rcases Mp.find K he hok hk w with⟨h1,h2⟩|⟨j,u,h1,h2,e,h3,h4⟩
 ·obtain⟨h5,h6⟩:=ND (w:=w) (o:=.map (es.push ⟨fv k,fv v,c⟩) (c+1)) hb
  refine⟨_,?_,h5,_,_,h6,?_,LH hn,hok',?_,?_⟩
  ·simp[Instr.mapUpdate,run_underlying ht,MapKept.run_getObj_map hb,K.kd.check w false hlk,h1,MapKept.run_setObj_map _ hb,Result.andThen,ChangeMaps.setBlock]
  ·rw[(Ky (d:=v) h2).2.2.1 v,Array.toList_push,List.map_append,he]
   simp
  ·rw[Array.toList_push,List.map_append,List.nodup_append]
   refine⟨hs,by simp,fun a ha b hb=>?_⟩;obtain⟨e,he,rfl⟩:=List.mem_map.1 ha;have:=hc e he;simp at hb;omega
  ·intro e he
   rw[Array.toList_push]at he;rcases List.mem_append.1 he with he|he
   ·have:=hc e he;omega
   ·simp at he;subst he;exact Nat.lt_succ_self _
 ·obtain⟨h5,h6⟩:=ND (w:=w) (o:=.map (es.modify j (fun e'=>{e' with key:=fv k,val:=fv v})) c) hb
  have hset:(es.modify j (fun e'=>{e' with key:=fv k,val:=fv v})).toList=es.toList.set j {e with key:=fv k,val:=fv v}:=by
   rw[Array.toList_modify,ChangeMaps.modify_eq_set _ _ _ e (by simpa using h3)]
  have hj:es.toList[j]?=some e:=by simpa using h3
  have hjl:=(List.getElem?_eq_some_iff.1 hj).1;have hbn:(es.toList.set j {e with key:=fv k,val:=fv v}).map (·.born)=es.toList.map (·.born):=by
   rw[List.map_set];apply List.ext_getElem?;intro i;rw[List.getElem?_set];split
   ·rename_i hi
    subst hi;rw[List.length_map,if_pos hjl,List.getElem?_map,hj]
    rfl
   ·rfl
  refine⟨_,?_,h5,_,_,h6,?_,LH hn,hok',?_,?_⟩
  ·simp[Instr.mapUpdate,run_underlying ht,MapKept.run_getObj_map hb,K.kd.check w false hlk,h1,h3,h4,K.kd.stays w hlk,MapKept.run_setObj_map _ hb,Result.andThen,ChangeMaps.setBlock]
  ·rw[(NC (d:=v) hn h2).2.2.1 v,Array.toList_modify,ChangeMaps.modify_eq_set _ _ _ e (by simpa using h3),List.map_set,he,List.map_set]
  ·rw[hset,hbn];exact hs
  ·intro e' he'
   have:e'.born∈(es.toList.set j {e with key:=fv k,val:=fv v}).map (·.born):=List.mem_map.2 ⟨e',by rw[<-hset];exact he',rfl⟩;rw[hbn]at this;obtain⟨e2,h7,h8⟩:=List.mem_map.1 this;have:=hc e2 h7;omega
end
section
variable {P:Program}{Q:Exit->Act->World->Prop}{n:Nat}{L:Fr}{D:List Deferred}{w:World}{ops:Array Oper}{rest:List Oper}
variable {ty:TypeId}{pos:String}{af:Array Edge}{x y z:Operand}{t tk te:TypeId}
variable {κ ν:Type}[DecidableEq κ][Enc κ][Flat κ][Key κ][Enc ν][Flat ν]
theorem jA{b:Nat}{l:List (κ×ν)}{k:κ}{v:ν}(hx:ev n L x=.map (some b))(hy:ev n L y=fv k)(hz:ev n L z=fv v)(ht:P.underlying t=some (.map tk te))(K:KT P tk κ)(h:MpS w b l)(hk:Key.ok k=true)
  (cont:∀w',Chg b w w'->MpS w' b (Ca l k v)->wpList P ops Q rest (act n L D) w'):
  wpList P ops Q ({dst:=none,op:=.mapUpdate t x y z,type:=ty,pos:=pos,after:=af,guard:=none}::rest) (act n L D) w:=by
 obtain⟨w',hr,h1,h2⟩:=XI (v:=v) ht K h hk;refine wpList_plain rfl fun K hK=>?_;simp only[Oper.wp,Ep,execOp,hx,hy,hz,Sem.run_bind,hr,Result.andThen,Oper.upon];exact hK _ _ (cont w' h1 h2)
end
end Go.Md
namespace Go.Proofs.YtfmelbioccbdoaaGreat
open Go Go.Md Go.RowKit
attribute [local irreducible] Go.wpList Go.Code.wp Go.Calls Go.Md.Cu Go.Md.Mt Go.Md.Dl Go.Md.Ch Go.Code.wpIn Go.wpListIn
theorem Jn.asg{N B:Nat}{w w':World}{b:Nat}{n mm:Int}{a1:Option Addr}{c1:Nat}{kv:Value}{L:List CG}{P:CW}(h:Jn N w b n mm a1 c1 kv L P)(k:Asg B w w')(hB:N<=B):Jn N w' b n mm a1 c1 kv L P:=by
 obtain⟨W1,l,o,h1,h2,_,_,_,h3⟩:=k;exact(h.ext h2).chg h3 (by omega)
theorem Okb.jn{N B:Nat}{b:Nat}{n mm:Int}{a1:Option Addr}{c1:Nat}{kv:Value}{L:List CG}{P:CW}(hB:N<=B):Okb B (fun w=>Jn N w b n mm a1 c1 kv L P):=⟨fun h k=>h.ext k,fun h hl _ _ k=>h.chg k (by omega)⟩
theorem nZ(w:World):(zeroValue 3).run Tryz.prog w=.ok (fv (0:Int)) w:=TI.zv (α:=Int) (d:=0) AY rfl rfl w
set_option maxHeartbeats 8000000 in
theorem mG{N b:Nat}{n mm:Int}{a1:Option Addr}{c1:Nat}{kv:Value}{L:List CG}{al:Int->Bool}{v:Value}:∀(m:Nat){w0:World}{ms:Nat}{P:CW}{S:DV}{left:Int}{r:Bool×CW×DV},Jn N w0 b n mm a1 c1 kv L P->Al N w0 b n mm a1 c1 kv L v al->MpS w0 ms S->N<=ms->Fu L al m left P S=some r->
  Calls Tryz.prog 247 [.pointer (some ⟨b,0,none⟩),.int .i64 left,v,.map (some ms)].toArray w0 (BV fun u w'=>u=.bool r.1/\Jn N w' b n mm a1 c1 kv L r.2.1/\MpS w' ms r.2.2/\BelP (fun q=>q≠b/\q≠ms) w0.heap.size w0 w'):=by
 intro m
 induction m with
 |zero=>intro w0 ms P S left r _ _ _ _ hF;rw[Fu]at hF;cases hF
 |succ m ih=>
  intro w0 ms P S left r hJ hA hM hms hF;rw[Fu]at hF;have hv:v.cells=#[v]/\v.oneCell'=true:=by obtain⟨g,fs,cs,rfl,_,_⟩:=hA;exact⟨rfl,rfl⟩
  have hN:=hJ.size;have hlb:=hJ.lb;have hml:=hM.lt;refine ZF (m:=9) (n:=70) Tryz.func247 rfl rfl rfl<|Zr<|FJ rfl rfl fun b4 w1 hx1 hg1 hb1=>FJ rfl hv.1 fun b6 w2 hx2 hg2 hb2=>FJ rfl rfl fun b7 w3 hx3 hg3 hb3=>Za<|nl<|wp_scope_straight<|Zr<|FT Y0 fun b9 w4 hx4 hg4 hb4=>EW rfl rfl rfl Y0 hb4 rfl rfl (ble rfl) fun w5 hch5 hb5=>?_;have kx5:Ext w3 w5:=hx4.chg hch5 hg4;have k5:Ext w0 w5:=((hx1.tr hx2).tr hx3).tr kx5;have s1:=hx1.size;have s2:=hx2.size;have s3:=hx3.size;have s5:=kx5.size;have d4:Bx w5 b4 233 [.pointer (some ⟨b,0,none⟩)]:=((hb1.ext hx2).ext hx3).ext kx5;have d6:Bx w5 b6 236 [v]:=(hb2.ext hx3).ext kx5;have d7:Bx w5 b7 348 [.map (some ms)]:=hb3.ext kx5;have h9:Bx w5 b9 4 [.bool false]:=hb5;refine nl<|wp_seq<|wp_label<|wp_seq<|Zr<|Zv (AX rfl EY ((Bx.cs d4).at 0 rfl))<|Zm<|Zv (AX rfl Qh ((Bx.cs d6).at 0 rfl))<|Zc (xc gJ (mc rfl<|mc rfl<|mc rfl mn)) (mF hv.1 hv.2) fun u w6 hu=>?_;obtain⟨hlk,hx6⟩:=hu;have k6:=k5.tr hx6;have s6:=hx6.size;have z5:=k5.size;have l4:=hb1.lt;have l6:=hb2.lt;have l7:=hb3.lt;have l9:=h9.lt;have e4:=d4.ext hx6;have e6:=d6.ext hx6;have e7:=d7.ext hx6;have e9:=h9.ext hx6;have J6:=hJ.ext k6;have M6:=hM.ext k6;have A6:=hA.keep (BelP.of k6 hN);have hg4':w0.heap.size<=b4:=hg1;refine nl<|jM w0.heap.size (fun L' w=>L' 9=.pointer (some ⟨b9,0,none⟩)/\Bx w b9 4 [.bool r.1]/\Jn N w b n mm a1 c1 kv L r.2.1/\MpS w ms r.2.2/\BelP (fun q=>q≠b/\q≠ms) w0.heap.size w0 w) ?_ ?_
  ·refine wp_block<|bJ (α:=Int) (xs:=F3 L al left) (m:=9) (by decide) rfl (KpJ.kp (n:=n) (mm:=mm) (a1:=a1) (c1:=c1) (kv:=kv) (L:=L) (b:=b) (ok:=fun q=>q≠b/\q≠ms/\q≠b9) (show N<=w6.heap.size by omega))
    (hlk.go (N:=N) (ok:=fun q=>q≠b/\q≠ms/\q≠b9) J6 A6 (fun q h1 h2=>⟨h2,by omega,by omega⟩) (fun q h1=>⟨by omega,by omega,by omega⟩) 8) rfl
    (fun k W=>∃(P':CW)(S':DV),G8 L (fun a P S=>Fu L al m a P S) ((F3 L al left).drop k) P' S'=some r/\Bx W b9 4 [.bool false]/\Jn N W b n mm a1 c1 kv L P'/\MpS W ms S'/\BelP (fun q=>q≠b/\q≠ms/\q≠b9) w6.heap.size w6 W/\w6.heap.size<=W.heap.size)
    (fun c W=>c=.exit 0/\Bx W b9 4 [.bool r.1]/\Jn N W b n mm a1 c1 kv L r.2.1/\MpS W ms r.2.2/\BelP (fun q=>q≠b/\q≠ms/\q≠b9) w6.heap.size w6 W/\w6.heap.size<=W.heap.size)
    (fun k=>Okb.ex fun _=>Okb.ex fun _=>Okb.pure.and (Okb.bx.and ((Okb.jn (by omega)).and ((Okb.mps (by omega)).and ((Okb.belp (Nat.le_refl _) (Nat.le_refl _)).and Okb.size)))))
    (fun c=>Okb.pure.and (Okb.bx.and ((Okb.jn (by omega)).and ((Okb.mps (by omega)).and ((Okb.belp (Nat.le_refl _) (Nat.le_refl _)).and Okb.size)))))
    ⟨P,S,hF,e9,J6,M6,BelP.refl,Nat.le_refl _⟩ ?round ?done ?stop
   case done=>
    rintro D' W hD⟨P',S',hB,i1,iJ,iM,i3,i4⟩ hK;rw[List.drop_length,G8]at hB;cases hB;refine ZG (Mks.cons (w:=w6) Mks.nil Mks.nil (by omega) hD hK) ⟨rfl,i1,iJ,iM,?_⟩;exact(BelP.of k6 (Nat.le_refl _)).trans (i3.weak fun q h1 h2=>⟨by omega,h2.1,h2.2,by omega⟩)
   case stop=>
    rintro D' c W hD⟨rfl,i1,iJ,iM,i3,i4⟩ hK;refine wp_exit<|ZG (Mks.cons (w:=w6) Mks.nil Mks.nil (by omega) hD hK) ⟨rfl,i1,iJ,iM,?_⟩;exact(BelP.of k6 (Nat.le_refl _)).trans (i3.weak fun q h1 h2=>⟨by omega,h2.1,h2.2,by omega⟩)
   case round=>
    rintro ll k j A W hu⟨P',S',hB,i1,iJ,iM,i3,i4⟩ hAs;rw[Tx hu,G8]at hB;refine bS hB fun x Ex hB=>bS hB fun _ Ek hB=>?_;have hkey:=Xu Ek;have i1:=i1.asg hAs;have iJ:=iJ.asg hAs (show N<=w6.heap.size by omega);have iM:=iM.asg hAs (show ms<w6.heap.size by omega);have i3:=i3.asg hAs i4 (Nat.le_refl _);have i4:w6.heap.size<=W.heap.size:=Nat.le_trans i4 hAs.size;have f4:=e4.belp i3 e4.lt ⟨by omega,by omega,by omega⟩;have f6:=e6.belp i3 e6.lt ⟨by omega,by omega,by omega⟩;have f7:=e7.belp i3 e7.lt ⟨by omega,by omega,by omega⟩;have hz:=(RVo.sl.1 iJ.rv);obtain⟨a2',c2',e3,_,_,els⟩:=hz;cases e3;have hz:=Els.ix els Ex;obtain⟨b5,off5,cs5,rfl,i5,i6,q5,hcE⟩:=hz;obtain rfl:=Flat.iff.1 q5;refine wpIn_block<|wpIn_seq<|Iy rfl<|Zv (AX rfl EY ((Bx.cs f4).at 0 rfl))<|Zv (FB rfl)<|Zv (Ah rfl Kv)<|Zv (Ah rfl CP)<|Zv (AX rfl Dk ((Bx.cs iJ.bx).at 2 rfl))<|Zm<|Zv (Ao rfl rfl Tryz.underlying108 BR i5 i6)<|Zv (Ah rfl FV)<|Zv (AX rfl AY (hcE.at 1 rfl))<|Zv (Ki (r:=[.bool true,.int .i64 x.2]) KR fJ (pc rfl (pc rfl pn)) rfl)<|FT KR fun b11 w7 hx7 hg7 hb7=>EW rfl rfl rfl KR hb7 rfl rfl (ble rfl) fun w8 hch8 hb8=>nl<|?_;have kx8:Ext W w8:=hx7.chg hch8 hg7;have hb11:Bx w8 b11 350 (Flat.enc ((true,x.2):Bool×Int)):=hb8;have g4:=f4.ext kx8;have g6:=f6.ext kx8;have g7:=f7.ext kx8;have g9:=i1.ext kx8;have J8:=iJ.ext kx8;have M8:=iM.ext kx8;have s8:=kx8.size;have l11:=hb11.lt;have hW11:W.heap.size<=b11:=hg7;refine wpIn_seq<|wpIn_seq<|Iy rfl<|Zv (AX rfl UX ((Bx.cs g7).at 0 rfl))<|Zv (BO rfl KR rfl (Bx.cs hb11))<|Zv (kH (k:=((true,x.2):Bool×Int)) Tryz.underlying348 Vl (nZ _) M8.mp hkey rfl rfl)<|Zv (HV rfl rfl)<|nl<|PZ rfl (fun hs=>?_) (fun hs=>?_)
    ·have hB:=Ac hB hs
     exact wpIn_exit ⟨kx8.kf,⟨BelP.of kx8 i4,fun _=>⟨P',J8⟩⟩,P',S',hB,g9,J8,M8,i3.ext kx8 i4,Nat.le_trans i4 s8⟩
    have hB:=Ai hB hs;refine bS hB fun old Eo hB=>wpIn_skip<|wpIn_seq<|Iy rfl<|Zv (AX rfl UX ((Bx.cs g7).at 0 rfl))<|Zv (BO rfl KR rfl (Bx.cs hb11))<|jA (k:=((true,x.2):Bool×Int)) (v:=(1:Int)) rfl rfl rfl Tryz.underlying348 Vl M8 hkey fun w9 hch9 hM9=>nl<|?_;have m4:=g4.chgm hch9 M8.mp;have m6:=g6.chgm hch9 M8.mp;have m7:=g7.chgm hch9 M8.mp;have m9:=g9.chgm hch9 M8.mp;have m11:=hb11.chgm hch9 M8.mp;have J9:=J8.chg hch9 hms;have kf9:KeepsFrom w6.heap.size W w9:=kx8.kf.chgc hch9 (.inl (by omega));have be9:BelP (fun q=>q≠b/\q≠ms/\q≠b9) w6.heap.size W w9:=(BelP.of kx8 i4).chg hch9 (.inr fun h=>h.2.1 rfl);have s9:=hch9.size;refine wpIn_seq<|bD [] (.pure false 0 (.pure true 1 (.pure false 2 (.pure true 3 (.pure true 4 (.pure true 5 (.pure false 6 (.pure true 7 .fin)))))))) mixed (by kernel_rfl) (fun wd hxd=>?_);have p4:=m4.ext hxd;have p6:=m6.ext hxd;have p7:=m7.ext hxd;have p9:=m9.ext hxd;have p11:=m11.ext hxd;have Jd:=J9.ext hxd;have Mpd:=hM9.ext hxd;have kfd:=kf9.ext hxd;have bed:=be9.ext hxd (show w6.heap.size<=w9.heap.size by omega);have sd:=hxd.size;have hz:=JC Jd.part Eo;obtain⟨j1,j2,hco⟩:=hz;refine Zq rfl (fun _ hS=>AX rfl EY ((Bx.cs (p4.ext (hS.resolve_left nofun))).at 0 rfl)) (Ext.refl _)<|Zp rfl (fun _=>Ah rfl Tq)<|Zq rfl (fun _ hS=>AX rfl AY ((Bx.cs (p11.ext (hS.resolve_left nofun))).at 1 rfl)) (Ext.refl _)<|Zp rfl (fun _=>FB rfl)<|Zp rfl (fun _=>Ah rfl JY)<|Zp rfl (fun _=>Ia rfl rfl Tryz.underlying238 AY j1 j2)<|Zq rfl (fun _ hS=>AX rfl AY ((hco.ext (hS.resolve_left nofun)).at 0 rfl)) (Ext.refl _)<|Zp rfl (fun _=>Li)<|wpIn_seq<|Iy rfl<|Zm<|Zv (HV rfl rfl)<|Za<|nl<|wpIn_seq<|wpIn_seq<|Iy rfl<|Zm<|Zv (Ej rfl)<|nl<|jK (fun L' w=>∃(fr:Bool)(P2:CW)(S2:DV),L' 13=.bool fr/\L' 4=.pointer (some ⟨b4,0,none⟩)/\L' 9=.pointer (some ⟨b9,0,none⟩)/\L' 10=.int .i64 j/\L' 11=.pointer (some ⟨b11,0,none⟩)/\
     (fr=true->r=(true,GK P2 x.2 (AP (j+1)),S2))/\(fr=false->G8 L (fun a P S=>Fu L al m a P S) ((F3 L al left).drop (k+1)) P2 S2=some r)/\
     Bx w b4 233 [.pointer (some ⟨b,0,none⟩)]/\Bx w b9 4 [.bool false]/\Bx w b11 350 (Flat.enc ((true,x.2):Bool×Int))/\Jn N w b n mm (some ⟨b5,off5,none⟩) c1 kv L P2/\MpS w ms S2/\KeepsFrom w6.heap.size W w/\BelP (fun q=>q≠b/\q≠ms/\q≠b9) w6.heap.size W w) ?_ ?_
    ·refine PZ rfl (fun ho=>?_) (fun ho=>?_)
     ·have hB:=Ai hB (by simpa using ho)
      refine bS hB fun y Ey hB=>bS hB fun q Eq hB=>iC (fun wd w'=>BelP (fun q=>q≠b/\q≠ms) wd.heap.size wd w'/\∃P,Jn N w' b n mm (some ⟨b5,off5,none⟩) c1 kv L P) [] (.pure false 0 (.pure false 1 (.pure true 2 (.pure true 3 (.pure true 4 (.pure false 5 (.pure true 6 (.pure true 7 (.pure true 8 (.pure true 9 (.pure false 10 (.pure false 11 (.pure false 12 (.eff 13 (.pure true 14 .fin) .stop)))))))))))))) mixed (by kernel_rfl) (fun we hxe=>?_);have q4:=p4.ext hxe;have q6:=p6.ext hxe;have q7:=p7.ext hxe;have q9:=p9.ext hxe;have q11:=p11.ext hxe;have Je:=Jd.ext hxe;have Me:=Mpd.ext hxe;have se:=hxe.size;have S0:BelP (fun q=>q≠b/\q≠ms) we.heap.size we we/\∃P,Jn N we b n mm (some ⟨b5,off5,none⟩) c1 kv L P:=⟨BelP.refl,_,Je⟩;have hz:=(RVo.sl.1 Je.rv);obtain⟨a3',c3',e3,_,_,els⟩:=hz;cases e3;have hz:=Els.ix els Ey;obtain⟨b8,off8,cs8,e8,i7,i8,q8,hcY⟩:=hz;cases e8;obtain rfl:=Flat.iff.1 q8;have hby:b5<N/\b5≠b:=by
       have hz:=(RVo.sl.1 Je.rv);obtain⟨a3',c3',e3,_,_,els⟩:=hz;cases e3;rcases els with e|⟨b',o',e,h1,h2,_⟩
       ·rw[e]at i8;simp at i8;omega
       ·cases e;exact h1
      have hcY':∀w',BelP (fun q=>q≠b/\q≠ms) we.heap.size we w'->Cs w' b5 (off5+(AP (old-1)).toNat*Enc.n (Int×Int)) (Flat.enc y):=fun w' hk i c hc=>by
       have h1:=hcY i c hc;have h2:=World.block_lt_of_cell? we _ h1;exact(World.cell?_of_block (a:=⟨b5,_,none⟩) (hk.block b5 (by omega) ⟨hby.2,by omega⟩)).trans h1
      refine Zq rfl (fun _ hS=>AX rfl EY ((Bx.cs (q4.belp (hS.resolve_left nofun).1 q4.lt ⟨by omega,by omega⟩)).at 0 rfl)) S0<|Zq rfl (fun _ hS=>AX rfl EY ((Bx.cs (q4.belp (hS.resolve_left nofun).1 q4.lt ⟨by omega,by omega⟩)).at 0 rfl)) S0<|Zp rfl (fun _=>FB rfl)<|Zp rfl (fun _=>Ah rfl Kv)<|Zp rfl (fun _=>Ah rfl CP)<|Zq rfl (fun _ hS=>by obtain⟨_,h⟩:=(hS.resolve_left nofun).2;exact AX rfl Dk ((Bx.cs h.bx).at 2 rfl)) S0<|Zn rfl<|Zp rfl (fun _=>DX rfl rfl)<|Zp rfl (fun _=>Ao rfl rfl Tryz.underlying108 BR i7 i8)<|Zp rfl (fun _=>Ah rfl FU)<|?_;refine Zq rfl (fun _ hS=>AX rfl AY ((hcY' _ (hS.resolve_left nofun).1).at 0 rfl)) S0<|Zq rfl (fun _ hS=>AX rfl Qh ((Bx.cs (q6.belp (hS.resolve_left nofun).1 q6.lt ⟨by omega,by omega⟩)).at 0 rfl)) S0<|Zq rfl (fun _ hS=>AX rfl UX ((Bx.cs (q7.belp (hS.resolve_left nofun).1 q7.lt ⟨by omega,by omega⟩)).at 0 rfl)) S0<|?_;have Ae:Al N we b n mm (some ⟨b5,off5,none⟩) c1 kv L v al:=A6.keep (((i3.trans bed).ext hxe (by omega)).weak fun q h1 h2=>⟨by omega,h2,by omega,by omega⟩);refine D9 rfl<|Zc (xc Y9 (mc rfl<|mc rfl<|mc rfl<|mc rfl mn)) (ih Je Ae Me hms Eq) ?_;rintro _ wf⟨rfl,Jf,Mf,bef⟩;refine nl ⟨fun _ _=>⟨bef,_,Jf⟩,?_⟩;refine Zp rfl (fun _=>Li)<|lf ⟨q.1,q.2.1,q.2.2,rfl,rfl,rfl,rfl,rfl,fun h=>?_,fun h=>?_,?_,?_,?_,Jf,Mf,?_,?_⟩
      ·have hB:=Ac hB h
       cases hB;rfl
      ·exact Ai hB h
      ·exact q4.belp bef q4.lt ⟨by omega,by omega⟩
      ·exact q9.belp bef q9.lt ⟨by omega,by omega⟩
      ·exact q11.belp bef q11.lt ⟨by omega,by omega⟩
      ·exact(kfd.ext hxe).trans (bef.kf fun q h1=>⟨by omega,by omega⟩)
      ·exact(bed.ext hxe (by omega)).trans (bef.weak fun q h1 h2=>⟨by omega,h2.1,h2.2.1⟩)
     ·have hB:=Ac hB (by simpa using ho)
      cases hB;have ho:(decide (old=0))=true:=by simpa using ho
      refine wpIn_skip<|lf ⟨true,P',_,?_,rfl,rfl,rfl,rfl,fun _=>rfl,(fun h=>by cases h),p4,p9,p11,Jd,Mpd,kfd,bed⟩;exact congrArg Value.bool ho
    rintro L' wg⟨fr,P2,S2,l13,l4',l9',l10,l11',hft,hff,r4,r9,r11,Jg,Mg,kfg,beg⟩;have zg:w6.heap.size<=wg.heap.size:=Nat.le_trans i4 beg.size;refine wpIn_seq<|Iy rfl<|Zv (Ba l13)<|nl<|PZ rfl (fun hf=>?_) (fun hf=>?_)
    ·have hz:=EP Eo;obtain⟨j3,j4,_⟩:=hz
     have hP:P'.l.length=12:=P'.h;refine wpIn_seq<|bD [8] (.pure false 0 (.pure true 1 (.pure false 2 (.pure true 3 (.pure true 4 (.pure true 5 (.pure true 6 (.pure true 7 (.eff 8 .fin .stop))))))))) mixed (by kernel_rfl) (fun wh hxh=>?_);have t4:=r4.ext hxh;have t9:=r9.ext hxh;have t11:=r11.ext hxh;have Jh:=Jg.ext hxh;have Mh:=Mg.ext hxh;have sh:=hxh.size;refine Zq rfl (fun _ hS=>AX l4' EY ((Bx.cs (t4.ext (hS.resolve_left nofun))).at 0 rfl)) (Ext.refl _)<|Zp rfl (fun _=>Ah l11' Tq)<|Zq rfl (fun _ hS=>AX rfl AY ((Bx.cs (t11.ext (hS.resolve_left nofun))).at 1 rfl)) (Ext.refl _)<|Zp rfl (fun _=>Ba l10)<|Zp rfl (fun _=>BJ rfl rfl)<|Zp rfl (fun _=>FB rfl)<|Zp rfl (fun _=>Ah rfl JY)<|Zp rfl (fun _=>Ia rfl rfl Tryz.underlying238 AY j3 (by omega))<|?_;refine D9 rfl<|EW (vs:=[.int .i64 (AP (j+1))]) rfl rfl rfl AY Jh.bx rfl rfl (by rw[PL,List.length_singleton];omega) fun wi hchi hbi=>nl ⟨fun h=>(h (by decide)).elim,?_⟩;rw[show 0+28+x.2.toNat*1=28+x.2.toNat by omega]at hbi;have Ji:=Jh.set j3 (by omega) hchi hbi;have u9:=t9.chg hchi (by omega);have Mi:=Mh.chgb hchi Jh.bx;have bei:BelP (fun q=>q≠b/\q≠ms/\q≠b9) w6.heap.size W wi:=(beg.ext hxh zg).chg hchi (.inr fun h=>h.1 rfl);have kfi:=(kfg.ext hxh).chgc hchi (.inl (by omega));refine wpIn_seq<|Iy rfl<|EW l9' rfl rfl Y0 u9 rfl rfl (ble rfl) fun wj hchj hbj=>nl<|wpIn_exit ?_;have hr:=hft hf;subst hr;refine⟨kfi.chgc hchj (.inl (by omega)),rfl,hbj,Ji.chg hchj (by omega),Mi.chgb hchj u9,i3.trans (bei.chg hchj (.inr fun h=>h.2.2 rfl)),?_⟩;rw[hchj.size,hchi.size];omega
    ·exact wpIn_skip ⟨kfg,⟨beg,fun _=>⟨P2,Jg⟩⟩,P2,S2,hff hf,r9,Jg,Mg,i3.trans beg,zg⟩
  rintro L' D3 w19 M19⟨l9',h9',J19,Mp19,be19⟩;refine Zr<|Zv (AX l9' Y0 ((Bx.cs h9').at 0 rfl))<|Za<|nl<|wp_ret<|bI rfl M19 fun w' hk=>⟨_,.tmp rfl rfl .nil,rfl,J19.tak hk (by omega),Mp19.tak hk,be19.tak hk (Nat.le_refl _)⟩
end Go.Proofs.YtfmelbioccbdoaaGreat
end
section
namespace Go.Proofs.YtfmelbioccbdoaaGreat
open Go Go.Md Go.RowKit
attribute [local irreducible] Go.wpList Go.Code.wp Go.Calls Go.Md.Cu Go.Md.Mt Go.Md.Dl Go.Md.Ch Go.Code.wpIn Go.wpListIn
theorem aH{S:DV}{lf:Bool×Int->Bool}{k:Bool×Int}(hn:(S.map (·.1)).Nodup):Dq (S.filter fun z=>lf z.1) k=S.filter fun z=>lf z.1&& !decide (z.1=k):=by
 rw[Nn (List.Nodup.sublist (List.Sublist.map _ List.filter_sublist) hn),List.filter_filter]
 congr 1
 funext z
 rw[Bool.and_comm]
theorem SA{κ ν:Type}[DecidableEq κ]{lf:κ->Bool}{k:κ}:∀{S:List (κ×ν)}{z:κ×ν},z∈S->z.1=k->lf k=true->(S.filter fun z=>lf z.1&& !decide (z.1=k)).length<(S.filter fun z=>lf z.1).length
 |a::S,z,hz,hk,hl=>by
  have le:(S.filter fun z=>lf z.1&& !decide (z.1=k)).length<=(S.filter fun z=>lf z.1).length:=by
   have:(S.filter fun z=>lf z.1&& !decide (z.1=k))=(S.filter fun z=>lf z.1).filter fun z=>!decide (z.1=k):=by
    rw[List.filter_filter];congr 1;funext z;rw[Bool.and_comm]
   rw[this];exact List.length_filter_le _ _
  rcases List.mem_cons.1 hz with rfl|hz
  ·subst hk
   simp only[List.filter_cons,hl,decide_true,Bool.not_true,Bool.and_false,Bool.false_eq_true,if_false,if_true,List.length_cons];omega
  ·have ih:=SA hz hk hl
   simp only[List.filter_cons];split<;>split<;>simp_all<;>omega
set_option maxHeartbeats 8000000 in
theorem SB{N b F:Nat}{n mm:Int}{a1:Option Addr}{c1:Nat}{kv:Value}{L:List CG}{al:Int->Bool}{v:Value}{w0:World}{P:CW}{r:Int×CW}(hJ:Jn N w0 b n mm a1 c1 kv L P)(hA:Al N w0 b n mm a1 c1 kv L v al)(hF:D5 F L n al=some r):
  Calls Tryz.prog 140 [.pointer (some ⟨b,0,none⟩),v].toArray w0 (BV fun u w'=>u=.int .i64 r.1/\Jn N w' b n mm a1 c1 kv L r.2/\BelP (fun q=>q≠b) w0.heap.size w0 w'):=by
 unfold D5 at hF;have hN:=hJ.size;have hlb:=hJ.lb;refine BX (n:=50) Tryz.func140 rfl rfl rfl<|Zr<|Za<|nl<|Zr<|Zm<|Zv (ah (r:=List.replicate 12 (.int .i64 0)) Hg Tryz.underlying238 AY rfl)<|Zv (FB rfl)<|Zv (Ah rfl JY)<|EW (vs:=List.replicate 12 (.int .i64 0)) rfl rfl rfl Hg hJ.bx rfl rfl (by rw[PL];exact ble rfl) fun w1 hch1 hb1=>?_;have hb1':Bx w1 b 241 (FO n mm a1 c1 kv L (Ar.fill 12 0)):=by rw[<-Vn (P:=P)];exact hb1
 have be1:BelP (fun q=>q≠b) w0.heap.size w0 w1:=BelP.refl.chg hch1 (.inr fun h=>h rfl);have J1:=hJ.keep (be1.mono hN) hb1';have s1:=hch1.size;refine nl<|Zr<|iq (κ:=Bool×Int) (ν:=Int) fun ms w2 hx2 hg2 hM2=>?_;have J2:=J1.ext hx2;have be2:=be1.ext hx2 (by omega);have s2:=hx2.size;have l2:=hM2.lt;refine Za<|nl<|Zr<|Za<|nl<|wp_seq<|Zr<|Zm<|Zv (FB rfl)<|Zv (Ah rfl Kv)<|Zv (Ah rfl Ib)<|Zv (AX rfl AY ((Bx.cs J2.bx).at 0 rfl))<|Zm<|nl<|ct (fun L' w=>L' 6=.int .i64 r.1/\Jn N w b n mm a1 c1 kv L r.2/\BelP (fun q=>q≠b) w0.heap.size w0 w) ?_ ?_
 ·refine wp_block<|lp (I:=fun m' L' w=>∃(i c:Int)(P':CW)(S:DV),G9 L al F n m' i c P'=some r/\L' 20=.int .i64 i/\L' 19=.int .i64 n/\L' 6=.int .i64 c/\L' 5=.map (some ms)/\L' 0=.pointer (some ⟨b,0,none⟩)/\L' 1=v/\Jn N w b n mm a1 c1 kv L P'/\MpS w ms S/\BelP (fun q=>q≠b) w0.heap.size w0 w/\w2.heap.size<=w.heap.size) F
   ⟨0,0,Ar.fill 12 0,[],hF,rfl,rfl,rfl,rfl,rfl,rfl,J2,hM2,be2,Nat.le_refl _⟩ ?_
  rintro m' L' w⟨i,c,P',S,hB,l20,l19,l6,l5,l0,l1,J,M,be,hs⟩;rcases m' with _|m'
  ·rw[G9]at hB;cases hB
  rw[G9]at hB;refine Zr<|Zv (BN l20 l19)<|nl<|wp_seq<|cnd rfl (fun hi=>?_) (fun hi=>?_)
  ·have hB:=Ac hB hi
   refine bS hB fun q Eq hB=>wp_skip<|wp_seq<|ct (fun L' w=>∃(c':Int)(S':DV),G9 L al F n m' (AP (i+1)) c' q.2.1=some r/\L' 20=.int .i64 i/\L' 19=.int .i64 n/\L' 6=.int .i64 c'/\L' 5=.map (some ms)/\L' 0=.pointer (some ⟨b,0,none⟩)/\L' 1=v/\Jn N w b n mm a1 c1 kv L q.2.1/\MpS w ms S'/\BelP (fun q=>q≠b) w0.heap.size w0 w/\w2.heap.size<=w.heap.size) ?_ ?_
   ·refine wp_block<|Zr<|Zv (Ba l20)<|Za<|nl<|Zr<|Zv (Ba l0)<|Zv (FB rfl)<|Zv (Ah rfl JY)<|Zv (BO rfl Hg (LJ P') J.part)<|FT Hg fun b8 w3 hx3 hg3 hb3=>bM (u:=P') rfl rfl Hg rfl hb3 rfl fun w4 hch4 hb4=>?_
    have kx4:Ext w w4:=hx3.chg hch4 hg3;have J4:=J.ext kx4;have M4:=M.ext kx4;have be4:=be.ext kx4 (by omega);have s4:=kx4.size;have l4:=hb4.lt;refine nl<|wp_seq<|Zr<|Zv (Ba l5)<|lJ rfl Tryz.underlying348 M4 fun br w5 hx5 hg5 hR5=>nl<|?_;have J5:=J4.ext hx5;have be5:=be4.ext hx5 (by omega);have hb5:=hb4.ext hx5;have s5:=hx5.size;have hnd:(S.map (·.1)).Nodup:=by obtain⟨_,_,_,_,h,_⟩:=M;exact h
    have hml:ms<w4.heap.size:=M4.lt;refine ct (fun L' w=>L' 7=.int .i64 i/\L' 8=.pointer (some ⟨b8,0,none⟩)/\L' 20=.int .i64 i/\L' 19=.int .i64 n/\L' 6=.int .i64 c/\L' 5=.map (some ms)/\L' 0=.pointer (some ⟨b,0,none⟩)/\L' 1=v/\Jn N w b n mm a1 c1 kv L P'/\MpS w ms ([]:DV)/\Bx w b8 238 (Flat.enc P')/\BelP (fun q=>q≠b) w0.heap.size w0 w/\w5.heap.size<=w.heap.size) ?_ ?_
    ·refine wp_block<|lp (I:=fun m'' L' w=>∃lf:Bool×Int->Bool,(S.filter fun z=>lf z.1).length<=m''/\Rg w br ms (S.filter fun z=>lf z.1) lf/\L' 28=.pointer (some ⟨br,0,none⟩)/\L' 7=.int .i64 i/\L' 8=.pointer (some ⟨b8,0,none⟩)/\L' 20=.int .i64 i/\L' 19=.int .i64 n/\L' 6=.int .i64 c/\L' 5=.map (some ms)/\L' 0=.pointer (some ⟨b,0,none⟩)/\L' 1=v/\Jn N w b n mm a1 c1 kv L P'/\Bx w b8 238 (Flat.enc P')/\BelP (fun q=>q≠b) w0.heap.size w0 w/\w5.heap.size<=w.heap.size) S.length
      ⟨fun _=>true,List.length_filter_le _ _,?_,rfl,rfl,rfl,l20,l19,l6,l5,l0,l1,J5,hb5,be5,Nat.le_refl _⟩ ?_
     ·rw[List.filter_eq_self.2 fun _ _=>rfl]
      exact hR5
     clear l20 l19 l6 l5 l0 l1;rintro m'' L' w⟨lf,hm',hR,l28,l7,l8,l20,l19,l6,l5,l0,l1,J,hb8,be,hs⟩;have hokk:=hR.mps.mp.ok;have hrl:=hR.ltr;have hbl:=hR.mps.lt;have zJ:=J.size;have l8':=hb8.lt;refine Zr<|lK l28 hR (fun hd=>?_) (fun z w' hz hlz hpz hsz hent hR'=>?_)
     ·refine Zv (F4 (vs:=[.bool false]) rfl rfl)<|nl<|wp_seq<|cnd rfl (fun h=>by cases h) (fun _=>?_)
      have e0:(S.filter fun z=>lf z.1)=[]:=by
       rw[List.eq_nil_iff_forall_not_mem];intro z hz;have h1:=hd z hz;have h2:=(List.mem_filter.1 hz).2;rw[h1]at h2;cases h2
      rw[e0]at hR;exact wp_exit<|Md.lf ⟨l7,l8,l20,l19,l6,l5,l0,l1,J,hR.mps,hb8,be,hs⟩
     ·have hk:Key.ok z.1=true:=hokk z hz
      have hzO:z∈S:=(List.mem_filter.1 hz).1;have J':Jn N w' b n mm a1 c1 kv L P':=J.keep (hpz.weak fun q h1 h2=>⟨by omega,by omega⟩) (J.bx.belp hpz (by omega) (by omega));have be':=be.trans (hpz.weak fun q h1 h2=>⟨by omega,by omega⟩);have hb8':=hb8.belp hpz l8' (by omega);refine Zv (F4 (vs:=[.bool true,fv z.1,fv z.2]) rfl rfl)<|nl<|wp_seq<|cnd rfl (fun _=>?_) (fun h=>by cases h);refine wp_skip<|wp_block<|Zr<|Zv (lN l28 hent)<|Zv (F4 (vs:=[fv z.1,fv z.2]) rfl rfl)<|FT KR fun b9 w6 hx6 hg6 hb6=>bM (u:=z.1) rfl rfl KR rfl hb6 rfl fun w7 hch7 hb7=>?_;have kx7:Ext w' w7:=hx6.chg hch7 hg6;have hR7:=hR'.ext kx7;have s7:=kx7.size;refine nl<|rg<|Zv (Ba l5)<|Zv (BO rfl KR (Flat.len z.1) (Bx.cs hb7))<|iw (k:=z.1) rfl rfl Tryz.underlying348 Vl hR7 hk fun w8 hch8 hR8=>nl ?_;rw[aH hnd]at hR8;have hlt:=SA (lf:=lf) hzO rfl hlz;refine lq (m''-1) (by omega) ⟨fun k=>lf k&& !decide (k=z.1),(show(S.filter fun y=>lf y.1&& !decide (y.1=z.1)).length<=m''-1 by omega),hR8,l28,l7,l8,l20,l19,l6,l5,l0,l1,(J'.ext kx7).chg hch8 (by omega),(hb8'.ext kx7).chgm hch8 hR7.mps.mp,(be'.ext kx7 (by omega)).chg hch8 (.inl (by omega)),?_⟩;rw[hch8.size];omega
    rintro L'' w9⟨l7,l8,l20,l19,l6,l5,l0,l1,J9,M9,hb9,be9,s9⟩;have hA9:=hA.keep (be9.mono hN);refine Zr<|Zv (Ba l0)<|Zv (Ba l7)<|Zv (Ba l1)<|Zv (Ba l5)<|Zc (xc Y9 (mc rfl<|mc rfl<|mc rfl<|mc rfl mn)) (mG F J9 hA9 M9 (by omega) Eq) fun u wa hu=>?_;obtain⟨rfl,Ja,Ma,bea⟩:=hu;have l8':=hb9.lt;have M9l:=M9.lt;have hba:=hb9.belp bea l8' ⟨by omega,fun e=>by subst e;exact M9.mp.not_cells hb9 rfl⟩;have be10:=be9.trans (bea.weak fun q h1 h2=>⟨by omega,h2,by omega⟩);have s10:=bea.size;refine nl<|wp_seq<|FZ [] (.pure true 0 (.pure true 1 (.pure true 2 (.pure false 3 (.pure false 4 (.pure true 5 .fin)))))) mixed (by kernel_rfl) (fun wd hxd=>?_);have Jd:=Ja.ext hxd;have Md':=Ma.ext hxd;have hbd:=hba.ext hxd;have sd:=hxd.size;have bed:=be10.ext hxd (by omega);refine Zp rfl (fun _=>Ba l0)<|Zp rfl (fun _=>FB rfl)<|Zp rfl (fun _=>Ah rfl JY)<|Zq rfl (fun _ hS=>BO rfl Hg (LJ q.2.1) ((Jd.ext (hS.resolve_left nofun)).part)) (Ext.refl _)<|Zq rfl (fun _ hS=>BO l8 Hg (LJ P') (Bx.cs (hbd.ext (hS.resolve_left nofun)))) (Ext.refl _)<|Zp rfl (fun _=>jd (α:=Ar 12 Int) (a:=q.2.1) (b:=P') rfl fP fO rfl rfl rfl rfl rfl)<|cnd rfl (fun hne=>?_) (fun hne=>?_)
    ·have hB:=Ac hB hne
     refine rg<|Zv (Ba l6)<|Zv (BJ rfl rfl)<|Za<|nl<|Md.lf ⟨_,_,hB,l20,l19,rfl,l5,l0,l1,Jd,Md',bed,by omega⟩
    ·have hB:=Ai hB hne
     exact wp_skip<|Md.lf ⟨_,_,hB,l20,l19,l6,l5,l0,l1,Jd,Md',bed,by omega⟩
   ·rintro L'' w9⟨c',S',hB,l20,l19,l6,l5,l0,l1,J9,M9,be9,s9⟩
    refine rg<|Zv (BJ l20 rfl)<|Zm<|nl<|lq m' (Nat.lt_succ_self _) ⟨_,_,_,_,hB,rfl,l19,l6,l5,l0,l1,J9,M9,be9,s9⟩
  ·have hB:=Ai hB hi
   cases hB;exact wp_exit<|Md.lf ⟨l6,J,be⟩
 rintro L' w9⟨l6,J9,be9⟩;exact Zr<|Zv (Ba l6)<|Za<|nl<|wp_ret<|Zw rfl rfl rfl ⟨rfl,J9,be9⟩
section
abbrev EF:=Int×Int×List CG×List Int
def I9(L:List CG):Prop:=L.length<=1000/\∀x∈L,(0<=x.2/\x.2<12)/\0<=x.1/\x.1<12
instance {L:List CG}:Decidable (I9 L):=inferInstanceAs (Decidable (_/\_))
def ShOk(x:EF):Bool:=decide (I9 x.2.2.1)&&decide (x.2.2.2=[])
theorem ShOk.spec{x:EF}(h:ShOk x=true):I9 x.2.2.1/\x.2.2.2=[]:=by simpa[ShOk]using h
theorem GJ{B:Nat}{w w1 w2:World}(h:Ext w w1)(k:Below B w1 w2)(hB:w.heap.size<=B):Ext w w2:=
 ⟨k.os.trans h.os,k.tape.trans h.tape,k.output.trans h.output,Nat.le_trans h.size k.size,fun q hq=>(k.block q (by omega)).trans (h.block q hq)⟩
section
variable {N M:Nat}{w w':World}{b:Nat}{n mm:Int}{a1:Option Addr}{c1:Nat}{kv:Value}{L:List CG}{P P':CW}
theorem Jn.mono(h:Jn N w b n mm a1 c1 kv L P)(h1:N<=M)(h2:M<=w.heap.size):Jn M w b n mm a1 c1 kv L P:=⟨h2,by have:=h.lb;omega,h.bx,h.rv.mono fun q _ hq=>⟨by omega,hq.2⟩,h.kn⟩
theorem Jn.back(h:Jn N w b n mm a1 c1 kv L P)(k:BelP (fun q=>q≠b) w.heap.size w w')(h1:Jn M w' b n mm a1 c1 kv L P'):Jn N w' b n mm a1 c1 kv L P':=h.keep (k.mono h.size) h1.bx
theorem Jn.bel(h:Jn N w b n mm a1 c1 kv L P)(k:Below N w w'):Jn N w' b n mm a1 c1 kv L P:=
 ⟨Nat.le_trans h.size k.size,h.lb,h.bx.below k h.lb,h.rv.keep (fun q hq _=>k.block q hq.1) k.size,h.kn⟩
theorem Jn.rep(h:Jn N w b n mm a1 c1 kv L P):Enc.rep (fun _=>True) w (FO n mm a1 c1 kv L P) ((((n,mm,L,[]):EF),(Ar.fill 2 (Ar.fill 12 0)),P):EF×Ar 2 (Ar 12 Int)×Ar 12 Int):=by
 obtain⟨a,cc,e,h3,h4,h5⟩:=RVo.sl.1 (RVo.rv h.rv);cases e;obtain⟨a2,c2,rfl,h6⟩:=h.kn;refine⟨[.int .i64 n,.int .i64 mm,.slice a1 L.length c1,.slice a2 0 c2],List.replicate 24 (.int .i64 0)++P.l.flatMap Flat.enc,by unfold FO PK;rw[List.append_assoc],?_,?_⟩
 ·exact⟨[.int .i64 n],[.int .i64 mm]++([.slice a1 L.length c1]++[.slice a2 0 c2]),rfl,rfl,[.int .i64 mm],[.slice a1 L.length c1]++[.slice a2 0 c2],rfl,rfl,[.slice a1 L.length c1],[.slice a2 0 c2],rfl,⟨a1,c1,rfl,h3,h4,h5⟩,a2,c2,rfl,Nat.zero_le _,h6,.inl rfl⟩
 ·exact⟨List.replicate 24 (.int .i64 0),P.l.flatMap Flat.enc,rfl,rfl,rfl⟩
theorem NK{m:Nat}{i:Int}{α:Type}{x:α}(h0:0<=i)(h1:i<m):ix (Ar.fill m x).l i=some x:=by
 unfold ix;rw[if_pos h0];show(List.replicate m x)[i.toNat]?=some x;rw[List.getElem?_replicate,if_pos (by omega)]
theorem MZ(h:Jn N w b n mm a1 c1 kv L P)(hv:I9 L){k:Nat}(hk:k<L.length):Calls Tryz.prog 141 [.pointer (some ⟨b,0,none⟩),.int .i64 (k:Int)].toArray w (BV fun r W'=>r=.bool true/\Ext w W'):=by
 refine lg (x0:=((n,mm,L,[]),Ar.fill 2 (Ar.fill 12 0),P)) (Bx.cs h.bx) h.rep (x1:=(k:Int)) (r:=true) ?_;have hL:=hv.2 _ (List.getElem_mem hk);have e1:ix L (k:Int)=some L[k]:=by simp[ix,List.getElem?_eq_getElem hk]
 unfold Hq;simp only[e1,Am,AR];rw[NK (by decide) (by decide)];simp only[AR];rw[NK hL.2.1 hL.2.2];simp only[AR];rw[NK (by decide) (by decide)];simp only[AR];rw[NK hL.1.1 hL.1.2]
 rfl
theorem Pv(hv:I9 L):Al N w b n mm a1 c1 kv L (.func (.func 141) #[.pointer (some ⟨b,0,none⟩)] #[]) (fun _=>true):=
 ⟨141,[.pointer (some ⟨b,0,none⟩)],[],rfl,OJ,fun _ _ _ _ hJ hk=>MZ hJ hv hk⟩
theorem dw{b3 b6:Nat}{k:Int}(hv:I9 L)(h3:Bx w b3 233 [.pointer (some ⟨b,0,none⟩)])(h6:Bx w b6 3 [.int .i64 k])(n3:b3<N/\b3≠b)(n6:b6<N/\b6≠b):
  Al N w b n mm a1 c1 kv L (.func (.func 252) #[] #[.pointer (some ⟨b3,0,none⟩),.pointer (some ⟨b6,0,none⟩)]) (fun i=>!decide (i=k)):=by
 refine⟨252,[],[.pointer (some ⟨b3,0,none⟩),.pointer (some ⟨b6,0,none⟩)],rfl,gM,fun W P i hW hJ hi=>?_⟩;have d3:=h3.belp hW n3.1 n3.2;have d6:=h6.belp hW n6.1 n6.2;refine(?_:Calls Tryz.prog 252 [.int .i64 (i:Int),.pointer (some ⟨b3,0,none⟩),.pointer (some ⟨b6,0,none⟩)].toArray W _);refine BX (n:=13) Tryz.func252 rfl rfl rfl<|Zr<|Za<|nl<|Zr<|Zv (AX rfl EY ((Bx.cs d3).at 0 rfl))<|Zm<|Zc (xc OJ (mc rfl<|mc rfl mn)) (MZ hJ hv hi) ?_;rintro _ w1⟨rfl,hx1⟩;have e6:=d6.ext hx1;refine Zm<|Gt rfl rfl<|Zm<|Gt rfl rfl<|Zv (AX rfl AY ((Bx.cs e6).at 0 rfl))<|Gt rfl rfl<|Zv (Di rfl rfl)<|Zv (EJ rfl rfl rfl)<|Za<|nl<|wp_ret<|Zw rfl rfl rfl ⟨rfl,hx1⟩
def Ld(L:List CG)(x:CG)(i:Int):Bool:=match ix L i with|some y=>(!decide (y.1=x.1))&& !decide (y.2=x.2)|none=>false
theorem dx{b3 bs b7:Nat}{x:CG}(hv:I9 L)(h3:Bx w b3 233 [.pointer (some ⟨b,0,none⟩)])(hs:Bx w bs 110 [.int .i64 n,.int .i64 mm,.slice a1 L.length c1,kv])(h7:Bx w b7 112 (Flat.enc x))(n3:b3<N/\b3≠b)(ns:bs<N/\bs≠b)(n7:b7<N/\b7≠b):
  Al N w b n mm a1 c1 kv L (.func (.func 253) #[] #[.pointer (some ⟨b3,0,none⟩),.pointer (some ⟨bs,0,none⟩),.pointer (some ⟨b7,0,none⟩)]) (Ld L x):=by
 refine⟨253,[],[.pointer (some ⟨b3,0,none⟩),.pointer (some ⟨bs,0,none⟩),.pointer (some ⟨b7,0,none⟩)],rfl,gN,fun W P i hW hJ hi=>?_⟩;have d3:=h3.belp hW n3.1 n3.2;have ds:=hs.belp hW ns.1 ns.2;have d7:=h7.belp hW n7.1 n7.2;refine(?_:Calls Tryz.prog 253 [.int .i64 (i:Int),.pointer (some ⟨b3,0,none⟩),.pointer (some ⟨bs,0,none⟩),.pointer (some ⟨b7,0,none⟩)].toArray W _);have e1:ix L (i:Int)=some L[i]:=by simp[ix,List.getElem?_eq_getElem hi]
 have hp2:Ld L x (i:Int)=((!decide (L[i].1=x.1))&& !decide (L[i].2=x.2)):=by unfold Ld;rw[e1]
 refine BX (n:=31) Tryz.func253 rfl rfl rfl<|Zr<|Za<|nl<|wp_seq<|bN (fun wd w'=>Ext wd w') [] (.pure false 0 (.pure true 1 (.eff 2 (.pure true 3 (.pure true 4 (.pure false 5 (.pure true 6 (.pure true 7 (.pure true 8 (.pure false 9 (.pure true 10 (.pure false 11 (.pure true 12 (.pure true 13 (.pure true 14 (.pure true 15 (.pure false 16 (.pure true 17 (.pure true 18 (.pure true 19 (.pure false 20 (.pure true 21 (.pure false 22 (.pure true 23 (.pure true 24 (.pure true 25 .fin))))))))))))))))))))))) .stop))) mixed (by kernel_rfl) (fun wd hxd=>?_);have f3:=d3.ext hxd;have fs:=ds.ext hxd;have f7:=d7.ext hxd;have Jd:=hJ.ext hxd;refine Zq rfl (fun _ hS=>AX rfl EY ((Bx.cs (f3.ext (hS.resolve_left nofun))).at 0 rfl)) (Ext.refl _)<|Zn rfl<|D9 rfl<|Zc (xc OJ (mc rfl<|mc rfl mn)) (MZ Jd hv hi) ?_;rintro _ w1⟨rfl,hx1⟩;have gs:=fs.ext hx1;have g7:=f7.ext hx1;have Jg:=Jd.ext hx1;have hz:=(RVo.sl.1 Jg.rv);obtain⟨a3',c3',e3,_,_,els⟩:=hz;cases e3;have hz:=Els.ix els e1;obtain⟨b8,off8,cs8,rfl,i7,i8,q8,hcY⟩:=hz;obtain rfl:=Flat.iff.1 q8;have hld:∀w',Ext wd w'->Cs w' b8 (off8+((i:Int)).toNat*Enc.n (Int×Int)) (Flat.enc L[i]):=fun w' hk=>by
  have hz:=(RVo.sl.1 Jd.rv);obtain⟨a3',c3',e3,_,_,els⟩:=hz;cases e3;have hz:=Els.ix els e1;obtain⟨b9,off9,cs9,e9,_,_,q9,hc9⟩:=hz;cases e9;obtain rfl:=Flat.iff.1 q9;exact hc9.ext hk
 refine nl ⟨fun _ _=>hx1,?_⟩;refine Zn rfl<|Yt rfl rfl (fun _=>Ah rfl CP)<|Yi rfl rfl (fun _ hS=>AX rfl Dk ((Bx.cs (fs.ext (hS.resolve_left nofun))).at 2 rfl)) hx1<|Yt rfl rfl (fun _=>Bw)<|Yt rfl rfl (fun _=>Ao rfl rfl Tryz.underlying108 BR i7 i8)<|Yt rfl rfl (fun _=>Ah rfl FU)<|Yi rfl rfl (fun _ hS=>AX rfl AY ((hld _ (hS.resolve_left nofun)).at 0 rfl)) hx1<|Yt rfl rfl (fun _=>Ah rfl FU)<|Yi rfl rfl (fun _ hS=>AX rfl AY ((Bx.cs (f7.ext (hS.resolve_left nofun))).at 0 rfl)) hx1<|Yt rfl rfl (fun _=>Di rfl rfl)<|Zp rfl (fun _=>EJ rfl rfl rfl)<|Zn rfl<|Or.elim (Bool.eq_false_or_eq_true (!decide (L[i].1=x.1))) (fun hg=>?_) (fun hg=>?_)
 ·refine Yt rfl (bt hg) (fun _=>Ah rfl CP)<|Yi rfl (bt hg) (fun _ hS=>AX rfl Dk ((Bx.cs (fs.ext (hS.resolve_left nofun))).at 2 rfl)) hx1<|Yt rfl (bt hg) (fun _=>Bw)<|Yt rfl (bt hg) (fun _=>Ao rfl rfl Tryz.underlying108 BR i7 i8)<|Yt rfl (bt hg) (fun _=>Ah rfl FV)<|Yi rfl (bt hg) (fun _ hS=>AX rfl AY ((hld _ (hS.resolve_left nofun)).at 1 rfl)) hx1<|Yt rfl (bt hg) (fun _=>Ah rfl FV)<|Yi rfl (bt hg) (fun _ hS=>AX rfl AY ((Bx.cs (f7.ext (hS.resolve_left nofun))).at 1 rfl)) hx1<|Yt rfl (bt hg) (fun _=>Di rfl rfl)<|Zp rfl (fun _=>EJ rfl hg rfl)<|Zp rfl (fun _=>Li)<|?_
  refine wp_ret<|Zw rfl rfl rfl ⟨?_,hxd.tr hx1⟩;rw[hp2,hg,Bool.true_and]
  rfl
 ·refine Yf rfl (Ak hg)<|Yh rfl (Ak hg) hx1<|Yf rfl (Ak hg)<|Yf rfl (Ak hg)<|Yf rfl (Ak hg)<|Yh rfl (Ak hg) hx1<|Yf rfl (Ak hg)<|Yh rfl (Ak hg) hx1<|Yf rfl (Ak hg)<|Zp rfl (fun _=>Eb rfl hg rfl)<|Zp rfl (fun _=>Li)<|?_
  refine wp_ret<|Zw rfl rfl rfl ⟨?_,hxd.tr hx1⟩;rw[hp2,hg,Bool.false_and]
  rfl
end
set_option maxHeartbeats 2000000 in
theorem dz{w0:World}{n mm:Int}{a1 a2:Option Addr}{c1 c2:Nat}{L:List CG}(r1:RV w0 (.slice a1 L.length c1) L)(h2:c2<=maxLen):
  Calls Tryz.prog 139 [.agg [.int .i64 n,.int .i64 mm,.slice a1 L.length c1,.slice a2 0 c2].toArray].toArray w0 (BV fun u w'=>∃b,u=.pointer (some ⟨b,0,none⟩)/\w0.heap.size<=b/\Jn w'.heap.size w' b n mm a1 c1 (.slice a2 0 c2) L (Ar.fill 12 0)/\Ext w0 w'):=by
 refine BX (n:=40) Tryz.func139 rfl rfl rfl<|Zr<|FJ rfl rfl fun b1 w1 hx1 hg1 hb1=>Za<|nl<|Zr<|Zv (BO rfl EX rfl (Bx.cs hb1))<|Zv (Ki (r:=FO n mm a1 c1 (.slice a2 0 c2) L (Ar.fill 12 0)) fE fF (pc rfl pn) rfl)<|FJ rfl rfl fun b w2 hx2 hg2 hb2=>?_;have d1:=hb1.ext hx2;have k2:=hx1.tr hx2;have s1:=hx1.size;refine Za<|nl<|wp_seq<|Zr<|Zv (Ah rfl Hw)<|Zv (AX rfl JD ((Bx.cs d1).at 3 rfl))<|Zv (Bp rfl Tryz.underlying41)<|Zm<|nl<|?_;have hlt:=hb2.lt;have J:Jn w2.heap.size w2 b n mm a1 c1 (.slice a2 0 c2) L (Ar.fill 12 0):=⟨Nat.le_refl _,hlt,hb2,((r1.old).ext k2).mono fun q _ hq=>⟨by have:=k2.size;omega,by omega⟩,a2,c2,rfl,h2⟩;refine wp_block<|lp (I:=fun m' L' w=>L' 12=.int .i64 0/\L' 11=.int .i64 ((0:Nat):Int)/\L' 3=.pointer (some ⟨b,0,none⟩)/\w=w2) 0 ⟨rfl,rfl,rfl,rfl⟩ ?_;rintro m' L' w⟨l12,l11,l3,rfl⟩;refine Zr<|Zv (BN l12 l11)<|nl<|wp_seq<|cnd rfl (fun h=>by simp at h) (fun _=>?_);exact wp_exit<|Zr<|Zv (Ba l3)<|Za<|nl<|wp_ret<|Zw rfl rfl rfl ⟨b,rfl,by omega,J,k2⟩
def Gu(F:Nat)(L:List CG)(n c0:Int):Nat->Int->List Int->Option (List Int)
 |0,_,_=>none
 |m+1,k,out=>
  if decide (k<(L.length:Int))=true then
   (ix L k)>>=fun x=>
   (D5 F L n (fun i=>!decide (i=k)))>>=fun q1=>
   (D5 F L n (Ld L x))>>=fun q2=>
   (app 8 out ([if decide (q1.1<c0)=true then 2 else if decide (AP (1+q2.1)=c0)=true then 1 else 0]:List Int))>>=fun o=>
   Gu F L n c0 m (AP (k+1)) o
  else some out
def Fv(F:Nat)(x0:EF):Option (List Int):=
 if ShOk x0=true then(D5 F x0.2.2.1 x0.1 (fun _=>true))>>=fun q0=>Gu F x0.2.2.1 x0.1 q0.1 F 0 []else none
theorem aI{F:Nat}{x:Int}(hF:0<F):slices_Contains_int F [] x=some false:=by
 obtain⟨F,rfl⟩:∃g,F=g+1:=⟨F-1,by omega⟩
 rfl
set_option maxHeartbeats 8000000 in
theorem Yb{w0:World}{v0:Value}{x0:EF}(r0:RV w0 v0 x0){F:Nat}{r:List Int}(hF:Fv F x0=some r):
  Calls Tryz.prog 148 [v0].toArray w0 (BV fun v w'=>∃u0:Value,v=u0/\Row 3 w0.heap.size w' u0 r/\Ext w0 w'):=by
 obtain⟨n,mm,L,K⟩:=x0;unfold Fv at hF;rcases hok:ShOk (n,mm,L,K)with _|_
 ·rw[if_neg (by simp[hok])]at hF;cases hF
 rw[if_pos hok]at hF;have hz:=ShOk.spec hok;obtain⟨hv,hK⟩:=hz;have hv:I9 L:=hv;have hK:K=[]:=hK;subst hK;refine bS hF fun q0 E0 hF=>?_;have E0:D5 F L n (fun _=>true)=some q0:=E0;have hF:Gu F L n q0.1 F 0 []=some r:=hF;have hz:=id r0;obtain⟨_,rfl,_,_,rfl,rfl,_,_,rfl,rfl,_,_,rfl,⟨a1,c1,rfl,p1,q3,e1⟩,a2,c2,rfl,p2,q4,e2⟩:=hz;have r3:=RV.of1 p1 q3 e1;refine BX (n:=64) Tryz.func148 rfl rfl rfl<|Zr<|FJ rfl rfl fun b1 w1 hx1 hg1 hb1=>Za<|nl<|Zr<|Zv (BO rfl EX rfl (Bx.cs hb1))<|Zc (xc UY (mc rfl mn)) (dz (a2:=a2) (n:=n) (mm:=mm) (r3.ext hx1) q4) ?_;rintro _ w2⟨b,rfl,hgb,J2,hx2⟩;refine FT EY fun b3 w3 hx3 hg3 hb3=>EW rfl rfl rfl EY hb3 rfl rfl (ble rfl) fun w4 hch4 hb4=>?_;have kx4:Ext w2 w4:=hx3.chg hch4 hg3;have d1:=(hb1.ext hx2).ext kx4;have d3:Bx w4 b3 233 [.pointer (some ⟨b,0,none⟩)]:=hb4;have s1:=hx1.size;have s2:=hx2.size;have s4:=kx4.size;have l1:=hb1.lt;have lb2:=J2.lb;have l3:=d3.lt;have J4:Jn w4.heap.size w4 b n mm a1 c1 (.slice a2 0 c2) L (Ar.fill 12 0):=(J2.ext kx4).mono s4 (Nat.le_refl _);have k4:=(hx1.tr hx2).tr kx4;have hB:w0.heap.size<=w4.heap.size:=k4.size;refine nl<|Zr<|Zv (AX rfl EY ((Bx.cs d3).at 0 rfl))<|Zv (AX rfl EY ((Bx.cs d3).at 0 rfl))<|Zv (Lx (l:=[.pointer (some ⟨b,0,none⟩)]) (k:=[]) rfl rfl)<|Zc (xc OI (mc rfl<|mc rfl mn)) (SB (n:=n) (mm:=mm) (kv:=.slice a2 0 c2) J4 (Pv hv) E0) ?_;rintro _ w5⟨rfl,J5,be5⟩;have s5:=be5.size;have d15:=d1.belp be5 d1.lt (by omega);have d35:=d3.belp be5 d3.lt (by omega);have k5:Ext w0 w5:=GJ k4 (be5.below (B:=w0.heap.size) (by omega) fun q hq=>by omega) (Nat.le_refl _);refine Za<|nl<|Zr<|Za<|nl<|wp_seq<|Zr<|Zv (Ah rfl CP)<|Zv (AX rfl Dk ((Bx.cs d15).at 2 rfl))<|Zv (Bp rfl Tryz.underlying108)<|Zm<|nl<|?_;have l1b:b1<w4.heap.size:=by omega
 have l3b:b3<w4.heap.size:=l3;refine ct (fun L' w=>∃u:Value,L' 5=u/\Row 3 w4.heap.size w u r/\Ext w0 w) ?_ ?_
 ·refine wp_block<|lp (I:=fun m' L' w=>∃(kk:Int)(out:List Int)(u:Value)(Pc:CW),Gu F L n q0.1 m' kk out=some r/\L' 5=u/\Row 3 w4.heap.size w u out/\L' 19=.int .i64 kk/\L' 18=.int .i64 (L.length:Int)/\L' 17=.slice a1 L.length c1/\L' 4=.int .i64 q0.1/\L' 3=.pointer (some ⟨b3,0,none⟩)/\L' 1=.pointer (some ⟨b1,0,none⟩)/\Bx w b1 110 [.int .i64 n,.int .i64 mm,.slice a1 L.length c1,.slice a2 0 c2]/\Bx w b3 233 [.pointer (some ⟨b,0,none⟩)]/\Jn w4.heap.size w b n mm a1 c1 (.slice a2 0 c2) L Pc/\Ext w0 w/\w4.heap.size<=w.heap.size) F
   ⟨0,[],_,q0.2,hF,rfl,Row.nil,rfl,rfl,rfl,rfl,rfl,rfl,d15,d35,J4.back be5 J5,k5,s5⟩ ?_
  clear d15 d35 J5 k5 be5 d1 d3 J4;rintro m' L' w⟨kk,out,u,Pc,hBq,l5,R,l19,l18,l17,l4,l3,l1,d1,d3,J,k,hs⟩;rcases m' with _|m'
  ·rw[Gu]at hBq;cases hBq
  rw[Gu]at hBq;have hz:=RV.sl R.rv;obtain⟨au,cu,rfl,-,-,-⟩:=hz;refine Zr<|Zv (BN l19 l18)<|nl<|wp_seq<|cnd rfl (fun hi=>?_) (fun hi=>?_)
  ·have hBq:=Ac hBq hi
   refine bS hBq fun x Ex hBq=>bS hBq fun q1 E1 hBq=>bS hBq fun q2 E2 hBq=>bS hBq fun o Ea hBq=>?_;have hz:=EP Ex;obtain⟨i0,i1,i2⟩:=hz;obtain⟨kn,rfl⟩:∃kn:Nat,kk=(kn:Int):=⟨kk.toNat,by omega⟩;have hz:=(RVo.sl.1 J.rv);obtain⟨a3',c3',e3,_,_,els⟩:=hz;cases e3;have hz:=Els.ix els Ex;obtain⟨b8,off8,cs8,rfl,i7,i8,q8,hcY⟩:=hz;obtain rfl:=Flat.iff.1 q8;refine wp_skip<|wp_seq<|ct (fun L' w=>∃(u:Value)(Pc:CW),L' 5=u/\Row 3 w4.heap.size w u o/\L' 19=.int .i64 (kn:Int)/\L' 18=.int .i64 (L.length:Int)/\L' 17=.slice (some ⟨b8,off8,none⟩) L.length c1/\L' 4=.int .i64 q0.1/\L' 3=.pointer (some ⟨b3,0,none⟩)/\L' 1=.pointer (some ⟨b1,0,none⟩)/\Bx w b1 110 [.int .i64 n,.int .i64 mm,.slice (some ⟨b8,off8,none⟩) L.length c1,.slice a2 0 c2]/\Bx w b3 233 [.pointer (some ⟨b,0,none⟩)]/\Jn w4.heap.size w b n mm (some ⟨b8,off8,none⟩) c1 (.slice a2 0 c2) L Pc/\Ext w0 w/\w4.heap.size<=w.heap.size) ?_ ?_
   ·refine wp_block<|Zr<|Zv (Ba l19)<|Zv (Ao l17 l19 Tryz.underlying108 BR i7 i8)<|Zv (BO rfl BR rfl hcY)<|FT AY fun b6 w6 hx6 hg6 hb6=>FT BR fun b7 w7 hx7 hg7 hb7=>EW rfl rfl rfl AY (hb6.ext hx7) rfl rfl (ble rfl) fun w8 hch8 hb8=>EW rfl rfl rfl BR (hb7.chg hch8 (by have:=hb6.lt;omega)) rfl rfl (ble rfl) fun w9 hch9 hb9=>nl<|?_
    have s6:=hx6.size;have s7:=hx7.size;have kx9:Ext w w9:=((hx6.tr hx7).chg hch8 hg6).chg hch9 (by omega);have l6:=hb6.lt;have l7:=hb7.lt;have s9:=kx9.size;have z9:w9.heap.size=w7.heap.size:=by rw[hch9.size,hch8.size]
    have e6:Bx w9 b6 3 [.int .i64 (kn:Int)]:=hb8.chg hch9 (by omega);have e7:Bx w9 b7 112 (Flat.enc x):=hb9;have e1:=d1.ext kx9;have e3:=d3.ext kx9;have J9:=J.ext kx9;have hlb:=J.lb;have J9':Jn w9.heap.size w9 b n mm (some ⟨b8,off8,none⟩) c1 (.slice a2 0 c2) L Pc:=J9.mono (by omega) (Nat.le_refl _);refine Zr<|Zv (AX l3 EY ((Bx.cs e3).at 0 rfl))<|Zv (Lx (l:=[]) (k:=[.pointer (some ⟨b3,0,none⟩),.pointer (some ⟨b6,0,none⟩)]) rfl (mc l3<|mc rfl mn))<|Zc (xc OI (mc rfl<|mc rfl mn)) (SB J9' (dw hv e3 e6 ⟨by omega,by omega⟩ ⟨by omega,by omega⟩) E1) ?_;rintro _ wa⟨rfl,Ja,bea⟩;have sa:=bea.size;have f1:=e1.belp bea e1.lt (by omega);have f3:=e3.belp bea e3.lt (by omega);have f6:=e6.belp bea e6.lt (by omega);have f7:=e7.belp bea e7.lt (by omega);have Ja':=J9.back bea Ja;have Ja2:Jn wa.heap.size wa b n mm (some ⟨b8,off8,none⟩) c1 (.slice a2 0 c2) L q1.2:=Ja.mono sa (Nat.le_refl _);refine Za<|nl<|Zr<|Zv (AX l3 EY ((Bx.cs f3).at 0 rfl))<|Zv (Lx (l:=[]) (k:=[.pointer (some ⟨b3,0,none⟩),.pointer (some ⟨b1,0,none⟩),.pointer (some ⟨b7,0,none⟩)]) rfl (mc l3<|mc l1<|mc rfl mn))<|Zc (xc OI (mc rfl<|mc rfl mn)) (SB Ja2 (dx hv f3 f1 f7 ⟨by omega,by omega⟩ ⟨by omega,by omega⟩ ⟨by omega,by omega⟩) E2) ?_;rintro _ wb⟨rfl,Jb,beb⟩;have sb:=beb.size;have g1:=f1.belp beb f1.lt (by omega);have g3:=f3.belp beb f3.lt (by omega);have g6:=f6.belp beb f6.lt (by omega);have Jb':=Ja'.back beb Jb;have kb:Ext w0 wb:=GJ (GJ (k.tr kx9) (bea.below (B:=w0.heap.size) (by omega) fun q hq=>by omega) (Nat.le_refl _)) (beb.below (B:=w0.heap.size) (by omega) fun q hq=>by omega) (Nat.le_refl _);have hrw:∀q,(Value.slice au out.length cu).ownBlock=some q->w4.heap.size<=q/\q<w.heap.size:=fun q e=>R.lt q e;have Rb:Row 3 w4.heap.size wb (.slice au out.length cu) out:=((R.ext kx9).belp bea fun q e=>⟨by have:=hrw q e;omega,by have:=hrw q e;omega⟩).belp beb fun q e=>⟨by have:=hrw q e;omega,by have:=hrw q e;omega⟩;have hsb:w4.heap.size<=wb.heap.size:=by omega
    have hkn:RV wb (.slice a2 0 c2) ([]:List Int):=RV.of1 (l:=[]) (Nat.zero_le _) q4 (.inl rfl);clear Ja Ja2 J9 J9' J R k d1 d3 hs;refine Zv (BJ rfl rfl)<|Za<|nl<|wp_block<|wp_seq<|Zr<|Zv (Ah l1 Hw)<|Zv (AX rfl JD ((Bx.cs g1).at 3 rfl))<|Zv (AX rfl AY ((Bx.cs g6).at 0 rfl))<|Zc (xc fe (mc rfl<|mc rfl mn)) (lI hkn (F:=1) (r:=false) (aI (by decide))) ?_;rintro _ wc⟨rfl,hxc⟩;refine Za<|nl<|cnd rfl (fun h=>by cases h) (fun _=>?_);have h1:=g1.ext hxc;have h3:=g3.ext hxc;have h6:=g6.ext hxc;have Jc:=Jb'.ext hxc;have kc:=kb.tr hxc;have Rc:=Rb.ext hxc;have sc:=hxc.size;have i1':kn<L.length:=by omega
    refine rg<|Zv (AX l3 EY ((Bx.cs h3).at 0 rfl))<|Zv (AX rfl AY ((Bx.cs h6).at 0 rfl))<|Zc (xc OJ (mc rfl<|mc rfl mn)) (MZ Jc hv i1') ?_;rintro _ we⟨rfl,hxe⟩;refine Zm<|Gt rfl rfl<|Zm<|Gt rfl rfl<|Zv (Ba l4)<|Gt rfl rfl<|Zv (BN rfl rfl)<|Zv (EJ rfl rfl rfl)<|Za<|nl<|?_;have d1:=h1.ext hxe;have d3:=h3.ext hxe;have d6:=h6.ext hxe;have J:=Jc.ext hxe;have k:=kc.tr hxe;have R:=Rc.ext hxe;have hs:w4.heap.size<=we.heap.size:=Nat.le_trans hsb (Nat.le_trans sc hxe.size);refine cnd rfl (fun hlt=>?_) (fun hlt=>?_)
    ·skip
     refine rg<|Zv (Ba l5)<|JB (cs:=[.int .i64 2]) Tryz.underlying41 AY rfl (pc rfl pn) rfl rfl rfl rfl rfl fun bo w8 hx8 hg8 hb8=>?_;have o8:Row (α:=Int) 3 _ w8 (.slice (some ⟨bo,0,none⟩) 1 1) [2]:=Row.lit hg8 hb8 rfl (ble rfl);have ew:(if decide (q1.1<q0.1)=true then(2:Int)else if decide (AP (1+q2.1)=q0.1)=true then 1 else 0)=2:=by rw[if_pos hlt]
     rw[ew]at Ea;have Rx:=R.ext hx8;refine Nr (l:=out) (k:=([2]:List Int)) rfl rfl Tryz.underlying41 AY rfl rfl Rx (RV.els o8.rv) Ea (Nat.le_trans hs hx8.size) fun v9 w9 o9 hB9 hg9 hw9=>?_;have s8:=hx8.size;have J8:=J.ext hx8;have lb:=J.lb;refine Za<|nl<|lf ⟨v9,_,rfl,o9,l19,l18,l17,l4,l3,l1,(d1.ext hx8).below hB9 l1b,(d3.ext hx8).below hB9 l3b,J8.bel hB9,GJ (k.tr hx8) hB9 hB,Nat.le_trans (Nat.le_trans hs s8) hB9.size⟩
    ·refine Zr<|Zv (AX l3 EY ((Bx.cs d3).at 0 rfl))<|Zv (AX rfl AY ((Bx.cs d6).at 0 rfl))<|Zc (xc OJ (mc rfl<|mc rfl mn)) (MZ J hv i1') ?_
     rintro _ wf⟨rfl,hxf⟩;refine Zm<|Gt rfl rfl<|Zm<|Gt rfl rfl<|Zv (Ba l4)<|Gt rfl rfl<|Zv (HV rfl rfl)<|Zv (EJ rfl rfl rfl)<|Za<|nl<|?_;have d1:=d1.ext hxf;have d3:=d3.ext hxf;have J:=J.ext hxf;have k:=k.tr hxf;have R:=R.ext hxf;have hs:w4.heap.size<=wf.heap.size:=Nat.le_trans hs hxf.size;refine cnd rfl (fun heq=>?_) (fun heq=>?_)
     ·skip
      refine rg<|Zv (Ba l5)<|JB (cs:=[.int .i64 1]) Tryz.underlying41 AY rfl (pc rfl pn) rfl rfl rfl rfl rfl fun bo w8 hx8 hg8 hb8=>?_;have o8:Row (α:=Int) 3 _ w8 (.slice (some ⟨bo,0,none⟩) 1 1) [1]:=Row.lit hg8 hb8 rfl (ble rfl);have ew:(if decide (q1.1<q0.1)=true then(2:Int)else if decide (AP (1+q2.1)=q0.1)=true then 1 else 0)=1:=by rw[if_neg (by simp[hlt]),if_pos heq]
      rw[ew]at Ea;have Rx:=R.ext hx8;refine Nr (l:=out) (k:=([1]:List Int)) rfl rfl Tryz.underlying41 AY rfl rfl Rx (RV.els o8.rv) Ea (Nat.le_trans hs hx8.size) fun v9 w9 o9 hB9 hg9 hw9=>?_;have s8:=hx8.size;have J8:=J.ext hx8;have lb:=J.lb;refine Za<|nl<|lf ⟨v9,_,rfl,o9,l19,l18,l17,l4,l3,l1,(d1.ext hx8).below hB9 l1b,(d3.ext hx8).below hB9 l3b,J8.bel hB9,GJ (k.tr hx8) hB9 hB,Nat.le_trans (Nat.le_trans hs s8) hB9.size⟩
     ·skip
      refine rg<|Zv (Ba l5)<|JB (cs:=[.int .i64 0]) Tryz.underlying41 AY rfl (pc rfl pn) rfl rfl rfl rfl rfl fun bo w8 hx8 hg8 hb8=>?_;have o8:Row (α:=Int) 3 _ w8 (.slice (some ⟨bo,0,none⟩) 1 1) [0]:=Row.lit hg8 hb8 rfl (ble rfl);have ew:(if decide (q1.1<q0.1)=true then(2:Int)else if decide (AP (1+q2.1)=q0.1)=true then 1 else 0)=0:=by rw[if_neg (by simp[hlt]),if_neg (by simp[heq])]
      rw[ew]at Ea;have Rx:=R.ext hx8;refine Nr (l:=out) (k:=([0]:List Int)) rfl rfl Tryz.underlying41 AY rfl rfl Rx (RV.els o8.rv) Ea (Nat.le_trans hs hx8.size) fun v9 w9 o9 hB9 hg9 hw9=>?_;have s8:=hx8.size;have J8:=J.ext hx8;have lb:=J.lb;refine Za<|nl<|lf ⟨v9,_,rfl,o9,l19,l18,l17,l4,l3,l1,(d1.ext hx8).below hB9 l1b,(d3.ext hx8).below hB9 l3b,J8.bel hB9,GJ (k.tr hx8) hB9 hB,Nat.le_trans (Nat.le_trans hs s8) hB9.size⟩
   ·rintro L'' wz⟨u,Pz,l5,R,l19,l18,l17,l4,l3,l1,d1,d3,J,k,hs⟩
    refine rg<|Zv (BJ l19 rfl)<|Zm<|nl<|lq m' (Nat.lt_succ_self _) ⟨_,_,_,_,hBq,l5,R,rfl,l18,l17,l4,l3,l1,d1,d3,J,k,hs⟩
  ·have hBq:=Ai hBq hi
   cases hBq;exact wp_exit<|lf ⟨_,l5,R,k⟩
 rintro L' wz⟨u,l5,R,k⟩;exact Zr<|Zv (Ba l5)<|Za<|nl<|wp_ret<|Zw rfl rfl rfl ⟨_,rfl,R.bnd hB,k⟩
end
end Go.Proofs.YtfmelbioccbdoaaGreat
end
section
namespace Go.Md
open Go Go.RowKit
section
variable {P:Program}{n:Nat}{L:Fr}{w:World}{ty:TypeId}{pos:String}{af:Array Edge}{dst:Option Nat}{gdd:Option (Nat×Bool)}{x z:Operand}
theorem mH{α:Type}[Enc α][Flat α]{m:Nat}{X:Ar m α}{k:IntKind}{i:Int}{y:α}{t e:TypeId}{bytes:Nat}{z0:List Value}(hx:ev n L x=.agg (List.flatMap Flat.enc X.l).toArray)(hi:ev n L z=.int k i)(ht:P.underlying t=some (.array m e))(he:TI P e (Enc.agg α) (Enc.n α) bytes z0)(hy:ix X.l i=some y):
  (execOp (ev n L) {dst:=dst,op:=.index t x z,type:=ty,pos:=pos,after:=af,guard:=gdd}).run P w=.ok (.value (Enc.val α (Flat.enc y))) w:=by
 obtain⟨i0,i1,i2⟩:=EP hy;have hX:=X.h;have hl:i.toNat<X.l.length:=(List.getElem?_eq_some_iff.1 i2).1;have hs:X.l=X.l.take i.toNat++(y::X.l.drop (i.toNat+1)):=by
  rw[<-(List.getElem?_eq_some_iff.1 i2).2,List.getElem_cons_drop,List.take_append_drop]
 have hlen:((X.l.take i.toNat).flatMap Flat.enc:List Value).length=i.toNat*Enc.n α:=by rw[Flat.flen,List.length_take,Nat.min_eq_left (by omega)]
 have hr:=FL he w ((X.l.take i.toNat).flatMap Flat.enc) ((X.l.drop (i.toNat+1)).flatMap Flat.enc) y;have e1:(X.l.take i.toNat).flatMap Flat.enc++(Flat.enc y++(X.l.drop (i.toNat+1)).flatMap Flat.enc)=(X.l.flatMap Flat.enc:List Value):=by
  conv=>rhs;rw[hs]
  rw[List.flatMap_append,List.flatMap_cons]
 rw[e1,hlen]at hr;have i3:i<(m:Int):=by omega
 simp[execOp,hx,hi,Instr.index,asIntOf,run_underlying ht,i0,i3,he.size,hr,Result.andThen]
end
end Go.Md
namespace Go.Proofs.YtfmelbioccbdoaaGreat
open Go Go.Md Go.RowKit
attribute [local irreducible] Go.wpList Go.Code.wp Go.Calls Go.Md.Cu Go.Md.Mt Go.Md.Dl Go.Md.Ch Go.Code.wpIn
def Ho(F:Nat)(x:EF):Option (Ar 12 Int):=if ShOk x=true then(D5 F x.2.2.1 x.1 (fun _=>true))>>=fun q=>some q.2 else none
def SC(X:Ar 12 Int)(i:Int):Option Int:=ix X.l i
theorem Qf{F:Nat}{x:EF}{X:Ar 12 Int}(h:Ho F x=some X):I9 x.2.2.1/\x.2.2.2=[]/\∃q,D5 F x.2.2.1 x.1 (fun _=>true)=some q/\q.2=X:=by
 unfold Ho at h;rcases hok:ShOk x with _|_
 ·rw[if_neg (by simp[hok])]at h;cases h
 rw[if_pos hok]at h;obtain⟨q,h1,h2⟩:=Md.bs h;cases h2;exact⟨(ShOk.spec hok).1,(ShOk.spec hok).2,q,h1,rfl⟩
theorem ZT{w0:World}{n mm:Int}{a1 a2:Option Addr}{c1 c2:Nat}{L:List CG}{K:List Int}(hK:K=[])(r1:RV w0 (.slice a1 L.length c1) L)(h2:c2<=maxLen):
  Calls Tryz.prog 139 [.agg [.int .i64 n,.int .i64 mm,.slice a1 L.length c1,.slice a2 K.length c2].toArray].toArray w0 (BV fun u w'=>∃b,u=.pointer (some ⟨b,0,none⟩)/\w0.heap.size<=b/\Jn w'.heap.size w' b n mm a1 c1 (.slice a2 0 c2) L (Ar.fill 12 0)/\Ext w0 w'):=by
 subst hK;exact dz r1 h2
def Dw(F:Nat)(x3:(Ar 12 Int)):Nat->(List Int)->Int->Option ((List Int))
 |0,_,_=>none
 |m+1,y1,y2=>
  if(decide (y2<12))=true then
   (((SC x3 y2)>>=fun x5=>
   ((if(decide (0<x5))=true then
    (app 8 y1 ([AP (x5-1)]:List Int))>>=fun x6=>
    some x6
   else
    some y1:Option ((List Int)))>>=fun y4=>
   some y4):Option ((List Int)))>>=fun y3=>
   Dw F x3 m y3 (AP (y2+1)))
  else
   some y1
def Ga(F:Nat)(x0:(Int×Int×(List (Int×Int))×(List Int))):Option ((List Int)×Int):=
 (Dm F (x0.1,x0.2.1,x0.2.2.1,x0.2.2.2))>>=fun x2=>
 if(!decide (x2=0))=true then
  some ([],x2)
 else
  (Ho F (x0.1,x0.2.1,x0.2.2.1,x0.2.2.2))>>=fun x3=>
  (mks 8 (x0.2.2.2.length:Int) (0))>>=fun x4=>
  ((Dw F x3 F (IB x4 x0.2.2.2) 0)>>=fun z1=>
  (slices_Sort_int z1)>>=fun x7=>
  some (x7,0))
theorem ng{w0:World}{v0:Value}{x0:(Int×Int×(List (Int×Int))×(List Int))}(r0:RV w0 v0 x0){F:Nat}{r:((List Int)×Int)}(hF:Ga F x0=some r):
  Calls Tryz.prog 59 [v0].toArray w0 (BV fun v w'=>∃u0:Value,v=.tuple #[u0,.int .i64 r.2]/\RV w' u0 r.1/\Ext w0 w'):=by
 unfold Ga at hF;have hz:=id r0;obtain⟨_,rfl,_,_,rfl,rfl,_,_,rfl,rfl,_,_,rfl,⟨a1,cq1,rfl,p1,q2,e1⟩,a2,cq2,rfl,p2,q3,e2⟩:=hz;have r2:=RV.of1 p1 q2 e1;have r3:=RV.of1 p2 q3 e2;refine BX (n:=51) Tryz.func59 rfl rfl rfl<|Zr<|FJ rfl rfl fun b2 w1 hx1 hg1 hb1=>?_;have r4:=r2.ext hx1;have r5:=r3.ext hx1;have r6:=r0.ext hx1;refine Za<|Za<|nl<|wp_seq<|Zr<|Zv (BO rfl EX rfl (Bx.cs hb1))<|bS hF fun x2 Ex2 hF=>Zc (xc Qj (mc rfl mn)) (Vk (show RV (α:=(Int×Int×(List (Int×Int))×(List Int))) _ (.agg [.int .i64 x0.1,.int .i64 x0.2.1,.slice a1 x0.2.2.1.length cq1,.slice a2 x0.2.2.2.length cq2].toArray) (x0.1,x0.2.1,x0.2.2.1,x0.2.2.2)from⟨_,rfl,[.int .i64 x0.1],[.int .i64 x0.2.1]++([.slice a1 x0.2.2.1.length cq1]++[.slice a2 x0.2.2.2.length cq2]),rfl,rfl,[.int .i64 x0.2.1],[.slice a1 x0.2.2.1.length cq1]++[.slice a2 x0.2.2.2.length cq2],rfl,rfl,[.slice a1 x0.2.2.1.length cq1],[.slice a2 x0.2.2.2.length cq2],rfl,r4.rep1,r5.rep1⟩) Ex2) ?_;rintro _ w2⟨rfl,hx2⟩;have k1:=hx1.tr hx2;have hb2:=hb1.ext hx2;have r7:=r4.ext hx2;have r8:=r5.ext hx2;refine Za<|nl<|Zr<|Zm<|Zv (Di rfl rfl)<|nl<|cnd rfl (fun h2=>?_) (fun h2=>?_)
 ·have hF:=Ac hF h2;refine Zr<|Zm<|Za<|Za<|nl<|?_;cases hF;exact wp_ret<|rt rfl (.tmp rfl rfl (.tmp rfl rfl .nil)) ⟨_,rfl,(RVo.nil (Nat.zero_le _)),k1⟩
 ·have hF:=Ai hF h2;refine wp_skip<|Zr<|Zv (BO rfl EX rfl (Bx.cs hb2))<|bS hF fun x3 Ex3 hF=>?_;have hz:=Qf Ex3;obtain⟨hv,hK,q0,E0,rfl⟩:=hz;refine Zc (xc UY (mc rfl mn)) (ZT (n:=x0.1) (mm:=x0.2.1) hK r7 q3) ?_;rintro _ wj⟨b,rfl,hgb,Jj,hxj⟩;refine Za<|nl<|Zr<|Zm<|Zm<|Zv (Lx (l:=[.pointer (some ⟨b,0,none⟩)]) (k:=[]) rfl rfl)<|Zc (xc OI (mc rfl<|mc rfl mn)) (SB Jj (Pv hv) E0) ?_;rintro _ w3⟨rfl,J3,be3⟩;have sj:=hxj.size;have hx3:Ext w2 w3:=GJ hxj (be3.below (B:=w2.heap.size) sj fun q hq=>by omega) (Nat.le_refl _);have k2:=k1.tr hx3;have hb3:=hb2.ext hx3;have r10:=r7.ext hx3;have r11:=r8.ext hx3;have r9:RV (α:=Ar 12 Int) w3 (.agg (List.flatMap Flat.enc q0.2.l).toArray) q0.2:=⟨_,rfl,rfl⟩;refine nl<|Zr<|Zv (Ah rfl Hw)<|Zv (AX rfl JD ((Bx.cs hb3).at 3 rfl))<|Zv (Bp rfl Tryz.underlying41)<|bS hF fun x4 Ex4 hF=>Xt (α:=Int) (z0:=0) rfl rfl Tryz.underlying41 AY rfl rfl rfl Ex4 fun b3 w4 hx4 o1=>?_;have k3:=k2.tr hx4;have hb4:=hb3.ext hx4;have r12:=r10.ext hx4;have r13:=r11.ext hx4;have r14:=r9.ext hx4;refine Za<|nl<|Zr<|Zm<|Zv (Ah rfl Hw)<|Zv (AX rfl JD ((Bx.cs hb4).at 3 rfl))<|bK (l:=x4) (k:=x0.2.2.2) rfl rfl Tryz.underlying41 AY o1 r13 fun w5 cq3 hch1 o2=>?_;have k4:=Ext.chg k3 hch1 (Nat.le_trans k2.size (Row.ge o1));have k5:=Ext.chg hx4 hch1 (Nat.le_trans (Nat.le_refl _) (Row.ge o1));have r15:=r9.ext k5;have J5:=J3.ext k5;refine nl<|wp_seq<|Zr<|Zm<|Zv (FB rfl)<|Zv (Ah rfl JY)<|Zv (BO rfl Hg (LJ q0.2) J5.part)<|Zm<|nl<|bS hF fun z1 hB1 hF=>ct (fun L w=>∃v3:Value,L 6=v3/\Row 3 w3.heap.size w v3 z1/\Ext w3 w) ?_ ?_
  ·refine wp_block<|lp (I:=fun m L w=>∃y1:(List Int),∃y2:Int,∃v2:Value,Dw F q0.2 m y1 y2=some z1/\L 6=v2/\Row 3 w3.heap.size w v2 y1/\L 32=.int .i64 y2/\L 31=.agg (List.flatMap Flat.enc q0.2.l).toArray/\Ext w3 w) F ⟨_,_,_,hB1,rfl,o2,rfl,rfl,k5⟩ ?_;rintro m L w6⟨y1,y2,v2,hB1,l6_i1,O6_i1,l32_i1,l31_i1,K0_i1⟩;rcases m with _|m
   ·rw[Dw]at hB1;cases hB1
   rw[Dw]at hB1;have k6:=k2.tr K0_i1;have r16:=r9.ext K0_i1;have hz:=RV.sl O6_i1.rv;obtain⟨a3,cq4,rfl,-,-,-⟩:=hz;refine Zr<|Zv (BN l32_i1 rfl)<|nl<|wp_seq<|cnd rfl (fun h3=>?_) (fun h3=>?_)
   ·have hB1:=Ac hB1 h3;refine wp_skip<|wp_seq<|bS hB1 fun y3 hB3 hB1=>ct (fun L w=>∃v4:Value,L 6=v4/\Row 3 w3.heap.size w v4 y3/\L 31=.agg (List.flatMap Flat.enc q0.2.l).toArray/\L 32=.int .i64 y2/\Ext w3 w) ?_ ?_
    ·refine wp_block<|Zr<|bS hB3 fun x5 Ex5 hB3=>?_;have hx5:Ext w6 w6:=Ext.refl _;have k7:=k6.tr hx5;have k8:=K0_i1.tr hx5;have r17:=r16.ext hx5;have O1:=O6_i1.ext hx5;refine Zv (mH l31_i1 l32_i1 Tryz.underlying238 AY Ex5)<|Za<|nl<|Zr<|Zm<|Zv (EO rfl rfl)<|nl<|bS hB3 fun y4 hB4 hB3=>ct (fun L w=>∃v5:Value,L 6=v5/\Row 3 w3.heap.size w v5 y4/\L 31=.agg (List.flatMap Flat.enc q0.2.l).toArray/\L 32=.int .i64 y2/\Ext w3 w) ?_ ?_
     ·refine cnd rfl (fun h4=>?_) (fun h4=>?_)
      ·have hB4:=Ac hB4 h4;refine rg<|Zm<|Zm<|Zv (Bp l6_i1 Tryz.underlying41)<|Zm<|Zv (Bp l6_i1 Tryz.underlying41)<|?_;have r18:=RV.full O1.rv;refine Zv (kF l6_i1 (RV.cap O1.rv).2.1 Tryz.underlying41 AY rfl rfl)<|Zm<|Zv (DX rfl rfl)<|JB (cs:=[.int .i64 (AP (x5-1))]) Tryz.underlying41 AY rfl (pc rfl pn) rfl rfl rfl rfl rfl fun b4 w8 hx6 hg2 hb5=>?_;have k9:=k7.tr hx6;have k10:=k8.tr hx6;have k11:=hx5.tr hx6;have r19:=r17.ext hx6;have r20:=r18.ext hx6;have o4:Row (α:=Int) 3 w6.heap.size w8 (.slice (some ⟨b4,0,none⟩) 1 1) [AP (x5-1)]:=Row.lit hg2 hb5 rfl (ble rfl);refine bS hB4 fun x6 Ex6 hB4=>kG (l:=y1) (k:=([AP (x5-1)]:List Int)) rfl rfl Tryz.underlying41 AY rfl rfl r20 o4.rv rfl Ex6 fun v6 w9 o5 hx7=>?_;have k12:=k9.tr hx7;have k13:=k10.tr hx7;have k14:=k11.tr hx7;have k15:=hx6.tr hx7;have r22:=r19.ext hx7;have hz:=RV.sl o5.rv;obtain⟨a4,cq5,rfl,-,-,-⟩:=hz;refine Za<|nl<|?_;cases hB4;refine lf<|?_;exact⟨_,rfl,(o5.bnd k10.size),l31_i1,l32_i1,k13⟩
      ·have hB4:=Ai hB4 h4;refine wp_skip<|?_;cases hB4;refine lf<|?_;exact⟨_,l6_i1,O1,l31_i1,l32_i1,k8⟩
     rintro L w10⟨v5,l6_j1,O6_j1,l31_j1,l32_j1,K0_j1⟩;have k16:=k2.tr K0_j1;have r23:=r9.ext K0_j1;have hz:=RV.sl O6_j1.rv;obtain⟨a5,cq6,rfl,-,-,-⟩:=hz;cases hB3;refine lf<|?_;exact⟨_,l6_j1,O6_j1,l31_j1,l32_j1,K0_j1⟩
    rintro L w11⟨v4,l6_j2,O6_j2,l31_j2,l32_j2,K0_j2⟩;have k17:=k2.tr K0_j2;have r24:=r9.ext K0_j2;have hz:=RV.sl O6_j2.rv;obtain⟨a6,cq7,rfl,-,-,-⟩:=hz;refine rg<|Zv (BJ l32_j2 rfl)<|Zm<|nl<|lq m (Nat.lt_succ_self _)<|?_;exact⟨_,_,_,hB1,l6_j2,O6_j2,rfl,l31_j2,K0_j2⟩
   ·have hB1:=Ai hB1 h3;refine wp_exit<|?_;cases hB1;refine lf<|?_;exact⟨_,l6_i1,O6_i1,K0_i1⟩
  rintro L w12⟨v3,l6_j3,O6_j3,K0_j3⟩;have k18:=k2.tr K0_j3;have hz:=RV.sl O6_j3.rv;obtain⟨a7,cq8,rfl,-,-,-⟩:=hz;refine Zr<|Zm<|bS hF fun x7 Ex7 hF=>Zc (xc bC (mc l6_j3 mn)) (bP K0_j3.size O6_j3 Ex7) ?_;rintro _ w13⟨rfl,o6,hB8,hgr1⟩;have k19:=Ext.grow k18 k2.size hB8;have k20:Ext w3 w13:=K0_j3.trans hB8;refine nl<|Zr<|Zm<|Za<|Za<|nl<|?_;cases hF;exact wp_ret<|rt rfl (.tmp l6_j3 rfl (.tmp rfl rfl .nil)) ⟨_,rfl,o6.rv,k19⟩
end Go.Proofs.YtfmelbioccbdoaaGreat
end
section
namespace Go.Proofs.YtfmelbioccbdoaaGreat
open Go Go.Md Go.RowKit
attribute [local irreducible] Go.wpList Go.Code.wp Go.Calls Go.Md.Cu Go.Md.Mt Go.Md.Dl Go.Md.Ch Go.Code.wpIn
def IK(x0:Int)(x1:(Int×Int×(List (Int×Int))×(List Int))):Option Int:=
 (ix x1.2.2.1 x0)>>=fun x3=>
 some x3.2
theorem d9{w0:World}{x0:Int}{b1:Nat}{cs1:List Value}{x1:(Int×Int×(List (Int×Int))×(List Int))}(h1:Cs w0 b1 0 cs1)(q1:Enc.rep (fun _=>True) w0 cs1 x1){r:Int}(hF:IK x0 x1=some r):
  Calls Tryz.prog 150 [.int .i64 x0,.pointer (some ⟨b1,0,none⟩)].toArray w0 (BV fun v w'=>v=.int .i64 r/\Ext w0 w'):=by
 unfold IK at hF;obtain⟨_,_,rfl,rfl,_,_,rfl,rfl,_,_,rfl,⟨a1,cq1,rfl,p1,q3,e1⟩,a2,cq2,rfl,p2,q4,e2⟩:=q1;have r3:=RV.of1 p1 q3 e1;have r4:=RV.of1 p2 q4 e2;refine BX (n:=10) Tryz.func150 rfl rfl rfl<|Zr<|Za<|nl<|Zr<|Zv (Ah rfl CP)<|Zv (AX rfl Dk (h1.at 2 rfl))<|Zm<|bS hF fun x3 Ex3 hF=>?_;have hz:=(RV.els r3).ix Ex3;obtain⟨b3,f1,cs3,e3,i1,i2,q5,hc1⟩:=hz;cases e3;obtain⟨_,_,rfl,rfl,rfl⟩:=q5;refine Zv (Ao rfl rfl Tryz.underlying108 BR i1 i2)<|Zv (Ah rfl FV)<|Zv (AX rfl AY (hc1.at 1 rfl))<|Za<|nl<|?_;cases hF;exact wp_ret<|Zw rfl rfl rfl ⟨rfl,(Ext.refl _)⟩
def NM(x:EF)(k:Int):Option Int:=IK k x
def aJ(_:EF):Option Int:=none
def NN(F:Nat)(x:EF):Option Int:=if ShOk x=true then(D5 F x.2.2.1 x.1 (fun _=>true))>>=fun q=>some q.1 else none
theorem aK{F:Nat}{x:EF}{X:Int}(h:NN F x=some X):I9 x.2.2.1/\x.2.2.2=[]/\∃q,D5 F x.2.2.1 x.1 (fun _=>true)=some q/\q.1=X:=by
 unfold NN at h;rcases hok:ShOk x with _|_
 ·rw[if_neg (by simp[hok])]at h;cases h
 rw[if_pos hok]at h;obtain⟨q,h1,h2⟩:=Md.bs h;cases h2;exact⟨(ShOk.spec hok).1,(ShOk.spec hok).2,q,h1,rfl⟩
def El(F:Nat)(x0:(Int×Int×(List (Int×Int))×(List Int)))(x5:(List Int)):Nat->(List Int)->Int->Option ((List Int))
 |0,_,_=>none
 |m+1,y2,y3=>
  if(decide (y3<(x5.length:Int)))=true then
   (ix x5 y3)>>=fun x7=>
   (NM (x0.1,x0.2.1,x0.2.2.1,x0.2.2.2) y3)>>=fun x8=>
   (NM (x0.1,x0.2.1,x0.2.2.1,x0.2.2.2) y3)>>=fun x9=>
   (ix y2 x9)>>=fun x10=>
   (ix y2 x8)>>=fun x11=>
   El F x0 x5 m (CZ y2 x8 (if x10<x7 then x7 else x10)) (AP (y3+1))
  else
   some y2
def Em(F:Nat)(x0:(Int×Int×(List (Int×Int))×(List Int)))(x4:Int)(z1:(List Int)):Nat->Int->Option (Unit)
 |0,_=>none
 |m+1,y4=>
  if(decide (y4<(z1.length:Int)))=true then
   (((ix z1 y4)>>=fun x12=>
   (gd (decide (x12=1)) (aJ (x0.1,x0.2.1,x0.2.2.1,x0.2.2.2)) 0)>>=fun x13=>
   ((if((decide (x12=1))&&(decide (x13<x4)))=true then
    some ()
   else
    some ():Option (Unit))>>=fun _=>
   some ()):Option (Unit))>>=fun _=>
   Em F x0 x4 z1 m (AP (y4+1)))
  else
   some ()
def IL(F:Nat)(x0:(Int×Int×(List (Int×Int))×(List Int)))(x1:Bool):Option ((List Int)×Int):=
 (Dm F (x0.1,x0.2.1,x0.2.2.1,x0.2.2.2))>>=fun x3=>
 if(!decide (x3=0))=true then
  some ([],x3)
 else
  ((if x1=true then
   some x0.2.1
  else
   none:Option (Int))>>=fun y1=>
  (NN F (x0.1,x0.2.1,x0.2.2.1,x0.2.2.2))>>=fun x4=>
  (Fv F (x0.1,x0.2.1,x0.2.2.1,x0.2.2.2))>>=fun x5=>
  (mks 8 y1 (0))>>=fun x6=>
  ((El F x0 x5 F x6 0)>>=fun z1=>
  ((Em F x0 x4 z1 F 0)>>=fun _=>
  some (z1,0))))
theorem ni{w0:World}{v0:Value}{x0:(Int×Int×(List (Int×Int))×(List Int))}(r0:RV w0 v0 x0){x1:Bool}{F:Nat}{r:((List Int)×Int)}(hF:IL F x0 x1=some r):
  Calls Tryz.prog 69 [v0,.bool x1].toArray w0 (BV fun v w'=>∃u0:Value,v=.tuple #[u0,.int .i64 r.2]/\RV w' u0 r.1/\Ext w0 w'):=by
 unfold IL at hF;have hz:=id r0;obtain⟨_,rfl,_,_,rfl,rfl,_,_,rfl,rfl,_,_,rfl,⟨a1,cq1,rfl,p1,q3,e1⟩,a2,cq2,rfl,p2,q4,e2⟩:=hz;have r3:=RV.of1 p1 q3 e1;have r4:=RV.of1 p2 q4 e2;refine BX (n:=81) Tryz.func69 rfl rfl rfl<|Zr<|FJ rfl rfl fun b3 w1 hx1 hg1 hb1=>?_;have r5:=r3.ext hx1;have r6:=r4.ext hx1;have r7:=r0.ext hx1;refine Za<|Za<|nl<|wp_seq<|Zr<|Zv (BO rfl EX rfl (Bx.cs hb1))<|bS hF fun x3 Ex3 hF=>Zc (xc Qj (mc rfl mn)) (Vk (show RV (α:=(Int×Int×(List (Int×Int))×(List Int))) _ (.agg [.int .i64 x0.1,.int .i64 x0.2.1,.slice a1 x0.2.2.1.length cq1,.slice a2 x0.2.2.2.length cq2].toArray) (x0.1,x0.2.1,x0.2.2.1,x0.2.2.2)from⟨_,rfl,[.int .i64 x0.1],[.int .i64 x0.2.1]++([.slice a1 x0.2.2.1.length cq1]++[.slice a2 x0.2.2.2.length cq2]),rfl,rfl,[.int .i64 x0.2.1],[.slice a1 x0.2.2.1.length cq1]++[.slice a2 x0.2.2.2.length cq2],rfl,rfl,[.slice a1 x0.2.2.1.length cq1],[.slice a2 x0.2.2.2.length cq2],rfl,r5.rep1,r6.rep1⟩) Ex3) ?_;rintro _ w2⟨rfl,hx2⟩;have k1:=hx1.tr hx2;have hb2:=hb1.ext hx2;have r8:=r5.ext hx2;have r9:=r6.ext hx2;refine Za<|nl<|Zr<|Zm<|Zv (Di rfl rfl)<|nl<|cnd rfl (fun h3=>?_) (fun h3=>?_)
 ·have hF:=Ac hF h3;refine Zr<|Zm<|Za<|Za<|nl<|?_;cases hF;exact wp_ret<|rt rfl (.tmp rfl rfl (.tmp rfl rfl .nil)) ⟨_,rfl,(RVo.nil (Nat.zero_le _)),k1⟩
 ·have hF:=Ai hF h3;refine wp_skip<|Zr<|Zv (Lx (l:=[]) (k:=[.pointer (some ⟨b3,0,none⟩)]) rfl rfl)<|FT OH fun bf wf hxf hgf hbf=>EW rfl rfl rfl OH hbf rfl rfl (ble rfl) fun wg hchg hbg=>?_;have kxg:Ext w2 wg:=hxf.chg hchg hgf;have hbG:=hb2.ext kxg;have lbf:=hbg.lt;refine nl<|Zr<|Zv (Ah rfl Ib)<|Zv (AX rfl AY ((Bx.cs hbG).at 0 rfl))<|Za<|nl<|wp_seq<|Zr<|Zm<|nl<|bS hF fun y1 hB1 hF=>ct (fun L w=>L 8=.int .i64 y1/\L 2=.pointer (some ⟨b3,0,none⟩)/\Ext w2 w/\L 7=.pointer (some ⟨bf,0,none⟩)/\Bx w bf 245 [.func (.func 150) #[] #[.pointer (some ⟨b3,0,none⟩)]]) ?_ ?_
  ·refine cnd rfl (fun h4=>?_) (fun h4=>?_)
   ·have hB1:=Ac hB1 h4;cases hB1;refine bN (fun _ w'=>Ext w2 w') [] (.pure true 0 (.pure true 1 (.pure false 2 (.eff 3 (.pure true 4 .fin) .stop)))) mixed (by kernel_rfl) (fun wd hxd=>?_);have S0:Ext w2 wd:=kxg.tr hxd;refine Zp rfl (fun _=>Lx (l:=[]) (k:=[.pointer (some ⟨b3,0,none⟩)]) rfl rfl)<|Zp rfl (fun _=>Ah rfl JX)<|Zq rfl (fun _ hS=>AX rfl AY ((Bx.cs (hb2.ext (hS.resolve_left nofun))).at 1 rfl)) S0<|D9 rfl<|EW rfl rfl rfl OH (hbg.ext hxd) rfl rfl (ble rfl) fun wi hchi hbi=>nl ⟨fun _ h=>h.chg hchi hgf,?_⟩;refine Zp rfl (fun _=>Li)<|lf ⟨rfl,rfl,S0.chg hchi hgf,rfl,hbi⟩
   ·have hB1:=Ai hB1 h4;cases hB1
  rintro L w3⟨l8_j1,l2_j1,K0_j1,l7_j1,hf3⟩;have k2:=k1.tr K0_j1;have r10:=r8.ext K0_j1;have r11:=r9.ext K0_j1;have hb3:=hb2.ext K0_j1;refine Zr<|Zv (BO l2_j1 EX rfl (Bx.cs hb3))<|bS hF fun x4 Ex4 hF=>?_;have hz:=aK Ex4;obtain⟨hv,hK,q0,E0,rfl⟩:=hz;refine Zc (xc UY (mc rfl mn)) (ZT (n:=x0.1) (mm:=x0.2.1) hK r10 q4) ?_;rintro _ wj⟨b,rfl,hgb,Jj,hxj⟩;refine FT EY fun b9 wk hxk hgk hbk=>EW rfl rfl rfl EY hbk rfl rfl (ble rfl) fun wl hchl hbl=>?_;have kxl:Ext wj wl:=hxk.chg hchl hgk;have hbl:Bx wl b9 233 [.pointer (some ⟨b,0,none⟩)]:=hbl;have Jl:=Jj.ext kxl;have sl:=kxl.size;have sj:=hxj.size;have l3f:=hf3.lt;refine nl<|Zr<|Zv (AX rfl EY ((Bx.cs hbl).at 0 rfl))<|Zv (AX rfl EY ((Bx.cs hbl).at 0 rfl))<|Zv (Lx (l:=[.pointer (some ⟨b,0,none⟩)]) (k:=[]) rfl rfl)<|Zc (xc OI (mc rfl<|mc rfl mn)) (SB Jl (Pv hv) E0) ?_;rintro _ w4⟨rfl,J4,be4⟩;have hx3:Ext w3 w4:=GJ (hxj.tr kxl) (be4.below (B:=w3.heap.size) (by omega) fun q hq=>by omega) (Nat.le_refl _);have hf4:=hf3.ext hx3;have k3:=k2.tr hx3;have k4:=K0_j1.tr hx3;have hb4:=hb3.ext hx3;have r12:=r10.ext hx3;have r13:=r11.ext hx3;refine Za<|nl<|Zr<|Zv (BO l2_j1 EX rfl (Bx.cs hb4))<|bS hF fun x5 Ex5 hF=>Zc (xc UZ (mc rfl mn)) (Yb (show RV (α:=(Int×Int×(List (Int×Int))×(List Int))) _ (.agg [.int .i64 x0.1,.int .i64 x0.2.1,.slice a1 x0.2.2.1.length cq1,.slice a2 x0.2.2.2.length cq2].toArray) (x0.1,x0.2.1,x0.2.2.1,x0.2.2.2)from⟨_,rfl,[.int .i64 x0.1],[.int .i64 x0.2.1]++([.slice a1 x0.2.2.1.length cq1]++[.slice a2 x0.2.2.2.length cq2]),rfl,rfl,[.int .i64 x0.2.1],[.slice a1 x0.2.2.1.length cq1]++[.slice a2 x0.2.2.2.length cq2],rfl,rfl,[.slice a1 x0.2.2.1.length cq1],[.slice a2 x0.2.2.2.length cq2],rfl,r12.rep1,r13.rep1⟩) Ex5) ?_;rintro _ w5⟨u1,rfl,r14,hx4⟩;have hf5:=hf4.ext hx4;have k5:=k3.tr hx4;have k6:=k4.tr hx4;have hb5:=hb4.ext hx4;have r15:=r12.ext hx4;have r16:=r13.ext hx4;have hz:=RV.sl r14.rv;obtain⟨a3,cq3,rfl,-,-,-⟩:=hz;refine Za<|nl<|Zr<|Zm<|bS hF fun x6 Ex6 hF=>Xt (α:=Int) (z0:=0) l8_j1 l8_j1 Tryz.underlying41 AY rfl rfl rfl Ex6 fun b4 w6 hx5 o1=>?_;have k7:=k5.tr hx5;have k8:=k6.tr hx5;have k9:=hx4.tr hx5;have hb6:=hb5.ext hx5;have r17:=r15.ext hx5;have r18:=r16.ext hx5;have r19:=r14.ext hx5;refine Za<|nl<|wp_seq<|Zr<|Zm<|Zv (Bp rfl Tryz.underlying41)<|Zm<|nl<|bS hF fun z1 hB4 hF=>ct (fun L w=>∃v4:Value,L 12=v4/\Row 3 w5.heap.size w v4 z1/\Apart (v4) (.slice a3 x5.length cq3)/\L 2=.pointer (some ⟨b3,0,none⟩)/\L 10=.int .i64 q0.1/\w4.heap.size<=w.heap.size/\Ext w5 w) ?_ ?_
  ·refine wp_block<|lp (I:=fun m L w=>∃y2:(List Int),∃y3:Int,∃v3:Value,El F x0 x5 m y2 y3=some z1/\L 12=v3/\Row 3 w5.heap.size w v3 y2/\L 41=.int .i64 y3/\Apart (v3) (.slice a3 x5.length cq3)/\L 2=.pointer (some ⟨b3,0,none⟩)/\L 7=.pointer (some ⟨bf,0,none⟩)/\L 10=.int .i64 q0.1/\L 39=.slice a3 x5.length cq3/\L 40=.int .i64 (x5.length:Int)/\w4.heap.size<=w.heap.size/\Ext w5 w) F ⟨_,_,_,hB4,rfl,o1,rfl,(Apart.symm (Apart.old' r14.own_lt (fun q e=>(o1.lt q e).1))),l2_j1,l7_j1,rfl,rfl,rfl,k9.size,hx5⟩ ?_;rintro m L w7⟨y2,y3,v3,hB4,l12_i1,O12_i1,l41_i1,X0_i1,l2_i1,l7_i1,l10_i1,l39_i1,l40_i1,Z0_i1,K0_i1⟩;rcases m with _|m
   ·rw[El]at hB4;cases hB4
   rw[El]at hB4;have k10:=k5.tr K0_i1;have k11:=k6.tr K0_i1;have k12:=hx4.tr K0_i1;have r20:=r15.ext K0_i1;have r21:=r16.ext K0_i1;have hb7:=hb5.ext K0_i1;have r22:=r14.ext K0_i1;have hz:=RV.sl O12_i1.rv;obtain⟨a4,cq4,rfl,-,-,-⟩:=hz;refine Zr<|Zv (BN l41_i1 l40_i1)<|nl<|wp_seq<|cnd rfl (fun h5=>?_) (fun h5=>?_)
   ·have hB4:=Ac hB4 h5;refine wp_skip<|wp_seq<|wp_block<|Zr<|Zm<|bS hB4 fun x7 Ex7 hB4=>?_;have hz:=(RV.els r22.rv).ix Ex7;obtain⟨b5,f1,cs3,e3,i2,i3,q5,hc1⟩:=hz;cases e3;obtain rfl:=q5;refine Zv (Ao l39_i1 l41_i1 Tryz.underlying41 AY i2 i3)<|Zv (AX rfl AY (hc1.at 0 rfl))<|Za<|Za<|nl<|FZ [13] (.pure true 0 (.pure false 1 (.pure true 2 (.pure true 4 (.pure false 5 (.pure true 6 (.pure true 10 (.eff 3 (.eff 7 (.pure true 8 (.eff 9 (.pure false 11 (.pure true 12 (.eff 13 .fin .stop))) .stop)) .stop) .stop)))))))) mixed (by kernel_rfl) (fun w8 hx6=>?_);have k13:=k10.tr hx6;have k14:=k11.tr hx6;have k15:=k12.tr hx6;have k16:=K0_i1.tr hx6;have zs1:=Nat.le_trans Z0_i1 hx6.size;have hf8:=hf5.ext k16;have hb8:=hb7.ext hx6;have r23:=r20.ext hx6;have r24:=r21.ext hx6;have r25:=r22.ext hx6;have O1:=O12_i1.ext hx6;refine Zn rfl<|Zq rfl (fun _ hS=>AX l7_i1 OH ((Bx.cs (hf8.ext (hS.resolve_left nofun))).at 0 rfl)) (Ext.refl _)<|Zn rfl<|Zn rfl<|Zq rfl (fun _ hS=>AX l7_i1 OH ((Bx.cs (hf8.ext (hS.resolve_left nofun))).at 0 rfl)) (Ext.refl _)<|Zn rfl<|Zn rfl<|bS hB4 fun x8 Ex8 hB4=>D9 rfl<|Zc (Lv (fs:=[]) (cs:=[.pointer (some ⟨b3,0,none⟩)]) rfl Y8 (mc l41_i1 mn) rfl) (d9 (x1:=(x0.1,x0.2.1,x0.2.2.1,x0.2.2.2)) (Bx.cs hb8) ⟨[.int .i64 x0.1],[.int .i64 x0.2.1]++([.slice a1 x0.2.2.1.length cq1]++[.slice a2 x0.2.2.2.length cq2]),rfl,rfl,[.int .i64 x0.2.1],[.slice a1 x0.2.2.1.length cq1]++[.slice a2 x0.2.2.2.length cq2],rfl,rfl,[.slice a1 x0.2.2.1.length cq1],[.slice a2 x0.2.2.2.length cq2],rfl,r23.rep1,r24.rep1⟩ Ex8) ?_;rintro _ w9⟨rfl,hx7⟩;have k17:=k13.tr hx7;have k18:=k14.tr hx7;have k19:=k15.tr hx7;have k20:=k16.tr hx7;have zs2:=Nat.le_trans zs1 hx7.size;have hb9:=hb8.ext hx7;have r26:=r23.ext hx7;have r27:=r24.ext hx7;have r28:=r25.ext hx7;have O2:=O1.ext hx7;refine nl ⟨fun _ _=>hx7,?_⟩;refine bS hB4 fun x9 Ex9 hB4=>D9 rfl<|Zc (Lv (fs:=[]) (cs:=[.pointer (some ⟨b3,0,none⟩)]) rfl Y8 (mc l41_i1 mn) rfl) (d9 (x1:=(x0.1,x0.2.1,x0.2.2.1,x0.2.2.2)) (Bx.cs hb9) ⟨[.int .i64 x0.1],[.int .i64 x0.2.1]++([.slice a1 x0.2.2.1.length cq1]++[.slice a2 x0.2.2.2.length cq2]),rfl,rfl,[.int .i64 x0.2.1],[.slice a1 x0.2.2.1.length cq1]++[.slice a2 x0.2.2.2.length cq2],rfl,rfl,[.slice a1 x0.2.2.1.length cq1],[.slice a2 x0.2.2.2.length cq2],rfl,r26.rep1,r27.rep1⟩ Ex9) ?_;rintro _ w10⟨rfl,hx8⟩;have k21:=k17.tr hx8;have k22:=k18.tr hx8;have k23:=k19.tr hx8;have k24:=k20.tr hx8;have k25:=hx7.tr hx8;have zs3:=Nat.le_trans zs2 hx8.size;have hb10:=hb9.ext hx8;have r29:=r26.ext hx8;have r30:=r27.ext hx8;have r31:=r28.ext hx8;have O3:=O2.ext hx8;refine nl ⟨fun _ _=>k25,?_⟩;refine bS hB4 fun x10 Ex10 hB4=>?_;have hz:=(RV.els O3.rv).ix Ex10;obtain⟨b6,f2,cs4,e4,i4,i5,q6,hc2⟩:=hz;cases e4;obtain rfl:=q6;refine Zp rfl (fun _=>Ao l12_i1 rfl Tryz.underlying41 AY i4 i5)<|D9 rfl<|Zv (AX rfl AY (hc2.at 0 rfl))<|nl ⟨fun _ _=>k25,?_⟩;refine Zq rfl (fun _ hS=>aZ rfl rfl) k25<|bS hB4 fun x11 Ex11 hB4=>?_;have hz:=EA O3.rv Ex11;obtain⟨cs5,i6,i7,q7,hc3⟩:=hz;obtain rfl:=q7;refine Zp rfl (fun _=>Ao l12_i1 rfl Tryz.underlying41 AY i6 i7)<|D9 rfl<|LC (l:=y2) (v:=if x10<x7 then x7 else x10) rfl rfl rfl AY O3 Ex11 fun w11 hch1 o3=>?_;have k26:=Ext.chg k21 hch1 (Nat.le_trans k5.size (Row.ge O3));have k27:=Ext.chg k22 hch1 (Nat.le_trans k6.size (Row.ge O3));have k28:=Ext.chg k23 hch1 (Nat.le_trans hx4.size (Row.ge O3));have k29:=Ext.chg k24 hch1 (Nat.le_trans (Nat.le_refl _) (Row.ge O3));have zs4:=Nat.le_trans zs3 (Nat.le_of_eq hch1.size.symm);have hb11:=hb5.ext k29;have r32:=r15.ext k29;have r33:=r16.ext k29;have r34:=r14.ext k29;refine nl ⟨fun h=>(h (by decide)).elim,?_⟩;refine rg<|Zv (BJ l41_i1 rfl)<|Zm<|nl<|lq m (Nat.lt_succ_self _)<|?_;exact⟨_,_,_,hB4,l12_i1,o3,rfl,(Apart.symm (Apart.old' r14.own_lt (fun q e=>(o3.lt q e).1))),l2_i1,l7_i1,l10_i1,l39_i1,l40_i1,zs4,k29⟩
   ·have hB4:=Ai hB4 h5;refine wp_exit<|?_;cases hB4;refine lf<|?_;exact⟨_,l12_i1,O12_i1,X0_i1,l2_i1,l10_i1,Z0_i1,K0_i1⟩
  rintro L w12⟨v4,l12_j2,O12_j2,X0_j2,l2_j2,l10_j2,Z0_j2,K0_j2⟩;have k30:=k5.tr K0_j2;have k31:=k6.tr K0_j2;have k32:=hx4.tr K0_j2;have r35:=r15.ext K0_j2;have r36:=r16.ext K0_j2;have hb12:=hb5.ext K0_j2;have hz:=RV.sl O12_j2.rv;obtain⟨a5,cq5,rfl,-,-,-⟩:=hz;refine wp_seq<|Zr<|Zm<|Zv (Bp l12_j2 Tryz.underlying41)<|Zm<|nl<|?_;have hz:=bs hF;obtain⟨⟨⟩,hB7,hF⟩:=hz;refine ct (fun L w=>L 12=.slice a5 z1.length cq5/\w4.heap.size<=w.heap.size/\w5.heap.size<=w.heap.size/\Ext w12 w) ?_ ?_
  ·refine wp_block<|lp (I:=fun m L w=>∃y4:Int,Em F x0 q0.1 z1 m y4=some ()/\L 62=.int .i64 y4/\L 2=.pointer (some ⟨b3,0,none⟩)/\L 10=.int .i64 q0.1/\L 12=.slice a5 z1.length cq5/\L 60=.slice a5 z1.length cq5/\L 61=.int .i64 (z1.length:Int)/\w4.heap.size<=w.heap.size/\w5.heap.size<=w.heap.size/\Ext w12 w) F ⟨_,hB7,rfl,l2_j2,l10_j2,l12_j2,l12_j2,rfl,Z0_j2,K0_j2.size,(Ext.refl _)⟩ ?_;rintro m L w13⟨y4,hB7,l62_i8,l2_i8,l10_i8,l12_i8,l60_i8,l61_i8,Z0_i8,Z1_i8,K0_i8⟩;rcases m with _|m
   ·rw[Em]at hB7;cases hB7
   rw[Em]at hB7;have k33:=k30.tr K0_i8;have k34:=k31.tr K0_i8;have k35:=k32.tr K0_i8;have k36:=K0_j2.tr K0_i8;have r37:=r35.ext K0_i8;have r38:=r36.ext K0_i8;have hb13:=hb12.ext K0_i8;have O4:=O12_j2.ext K0_i8;refine Zr<|Zv (BN l62_i8 l61_i8)<|nl<|wp_seq<|cnd rfl (fun h6=>?_) (fun h6=>?_)
   ·have hB7:=Ac hB7 h6;refine wp_skip<|wp_seq<|?_;have hz:=bs hB7;obtain⟨⟨⟩,hB9,hB7⟩:=hz;refine ct (fun L w=>L 2=.pointer (some ⟨b3,0,none⟩)/\L 10=.int .i64 q0.1/\L 12=.slice a5 z1.length cq5/\L 60=.slice a5 z1.length cq5/\L 61=.int .i64 (z1.length:Int)/\L 62=.int .i64 y4/\w4.heap.size<=w.heap.size/\w5.heap.size<=w.heap.size/\Ext w13 w) ?_ ?_
    ·refine wp_block<|Zr<|Zm<|bS hB9 fun x12 Ex12 hB9=>?_;have hz:=(RV.els O4.rv).ix Ex12;obtain⟨b7,f3,cs6,e5,i9,i10,q8,hc4⟩:=hz;cases e5;obtain rfl:=q8;refine Zv (Ao l60_i8 l62_i8 Tryz.underlying41 AY i9 i10)<|Zv (AX rfl AY (hc4.at 0 rfl))<|FT AY fun b8 w14 hx9 hg2 hb14=>?_;have k37:=k33.tr hx9;have k38:=k34.tr hx9;have k39:=k35.tr hx9;have k40:=k36.tr hx9;have k41:=K0_i8.tr hx9;have zs5:=Nat.le_trans Z0_i8 hx9.size;have zs6:=Nat.le_trans Z1_i8 hx9.size;have hb15:=hb13.ext hx9;have r39:=r37.ext hx9;have r40:=r38.ext hx9;have O5:=O4.ext hx9;refine EW rfl l62_i8 rfl AY hb14 rfl rfl (ble rfl) fun w15 hch2 hb16=>?_;have k42:=Ext.chg k37 hch2 (Nat.le_trans k33.size hg2);have k43:=Ext.chg k38 hch2 (Nat.le_trans k34.size hg2);have k44:=Ext.chg k39 hch2 (Nat.le_trans k35.size hg2);have k45:=Ext.chg k40 hch2 (Nat.le_trans k36.size hg2);have k46:=Ext.chg k41 hch2 (Nat.le_trans K0_i8.size hg2);have k47:=Ext.chg hx9 hch2 (Nat.le_trans (Nat.le_refl _) hg2);have zs7:=Nat.le_trans zs5 (Nat.le_of_eq hch2.size.symm);have zs8:=Nat.le_trans zs6 (Nat.le_of_eq hch2.size.symm);have hb17:=hb13.ext k47;have r41:=r37.ext k47;have r42:=r38.ext k47;have O6:=O4.ext k47;have hb18:Bx w15 b8 3 [.int .i64 y4]:=hb16;refine Za<|nl<|Zr<|Zm<|Zv (HV rfl rfl)<|Zm<|bS hB9 fun x13 Ex13 hB9=>?_;have hne:decide (x12=1)=false:=by
      cases h:decide (x12=1)with
      |false=>rfl
      |true=>rw[h]at Ex13;cases Ex13
     refine Gk rfl (Ak hne)<|Gk rfl (Ak hne)<|Gk rfl (Ak hne)<|Gk rfl (Ak hne)<|Gk rfl (Ak hne)<|Zv (Eb rfl hne rfl)<|nl<|?_;have hx10:Ext w15 w15:=Ext.refl _;have k48:=k42.tr hx10;have k49:=k43.tr hx10;have k50:=k44.tr hx10;have k51:=k45.tr hx10;have k52:=k46.tr hx10;have k53:=k47.tr hx10;have zs9:=Nat.le_trans zs7 hx10.size;have zs10:=Nat.le_trans zs8 hx10.size;have hb19:=hb17.ext hx10;have r43:=r41.ext hx10;have r44:=r42.ext hx10;have O7:=O6.ext hx10;have hz:=bs hB9;obtain⟨⟨⟩,hB10,hB9⟩:=hz;refine ct (fun L w=>L 2=.pointer (some ⟨b3,0,none⟩)/\L 10=.int .i64 q0.1/\L 12=.slice (some ⟨b7,f3,none⟩) z1.length cq5/\L 60=.slice (some ⟨b7,f3,none⟩) z1.length cq5/\L 61=.int .i64 (z1.length:Int)/\L 62=.int .i64 y4/\w4.heap.size<=w.heap.size/\w5.heap.size<=w.heap.size/\Ext w15 w) ?_ ?_
     ·exact cnd rfl (fun h7=>by cases h7) (fun _=>wp_skip<|lf ⟨l2_i8,l10_i8,l12_i8,l60_i8,l61_i8,l62_i8,zs9,zs10,(Ext.refl _)⟩)
     rintro L w17⟨l2_j3,l10_j3,l12_j3,l60_j3,l61_j3,l62_j3,Z0_j3,Z1_j3,K0_j3⟩;have k54:=k48.tr K0_j3;have k55:=k49.tr K0_j3;have k56:=k50.tr K0_j3;have k57:=k51.tr K0_j3;have k58:=k52.tr K0_j3;have k59:=k53.tr K0_j3;have r45:=r43.ext K0_j3;have r46:=r44.ext K0_j3;have hb20:=hb19.ext K0_j3;have O8:=O7.ext K0_j3;cases hB9;refine lf<|?_;exact⟨l2_j3,l10_j3,l12_j3,l60_j3,l61_j3,l62_j3,Z0_j3,Z1_j3,k59⟩
    rintro L w18⟨l2_j4,l10_j4,l12_j4,l60_j4,l61_j4,l62_j4,Z0_j4,Z1_j4,K0_j4⟩;have k60:=k33.tr K0_j4;have k61:=k34.tr K0_j4;have k62:=k35.tr K0_j4;have k63:=k36.tr K0_j4;have k64:=K0_i8.tr K0_j4;have r47:=r37.ext K0_j4;have r48:=r38.ext K0_j4;have hb21:=hb13.ext K0_j4;have O9:=O4.ext K0_j4;refine rg<|Zv (BJ l62_j4 rfl)<|Zm<|nl<|lq m (Nat.lt_succ_self _)<|?_;exact⟨_,hB7,rfl,l2_j4,l10_j4,l12_j4,l60_j4,l61_j4,Z0_j4,Z1_j4,k64⟩
   ·have hB7:=Ai hB7 h6;refine wp_exit<|?_;cases hB7;refine lf<|?_;exact⟨l12_i8,Z0_i8,Z1_i8,K0_i8⟩
  rintro L w19⟨l12_j5,Z0_j5,Z1_j5,K0_j5⟩;have k65:=k30.tr K0_j5;have k66:=k31.tr K0_j5;have k67:=k32.tr K0_j5;have k68:=K0_j2.tr K0_j5;have O10:=O12_j2.ext K0_j5;refine Zr<|Zm<|Za<|Za<|nl<|?_;cases hF;exact wp_ret<|rt rfl (.tmp l12_j5 rfl (.tmp rfl rfl .nil)) ⟨_,rfl,O10.rv,k65⟩
def Fx(F:Nat)(x3:(List Int)):Nat->Int->Option (Unit)
 |0,_=>none
 |m+1,y1=>
  if(decide (y1<(x3.length:Int)))=true then
   (((ix x3 y1)>>=fun x4=>
   if(!decide (x4=1))=true then
    some ()
   else
    none:Option (Unit))>>=fun _=>
   Fx F x3 m (AP (y1+1)))
  else
   some ()
def KL(F:Nat)(x0:(Int×Int×(List (Int×Int))×(List Int))):Option (Int×Int×Int):=
 (Dm F (x0.1,x0.2.1,x0.2.2.1,x0.2.2.2))>>=fun x2=>
 if(!decide (x2=0))=true then
  some (0,0,x2)
 else
  (Fv F (x0.1,x0.2.1,x0.2.2.1,x0.2.2.2))>>=fun x3=>
  ((Fx F x3 F 0)>>=fun _=>
  if(decide (0=0))=true then
   some (0,0,5)
  else
   none)
theorem nk{w0:World}{v0:Value}{x0:(Int×Int×(List (Int×Int))×(List Int))}(r0:RV w0 v0 x0){F:Nat}{r:(Int×Int×Int)}(hF:KL F x0=some r):
  Calls Tryz.prog 70 [v0].toArray w0 (BV fun v w'=>v=.tuple #[.int .i64 r.1,.int .i64 r.2.1,.int .i64 r.2.2]/\Ext w0 w'):=by
 unfold KL at hF;have hz:=id r0;obtain⟨_,rfl,_,_,rfl,rfl,_,_,rfl,rfl,_,_,rfl,⟨a1,cq1,rfl,p1,q2,e1⟩,a2,cq2,rfl,p2,q3,e2⟩:=hz;have r2:=RV.of1 p1 q2 e1;have r3:=RV.of1 p2 q3 e2;refine BX (n:=98) Tryz.func70 rfl rfl rfl<|Zr<|FJ rfl rfl fun b2 w1 hx1 hg1 hb1=>?_;have r4:=r2.ext hx1;have r5:=r3.ext hx1;have r6:=r0.ext hx1;refine Za<|Za<|Za<|nl<|wp_seq<|Zr<|Zv (BO rfl EX rfl (Bx.cs hb1))<|bS hF fun x2 Ex2 hF=>Zc (xc Qj (mc rfl mn)) (Vk (show RV (α:=(Int×Int×(List (Int×Int))×(List Int))) _ (.agg [.int .i64 x0.1,.int .i64 x0.2.1,.slice a1 x0.2.2.1.length cq1,.slice a2 x0.2.2.2.length cq2].toArray) (x0.1,x0.2.1,x0.2.2.1,x0.2.2.2)from⟨_,rfl,[.int .i64 x0.1],[.int .i64 x0.2.1]++([.slice a1 x0.2.2.1.length cq1]++[.slice a2 x0.2.2.2.length cq2]),rfl,rfl,[.int .i64 x0.2.1],[.slice a1 x0.2.2.1.length cq1]++[.slice a2 x0.2.2.2.length cq2],rfl,rfl,[.slice a1 x0.2.2.1.length cq1],[.slice a2 x0.2.2.2.length cq2],rfl,r4.rep1,r5.rep1⟩) Ex2) ?_;rintro _ w2⟨rfl,hx2⟩;have k1:=hx1.tr hx2;have hb2:=hb1.ext hx2;have r7:=r4.ext hx2;have r8:=r5.ext hx2;refine Za<|nl<|Zr<|Zm<|Zv (Di rfl rfl)<|nl<|cnd rfl (fun h2=>?_) (fun h2=>?_)
 ·have hF:=Ac hF h2;refine Zr<|Zm<|Za<|Za<|Za<|nl<|?_;cases hF;exact wp_ret<|rt rfl (.tmp rfl rfl (.tmp rfl rfl (.tmp rfl rfl .nil))) ⟨rfl,k1⟩
 ·have hF:=Ai hF h2;refine wp_skip<|Zr<|Za<|nl<|wp_seq<|Zr<|Zv (BO rfl EX rfl (Bx.cs hb2))<|bS hF fun x3 Ex3 hF=>Zc (xc UZ (mc rfl mn)) (Yb (show RV (α:=(Int×Int×(List (Int×Int))×(List Int))) _ (.agg [.int .i64 x0.1,.int .i64 x0.2.1,.slice a1 x0.2.2.1.length cq1,.slice a2 x0.2.2.2.length cq2].toArray) (x0.1,x0.2.1,x0.2.2.1,x0.2.2.2)from⟨_,rfl,[.int .i64 x0.1],[.int .i64 x0.2.1]++([.slice a1 x0.2.2.1.length cq1]++[.slice a2 x0.2.2.2.length cq2]),rfl,rfl,[.int .i64 x0.2.1],[.slice a1 x0.2.2.1.length cq1]++[.slice a2 x0.2.2.2.length cq2],rfl,rfl,[.slice a1 x0.2.2.1.length cq1],[.slice a2 x0.2.2.2.length cq2],rfl,r7.rep1,r8.rep1⟩) Ex3) ?_;rintro _ w3⟨u1,rfl,r9,hx3⟩;have k2:=k1.tr hx3;have hz:=RV.sl r9.rv;obtain⟨a3,cq3,rfl,-,-,-⟩:=hz;refine Zv (Bp rfl Tryz.underlying41)<|Zm<|nl<|?_;have hz:=bs hF;obtain⟨⟨⟩,hB1,hF⟩:=hz;refine ct (fun L w=>L 6=.slice none 0 0/\w2.heap.size<=w.heap.size/\Ext w3 w) ?_ ?_
  ·refine wp_block<|lp (I:=fun m L w=>∃y1:Int,Fx F x3 m y1=some ()/\L 22=.int .i64 y1/\L 6=.slice none 0 0/\L 20=.slice a3 x3.length cq3/\L 21=.int .i64 (x3.length:Int)/\w2.heap.size<=w.heap.size/\Ext w3 w) F ⟨_,hB1,rfl,rfl,rfl,rfl,hx3.size,(Ext.refl _)⟩ ?_;rintro m L w4⟨y1,hB1,l22_i1,l6_i1,l20_i1,l21_i1,Z0_i1,K0_i1⟩;rcases m with _|m
   ·rw[Fx]at hB1;cases hB1
   rw[Fx]at hB1;have k3:=k2.tr K0_i1;have k4:=hx3.tr K0_i1;have r10:=r9.ext K0_i1;refine Zr<|Zv (BN l22_i1 l21_i1)<|nl<|wp_seq<|cnd rfl (fun h3=>?_) (fun h3=>?_)
   ·have hB1:=Ac hB1 h3;refine wp_skip<|wp_seq<|?_;have hz:=bs hB1;obtain⟨⟨⟩,hB3,hB1⟩:=hz;refine ct (fun L w=>L 6=.slice none 0 0/\L 20=.slice a3 x3.length cq3/\L 21=.int .i64 (x3.length:Int)/\L 22=.int .i64 y1/\w2.heap.size<=w.heap.size/\Ext w4 w) ?_ ?_
    ·refine wp_block<|Zr<|Zm<|bS hB3 fun x4 Ex4 hB3=>?_;have hz:=(RV.els r10.rv).ix Ex4;obtain⟨b3,f1,cs2,e3,i2,i3,q4,hc1⟩:=hz;cases e3;obtain rfl:=q4;refine Zv (Ao l20_i1 l22_i1 Tryz.underlying41 AY i2 i3)<|Zv (AX rfl AY (hc1.at 0 rfl))<|Za<|Za<|nl<|wp_seq<|Zr<|Zm<|Zv (Di rfl rfl)<|nl<|cnd rfl (fun h4=>?_) (fun h4=>?_)
     ·have hB3:=Ac hB3 h4;refine wp_exit<|?_;cases hB3;refine lf<|?_;exact⟨l6_i1,l20_i1,l21_i1,l22_i1,Z0_i1,(Ext.refl _)⟩
     ·have hB3:=Ai hB3 h4;cases hB3
    rintro L w5⟨l6_j1,l20_j1,l21_j1,l22_j1,Z0_j1,K0_j1⟩;have k5:=k3.tr K0_j1;have k6:=k4.tr K0_j1;have k7:=K0_i1.tr K0_j1;have r11:=r10.ext K0_j1;refine rg<|Zv (BJ l22_j1 rfl)<|Zm<|nl<|lq m (Nat.lt_succ_self _)<|?_;exact⟨_,hB1,rfl,l6_j1,l20_j1,l21_j1,Z0_j1,k7⟩
   ·have hB1:=Ai hB1 h3;refine wp_exit<|?_;cases hB1;refine lf<|?_;exact⟨l6_i1,Z0_i1,K0_i1⟩
  rintro L w6⟨l6_j2,Z0_j2,K0_j2⟩;have k8:=k2.tr K0_j2;have k9:=hx3.tr K0_j2;refine wp_seq<|Zr<|Zm<|Zv (Bp l6_j2 Tryz.underlying246)<|Zv (HV rfl rfl)<|nl<|cnd rfl (fun h5=>?_) (fun h5=>?_)
  ·have hF:=Ac hF h5;refine Zr<|Za<|Za<|Za<|nl<|?_;cases hF;exact wp_ret<|rt rfl (.tmp rfl rfl (.tmp rfl rfl (.tmp rfl rfl .nil))) ⟨rfl,k8⟩
  ·have hF:=Ai hF h5;cases hF
end Go.Proofs.YtfmelbioccbdoaaGreat
end
section
namespace Go.Proofs.YtfmelbioccbdoaaGreat
open Go Go.Md Go.RowKit
def IQ(F:Nat)(x0:(Int×Int×(List (Int×Int))×(List Int))):Option ((List Int)×Int):=
 (Dm F (x0.1,x0.2.1,x0.2.2.1,x0.2.2.2))>>=fun x2=>
 if(!decide (x2=0))=true then
  some ([],x2)
 else
  (Fv F (x0.1,x0.2.1,x0.2.2.1,x0.2.2.2))>>=fun x3=>
  some (x3,0)
def DI(F:Nat)(x0:(List (Int×Int)))(x4:((List Int)×Int))(x5:((List Int)×Int))(y1:Int):Nat->Int->(Int×Int×(List (Int×Int))×(List Int))->Option ((Int×Int×(List (Int×Int))×(List Int)))
 |0,_,_=>none
 |m+1,y3,y4=>
  if(decide (y3<(x4.1.length:Int)))=true then
   (((ix x5.1 y1)>>=fun x9=>
   (ix x0 x9)>>=fun x10=>
   (Pe x4.1 y3 (AP (y3+1)))>>=fun x11=>
   (Gd F (x10.1,x10.2) x11)>>=fun x12=>
   ((if x12=true then
    (JP y1 y3)>>=fun x13=>
    (app 16 y4.2.2.1 ([x13]:List (Int×Int)))>>=fun x14=>
    some (y4.1,y4.2.1,x14,[])
   else
    some (y4.1,y4.2.1,y4.2.2.1,[]):Option ((Int×Int×(List (Int×Int))×(List Int))))>>=fun y6=>
   some (y6.1,y6.2.1,y6.2.2.1,[])):Option ((Int×Int×(List (Int×Int))×(List Int))))>>=fun y5=>
   DI F x0 x4 x5 y1 m (AP (y3+1)) (y5.1,y5.2.1,y5.2.2.1,[]))
  else
   some (y4.1,y4.2.1,y4.2.2.1,[])
def DJ(F:Nat)(x0:(List (Int×Int)))(x4:((List Int)×Int))(x5:((List Int)×Int)):Nat->Int->(Int×Int×(List (Int×Int))×(List Int))->Option ((Int×Int×(List (Int×Int))×(List Int)))
 |0,_,_=>none
 |m+1,y1,y2=>
  if(decide (y1<(x4.1.length:Int)))=true then
   ((DI F x0 x4 x5 y1 F 0 (y2.1,y2.2.1,y2.2.2.1,[]))>>=fun z2=>
   DJ F x0 x4 x5 m (AP (y1+1)) (z2.1,z2.2.1,z2.2.2.1,[]))
  else
   some (y2.1,y2.2.1,y2.2.2.1,[])
def DK(F:Nat)(x4:((List Int)×Int))(x17:((List Int)×Int))(x18:((List Int)×Int)):Nat->Int->Option (Sum Bool (Unit))
 |0,_=>none
 |m+1,y7=>
  if(decide (y7<(x4.1.length:Int)))=true then
   (((ix x17.1 y7)>>=fun x21=>
   if(!decide (x21=2))=true then
    some true
   else
    (ix x18.1 y7)>>=fun x22=>
    some (!decide (x22=2)):Option (Bool))>>=fun y8=>
   if y8=true then
    some (.inl false)
   else
    DK F x4 x17 x18 m (AP (y7+1)))
  else
   some (.inr ())
def GV(F:Nat)(x0:(List (Int×Int))):Option Bool:=
 (gd (!(decide (30<(x0.length:Int)))) (DN F x0) 0)>>=fun x2=>
 if((decide (30<(x0.length:Int)))||(!decide (x2=0)))=true then
  (Gh F)>>=fun x3=>
  some x3
 else
  (Gq F x0)>>=fun x4=>
  (Hf F x0)>>=fun x5=>
  (gd (!(((!decide (x4.2=0))||(!decide (x5.2=0)))||(!decide ((x4.1.length:Int)=(x5.1.length:Int))))) (FM F x0 x4.1) 0)>>=fun x6=>
  (gd (!((((!decide (x4.2=0))||(!decide (x5.2=0)))||(!decide ((x4.1.length:Int)=(x5.1.length:Int))))||(!decide (x6=0)))) (EU F x0 x5.1) 0)>>=fun x7=>
  if(((((!decide (x4.2=0))||(!decide (x5.2=0)))||(!decide ((x4.1.length:Int)=(x5.1.length:Int))))||(!decide (x6=0)))||(!decide (x7=0)))=true then
   some false
  else
   if(decide (12<(x4.1.length:Int)))=true then
    (Gh F)>>=fun x8=>
    some x8
   else
    ((DJ F x0 x4 x5 F 0 ((x4.1.length:Int),(x4.1.length:Int),[],[]))>>=fun z1=>
    (FN F (z1.1,z1.2.1,z1.2.2.1,[]))>>=fun x15=>
    if((!decide (x15=0))||(!decide ((z1.2.2.1.length:Int)=(x4.1.length:Int))))=true then
     some false
    else
     (Ga F (z1.1,z1.2.1,z1.2.2.1,[]))>>=fun x16=>
     (IQ F (z1.1,z1.2.1,z1.2.2.1,[]))>>=fun x17=>
     (IL F (z1.1,z1.2.1,z1.2.2.1,[]) true)>>=fun x18=>
     (KL F (z1.1,z1.2.1,z1.2.2.1,[]))>>=fun x19=>
     if(((((((!decide (x16.2=0))||(!decide (x17.2=0)))||(!decide (x18.2=0)))||(!decide (x19.2.2=5)))||(!decide ((x16.1.length:Int)=(x4.1.length:Int))))||(!decide ((x17.1.length:Int)=(x4.1.length:Int))))||(!decide ((x18.1.length:Int)=(x4.1.length:Int))))=true then
      some false
     else
      ((DK F x4 x17 x18 F 0)>>=fun o=>match o with
       |.inl r=>some r
       |.inr ()=>
        (Gh F)>>=fun x23=>
        some x23))
end Go.Proofs.YtfmelbioccbdoaaGreat
end
section
namespace Go.Proofs.YtfmelbioccbdoaaGreat
open Go Go.Md Go.RowKit
attribute [local irreducible] Go.wpList Go.Code.wp Go.Calls Go.Md.Cu Go.Md.Mt Go.Md.Dl Go.Md.Ch Go.Code.wpIn
theorem nu{w0:World}{v0:Value}{x0:(List (Int×Int))}(r0:RV w0 v0 x0){F:Nat}{r:((List Int)×Int)}(hF:Hf F x0=some r):
  Calls Tryz.prog 21 [v0].toArray w0 (BV fun v w'=>∃u0:Value,v=.tuple #[u0,.int .i64 r.2]/\RV w' u0 r.1/\Ext w0 w'):=by
 unfold Hf at hF;have hz:=r0.sl;obtain⟨a1,cq1,rfl,-,-,-⟩:=hz;refine BX (n:=29) Tryz.func21 rfl rfl rfl<|Zr<|Za<|Za<|nl<|wp_seq<|Zr<|Zm<|bS hF fun x2 Ex2 hF=>Zc (xc ay (mc rfl mn)) (jT r0 Ex2) ?_;rintro _ w1⟨rfl,hx1⟩;have r2:=r0.ext hx1;refine Za<|nl<|Zr<|Zm<|Zv (Di rfl rfl)<|nl<|cnd rfl (fun h2=>?_) (fun h2=>?_)
 ·have hF:=Ac hF h2;refine Zr<|Zm<|Za<|Za<|nl<|?_;cases hF;exact wp_ret<|rt rfl (.tmp rfl rfl (.tmp rfl rfl .nil)) ⟨_,rfl,(RVo.nil (Nat.zero_le _)),hx1⟩
 ·have hF:=Ai hF h2;refine wp_skip<|Zr<|Zm<|bS hF fun x3 Ex3 hF=>Zc (xc bA (mc rfl mn)) (jS r2 Ex3) ?_;rintro _ w2⟨u1,rfl,r3,hx2⟩;have k1:=hx1.tr hx2;have hz:=ZE r3;obtain⟨a2,rfl⟩:=hz;refine Zv (Ki (r:=[.int .i64 1,.int .i64 0]) D8 ak (pc rfl pn) rfl)<|bS hF fun x4 Ex4 hF=>?_;have hz:=Ub r3 Ex4;obtain⟨b2,cs2,e1,q2,hc1⟩:=hz;cases e1;obtain⟨a3,cq2,rfl,p1,q3,e2⟩:=q2;have r4:=RV.of1 p1 q3 e2;refine bS hF fun x5 Ex5 hF=>Zc (xc bB (mc rfl (mc rfl mn))) (jR (x0:=(⟨x4.v⟩:(Uno (List ((Int×Int)×Int))))) hc1 r4.rep1 (show RV (α:=(Int×Int)) _ (.agg [.int .i64 1,.int .i64 0].toArray) (1,0)from⟨_,rfl,[.int .i64 1],[.int .i64 0],rfl,rfl,rfl⟩) Ex5) ?_;rintro _ w3⟨u2,u3,rfl,r5,r6,hx3⟩;have k2:=k1.tr hx3;have hz:=RV.sl r5.rv;obtain⟨a4,cq3,rfl,-,-,-⟩:=hz;have hz:=RV.sl r6.rv;obtain⟨a5,cq4,rfl,-,-,-⟩:=hz;refine Zm<|Zv (F4 rfl rfl)<|Zv (F4 rfl rfl)<|Za<|Za<|nl<|Zr<|Zm<|Zv (Bp rfl Tryz.underlying41)<|bS hF fun x6 Ex6 hF=>Xt (α:=Int) (z0:=0) rfl rfl Tryz.underlying41 AY rfl rfl rfl Ex6 fun b3 w4 hx4 o1=>?_;have k3:=k2.tr hx4;have r7:=r6.ext hx4;refine Za<|nl<|Zr<|Zm<|Zm<|bK (l:=x6) (k:=x5.2) rfl rfl Tryz.underlying41 AY o1 r7.rv fun w5 cq5 hch1 o2=>?_;have k5:=Ext.chg k3 hch1 (Nat.le_trans k2.size (Row.ge o1));have k7:=Ext.chg hx4 hch1 (Nat.le_trans (Nat.le_refl _) (Row.ge o1));refine nl<|Zr<|Zm<|bS hF fun x7 Ex7 hF=>Zc (xc bC (mc rfl mn)) (bP k7.size o2 Ex7) ?_;rintro _ w6⟨rfl,o3,hB1,hgr1⟩;have k8:=Ext.grow k5 k2.size hB1;have k10:Ext w3 w6:=k7.trans hB1;refine nl<|Zr<|Zm<|Za<|Za<|nl<|?_;cases hF;exact wp_ret<|rt rfl (.tmp rfl rfl (.tmp rfl rfl .nil)) ⟨_,rfl,o3.rv,k8⟩


theorem ny{w0:World}{F:Nat}{r:Bool}(hF:Ko F=some r):
  Calls Tryz.prog 15 [].toArray w0 (BV fun v w'=>v=.bool r/\Ext w0 w'):=by
 unfold Ko at hF;refine BX (n:=8) Tryz.func15 rfl rfl rfl<|Zr<|Za<|nl<|Zr<|bS hF fun x1 Ex1 hF=>Zc (xc kC mn) (kY Ex1) ?_;rintro _ w1⟨rfl,hx1⟩;refine Zm<|bS hF fun x2 Ex2 hF=>gc rfl rfl rfl rfl (Iw rfl) rfl (fun hc=>xc kD mn) (fun hc=>(kZ (NW Ex2 hc))) (fun v1 w2 hy1 hn1=>?_);have hx2:Ext w1 w2:=gx (fun h=>(hy1 h).2) (fun h=>(hn1 h).2▸Ext.refl _);have e1:=NY (fun h=>(hy1 h).1) (fun h=>(hn1 h).1);have k1:=hx1.tr hx2;refine Zv (QD rfl e1 rfl)<|Zm<|bS hF fun x3 Ex3 hF=>gc rfl rfl rfl rfl (Iw rfl) rfl (fun hc=>xc kE mn) (fun hc=>(kg (NW Ex3 hc))) (fun v2 w3 hy2 hn2=>?_);have hx3:Ext w2 w3:=gx (fun h=>(hy2 h).2) (fun h=>(hn2 h).2▸Ext.refl _);have e2:=NY (fun h=>(hy2 h).1) (fun h=>(hn2 h).1);have k2:=k1.tr hx3;refine Zv (QD rfl e2 rfl)<|Za<|nl<|?_;cases hF;exact wp_ret<|Zw rfl rfl rfl ⟨rfl,k2⟩

theorem eB{w0:World}{F:Nat}{r:Bool}(hF:Gh F=some r):
  Calls Tryz.prog 54 [].toArray w0 (BV fun v w'=>v=.bool r/\Ext w0 w'):=by
 unfold Gh at hF;refine BX (n:=8) Tryz.func54 rfl rfl rfl<|Zr<|Za<|nl<|Zr<|bS hF fun x1 Ex1 hF=>Zc (xc jf mn) (ny Ex1) ?_;rintro _ w1⟨rfl,hx1⟩;refine Zm<|bS hF fun x2 Ex2 hF=>gc rfl rfl rfl rfl (Iw rfl) rfl (fun hc=>xc fQ mn) (fun hc=>(ic (NW Ex2 hc))) (fun v1 w2 hy1 hn1=>?_);have hx2:Ext w1 w2:=gx (fun h=>(hy1 h).2) (fun h=>(hn1 h).2▸Ext.refl _);have e1:=NY (fun h=>(hy1 h).1) (fun h=>(hn1 h).1);have k1:=hx1.tr hx2;refine Zv (QD rfl e1 rfl)<|Zm<|bS hF fun x3 Ex3 hF=>gc rfl rfl rfl rfl (Iw rfl) rfl (fun hc=>xc fT mn) (fun hc=>(iy (NW Ex3 hc))) (fun v2 w3 hy2 hn2=>?_);have hx3:Ext w2 w3:=gx (fun h=>(hy2 h).2) (fun h=>(hn2 h).2▸Ext.refl _);have e2:=NY (fun h=>(hy2 h).1) (fun h=>(hn2 h).1);have k2:=k1.tr hx3;refine Zv (QD rfl e2 rfl)<|Za<|nl<|?_;cases hF;exact wp_ret<|Zw rfl rfl rfl ⟨rfl,k2⟩
def G2(r1 r2:Option Nat)(w w':World):Prop:=∃wm,w.grownBy wm r1/\wm.grownBy w' r2
theorem G2.refl{r1 r2:Option Nat}{w:World}:G2 r1 r2 w w:=⟨w,Ext.gro (Ext.refl _),Ext.gro (Ext.refl _)⟩
theorem G2.of1{r1 r2:Option Nat}{w w':World}(h:w.grownBy w' r1):G2 r1 r2 w w':=⟨w',h,Ext.gro (Ext.refl _)⟩
theorem Cs.g2{r1 r2:Option Nat}{w0 w w':World}{b o:Nat}{cs:List Value}(h:Cs w0 b o cs)(k:Ext w0 w)(g:G2 r1 r2 w w')(h1:∀q,r1=some q->w0.heap.size<=q)(h2:∀q,r2=some q->w0.heap.size<=q):Cs w' b o cs:=fun j c hc=>by
 obtain⟨wm,ga,gb⟩:=g;have e0:=h j c hc;have hlt:b<w0.heap.size:=World.block_lt_of_cell? w0 _ e0;have e1:wm.heap[b]?=w0.heap[b]?:=(ga.block b (Nat.lt_of_lt_of_le hlt k.size) fun e=>by have:=h1 b e.symm;omega).trans (k.block b hlt);have e2:w'.heap[b]?=wm.heap[b]?:=gb.block b (Nat.lt_of_lt_of_le hlt (Nat.le_trans k.size ga.size)) fun e=>by have:=h2 b e.symm;omega
 exact(World.cell?_of_block (a:=⟨b,o+j,none⟩) (e2.trans e1)).trans e0
theorem oC{w0:World}{v0:Value}{x0:(Int×Int×(List (Int×Int))×(List Int))}(r0:RV w0 v0 x0){F:Nat}{r:((List Int)×Int)}(hF:IQ F x0=some r):
  Calls Tryz.prog 68 [v0].toArray w0 (BV fun v w'=>∃u0:Value,v=.tuple #[u0,.int .i64 r.2]/\RV w' u0 r.1/\Ext w0 w'):=by
 unfold IQ at hF;have hz:=id r0;obtain⟨_,rfl,_,_,rfl,rfl,_,_,rfl,rfl,_,_,rfl,⟨a1,cq1,rfl,p1,q2,e1⟩,a2,cq2,rfl,p2,q3,e2⟩:=hz;have r2:=RV.of1 p1 q2 e1;have r3:=RV.of1 p2 q3 e2;refine BX (n:=12) Tryz.func68 rfl rfl rfl<|Zr<|FJ rfl rfl fun b2 w1 hx1 hg1 hb1=>?_;have r4:=r2.ext hx1;have r5:=r3.ext hx1;refine Za<|Za<|nl<|wp_seq<|Zr<|Zv (BO rfl EX rfl (Bx.cs hb1))<|bS hF fun x2 Ex2 hF=>Zc (xc Qj (mc rfl mn)) (Vk (show RV (α:=(Int×Int×(List (Int×Int))×(List Int))) _ (.agg [.int .i64 x0.1,.int .i64 x0.2.1,.slice a1 x0.2.2.1.length cq1,.slice a2 x0.2.2.2.length cq2].toArray) (x0.1,x0.2.1,x0.2.2.1,x0.2.2.2)from⟨_,rfl,[.int .i64 x0.1],[.int .i64 x0.2.1]++([.slice a1 x0.2.2.1.length cq1]++[.slice a2 x0.2.2.2.length cq2]),rfl,rfl,[.int .i64 x0.2.1],[.slice a1 x0.2.2.1.length cq1]++[.slice a2 x0.2.2.2.length cq2],rfl,rfl,[.slice a1 x0.2.2.1.length cq1],[.slice a2 x0.2.2.2.length cq2],rfl,r4.rep1,r5.rep1⟩) Ex2) ?_;rintro _ w2⟨rfl,hx2⟩;have k1:=hx1.tr hx2;have hb2:=hb1.ext hx2;have r7:=r4.ext hx2;have r8:=r5.ext hx2;refine Za<|nl<|Zr<|Zm<|Zv (Di rfl rfl)<|nl<|cnd rfl (fun h2=>?_) (fun h2=>?_)
 ·have hF:=Ac hF h2;refine Zr<|Zm<|Za<|Za<|nl<|?_;cases hF;exact wp_ret<|rt rfl (.tmp rfl rfl (.tmp rfl rfl .nil)) ⟨_,rfl,(RVo.nil (Nat.zero_le _)),k1⟩
 ·have hF:=Ai hF h2;refine wp_skip<|Zr<|Zv (BO rfl EX rfl (Bx.cs hb2))<|bS hF fun x3 Ex3 hF=>Zc (xc UZ (mc rfl mn)) (Yb (show RV (α:=(Int×Int×(List (Int×Int))×(List Int))) _ (.agg [.int .i64 x0.1,.int .i64 x0.2.1,.slice a1 x0.2.2.1.length cq1,.slice a2 x0.2.2.2.length cq2].toArray) (x0.1,x0.2.1,x0.2.2.1,x0.2.2.2)from⟨_,rfl,[.int .i64 x0.1],[.int .i64 x0.2.1]++([.slice a1 x0.2.2.1.length cq1]++[.slice a2 x0.2.2.2.length cq2]),rfl,rfl,[.int .i64 x0.2.1],[.slice a1 x0.2.2.1.length cq1]++[.slice a2 x0.2.2.2.length cq2],rfl,rfl,[.slice a1 x0.2.2.1.length cq1],[.slice a2 x0.2.2.2.length cq2],rfl,r7.rep1,r8.rep1⟩) Ex3) ?_;rintro _ w3⟨u1,rfl,r9,hx3⟩;have k2:=k1.tr hx3;have hz:=RV.sl r9.rv;obtain⟨a3,cq3,rfl,-,-,-⟩:=hz;refine Za<|Za<|nl<|?_;cases hF;exact wp_ret<|rt rfl (.tmp rfl rfl (.tmp rfl rfl .nil)) ⟨_,rfl,r9.rv,k2⟩
theorem c9{w0:World}{v0:Value}{x0:(List (Int×Int))}(r0:RV w0 v0 x0){F:Nat}{r:Bool}(hF:GV F x0=some r):
  Calls Tryz.prog 9 [v0].toArray w0 (BV fun v w'=>v=.bool r/\Ext w0 w'):=by
 unfold GV at hF;have hz:=r0.sl;obtain⟨a1,cq1,rfl,-,-,-⟩:=hz;refine BX (n:=183) Tryz.func9 rfl rfl rfl<|Zr<|Za<|nl<|wp_seq<|Zr<|Zm<|Zv (Bp rfl Tryz.underlying32)<|Zv (EO rfl rfl)<|Zm<|Zg rfl rfl (A9 rfl) (fun hc=>Ba rfl)<|bS hF fun x2 Ex2 hF=>gc rfl rfl rfl rfl (A9 rfl) rfl (fun hc=>xc Qy (mc (mv hc rfl) mn)) (fun hc=>(XC r0 (NW Ex2 hc))) (fun v2 w1 hy1 hn1=>?_);have hx1:Ext w0 w1:=gx (fun h=>(hy1 h).2) (fun h=>(hn1 h).2▸Ext.refl _);have e1:=NY (fun h=>(hy1 h).1) (fun h=>(hn1 h).1);have r2:=r0.ext hx1;refine Zg rfl rfl (A9 rfl) (fun hc=>Di (mv hc e1) rfl)<|Zv (F6 rfl rfl rfl)<|nl<|cnd rfl (fun h2=>?_) (fun h2=>?_)
 ·have hF:=Ac hF h2;refine Zr<|bS hF fun x3 Ex3 hF=>Zc (xc Xn mn) (eB Ex3) ?_;rintro _ w2⟨rfl,hx2⟩;have k1:=hx1.tr hx2;refine Za<|nl<|?_;cases hF;exact wp_ret<|Zw rfl rfl rfl ⟨rfl,k1⟩
 ·have hF:=Ai hF h2;refine wp_skip<|Zr<|Zm<|bS hF fun x4 Ex4 hF=>Zc (xc jh (mc rfl mn)) (nV r2 Ex4) ?_;rintro _ w3⟨u1,rfl,r3,hx3⟩;have k2:=hx1.tr hx3;have r4:=r2.ext hx3;have hz:=RV.sl r3;obtain⟨a2,cq2,rfl,-,-,-⟩:=hz;refine Zm<|Zv (F4 rfl rfl)<|Zv (F4 rfl rfl)<|Za<|Za<|nl<|Zr<|Zm<|bS hF fun x5 Ex5 hF=>Zc (xc ji (mc rfl mn)) (nu r4 Ex5) ?_;rintro _ w4⟨u2,rfl,r5,hx4⟩;have k3:=k2.tr hx4;have r6:=r4.ext hx4;have r7:=r3.ext hx4;have hz:=RV.sl r5;obtain⟨a3,cq3,rfl,-,-,-⟩:=hz;refine Zm<|Zv (F4 rfl rfl)<|Zv (F4 rfl rfl)<|Za<|Za<|nl<|wp_seq<|Zr<|Zm<|Zv (Di rfl rfl)<|Zm<|Zg rfl rfl (A9 rfl) (fun hc=>Ba rfl)<|Zg rfl rfl (A9 rfl) (fun hc=>Di (mv hc rfl) rfl)<|Zv (F6 rfl rfl rfl)<|Zm<|Zg rfl rfl (A9 rfl) (fun hc=>Ba rfl)<|Zg rfl rfl (A9 rfl) (fun hc=>Bp (mv hc rfl) Tryz.underlying28)<|Zg rfl rfl (A9 rfl) (fun hc=>Ba rfl)<|Zg rfl rfl (A9 rfl) (fun hc=>Bp (mv hc rfl) Tryz.underlying41)<|Zg rfl rfl (A9 rfl) (fun hc=>Di (mv hc rfl) (mv hc rfl))<|Zv (F6 rfl rfl rfl)<|Zm<|Zg rfl rfl (A9 rfl) (fun hc=>Ba rfl)<|Zg rfl rfl (A9 rfl) (fun hc=>Ba rfl)<|bS hF fun x6 Ex6 hF=>gc rfl rfl rfl rfl (A9 rfl) rfl (fun hc=>xc jk (mc (mv hc rfl) (mc (mv hc rfl) mn))) (fun hc=>(nT r6 r7 (NW Ex6 hc))) (fun v3 w5 hy2 hn2=>?_);have hx5:Ext w4 w5:=gx (fun h=>(hy2 h).2) (fun h=>(hn2 h).2▸Ext.refl _);have e2:=NY (fun h=>(hy2 h).1) (fun h=>(hn2 h).1);have k4:=k3.tr hx5;have r8:=r6.ext hx5;have r9:=r7.ext hx5;have r10:=r5.ext hx5;refine Zg rfl rfl (A9 rfl) (fun hc=>Di (mv hc e2) rfl)<|Zv (F6 rfl rfl rfl)<|Zm<|Zg rfl rfl (A9 rfl) (fun hc=>Ba rfl)<|Zg rfl rfl (A9 rfl) (fun hc=>Ba rfl)<|bS hF fun x7 Ex7 hF=>gc rfl rfl rfl rfl (A9 rfl) rfl (fun hc=>xc jq (mc (mv hc rfl) (mc (mv hc rfl) mn))) (fun hc=>(nU r8 r10 (NW Ex7 hc))) (fun v4 w6 hy3 hn3=>?_);have hx6:Ext w5 w6:=gx (fun h=>(hy3 h).2) (fun h=>(hn3 h).2▸Ext.refl _);have e3:=NY (fun h=>(hy3 h).1) (fun h=>(hn3 h).1);have k5:=k4.tr hx6;have r12:=r9.ext hx6;have r13:=r10.ext hx6;refine Zg rfl rfl (A9 rfl) (fun hc=>Di (mv hc e3) rfl)<|Zv (F6 rfl rfl rfl)<|nl<|cnd rfl (fun h3=>?_) (fun h3=>?_)
  ·have hF:=Ac hF h3;refine Zr<|Za<|nl<|?_;cases hF;exact wp_ret<|Zw rfl rfl rfl ⟨rfl,k5⟩
  ·have hF:=Ai hF h3;refine wp_skip<|Zr<|Zm<|Zv (Bp rfl Tryz.underlying28)<|Za<|nl<|wp_seq<|Zr<|Zm<|Zv (EO rfl rfl)<|nl<|cnd rfl (fun h4=>?_) (fun h4=>?_)
   ·have hF:=Ac hF h4;refine Zr<|bS hF fun x8 Ex8 hF=>Zc (xc Xn mn) (eB Ex8) ?_;rintro _ w7⟨rfl,hx7⟩;have k6:=k5.tr hx7;refine Za<|nl<|?_;cases hF;exact wp_ret<|Zw rfl rfl rfl ⟨rfl,k6⟩
   ·have hF:=Ai hF h4;refine wp_skip<|Zr<|Zm<|Zm<|Zv (Ki (r:=[.int .i64 (x4.1.length:Int),.int .i64 (x4.1.length:Int),.slice none 0 0,.slice none 0 0]) EX fB (pc rfl (pc rfl pn)) rfl)<|FT EX fun b2 w8 hx8 hg1 hb1=>EW rfl rfl rfl EX hb1 rfl rfl (ble rfl) fun w9 hch1 hb2=>?_;have k9:=Ext.chg hx8 hch1 (Nat.le_trans (Nat.le_refl _) hg1);have hb3:Bx w9 b2 110 [.int .i64 (x4.1.length:Int),.int .i64 (x4.1.length:Int),.slice none 0 0,.slice none 0 0]:=hb2;refine nl<|wp_seq<|Zr<|Za<|nl<|bS hF fun z1 hB1 hF=>ct (fun L w=>∃v6:Value,Bx w b2 110 [.int .i64 z1.1,.int .i64 z1.2.1,v6,.slice none 0 0]/\Row 112 w9.heap.size w v6 z1.2.2.1/\some b2≠Value.ownBlock v6/\L 7=.int .i64 (x4.1.length:Int)/\L 8=.pointer (some ⟨b2,0,none⟩)/\w9.heap.size<=w.heap.size/\Ext w6 w) ?_ ?_
    ·refine wp_block<|lp (I:=fun m L w=>∃y1:Int,∃y2:(Int×Int×(List (Int×Int))×(List Int)),∃v5:Value,DJ F x0 x4 x5 m y1 y2=some z1/\L 9=.int .i64 y1/\Bx w b2 110 [.int .i64 y2.1,.int .i64 y2.2.1,v5,.slice none 0 0]/\Row 112 w9.heap.size w v5 y2.2.2.1/\some b2≠Value.ownBlock v5/\L 0=.slice a1 x0.length cq1/\L 3=.slice a2 x4.1.length cq2/\L 5=.slice a3 x5.1.length cq3/\L 7=.int .i64 (x4.1.length:Int)/\L 8=.pointer (some ⟨b2,0,none⟩)/\w9.heap.size<=w.heap.size/\Ext w6 w) F ⟨_,_,_,hB1,rfl,hb3,Row.nil,(fun e=>by cases e),rfl,rfl,rfl,rfl,rfl,(Nat.le_refl _),k9⟩ ?_;rintro m L w10⟨y1,y2,v5,hB1,l9_i1,B8_i1,O8c1_i1,N8c1_i1,l0_i1,l3_i1,l5_i1,l7_i1,l8_i1,Z0_i1,K0_i1⟩;rcases m with _|m
     ·rw[DJ]at hB1;cases hB1
     rw[DJ]at hB1;have hz:=RV.sl O8c1_i1.rv;obtain⟨a4,cq4,rfl,-,-,-⟩:=hz;refine wp_seq<|Zr<|Zm<|Zm<|Zv (BN l9_i1 l7_i1)<|nl<|cnd rfl (fun h5=>?_) (fun h5=>?_)
     ·have hB1:=Ac hB1 h5;refine wp_skip<|wp_seq<|wp_block<|Zr<|Za<|nl<|bS hB1 fun z2 hB3 hB1=>ct (fun L w=>∃v8:Value,Bx w b2 110 [.int .i64 z2.1,.int .i64 z2.2.1,v8,.slice none 0 0]/\Row 112 w9.heap.size w v8 z2.2.2.1/\some b2≠Value.ownBlock v8/\L 0=.slice a1 x0.length cq1/\L 3=.slice a2 x4.1.length cq2/\L 5=.slice a3 x5.1.length cq3/\L 7=.int .i64 (x4.1.length:Int)/\L 8=.pointer (some ⟨b2,0,none⟩)/\L 9=.int .i64 y1/\w9.heap.size<=w.heap.size/\Ext w6 w) ?_ ?_
      ·refine wp_block<|lp (I:=fun m L w=>∃y3:Int,∃y4:(Int×Int×(List (Int×Int))×(List Int)),∃v7:Value,DI F x0 x4 x5 y1 m y3 y4=some z2/\L 10=.int .i64 y3/\Bx w b2 110 [.int .i64 y4.1,.int .i64 y4.2.1,v7,.slice none 0 0]/\Row 112 w9.heap.size w v7 y4.2.2.1/\some b2≠Value.ownBlock v7/\L 0=.slice a1 x0.length cq1/\L 3=.slice a2 x4.1.length cq2/\L 5=.slice a3 x5.1.length cq3/\L 7=.int .i64 (x4.1.length:Int)/\L 8=.pointer (some ⟨b2,0,none⟩)/\L 9=.int .i64 y1/\w9.heap.size<=w.heap.size/\Ext w6 w) F ⟨_,_,_,hB3,rfl,B8_i1,O8c1_i1,N8c1_i1,l0_i1,l3_i1,l5_i1,l7_i1,l8_i1,l9_i1,Z0_i1,K0_i1⟩ ?_;rintro m L w11⟨y3,y4,v7,hB3,l10_i2,B8_i2,O8c1_i2,N8c1_i2,l0_i2,l3_i2,l5_i2,l7_i2,l8_i2,l9_i2,Z0_i2,K0_i2⟩;rcases m with _|m
       ·rw[DI]at hB3;cases hB3
       rw[DI]at hB3;have k11:=k5.tr K0_i2;have hz:=RV.sl O8c1_i2.rv;obtain⟨a5,cq5,rfl,-,-,-⟩:=hz;refine wp_seq<|Zr<|Zm<|Zm<|Zv (BN l10_i2 l7_i2)<|nl<|cnd rfl (fun h6=>?_) (fun h6=>?_)
       ·have hB3:=Ac hB3 h6;refine wp_skip<|wp_seq<|bS hB3 fun y5 hB5 hB3=>ct (fun L w=>∃v9:Value,Bx w b2 110 [.int .i64 y5.1,.int .i64 y5.2.1,v9,.slice none 0 0]/\Row 112 w9.heap.size w v9 y5.2.2.1/\some b2≠Value.ownBlock v9/\L 0=.slice a1 x0.length cq1/\L 3=.slice a2 x4.1.length cq2/\L 5=.slice a3 x5.1.length cq3/\L 7=.int .i64 (x4.1.length:Int)/\L 8=.pointer (some ⟨b2,0,none⟩)/\L 9=.int .i64 y1/\L 10=.int .i64 y3/\w9.heap.size<=w.heap.size/\Ext w6 w) ?_ ?_
        ·refine wp_block<|wp_seq<|FZ [] (.pure true 0 (.pure true 1 (.pure true 2 (.pure true 3 (.pure false 4 (.pure true 5 (.pure false 6 (.pure true 7 (.pure true 8 (.pure true 9 (.pure true 10 (.pure true 11 (.eff 12 .fin .stop))))))))))))) mixed (by kernel_rfl) (fun w12 hx9=>?_);have k12:=k11.tr hx9;have k13:=K0_i2.tr hx9;have zs1:=Nat.le_trans Z0_i2 hx9.size;have B1:=B8_i2.ext hx9;have O1:=O8c1_i2.ext hx9;refine Zn rfl<|Zn rfl<|Zn rfl<|bS hB5 fun x9 Ex9 hB5=>?_;have hz:=(RV.els r13).ix Ex9;obtain⟨b3,f1,cs2,e4,i3,i4,q2,hc1⟩:=hz;cases e4;obtain rfl:=q2;have hc2:=hc1.ext k13;refine Zp rfl (fun _=>Ao l5_i2 l9_i2 Tryz.underlying41 AY i3 i4)<|Zq rfl (fun _ hS=>AX rfl AY ((hc2.ext (hS.resolve_left nofun)).at 0 rfl)) (Ext.refl _)<|bS hB5 fun x10 Ex10 hB5=>?_;have hz:=(RV.els r0).ix Ex10;obtain⟨b4,f2,cs3,e5,i5,i6,q3,hc3⟩:=hz;cases e5;obtain⟨_,_,rfl,rfl,rfl⟩:=q3;have hc4:=hc3.ext k12;refine Zp rfl (fun _=>Ao l0_i2 rfl Tryz.underlying32 D8 i5 i6)<|Zq rfl (fun _ hS=>BO rfl D8 rfl (hc4.ext (hS.resolve_left nofun))) (Ext.refl _)<|Zn rfl<|Zn rfl<|Zn rfl<|Zp rfl (fun _=>BJ l10_i2 rfl)<|bS hB5 fun x11 Ex11 hB5=>?_;have hz:=nQ r12 Ex11 Tryz.underlying28 Du;obtain⟨a6,cq6,r29,hr1⟩:=hz;have r30:=r29.ext k13;refine Zp rfl (fun _=>hr1 _ _ _ _ _ _ _ _ _ _ _ l3_i2 l10_i2 rfl)<|bS hB5 fun x12 Ex12 hB5=>D9 rfl<|Zc (xc ax (mc rfl (mc rfl mn))) (jU (show RV (α:=(Int×Int)) _ (.agg [.int .i64 x10.1,.int .i64 x10.2].toArray) (x10.1,x10.2)from⟨_,rfl,[.int .i64 x10.1],[.int .i64 x10.2],rfl,rfl,rfl⟩) r30 Ex12) ?_;rintro _ w13⟨rfl,hx10⟩;have k15:=k13.tr hx10;have zs2:=Nat.le_trans zs1 hx10.size;have B2:=B1.ext hx10;have O2:=O1.ext hx10;refine nl ⟨fun _ _=>hx10,?_⟩;refine bS hB5 fun y6 hB6 hB5=>ct (fun L w=>∃v10:Value,Bx w b2 110 [.int .i64 y6.1,.int .i64 y6.2.1,v10,.slice none 0 0]/\Row 112 w9.heap.size w v10 y6.2.2.1/\some b2≠Value.ownBlock v10/\L 0=.slice (some ⟨b4,f2,none⟩) x0.length cq1/\L 3=.slice a2 x4.1.length cq2/\L 5=.slice (some ⟨b3,f1,none⟩) x5.1.length cq3/\L 7=.int .i64 (x4.1.length:Int)/\L 8=.pointer (some ⟨b2,0,none⟩)/\L 9=.int .i64 y1/\L 10=.int .i64 y3/\w9.heap.size<=w.heap.size/\Ext w6 w) ?_ ?_
         ·refine cnd rfl (fun h7=>?_) (fun h7=>?_)
          ·have hB6:=Ac hB6 h7;refine FZ [6,8] (.pure true 0 (.pure false 1 (.pure true 2 (.pure true 3 (.eff 4 (.eff 5 (.eff 6 (.pure true 7 (.eff 8 .fin .stop)) .stop) .stop) .stop))))) mixed (by kernel_rfl) (fun w14 hx11=>?_);have k18:=k15.tr hx11;have zs3:=Nat.le_trans zs2 hx11.size;have B3:=B2.ext hx11;have O3:=O2.ext hx11;refine Zp rfl (fun _=>Ah l8_i2 CP)<|Zq rfl (fun _ hS=>AX rfl Dk ((Bx.cs (B3.ext (hS.resolve_left nofun))).at 2 rfl)) (Ext.refl _)<|Zn rfl<|Zn rfl<|bS hB6 fun x13 Ex13 hB6=>D9 rfl<|Zc (xc jl (mc l9_i2 (mc l10_i2 mn))) (nW Ex13) ?_;rintro _ w15⟨u3,rfl,r37,hx12⟩;have k22:=k18.tr hx12;have zs4:=Nat.le_trans zs3 hx12.size;have B4:=B3.ext hx12;have O4:=O3.ext hx12;have hz:=id r37;obtain⟨_,rfl,_,_,rfl,rfl,rfl⟩:=hz;refine nl ⟨fun _ _=>hx12,?_⟩;refine D9 rfl<|JB (cs:=[.int .i64 x13.1,.int .i64 x13.2]) Tryz.underlying108 BR rfl (pc rfl pn) rfl rfl rfl rfl rfl fun b5 w16 hx13 hg2 hb4=>?_;have k27:=k22.tr hx13;have k31:=hx12.tr hx13;have zs5:=Nat.le_trans zs4 hx13.size;have B5:=B4.ext hx13;have O5:=O4.ext hx13;have o3:Row (α:=(Int×Int)) 112 w15.heap.size w16 (.slice (some ⟨b5,0,none⟩) 1 1) [x13]:=Row.lit hg2 hb4 rfl (ble rfl);refine nl ⟨fun _ _=>k31,?_⟩;refine bS hB6 fun x14 Ex14 hB6=>D9 rfl<|Nr (l:=y4.2.2.1) (k:=([x13]:List (Int×Int))) rfl rfl Tryz.underlying108 BR rfl rfl O5 (RV.els o3.rv) Ex14 zs5 fun v11 w17 o4 hB8 hgr1 how1=>?_;have k33:=Ext.grow k27 k9.size hB8;have zs6:=Nat.le_trans zs5 hgr1.size;have ne1:=Jr how1 N8c1_i2 B5.lt;have hb5:=Bx.gr B5 hgr1 N8c1_i2;have hz:=RV.sl o4.rv;obtain⟨a7,cq7,rfl,-,-,-⟩:=hz;refine nl ⟨fun h=>(h (by decide)).elim,?_⟩;refine Zp rfl (fun _=>Ah l8_i2 CP)<|D9 rfl<|EW rfl rfl rfl Dk hb5 rfl rfl (ble rfl) fun w18 hch2 hb6=>?_;have k35:=Ext.chg k33 hch2 (Nat.le_trans (Nat.le_refl _) hg1);have zs7:=Nat.le_trans zs6 (Nat.le_of_eq hch2.size.symm);have o5:=Row.chgn o4 hch2 ne1;have hb7:Bx w18 b2 110 [.int .i64 y4.1,.int .i64 y4.2.1,.slice a7 x14.length cq7,.slice none 0 0]:=hb6;refine nl ⟨fun h=>(h (by decide)).elim,?_⟩;cases hB6;refine lf<|?_;exact⟨_,hb7,o5,ne1,l0_i2,l3_i2,l5_i2,l7_i2,l8_i2,l9_i2,l10_i2,zs7,k35⟩
          ·have hB6:=Ai hB6 h7;refine wp_skip<|?_;cases hB6;refine lf<|?_;exact⟨_,B2,O2,N8c1_i2,l0_i2,l3_i2,l5_i2,l7_i2,l8_i2,l9_i2,l10_i2,zs2,k15⟩
         rintro L w19⟨v10,B8_j1,O8c1_j1,N8c1_j1,l0_j1,l3_j1,l5_j1,l7_j1,l8_j1,l9_j1,l10_j1,Z0_j1,K0_j1⟩;have hz:=RV.sl O8c1_j1.rv;obtain⟨a8,cq8,rfl,-,-,-⟩:=hz;cases hB5;refine lf<|?_;exact⟨_,B8_j1,O8c1_j1,N8c1_j1,l0_j1,l3_j1,l5_j1,l7_j1,l8_j1,l9_j1,l10_j1,Z0_j1,K0_j1⟩
        rintro L w20⟨v9,B8_j2,O8c1_j2,N8c1_j2,l0_j2,l3_j2,l5_j2,l7_j2,l8_j2,l9_j2,l10_j2,Z0_j2,K0_j2⟩;have hz:=RV.sl O8c1_j2.rv;obtain⟨a9,cq9,rfl,-,-,-⟩:=hz;refine rg<|Zm<|Zv (BJ l10_j2 rfl)<|Za<|nl<|lq m (Nat.lt_succ_self _)<|?_;exact⟨_,_,_,hB3,rfl,B8_j2,O8c1_j2,N8c1_j2,l0_j2,l3_j2,l5_j2,l7_j2,l8_j2,l9_j2,Z0_j2,K0_j2⟩
       ·have hB3:=Ai hB3 h6;refine wp_exit<|?_;cases hB3;refine lf<|?_;exact⟨_,B8_i2,O8c1_i2,N8c1_i2,l0_i2,l3_i2,l5_i2,l7_i2,l8_i2,l9_i2,Z0_i2,K0_i2⟩
      rintro L w21⟨v8,B8_j3,O8c1_j3,N8c1_j3,l0_j3,l3_j3,l5_j3,l7_j3,l8_j3,l9_j3,Z0_j3,K0_j3⟩;have hz:=RV.sl O8c1_j3.rv;obtain⟨a10,cq10,rfl,-,-,-⟩:=hz;refine rg<|Zm<|Zv (BJ l9_j3 rfl)<|Za<|nl<|lq m (Nat.lt_succ_self _)<|?_;exact⟨_,_,_,hB1,rfl,B8_j3,O8c1_j3,N8c1_j3,l0_j3,l3_j3,l5_j3,l7_j3,l8_j3,Z0_j3,K0_j3⟩
     ·have hB1:=Ai hB1 h5;refine wp_exit<|?_;cases hB1;refine lf<|?_;exact⟨_,B8_i1,O8c1_i1,N8c1_i1,l7_i1,l8_i1,Z0_i1,K0_i1⟩
    rintro L w22⟨v6,B8_j4,O8c1_j4,N8c1_j4,l7_j4,l8_j4,Z0_j4,K0_j4⟩;have k39:=k5.tr K0_j4;have hz:=RV.sl O8c1_j4.rv;obtain⟨a11,cq11,rfl,-,-,-⟩:=hz;refine wp_seq<|Zr<|Zv (BO l8_j4 EX rfl (Bx.cs B8_j4))<|bS hF fun x15 Ex15 hF=>Zc (xc jm (mc rfl mn)) (nX (show RV (α:=(Int×Int×(List (Int×Int))×(List Int))) _ (.agg [.int .i64 z1.1,.int .i64 z1.2.1,.slice a11 z1.2.2.1.length cq11,.slice none 0 0].toArray) (z1.1,z1.2.1,z1.2.2.1,[])from⟨_,rfl,[.int .i64 z1.1],[.int .i64 z1.2.1]++([.slice a11 z1.2.2.1.length cq11]++[.slice none 0 0]),rfl,rfl,[.int .i64 z1.2.1],[.slice a11 z1.2.2.1.length cq11]++[.slice none 0 0],rfl,rfl,[.slice a11 z1.2.2.1.length cq11],[.slice none 0 0],rfl,O8c1_j4.rv.rep1,(RVo.nil (Nat.zero_le _)).rep1⟩) Ex15) ?_;rintro _ w23⟨rfl,hx14⟩;have k40:=k39.tr hx14;have zs8:=Nat.le_trans Z0_j4 hx14.size;have B6:=B8_j4.ext hx14;have O6:=O8c1_j4.ext hx14;refine Zv (Di rfl rfl)<|Zm<|Zg rfl rfl (A9 rfl) (fun hc=>Ah l8_j4 CP)<|Zg rfl rfl (A9 rfl) (fun hc=>AX (mv hc rfl) Dk ((Bx.cs B6).at 2 rfl))<|Zg rfl rfl (A9 rfl) (fun hc=>Bp (mv hc rfl) Tryz.underlying108)<|Zg rfl rfl (A9 rfl) (fun hc=>Ba l7_j4)<|Zg rfl rfl (A9 rfl) (fun hc=>Di (mv hc rfl) (mv hc rfl))<|Zv (F6 rfl rfl rfl)<|nl<|cnd rfl (fun h8=>?_) (fun h8=>?_)
    ·have hF:=Ac hF h8;refine Zr<|Za<|nl<|?_;cases hF;exact wp_ret<|Zw rfl rfl rfl ⟨rfl,k40⟩
    ·have hF:=Ai hF h8;refine wp_skip<|Zr<|Zv (BO l8_j4 EX rfl (Bx.cs B6))<|bS hF fun x16 Ex16 hF=>Zc (xc jo (mc rfl mn)) (ng (show RV (α:=(Int×Int×(List (Int×Int))×(List Int))) _ (.agg [.int .i64 z1.1,.int .i64 z1.2.1,.slice a11 z1.2.2.1.length cq11,.slice none 0 0].toArray) (z1.1,z1.2.1,z1.2.2.1,[])from⟨_,rfl,[.int .i64 z1.1],[.int .i64 z1.2.1]++([.slice a11 z1.2.2.1.length cq11]++[.slice none 0 0]),rfl,rfl,[.int .i64 z1.2.1],[.slice a11 z1.2.2.1.length cq11]++[.slice none 0 0],rfl,rfl,[.slice a11 z1.2.2.1.length cq11],[.slice none 0 0],rfl,O6.rv.rep1,(RVo.nil (Nat.zero_le _)).rep1⟩) Ex16) ?_;rintro _ w24⟨u4,rfl,r60,hx15⟩;have k42:=k40.tr hx15;have zs9:=Nat.le_trans zs8 hx15.size;have B7:=B6.ext hx15;have O7:=O6.ext hx15;have hz:=RV.sl r60;obtain⟨a12,cq12,rfl,-,-,-⟩:=hz;refine Zm<|Zv (F4 rfl rfl)<|Zv (F4 rfl rfl)<|Za<|Za<|nl<|Zr<|Zv (BO l8_j4 EX rfl (Bx.cs B7))<|bS hF fun x17 Ex17 hF=>Zc (xc jr (mc rfl mn)) (oC (show RV (α:=(Int×Int×(List (Int×Int))×(List Int))) _ (.agg [.int .i64 z1.1,.int .i64 z1.2.1,.slice a11 z1.2.2.1.length cq11,.slice none 0 0].toArray) (z1.1,z1.2.1,z1.2.2.1,[])from⟨_,rfl,[.int .i64 z1.1],[.int .i64 z1.2.1]++([.slice a11 z1.2.2.1.length cq11]++[.slice none 0 0]),rfl,rfl,[.int .i64 z1.2.1],[.slice a11 z1.2.2.1.length cq11]++[.slice none 0 0],rfl,rfl,[.slice a11 z1.2.2.1.length cq11],[.slice none 0 0],rfl,O7.rv.rep1,(RVo.nil (Nat.zero_le _)).rep1⟩) Ex17) ?_;rintro _ w25⟨u5,rfl,r61,hx16⟩;have k44:=k42.tr hx16;have zs10:=Nat.le_trans zs9 hx16.size;have B8:=B7.ext hx16;have O8:=O7.ext hx16;have hz:=RV.sl r61;obtain⟨a13,cq13,rfl,-,-,-⟩:=hz;refine Zm<|Zv (F4 rfl rfl)<|Zv (F4 rfl rfl)<|Za<|Za<|nl<|Zr<|Zv (BO l8_j4 EX rfl (Bx.cs B8))<|bS hF fun x18 Ex18 hF=>Zc (xc jw (mc rfl (mc rfl mn))) (ni (show RV (α:=(Int×Int×(List (Int×Int))×(List Int))) _ (.agg [.int .i64 z1.1,.int .i64 z1.2.1,.slice a11 z1.2.2.1.length cq11,.slice none 0 0].toArray) (z1.1,z1.2.1,z1.2.2.1,[])from⟨_,rfl,[.int .i64 z1.1],[.int .i64 z1.2.1]++([.slice a11 z1.2.2.1.length cq11]++[.slice none 0 0]),rfl,rfl,[.int .i64 z1.2.1],[.slice a11 z1.2.2.1.length cq11]++[.slice none 0 0],rfl,rfl,[.slice a11 z1.2.2.1.length cq11],[.slice none 0 0],rfl,O8.rv.rep1,(RVo.nil (Nat.zero_le _)).rep1⟩) Ex18) ?_;rintro _ w26⟨u6,rfl,r63,hx17⟩;have k46:=k44.tr hx17;have zs11:=Nat.le_trans zs10 hx17.size;have B9:=B8.ext hx17;have O9:=O8.ext hx17;have r65:=r61.ext hx17;have hz:=RV.sl r63;obtain⟨a14,cq14,rfl,-,-,-⟩:=hz;refine Zm<|Zv (F4 rfl rfl)<|Zv (F4 rfl rfl)<|Za<|Za<|nl<|Zr<|Zv (BO l8_j4 EX rfl (Bx.cs B9))<|bS hF fun x19 Ex19 hF=>Zc (xc jy (mc rfl mn)) (nk (show RV (α:=(Int×Int×(List (Int×Int))×(List Int))) _ (.agg [.int .i64 z1.1,.int .i64 z1.2.1,.slice a11 z1.2.2.1.length cq11,.slice none 0 0].toArray) (z1.1,z1.2.1,z1.2.2.1,[])from⟨_,rfl,[.int .i64 z1.1],[.int .i64 z1.2.1]++([.slice a11 z1.2.2.1.length cq11]++[.slice none 0 0]),rfl,rfl,[.int .i64 z1.2.1],[.slice a11 z1.2.2.1.length cq11]++[.slice none 0 0],rfl,rfl,[.slice a11 z1.2.2.1.length cq11],[.slice none 0 0],rfl,O9.rv.rep1,(RVo.nil (Nat.zero_le _)).rep1⟩) Ex19) ?_;rintro _ w27⟨rfl,hx18⟩;have k48:=k46.tr hx18;have zs12:=Nat.le_trans zs11 hx18.size;have r67:=r65.ext hx18;have r68:=r63.ext hx18;refine Zm<|Zv (F4 rfl rfl)<|Zv (F4 rfl rfl)<|Zv (F4 rfl rfl)<|Za<|Za<|Za<|nl<|wp_seq<|Zr<|Zm<|Zv (Di rfl rfl)<|Zm<|Zg rfl rfl (A9 rfl) (fun hc=>Ba rfl)<|Zg rfl rfl (A9 rfl) (fun hc=>Di (mv hc rfl) rfl)<|Zv (F6 rfl rfl rfl)<|Zm<|Zg rfl rfl (A9 rfl) (fun hc=>Ba rfl)<|Zg rfl rfl (A9 rfl) (fun hc=>Di (mv hc rfl) rfl)<|Zv (F6 rfl rfl rfl)<|Zm<|Zg rfl rfl (A9 rfl) (fun hc=>Ba rfl)<|Zg rfl rfl (A9 rfl) (fun hc=>Di (mv hc rfl) rfl)<|Zv (F6 rfl rfl rfl)<|Zm<|Zg rfl rfl (A9 rfl) (fun hc=>Ba rfl)<|Zg rfl rfl (A9 rfl) (fun hc=>Bp (mv hc rfl) Tryz.underlying41)<|Zg rfl rfl (A9 rfl) (fun hc=>Ba l7_j4)<|Zg rfl rfl (A9 rfl) (fun hc=>Di (mv hc rfl) (mv hc rfl))<|Zv (F6 rfl rfl rfl)<|Zm<|Zg rfl rfl (A9 rfl) (fun hc=>Ba rfl)<|Zg rfl rfl (A9 rfl) (fun hc=>Bp (mv hc rfl) Tryz.underlying41)<|Zg rfl rfl (A9 rfl) (fun hc=>Ba l7_j4)<|Zg rfl rfl (A9 rfl) (fun hc=>Di (mv hc rfl) (mv hc rfl))<|Zv (F6 rfl rfl rfl)<|Zm<|Zg rfl rfl (A9 rfl) (fun hc=>Ba rfl)<|Zg rfl rfl (A9 rfl) (fun hc=>Bp (mv hc rfl) Tryz.underlying41)<|Zg rfl rfl (A9 rfl) (fun hc=>Ba l7_j4)<|Zg rfl rfl (A9 rfl) (fun hc=>Di (mv hc rfl) (mv hc rfl))<|Zv (F6 rfl rfl rfl)<|nl<|cnd rfl (fun h9=>?_) (fun h9=>?_)
     ·have hF:=Ac hF h9;refine Zr<|Za<|nl<|?_;cases hF;exact wp_ret<|Zw rfl rfl rfl ⟨rfl,k48⟩
     ·have hF:=Ai hF h9;refine wp_skip<|wp_seq<|Zr<|Za<|nl<|bS hF fun o6 hB12 hF=>ct (fun L w=>o6=.inr ()/\w9.heap.size<=w.heap.size/\Ext w27 w) ?_ ?_
      ·refine wp_block<|lp (I:=fun m L w=>∃y7:Int,DK F x4 x17 x18 m y7=some o6/\L 18=.int .i64 y7/\L 7=.int .i64 (x4.1.length:Int)/\L 12=.slice a13 x17.1.length cq13/\L 13=.slice a14 x18.1.length cq14/\w9.heap.size<=w.heap.size/\Ext w27 w) F ⟨_,hB12,rfl,l7_j4,rfl,rfl,zs12,(Ext.refl _)⟩ ?_;rintro m L w28⟨y7,hB12,l18_i7,l7_i7,l12_i7,l13_i7,Z0_i7,K0_i7⟩;rcases m with _|m
       ·rw[DK]at hB12;cases hB12
       rw[DK]at hB12;have k50:=k48.tr K0_i7;refine wp_seq<|Zr<|Zm<|Zm<|Zv (BN l18_i7 l7_i7)<|nl<|cnd rfl (fun h10=>?_) (fun h10=>?_)
       ·have hB12:=Ac hB12 h10;refine wp_skip<|wp_seq<|wp_block<|wp_seq<|bS hB12 fun y8 hB14 hB12=>ct (fun L w=>L 181=.bool y8/\L 7=.int .i64 (x4.1.length:Int)/\L 12=.slice a13 x17.1.length cq13/\L 13=.slice a14 x18.1.length cq14/\L 18=.int .i64 y7/\w9.heap.size<=w.heap.size/\Ext w28 w) ?_ ?_
        ·refine rg<|Zm<|Zm<|bS hB14 fun x21 Ex21 hB14=>?_;have hz:=(RV.els r67).ix Ex21;obtain⟨b7,f4,cs5,e7,i10,i11,q5,hc7⟩:=hz;cases e7;obtain rfl:=q5;have hc8:=hc7.ext K0_i7;refine Zv (Ao l12_i7 l18_i7 Tryz.underlying41 AY i10 i11)<|Zv (AX rfl AY (hc8.at 0 rfl))<|Zv (Di rfl rfl)<|Zm<|Or.elim (Bool.eq_false_or_eq_true (!decide (x21=2))) (fun h11=>?_) (fun h11=>?_)
         ·have hB14:=Ac hB14 h11;refine Gk rfl (Bg h11)<|Gk rfl (Bg h11)<|Gk rfl (Bg h11)<|Gk rfl (Bg h11)<|Gk rfl (Bg h11)<|Zv (EJ rfl h11 rfl)<|nl<|?_;cases hB14;refine lf<|?_;exact⟨rfl,l7_i7,l12_i7,l13_i7,l18_i7,Z0_i7,(Ext.refl _)⟩
         ·have hB14:=Ai hB14 h11;refine Gt rfl (bf h11)<|Zm<|Gt rfl (bf h11)<|Zm<|bS hB14 fun x22 Ex22 hB14=>?_;have hz:=(RV.els r68).ix Ex22;obtain⟨b8,f5,cs6,e8,i12,i13,q6,hc9⟩:=hz;cases e8;obtain rfl:=q6;have hc10:=hc9.ext K0_i7;refine Gt rfl (bf h11)<|Zv (Ao l13_i7 l18_i7 Tryz.underlying41 AY i12 i13)<|Gt rfl (bf h11)<|Zv (AX rfl AY (hc10.at 0 rfl))<|Gt rfl (bf h11)<|Zv (Di rfl rfl)<|Zv (Eb rfl h11 rfl)<|nl<|?_;cases hB14;refine lf<|?_;exact⟨rfl,l7_i7,l12_i7,l13_i7,l18_i7,Z0_i7,(Ext.refl _)⟩
        rintro L w29⟨l181_j5,l7_j5,l12_j5,l13_j5,l18_j5,Z0_j5,K0_j5⟩;have k52:=k50.tr K0_j5;have k54:=K0_i7.tr K0_j5;refine cnd l181_j5 (fun h12=>?_) (fun h12=>?_)
        ·have hB12:=Ac hB12 h12;refine Zr<|Za<|nl<|?_;cases hB12;have hF:=(show some _=some _ from hF);cases hF;exact wp_ret<|Zw rfl rfl rfl ⟨rfl,k52⟩
        ·have hB12:=Ai hB12 h12;refine wp_skip<|rg<|Zm<|Zv (BJ l18_j5 rfl)<|Za<|nl<|lq m (Nat.lt_succ_self _)<|?_;exact⟨_,hB12,rfl,l7_j5,l12_j5,l13_j5,Z0_j5,k54⟩
       ·have hB12:=Ai hB12 h10;refine wp_exit<|?_;cases hB12;refine lf<|?_;exact⟨rfl,Z0_i7,K0_i7⟩
      rintro L w30⟨rfl,Z0_j6,K0_j6⟩;have k55:=k48.tr K0_j6;refine Zr<|bS hF fun x23 Ex23 hF=>Zc (xc Xn mn) (eB Ex23) ?_;rintro _ w31⟨rfl,hx19⟩;have k57:=k55.tr hx19;refine Za<|nl<|?_;cases hF;exact wp_ret<|Zw rfl rfl rfl ⟨rfl,k57⟩
end Go.Proofs.YtfmelbioccbdoaaGreat
end
section
namespace Go.Proofs.YtfmelbioccbdoaaGreat
open Go Go.Md Go.RowKit
section
theorem Ad{n:Int}(h:-9223372036854775808<=n/\n<=9223372036854775807):AP n=n:=IntWalk.i64_in n h
def Ii{α:Type}(l:List α)(f:α->Option Bool):Nat->Int->Option (Sum Int Unit)
 |0,_=>none
 |m+1,k=>
  if(decide (k<(l.length:Int)))=true then
   (ix l k)>>=fun x=>(f x)>>=fun b=>if b=true then some (.inl k)else Ii l f m (AP (k+1))
  else some (.inr ())
theorem Bu{α:Type}{l:List α}{k:Nat}(h:k<l.length):ix l (k:Int)=some l[k]:=by
 simp[ix,List.getElem?_eq_getElem h]
theorem Ij{α:Type}{l:List α}{f:α->Option Bool}{p:α->Bool}(hf:∀x∈l,f x=some (p x))(hl:l.length<4611686018427387904):
  ∀(m k:Nat),k<=l.length->l.length-k<m->∃r,Ii l f m (k:Int)=some r/\((l.drop k).any p=true->∃j:Nat,r=.inl (j:Int))/\((l.drop k).any p=false->r=.inr ())
 |0,k,_,h=>by omega
 |m+1,k,hk,h=>by
  unfold Ii;by_cases hlt:k<l.length
  ·have e:decide ((k:Int)<(l.length:Int))=true:=by simpa using hlt
   rw[if_pos e,Bu hlt];have hd:l.drop k=l[k]::l.drop (k+1):=List.drop_eq_getElem_cons hlt;have hfx:=hf l[k] (List.getElem_mem hlt);simp only[Am,AR,hfx];cases hp:p l[k]with
   |true=>
    refine⟨_,if_pos rfl,fun _=>⟨k,rfl⟩,fun h=>?_⟩;rw[hd,List.any_cons,hp]at h;cases h
   |false=>
    rw[if_neg (by simp),Ad (by omega)];obtain⟨r,h1,h2,h3⟩:=Ij hf hl m (k+1) (by omega) (by omega);refine⟨r,h1,?_,?_⟩<;>rw[hd,List.any_cons,hp,Bool.false_or]<;>assumption
  ·have e:¬decide ((k:Int)<(l.length:Int))=true:=by simpa using hlt
   rw[if_neg e];have:l.drop k=[]:=List.drop_of_length_le (by omega);refine⟨_,rfl,?_,fun _=>rfl⟩;rw[this];intro h;cases h
section
variable {α:Type}{f:α->Option Bool}{p:α->Bool}
theorem UH{l:List Int}{f:Int->Option Bool}(F:Nat):∀m k,CU F l f m k=Ii l f m k
 |0,_=>rfl
 |m+1,k=>by unfold CU Ii;simp only[UH F m]
theorem QY{l:List Int}{f:Int->Option Bool}(F:Nat):∀m k,D6 F l f m k=Ii l f m k
 |0,_=>rfl
 |m+1,k=>by unfold D6 Ii;simp only[QY F m]
theorem aL{l:List Int}{f:Int->Option Bool}{p:Int->Bool}{F:Nat}(hf:∀x∈l,f x=some (p x))(hF:l.length<F)(hl:l.length<4611686018427387904):Dh F l f=some (l.any p):=by
 obtain⟨r,h1,h2,h3⟩:=Ij hf hl F 0 (Nat.zero_le _) (by omega);unfold Dh FC;rw[UH];simp only[Int.natCast_zero,List.drop_zero]at h1 h2 h3;rw[h1];cases hp:l.any p with
 |true=>obtain⟨j,rfl⟩:=h2 hp;simp[Am]
 |false=>obtain rfl:=h3 hp;simp[Am]
theorem XJ{l:List Int}{f:Int->Option Bool}{p:Int->Bool}{F:Nat}(hf:∀x∈l,f x=some (p x))(hF:l.length<F)(hl:l.length<4611686018427387904):FD F l f=some (l.any p):=by
 obtain⟨r,h1,h2,h3⟩:=Ij hf hl F 0 (Nat.zero_le _) (by omega);unfold FD He;rw[QY];simp only[Int.natCast_zero,List.drop_zero]at h1 h2 h3;rw[h1];cases hp:l.any p with
 |true=>obtain⟨j,rfl⟩:=h2 hp;simp[Am]
 |false=>obtain rfl:=h3 hp;simp[Am]
end
def JI(lo hi n:Int):Bool:=decide (lo<=n)&&decide (n<=hi)
theorem UI{lo hi:Int}(l:List Int):(!l.any fun n=>decide (n<lo)||decide (hi<n))=l.all (JI lo hi):=by
 induction l with
 |nil=>rfl
 |cons a l ih=>
  simp only[List.any_cons,List.all_cons,Bool.not_or,ih,JI]
  congr 1
  by_cases h1:a<lo<;>by_cases h2:hi<a<;>simp[h1,h2]<;>omega
theorem within_eq{F:Nat}{lo hi:Int}{l:List Int}(hF:l.length<F)(hl:l.length<4611686018427387904):L9 F lo hi l=some (l.all (JI lo hi)):=by
 unfold L9;rw[XJ (f:=fun y=>K3 y lo hi) (p:=fun n=>decide (n<lo)||decide (hi<n)) (fun x _=>rfl) hF hl];simp only[Am,AR,UI]
end
end Go.Proofs.YtfmelbioccbdoaaGreat
end
section
namespace Go.Proofs.YtfmelbioccbdoaaGreat
open Go Go.Md Go.RowKit
namespace L5
section
section
variable {L:List CG}{al:Int->Bool}
theorem JV{k:Nat}{x:CG}(h:L[k]?=some x):ix L (k:Int)=some x:=by unfold ix;rw[if_pos (by omega),Int.toNat_natCast,h]
theorem key_ok{r:Int}(h:0<=r/\r<12):V8 ((true,r):Bool×Int)=some ():=by
 unfold V8;rw[if_pos];show(Lit.int .i64 r).wf=true;have h1:IntKind.i64.min=-9223372036854775808:=rfl;have h2:IntKind.i64.max=9223372036854775807:=rfl;simp[Lit.wf,h1,h2];omega
theorem Vo{a:Int}{R:Nat->Prop}:(∀k∈F3 L al a,∀x,ix L k=some x->R x.2.toNat)↔Nb L al a R:=by
 constructor
 ·intro h k x hk ha hal
  exact h k (R8.2 ⟨k,rfl,x,hk,ha,hal⟩) x (JV hk)
 ·intro h k hk x hx
  obtain⟨i,rfl,y,hy,ha,hal⟩:=R8.1 hk;rw[JV hy]at hx;cases hx;exact h i _ hy ha hal
theorem FS.done{left:Int}{P:CW}{S:DV}(hP:VP L al P):FS L al left [] P S (false,P,S):=
 ⟨hP,fun _ h=>h,fun _ _=>rfl,fun _=>⟨rfl,(fun k hk=>by cases hk),fun r _ h1 h2=>absurd h1 h2⟩,(fun h=>by cases h),fun R _=>⟨fun _ _=>rfl,fun _=>rfl⟩⟩
theorem ZU{P P':CW}{r:Nat}(h:pa P' r=pa P r):lf L P' r=lf L P r:=by unfold lf;rw[h]
theorem Nb.mono{a:Int}{R R':Nat->Prop}(h:Nb L al a R)(hR:∀r,R r->R' r):Nb L al a R':=fun k x h1 h2 h3=>hR _ (h k x h1 h2 h3)
theorem Mc(hv:I9 L){left:Int}{f:Int->CW->DV->Option (Bool×CW×DV)}{m:Nat}(hf:∀a P S,VP L al P->un S<m->∃q,f a P S=some q/\FS L al a (F3 L al a) P S q):
  ∀(l:List Int)(P:CW)(S:DV),(∀k∈l,k∈F3 L al left)->VP L al P->un S<m+1->∃q,G8 L f l P S=some q/\FS L al left l P S q
 |[],P,S,_,hP,_=>⟨_,rfl,FS.done hP⟩
 |k::l,P,S,hl,hP,hm=>by
  obtain⟨i,rfl,x,hx,hxl,hal⟩:=R8.1 (hl k (List.mem_cons_self ..));have hb:=hv.2 x (List.mem_of_getElem? hx);have hlen:=hv.1;have hi:i<L.length:=(List.getElem?_eq_some_iff.1 hx).1;obtain⟨r,hr⟩:∃r:Nat,x.2=(r:Int):=⟨x.2.toNat,by omega⟩;have hr12:r<12:=by omega
  have hl':∀k∈l,k∈F3 L al left:=fun k hk=>hl k (List.mem_cons_of_mem _ hk);unfold G8;rw[JV hx];simp only[Am,AR];rw[key_ok hb.1];simp only[AR];have hw:AP ((i:Int)+1)=(i:Int)+1:=Ad (by omega);rw[hr];by_cases hs:sn S r
  ·rw[if_pos (show decide (Cw 0 S (true,(r:Int))=1)=true from decide_eq_true hs)];obtain⟨q,e,F⟩:=Mc hv hf l P S hl' hP hm;refine⟨q,e,F.vp,F.mono,F.keep,fun h=>?_,F.succ,fun R hR=>?_⟩
   ·obtain⟨h1,h2,h3⟩:=F.fail h
    refine⟨h1,fun k hk y hy=>?_,h3⟩;rcases List.mem_cons.1 hk with rfl|hk
    ·rw[JV hx]at hy
     cases hy;rw[hr,Int.toNat_natCast];exact F.mono _ hs
    ·exact h2 k hk y hy
   ·exact⟨(F.clo R hR).1,fun h=>(F.clo R hR).2 fun k hk=>h k (List.mem_cons_of_mem _ hk)⟩
  ·rw[if_neg (show¬decide (Cw 0 S (true,(r:Int))=1)=true from fun h=>hs (of_decide_eq_true h)),ZR hr12]
   simp only[AR];by_cases ho:pa P r=0
   ·rw[if_pos (decide_eq_true ho),hw];refine⟨_,rfl,fun r' h12 hne=>?_,fun r' h=>IJ.2 (.inr h),fun r' h=>?_,(fun h=>by cases h),fun _=>⟨?_,fun a=>?_⟩,fun R hR=>⟨fun r' h=>?_,fun h=>?_⟩⟩
    ·rw[Gs hr12]at hne⊢
     by_cases e:r'=r
     ·rw[if_pos e];subst e;exact⟨i,rfl,x,hx,hr,hal⟩
     ·rw[if_neg e]at hne⊢;exact hP r' h12 hne
    ·rw[Gs hr12,if_neg (fun e:r'=r=>hs (e▸h))]
    ·have:=XG (P:=P) (v:=(i:Int)+1) hr12 (by omega)
     simpa[ho]using this
    ·have:=XH (P:=P) hr12 hx a
     rw[Pt ho,hxl]at this;simpa using this
    ·rw[Gs hr12,if_neg (fun e=>(hR r' h).2.1 (by rw[e,ho]))]
    ·have h1:=h i (List.mem_cons_self ..) x (JV hx)
     rw[hr,Int.toNat_natCast]at h1;exact absurd ho (hR r h1).2.1
   ·rw[if_neg (by simpa using ho)];obtain⟨k0,hk0,y,hy,hy2,hyal⟩:=hP r hr12 ho;have hlf:lf L P r=some y.1:=NJ hk0 hy;have hk0l:k0<L.length:=(List.getElem?_eq_some_iff.1 hy).1;have hw2:AP (pa P r-1)=(k0:Int):=by rw[hk0,Ad (by omega)];omega
    rw[hw2,JV hy];simp only[AR];have hun:=dY (S:=S) hr12 hs;obtain⟨q,e,G⟩:=hf y.1 P (Ca S (true,(r:Int)) 1) hP (by omega);rw[e];simp only[AR];rcases hq:q.1 with _|_
    ·rw[if_neg (by simp)];obtain⟨g1,g2,g3⟩:=G.fail hq;have hmono:∀r',sn S r'->sn q.2.2 r':=fun r' h=>G.mono r' (IJ.2 (.inr h));have hsr:sn q.2.2 r:=G.mono r (IJ.2 (.inl rfl));have hun2:un q.2.2<m+1:=by
      have:un q.2.2<=un (Ca S (true,(r:Int)) 1):=by
       unfold un;refine List.countP_mono_left fun x _ h=>?_;simp only[decide_eq_true_eq]at h⊢;exact fun h1=>h (G.mono x h1)
      omega
     rw[g1];obtain⟨q',e',F⟩:=Mc hv hf l P q.2.2 hl' hP hun2;refine⟨q',e',F.vp,fun r' h=>F.mono r' (hmono r' h),fun r' h=>F.keep r' (hmono r' h),fun h=>?_,F.succ,fun R hR=>⟨(F.clo R hR).1,fun h=>(F.clo R hR).2 fun k hk=>h k (List.mem_cons_of_mem _ hk)⟩⟩;obtain⟨h1,h2,h3⟩:=F.fail h;refine⟨h1,fun k hk z hz=>?_,fun r' h12 hr1 hr2=>?_⟩
     ·rcases List.mem_cons.1 hk with rfl|hk
      ·rw[JV hx]at hz
       cases hz;rw[hr,Int.toNat_natCast];exact F.mono _ hsr
      ·exact h2 k hk z hz
     ·by_cases hq2:sn q.2.2 r'
      ·by_cases er:r'=r
       ·subst er
        refine⟨ho,fun a ha=>?_⟩;rw[hlf]at ha;cases ha;exact(Vo.1 g2).mono fun _ h=>F.mono _ h
       ·obtain⟨h4,h5⟩:=g3 r' h12 hq2 (fun h=>by rcases IJ.1 h with h|h;exact er h;exact hr2 h)
        exact⟨h4,fun a ha=>(h5 a ha).mono fun _ h=>F.mono _ h⟩
      ·exact h3 r' h12 hr1 hq2
    ·rw[if_pos rfl,hw];have hpr:pa q.2.1 r=pa P r:=G.keep r (IJ.2 (.inl rfl));obtain⟨s1,s2⟩:=G.succ hq;refine⟨_,rfl,fun r' h12 hne=>?_,fun r' h=>G.mono r' (IJ.2 (.inr h)),fun r' h=>?_,(fun h=>by cases h),fun _=>⟨?_,fun a=>?_⟩,fun R hR=>?_⟩
     ·rw[Gs hr12]at hne⊢
      by_cases e:r'=r
      ·rw[if_pos e];subst e;exact⟨i,rfl,x,hx,hr,hal⟩
      ·rw[if_neg e]at hne⊢;exact G.vp r' h12 hne
     ·rw[Gs hr12,if_neg (fun e:r'=r=>hs (e▸h))]
      exact G.keep r' (IJ.2 (.inr h))
     ·have:=XG (P:=q.2.1) (v:=(i:Int)+1) hr12 (by omega)
      rw[hpr]at this;simp only[ho,ne_eq,not_false_eq_true,if_true]at this;show mc (GK q.2.1 (r:Int) ((i:Int)+1))=_;omega
     ·have:=XH (P:=q.2.1) hr12 hx a
      rw[ZU hpr,hlf,hxl]at this;have h2:=s2 a;show cn L (GK q.2.1 (r:Int) ((i:Int)+1)) a=_;by_cases e1:a=y.1
      ·subst e1
       simp only[if_true]at this h2;omega
      ·rw[if_neg e1]at h2
       rw[if_neg (by simpa[eq_comm]using e1)]at this;omega
     ·have hnr:¬R r:=fun h=>by
       have h1:=(G.clo R hR).2 (Vo.2 ((hR r h).2.2 _ hlf));rw[hq]at h1;cases h1
      refine⟨fun r' h=>?_,fun h=>?_⟩
      ·rw[Gs hr12,if_neg (fun e:r'=r=>hnr (e▸h))]
       exact(G.clo R hR).1 r' h
      ·have h1:=h i (List.mem_cons_self ..) x (JV hx)
       rw[hr,Int.toNat_natCast]at h1;exact absurd h1 hnr
theorem QZ(hv:I9 L):∀(m:Nat)(left:Int)(P:CW)(S:DV),VP L al P->un S<m->∃q,Fu L al m left P S=some q/\FS L al left (F3 L al left) P S q
 |0,_,_,_,_,h=>by omega
 |m+1,left,P,S,hP,h=>by
  unfold Fu;exact Mc hv (fun a P S h1 h2=>QZ hv m a P S h1 h2) _ P S (fun _ h=>h) hP h
end
end
section
theorem Pw{α:Type}[DecidableEq α]:∀{l k:List α},l.Nodup->(∀a∈l,a∈k)->l.length<=k.length
 |[],_,_,_=>Nat.zero_le _
 |a::l,k,hn,h=>by
  have h1:=List.nodup_cons.1 hn;have ha:=h a (List.mem_cons_self ..);have:=Pw (k:=k.erase a) h1.2 fun b hb=>(List.mem_erase_of_ne (fun e:b=a=>h1.1 (e▸hb))).2 (h b (List.mem_cons_of_mem _ hb));rw[List.length_erase_of_mem ha]at this;have hp:=List.length_pos_of_mem ha;rw[List.length_cons];omega
section
variable {L:List CG}{al:Int->Bool}
structure JN(L:List CG)(al:Int->Bool)(n:Int)(P:CW):Prop where
 vp:VP L al P
 one:∀a,cn L P a<=1
 out:∀a,a<0\/n<=a->cn L P a=0
 clo:∃R,jV L al P R/\∀a,0<=a->a<n->cn L P a=0->Nb L al a R
theorem Px{r:Nat}:pa (Ar.fill 12 0) r=0:=by
 unfold pa;show(List.replicate 12 (0:Int)).getD r 0=0;rw[List.getD_eq_getElem?_getD,List.getElem?_replicate];split<;>rfl
theorem JN.zero:JN L al 0 (Ar.fill 12 0):=by
 have h:∀a,cn L (Ar.fill 12 0) a=0:=fun a=>by
  unfold cn;rw[List.countP_eq_zero];intro r _;simp[Pt Px]
 exact⟨fun r _ h=>absurd Px h,fun a=>by rw[h a];exact Nat.zero_le _,fun a _=>h a,fun _=>False,fun r h=>h.elim,fun a h1 h2=>by omega⟩
theorem Vp{P:CW}:mc P<=12:=by unfold mc;exact Nat.le_trans List.countP_le_length (by simp)
theorem jB{S:DV}:un S<=12:=by unfold un;exact Nat.le_trans List.countP_le_length (by simp)
theorem aM:mc (Ar.fill 12 0)=0:=by
 unfold mc;rw[List.countP_eq_zero];intro r _;simp[Px]
theorem Py(hv:I9 L){F n:Nat}(hF:12<F)(hn:n<=1000):∀(m i:Nat)(P:CW),i<=n->n-i<m->JN L al i P->∃Q,G9 L al F n m i (mc P:Int) P=some ((mc Q:Int),Q)/\JN L al n Q
 |0,_,_,_,h,_=>by omega
 |m+1,i,P,hi,hm,hJ=>by
  unfold G9;by_cases hlt:i<n
  ·rw[if_pos (by simpa using hlt)]
   obtain⟨q,e,G⟩:=QZ hv F (i:Int) P [] hJ.vp (Nat.lt_of_le_of_lt jB hF);rw[e];simp only[Am,AR];have hw:AP ((i:Int)+1)=((i+1:Nat):Int):=by rw[Ad (by omega)];rfl
   obtain⟨R,hR,hRn⟩:=hJ.clo;rcases hq:q.1 with _|_
   ·obtain⟨g1,g2,g3⟩:=G.fail hq
    rw[if_neg (by simp[g1]),hw,g1];refine Py hv hF hn m (i+1) P (by omega) (by omega) ⟨hJ.vp,hJ.one,fun a ha=>hJ.out a (by omega),fun r=>R r\/(r<12/\sn q.2.2 r),?_,fun a h0 h1 hc=>?_⟩
    ·intro r hr
     rcases hr with hr|⟨h12,hr⟩
     ·exact⟨(hR r hr).1,(hR r hr).2.1,fun a ha=>((hR r hr).2.2 a ha).mono fun _ h=>.inl h⟩
     ·have h0:¬sn ([]:DV) r:=by unfold sn;simp[Cw]
      obtain⟨h1,h2⟩:=g3 r h12 hr h0;refine⟨h12,h1,fun a ha k x hx hxa hal=>.inr ⟨?_,h2 a ha k x hx hxa hal⟩⟩;have:=(hv.2 x (List.mem_of_getElem? hx)).1;omega
    ·by_cases ea:a=(i:Int)
     ·subst ea
      intro k x hx hxa hal;refine .inr ⟨?_,Vo.1 g2 k x hx hxa hal⟩;have:=(hv.2 x (List.mem_of_getElem? hx)).1;omega
     ·exact(hRn a h0 (by omega) hc).mono fun _ h=>.inl h
   ·obtain⟨s1,s2⟩:=G.succ hq
    have hne:q.2.1≠P:=fun e=>by rw[e]at s1;omega
    have hmc:=Vp (P:=P);have hwc:AP ((mc P:Int)+1)=((mc q.2.1:Nat):Int):=by rw[Ad (by omega),s1];rfl
    rw[if_pos (by simp[hne]),hw,hwc];refine Py hv hF hn m (i+1) q.2.1 (by omega) (by omega) ⟨G.vp,fun a=>?_,fun a ha=>?_,R,fun r hr=>?_,fun a h0 h1 hc=>?_⟩
    ·rw[s2 a]
     by_cases ea:a=(i:Int)
     ·subst ea;rw[hJ.out _ (.inr (Int.le_refl _))];simp
     ·rw[if_neg ea];exact hJ.one a
    ·rw[s2 a,if_neg (by omega),hJ.out a (by omega)]
    ·obtain⟨h1,h2,h3⟩:=hR r hr
     have hp:=(G.clo R hR).1 r hr;exact⟨h1,by rw[hp];exact h2,fun a ha=>h3 a (by rw[<-ZU hp];exact ha)⟩
    ·rw[s2 a]at hc
     by_cases ea:a=(i:Int)
     ·rw[if_pos ea]at hc;omega
     ·exact hRn a h0 (by omega) (by omega)
  ·have:i=n:=by omega
   subst this;rw[if_neg (by simp)];exact⟨P,rfl,hJ⟩
theorem XK(hv:I9 L){F n:Nat}(hF:1000<F)(hn:n<=1000):∃Q,D5 F L n al=some ((mc Q:Int),Q)/\JN L al n Q:=by
 obtain⟨Q,e,h⟩:=Py (al:=al) hv (F:=F) (n:=n) (by omega) hn F 0 (Ar.fill 12 0) (Nat.zero_le _) (by omega) JN.zero;refine⟨Q,?_,h⟩;unfold D5;rw[aM]at e;exact e
def Jg(L:List CG)(M:List Nat):Prop:=M.Pairwise fun i j=>∀x y,L[i]?=some x->L[j]?=some y->x.1≠y.1/\x.2≠y.2
theorem eD{P:CW}{a:Int}(h:cn L P a≠0):∃r,r<12/\lf L P r=some a:=by
 unfold cn at h;have:=List.countP_pos_iff.1 (Nat.pos_of_ne_zero h);obtain⟨r,hr,e⟩:=this;exact⟨r,List.mem_range.1 hr,by simpa using e⟩
theorem JN.max(hv:I9 L){n:Nat}{P:CW}(h:JN L al n P){M:List Nat}(hl:∀k∈M,∃x,L[k]?=some x/\al k=true/\x.1<n)(hd:Jg L M):M.length<=mc P:=by
 obtain⟨R,hR,hRn⟩:=h.clo;have ex:∀k,∃r,k∈M->r<12/\pa P r≠0/\∃x,L[k]?=some x/\((R r/\x.2=r)\/(¬R r/\lf L P r=some x.1)):=fun k=>by
  by_cases hk:k∈M
  ·obtain⟨x,hx,hal,hxn⟩:=hl k hk
   have hb:=hv.2 x (List.mem_of_getElem? hx);by_cases hr:R x.2.toNat
   ·exact⟨x.2.toNat,fun _=>⟨(hR _ hr).1,(hR _ hr).2.1,x,hx,.inl ⟨hr,by omega⟩⟩⟩
   ·have hc:cn L P x.1≠0:=fun e=>hr (hRn x.1 hb.2.1 hxn e k x hx rfl hal)
    obtain⟨r,h12,e⟩:=eD hc;refine⟨r,fun _=>⟨h12,fun e0=>(by rw[Pt e0]at e;cases e),x,hx,.inr ⟨fun hRr=>hr ((hR r hRr).2.2 _ e k x hx rfl hal),e⟩⟩⟩
  ·exact⟨0,fun h=>absurd h hk⟩
 obtain⟨φ,hφ⟩:=Classical.axiomOfChoice ex;have hnd:(M.map φ).Nodup:=by
  rw[List.Nodup,List.pairwise_map];refine List.Pairwise.imp_of_mem ?_ hd;intro i j hi hj hij e;obtain⟨_,_,x,hx,h1⟩:=hφ i hi;obtain⟨_,_,y,hy,h2⟩:=hφ j hj;obtain⟨n1,n2⟩:=hij x y hx hy;rw[<-e]at h2;rcases h1 with⟨a1,a2⟩|⟨a1,a2⟩<;>rcases h2 with⟨b1,b2⟩|⟨b1,b2⟩
  ·exact n2 (by rw[a2,b2])
  ·exact b1 a1
  ·exact a1 b1
  ·rw[a2]at b2;exact n1 (Option.some.inj b2)
 have:=Pw (k:=(List.range 12).filter fun r=>decide (pa P r≠0)) hnd fun r hr=>by
  obtain⟨k,hk,rfl⟩:=List.mem_map.1 hr;obtain⟨h1,h2,_⟩:=hφ k hk;exact List.mem_filter.2 ⟨List.mem_range.2 h1,by simpa using h2⟩
 rw[List.length_map,<-List.countP_eq_length_filter]at this;exact this
def Np(P:CW):List Nat:=((List.range 12).filter fun r=>decide (pa P r≠0)).map fun r=>(pa P r-1).toNat
theorem P5{P:CW}:(Np P).length=mc P:=by unfold Np mc;rw[List.length_map,List.countP_eq_length_filter]
theorem aN{n:Int}{P:CW}(h:JN L al n P){k:Nat}(hk:k∈Np P):∃x,L[k]?=some x/\al k=true:=by
 obtain⟨r,hr,rfl⟩:=List.mem_map.1 hk;obtain⟨h1,h2⟩:=List.mem_filter.1 hr;obtain⟨k,e,x,hx,_,hal⟩:=h.vp r (List.mem_range.1 h1) (by simpa using h2);rw[e,show((k:Int)+1-1).toNat=k by omega];exact⟨x,hx,hal⟩
theorem eF{P:CW}{a:Int}{r s:Nat}(hr:r<s)(hs:s<12)(h1:lf L P r=some a)(h2:lf L P s=some a):2<=cn L P a:=by
 have e1:=I8 (f:=fun i=>decide (lf L P i=some a)) (g:=fun i=>if i=r then false else decide (lf L P i=some a)) (r:=r) (fun i hi=>by simp[hi]) (Nat.lt_trans hr hs);have e2:0<(List.range 12).countP (fun i=>if i=r then false else decide (lf L P i=some a)):=
  List.countP_pos_iff.2 ⟨s,List.mem_range.2 hs,by rw[if_neg (show¬s=r by omega)];simpa using h2⟩
 rw[if_neg (by simp),if_pos (by simpa using h1)]at e1;unfold cn;omega
theorem eG{n:Int}{P:CW}(h:JN L al n P):Jg L (Np P):=by
 unfold Jg Np;rw[List.pairwise_map];refine List.Pairwise.imp_of_mem ?_ (List.Pairwise.filter _ (List.pairwise_lt_range (n:=12)));intro r s hr hs hlt x y hx hy;obtain⟨h1,h2⟩:=List.mem_filter.1 hr;obtain⟨h3,h4⟩:=List.mem_filter.1 hs;obtain⟨k,e,x',hx',e1,_⟩:=h.vp r (List.mem_range.1 h1) (by simpa using h2);obtain⟨j,e',y',hy',e2,_⟩:=h.vp s (List.mem_range.1 h3) (by simpa using h4);rw[e,show((k:Int)+1-1).toNat=k by omega,hx']at hx;rw[e',show((j:Int)+1-1).toNat=j by omega,hy']at hy;cases hx;cases hy;refine⟨fun ee=>?_,by omega⟩;have a1:=NJ e hx';have a2:=NJ e' hy';rw[<-ee]at a2;have:=eF hlt (List.mem_range.1 h3) a1 a2;have:=h.one x.1;omega
end
end
end L5
end Go.Proofs.YtfmelbioccbdoaaGreat
end
section
namespace Go.Proofs.YtfmelbioccbdoaaGreat
open Go Go.Md Go.RowKit
def SG(T:Int)(r:Int×Int×Int):Bool:=JI 0 T r.1&&JI 0 T r.2.1&& !decide (r.1=r.2.1)&&JI (-100000) 100000 r.2.2
def JA(x:Int×List (Int×Int×Int)):Int:=
 if 60<x.2.length then 6 else if JI 1 20 x.1=true then(if x.2.all (SG x.1)=true then 0 else 3)else 2
theorem aO{α:Type}{p:α->Bool}(l:List α):(l.any fun x=>!p x)=!l.all p:=by
 induction l with
 |nil=>rfl
 |cons a l ih=>simp[ih,Bool.not_and]
theorem XL{x:Int×List (Int×Int×Int)}(h:JA x=0):x.2.length<=60/\1<=x.1/\x.1<=20/\∀r∈x.2,SG x.1 r=true:=by
 unfold JA at h;split at h
 ·cases h
 ·rename_i h1
  split at h
  ·rename_i h2
   split at h
   ·rename_i h3
    simp only[JI,Bool.and_eq_true,decide_eq_true_eq]at h2;exact⟨by omega,h2.1,h2.2,List.all_eq_true.1 h3⟩
   ·cases h
  ·cases h
def jC(n:Nat):List (Int×Int×Int):=(List.range n).flatMap fun(t:Nat)=>[(0,(t:Int)+1,100000),((t:Int)+1,0,0)]
def Gl(x:Int×List (Int×Int×Int)):List (Int×Int×Int):=x.2++jC x.1.toNat
theorem Ik{α:Type}{b:Nat}{l k:List α}(h:(l.length+k.length)*b<=140737488355328):app b l k=some (l++k):=by
 unfold app;rw[if_pos h]
end Go.Proofs.YtfmelbioccbdoaaGreat
end
