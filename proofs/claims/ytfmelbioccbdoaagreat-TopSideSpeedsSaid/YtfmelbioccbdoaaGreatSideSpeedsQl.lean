/-
  Part 12 of 14 of what the last text stands on: lemmas about the model, pure functions, walks, laws in plain Lean; each part's own head says its condition. Merged by a program of our own.
-/
import Derived.Test.YtfmelbioccbdoaaGreatSideSpeedsQk
import Derived.Sort.OwnSortedInts
import Derived.Scope
import Derived.IntWalk
import Derived.RangeFuncNested
import Derived.Maps.RangeRun
set_option maxHeartbeats 0
set_option linter.all false
section
namespace Go.Proofs.YtfmelbioccbdoaaGreat
open Go Go.Md Go.RowKit
theorem AOP{f:FuncId}(h:∀w,Calls Tryz.prog f #[] w fun e w'=>e=.returned (.bool true)/\Below w.heap.size w w'){w0:World}{r:Bool}(hr:some true=some r):
  Calls Tryz.prog f [].toArray w0 (IA fun v w'=>v=.bool r/\Ext w0 w'):=by
 cases hr;exact(h w0).mono fun e w' h=>⟨_,h.1,rfl,h.2⟩
def AFu(_:Nat):Option Bool:=some true
theorem ASx{w0:World}{F:Nat}{r:Bool}(hF:AFu F=some r):Calls Tryz.prog 159 [].toArray w0 (IA fun v w'=>v=.bool r/\Ext w0 w'):=AOP AQ8 hF
end Go.Proofs.YtfmelbioccbdoaaGreat
end
section
namespace Go.Proofs.YtfmelbioccbdoaaGreat
open Go Go.Md Go.RowKit
attribute [local irreducible] Go.wpList Go.Code.wp Go.Calls Go.Md.gK Go.Md.Mt Go.wpListIn Go.Code.wpIn

end Go.Proofs.YtfmelbioccbdoaaGreat
end
section
namespace Go.Proofs.YtfmelbioccbdoaaGreat
open Go Go.Md Go.RowKit


end Go.Proofs.YtfmelbioccbdoaaGreat
end
section
namespace Go.Proofs.YtfmelbioccbdoaaGreat
open Go Go.Md Go.RowKit
attribute [local irreducible] Go.wpList Go.Code.wp Go.Calls Go.Md.gK Go.Md.Mt

end Go.Proofs.YtfmelbioccbdoaaGreat
end
section
namespace Go.Proofs.YtfmelbioccbdoaaGreat
open Go Go.Md Go.RowKit



def ADQ(x0:(ZTc×(List (Int×Bool))×(Ar 16 (Ar 16 Int))×Opq×Opq))(x1:(Int×Int))(x2:Int):Option (Int×Int):=
 (ix x0.2.1 x2)>>=fun x4=>
 (shl .i64 1 x4.1)>>=fun x5=>
 some (bor .i64 x1.1 x5,x2)
def ABh(x0:Int)(x1:(Int×Int))(x2:(Ob (ZTc×(List (Int×Bool))×(Ar 16 (Ar 16 Int))×Opq×Opq))):Option Bool:=
 (x2.v)>>=fun x4=>
 (ix x4.2.1 x0)>>=fun x5=>
 (shr .i64 x1.1 x5.1)>>=fun x6=>
 some (decide ((band .i64 x6 1)=0))
end Go.Proofs.YtfmelbioccbdoaaGreat
end
section
namespace Go.Proofs.YtfmelbioccbdoaaGreat
open Go Go.Md Go.RowKit
attribute [local irreducible] Go.wpList Go.Code.wp Go.Calls Go.Md.gK Go.Md.Mt Go.Md.vN Go.Md.PE Go.Code.wpIn



theorem AQ9{w0:World}{b0:Nat}{cs0:List Value}{x0:(ZTc×(List (Int×Bool))×(Ar 16 (Ar 16 Int))×Opq×Opq)}(h0:Cs w0 b0 0 cs0)(q0:Enc.rep (fun _=>True) w0 cs0 x0){v1:Value}{x1:(Int×Int)}(r1:RV w0 v1 x1){x2:Int}{r:(Int×Int)}(hF:ADQ x0 x1 x2=some r):
  Calls Tryz.prog 272 [.pointer (some ⟨b0,0,none⟩),v1,.int .i64 x2].toArray w0 (IA fun v w'=>∃u0:Value,v=u0/\RV w' u0 r/\Ext w0 w'):=by
 unfold ADQ at hF;obtain⟨_,_,rfl,⟨_,_,rfl,⟨a1,cq1,rfl,p1,q4,e1⟩,_,_,rfl,rfl,_,_,rfl,rfl,rfl⟩,_,_,rfl,⟨a2,cq2,rfl,p2,q5,e2⟩,_,_,rfl,rfl,_,_,rfl,⟨a3,rfl,q6⟩,a4,rfl,q7⟩:=q0;have r5:=RV.of1 p2 q5 e2;have hz:=id r1;obtain⟨_,rfl,_,_,rfl,rfl,rfl⟩:=hz;refine I9 (n:=21) Tryz.func272 rfl rfl rfl<|Zr<|yX rfl rfl fun b4 w1 hx1 hg1 hb1=>?_;have h4:=h0.ext hx1;refine yY AE9 fun b5 w2 hx2 hg2 hb2=>?_;have k1:=hx1.tr hx2;have hb3:=hb1.ext hx2;have h5:=h4.ext hx2;refine nl<|wp_seq<|wpl [14] (.pure true 0 (.pure false 1 (.pure true 2 (.pure true 3 (.pure true 4 (.pure false 5 (.pure true 6 (.pure true 7 (.pure true 8 (.pure false 9 (.pure true 10 (.pure true 11 (.pure true 12 (.pure true 13 (.eff 14 .fin .stop))))))))))))))) mixed (by kernel_rfl) (fun w3 hx3=>?_);have k2:=k1.tr hx3;have hb4:=hb3.ext hx3;have hb5:=hb2.ext hx3;have h6:=h5.ext hx3;refine Zp rfl (fun _=>BA rfl AKO)<|Zq rfl (fun _ hS=>AP rfl Ap ((Bx.cs (hb4.ext (hS.resolve_left nofun))).at 0 rfl)) (Ext.refl _)<|Zn rfl<|Zp rfl (fun _=>tX rfl)<|Zp rfl (fun _=>BA rfl AGB)<|Zq rfl (fun _ hS=>AP rfl AK9 ((h6.ext (hS.resolve_left nofun)).at 4 rfl)) (Ext.refl _)<|Zn rfl<|bS hF fun x4 Ex4 hF=>?_;have hz:=(RV.els r5).ix Ex4;obtain⟨b6,f1,cs4,e3,i1,i2,q8,hc1⟩:=hz;cases e3;obtain⟨_,_,rfl,rfl,rfl⟩:=q8;have hc2:=hc1.ext k2;refine Zp rfl (fun _=>Dq rfl rfl Tryz.underlying51 ANi i1 i2)<|Zp rfl (fun _=>BA rfl AI1)<|Zq rfl (fun _ hS=>AP rfl Ap ((hc2.ext (hS.resolve_left nofun)).at 0 rfl)) (Ext.refl _)<|bS hF fun x5 Ex5 hF=>Zp rfl (fun _=>ANo rfl rfl Ex5)<|Zp rfl (fun _=>ATj rfl rfl)<|Zn rfl<|Zp rfl (fun _=>AAe (r:=[.int .i64 (bor .i64 x1.1 x5),.int .i64 x2]) AE9 AOm (pc rfl (pc rfl pn)) rfl)<|pe1 rfl<|xk rfl rfl rfl AE9 hb5 rfl rfl (ble rfl) fun w4 hch1 hb6=>?_;have k4:=Ext.chg k2 hch1 (Nat.le_trans hx1.size hg2);have hb7:Bx w4 b5 326 [.int .i64 (bor .i64 x1.1 x5),.int .i64 x2]:=hb6;refine nl ⟨fun h=>(h (by decide)).elim,?_⟩;cases hF;exact wp_ret<|rt rfl (.cell rfl rfl AE9 rfl (Bx.cs hb7) .nil) ⟨_,rfl,(show RV (α:=(Int×Int)) _ (.agg [.int .i64 (bor .i64 x1.1 x5),.int .i64 x2].toArray) (bor .i64 x1.1 x5,x2)from⟨_,rfl,[.int .i64 (bor .i64 x1.1 x5)],[.int .i64 x2],rfl,rfl,rfl⟩),k4⟩
theorem AUE{w0:World}{x0:Int}{b1:Nat}{cs1:List Value}{x1:(Int×Int)}(h1:Cs w0 b1 0 cs1)(q1:Enc.rep (fun _=>True) w0 cs1 x1){b2:Nat}{cs2:List Value}{x2:(Ob (ZTc×(List (Int×Bool))×(Ar 16 (Ar 16 Int))×Opq×Opq))}(h2:Cs w0 b2 0 cs2)(q2:Enc.rep (fun _=>True) w0 cs2 x2){r:Bool}(hF:ABh x0 x1 x2=some r):
  Calls Tryz.prog 309 [.int .i64 x0,.pointer (some ⟨b1,0,none⟩),.pointer (some ⟨b2,0,none⟩)].toArray w0 (IA fun v w'=>v=.bool r/\Ext w0 w'):=by
 unfold ABh at hF;obtain⟨_,_,rfl,rfl,rfl⟩:=q1;have q4:=q2;have hz:=AOy q4;obtain⟨a1,rfl,r4⟩:=hz;refine I9 (n:=18) Tryz.func309 rfl rfl rfl<|Zr<|Za<|nl<|wp_seq<|wpl [] (.pure true 0 (.pure false 1 (.pure false 2 (.pure true 3 (.pure true 4 (.pure false 5 (.pure true 6 (.pure true 7 (.pure true 8 (.pure false 9 (.pure true 10 (.pure true 11 (.pure true 12 (.pure true 13 .fin)))))))))))))) mixed (by kernel_rfl) (fun w1 hx1=>?_);have h4:=h1.ext hx1;have h5:=h2.ext hx1;refine Zp rfl (fun _=>BA rfl AKO)<|Zq rfl (fun _ hS=>AP rfl Ap ((h4.ext (hS.resolve_left nofun)).at 0 rfl)) (Ext.refl _)<|Zq rfl (fun _ hS=>AP rfl AEG ((h5.ext (hS.resolve_left nofun)).at 0 rfl)) (Ext.refl _)<|bS hF fun x4 Ex4 hF=>?_;have hz:=AG0 r4 Ex4;obtain⟨b4,cs4,e1,q5,hc1⟩:=hz;cases e1;obtain⟨_,_,rfl,⟨_,_,rfl,⟨a2,cq1,rfl,p1,q6,e2⟩,_,_,rfl,rfl,_,_,rfl,rfl,rfl⟩,_,_,rfl,⟨a3,cq2,rfl,p2,q7,e3⟩,_,_,rfl,rfl,_,_,rfl,⟨a4,rfl,q8⟩,a5,rfl,q9⟩:=q5;have r7:=RV.of1 p2 q7 e3;have hc2:=hc1.ext hx1;refine Zp rfl (fun _=>tX rfl)<|Zp rfl (fun _=>BA rfl AGB)<|Zq rfl (fun _ hS=>AP rfl AK9 ((hc2.ext (hS.resolve_left nofun)).at 4 rfl)) (Ext.refl _)<|Zn rfl<|bS hF fun x5 Ex5 hF=>?_;have hz:=(RV.els r7).ix Ex5;obtain⟨b5,f1,cs5,e4,i1,i2,q10,hc3⟩:=hz;cases e4;obtain⟨_,_,rfl,rfl,rfl⟩:=q10;have hc4:=hc3.ext hx1;refine Zp rfl (fun _=>Dq rfl rfl Tryz.underlying51 ANi i1 i2)<|Zp rfl (fun _=>BA rfl AI1)<|Zq rfl (fun _ hS=>AP rfl Ap ((hc4.ext (hS.resolve_left nofun)).at 0 rfl)) (Ext.refl _)<|bS hF fun x6 Ex6 hF=>Zp rfl (fun _=>ATk rfl rfl Ex6)<|Zp rfl (fun _=>AQW rfl rfl)<|Zp rfl (fun _=>zL rfl rfl)<|Zp rfl (fun _=>xas)<|?_;cases hF;exact wp_ret<|Zw rfl rfl rfl ⟨rfl,hx1⟩
abbrev ARA:=(Int×Int)×Int
abbrev ARB:=(ARA×ARA)×Bool
abbrev AMD:=List ARB×Int×(Int×Int)
abbrev AME:=Int×Bool
abbrev AIw:=Ar 16 (Ar 16 Int)
abbrev zQ:=AMD×List AME×AIw×Opq×Opq
abbrev yI:=Int×Int
def AJe(a1:Option Addr)(c1:Nat)(c:AMD)(sv:Value)(X:AIw)(ma mu:Nat):List Value:=
 [.slice a1 c.1.length c1,.int .i64 c.2.1,.int .i64 c.2.2.1,.int .i64 c.2.2.2,sv]++(X.l.flatMap Flat.enc++[.map (some ma),.map (some mu)])
def TbP(N:Nat)(w:World)(v:Value)(x:zQ)(b ma mu:Nat):Prop:=
 v=.pointer (some ⟨b,0,none⟩)/\RVo (fun q=>q≠ma/\q≠mu) w v (⟨some x⟩:Ob zQ)/\w.cell? ⟨b,261,none⟩=some (.map (some ma))/\w.cell? ⟨b,262,none⟩=some (.map (some mu))/\
 Mp (κ:=yI) (ν:=Int) w ma []/\Mp (κ:=yI) (ν:=Int) w mu []/\ma≠mu/\N<=ma/\N<=mu
def TbN(N:Nat)(w:World)(v:Value)(x:Ob zQ):Prop:=∃y b ma mu,x=⟨some y⟩/\TbP N w v y b ma mu
theorem AGn{w w':World}{b o:Nat}{c:Value}(h:w.cell? ⟨b,o,none⟩=some c)(k:Ext w w'):w'.cell? ⟨b,o,none⟩=some c:=by
 have hlt:=World.block_lt_of_cell? w _ h;exact(World.cell?_of_block (a:=⟨b,o,none⟩) (k.block b hlt)).trans h
theorem TbN.ext{N:Nat}{w w':World}{v:Value}{x:Ob zQ}(h:TbN N w v x)(k:Ext w w'):TbN N w' v x:=by
 obtain⟨y,b,ma,mu,rfl,h1,h2,h3,h4,h5,h6,h7⟩:=h;exact⟨y,b,ma,mu,rfl,h1,h2.ext k,AGn h3 k,AGn h4 k,h5.ext k,h6.ext k,h7⟩
theorem TbN.mono{N M:Nat}{w:World}{v:Value}{x:Ob zQ}(h:TbN N w v x)(hM:M<=N):TbN M w v x:=by
 obtain⟨y,b,ma,mu,rfl,h1,h2,h3,h4,h5,h6,h7,h8,h9⟩:=h;exact⟨y,b,ma,mu,rfl,h1,h2,h3,h4,h5,h6,h7,Nat.le_trans hM h8,Nat.le_trans hM h9⟩
theorem TbN.rv{N:Nat}{w:World}{v:Value}{x:Ob zQ}(h:TbN N w v x):RV w v x:=by
 obtain⟨y,b,ma,mu,rfl,h1,h2,h3⟩:=h;exact h2.rv
section
structure NT(w0 w:World)(base b4:Nat)(a1:Option Addr)(c1:Nat)(c:AMD)(sv:Value)(st:List AME)(X:AIw)(ma mu:Nat):Prop where
 bx:Bx w b4 199 (AJe a1 c1 c sv X ma mu)
 row:Row 56 base w sv st
 ma:Mp (κ:=yI) (ν:=Int) w ma []
 mu:Mp (κ:=yI) (ν:=Int) w mu []
 ext:Ext w0 w
 size:base<=w.heap.size
section
variable {w0 w w1 w2:World}{base b4:Nat}{a1:Option Addr}{c1:Nat}{c:AMD}{sv sv':Value}{st st':List AME}{X:AIw}{ma mu:Nat}
theorem NT.go(h:NT w0 w base b4 a1 c1 c sv st X ma mu)(k:Ext w w1):NT w0 w1 base b4 a1 c1 c sv st X ma mu:=
 ⟨h.bx.ext k,h.row.ext k,h.ma.ext k,h.mu.ext k,h.ext.tr k,Nat.le_trans h.size k.size⟩
theorem NT.steps(h:NT w0 w base b4 a1 c1 c sv st X ma mu)(hw0:w0.heap.size<=base)(h0:w0.heap.size<=b4)(h4:b4<base)(ha:ma<base)(hu:mu<base)(o:Row 56 base w1 sv' st')(hB:Below base w w1)(hc:Chg b4 w1 w2)(hb:Bx w2 b4 199 (Md.iW (AJe a1 c1 c sv X ma mu) 4 [sv'])):
  NT w0 w2 base b4 a1 c1 c sv' st' X ma mu:=by
 have hx:Bx w1 b4 199 (AJe a1 c1 c sv X ma mu):=h.bx.below hB h4;exact⟨hb,o.chg hc h4,(h.ma.below hB ha).chgb hc hx,(h.mu.below hB hu).chgb hc hx,Ext.chg (h.ext.trans (hB.mono hw0)) hc h0,by rw[hc.size];exact Nat.le_trans h.size hB.size⟩
end
end
end Go.Proofs.YtfmelbioccbdoaaGreat
end
section
namespace Go.Proofs.YtfmelbioccbdoaaGreat
open Go Go.Md Go.RowKit
def xN(F:Nat)(x0:(List Int))(x1:Int):Nat->Int->Option (Sum Int (Unit))
 |0,_=>none
 |m+1,y1=>
  if(decide (y1<(x0.length:Int)))=true then
   (ix x0 y1)>>=fun x3=>
   if(decide (x1=x3))=true then
    some (.inl y1)
   else
    xN F x0 x1 m (BH (y1+1))
  else
   some (.inr ())
def slices_Index_int(F:Nat)(x0:(List Int))(x1:Int):Option Int:=
 ((xN F x0 x1 F 0)>>=fun o=>match o with
  |.inl r=>some r
  |.inr ()=>
   some (-1))
def slices_Contains_int(F:Nat)(x0:(List Int))(x1:Int):Option Bool:=
 (slices_Index_int F x0 x1)>>=fun x3=>
 some (decide (0<=x3))
end Go.Proofs.YtfmelbioccbdoaaGreat
end
section
namespace Go.Proofs.YtfmelbioccbdoaaGreat
open Go Go.Md Go.RowKit
attribute [local irreducible] Go.wpList Go.Code.wp Go.Calls Go.Md.gK Go.Md.Mt Go.Md.vN Go.Md.PE Go.Code.wpIn
theorem AUF{w0:World}{v0:Value}{x0:(List Int)}(r0:RV w0 v0 x0){x1:Int}{F:Nat}{r:Int}(hF:slices_Index_int F x0 x1=some r):
  Calls Tryz.prog 250 [v0,.int .i64 x1].toArray w0 (IA fun v w'=>v=.int .i64 r/\Ext w0 w'):=by
 unfold slices_Index_int at hF;have hz:=r0.sl;obtain⟨a1,cq1,rfl,-,-,-⟩:=hz;refine I9 (n:=19) Tryz.func250 rfl rfl rfl<|Zr<|Za<|nl<|wp_seq<|Zr<|Zm<|Zv (Kz rfl Tryz.underlying41)<|Zm<|nl<|bS hF fun o1 hB1 hF=>ct (fun L w=>o1=.inr ()/\Ext w0 w) ?_ ?_
 ·refine wp_block<|lp (I:=fun m L w=>∃y1:Int,xN F x0 x1 m y1=some o1/\L 8=.int .i64 y1/\L 0=.slice a1 x0.length cq1/\L 1=.int .i64 x1/\L 7=.int .i64 (x0.length:Int)/\Ext w0 w) F ⟨_,hB1,rfl,rfl,rfl,rfl,(Ext.refl _)⟩ ?_;rintro m L w1⟨y1,hB1,l8_i1,l0_i1,l1_i1,l7_i1,K0_i1⟩;rcases m with _|m
  ·rw[xN]at hB1;cases hB1
  rw[xN]at hB1;refine Zr<|Zv (Oi l8_i1 l7_i1)<|nl<|wp_seq<|cnd rfl (fun h3=>?_) (fun h3=>?_)
  ·have hB1:=Cj hB1 h3;refine wp_skip<|wp_seq<|wp_block<|Zr<|Zm<|Za<|nl<|Zr<|Zm<|Zm<|Zm<|bS hB1 fun x3 Ex3 hB1=>?_;have hz:=(RV.els r0).ix Ex3;obtain⟨b3,f1,cs3,e1,i2,i3,q3,hc1⟩:=hz;cases e1;obtain rfl:=q3;have hc2:=hc1.ext K0_i1;refine Zv (Dq l0_i1 l8_i1 Tryz.underlying41 Ap i2 i3)<|Zv (AP rfl Ap (hc2.at 0 rfl))<|Zv (zL l1_i1 rfl)<|nl<|cnd rfl (fun h4=>?_) (fun h4=>?_)
   ·have hB1:=Cj hB1 h4;refine Zr<|Zm<|Za<|nl<|?_;cases hB1;have hF:=(show some _=some _ from hF);cases hF;exact wp_ret<|rt rfl (.tmp l8_i1 rfl .nil) ⟨rfl,K0_i1⟩
   ·have hB1:=DF hB1 h4;refine wp_skip<|rg<|Zv (FH l8_i1 rfl)<|Zm<|nl<|lq m (Nat.lt_succ_self _)<|?_;exact⟨_,hB1,rfl,l0_i1,l1_i1,l7_i1,K0_i1⟩
  ·have hB1:=DF hB1 h3;refine wp_exit<|?_;cases hB1;refine lf<|?_;exact⟨rfl,K0_i1⟩
 rintro L w2⟨rfl,K0_j1⟩;refine Zr<|Za<|nl<|?_;cases hF;exact wp_ret<|Zw rfl rfl rfl ⟨rfl,K0_j1⟩
theorem AOQ{w0:World}{v0:Value}{x0:(List Int)}(r0:RV w0 v0 x0){x1:Int}{F:Nat}{r:Bool}(hF:slices_Contains_int F x0 x1=some r):
  Calls Tryz.prog 144 [v0,.int .i64 x1].toArray w0 (IA fun v w'=>v=.bool r/\Ext w0 w'):=by
 unfold slices_Contains_int at hF;have hz:=r0.sl;obtain⟨a1,cq1,rfl,-,-,-⟩:=hz;refine I9 (n:=9) Tryz.func144 rfl rfl rfl<|Zr<|Za<|nl<|Zr<|Zm<|Zm<|bS hF fun x3 Ex3 hF=>Zc (xc ASE (mc rfl (mc rfl mn))) (AUF r0 Ex3) ?_;rintro _ w1⟨rfl,hx1⟩;refine Zv (ACq rfl rfl)<|Za<|nl<|?_;cases hF;exact wp_ret<|Zw rfl rfl rfl ⟨rfl,hx1⟩
end Go.Proofs.YtfmelbioccbdoaaGreat
end
section
namespace Go.Proofs.YtfmelbioccbdoaaGreat
open Go Go.Md Go.RowKit
attribute [local irreducible] Go.wpList Go.Code.wp Go.Calls Go.Md.gK Go.Md.Mt Go.Md.vN Go.Md.PE Go.Code.wpIn Go.wpListIn
section
structure Tb(N:Nat)(w:World)(b ma mu:Nat)(x:zQ):Prop where
 size:N<=w.heap.size
 rv:RVo (fun q=>q<N/\q≠ma/\q≠mu) w (.pointer (some ⟨b,0,none⟩)) (⟨some x⟩:Ob zQ)
 ca:w.cell? ⟨b,261,none⟩=some (.map (some ma))
 cu:w.cell? ⟨b,262,none⟩=some (.map (some mu))
 la:ma<N
 lu:mu<N
 ne:ma≠mu
section
variable {N:Nat}{w w1:World}{b ma mu c d:Nat}{x:zQ}
theorem Tb.lb(h:Tb N w b ma mu x):b<N/\b≠ma/\b≠mu:=by
 have hz:=AEn h.rv rfl;obtain⟨b',ds,e,h1,_,_⟩:=hz;cases e;exact h1
theorem Tb.belx(h:Tb N w b ma mu x)(k:BelX N c d w w1)(hc:c=ma\/c=mu\/N<=c)(hd:d=ma\/d=mu\/N<=d):Tb N w1 b ma mu x:=by
 have hb:=h.lb;have e:w1.heap[b]?=w.heap[b]?:=k.block b hb.1 (by omega) (by omega);exact⟨Nat.le_trans h.size k.size,h.rv.keep (fun q hq _=>k.block q hq.1 (by omega) (by omega)) k.size,(World.cell?_of_block (a:=⟨b,261,none⟩) e).trans h.ca,(World.cell?_of_block (a:=⟨b,262,none⟩) e).trans h.cu,h.la,h.lu,h.ne⟩
theorem Tb.belp{ok:Nat->Prop}{M:Nat}(h:Tb N w b ma mu x)(k:BelP ok M w w1)(hM:N<=M)(hk:∀q,q<N->q≠ma->q≠mu->ok q):Tb N w1 b ma mu x:=by
 have hb:=h.lb;have e:w1.heap[b]?=w.heap[b]?:=k.block b (by omega) (hk b hb.1 hb.2.1 hb.2.2);exact⟨Nat.le_trans h.size k.size,h.rv.keep (fun q hq _=>k.block q (by omega) (hk q hq.1 hq.2.1 hq.2.2)) k.size,(World.cell?_of_block (a:=⟨b,261,none⟩) e).trans h.ca,(World.cell?_of_block (a:=⟨b,262,none⟩) e).trans h.cu,h.la,h.lu,h.ne⟩
theorem Tb.ext(h:Tb N w b ma mu x)(k:Ext w w1):Tb N w1 b ma mu x:=h.belx (c:=ma) (d:=ma) (BelX.of k h.size) (.inl rfl) (.inl rfl)
theorem Tb.mono{M:Nat}(h:Tb N w b ma mu x)(hM:N<=M)(hs:M<=w.heap.size):Tb M w b ma mu x:=
 ⟨hs,h.rv.mono fun q _ hq=>⟨by omega,hq.2⟩,h.ca,h.cu,Nat.lt_of_lt_of_le h.la hM,Nat.lt_of_lt_of_le h.lu hM,h.ne⟩
theorem Tb.cs(h:Tb N w b ma mu x):∃cs,Cs w b 0 cs/\Enc.rep (fun _=>True) w cs x:=by
 have hz:=AEn h.rv rfl;obtain⟨b',ds,e,_,h1,h2⟩:=hz;cases e;exact⟨ds,h2,Enc.mono (fun _ _ _=>trivial) h1⟩
theorem Tb.steps(h:Tb N w b ma mu x):∃a k,w.cell? ⟨b,4,none⟩=some (.slice a x.2.1.length k)/\RVo (fun q=>q<N/\q≠ma/\q≠mu) w (.slice a x.2.1.length k) x.2.1:=by
 have hz:=AEn h.rv rfl;obtain⟨b',ds,e,_,h1,h2⟩:=hz;cases e;obtain⟨_,_,rfl,⟨_,_,rfl,⟨a1,c1,rfl,p1,q3,e1⟩,_,_,rfl,rfl,_,_,rfl,rfl,rfl⟩,_,_,rfl,⟨a2,c2,rfl,p2,q4,e2⟩,_⟩:=h1;exact⟨a2,c2,h2.at 4 rfl,RVo.sl.2 ⟨a2,c2,rfl,p2,q4,e2⟩⟩
theorem Tb.pieces(h:Tb N w b ma mu x):∃a k,w.cell? ⟨b,0,none⟩=some (.slice a x.1.1.length k)/\RVo (fun q=>q<N/\q≠ma/\q≠mu) w (.slice a x.1.1.length k) x.1.1:=by
 have hz:=AEn h.rv rfl;obtain⟨b',ds,e,_,h1,h2⟩:=hz;cases e;obtain⟨_,_,rfl,⟨_,_,rfl,⟨a1,c1,rfl,p1,q3,e1⟩,_,_,rfl,rfl,_,_,rfl,rfl,rfl⟩,_,_,rfl,⟨a2,c2,rfl,p2,q4,e2⟩,_⟩:=h1;exact⟨a1,c1,h2.at 0 rfl,RVo.sl.2 ⟨a1,c1,rfl,p1,q3,e1⟩⟩
theorem Tb.fits(h:Tb N w b ma mu x):Cs w b 5 (x.2.2.1.l.flatMap Flat.enc):=by
 have hz:=AEn h.rv rfl;obtain⟨b',ds,e,_,h1,h2⟩:=hz;cases e;obtain⟨_,_,rfl,⟨_,_,rfl,⟨a1,c1,rfl,p1,q3,e1⟩,_,_,rfl,rfl,_,_,rfl,rfl,rfl⟩,_,_,rfl,⟨a2,c2,rfl,p2,q4,e2⟩,_,_,rfl,rfl,_⟩:=h1;exact(h2.snd.snd).fst
end
def APC(x:zQ)(s:yI)(k:Int):Option Bool:=
 (ABh k s ⟨some x⟩)>>=fun f=>
 if f=true then
  (if decide (s.2=-1)=true then some true else(ix x.2.2.1.l s.2)>>=fun r=>(ix r.l k)>>=fun y=>some (decide (y=1)))
 else some false
def ACJ(x:zQ)(s:yI):Nat->Nat->Option (List yI)
 |0,_=>some []
 |n+1,k=>(APC x s k)>>=fun f=>(ACJ x s n (k+1))>>=fun t=>if f=true then(ADQ x s k)>>=fun u=>some (u::t)else some t
def AEf(x:zQ)(s:yI):Option (List yI):=
 if(!decide (s.2=-1))=true then(ix x.2.2.1.l s.2)>>=fun r=>if decide (r=Ar.fill 16 0)=true then some []else ACJ x s x.2.1.length 0
 else ACJ x s x.2.1.length 0
set_option maxHeartbeats 8000000 in
theorem ARC{m:Nat}{w:World}{bs bt bf b ma mu N:Nat}{ok:Nat->Prop}{x:zQ}{s:yI}{l:List yI}(hs:Bx w bs 326 (Flat.enc s))(ht:Bx w bt 177 [.pointer (some ⟨b,0,none⟩)])(hf:Bx w bf 236 [.func (.func 309) #[] #[.pointer (some ⟨bs,0,none⟩),.pointer (some ⟨bt,0,none⟩)]])
  (n1:ok bs) (n2:ok bt) (n3:ok bf) (hT:Tb N w b ma mu x) (hok:∀q,q<N->q≠ma->q≠mu->ok q) (hL:AEf x s=some l):
  AB6 Tryz.prog (BelP ok w.heap.size) m 310 #[.pointer (some ⟨bs,0,none⟩),.pointer (some ⟨bt,0,none⟩),.pointer (some ⟨bf,0,none⟩)] (l.map fun u=>#[fv u]) w:=by
 intro ll J Jx W kW hJ hJx hY h0;have KW:BelP ok w.heap.size w W:=BelP.of kW (Nat.le_refl _);have TW:=hT.ext kW;have dsW:=hs.ext kW;have dtW:=ht.ext kW;refine(callsIn_wide.2 ?_:CallsIn Fence.wide m Tryz.prog 310 ([.func (.yield ll) #[] #[],.pointer (some ⟨bs,0,none⟩),.pointer (some ⟨bt,0,none⟩),.pointer (some ⟨bf,0,none⟩)].toArray) W _);refine Calls.mono (R:=IA fun v W'=>J (l.map fun u=>#[fv u]).length W'\/Jx W') ?_ ?_
 rotate_left
 ·rintro e W'⟨v,rfl,h⟩
  exact⟨⟨v,rfl⟩,h⟩
 unfold AEf at hL;refine I9 (n:=58) Tryz.func310 rfl rfl rfl<|wp_seq<|ct (fun L w'=>L 0=.func (.yield ll) #[] #[]/\L 1=.pointer (some ⟨bs,0,none⟩)/\L 2=.pointer (some ⟨bt,0,none⟩)/\L 3=.pointer (some ⟨bf,0,none⟩)/\Ext W w'/\ACJ x s x.2.1.length 0=some l) ?_ ?_
 ·refine wp_seq<|wpl [] (.pure true 0 (.pure false 1 (.pure true 2 (.pure true 3 (.pure false 4 (.pure true 5 (.pure false 6 (.pure true 7 (.pure true 8 (.pure true 9 (.pure false 10 (.pure true 11 (.pure true 12 (.pure true 13 .fin)))))))))))))) mixed (by kernel_rfl) (fun wd hxd=>?_)
  have ds:=dsW.ext hxd;have dt:=dtW.ext hxd;have Td:=TW.ext hxd;refine Zp rfl (fun _=>BA rfl AGF)<|Zq rfl (fun _ hS=>AP rfl Ap ((Bx.cs (ds.ext (hS.resolve_left nofun))).at 1 rfl)) (Ext.refl _)<|Zp rfl (fun _=>wO rfl rfl)<|Zn rfl<|Or.elim (Bool.eq_false_or_eq_true (!decide (s.2=-1))) (fun hg=>?_) (fun hg=>?_)
  ·have hL:=Cj hL hg
   refine bS hL fun r Er hL=>?_;have hz:=yZ Td.fits Er;obtain⟨j1,j2,hc1⟩:=hz;refine Yi rfl (Md.bt hg) (fun _ hS=>AP rfl AEG ((Bx.cs (dt.ext (hS.resolve_left nofun))).at 0 rfl)) (Ext.refl _)<|Yt rfl (Md.bt hg) (fun _=>BA rfl AGF)<|Yi rfl (Md.bt hg) (fun _ hS=>AP rfl Ap ((Bx.cs (ds.ext (hS.resolve_left nofun))).at 1 rfl)) (Ext.refl _)<|Yt rfl (Md.bt hg) (fun _=>tX rfl)<|Yt rfl (Md.bt hg) (fun _=>BA rfl AKM)<|Yt rfl (Md.bt hg) (fun _=>xW rfl rfl Tryz.underlying196 AIl j1 j2)<|Yi rfl (Md.bt hg) (fun _ hS=>Jq rfl AIl (xO r) (hc1.ext (hS.resolve_left nofun))) (Ext.refl _)<|Yt rfl (Md.bt hg) (fun _=>ARh (r:=List.flatMap Flat.enc (Ar.fill 16 0:Ar 16 Int).l) AIl Tryz.underlying195 Ap pn rfl)<|Yt rfl (Md.bt hg) (fun _=>AQG (α:=Ar 16 Int) (a:=r) (b:=Ar.fill 16 0) rfl ARt ARs rfl rfl rfl rfl rfl)<|Zp rfl (fun _=>wI rfl hg rfl)<|cnd rfl (fun hq=>?_) (fun hq=>?_)
   ·have hL:=Cj hL hq
    cases hL;exact wp_ret<|rt rfl .nil (.inl (hJ 0 _ _ h0 hxd))
   ·have hL:=DF hL hq
    exact wp_skip<|lf ⟨rfl,rfl,rfl,rfl,hxd,hL⟩
  ·have hL:=DF hL hg
   refine Yh rfl (Gi hg) (Ext.refl _)<|Yf rfl (Gi hg)<|Yh rfl (Gi hg) (Ext.refl _)<|Yf rfl (Gi hg)<|Yf rfl (Gi hg)<|Yf rfl (Gi hg)<|Yh rfl (Gi hg) (Ext.refl _)<|Yf rfl (Gi hg)<|Yf rfl (Gi hg)<|Zp rfl (fun _=>yH rfl hg rfl)<|cnd rfl (fun hq=>by cases hq) (fun hq=>?_);exact wp_skip<|lf ⟨rfl,rfl,rfl,rfl,hxd,hL⟩
 clear hL;rintro L w2⟨l0,l1,l2,l3,k2,hL⟩;have T2:=TW.ext k2;have dt2:=dtW.ext k2;have hz:=T2.steps;obtain⟨a2,c2,h4,hsl⟩:=hz;have hlen:=(RVo.rv hsl).cap;have hj2:J 0 w2:=hJ 0 _ _ h0 k2;have K2:BelP ok w.heap.size w w2:=BelP.of (kW.tr k2) (Nat.le_refl _);refine Zr<|Zv (AP l2 AEG ((Bx.cs dt2).at 0 rfl))<|Zv (tX rfl)<|Zv (BA rfl AGB)<|Zv (AP rfl AK9 h4)<|Zv (Kz rfl Tryz.underlying51)<|Zm<|nl<|wp_block<|lp (I:=fun m' L w1=>∃(k:Nat)(pre t:List yI),k+m'=x.2.1.length/\ACJ x s m' k=some t/\l=pre++t/\L 25=.int .i64 (k:Int)/\L 24=.int .i64 (x.2.1.length:Int)/\L 0=.func (.yield ll) #[] #[]/\L 1=.pointer (some ⟨bs,0,none⟩)/\L 2=.pointer (some ⟨bt,0,none⟩)/\L 3=.pointer (some ⟨bf,0,none⟩)/\J pre.length w1/\BelP ok w.heap.size w w1) x.2.1.length
  ⟨0,[],l,by simp,hL,rfl,rfl,rfl,l0,l1,l2,l3,hj2,K2⟩ ?_
 clear l0 l1 l2 l3 hL;rintro m' L w1⟨k,pre,t,hk,hB,hl,l25,l24,l0,l1,l2,l3,hj,hx⟩;refine Zr<|Zv (Oi l25 l24)<|nl<|wp_seq<|cnd rfl (fun hc0=>?_) (fun hc0=>?_)
 ·have hc0:(k:Int)<(x.2.1.length:Int):=by simpa using hc0
  obtain⟨n,rfl⟩:∃n,m'=n+1:=⟨m'-1,by omega⟩;rw[ACJ]at hB;refine bS hB fun f Ef hB=>?_;have hz:=Md.bs hB;obtain⟨t',Et,hB⟩:=hz;unfold APC at Ef;have hz:=Md.bs Ef;obtain⟨f0,Ef0,Ef⟩:=hz;have hadd:BH ((k:Int)+1)=((k+1:Nat):Int):=by
   have hmx:x.2.1.length<=maxLen:=by omega
   rw[BH,IntWalk.i64_in _ (by unfold maxLen at hmx;omega)]
   rfl
  have hNw:=hx.size;refine wp_skip<|wp_seq<|wp_block<|Zr<|Zv (FY l25)<|Za<|nl<|wp_seq<|ATm (m:=m) (fun wd w'=>Ext wd w') [26] (.pure false 0 (.pure true 1 (.eff 2 (.pure true 3 (.pure true 4 (.pure false 5 (.pure true 6 (.pure true 7 (.pure false 8 (.pure true 9 (.pure false 10 (.pure true 11 (.pure true 12 (.pure true 13 (.pure true 14 (.pure true 15 (.pure false 16 (.pure true 17 (.pure true 18 (.pure true 19 (.pure true 20 (.pure true 21 (.pure false 22 (.pure false 23 (.pure true 24 (.eff 25 (.eff 26 (.pure true 27 (.pure true 28 .fin)) .stop) .stop))))))))))))))))))))))) .stop))) mixed (by kernel_rfl) (fun wd hxd=>?_);have hxd':=hx.ext hxd hNw;have ds:=hs.belp hxd' hs.lt n1;have dt:=ht.belp hxd' ht.lt n2;have df:=hf.belp hxd' hf.lt n3;have Td:=hT.belp hxd' hT.size hok;have hjd:=hJ _ _ _ hj hxd;refine pvw rfl rfl rfl (fun _ hS=>AP l3 AGC ((Bx.cs (df.ext (hS.resolve_left nofun))).at 0 rfl)) (.inr (Ext.refl _))<|pvw rfl rfl rfl (fun _ _=>Zk) (.inl rfl)<|ALN rfl<|Zc (xcv (fs:=[]) (cs:=[.pointer (some ⟨bs,0,none⟩),.pointer (some ⟨bt,0,none⟩)]) rfl ASR (mc rfl mn) rfl) (AUE (x1:=s) (x2:=(⟨some x⟩:Ob zQ)) (Bx.cs ds) (Flat.iff.2 rfl) (Bx.cs dt) (AI3 Td.rv.rv) Ef0) ?_;rintro _ w3⟨rfl,hx3⟩;refine nl ⟨fun _ h=>h.tr hx3,?_⟩;have kd3:=hxd.tr hx3;have hx3':=hx.ext kd3 hNw;have hjd3:=hJ _ _ _ hj kd3;have ds3:=ds.ext hx3;have dt3:=dt.ext hx3;have Td3:=Td.ext hx3;refine pvw rfl rfl rfl (fun _ _=>Zk) (.inl rfl)<|?_;have skip_:∀(L':Fr),f=false->L' 24=.int .i64 (x.2.1.length:Int)->L' 0=.func (.yield ll) #[] #[]->L' 1=.pointer (some ⟨bs,0,none⟩)->L' 2=.pointer (some ⟨bt,0,none⟩)->L' 3=.pointer (some ⟨bf,0,none⟩)->
    ∃(k':Nat)(pre t:List yI),k'+n=x.2.1.length/\ACJ x s n k'=some t/\l=pre++t/\Value.int .i64 (BH ((k:Int)+1))=.int .i64 (k':Int)/\L' 24=.int .i64 (x.2.1.length:Int)/\L' 0=.func (.yield ll) #[] #[]/\L' 1=.pointer (some ⟨bs,0,none⟩)/\L' 2=.pointer (some ⟨bt,0,none⟩)/\L' 3=.pointer (some ⟨bf,0,none⟩)/\J pre.length w3/\BelP ok w.heap.size w w3:=by
   intro L' hf0 h24 h0 h1 h2 h3;have hB:=DF hB hf0;cases hB;exact⟨k+1,pre,_,by omega,Et,hl,congrArg _ hadd,h24,h0,h1,h2,h3,hjd3,hx3'⟩
  refine Or.elim (Bool.eq_false_or_eq_true f0) (fun hf0=>?_) (fun hf0=>?_)
  ·have Ef:=Cj Ef hf0
   refine zn rfl rfl rfl rfl rfl rfl (Md.bt hf0) rfl (fun _ _=>BA l1 AGF) (.inl rfl)<|zn rfl rfl rfl rfl rfl rfl (Md.bt hf0) rfl (fun _ hS=>AP rfl Ap ((Bx.cs (ds.ext (hS.resolve_left nofun))).at 1 rfl)) (.inr hx3)<|zn rfl rfl rfl rfl rfl rfl (Md.bt hf0) rfl (fun _ _=>zL rfl rfl) (.inl rfl)<|zn rfl rfl rfl rfl rfl rfl (Md.bt hf0) rfl (fun _ _=>Zk) (.inl rfl)<|Or.elim (Bool.eq_false_or_eq_true (decide (s.2=-1))) (fun hs2=>?_) (fun hs2=>?_)
   ·have Ef:=Cj Ef hs2
    obtain rfl:true=f:=by cases Ef;rfl
    refine xu rfl rfl rfl rfl rfl rfl (BP hs2) rfl (.inr hx3)<|xu rfl rfl rfl rfl rfl rfl (BP hs2) rfl (.inl rfl)<|xu rfl rfl rfl rfl rfl rfl (BP hs2) rfl (.inr hx3)<|xu rfl rfl rfl rfl rfl rfl (BP hs2) rfl (.inl rfl)<|xu rfl rfl rfl rfl rfl rfl (BP hs2) rfl (.inl rfl)<|xu rfl rfl rfl rfl rfl rfl (BP hs2) rfl (.inl rfl)<|xu rfl rfl rfl rfl rfl rfl (BP hs2) rfl (.inl rfl)<|xu rfl rfl rfl rfl rfl rfl (BP hs2) rfl (.inl rfl)<|xu rfl rfl rfl rfl rfl rfl (BP hs2) rfl (.inr hx3)<|xu rfl rfl rfl rfl rfl rfl (BP hs2) rfl (.inl rfl)<|zn rfl rfl rfl rfl rfl rfl (Md.bt hf0) rfl (fun _ _=>wI rfl hs2 rfl) (.inl rfl)<|pvw rfl rfl rfl (fun _ _=>wI rfl hf0 rfl) (.inl rfl)<|pvw rfl rfl rfl (fun _ _=>Zk) (.inl rfl)<|?_;have hf:true=true:=rfl;have hB:=Cj hB hf;refine bS hB fun u Eu hB=>?_;cases hB;have hz:=Td3.cs;obtain⟨cs3,hc3,hr3⟩:=hz;refine zn rfl rfl rfl rfl rfl rfl (Md.bt hf) rfl (fun _ _=>FY l0) (.inl rfl)<|zn rfl rfl rfl rfl rfl rfl (Md.bt hf) rfl (fun _ hS=>AP l2 AEG ((Bx.cs (dt.ext (hS.resolve_left nofun))).at 0 rfl)) (.inr hx3)<|zn rfl rfl rfl rfl rfl rfl (Md.bt hf) rfl (fun _ hS=>Jq l1 AE9 rfl (Bx.cs (ds.ext (hS.resolve_left nofun)))) (.inr hx3)<|zn rfl rfl rfl rfl rfl rfl (Md.bt hf) rfl (fun _ _=>Zk) (.inl rfl)<|ALN rfl<|Gt rfl (Md.bt hf)<|Zc (xc AOu (mc rfl<|mc rfl<|mc rfl mn)) (AQ9 (x0:=x) hc3 hr3 (x1:=s) ⟨_,rfl,Flat.iff.2 rfl⟩ Eu) ?_;rintro _ w4⟨u0,rfl,ru,hx4⟩;refine nl ⟨fun _ h=>h.tr hx4,?_⟩;obtain⟨cu,rfl,hu⟩:=ru;obtain rfl:=Flat.iff.1 hu;have hus:(l.map fun u=>(#[fv u]:Array Value))[pre.length]?=some #[fv u]:=by
     rw[List.getElem?_map,hl,List.getElem?_append_right (Nat.le_refl _),Nat.sub_self]
     rfl
    have hz:=hY pre.length #[fv u] w4 hus (hJ _ _ _ hjd3 hx4);obtain⟨fn,tmps,assign,body,hy,hR⟩:=hz;refine pyw rfl rfl rfl rfl rfl rfl (Md.bt hf) rfl (by decide) (xyl rfl (mc rfl mn) hy) hR fun e w5 he=>?_;rcases he with⟨rfl,hj5,k5⟩|⟨rfl,hj5⟩
    ·refine⟨_,rfl,?_⟩
     refine zn rfl rfl rfl rfl rfl rfl (Md.bt hf) rfl (fun _ _=>wP rfl) (.inl rfl)<|pvw rfl rfl rfl (fun _ _=>wI rfl hf rfl) (.inl rfl)<|cnd rfl (fun h=>by cases h) (fun _=>?_);refine wp_skip<|rg<|Zv (FH l25 rfl)<|Zm<|nl<|lq n (Nat.lt_succ_self _) ⟨k+1,pre++[u],t',by omega,Et,by rw[hl,List.append_assoc];rfl,congrArg _ hadd,l24,l0,l1,l2,l3,?_,(hx3'.ext hx4 (Nat.le_trans hNw kd3.size)).trans k5⟩;rw[List.length_append];exact hj5
    ·refine⟨_,rfl,?_⟩
     refine zn rfl rfl rfl rfl rfl rfl (Md.bt hf) rfl (fun _ _=>wP rfl) (.inl rfl)<|pvw rfl rfl rfl (fun _ _=>wI rfl hf rfl) (.inl rfl)<|cnd rfl (fun _=>?_) (fun h=>by cases h);exact wp_ret<|rt rfl .nil (.inr hj5)
   ·have Ef:=DF Ef hs2
    have hz:=Md.bs Ef;obtain⟨r,Er,Ef⟩:=hz;have hz:=Md.bs Ef;obtain⟨y,Ey,Ef⟩:=hz;obtain rfl:decide (y=1)=f:=by cases Ef;rfl
    have hz:=yZ Td.fits Er;obtain⟨j1,j2,hc1⟩:=hz;have hz:=yZ (X:=r) hc1 Ey;obtain⟨j3,j4,hc2⟩:=hz;refine zn rfl rfl rfl rfl rfl rfl (Md.bf hs2) rfl (fun _ hS=>AP l2 AEG ((Bx.cs (dt.ext (hS.resolve_left nofun))).at 0 rfl)) (.inr hx3)<|zn rfl rfl rfl rfl rfl rfl (Md.bf hs2) rfl (fun _ _=>BA l1 AGF) (.inl rfl)<|zn rfl rfl rfl rfl rfl rfl (Md.bf hs2) rfl (fun _ hS=>AP rfl Ap ((Bx.cs (ds.ext (hS.resolve_left nofun))).at 1 rfl)) (.inr hx3)<|zn rfl rfl rfl rfl rfl rfl (Md.bf hs2) rfl (fun _ _=>Zk) (.inl rfl)<|zn rfl rfl rfl rfl rfl rfl (Md.bf hs2) rfl (fun _ _=>tX rfl) (.inl rfl)<|zn rfl rfl rfl rfl rfl rfl (Md.bf hs2) rfl (fun _ _=>BA rfl AKM) (.inl rfl)<|zn rfl rfl rfl rfl rfl rfl (Md.bf hs2) rfl (fun _ _=>xW rfl rfl Tryz.underlying196 AIl j1 j2) (.inl rfl)<|zn rfl rfl rfl rfl rfl rfl (Md.bf hs2) rfl (fun _ _=>xW rfl rfl Tryz.underlying195 Ap j3 j4) (.inl rfl)<|zn rfl rfl rfl rfl rfl rfl (Md.bf hs2) rfl (fun _ hS=>AP rfl Ap ((hc2.ext (hS.resolve_left nofun)).at 0 rfl)) (.inr hx3)<|zn rfl rfl rfl rfl rfl rfl (Md.bf hs2) rfl (fun _ _=>zL rfl rfl) (.inl rfl)<|zn rfl rfl rfl rfl rfl rfl (Md.bt hf0) rfl (fun _ _=>yH rfl hs2 rfl) (.inl rfl)<|pvw rfl rfl rfl (fun _ _=>wI rfl hf0 rfl) (.inl rfl)<|pvw rfl rfl rfl (fun _ _=>Zk) (.inl rfl)<|Or.elim (Bool.eq_false_or_eq_true (decide (y=1))) (fun hf=>?_) (fun hf=>?_)
    ·skip
     have hB:=Cj hB hf;refine bS hB fun u Eu hB=>?_;cases hB;have hz:=Td3.cs;obtain⟨cs3,hc3,hr3⟩:=hz;refine zn rfl rfl rfl rfl rfl rfl (Md.bt hf) rfl (fun _ _=>FY l0) (.inl rfl)<|zn rfl rfl rfl rfl rfl rfl (Md.bt hf) rfl (fun _ hS=>AP l2 AEG ((Bx.cs (dt.ext (hS.resolve_left nofun))).at 0 rfl)) (.inr hx3)<|zn rfl rfl rfl rfl rfl rfl (Md.bt hf) rfl (fun _ hS=>Jq l1 AE9 rfl (Bx.cs (ds.ext (hS.resolve_left nofun)))) (.inr hx3)<|zn rfl rfl rfl rfl rfl rfl (Md.bt hf) rfl (fun _ _=>Zk) (.inl rfl)<|ALN rfl<|Gt rfl (Md.bt hf)<|Zc (xc AOu (mc rfl<|mc rfl<|mc rfl mn)) (AQ9 (x0:=x) hc3 hr3 (x1:=s) ⟨_,rfl,Flat.iff.2 rfl⟩ Eu) ?_;rintro _ w4⟨u0,rfl,ru,hx4⟩;refine nl ⟨fun _ h=>h.tr hx4,?_⟩;obtain⟨cu,rfl,hu⟩:=ru;obtain rfl:=Flat.iff.1 hu;have hus:(l.map fun u=>(#[fv u]:Array Value))[pre.length]?=some #[fv u]:=by
      rw[List.getElem?_map,hl,List.getElem?_append_right (Nat.le_refl _),Nat.sub_self]
      rfl
     have hz:=hY pre.length #[fv u] w4 hus (hJ _ _ _ hjd3 hx4);obtain⟨fn,tmps,assign,body,hy,hR⟩:=hz;refine pyw rfl rfl rfl rfl rfl rfl (Md.bt hf) rfl (by decide) (xyl rfl (mc rfl mn) hy) hR fun e w5 he=>?_;rcases he with⟨rfl,hj5,k5⟩|⟨rfl,hj5⟩
     ·refine⟨_,rfl,?_⟩
      refine zn rfl rfl rfl rfl rfl rfl (Md.bt hf) rfl (fun _ _=>wP rfl) (.inl rfl)<|pvw rfl rfl rfl (fun _ _=>wI rfl hf rfl) (.inl rfl)<|cnd rfl (fun h=>by cases h) (fun _=>?_);refine wp_skip<|rg<|Zv (FH l25 rfl)<|Zm<|nl<|lq n (Nat.lt_succ_self _) ⟨k+1,pre++[u],t',by omega,Et,by rw[hl,List.append_assoc];rfl,congrArg _ hadd,l24,l0,l1,l2,l3,?_,(hx3'.ext hx4 (Nat.le_trans hNw kd3.size)).trans k5⟩;rw[List.length_append];exact hj5
     ·refine⟨_,rfl,?_⟩
      refine zn rfl rfl rfl rfl rfl rfl (Md.bt hf) rfl (fun _ _=>wP rfl) (.inl rfl)<|pvw rfl rfl rfl (fun _ _=>wI rfl hf rfl) (.inl rfl)<|cnd rfl (fun _=>?_) (fun h=>by cases h);exact wp_ret<|rt rfl .nil (.inr hj5)
    ·refine xu rfl rfl rfl rfl rfl rfl (Gi hf) rfl (.inl rfl)<|xu rfl rfl rfl rfl rfl rfl (Gi hf) rfl (.inr hx3)<|xu rfl rfl rfl rfl rfl rfl (Gi hf) rfl (.inr hx3)<|xu rfl rfl rfl rfl rfl rfl (Gi hf) rfl (.inl rfl)<|?_
     refine ALO rfl rfl rfl rfl rfl rfl (Gi hf) rfl<|ALO rfl rfl rfl rfl rfl rfl (Gi hf) rfl<|xu rfl rfl rfl rfl rfl rfl (Gi hf) rfl (.inl rfl)<|pvw rfl rfl rfl (fun _ _=>yH rfl hf rfl) (.inl rfl)<|cnd rfl (fun h=>by cases h) (fun _=>?_);refine wp_skip<|rg<|Zv (FH l25 rfl)<|Zm<|nl<|lq n (Nat.lt_succ_self _) (skip_ _ hf l24 l0 l1 l2 l3)
  ·have Ef:=DF Ef hf0
   obtain rfl:false=f:=by cases Ef;rfl
   refine xu rfl rfl rfl rfl rfl rfl (Gi hf0) rfl (.inl rfl)<|xu rfl rfl rfl rfl rfl rfl (Gi hf0) rfl (.inr hx3)<|xu rfl rfl rfl rfl rfl rfl (Gi hf0) rfl (.inl rfl)<|xu rfl rfl rfl rfl rfl rfl (Gi hf0) rfl (.inl rfl)<|xu rfl rfl rfl rfl rfl rfl Md.bu rfl (.inr hx3)<|xu rfl rfl rfl rfl rfl rfl Md.bu rfl (.inl rfl)<|xu rfl rfl rfl rfl rfl rfl Md.bu rfl (.inr hx3)<|xu rfl rfl rfl rfl rfl rfl Md.bu rfl (.inl rfl)<|xu rfl rfl rfl rfl rfl rfl Md.bu rfl (.inl rfl)<|xu rfl rfl rfl rfl rfl rfl Md.bu rfl (.inl rfl)<|xu rfl rfl rfl rfl rfl rfl Md.bu rfl (.inl rfl)<|xu rfl rfl rfl rfl rfl rfl Md.bu rfl (.inl rfl)<|xu rfl rfl rfl rfl rfl rfl Md.bu rfl (.inr hx3)<|xu rfl rfl rfl rfl rfl rfl Md.bu rfl (.inl rfl)<|xu rfl rfl rfl rfl rfl rfl (Gi hf0) rfl (.inl rfl)<|pvw rfl rfl rfl (fun _ _=>yH rfl hf0 rfl) (.inl rfl)<|pvw rfl rfl rfl (fun _ _=>Zk) (.inl rfl)<|xu rfl rfl rfl rfl rfl rfl (Gi rfl) rfl (.inl rfl)<|xu rfl rfl rfl rfl rfl rfl (Gi rfl) rfl (.inr hx3)<|xu rfl rfl rfl rfl rfl rfl (Gi rfl) rfl (.inr hx3)<|xu rfl rfl rfl rfl rfl rfl (Gi rfl) rfl (.inl rfl)<|ALO rfl rfl rfl rfl rfl rfl (Gi rfl) rfl<|ALO rfl rfl rfl rfl rfl rfl (Gi rfl) rfl<|xu rfl rfl rfl rfl rfl rfl (Gi rfl) rfl (.inl rfl)<|pvw rfl rfl rfl (fun _ _=>yH rfl rfl rfl) (.inl rfl)<|cnd rfl (fun h=>by cases h) (fun _=>?_);refine wp_skip<|rg<|Zv (FH l25 rfl)<|Zm<|nl<|lq n (Nat.lt_succ_self _) (skip_ _ rfl l24 l0 l1 l2 l3)
 ·have hc0:¬(k:Int)<(x.2.1.length:Int):=by simpa using hc0
  obtain rfl:m'=0:=by omega
  rw[ACJ]at hB;cases hB;refine wp_exit<|rtn rfl .nil (.inl ?_);rw[List.length_map,hl,List.append_nil];exact hj
end
def BhV(lo:Nat)(w:World)(v:Value)(s:yI)(b:Nat):Prop:=∃bs bt bf,v=.func (.func 310) #[] #[.pointer (some ⟨bs,0,none⟩),.pointer (some ⟨bt,0,none⟩),.pointer (some ⟨bf,0,none⟩)]/\
 Bx w bs 326 (Flat.enc s)/\Bx w bt 177 [.pointer (some ⟨b,0,none⟩)]/\Bx w bf 236 [.func (.func 309) #[] #[.pointer (some ⟨bs,0,none⟩),.pointer (some ⟨bt,0,none⟩)]]/\lo<=bs/\lo<=bt/\lo<=bf
theorem BhV.go{lo:Nat}{w:World}{v:Value}{s:yI}{b ma mu N:Nat}{ok:Nat->Prop}{x:zQ}{l:List yI}(h:BhV lo w v s b)(hT:Tb N w b ma mu x)(hok:∀q,q<N->q≠ma->q≠mu->ok q)(hlo:∀q,lo<=q->ok q)(hL:AEf x s=some l)(m:Nat):
  ∃gf cs,v=.func (.func gf) #[] cs/\Ad Tryz.prog gf/\AB6 Tryz.prog (BelP ok w.heap.size) m gf cs (l.map fun u=>#[fv u]) w:=by
 obtain⟨bs,bt,bf,rfl,h1,h2,h3,h4,h5,h6⟩:=h;exact⟨310,_,rfl,ASS,ARC h1 h2 h3 (hlo _ h4) (hlo _ h5) (hlo _ h6) hT hok hL⟩

def ACK(own step:Int):Nat->Nat->List yI
 |0,_=>[]
 |n+1,k=>if(!decide (band .i64 (k:Int) own=0))=true then((k:Int),step)::ACK own step n (k+1)else ACK own step n (k+1)
def AEg(x:zQ)(step:Int):Option (List yI):=
 (ix x.2.1 step)>>=fun st=>(shl .i64 1 st.1)>>=fun own=>(shl .i64 1 (x.1.1.length:Int))>>=fun top=>
 if decide (0<=top/\top<=1000000)=true then some (ACK own step top.toNat 0)else none
set_option maxHeartbeats 8000000 in
theorem ARD{m:Nat}{w:World}{bt b3 b ma mu N:Nat}{ok:Nat->Prop}{x:zQ}{step:Int}{l:List yI}(ht:Bx w bt 177 [.pointer (some ⟨b,0,none⟩)])(h3:Bx w b3 3 [.int .i64 step])
  (n1:ok bt) (n2:ok b3) (hT:Tb N w b ma mu x) (hok:∀q,q<N->q≠ma->q≠mu->ok q) (hL:AEg x step=some l):
  AB6 Tryz.prog (BelP ok w.heap.size) m 308 #[.pointer (some ⟨bt,0,none⟩),.pointer (some ⟨b3,0,none⟩)] (l.map fun u=>#[fv u]) w:=by
 intro ll J Jx W kW hJ hJx hY h0;have KW:BelP ok w.heap.size w W:=BelP.of kW (Nat.le_refl _);have TW:=hT.ext kW;have dtW:=ht.ext kW;have d3W:=h3.ext kW;refine(callsIn_wide.2 ?_:CallsIn Fence.wide m Tryz.prog 308 ([.func (.yield ll) #[] #[],.pointer (some ⟨bt,0,none⟩),.pointer (some ⟨b3,0,none⟩)].toArray) W _);refine Calls.mono (R:=IA fun v W'=>J (l.map fun u=>#[fv u]).length W'\/Jx W') ?_ ?_
 rotate_left
 ·rintro e W'⟨v,rfl,h⟩
  exact⟨⟨v,rfl⟩,h⟩
 unfold AEg at hL;refine bS hL fun st Es hL=>bS hL fun own Eo hL=>bS hL fun top Et hL=>?_;have hz:=ifs hL;obtain⟨htop,hL⟩:=hz;cases hL;have htop:0<=top/\top<=1000000:=by simpa using htop
 refine I9 (n:=38) Tryz.func308 rfl rfl rfl<|wp_seq<|wpl [] (.pure false 0 (.pure true 1 (.pure true 2 (.pure false 3 (.pure false 4 (.pure true 5 (.pure true 6 (.pure false 7 (.pure true 8 (.pure true 9 .fin)))))))))) mixed (by kernel_rfl) (fun wd hxd=>?_);have dt:=dtW.ext hxd;have d3:=d3W.ext hxd;have Td:=TW.ext hxd;have hz:=Td.steps;obtain⟨a1,c1,h4,hs4⟩:=hz;have hz:=(RVo.sl.1 hs4);obtain⟨a1',c1',e3,_,hcap,els⟩:=hz;cases e3;have hz:=Els.ix els Es;obtain⟨b5,off5,cs5,rfl,i1,i2,q5,hc5⟩:=hz;obtain rfl:=Flat.iff.1 q5;have hz:=Td.pieces;obtain⟨a6,c6,h6,hs6⟩:=hz;refine Zq rfl (fun _ hS=>AP rfl AEG ((Bx.cs (dt.ext (hS.resolve_left nofun))).at 0 rfl)) (Ext.refl _)<|Zp rfl (fun _=>tX rfl)<|Zp rfl (fun _=>BA rfl AGB)<|Zq rfl (fun _ hS=>AP rfl AK9 (AGn h4 (hS.resolve_left nofun))) (Ext.refl _)<|Zq rfl (fun _ hS=>AP rfl Ap ((Bx.cs (d3.ext (hS.resolve_left nofun))).at 0 rfl)) (Ext.refl _)<|Zp rfl (fun _=>Dq rfl rfl Tryz.underlying51 ANi i1 i2)<|Zp rfl (fun _=>BA rfl AI1)<|Zq rfl (fun _ hS=>AP rfl Ap ((hc5.ext (hS.resolve_left nofun)).at 0 rfl)) (Ext.refl _)<|Zp rfl (fun _=>ANo rfl rfl Eo)<|Zp rfl (fun _=>xas)<|Zr<|Zv (AP rfl AEG ((Bx.cs dt).at 0 rfl))<|Zv (tX rfl)<|Zv (BA rfl APc)<|Zv (BA rfl AQJ)<|Zv (AP rfl ATR h6)<|Zv (Kz rfl Tryz.underlying46)<|Zv (ANo rfl rfl Et)<|Zm<|nl<|?_;have hjd:J 0 wd:=hJ 0 _ _ h0 hxd;have Kd:BelP ok w.heap.size w wd:=BelP.of (kW.tr hxd) (Nat.le_refl _);refine wp_block<|lp (I:=fun m' L w1=>∃(k:Nat)(pre:List yI),k+m'=top.toNat/\ACK own step top.toNat 0=pre++ACK own step m' k/\L 22=.int .i64 (k:Int)/\L 21=.int .i64 top/\L 4=.int .i64 own/\L 0=.func (.yield ll) #[] #[]/\L 1=.pointer (some ⟨bt,0,none⟩)/\L 2=.pointer (some ⟨b3,0,none⟩)/\J pre.length w1/\BelP ok w.heap.size w w1) top.toNat
  ⟨0,[],by simp,rfl,rfl,rfl,rfl,rfl,rfl,rfl,hjd,Kd⟩ ?_
 rintro m' L w1⟨k,pre,hk,hl,l22,l21,l4,l0,l1,l2,hj,hx⟩;refine Zr<|Zv (Oi l22 l21)<|nl<|wp_seq<|cnd rfl (fun hc0=>?_) (fun hc0=>?_)
 ·have hc0:(k:Int)<top:=by simpa using hc0
  obtain⟨n,rfl⟩:∃n,m'=n+1:=⟨m'-1,by omega⟩;rw[ACK]at hl;have hadd:BH ((k:Int)+1)=((k+1:Nat):Int):=by
   rw[BH,IntWalk.i64_in _ (by omega)]
   rfl
  have d31:=h3.belp hx h3.lt n2;refine wp_skip<|wp_seq<|wp_block<|Zr<|Zv (FY l22)<|Za<|nl<|wp_seq<|rgW (m:=m)<|Ko rfl rfl nofun Zk<|Ko rfl rfl nofun (FY l4)<|Ko rfl rfl nofun (AQW rfl rfl)<|Ko rfl rfl nofun (wO rfl rfl)<|Ko rfl rfl nofun Zk<|Or.elim (Bool.eq_false_or_eq_true (!decide (band .i64 (k:Int) own=0))) (fun hg=>?_) (fun hg=>?_)
  ·rw[if_pos hg]at hl
   have hus:((ACK own step top.toNat 0).map fun u=>(#[fv u]:Array Value))[pre.length]?=some #[fv (((k:Int),step):yI)]:=by
    rw[List.getElem?_map,hl,List.getElem?_append_right (Nat.le_refl _),Nat.sub_self]
    rfl
   have hz:=hY pre.length _ w1 hus hj;obtain⟨fn,tmps,assign,body,hy,hR⟩:=hz;refine xq rfl rfl rfl rfl rfl (Md.bt hg)<|Ko rfl rfl nofun (FY l0)<|xq rfl rfl rfl rfl rfl (Md.bt hg)<|Ko rfl rfl nofun Zk<|xq rfl rfl rfl rfl rfl (Md.bt hg)<|Ko rfl rfl nofun (AP l2 Ap ((Bx.cs d31).at 0 rfl))<|xq rfl rfl rfl rfl rfl (Md.bt hg)<|Ko rfl rfl nofun (AAe (r:=[.int .i64 (k:Int),.int .i64 step]) AE9 AOm (pc rfl (pc rfl pn)) rfl)<|xq rfl rfl rfl rfl rfl (Md.bt hg)<|ylW rfl rfl nofun (xyl rfl (mc rfl mn) hy) hR fun e w5 he=>?_;rcases he with⟨rfl,hj5,k5⟩|⟨rfl,hj5⟩
   ·refine⟨_,rfl,xq rfl rfl rfl rfl rfl (Md.bt hg)<|Ko rfl rfl nofun (wP rfl)<|Ko rfl rfl nofun (wI rfl hg rfl)<|nlW<|cnd rfl (fun h=>by cases h) (fun _=>?_)⟩
    refine wp_skip<|rg<|Zv (FH l22 rfl)<|Zm<|nl<|lq n (Nat.lt_succ_self _) ⟨k+1,pre++[((k:Int),step)],by omega,by rw[hl,List.append_assoc];rfl,congrArg _ hadd,l21,l4,l0,l1,l2,?_,hx.trans k5⟩;rw[List.length_append];exact hj5
   ·refine⟨_,rfl,xq rfl rfl rfl rfl rfl (Md.bt hg)<|Ko rfl rfl nofun (wP rfl)<|Ko rfl rfl nofun (wI rfl hg rfl)<|nlW<|cnd rfl (fun _=>?_) (fun h=>by cases h)⟩
    exact wp_ret<|rt rfl .nil (.inr hj5)
  ·rw[if_neg (by rw[hg];simp)]at hl
   refine gfW rfl rfl rfl rfl rfl (Gi hg) rfl<|gfW rfl rfl rfl rfl rfl (Gi hg) rfl<|gfW rfl rfl rfl rfl rfl (Gi hg) rfl<|gfW rfl rfl rfl rfl rfl (Gi hg) rfl<|gfW rfl rfl rfl rfl rfl (Gi hg) rfl<|gfW rfl rfl rfl rfl rfl (Gi hg) rfl<|Ko rfl rfl nofun (yH rfl hg rfl)<|nlW<|cnd rfl (fun h=>by cases h) (fun _=>?_);refine wp_skip<|rg<|Zv (FH l22 rfl)<|Zm<|nl<|lq n (Nat.lt_succ_self _) ⟨k+1,pre,by omega,hl,congrArg _ hadd,l21,l4,l0,l1,l2,hj,hx⟩
 ·have hc0:¬(k:Int)<top:=by simpa using hc0
  obtain rfl:m'=0:=by omega
  rw[ACK]at hl;refine wp_exit<|rtn rfl .nil (.inl ?_);rw[List.length_map,hl,List.append_nil];exact hj
def StV(lo:Nat)(w:World)(v:Value)(step:Int)(b:Nat):Prop:=∃bt b3,v=.func (.func 308) #[] #[.pointer (some ⟨bt,0,none⟩),.pointer (some ⟨b3,0,none⟩)]/\
 Bx w bt 177 [.pointer (some ⟨b,0,none⟩)]/\Bx w b3 3 [.int .i64 step]/\lo<=bt/\lo<=b3
theorem StV.go{lo:Nat}{w:World}{v:Value}{step:Int}{b ma mu N:Nat}{ok:Nat->Prop}{x:zQ}{l:List yI}(h:StV lo w v step b)(hT:Tb N w b ma mu x)(hok:∀q,q<N->q≠ma->q≠mu->ok q)(hlo:∀q,lo<=q->ok q)(hL:AEg x step=some l)(m:Nat):
  ∃gf cs,v=.func (.func gf) #[] cs/\Ad Tryz.prog gf/\AB6 Tryz.prog (BelP ok w.heap.size) m gf cs (l.map fun u=>#[fv u]) w:=by
 obtain⟨bt,b3,rfl,h2,h3,h5,h6⟩:=h;exact⟨308,_,rfl,ASQ,ARD h2 h3 (hlo _ h5) (hlo _ h6) hT hok hL⟩
theorem Els.okb{α:Type}[Enc α]{ok:Nat->Prop}{w:World}{b off:Nat}{l:List α}{i:Int}{y:α}(h:Els α ok w (some ⟨b,off,none⟩) l)(hi:ix l i=some y):ok b:=by
 rcases h with rfl|⟨b',o',e,h1,_⟩
 ·have:=(vX hi).2.1
  have:=(vX hi).1;simp at*
  omega
 ·cases e
  exact h1
end Go.Proofs.YtfmelbioccbdoaaGreat
end
section
namespace Go.Md
open Go Go.RowKit
section
section
variable {P:Program}{Q:Exit->Act->World->Prop}{m n:Nat}{L:Fr}{D:List Deferred}{w:World}
end
end
section
section
variable {κ ν:Type}[DecidableEq κ][Enc κ][Flat κ][Key κ][Enc ν][Flat ν]
def MpS(w:World)(b:Nat)(l:List (κ×ν)):Prop:=
 ∃es clock,w.heap[b]?=some (.map es clock)/\es.toList.map (fun e=>(e.key,e.val))=l.map (fun p=>(fv p.1,fv p.2))/\(l.map (·.1)).Nodup/\(∀p∈l,Key.ok p.1=true)/\
  (es.toList.map (·.born)).Nodup/\∀e∈es.toList,e.born<clock
variable {w w':World}{b:Nat}{l:List (κ×ν)}
omit [DecidableEq κ]in
omit [DecidableEq κ]in
theorem MpS.same(h:MpS w b l)(k:w'.heap[b]?=w.heap[b]?):MpS w' b l:=by
 obtain⟨es,c,h1,h⟩:=h;exact⟨es,c,k.trans h1,h⟩
omit [DecidableEq κ]in
theorem MpS.lt(h:MpS w b l):b<w.heap.size:=by
 obtain⟨es,c,h1,_⟩:=h;exact(Array.getElem?_eq_some_iff.1 h1).1
omit [DecidableEq κ]in
theorem MpS.ext(h:MpS w b l)(k:Ext w w'):MpS w' b l:=h.same (k.block b h.lt)
omit [DecidableEq κ]in
theorem MpS.chg{c:Nat}(h:MpS w b l)(k:Chg c w w')(hne:b≠c):MpS w' b l:=h.same (k.other b hne)
omit [DecidableEq κ]in
theorem MpS.belp{ok:Nat->Prop}{N:Nat}(h:MpS w b l)(k:BelP ok N w w')(hb:b<N)(h1:ok b):MpS w' b l:=h.same (k.block b hb h1)
omit [DecidableEq κ]in
theorem MpS.tak{B:Nat}(h:MpS w b l)(k:Tak B w w'):MpS w' b l:=by
 obtain⟨es,c,h1,h⟩:=h;exact⟨es,c,k.old _ _ h1 nofun,h⟩
omit [DecidableEq κ]in
theorem MpS.asg{B:Nat}(h:MpS w b l)(k:Asg B w w')(hb:b<B):MpS w' b l:=by
 obtain⟨W1,q,o,hl,h1,h2,h3,_,h4⟩:=k;exact(h.ext h1).chg h4 (by omega)
omit [DecidableEq κ]in
theorem Okb.mps{B:Nat}(hb:b<B):Okb B (fun w=>MpS w b l):=⟨fun h k=>h.ext k,fun h hB _ _ k=>h.chg k (by omega)⟩
omit [DecidableEq κ]in
theorem MpS.below{B:Nat}(h:MpS w b l)(k:Below B w w')(hB:b<B):MpS w' b l:=h.same (k.block b hB)
omit [DecidableEq κ]in
end
section
variable {P:Program}{Q:Exit->Act->World->Prop}{n:Nat}{L:Fr}{D:List Deferred}{w:World}{ops:Array Oper}{rest:List Oper}
variable {ty:TypeId}{pos:String}{af:Array Edge}{x y z:Operand}{t tk te:TypeId}
variable {κ ν:Type}[DecidableEq κ][Enc κ][Flat κ][Key κ][Enc ν][Flat ν]
end
end
end Go.Md
end
section
namespace Go.Proofs.YtfmelbioccbdoaaGreat
open Go Go.Md Go.RowKit
attribute [local irreducible] Go.wpList Go.Code.wp Go.Calls Go.Md.gK Go.Md.Mt Go.Md.vN Go.Md.PE Go.Code.wpIn Go.wpListIn

end Go.Proofs.YtfmelbioccbdoaaGreat
end
section
namespace Go.Proofs.YtfmelbioccbdoaaGreat
open Go Go.Md Go.RowKit
attribute [local irreducible] Go.wpList Go.Code.wp Go.Calls Go.Md.gK Go.Md.Mt Go.Md.vN Go.Md.PE Go.Code.wpIn

end Go.Proofs.YtfmelbioccbdoaaGreat
end
section
namespace Go.Proofs.YtfmelbioccbdoaaGreat
open Go Go.Md Go.RowKit
attribute [local irreducible] Go.wpList Go.Code.wp Go.Calls Go.Md.gK Go.Md.Mt Go.Md.vN Go.Md.PE Go.Code.wpIn Go.wpListIn


end Go.Proofs.YtfmelbioccbdoaaGreat
end
section
namespace Go.Md
open Go Go.RowKit
section
section
variable {κ ν:Type}[DecidableEq κ][Enc κ][Flat κ][Key κ][Enc ν][Flat ν]
def Rg(w:World)(r b:Nat)(l:List (κ×ν))(lf:κ->Bool):Prop:=
 ∃es clock seen,w.heap[r]?=some (.mapIter (some b) clock seen clock)/\w.heap[b]?=some (.map es clock)/\es.toList.map (fun e=>(e.key,e.val))=l.map (fun p=>(fv p.1,fv p.2))/\(l.map (·.1)).Nodup/\(∀p∈l,Key.ok p.1=true)/\
  (es.toList.map (·.born)).Nodup/\(∀e∈es.toList,e.born<clock)/\∀(i:Nat)(e:MapEntry)(p:κ×ν),es.toList[i]?=some e->l[i]?=some p->seen.contains e.born=!lf p.1
variable {w w':World}{r b:Nat}{l:List (κ×ν)}{lf:κ->Bool}
omit [DecidableEq κ]in
theorem Rg.mps(h:Rg w r b l lf):MpS w b l:=by
 obtain⟨es,c,s,_,h2,h3,h4,h5,h6,h7,_⟩:=h;exact⟨es,c,h2,h3,h4,h5,h6,h7⟩
omit [DecidableEq κ]in
theorem Rg.same(h:Rg w r b l lf)(k1:w'.heap[r]?=w.heap[r]?)(k2:w'.heap[b]?=w.heap[b]?):Rg w' r b l lf:=by
 obtain⟨es,c,s,h1,h2,h⟩:=h;exact⟨es,c,s,k1.trans h1,k2.trans h2,h⟩
omit [DecidableEq κ]in
theorem Rg.ltr(h:Rg w r b l lf):r<w.heap.size:=by
 obtain⟨es,c,s,h1,_⟩:=h;exact(Array.getElem?_eq_some_iff.1 h1).1
omit [DecidableEq κ]in
theorem Rg.ext(h:Rg w r b l lf)(k:Ext w w'):Rg w' r b l lf:=h.same (k.block r h.ltr) (k.block b h.mps.lt)
omit [DecidableEq κ]in
theorem Rg.chg{c:Nat}(h:Rg w r b l lf)(k:Chg c w w')(h1:r≠c)(h2:b≠c):Rg w' r b l lf:=h.same (k.other r h1) (k.other b h2)
omit [DecidableEq κ]in
end
section
variable {P:Program}{Q:Exit->Act->World->Prop}{n:Nat}{L:Fr}{D:List Deferred}{w:World}{ops:Array Oper}{rest:List Oper}
variable {ty:TypeId}{pos:String}{af:Array Edge}{x y:Operand}{t tk te:TypeId}
variable {κ ν:Type}[DecidableEq κ][Enc κ][Flat κ][Key κ][Enc ν][Flat ν]
omit [DecidableEq κ]in
omit [DecidableEq κ] [Key κ]in
end
end
end Go.Md
end
section
namespace Go.Proofs.YtfmelbioccbdoaaGreat
open Go Go.Md Go.RowKit
attribute [local irreducible] Go.wpList Go.Code.wp Go.Calls Go.Md.gK Go.Md.Mt Go.Md.vN Go.Md.PE Go.Code.wpIn Go.wpListIn
theorem Tb.below{N B:Nat}{w w1:World}{b ma mu:Nat}{x:zQ}(h:Tb N w b ma mu x)(k:Below B w w1)(hB:N<=B):Tb N w1 b ma mu x:=
 h.belp (ok:=fun _=>True) (M:=B) ⟨k.os,k.tape,k.output,k.size,fun q hq _=>k.block q hq⟩ hB (fun _ _ _ _=>trivial)

end Go.Proofs.YtfmelbioccbdoaaGreat
end
section
namespace Go.Proofs.YtfmelbioccbdoaaGreat
open Go Go.Md Go.RowKit


end Go.Proofs.YtfmelbioccbdoaaGreat
end
section
namespace Go.Proofs.YtfmelbioccbdoaaGreat
open Go Go.Md Go.RowKit
attribute [local irreducible] Go.wpList Go.Code.wp Go.Calls Go.Md.gK Go.Md.Mt Go.Md.vN Go.Md.PE Go.Code.wpIn

end Go.Proofs.YtfmelbioccbdoaaGreat
end
section
namespace Go.Proofs.YtfmelbioccbdoaaGreat
open Go Go.Md Go.RowKit
abbrev LLk:=Int×Int
abbrev LPt:=Ar 12 Int
abbrev AMF:=List ((Bool×Int)×Int)
instance:Key (Bool×Int):=⟨fun k=>(Lit.int .i64 k.2).wf⟩
def zC(L:List LLk)(al:Int->Bool)(left:Int):Nat->Nat->List Int
 |0,_=>[]
 |n+1,k=>if(match L[k]? with|some x=>decide (x.1=left)&&al k|none=>false)=true then(k:Int)::zC L al left n (k+1)else zC L al left n (k+1)
def AHW(L:List LLk)(al:Int->Bool)(left:Int):List Int:=zC L al left L.length 0
namespace L5
section
variable {L:List LLk}{al:Int->Bool}
theorem mem_from{left:Int}:∀{n k:Nat}{j:Int},j∈zC L al left n k↔∃i:Nat,j=i/\k<=i/\i<k+n/\∃x,L[i]?=some x/\x.1=left/\al i=true
 |0,k,j=>by
  simp only[zC,List.not_mem_nil,false_iff];rintro⟨i,_,h1,h2,_⟩;omega
 |n+1,k,j=>by
  have ih:=mem_from (left:=left) (n:=n) (k:=k+1) (j:=j);simp only[zC];cases hL:L[k]? with
  |none=>
   simp only[Bool.false_eq_true,if_false];rw[ih];constructor
   ·rintro⟨i,h1,h2,h3,h4⟩;exact⟨i,h1,by omega,by omega,h4⟩
   ·rintro⟨i,h1,h2,h3,x,h4,h5⟩
    refine⟨i,h1,?_,by omega,x,h4,h5⟩;rcases Nat.lt_or_eq_of_le h2 with h|h
    ·omega
    ·rw[<-h,hL]at h4;cases h4
  |some x=>
   by_cases hc:(decide (x.1=left)&&al k)=true
   ·simp only[hc,if_true,List.mem_cons,ih]
    simp only[Bool.and_eq_true,decide_eq_true_eq]at hc;constructor
    ·rintro(h|⟨i,h1,h2,h3,h4⟩)
     ·exact⟨k,h,by omega,by omega,x,hL,hc.1,hc.2⟩
     ·exact⟨i,h1,by omega,by omega,h4⟩
    ·rintro⟨i,h1,h2,h3,h4⟩
     rcases Nat.lt_or_eq_of_le h2 with h|h
     ·exact .inr ⟨i,h1,by omega,by omega,h4⟩
     ·exact .inl (by rw[h1,h])
   ·simp only[hc,if_false,ih,Bool.false_eq_true]
    simp only[Bool.and_eq_true,decide_eq_true_eq,not_and]at hc;constructor
    ·rintro⟨i,h1,h2,h3,h4⟩;exact⟨i,h1,by omega,by omega,h4⟩
    ·rintro⟨i,h1,h2,h3,y,h4,h5,h6⟩
     refine⟨i,h1,?_,by omega,y,h4,h5,h6⟩;rcases Nat.lt_or_eq_of_le h2 with h|h
     ·omega
     ·subst h
      rw[hL]at h4;cases h4;exact absurd h6 (by simpa using hc h5)
def pa(P:LPt)(r:Nat):Int:=P.l.getD r 0
def sn(S:AMF)(r:Nat):Prop:=AAI 0 S (true,(r:Int))=1
instance {S:AMF}{r:Nat}:Decidable (sn S r):=inferInstanceAs (Decidable (_=_))
def lf(L:List LLk)(P:LPt)(r:Nat):Option Int:=if pa P r=0 then none else(L[(pa P r-1).toNat]?).map (·.1)
def mc(P:LPt):Nat:=(List.range 12).countP fun r=>decide (pa P r≠0)
def un(S:AMF):Nat:=(List.range 12).countP fun r=>decide (¬sn S r)
end
end L5
end Go.Proofs.YtfmelbioccbdoaaGreat
end
section
namespace Go.Proofs.YtfmelbioccbdoaaGreat
open Go Go.Md Go.RowKit

end Go.Proofs.YtfmelbioccbdoaaGreat
end
section
namespace Go.Proofs.YtfmelbioccbdoaaGreat
open Go Go.Md Go.RowKit
attribute [local irreducible] Go.wpList Go.Code.wp Go.Calls Go.Md.gK Go.Md.Mt Go.Md.vN Go.Md.PE Go.Code.wpIn Go.wpListIn
section
theorem AHX(l1 l2 vs:List Value)(o:Nat):Md.iW (l1++l2) (l1.length+o) vs=l1++Md.iW l2 o vs:=by
 unfold Md.iW;rw[List.take_append,List.drop_append,List.take_of_length_le (by omega),List.drop_of_length_le (l:=l1) (by omega),show l1.length+o-l1.length=o by omega,show l1.length+o+vs.length-l1.length=o+vs.length by omega];simp[List.append_assoc]
def AIx(n mm:Int)(a1:Option Addr)(c1:Nat)(kv:Value)(L:List LLk):List Value:=[.int .i64 n,.int .i64 mm,.slice a1 L.length c1,kv]++List.replicate 24 (.int .i64 0)
def ADG(n mm:Int)(a1:Option Addr)(c1:Nat)(kv:Value)(L:List LLk)(P:LPt):List Value:=AIx n mm a1 c1 kv L++P.l.flatMap Flat.enc
theorem AIS{n mm:Int}{a1:Option Addr}{c1:Nat}{kv:Value}{L:List LLk}:(AIx n mm a1 c1 kv L).length=28:=rfl
theorem AMG{n mm:Int}{a1:Option Addr}{c1:Nat}{kv:Value}{L:List LLk}{P:LPt}{r v:Int}(h0:0<=r)(h1:r<12):Md.iW (ADG n mm a1 c1 kv L P) (28+r.toNat) [.int .i64 v]=ADG n mm a1 c1 kv L (vZ P r v):=by
 have hP:P.l.length=12:=P.h;have e2:(vZ P r v).l.flatMap Flat.enc=Md.iW (P.l.flatMap Flat.enc) (r.toNat*Enc.n Int) (Flat.enc v):=(ADV P.l r.toNat v (by omega)).symm;have n2:Enc.n Int=1:=rfl;have h3:(Flat.enc v:List Value)=[.int .i64 v]:=rfl;unfold ADG;rw[<-AIS (n:=n) (mm:=mm) (a1:=a1) (c1:=c1) (kv:=kv) (L:=L),AHX,e2,n2,Nat.mul_one,h3]
structure Jnm(N:Nat)(w:World)(b:Nat)(n mm:Int)(a1:Option Addr)(c1:Nat)(kv:Value)(L:List LLk)(P:LPt):Prop where
 size:N<=w.heap.size
 lb:b<N
 bx:Bx w b 241 (ADG n mm a1 c1 kv L P)
 rv:RVo (fun q=>q<N/\q≠b) w (.slice a1 L.length c1) L
 kn:∃a2 c2,kv=.slice a2 0 c2/\c2<=maxLen
section
variable {N:Nat}{w w':World}{b:Nat}{n mm:Int}{a1:Option Addr}{c1:Nat}{kv:Value}{L:List LLk}{P P':LPt}
theorem Jnm.ext(h:Jnm N w b n mm a1 c1 kv L P)(k:Ext w w'):Jnm N w' b n mm a1 c1 kv L P:=⟨Nat.le_trans h.size k.size,h.lb,h.bx.ext k,h.rv.ext k,h.kn⟩
theorem Jnm.keep(h:Jnm N w b n mm a1 c1 kv L P)(k:BelP (fun q=>q≠b) N w w')(hb:Bx w' b 241 (ADG n mm a1 c1 kv L P')):Jnm N w' b n mm a1 c1 kv L P':=
 ⟨Nat.le_trans h.size k.size,h.lb,hb,h.rv.keep (fun q hq _=>k.block q hq.1 hq.2) k.size,h.kn⟩
theorem Jnm.chg{l:Nat}(h:Jnm N w b n mm a1 c1 kv L P)(k:Chg l w w')(hl:N<=l):Jnm N w' b n mm a1 c1 kv L P:=by
 have hb:=h.lb;exact⟨by rw[k.size];exact h.size,h.lb,h.bx.chg k (by omega),h.rv.chg k (by omega),h.kn⟩
theorem Jnm.part(h:Jnm N w b n mm a1 c1 kv L P):Cs w b 28 (P.l.flatMap Flat.enc):=by
 have:=(Bx.cs h.bx).snd (l1:=AIx n mm a1 c1 kv L);rwa [AIS]at this
theorem Jnm.set{v r:Int}(h:Jnm N w b n mm a1 c1 kv L P)(h0:0<=r)(h1:r<12)(k:Chg b w w')(hb:Bx w' b 241 (Md.iW (ADG n mm a1 c1 kv L P) (28+r.toNat) [.int .i64 v])):Jnm N w' b n mm a1 c1 kv L (vZ P r v):=by
 rw[AMG h0 h1]at hb;exact h.keep (BelP.refl.chg k (.inr fun e=>e rfl)) hb
theorem Jnm.tak{B:Nat}(h:Jnm N w b n mm a1 c1 kv L P)(k:Tak B w w')(hB:N<=B):Jnm N w' b n mm a1 c1 kv L P:=by
 have hb:=h.lb;exact⟨by rw[k.size];exact h.size,h.lb,(k.low b (by omega)).trans h.bx,h.rv.keep (fun q hq _=>k.low q (by omega)) (by rw[k.size];exact Nat.le_refl _),h.kn⟩
def JE(N b:Nat)(n mm:Int)(a1:Option Addr)(c1:Nat)(kv:Value)(L:List LLk)(w:World):Prop:=∃P,Jnm N w b n mm a1 c1 kv L P
def KpJ(N b:Nat)(n mm:Int)(a1:Option Addr)(c1:Nat)(kv:Value)(L:List LLk)(ok:Nat->Prop)(B:Nat)(A C:World):Prop:=BelP ok B A C/\(JE N b n mm a1 c1 kv L A->JE N b n mm a1 c1 kv L C)
def Al(N:Nat)(w0:World)(b:Nat)(n mm:Int)(a1:Option Addr)(c1:Nat)(kv:Value)(L:List LLk)(v:Value)(p:Int->Bool):Prop:=
 ∃(g:FuncId)(fs cs:List Value),v=.func (.func g) (List.toArray fs) (List.toArray cs)/\Ad Tryz.prog g/\∀W P(k:Nat),BelP (fun q=>q≠b) N w0 W->Jnm N W b n mm a1 c1 kv L P->k<L.length->
  Calls Tryz.prog g (fs++([.int .i64 (k:Int)]:List Value)++cs).toArray W (IA fun r W'=>r=.bool (p k)/\Ext W W')
theorem Al.keep{v:Value}{p:Int->Bool}(h:Al N w b n mm a1 c1 kv L v p)(k:BelP (fun q=>q≠b) N w w'):Al N w' b n mm a1 c1 kv L v p:=
 let⟨g,fs,cs,e,c,h⟩:=h
 ⟨g,fs,cs,e,c,fun W P j h1=>h W P j (k.trans h1)⟩
end
set_option maxHeartbeats 2000000 in
theorem ARI{m:Nat}{N:Nat}{w:World}{bj bl bf b:Nat}{n mm:Int}{a1:Option Addr}{c1:Nat}{kv:Value}{L:List LLk}{P:LPt}{v:Value}{al:Int->Bool}{left:Int}{ok:Nat->Prop}
  (h1:Bx w bj 233 [.pointer (some ⟨b,0,none⟩)]) (h2:Bx w bl 3 [.int .i64 left]) (h3:Bx w bf 236 [v]) (n1:ok bj) (n2:ok bl) (n3:ok bf) (hJn:Jnm N w b n mm a1 c1 kv L P) (hA:Al N w b n mm a1 c1 kv L v al) (hok:∀q,q<N->q≠b->ok q):
  AB6 Tryz.prog (KpJ N b n mm a1 c1 kv L ok w.heap.size) m 318 #[.pointer (some ⟨bj,0,none⟩),.pointer (some ⟨bl,0,none⟩),.pointer (some ⟨bf,0,none⟩)] ((AHW L al left).map fun k=>#[fv k]) w:=by
 intro ll J Jx W kW hJ hJx hY h0;have d1:=h1.ext kW;have JW:=hJn.ext kW;have hN:=hJn.size;have hNW:w.heap.size<=W.heap.size:=kW.size;refine(callsIn_wide.2 ?_:CallsIn Fence.wide m Tryz.prog 318 ([.func (.yield ll) #[] #[],.pointer (some ⟨bj,0,none⟩),.pointer (some ⟨bl,0,none⟩),.pointer (some ⟨bf,0,none⟩)].toArray) W _);refine Calls.mono (R:=IA fun v W'=>J ((AHW L al left).map fun x=>#[fv x]).length W'\/Jx W') ?_ ?_
 rotate_left
 ·rintro e W'⟨v,rfl,h⟩
  exact⟨⟨v,rfl⟩,h⟩
 have hcap:=(RVo.rv hJn.rv).cap;refine I9 (n:=34) Tryz.func318 rfl rfl rfl<|Zr<|Zv (AP rfl ARm ((Bx.cs d1).at 0 rfl))<|Zv (tX rfl)<|Zv (BA rfl APd)<|Zv (BA rfl APa)<|Zv (AP rfl ARi ((Bx.cs JW.bx).at 2 rfl))<|Zv (Kz rfl Tryz.underlying108)<|Zm<|nl<|wp_block<|lp (I:=fun m' L' w1=>∃(k:Nat)(pre:List Int),k+m'=L.length/\AHW L al left=pre++zC L al left m' k/\L' 13=.int .i64 (k:Int)/\L' 12=.int .i64 (L.length:Int)/\L' 11=.slice a1 L.length c1/\L' 0=.func (.yield ll) #[] #[]/\L' 2=.pointer (some ⟨bl,0,none⟩)/\L' 3=.pointer (some ⟨bf,0,none⟩)/\J pre.length w1/\KpJ N b n mm a1 c1 kv L ok w.heap.size W w1) L.length
  ⟨0,[],by simp,rfl,rfl,rfl,rfl,rfl,rfl,rfl,h0,BelP.refl,id⟩ ?_
 rintro m' L' w1⟨k,pre,hk,hl,l13,l12,l11,l0,l2,l3,hj,hx,hje⟩;refine Zr<|Zv (Oi l13 l12)<|nl<|wp_seq<|cnd rfl (fun hc=>?_) (fun hc=>?_)
 ·have hc:(k:Int)<(L.length:Int):=by simpa using hc
  have hkl:k<L.length:=by omega
  obtain⟨m'',rfl⟩:∃q,m'=q+1:=⟨m'-1,by omega⟩;have hg:L[k]?=some L[k]:=List.getElem?_eq_getElem hkl;have hix:ix L (k:Int)=some L[k]:=by simp[ix,hg]
  obtain⟨P1,J1⟩:=hje ⟨P,JW⟩;have hz:=(RVo.sl.1 J1.rv);obtain⟨a2',c2',e3,_,_,els⟩:=hz;cases e3;have hz:=Els.ix els hix;obtain⟨b5,off5,cs5,rfl,i1,i2,q5,hcE⟩:=hz;obtain rfl:=Flat.iff.1 q5;have hadd:BH ((k:Int)+1)=((k+1:Nat):Int):=by
   rw[BH,IntWalk.i64_in _ (by unfold maxLen at hcap;omega)]
   rfl
  refine wp_skip<|wp_seq<|wp_block<|Zr<|Zv (FY l13)<|Zv (Dq l11 l13 Tryz.underlying108 AIk i1 i2)<|Zv (Jq rfl AIk rfl hcE)<|yY AIk fun b6 w2 hx2 hg2 hb2=>Za<|xk rfl rfl rfl AIk hb2 rfl rfl (ble rfl) fun w3 hch3 hb3=>?_;have kx3:Ext w1 w3:=hx2.chg hch3 hg2;have hj3:J pre.length w3:=hJ _ _ _ hj kx3;have hx3:=hx.ext kx3 (Nat.le_trans hNW hx.size);have J3:=J1.ext kx3;have d2:=((h2.ext kW).belp hx (by have:=h2.lt;omega) n2).ext kx3;have d3:=((h3.ext kW).belp hx (by have:=h3.lt;omega) n3).ext kx3;have hb3':Bx w3 b6 112 (Flat.enc L[k]):=hb3;have kA:BelP (fun q=>q≠b) N w w3:=(BelP.of kW hN).trans (hx3.weak fun q h4 h5=>⟨by omega,hok q h4 h5⟩);refine nl<|wp_seq<|rgW (m:=m)<|Ko rfl rfl nofun (BA rfl APb)<|Ko rfl rfl nofun (AP rfl Ap ((Bx.cs hb3').at 0 rfl))<|Ko rfl rfl nofun (AP l2 Ap ((Bx.cs d2).at 0 rfl))<|Ko rfl rfl nofun (zL rfl rfl)<|Ko rfl rfl nofun Zk<|Or.elim (Bool.eq_false_or_eq_true (decide (L[k].1=left))) (fun hf0=>?_) (fun hf0=>?_)
  ·refine xq rfl rfl rfl rfl rfl (Md.bt hf0)<|Ko rfl rfl nofun (AP l3 AGC ((Bx.cs d3).at 0 rfl))<|xq rfl rfl rfl rfl rfl (Md.bt hf0)<|Ko rfl rfl nofun (FY rfl)<|xq rfl rfl rfl rfl rfl (Md.bt hf0)<|?_
   obtain⟨g,fs,cs,hv,hcb,hcall⟩:=hA;refine clW rfl rfl nofun (xcv (fs:=fs) (cs:=cs) hv hcb (mc rfl mn) rfl) (hcall w3 P1 k kA J3 hkl) ?_;rintro _ w4⟨rfl,hx4⟩;have hj4:=hJ _ _ _ hj3 hx4;have hx4':=hx3.ext hx4 (Nat.le_trans hNW (Nat.le_trans hx.size kx3.size));have J4:=J3.ext hx4;refine Ko rfl rfl nofun (wI rfl hf0 rfl)<|Ko rfl rfl nofun Zk<|Or.elim (Bool.eq_false_or_eq_true (al k)) (fun hf1=>?_) (fun hf1=>?_)
   ·have hfr:zC L al left (m''+1) k=(k:Int)::zC L al left m'' (k+1):=by
     simp only[zC,hg,hf1,hf0,Bool.and_self,if_true]
    have hus:((AHW L al left).map fun u=>(#[fv u]:Array Value))[pre.length]?=some #[fv (k:Int)]:=by
     rw[List.getElem?_map,hl,List.getElem?_append_right (Nat.le_refl _),Nat.sub_self,hfr]
     rfl
    have hz:=hY pre.length #[fv (k:Int)] w4 hus hj4;obtain⟨fn,tmps,assign,body,hy,hR⟩:=hz;refine xq rfl rfl rfl rfl rfl (Md.bt hf1)<|Ko rfl rfl nofun (FY l0)<|xq rfl rfl rfl rfl rfl (Md.bt hf1)<|Ko rfl rfl nofun (FY rfl)<|xq rfl rfl rfl rfl rfl (Md.bt hf1)<|ylW rfl rfl nofun (xyl rfl (mc rfl mn) hy) hR fun e w5 he=>?_;rcases he with⟨rfl,hj5,k5⟩|⟨rfl,hj5⟩
    ·refine⟨_,rfl,xq rfl rfl rfl rfl rfl (Md.bt hf1)<|Ko rfl rfl nofun (wP rfl)<|Ko rfl rfl nofun (wI rfl hf1 rfl)<|nlW<|cnd rfl (fun h=>by cases h) (fun _=>wp_skip<|rg<|Zv (FH l13 rfl)<|Zm<|nl ?_)⟩
     refine lq m'' (by omega) ⟨k+1,pre++[(k:Int)],by omega,by rw[hl,hfr,List.append_assoc];rfl,congrArg _ hadd,l12,l11,l0,l2,l3,?_,hx4'.trans k5.1,fun _=>k5.2 ⟨P1,J4⟩⟩;rw[List.length_append];exact hj5
    ·refine⟨_,rfl,xq rfl rfl rfl rfl rfl (Md.bt hf1)<|Ko rfl rfl nofun (wP rfl)<|Ko rfl rfl nofun (wI rfl hf1 rfl)<|nlW<|cnd rfl (fun _=>?_) (fun h=>by cases h)⟩
     exact wp_ret<|rt rfl .nil (.inr hj5)
   ·have hfr:zC L al left (m''+1) k=zC L al left m'' (k+1):=by
     simp only[zC,hg,hf1,hf0,Bool.and_false,if_false,Bool.false_eq_true]
    refine gfW rfl rfl rfl rfl rfl (Gi hf1) rfl<|gfW rfl rfl rfl rfl rfl (Gi hf1) rfl<|gfW rfl rfl rfl rfl rfl (Gi hf1) rfl<|gfW rfl rfl rfl rfl rfl (Gi hf1) rfl<|Ko rfl rfl nofun (yH rfl hf1 rfl)<|nlW<|cnd rfl (fun h=>by cases h) (fun _=>?_);refine wp_skip<|rg<|Zv (FH l13 rfl)<|Zm<|nl ?_;exact lq m'' (by omega) ⟨k+1,pre,by omega,by rw[hl,hfr],congrArg _ hadd,l12,l11,l0,l2,l3,hj4,hx4',fun _=>⟨P1,J4⟩⟩
  ·have hfr:zC L al left (m''+1) k=zC L al left m'' (k+1):=by
    simp only[zC,hg,hf0,Bool.false_and,if_false,Bool.false_eq_true]
   refine gfW rfl rfl rfl rfl rfl (Gi hf0) rfl<|gfW rfl rfl rfl rfl rfl (Gi hf0) rfl<|gfW rfl rfl rfl rfl rfl (Gi hf0) rfl<|Ko rfl rfl nofun (yH rfl hf0 rfl)<|Ko rfl rfl nofun Zk<|gfW rfl rfl rfl rfl rfl (Gi rfl) rfl<|gfW rfl rfl rfl rfl rfl (Gi rfl) rfl<|gfW rfl rfl rfl rfl rfl (Gi rfl) rfl<|gfW rfl rfl rfl rfl rfl (Gi rfl) rfl<|Ko rfl rfl nofun (yH rfl rfl rfl)<|nlW<|cnd rfl (fun h=>by cases h) (fun _=>?_);refine wp_skip<|rg<|Zv (FH l13 rfl)<|Zm<|nl ?_;exact lq m'' (by omega) ⟨k+1,pre,by omega,by rw[hl,hfr],congrArg _ hadd,l12,l11,l0,l2,l3,hj3,hx3,fun _=>⟨P1,J3⟩⟩
 ·have hc:¬(k:Int)<(L.length:Int):=by simpa using hc
  obtain rfl:m'=0:=by omega
  refine wp_exit<|rtn rfl .nil (.inl ?_);rw[List.length_map,hl];simp only[zC,List.append_nil];exact hj
def LkV(lo:Nat)(w:World)(u:Value)(b:Nat)(left:Int)(v:Value):Prop:=∃bj bl bf,u=.func (.func 318) #[] #[.pointer (some ⟨bj,0,none⟩),.pointer (some ⟨bl,0,none⟩),.pointer (some ⟨bf,0,none⟩)]/\
 Bx w bj 233 [.pointer (some ⟨b,0,none⟩)]/\Bx w bl 3 [.int .i64 left]/\Bx w bf 236 [v]/\lo<=bj/\lo<=bl/\lo<=bf
theorem LkV.go{lo N:Nat}{w:World}{u v:Value}{b:Nat}{n mm:Int}{a1:Option Addr}{c1:Nat}{kv:Value}{L:List LLk}{P:LPt}{al:Int->Bool}{left:Int}{ok:Nat->Prop}(h:LkV lo w u b left v)(hJn:Jnm N w b n mm a1 c1 kv L P)(hA:Al N w b n mm a1 c1 kv L v al)(hok:∀q,q<N->q≠b->ok q)(hlo:∀q,lo<=q->ok q)(m:Nat):
  ∃gf cs,u=.func (.func gf) #[] cs/\Ad Tryz.prog gf/\AB6 Tryz.prog (KpJ N b n mm a1 c1 kv L ok w.heap.size) m gf cs ((AHW L al left).map fun k=>#[fv k]) w:=by
 obtain⟨bj,bl,bf,rfl,h1,h2,h3,h4,h5,h6⟩:=h;exact⟨318,_,rfl,ASU,ARI h1 h2 h3 (hlo _ h4) (hlo _ h5) (hlo _ h6) hJn hA hok⟩
end
end Go.Proofs.YtfmelbioccbdoaaGreat
end
section
namespace Go.Md
open Go Go.RowKit
section
variable {κ ν:Type}[DecidableEq κ][Enc κ][Flat κ][Key κ][Enc ν][Flat ν]{w w':World}{P:Program}{t tk te:TypeId}
end
section
variable {P:Program}{Q:Exit->Act->World->Prop}{n:Nat}{L:Fr}{D:List Deferred}{w:World}{ops:Array Oper}{rest:List Oper}
variable {ty:TypeId}{pos:String}{af:Array Edge}{x y z:Operand}{t tk te:TypeId}
variable {κ ν:Type}[DecidableEq κ][Enc κ][Flat κ][Key κ][Enc ν][Flat ν]
end
end Go.Md
namespace Go.Proofs.YtfmelbioccbdoaaGreat
open Go Go.Md Go.RowKit
attribute [local irreducible] Go.wpList Go.Code.wp Go.Calls Go.Md.gK Go.Md.Mt Go.Md.vN Go.Md.PE Go.Code.wpIn Go.wpListIn
theorem Jnm.asg{N B:Nat}{w w':World}{b:Nat}{n mm:Int}{a1:Option Addr}{c1:Nat}{kv:Value}{L:List LLk}{P:LPt}(h:Jnm N w b n mm a1 c1 kv L P)(k:Asg B w w')(hB:N<=B):Jnm N w' b n mm a1 c1 kv L P:=by
 obtain⟨W1,l,o,h1,h2,_,_,_,h3⟩:=k;exact(h.ext h2).chg h3 (by omega)
theorem Bx.isc{w:World}{b:Nat}{T:TypeId}{cs:List Value}(h:Bx w b T cs):∃o:Obj,w.heap[b]?=some o/\o.isCells=true:=⟨_,h,rfl⟩
end Go.Proofs.YtfmelbioccbdoaaGreat
end
section
namespace Go.Proofs.YtfmelbioccbdoaaGreat
open Go Go.Md Go.RowKit
attribute [local irreducible] Go.wpList Go.Code.wp Go.Calls Go.Md.gK Go.Md.Mt Go.Md.vN Go.Md.PE Go.Code.wpIn Go.wpListIn

section
abbrev ANC:=Int×Int×List LLk×List Int
def VLk(L:List LLk):Prop:=L.length<=1000/\∀x∈L,(0<=x.2/\x.2<12)/\0<=x.1/\x.1<12
instance {L:List LLk}:Decidable (VLk L):=inferInstanceAs (Decidable (_/\_))
theorem AFw{B:Nat}{w w1 w2:World}(h:Ext w w1)(k:Below B w1 w2)(hB:w.heap.size<=B):Ext w w2:=
 ⟨k.os.trans h.os,k.tape.trans h.tape,k.output.trans h.output,Nat.le_trans h.size k.size,fun q hq=>(k.block q (by omega)).trans (h.block q hq)⟩
section
variable {N M:Nat}{w w':World}{b:Nat}{n mm:Int}{a1:Option Addr}{c1:Nat}{kv:Value}{L:List LLk}{P P':LPt}
theorem Jnm.mono(h:Jnm N w b n mm a1 c1 kv L P)(h1:N<=M)(h2:M<=w.heap.size):Jnm M w b n mm a1 c1 kv L P:=⟨h2,by have:=h.lb;omega,h.bx,h.rv.mono fun q _ hq=>⟨by omega,hq.2⟩,h.kn⟩
theorem Jnm.rep(h:Jnm N w b n mm a1 c1 kv L P):Enc.rep (fun _=>True) w (ADG n mm a1 c1 kv L P) ((((n,mm,L,[]):ANC),(Ar.fill 2 (Ar.fill 12 0)),P):ANC×Ar 2 (Ar 12 Int)×Ar 12 Int):=by
 obtain⟨a,cc,e,h3,h4,h5⟩:=RVo.sl.1 (RVo.rv h.rv);cases e;obtain⟨a2,c2,rfl,h6⟩:=h.kn;refine⟨[.int .i64 n,.int .i64 mm,.slice a1 L.length c1,.slice a2 0 c2],List.replicate 24 (.int .i64 0)++P.l.flatMap Flat.enc,by unfold ADG AIx;rw[List.append_assoc],?_,?_⟩
 ·exact⟨[.int .i64 n],[.int .i64 mm]++([.slice a1 L.length c1]++[.slice a2 0 c2]),rfl,rfl,[.int .i64 mm],[.slice a1 L.length c1]++[.slice a2 0 c2],rfl,rfl,[.slice a1 L.length c1],[.slice a2 0 c2],rfl,⟨a1,c1,rfl,h3,h4,h5⟩,a2,c2,rfl,Nat.zero_le _,h6,.inl rfl⟩
 ·exact⟨List.replicate 24 (.int .i64 0),P.l.flatMap Flat.enc,rfl,rfl,rfl⟩
end
theorem APv{F:Nat}{x:Int}(hF:0<F):slices_Contains_int F [] x=some false:=by
 obtain⟨F,rfl⟩:∃g,F=g+1:=⟨F-1,by omega⟩
 rfl
end
end Go.Proofs.YtfmelbioccbdoaaGreat
end
section
namespace Go.Md
open Go Go.RowKit
section
variable {P:Program}{n:Nat}{L:Fr}{w:World}{ty:TypeId}{pos:String}{af:Array Edge}{dst:Option Nat}{gdd:Option (Nat×Bool)}{x z:Operand}
end
end Go.Md
namespace Go.Proofs.YtfmelbioccbdoaaGreat
open Go Go.Md Go.RowKit
attribute [local irreducible] Go.wpList Go.Code.wp Go.Calls Go.Md.gK Go.Md.Mt Go.Md.vN Go.Md.PE Go.Code.wpIn
end Go.Proofs.YtfmelbioccbdoaaGreat
end
section
namespace Go.Proofs.YtfmelbioccbdoaaGreat
open Go Go.Md Go.RowKit
attribute [local irreducible] Go.wpList Go.Code.wp Go.Calls Go.Md.gK Go.Md.Mt Go.Md.vN Go.Md.PE Go.Code.wpIn


end Go.Proofs.YtfmelbioccbdoaaGreat
end
section
namespace Go.Proofs.YtfmelbioccbdoaaGreat
open Go Go.Md Go.RowKit


end Go.Proofs.YtfmelbioccbdoaaGreat
end
section
namespace Go.Proofs.YtfmelbioccbdoaaGreat
open Go Go.Md Go.RowKit
attribute [local irreducible] Go.wpList Go.Code.wp Go.Calls Go.Md.gK Go.Md.Mt Go.Md.vN Go.Md.PE Go.Code.wpIn Go.wpListIn


end Go.Proofs.YtfmelbioccbdoaaGreat
end
section
namespace Go.Proofs.YtfmelbioccbdoaaGreat
open Go Go.Md Go.RowKit
attribute [local irreducible] Go.wpList Go.Code.wp Go.Calls Go.Md.gK Go.Md.Mt Go.Md.vN Go.Md.PE Go.Code.wpIn

end Go.Proofs.YtfmelbioccbdoaaGreat
end
section
namespace Go.Md
open Go Go.RowKit
section
section
variable {α:Type}[Enc α]{lo base:Nat}{e:TypeId}{w:World}{l:List α}
theorem DRowO.el{a:Option Addr}{m cap:Nat}(h:DRowO lo e base w (.slice a m cap) l){i:Int}{x:α}(hi:ix l i=some x):
  ∃b off cs,a=some ⟨b,off,none⟩/\0<=i/\i<l.length/\Enc.rep (fun _=>True) w cs x/\Cs w b (off+i.toNat*Enc.n α) cs/\Enc.rep (fun q=>q<lo) w cs x:=by
 obtain⟨S,h1,h2,h3⟩:=h;obtain⟨h0,hlt,hx⟩:=vX hi;have hs:i.toNat<S.length:=by omega
 have e1:S[i.toNat]?=some S[i.toNat]:=List.getElem?_eq_getElem hs;obtain⟨b,off,cs,e2,-,-,c1,c2⟩:=(RV.els h1.rv).ix (i:=i) (x:=S[i.toNat]) (by unfold ix;rw[if_pos h0,e1]);have c1':cs=S[i.toNat].l:=c1;subst c1';have h4:=h3 _ _ _ e1 hx;exact⟨b,off,_,e2,h0,hlt,Enc.mono (fun _ _ _=>trivial) h4,c2,Enc.mono (fun _ _ hq=>hq.1) h4⟩
end
end
end Go.Md
end
section
namespace Go.Proofs.YtfmelbioccbdoaaGreat
open Go Go.Md Go.RowKit
attribute [local irreducible] Go.wpList Go.Code.wp Go.Calls Go.Md.gK Go.Md.Mt Go.Md.vN Go.Md.PE Go.Code.wpIn


end Go.Proofs.YtfmelbioccbdoaaGreat
end
section
namespace Go.Proofs.YtfmelbioccbdoaaGreat
open Go Go.Md Go.RowKit

def zF(F:Nat)(x0:Int)(x3:(List Int)):Nat->Int->Int->Option (Sum Bool (Unit))
 |0,_,_=>none
 |m+1,y2,y3=>
  if(decide (y3<(x3.length:Int)))=true then
   (ix x3 y3)>>=fun x4=>
   if((decide (x4<=y2))||(decide (x0<=x4)))=true then
    some (.inl false)
   else
    zF F x0 x3 m x4 (BH (y3+1))
  else
   some (.inr ())
def zH(F:Nat)(x0:Int)(x1:(List (List Int))):Nat->Int->Option (Sum Bool (Unit))
 |0,_=>none
 |m+1,y1=>
  if(decide (y1<(x1.length:Int)))=true then
   (ix x1 y1)>>=fun x3=>
   ((zF F x0 x3 F (-1) 0)>>=fun o=>match o with
    |.inl r=>some (.inl r)
    |.inr ()=>
     zH F x0 x1 m (BH (y1+1)))
  else
   some (.inr ())
def ABD(F:Nat)(x0:Int)(x1:(List (List Int))):Option Bool:=
 ((zH F x0 x1 F 0)>>=fun o=>match o with
  |.inl r=>some r
  |.inr ()=>
   some true)
def AAs(x0:Int)(x1:(Int×(List (Int×Int×Int))×(List Int)×(List Int))):Option Bool:=
 some ((decide (0<=x0))&&(decide (x0<x1.1)))
def ABX(x0:(Int×Int×Int))(x1:(Int->Option Bool)):Option Bool:=
 (((x1 x0.1)>>=fun x5=>
 if(!x5)=true then
  if true=true then
   some true
  else
   if(decide (x0.1=x0.2.1))=true then
    some (decide (1000000<x0.2.2))
   else
    if(decide (x0.2.2<1))=true then
     some true
    else
     some (decide (1000000<x0.2.2))
 else
  (x1 x0.2.1)>>=fun x6=>
  if(!x6)=true then
   if true=true then
    some true
   else
    if(decide (x0.2.2<1))=true then
     some true
    else
     some (decide (1000000<x0.2.2))
  else
   if(decide (x0.1=x0.2.1))=true then
    if true=true then
     some true
    else
     some (decide (1000000<x0.2.2))
   else
    if(decide (x0.2.2<1))=true then
     some true
    else
     some (decide (1000000<x0.2.2)):Option (Bool))>>=fun y1=>
 some y1)
def ADH(x0:(List Int)):Option Bool:=
 some ((decide (0<(x0.length:Int)))&&(decide ((x0.length:Int)<=10)))
def Pv(F:Nat)(x0:(List (Int×Int×Int)))(x1:((Int×Int×Int)->Option Bool)):Nat->Int->Option (Sum Int (Unit))
 |0,_=>none
 |m+1,y1=>
  if(decide (y1<(x0.length:Int)))=true then
   (ix x0 y1)>>=fun x3=>
   (x1 (x3.1,x3.2.1,x3.2.2))>>=fun x4=>
   if x4=true then
    some (.inl y1)
   else
    Pv F x0 x1 m (BH (y1+1))
  else
   some (.inr ())
def xf(F:Nat)(x0:(List (Int×Int×Int)))(x1:((Int×Int×Int)->Option Bool)):Option Int:=
 ((Pv F x0 x1 F 0)>>=fun o=>match o with
  |.inl r=>some r
  |.inr ()=>
   some (-1))
def vO(F:Nat)(x0:(List (Int×Int×Int)))(x1:((Int×Int×Int)->Option Bool)):Option Bool:=
 (xf F x0 x1)>>=fun x3=>
 some (decide (0<=x3))
def ABY(F:Nat)(x0:Int)(x1:(Int×(List (Int×Int×Int))×(List Int)×(List Int))):Option Bool:=
 (slices_Contains_int F x1.2.2.2 x0)>>=fun x3=>
 some x3
def AAC(F:Nat)(x0:(Int×(List (Int×Int×Int))×(List Int)×(List Int))):Option Int:=
 (gd (!(((decide (x0.1<2))||(decide (40<x0.1)))||(decide (120<(x0.2.1.length:Int))))) (ADH x0.2.2.1) false)>>=fun x2=>
 (gd (!((((decide (x0.1<2))||(decide (40<x0.1)))||(decide (120<(x0.2.1.length:Int))))||(!x2))) (ADH x0.2.2.2) false)>>=fun x3=>
 if(((((decide (x0.1<2))||(decide (40<x0.1)))||(decide (120<(x0.2.1.length:Int))))||(!x2))||(!x3))=true then
  some 6
 else
  (vO F x0.2.1 (fun y=>ABX y (fun y=>AAs y (x0.1,x0.2.1,x0.2.2.1,x0.2.2.2))))>>=fun x4=>
  if x4=true then
   some 2
  else
   (ABD F x0.1 ([x0.2.2.1,x0.2.2.2]:List (List Int)))>>=fun x5=>
   if(!x5)=true then
    some 3
   else
    (kR F x0.2.2.1 (fun y=>ABY F y (x0.1,x0.2.1,x0.2.2.1,x0.2.2.2)))>>=fun x6=>
    if x6=true then
     some 21
    else
     some 0
end Go.Proofs.YtfmelbioccbdoaaGreat
end
section
namespace Go.Proofs.YtfmelbioccbdoaaGreat
open Go Go.Md Go.RowKit
attribute [local irreducible] Go.wpList Go.Code.wp Go.Calls Go.Md.gK Go.Md.Mt Go.Md.vN Go.Md.PE Go.Code.wpIn



theorem c15{w0:World}{F:Nat}{r:Bool}(hF:AEd F=some r):
  Calls Tryz.prog 15 [].toArray w0 (IA fun v w'=>v=.bool r/\Ext w0 w'):=by
 unfold AEd at hF;refine I9 (n:=8) Tryz.func15 rfl rfl rfl<|Zr<|Za<|nl<|Zr<|bS hF fun x1 Ex1 hF=>Zc (xc ATc mn) (AUB Ex1) ?_;rintro _ w1⟨rfl,hx1⟩;refine Zm<|bS hF fun x2 Ex2 hF=>gc rfl rfl rfl rfl (xB rfl) rfl (fun hc=>xc ATd mn) (fun hc=>(AUC (gdp Ex2 hc))) (fun v1 w2 hy1 hn1=>?_);have hx2:Ext w1 w2:=gx (fun h=>(hy1 h).2) (fun h=>(hn1 h).2▸Ext.refl _);have e1:=mkw (fun h=>(hy1 h).1) (fun h=>(hn1 h).1);have k1:=hx1.tr hx2;refine Zv (xpa rfl e1 rfl)<|Zm<|bS hF fun x3 Ex3 hF=>gc rfl rfl rfl rfl (xB rfl) rfl (fun hc=>xc ATe mn) (fun hc=>(AUD (gdp Ex3 hc))) (fun v2 w3 hy2 hn2=>?_);have hx3:Ext w2 w3:=gx (fun h=>(hy2 h).2) (fun h=>(hn2 h).2▸Ext.refl _);have e2:=mkw (fun h=>(hy2 h).1) (fun h=>(hn2 h).1);have k2:=k1.tr hx3;refine Zv (xpa rfl e2 rfl)<|Za<|nl<|?_;cases hF;exact wp_ret<|Zw rfl rfl rfl ⟨rfl,k2⟩
theorem c35{w0:World}{F:Nat}{r:Bool}(hF:AEe F=some r):
  Calls Tryz.prog 35 [].toArray w0 (IA fun v w'=>v=.bool r/\Ext w0 w'):=by
 unfold AEe at hF;refine I9 (n:=5) Tryz.func35 rfl rfl rfl<|Zr<|Za<|nl<|Zr<|bS hF fun x1 Ex1 hF=>Zc (xc ATS mn) (c15 Ex1) ?_;rintro _ w1⟨rfl,hx1⟩;refine Zm<|bS hF fun x2 Ex2 hF=>gc rfl rfl rfl rfl (xB rfl) rfl (fun hc=>xc ARy mn) (fun hc=>(ASv (gdp Ex2 hc))) (fun v1 w2 hy1 hn1=>?_);have hx2:Ext w1 w2:=gx (fun h=>(hy1 h).2) (fun h=>(hn1 h).2▸Ext.refl _);have e1:=mkw (fun h=>(hy1 h).1) (fun h=>(hn1 h).1);have k1:=hx1.tr hx2;refine Zv (xpa rfl e1 rfl)<|Za<|nl<|?_;cases hF;exact wp_ret<|Zw rfl rfl rfl ⟨rfl,k1⟩

def G2(r1 r2:Option Nat)(w w':World):Prop:=∃wm,w.grownBy wm r1/\wm.grownBy w' r2
theorem G2.refl{r1 r2:Option Nat}{w:World}:G2 r1 r2 w w:=⟨w,Ext.gro (Ext.refl _),Ext.gro (Ext.refl _)⟩
theorem G2.of1{r1 r2:Option Nat}{w w':World}(h:w.grownBy w' r1):G2 r1 r2 w w':=⟨w',h,Ext.gro (Ext.refl _)⟩



theorem AOR{w0:World}{x0:Int}{v1:Value}{x1:(List (List Int))}(r1:RV w0 v1 x1){F:Nat}{r:Bool}(hF:ABD F x0 x1=some r):
  Calls Tryz.prog 166 [.int .i64 x0,v1].toArray w0 (IA fun v w'=>v=.bool r/\Ext w0 w'):=by
 unfold ABD at hF;have hz:=r1.sl;obtain⟨a1,cq1,rfl,-,-,-⟩:=hz;refine I9 (n:=33) Tryz.func166 rfl rfl rfl<|Zr<|Za<|nl<|wp_seq<|Zr<|Zm<|Zv (Kz rfl Tryz.underlying78)<|Zm<|nl<|bS hF fun o1 hB1 hF=>ct (fun L w=>o1=.inr ()/\Ext w0 w) ?_ ?_
 ·refine wp_block<|lp (I:=fun m L w=>∃y1:Int,zH F x0 x1 m y1=some o1/\L 12=.int .i64 y1/\L 0=.int .i64 x0/\L 10=.slice a1 x1.length cq1/\L 11=.int .i64 (x1.length:Int)/\Ext w0 w) F ⟨_,hB1,rfl,rfl,rfl,rfl,(Ext.refl _)⟩ ?_;rintro m L w1⟨y1,hB1,l12_i1,l0_i1,l10_i1,l11_i1,K0_i1⟩;rcases m with _|m
  ·rw[zH]at hB1;cases hB1
  rw[zH]at hB1;refine Zr<|Zv (Oi l12_i1 l11_i1)<|nl<|wp_seq<|cnd rfl (fun h3=>?_) (fun h3=>?_)
  ·have hB1:=Cj hB1 h3;refine wp_skip<|wp_seq<|wp_block<|Zr<|bS hB1 fun x3 Ex3 hB1=>?_;have hz:=(RV.els r1).ix Ex3;obtain⟨b3,f1,cs3,e1,i2,i3,q3,hc1⟩:=hz;cases e1;obtain⟨a2,cq2,rfl,p1,q4,e2⟩:=q3;have r4:=RV.of1 p1 q4 e2;have hc2:=hc1.ext K0_i1;refine Zv (Dq l10_i1 l12_i1 Tryz.underlying78 Le i2 i3)<|Zv (AP rfl Le (hc2.at 0 rfl))<|Za<|nl<|Zr<|Za<|nl<|Zr<|Zm<|Zv (Kz rfl Tryz.underlying41)<|Zm<|nl<|bS hB1 fun o2 hB3 hB1=>ct (fun L w=>o2=.inr ()/\L 0=.int .i64 x0/\L 10=.slice (some ⟨b3,f1,none⟩) x1.length cq1/\L 11=.int .i64 (x1.length:Int)/\L 12=.int .i64 y1/\Ext w1 w) ?_ ?_
   ·refine wp_block<|lp (I:=fun m L w=>∃y2:Int,∃y3:Int,zF F x0 x3 m y2 y3=some o2/\L 7=.int .i64 y2/\L 18=.int .i64 y3/\L 0=.int .i64 x0/\L 10=.slice (some ⟨b3,f1,none⟩) x1.length cq1/\L 11=.int .i64 (x1.length:Int)/\L 12=.int .i64 y1/\L 16=.slice a2 x3.length cq2/\L 17=.int .i64 (x3.length:Int)/\Ext w1 w) F ⟨_,_,hB3,rfl,rfl,l0_i1,l10_i1,l11_i1,l12_i1,rfl,rfl,(Ext.refl _)⟩ ?_;rintro m L w2⟨y2,y3,hB3,l7_i4,l18_i4,l0_i4,l10_i4,l11_i4,l12_i4,l16_i4,l17_i4,K0_i4⟩;rcases m with _|m
    ·rw[zF]at hB3;cases hB3
    rw[zF]at hB3;have k1:=K0_i1.tr K0_i4;refine Zr<|Zv (Oi l18_i4 l17_i4)<|nl<|wp_seq<|cnd rfl (fun h4=>?_) (fun h4=>?_)
    ·have hB3:=Cj hB3 h4;refine wp_skip<|wp_seq<|wp_block<|Zr<|bS hB3 fun x4 Ex4 hB3=>?_;have hz:=(RV.els r4).ix Ex4;obtain⟨b4,f2,cs4,e3,i5,i6,q5,hc3⟩:=hz;cases e3;obtain rfl:=q5;have hc4:=hc3.ext k1;refine Zv (Dq l16_i4 l18_i4 Tryz.underlying41 Ap i5 i6)<|Zv (AP rfl Ap (hc4.at 0 rfl))<|Za<|nl<|wp_seq<|Zr<|Zm<|Zm<|Zv (ADo rfl l7_i4)<|Zm<|Zg rfl rfl (EO rfl) (fun hc=>FY rfl)<|Zg rfl rfl (EO rfl) (fun hc=>FY l0_i4)<|Zg rfl rfl (EO rfl) (fun hc=>ACq (mv hc rfl) (mv hc rfl))<|Zv (xpo rfl rfl rfl)<|nl<|cnd rfl (fun h5=>?_) (fun h5=>?_)
     ·have hB3:=Cj hB3 h5;refine Zr<|Za<|nl<|?_;cases hB3;have hB1:=(show some _=some _ from hB1);cases hB1;have hF:=(show some _=some _ from hF);cases hF;exact wp_ret<|Zw rfl rfl rfl ⟨rfl,k1⟩
     ·have hB3:=DF hB3 h5;refine wp_skip<|rg<|Zm<|Za<|nl<|rg<|Zv (FH l18_i4 rfl)<|Zm<|nl<|lq m (Nat.lt_succ_self _)<|?_;exact⟨_,_,hB3,rfl,rfl,l0_i4,l10_i4,l11_i4,l12_i4,l16_i4,l17_i4,K0_i4⟩
    ·have hB3:=DF hB3 h4;refine wp_exit<|?_;cases hB3;refine lf<|?_;exact⟨rfl,l0_i4,l10_i4,l11_i4,l12_i4,K0_i4⟩
   rintro L w3⟨rfl,l0_j1,l10_j1,l11_j1,l12_j1,K0_j1⟩;have k2:=K0_i1.tr K0_j1;refine rg<|Zv (FH l12_j1 rfl)<|Zm<|nl<|lq m (Nat.lt_succ_self _)<|?_;exact⟨_,hB1,rfl,l0_j1,l10_j1,l11_j1,k2⟩
  ·have hB1:=DF hB1 h3;refine wp_exit<|?_;cases hB1;refine lf<|?_;exact⟨rfl,K0_i1⟩
 rintro L w4⟨rfl,K0_j2⟩;refine Zr<|Za<|nl<|?_;cases hF;exact wp_ret<|Zw rfl rfl rfl ⟨rfl,K0_j2⟩
theorem AUH{w0:World}{x0:Int}{b1:Nat}{cs1:List Value}{x1:(Int×(List (Int×Int×Int))×(List Int)×(List Int))}(h1:Cs w0 b1 0 cs1)(q1:Enc.rep (fun _=>True) w0 cs1 x1){r:Bool}(hF:AAs x0 x1=some r):
  Calls Tryz.prog 264 [.int .i64 x0,.pointer (some ⟨b1,0,none⟩)].toArray w0 (IA fun v w'=>v=.bool r/\Ext w0 w'):=by
 unfold AAs at hF;obtain⟨_,_,rfl,rfl,_,_,rfl,⟨a1,cq1,rfl,p1,q3,e1⟩,_,_,rfl,⟨a2,cq2,rfl,p2,q4,e2⟩,a3,cq3,rfl,p3,q5,e3⟩:=q1;refine I9 (n:=12) Tryz.func264 rfl rfl rfl<|Zr<|Za<|nl<|Zr<|Zm<|Zv (ACq rfl rfl)<|Zm<|Zg rfl rfl (xB rfl) (fun hc=>FY rfl)<|Zg rfl rfl (xB rfl) (fun hc=>BA rfl vV)<|Zg rfl rfl (xB rfl) (fun hc=>AP (mv hc rfl) Ap (h1.at 0 rfl))<|Zg rfl rfl (xB rfl) (fun hc=>Oi (mv hc rfl) (mv hc rfl))<|Zv (xpa rfl rfl rfl)<|Za<|nl<|?_;cases hF;exact wp_ret<|Zw rfl rfl rfl ⟨rfl,(Ext.refl _)⟩
theorem AUI{w0:World}{v0:Value}{x0:(Int×Int×Int)}(r0:RV w0 v0 x0){b1:Nat}{v1:Value}{x1:Int->Option Bool}(h1:Cs w0 b1 0 [v1])(q1:FnB Tryz.prog Int w0 v1 x1){r:Bool}(hF:ABX x0 x1=some r):
  Calls Tryz.prog 265 [v0,.pointer (some ⟨b1,0,none⟩)].toArray w0 (IA fun v w'=>v=.bool r/\Ext w0 w'):=by
 unfold ABX at hF;have hz:=id r0;obtain⟨_,rfl,_,_,rfl,rfl,_,_,rfl,rfl,rfl⟩:=hz;refine I9 (n:=33) Tryz.func265 rfl rfl rfl<|Zr<|yX rfl rfl fun b3 w1 hx1 hg1 hb1=>?_;have q3:=q1.ext hx1;have h3:=h1.ext hx1;refine Za<|nl<|wp_seq<|bS hF fun y1 hB1 hF=>ct (fun L w=>L 3=.bool y1/\Ext w1 w) ?_ ?_
 ·refine rg<|Zv (AP rfl AGC (h3.at 0 rfl))<|Zv (BA rfl zX)<|Zv (AP rfl Ap ((Bx.cs hb1).at 0 rfl))<|bS hB1 fun x5 Ex5 hB1=>?_;have hz:=id q3;obtain⟨g2,fs2,cs4,e2,hg3,hu2⟩:=hz;refine Zc (xcv (rfl.trans e2) hg3 (mc rfl mn) rfl) (hu2 _ _ _ _ (Ext.refl _) (RVo.int.2 rfl) Ex5) ?_;rintro _ w3⟨rfl,hx3⟩;have hb3:=hb1.ext hx3;have q5:=q3.ext hx3;have h5:=h3.ext hx3;refine Zv (wP rfl)<|Zm<|Or.elim (Bool.eq_false_or_eq_true (!x5)) (fun h6=>?_) (fun h6=>?_)
  ·have hB1:=Cj hB1 h6;refine Gk rfl (BP h6)<|Gk rfl (BP h6)<|Gk rfl (BP h6)<|Gk rfl (BP h6)<|Gk rfl (BP h6)<|Zv (wI rfl h6 rfl)<|Zm<|Or.elim (Bool.eq_false_or_eq_true true) (fun h7=>?_) (fun h7=>?_)
   ·have hB1:=Cj hB1 h7;refine Gk rfl (BP h7)<|Gk rfl (BP h7)<|Gk rfl (BP h7)<|Gk rfl (BP h7)<|Gk rfl (BP h7)<|Zv (wI rfl h7 rfl)<|Zm<|Gk rfl (BP h7)<|Gk rfl (BP h7)<|Gk rfl (BP h7)<|Zv (wI rfl h7 rfl)<|Zm<|Gk rfl (BP h7)<|Gk rfl (BP h7)<|Gk rfl (BP h7)<|Zv (wI rfl h7 rfl)<|Za<|nl<|?_;cases hB1;refine lf<|?_;exact⟨rfl,hx3⟩
   ·have hB1:=DF hB1 h7;refine Gt rfl (bf h7)<|Zv (BA rfl zX)<|Gt rfl (bf h7)<|Zv (AP rfl Ap ((Bx.cs hb3).at 0 rfl))<|Gt rfl (bf h7)<|Zv (BA rfl zu)<|Gt rfl (bf h7)<|Zv (AP rfl Ap ((Bx.cs hb3).at 1 rfl))<|Gt rfl (bf h7)<|Zv (zL rfl rfl)<|Zv (yH rfl h7 rfl)<|Zm<|Or.elim (Bool.eq_false_or_eq_true (decide (x0.1=x0.2.1))) (fun h8=>?_) (fun h8=>?_)
    ·have hB1:=Cj hB1 h8;refine Gk rfl (BP h8)<|Gk rfl (BP h8)<|Gk rfl (BP h8)<|Zv (wI rfl h8 rfl)<|Zm<|Gt rfl (bf h7)<|Zv (BA rfl yu)<|Gt rfl (bf h7)<|Zv (AP rfl Bh ((Bx.cs hb3).at 2 rfl))<|Gt rfl (bf h7)<|Zv (xU rfl rfl)<|Zv (yH rfl h7 rfl)<|Za<|nl<|?_;cases hB1;refine lf<|?_;exact⟨rfl,hx3⟩
    ·have hB1:=DF hB1 h8;refine Gt rfl (bf h8)<|Zv (BA rfl yu)<|Gt rfl (bf h8)<|Zv (AP rfl Bh ((Bx.cs hb3).at 2 rfl))<|Gt rfl (bf h8)<|Zv (Oi rfl rfl)<|Zv (yH rfl h8 rfl)<|Zm<|Or.elim (Bool.eq_false_or_eq_true (decide (x0.2.2<1))) (fun h9=>?_) (fun h9=>?_)
     ·have hB1:=Cj hB1 h9;refine Gk rfl (BP h9)<|Gk rfl (BP h9)<|Gk rfl (BP h9)<|Zv (wI rfl h9 rfl)<|Za<|nl<|?_;cases hB1;refine lf<|?_;exact⟨rfl,hx3⟩
     ·have hB1:=DF hB1 h9;refine Gt rfl (bf h9)<|Zv (BA rfl yu)<|Gt rfl (bf h9)<|Zv (AP rfl Bh ((Bx.cs hb3).at 2 rfl))<|Gt rfl (bf h9)<|Zv (xU rfl rfl)<|Zv (yH rfl h9 rfl)<|Za<|nl<|?_;cases hB1;refine lf<|?_;exact⟨rfl,hx3⟩
  ·have hB1:=DF hB1 h6;refine Gt rfl (bf h6)<|Zv (AP rfl AGC (h5.at 0 rfl))<|Gt rfl (bf h6)<|Zv (BA rfl zu)<|Gt rfl (bf h6)<|Zv (AP rfl Ap ((Bx.cs hb3).at 1 rfl))<|bS hB1 fun x6 Ex6 hB1=>?_;have hz:=id q5;obtain⟨g3,fs3,cs5,e3,hg4,hu3⟩:=hz;refine Gt rfl (bf h6)<|Zc (xcv (rfl.trans e3) hg4 (mc rfl mn) rfl) (hu3 _ _ _ _ (Ext.refl _) (RVo.int.2 rfl) Ex6) ?_;rintro _ w4⟨rfl,hx4⟩;have k4:=hx3.tr hx4;have hb4:=hb3.ext hx4;refine Gt rfl (bf h6)<|Zv (wP rfl)<|Zv (yH rfl h6 rfl)<|Zm<|Or.elim (Bool.eq_false_or_eq_true (!x6)) (fun h10=>?_) (fun h10=>?_)
   ·have hB1:=Cj hB1 h10;refine Gk rfl (BP h10)<|Gk rfl (BP h10)<|Gk rfl (BP h10)<|Gk rfl (BP h10)<|Gk rfl (BP h10)<|Zv (wI rfl h10 rfl)<|Zm<|Or.elim (Bool.eq_false_or_eq_true true) (fun h11=>?_) (fun h11=>?_)
    ·have hB1:=Cj hB1 h11;refine Gk rfl (BP h11)<|Gk rfl (BP h11)<|Gk rfl (BP h11)<|Zv (wI rfl h11 rfl)<|Zm<|Gk rfl (BP h11)<|Gk rfl (BP h11)<|Gk rfl (BP h11)<|Zv (wI rfl h11 rfl)<|Za<|nl<|?_;cases hB1;refine lf<|?_;exact⟨rfl,k4⟩
    ·have hB1:=DF hB1 h11;refine Gt rfl (bf h11)<|Zv (BA rfl yu)<|Gt rfl (bf h11)<|Zv (AP rfl Bh ((Bx.cs hb4).at 2 rfl))<|Gt rfl (bf h11)<|Zv (Oi rfl rfl)<|Zv (yH rfl h11 rfl)<|Zm<|Or.elim (Bool.eq_false_or_eq_true (decide (x0.2.2<1))) (fun h12=>?_) (fun h12=>?_)
     ·have hB1:=Cj hB1 h12;refine Gk rfl (BP h12)<|Gk rfl (BP h12)<|Gk rfl (BP h12)<|Zv (wI rfl h12 rfl)<|Za<|nl<|?_;cases hB1;refine lf<|?_;exact⟨rfl,k4⟩
     ·have hB1:=DF hB1 h12;refine Gt rfl (bf h12)<|Zv (BA rfl yu)<|Gt rfl (bf h12)<|Zv (AP rfl Bh ((Bx.cs hb4).at 2 rfl))<|Gt rfl (bf h12)<|Zv (xU rfl rfl)<|Zv (yH rfl h12 rfl)<|Za<|nl<|?_;cases hB1;refine lf<|?_;exact⟨rfl,k4⟩
   ·have hB1:=DF hB1 h10;refine Gt rfl (bf h10)<|Zv (BA rfl zX)<|Gt rfl (bf h10)<|Zv (AP rfl Ap ((Bx.cs hb4).at 0 rfl))<|Gt rfl (bf h10)<|Zv (BA rfl zu)<|Gt rfl (bf h10)<|Zv (AP rfl Ap ((Bx.cs hb4).at 1 rfl))<|Gt rfl (bf h10)<|Zv (zL rfl rfl)<|Zv (yH rfl h10 rfl)<|Zm<|Or.elim (Bool.eq_false_or_eq_true (decide (x0.1=x0.2.1))) (fun h13=>?_) (fun h13=>?_)
    ·have hB1:=Cj hB1 h13;refine Gk rfl (BP h13)<|Gk rfl (BP h13)<|Gk rfl (BP h13)<|Zv (wI rfl h13 rfl)<|Zm<|Or.elim (Bool.eq_false_or_eq_true true) (fun h14=>?_) (fun h14=>?_)
     ·have hB1:=Cj hB1 h14;refine Gk rfl (BP h14)<|Gk rfl (BP h14)<|Gk rfl (BP h14)<|Zv (wI rfl h14 rfl)<|Za<|nl<|?_;cases hB1;refine lf<|?_;exact⟨rfl,k4⟩
     ·have hB1:=DF hB1 h14;refine Gt rfl (bf h14)<|Zv (BA rfl yu)<|Gt rfl (bf h14)<|Zv (AP rfl Bh ((Bx.cs hb4).at 2 rfl))<|Gt rfl (bf h14)<|Zv (xU rfl rfl)<|Zv (yH rfl h14 rfl)<|Za<|nl<|?_;cases hB1;refine lf<|?_;exact⟨rfl,k4⟩
    ·have hB1:=DF hB1 h13;refine Gt rfl (bf h13)<|Zv (BA rfl yu)<|Gt rfl (bf h13)<|Zv (AP rfl Bh ((Bx.cs hb4).at 2 rfl))<|Gt rfl (bf h13)<|Zv (Oi rfl rfl)<|Zv (yH rfl h13 rfl)<|Zm<|Or.elim (Bool.eq_false_or_eq_true (decide (x0.2.2<1))) (fun h15=>?_) (fun h15=>?_)
     ·have hB1:=Cj hB1 h15;refine Gk rfl (BP h15)<|Gk rfl (BP h15)<|Gk rfl (BP h15)<|Zv (wI rfl h15 rfl)<|Za<|nl<|?_;cases hB1;refine lf<|?_;exact⟨rfl,k4⟩
     ·have hB1:=DF hB1 h15;refine Gt rfl (bf h15)<|Zv (BA rfl yu)<|Gt rfl (bf h15)<|Zv (AP rfl Bh ((Bx.cs hb4).at 2 rfl))<|Gt rfl (bf h15)<|Zv (xU rfl rfl)<|Zv (yH rfl h15 rfl)<|Za<|nl<|?_;cases hB1;refine lf<|?_;exact⟨rfl,k4⟩
 rintro L w5⟨l3_j1,K0_j1⟩;have k5:=hx1.tr K0_j1;cases hF;exact wp_ret<|rt rfl (.tmp l3_j1 rfl .nil) ⟨rfl,k5⟩
theorem ARJ{w0:World}{v0:Value}{x0:(List Int)}(r0:RV w0 v0 x0){r:Bool}(hF:ADH x0=some r):
  Calls Tryz.prog 266 [v0].toArray w0 (IA fun v w'=>v=.bool r/\Ext w0 w'):=by
 unfold ADH at hF;have hz:=r0.sl;obtain⟨a1,cq1,rfl,-,-,-⟩:=hz;refine I9 (n:=11) Tryz.func266 rfl rfl rfl<|Zr<|Za<|nl<|Zr<|Zm<|Zv (Kz rfl Tryz.underlying41)<|Zv (xU rfl rfl)<|Zm<|Zg rfl rfl (xB rfl) (fun hc=>FY rfl)<|Zg rfl rfl (xB rfl) (fun hc=>Kz (mv hc rfl) Tryz.underlying41)<|Zg rfl rfl (xB rfl) (fun hc=>ADo (mv hc rfl) rfl)<|Zv (xpa rfl rfl rfl)<|Za<|nl<|?_;cases hF;exact wp_ret<|Zw rfl rfl rfl ⟨rfl,(Ext.refl _)⟩
theorem AUJ{w0:World}{v0:Value}{x0:(List (Int×Int×Int))}(r0:RV w0 v0 x0){v1:Value}{x1:(Int×Int×Int)->Option Bool}(h1:FnB Tryz.prog (Int×Int×Int) w0 v1 x1){F:Nat}{r:Int}(hF:xf F x0 x1=some r):
  Calls Tryz.prog 325 [v0,v1].toArray w0 (IA fun v w'=>v=.int .i64 r/\Ext w0 w'):=by
 unfold xf at hF;have hz:=r0.sl;obtain⟨a1,cq1,rfl,-,-,-⟩:=hz;refine I9 (n:=19) Tryz.func325 rfl rfl rfl<|Zr<|Za<|nl<|wp_seq<|Zr<|Zm<|Zv (Kz rfl Tryz.underlying135)<|Zm<|nl<|bS hF fun o1 hB1 hF=>ct (fun L w=>o1=.inr ()/\Ext w0 w) ?_ ?_
 ·refine wp_block<|lp (I:=fun m L w=>∃y1:Int,Pv F x0 x1 m y1=some o1/\L 8=.int .i64 y1/\L 0=.slice a1 x0.length cq1/\L 1=v1/\L 7=.int .i64 (x0.length:Int)/\Ext w0 w) F ⟨_,hB1,rfl,rfl,rfl,rfl,(Ext.refl _)⟩ ?_;rintro m L w1⟨y1,hB1,l8_i1,l0_i1,l1_i1,l7_i1,K0_i1⟩;rcases m with _|m
  ·rw[Pv]at hB1;cases hB1
  rw[Pv]at hB1;have h3:=h1.ext K0_i1;refine Zr<|Zv (Oi l8_i1 l7_i1)<|nl<|wp_seq<|cnd rfl (fun h4=>?_) (fun h4=>?_)
  ·have hB1:=Cj hB1 h4;refine wp_skip<|wp_seq<|wp_block<|Zr<|Zm<|Za<|nl<|Zr<|Zm<|Zm<|Zm<|bS hB1 fun x3 Ex3 hB1=>?_;have hz:=(RV.els r0).ix Ex3;obtain⟨b3,f1,cs3,e1,i2,i3,q3,hc1⟩:=hz;cases e1;obtain⟨_,_,rfl,rfl,_,_,rfl,rfl,rfl⟩:=q3;have hc2:=hc1.ext K0_i1;refine Zv (Dq l0_i1 l8_i1 Tryz.underlying135 wQ i2 i3)<|Zv (Jq rfl wQ rfl hc2)<|bS hB1 fun x4 Ex4 hB1=>?_;have hz:=id h3;obtain⟨g1,fs1,cs4,e2,hg1,hu1⟩:=hz;refine Zc (xcv (l1_i1.trans e2) hg1 (mc rfl mn) rfl) (hu1 _ _ _ _ (Ext.refl _) (show RV (α:=(Int×Int×Int)) _ (.agg [.int .i64 x3.1,.int .i64 x3.2.1,.int .i64 x3.2.2].toArray) (x3.1,x3.2.1,x3.2.2)from⟨_,rfl,[.int .i64 x3.1],[.int .i64 x3.2.1]++[.int .i64 x3.2.2],rfl,rfl,[.int .i64 x3.2.1],[.int .i64 x3.2.2],rfl,rfl,rfl⟩) Ex4) ?_;rintro _ w2⟨rfl,hx1⟩;have k1:=K0_i1.tr hx1;refine nl<|cnd rfl (fun h6=>?_) (fun h6=>?_)
   ·have hB1:=Cj hB1 h6;refine Zr<|Zm<|Za<|nl<|?_;cases hB1;have hF:=(show some _=some _ from hF);cases hF;exact wp_ret<|rt rfl (.tmp l8_i1 rfl .nil) ⟨rfl,k1⟩
   ·have hB1:=DF hB1 h6;refine wp_skip<|rg<|Zv (FH l8_i1 rfl)<|Zm<|nl<|lq m (Nat.lt_succ_self _)<|?_;exact⟨_,hB1,rfl,l0_i1,l1_i1,l7_i1,k1⟩
  ·have hB1:=DF hB1 h4;refine wp_exit<|?_;cases hB1;refine lf<|?_;exact⟨rfl,K0_i1⟩
 rintro L w3⟨rfl,K0_j1⟩;refine Zr<|Za<|nl<|?_;cases hF;exact wp_ret<|Zw rfl rfl rfl ⟨rfl,K0_j1⟩
theorem AUK{w0:World}{v0:Value}{x0:(List (Int×Int×Int))}(r0:RV w0 v0 x0){v1:Value}{x1:(Int×Int×Int)->Option Bool}(h1:FnB Tryz.prog (Int×Int×Int) w0 v1 x1){F:Nat}{r:Bool}(hF:vO F x0 x1=some r):
  Calls Tryz.prog 267 [v0,v1].toArray w0 (IA fun v w'=>v=.bool r/\Ext w0 w'):=by
 unfold vO at hF;have hz:=r0.sl;obtain⟨a1,cq1,rfl,-,-,-⟩:=hz;refine I9 (n:=9) Tryz.func267 rfl rfl rfl<|Zr<|Za<|nl<|Zr<|Zm<|Zm<|bS hF fun x3 Ex3 hF=>Zc (xc ASX (mc rfl (mc rfl mn))) (AUJ r0 h1 Ex3) ?_;rintro _ w1⟨rfl,hx1⟩;refine Zv (ACq rfl rfl)<|Za<|nl<|?_;cases hF;exact wp_ret<|Zw rfl rfl rfl ⟨rfl,hx1⟩
theorem AUL{w0:World}{x0:Int}{b1:Nat}{cs1:List Value}{x1:(Int×(List (Int×Int×Int))×(List Int)×(List Int))}(h1:Cs w0 b1 0 cs1)(q1:Enc.rep (fun _=>True) w0 cs1 x1){F:Nat}{r:Bool}(hF:ABY F x0 x1=some r):
  Calls Tryz.prog 268 [.int .i64 x0,.pointer (some ⟨b1,0,none⟩)].toArray w0 (IA fun v w'=>v=.bool r/\Ext w0 w'):=by
 unfold ABY at hF;obtain⟨_,_,rfl,rfl,_,_,rfl,⟨a1,cq1,rfl,p1,q3,e1⟩,_,_,rfl,⟨a2,cq2,rfl,p2,q4,e2⟩,a3,cq3,rfl,p3,q5,e3⟩:=q1;have r5:=RV.of1 p3 q5 e3;refine I9 (n:=8) Tryz.func268 rfl rfl rfl<|Zr<|Za<|nl<|Zr<|Zv (BA rfl AAo)<|Zv (AP rfl Le (h1.at 3 rfl))<|Zm<|bS hF fun x3 Ex3 hF=>Zc (xc ALA (mc rfl (mc rfl mn))) (AOQ r5 Ex3) ?_;rintro _ w1⟨rfl,hx1⟩;refine Za<|nl<|?_;cases hF;exact wp_ret<|Zw rfl rfl rfl ⟨rfl,hx1⟩
theorem ARK{w0:World}{v0:Value}{x0:(Int×(List (Int×Int×Int))×(List Int)×(List Int))}(r0:RV w0 v0 x0){F:Nat}{r:Int}(hF:AAC F x0=some r):
  Calls Tryz.prog 165 [v0].toArray w0 (IA fun v w'=>v=.int .i64 r/\Ext w0 w'):=by
 unfold AAC at hF;have hz:=id r0;obtain⟨_,rfl,_,_,rfl,rfl,_,_,rfl,⟨a1,cq1,rfl,p1,q2,e1⟩,_,_,rfl,⟨a2,cq2,rfl,p2,q3,e2⟩,a3,cq3,rfl,p3,q4,e3⟩:=hz;have r2:=RV.of1 p1 q2 e1;have r3:=RV.of1 p2 q3 e2;have r4:=RV.of1 p3 q4 e3;refine I9 (n:=54) Tryz.func165 rfl rfl rfl<|Zr<|yX rfl rfl fun b2 w1 hx1 hg1 hb1=>?_;have r5:=r2.ext hx1;have r6:=r3.ext hx1;have r7:=r4.ext hx1;refine Za<|nl<|Zr<|Zv (xmf mn (mc rfl mn))<|yY AGC fun b3 w2 hx2 hg2 hb2=>?_;have k1:=hx1.tr hx2;refine xk rfl rfl rfl AGC hb2 rfl rfl (ble rfl) fun w3 hch1 hb4=>?_;have k2:=Ext.chg k1 hch1 (Nat.le_trans hx1.size hg2);have k3:=Ext.chg hx2 hch1 (Nat.le_trans (Nat.le_refl _) hg2);have hb5:=hb1.ext k3;have r12:=r5.ext k3;have r13:=r6.ext k3;have r14:=r7.ext k3;have hb6:Bx w3 b3 236 [.func (.func 264) [].toArray [.pointer (some ⟨b2,0,none⟩)].toArray]:=hb4;refine nl<|Zr<|Zv (xmf mn (mc rfl mn))<|Za<|nl<|wp_seq<|wp_block<|Zr<|Zv (BA rfl vV)<|Zv (AP rfl Ap ((Bx.cs hb5).at 0 rfl))<|Zv (Oi rfl rfl)<|Zm<|Zg rfl rfl (EO rfl) (fun hc=>BA rfl vV)<|Zg rfl rfl (EO rfl) (fun hc=>AP (mv hc rfl) Ap ((Bx.cs hb5).at 0 rfl))<|Zg rfl rfl (EO rfl) (fun hc=>xU (mv hc rfl) rfl)<|Zv (xpo rfl rfl rfl)<|Zm<|Zg rfl rfl (EO rfl) (fun hc=>BA rfl yj)<|Zg rfl rfl (EO rfl) (fun hc=>AP (mv hc rfl) AAz ((Bx.cs hb5).at 1 rfl))<|Zg rfl rfl (EO rfl) (fun hc=>Kz (mv hc rfl) Tryz.underlying135)<|Zg rfl rfl (EO rfl) (fun hc=>xU (mv hc rfl) rfl)<|Zv (xpo rfl rfl rfl)<|Zm<|Zg rfl rfl (EO rfl) (fun hc=>BA rfl yT)<|Zg rfl rfl (EO rfl) (fun hc=>AP (mv hc rfl) Le ((Bx.cs hb5).at 2 rfl))<|bS hF fun x2 Ex2 hF=>gc rfl rfl rfl rfl (EO rfl) rfl (fun hc=>xc AOt (mc (mv hc rfl) mn)) (fun hc=>(ARJ r13 (gdp Ex2 hc))) (fun v2 w4 hy1 hn1=>?_);have hx3:Ext w3 w4:=gx (fun h=>(hy1 h).2) (fun h=>(hn1 h).2▸Ext.refl _);have e4:=mkw (fun h=>(hy1 h).1) (fun h=>(hn1 h).1);have k4:=k2.tr hx3;have hb7:=hb5.ext hx3;have r15:=r12.ext hx3;have r16:=r13.ext hx3;have r17:=r14.ext hx3;have hb8:=hb6.ext hx3;refine Zg rfl rfl (EO rfl) (fun hc=>wP (mv hc e4))<|Zv (xpo rfl rfl rfl)<|Zm<|Zg rfl rfl (EO rfl) (fun hc=>BA rfl AAo)<|Zg rfl rfl (EO rfl) (fun hc=>AP (mv hc rfl) Le ((Bx.cs hb7).at 3 rfl))<|bS hF fun x3 Ex3 hF=>gc rfl rfl rfl rfl (EO rfl) rfl (fun hc=>xc AOt (mc (mv hc rfl) mn)) (fun hc=>(ARJ r17 (gdp Ex3 hc))) (fun v3 w5 hy2 hn2=>?_);have hx4:Ext w4 w5:=gx (fun h=>(hy2 h).2) (fun h=>(hn2 h).2▸Ext.refl _);have e5:=mkw (fun h=>(hy2 h).1) (fun h=>(hn2 h).1);have k6:=k4.tr hx4;have hb9:=hb7.ext hx4;have r18:=r15.ext hx4;have r19:=r16.ext hx4;have r20:=r17.ext hx4;have hb10:=hb8.ext hx4;refine Zg rfl rfl (EO rfl) (fun hc=>wP (mv hc e5))<|Zv (xpo rfl rfl rfl)<|Za<|nl<|cnd rfl (fun h2=>?_) (fun h2=>?_)
 ·have hF:=Cj hF h2;refine Zr<|Za<|nl<|?_;cases hF;exact wp_ret<|Zw rfl rfl rfl ⟨rfl,k6⟩
 ·have hF:=DF hF h2;refine Zr<|Zv (BA rfl yj)<|Zv (AP rfl AAz ((Bx.cs hb9).at 1 rfl))<|Zm<|bS hF fun x4 Ex4 hF=>Zc (xc ASJ (mc rfl (mc rfl mn))) (AUK r18 ⟨265,[],[.pointer (some ⟨b3,0,none⟩)],rfl,ASI,fun w' u x b hk hu hp=>AUI hu (Bx.cs (hb10.ext hk)) (FnB.ext (⟨264,[],[.pointer (some ⟨b2,0,none⟩)],rfl,ASH,fun w' u x b hk hu hp=>by cases RVo.int.1 hu;exact AUH (Bx.cs (hb9.ext hk)) ⟨[.int .i64 x0.1],[.slice a1 x0.2.1.length cq1]++([.slice a2 x0.2.2.1.length cq2]++[.slice a3 x0.2.2.2.length cq3]),rfl,rfl,[.slice a1 x0.2.1.length cq1],[.slice a2 x0.2.2.1.length cq2]++[.slice a3 x0.2.2.2.length cq3],rfl,(r18.ext hk).rep1,[.slice a2 x0.2.2.1.length cq2],[.slice a3 x0.2.2.2.length cq3],rfl,(r19.ext hk).rep1,(r20.ext hk).rep1⟩ hp⟩:FnB Tryz.prog Int _ (.func (.func 264) [].toArray [.pointer (some ⟨b2,0,none⟩)].toArray) (fun y=>AAs y (x0.1,x0.2.1,x0.2.2.1,x0.2.2.2))) hk) hp⟩ Ex4) ?_;rintro _ w6⟨rfl,hx5⟩;have k8:=k6.tr hx5;have hb11:=hb9.ext hx5;have r21:=r18.ext hx5;have r22:=r19.ext hx5;have r23:=r20.ext hx5;refine Za<|nl<|cnd rfl (fun h3=>?_) (fun h3=>?_)
  ·have hF:=Cj hF h3;refine Zr<|Za<|nl<|?_;cases hF;exact wp_ret<|Zw rfl rfl rfl ⟨rfl,k8⟩
  ·have hF:=DF hF h3;refine Zr<|Zv (BA rfl vV)<|Zv (AP rfl Ap ((Bx.cs hb11).at 0 rfl))<|Zv (BA rfl yT)<|Zv (AP rfl Le ((Bx.cs hb11).at 2 rfl))<|Zv (BA rfl AAo)<|Zv (AP rfl Le ((Bx.cs hb11).at 3 rfl))<|AAR (cs:=[.slice a2 x0.2.2.1.length cq2,.slice a3 x0.2.2.2.length cq3]) Tryz.underlying78 Le rfl (pc rfl (pc rfl pn)) rfl rfl rfl rfl rfl fun b4 w7 hx6 hg3 hb12=>?_;have k10:=k8.tr hx6;have hb13:=hb11.ext hx6;have r25:=r21.ext hx6;have r26:=r22.ext hx6;have r27:=r23.ext hx6;have r24:RV w7 (.slice (some ⟨b4,0,none⟩) 2 2) ([x0.2.2.1,x0.2.2.2]:List (List Int)):=RV.lit hb12 (css:=[[.slice a2 x0.2.2.1.length cq2],[.slice a3 x0.2.2.2.length cq3]]) rfl ⟨r26.rep1,r27.rep1,trivial⟩ rfl (ble rfl);refine bS hF fun x5 Ex5 hF=>Zc (xc ALE (mc rfl (mc rfl mn))) (AOR r24 Ex5) ?_;rintro _ w8⟨rfl,hx7⟩;have k12:=k10.tr hx7;have hb14:=hb13.ext hx7;have r28:=r25.ext hx7;have r29:=r26.ext hx7;have r30:=r27.ext hx7;refine Zv (wP rfl)<|Za<|nl<|cnd rfl (fun h4=>?_) (fun h4=>?_)
   ·have hF:=Cj hF h4;refine Zr<|Za<|nl<|?_;cases hF;exact wp_ret<|Zw rfl rfl rfl ⟨rfl,k12⟩
   ·have hF:=DF hF h4;refine Zr<|Zv (BA rfl yT)<|Zv (AP rfl Le ((Bx.cs hb14).at 2 rfl))<|Zv (xmf mn (mc rfl mn))<|bS hF fun x6 Ex6 hF=>Zc (xc AIp (mc rfl (mc rfl mn))) (ALP r29 ⟨268,[],[.pointer (some ⟨b2,0,none⟩)],rfl,ASL,fun w' u x b hk hu hp=>by cases RVo.int.1 hu;exact AUL (Bx.cs (hb14.ext hk)) ⟨[.int .i64 x0.1],[.slice a1 x0.2.1.length cq1]++([.slice a2 x0.2.2.1.length cq2]++[.slice a3 x0.2.2.2.length cq3]),rfl,rfl,[.slice a1 x0.2.1.length cq1],[.slice a2 x0.2.2.1.length cq2]++[.slice a3 x0.2.2.2.length cq3],rfl,(r28.ext hk).rep1,[.slice a2 x0.2.2.1.length cq2],[.slice a3 x0.2.2.2.length cq3],rfl,(r29.ext hk).rep1,(r30.ext hk).rep1⟩ hp⟩ Ex6) ?_;rintro _ w9⟨rfl,hx8⟩;have k15:=k12.tr hx8;refine Za<|nl<|cnd rfl (fun h5=>?_) (fun h5=>?_)
    ·have hF:=Cj hF h5;refine Zr<|Za<|nl<|?_;cases hF;exact wp_ret<|Zw rfl rfl rfl ⟨rfl,k15⟩
    ·have hF:=DF hF h5;refine wp_skip<|Zr<|Za<|nl<|?_;cases hF;exact wp_ret<|Zw rfl rfl rfl ⟨rfl,k15⟩
end Go.Proofs.YtfmelbioccbdoaaGreat
end
section
namespace Go.Proofs.YtfmelbioccbdoaaGreat
open Go Go.Md Go.RowKit
attribute [local irreducible] Go.wpList Go.Code.wp Go.Calls Go.Md.gK Go.Md.Mt Go.Md.vN Go.Md.PE Go.Code.wpIn Go.wpListIn
section
abbrev oG:=Int×Int×Int
def ADI(n:Int)(a1:Option Addr)(c1:Nat)(v2 v3 dv fv:Value)(K:List oG)(H:Ar 40 Int):List Value:=[.int .i64 n,.slice a1 K.length c1,v2,v3,dv,fv]++H.l.flatMap Flat.enc
structure Nt(N:Nat)(w:World)(b:Nat)(n:Int)(a1:Option Addr)(c1:Nat)(v2 v3 dv fv:Value)(K:List oG)(H:Ar 40 Int):Prop where
 size:N<=w.heap.size
 lb:b<N
 bx:Bx w b 261 (ADI n a1 c1 v2 v3 dv fv K H)
 rv:RVo (fun q=>q<N/\q≠b) w (.slice a1 K.length c1) K
 dr:∃a2 c2,dv=.slice a2 0 c2/\c2<=maxLen
section
variable {N M:Nat}{w w':World}{b:Nat}{n:Int}{a1:Option Addr}{c1:Nat}{v2 v3 dv fv:Value}{K:List oG}{H H':Ar 40 Int}
theorem Nt.ext(h:Nt N w b n a1 c1 v2 v3 dv fv K H)(k:Ext w w'):Nt N w' b n a1 c1 v2 v3 dv fv K H:=⟨Nat.le_trans h.size k.size,h.lb,h.bx.ext k,h.rv.ext k,h.dr⟩
theorem Nt.belp{ok:Nat->Prop}{B:Nat}(h:Nt N w b n a1 c1 v2 v3 dv fv K H)(k:BelP ok B w w')(hB:N<=B)(hok:∀q,q<N->ok q):Nt N w' b n a1 c1 v2 v3 dv fv K H:=by
 have hl:=h.lb;exact⟨Nat.le_trans h.size k.size,h.lb,h.bx.belp k (by omega) (hok _ hl),h.rv.keep (fun q hq _=>k.block q (by omega) (hok _ hq.1)) k.size,h.dr⟩
theorem Nt.chg{l:Nat}(h:Nt N w b n a1 c1 v2 v3 dv fv K H)(k:Chg l w w')(hl:N<=l):Nt N w' b n a1 c1 v2 v3 dv fv K H:=by
 have hb:=h.lb;exact⟨by rw[k.size];exact h.size,h.lb,h.bx.chg k (by omega),h.rv.chg k (by omega),h.dr⟩
theorem Nt.mono(h:Nt N w b n a1 c1 v2 v3 dv fv K H)(h1:N<=M)(h2:M<=w.heap.size):Nt M w b n a1 c1 v2 v3 dv fv K H:=⟨h2,by have:=h.lb;omega,h.bx,h.rv.mono fun q _ hq=>⟨by omega,hq.2⟩,h.dr⟩
end
structure Nz(N z:Nat)(w:World)(b:Nat)(n:Int)(a1:Option Addr)(c1:Nat)(v2 v3 dv fv:Value)(K:List oG)(H:Ar 40 Int):Prop where
 size:N<=w.heap.size
 lb:b<N
 bx:Bx w b 261 (ADI n a1 c1 v2 v3 dv fv K H)
 rv:RVo (fun q=>q<N/\q≠b/\q≠z) w (.slice a1 K.length c1) K
 dr:∃a2 c2,dv=.slice a2 0 c2/\c2<=maxLen
section
variable {N M z:Nat}{w w':World}{b:Nat}{n:Int}{a1:Option Addr}{c1:Nat}{v2 v3 dv fv:Value}{K:List oG}{H H':Ar 40 Int}
theorem Nt.nz(h:Nt N w b n a1 c1 v2 v3 dv fv K H):Nz N b w b n a1 c1 v2 v3 dv fv K H:=⟨h.size,h.lb,h.bx,h.rv.mono fun _ _ hq=>⟨hq.1,hq.2,hq.2⟩,h.dr⟩
theorem Nz.nt(h:Nz N z w b n a1 c1 v2 v3 dv fv K H):Nt N w b n a1 c1 v2 v3 dv fv K H:=⟨h.size,h.lb,h.bx,h.rv.mono fun _ _ hq=>⟨hq.1,hq.2.1⟩,h.dr⟩
theorem Nz.ext(h:Nz N z w b n a1 c1 v2 v3 dv fv K H)(k:Ext w w'):Nz N z w' b n a1 c1 v2 v3 dv fv K H:=⟨Nat.le_trans h.size k.size,h.lb,h.bx.ext k,h.rv.ext k,h.dr⟩
theorem Nz.belp{ok:Nat->Prop}{B:Nat}(h:Nz N z w b n a1 c1 v2 v3 dv fv K H)(k:BelP ok B w w')(hB:N<=B)(hb:ok b)(hok:∀q,q<N->q≠b->q≠z->ok q):Nz N z w' b n a1 c1 v2 v3 dv fv K H:=by
 have hl:=h.lb;exact⟨Nat.le_trans h.size k.size,h.lb,h.bx.belp k (by omega) hb,h.rv.keep (fun q hq _=>k.block q (by omega) (hok _ hq.1 hq.2.1 hq.2.2)) k.size,h.dr⟩
end
def Nf(N z:Nat)(w:World)(b:Nat)(n:Int)(K:List oG)(Lf Rt f:List Int)(H:Ar 40 Int):Prop:=
 ∃a1 c1 a2 c2 a3 c3 a4 c4 cf,Nz N z w b n a1 c1 (.slice a2 Lf.length c2) (.slice a3 Rt.length c3) (.slice a4 0 c4) (.slice (some ⟨z,0,none⟩) K.length cf) K H/\
  RVo (fun q=>q<N/\q≠b/\q≠z) w (.slice a2 Lf.length c2) Lf/\RVo (fun q=>q<N/\q≠b/\q≠z) w (.slice a3 Rt.length c3) Rt/\c4<=maxLen/\Row 2 0 w (.slice (some ⟨z,0,none⟩) K.length cf) f/\z<N/\z≠b
def xF(K:List oG)(from':Int):Nat->Nat->List (Int×Int×Int)
 |0,_=>[]
 |m+1,k=>
  match K[k]? with
  |some x=>if(decide (x.1=from')||decide (x.2.1=from'))=true then(from',(if decide (x.2.1=from')=true then x.1 else x.2.1),(k:Int))::xF K from' m (k+1)else xF K from' m (k+1)
  |none=>xF K from' m (k+1)
def G5(K:List oG)(from':Int):List (Int×Int×Int):=xF K from' K.length 0
theorem AUM{w0:World}{n:Int}{a1 a2 a3 a4:Option Addr}{c1 c2 c3 c4 l2 l3:Nat}{K:List oG}(r1:RV w0 (.slice a1 K.length c1) K)(h4:c4<=maxLen){f0:List Int}(hf:mks 8 (K.length:Int) (0:Int)=some f0):
  Calls Tryz.prog 269 [.agg [.int .i64 n,.slice a1 K.length c1,.slice a2 l2 c2,.slice a3 l3 c3].toArray,.slice a4 0 c4].toArray w0 (IA fun u w'=>∃b z,u=.pointer (some ⟨b,0,none⟩)/\w0.heap.size<=b/\w0.heap.size<=z/\z<w'.heap.size/\z≠b/\Nz w'.heap.size z w' b n a1 c1 (.slice a2 l2 c2) (.slice a3 l3 c3) (.slice a4 0 c4) (.slice (some ⟨z,0,none⟩) K.length K.length) K (Ar.fill 40 0)/\Row 2 w0.heap.size w' (.slice (some ⟨z,0,none⟩) K.length K.length) f0/\Ext w0 w'):=by
 have hfl:f0.length=K.length:=by
  unfold mks at hf;split at hf
  ·cases hf;simp
  ·cases hf
 refine I9 (n:=13) Tryz.func269 rfl rfl rfl<|Zr<|yX rfl rfl fun b1 w1 hx1 hg1 hb1=>Za<|nl<|wp_seq<|wpl [] (.pure false 0 (.pure true 1 (.pure true 2 (.pure false 3 (.pure false 4 (.eff 5 (.pure true 6 (.eff 7 (.pure true 8 .fin) .stop)) .stop)))))) mixed (by kernel_rfl) (fun w2 hx2=>?_);have k1:=hx1.tr hx2;have hb2:=hb1.ext hx2;refine Zq rfl (fun _ hS=>Jq rfl AA0 rfl (Bx.cs (hb2.ext (hS.resolve_left nofun)))) (Ext.refl _)<|Zn rfl<|Zp rfl (fun _=>BA rfl yj)<|Zq rfl (fun _ hS=>AP rfl AAz ((Bx.cs (hb2.ext (hS.resolve_left nofun))).at 1 rfl)) (Ext.refl _)<|Zq rfl (fun _ hS=>Kz rfl Tryz.underlying135) (Ext.refl _)<|pe1 rfl<|AGf (α:=Int) (z0:=0) rfl rfl Tryz.underlying28 Bh rfl rfl rfl hf fun b4 w3 hx3 o1=>?_;rw[hfl]at o1;rw[hfl];have k2:=k1.tr hx3;refine nl ⟨fun _ _=>hx3,?_⟩;refine Zp rfl (fun _=>AAe (r:=ADI n a1 c1 (.slice a2 l2 c2) (.slice a3 l3 c3) (.slice a4 0 c4) (.slice (some ⟨b4,0,none⟩) K.length K.length) K (Ar.fill 40 0)) ARn ARo (pc rfl (pc rfl (pc rfl pn))) rfl)<|pe1 rfl<|yX rfl rfl fun b5 w4 hx4 hg2 hb3=>?_;have k3:=k2.tr hx4;have s1:=hx1.size;have s2:=hx2.size;have s3:=hx3.size;have l5:=hb3.lt;refine nl ⟨fun _ _=>hx3.tr hx4,?_⟩;refine Zp rfl (fun _=>xas)<|?_;have l4:=o1.lt b4 rfl;have R1:RVo (fun q=>q<w4.heap.size/\q≠b5/\q≠b4) w4 (.slice a1 K.length c1) K:=((RV.old (w:=w0) r1).ext k3).mono fun q _ hq=>⟨by have:=k3.size;omega,by omega,by omega⟩;exact wp_ret<|Zw rfl rfl rfl ⟨b5,b4,rfl,by omega,by omega,by omega,by omega,⟨Nat.le_refl _,l5,hb3,R1,a4,c4,rfl,h4⟩,(o1.ext hx4).bnd (by omega),k3⟩
def AD4(F:Nat)(x0:(Int×(List (Int×Int×Int))×(List Int)×(List Int))):Option (Int×List Int):=
 (AAC F (x0.1,x0.2.1,x0.2.2.1,x0.2.2.2))>>=fun x3=>
 if(!decide (x3=0))=true then some (x3,[])
 else
  (ABD F (x0.2.1.length:Int) ([[]]:List (List Int)))>>=fun x4=>
  if(!x4)=true then some (3,[])
  else(mks 8 (x0.2.1.length:Int) (0))>>=fun x5=>some (0,x5)
theorem AUN{w0:World}{v0:Value}{x0:(Int×(List (Int×Int×Int))×(List Int)×(List Int))}(r0:RV w0 v0 x0){v1:Value}(r1:RV w0 v1 ([]:List Int)){F:Nat}{r:Int×List Int}(hF:AD4 F x0=some r):
  Calls Tryz.prog 169 [v0,v1].toArray w0 (IA fun v w'=>∃u:Value,v=.tuple #[u,.int .i64 r.1]/\Ext w0 w'/\((r.1≠0/\u=.pointer none)\/(r.1=0/\∃b z,u=.pointer (some ⟨b,0,none⟩)/\w0.heap.size<=b/\w0.heap.size<=z/\Nf w'.heap.size z w' b x0.1 x0.2.1 x0.2.2.1 x0.2.2.2 r.2 (Ar.fill 40 0)))):=by
 unfold AD4 at hF;have hz:=id r0;obtain⟨_,rfl,_,_,rfl,rfl,_,_,rfl,⟨a1,cq1,rfl,p1,q3,e1⟩,_,_,rfl,⟨a2,cq2,rfl,p2,q4,e2⟩,a3,cq3,rfl,p3,q5,e3⟩:=hz;have r3:=RV.of1 p1 q3 e1;have r4:=RV.of1 p2 q4 e2;have r5:=RV.of1 p3 q5 e3;have hz:=r1.sl;obtain⟨a4,cq4,rfl,-,hc4,-⟩:=hz;refine I9 (n:=22) Tryz.func169 rfl rfl rfl<|Zr<|yX rfl rfl fun b3 w1 hx1 hg1 hb1=>?_;have r6:=r1.ext hx1;have r7:=r3.ext hx1;have r8:=r4.ext hx1;have r9:=r5.ext hx1;refine Za<|Za<|nl<|wp_seq<|Zr<|Zv (Jq rfl AA0 rfl (Bx.cs hb1))<|bS hF fun x3 Ex3 hF=>Zc (xc AOq (mc rfl mn)) (ARK (show RV (α:=(Int×(List (Int×Int×Int))×(List Int)×(List Int))) _ (.agg [.int .i64 x0.1,.slice a1 x0.2.1.length cq1,.slice a2 x0.2.2.1.length cq2,.slice a3 x0.2.2.2.length cq3].toArray) (x0.1,x0.2.1,x0.2.2.1,x0.2.2.2)from⟨_,rfl,[.int .i64 x0.1],[.slice a1 x0.2.1.length cq1]++([.slice a2 x0.2.2.1.length cq2]++[.slice a3 x0.2.2.2.length cq3]),rfl,rfl,[.slice a1 x0.2.1.length cq1],[.slice a2 x0.2.2.1.length cq2]++[.slice a3 x0.2.2.2.length cq3],rfl,r7.rep1,[.slice a2 x0.2.2.1.length cq2],[.slice a3 x0.2.2.2.length cq3],rfl,r8.rep1,r9.rep1⟩) Ex3) ?_;rintro _ w2⟨rfl,hx2⟩;have k1:=hx1.tr hx2;have hb2:=hb1.ext hx2;have r11:=r7.ext hx2;have r14:=r6.ext hx2;refine Za<|nl<|Zr<|Zm<|Zv (wO rfl rfl)<|nl<|cnd rfl (fun h3=>?_) (fun h3=>?_)
 ·have hF:=Cj hF h3;refine Zr<|Zm<|Za<|Za<|nl<|?_;cases hF;exact wp_ret<|rt rfl (.tmp rfl rfl (.tmp rfl rfl .nil)) ⟨_,rfl,k1,.inl ⟨by simpa using h3,rfl⟩⟩
 ·have hF:=DF hF h3;refine wp_skip<|wp_seq<|Zr<|Zv (BA rfl yj)<|Zv (AP rfl AAz ((Bx.cs hb2).at 1 rfl))<|Zv (Kz rfl Tryz.underlying135)<|Zm<|AAR (cs:=[.slice a4 0 cq4]) Tryz.underlying78 Le rfl (pc rfl pn) rfl rfl rfl rfl rfl fun b4 w3 hx3 hg2 hb3=>?_;have k2:=k1.tr hx3;have hb4:=hb2.ext hx3;have r16:=r11.ext hx3;have r19:=r14.ext hx3;have r15:RV w3 (.slice (some ⟨b4,0,none⟩) 1 1) ([[]]:List (List Int)):=RV.lit hb3 (css:=[[.slice a4 0 cq4]]) rfl ⟨r19.rep1,trivial⟩ rfl (ble rfl);refine bS hF fun x4 Ex4 hF=>Zc (xc ALE (mc rfl (mc rfl mn))) (AOR r15 Ex4) ?_;rintro _ w4⟨rfl,hx4⟩;have k3:=k2.tr hx4;have hb5:=hb4.ext hx4;have r20:=r16.ext hx4;refine Zv (wP rfl)<|nl<|cnd rfl (fun h4=>?_) (fun h4=>?_)
  ·have hF:=Cj hF h4;refine Zr<|Za<|Za<|nl<|?_;cases hF;exact wp_ret<|rt rfl (.tmp rfl rfl (.tmp rfl rfl .nil)) ⟨_,rfl,k3,.inl ⟨by decide,rfl⟩⟩
  ·have hF:=DF hF h4;refine wp_skip<|Zr<|Zv (Jq rfl AA0 rfl (Bx.cs hb5))<|Zm<|bS hF fun x5 Ex5 hF=>Zc (xc ASM (mc rfl (mc rfl mn))) (AUM (n:=x0.1) (a2:=a2) (a3:=a3) (c2:=cq2) (c3:=cq3) (l2:=x0.2.2.1.length) (l3:=x0.2.2.2.length) r20 hc4 Ex5) ?_;rintro _ w5⟨b,z,rfl,hgb,hgz,hlz,hne,hN,hR,hx5⟩;have k5:=k3.tr hx5;have s3:=k3.size;have k5s:=k5.size;have r8':=((RV.old (w:=w0) r4).ext k5).mono (ok':=fun q=>q<w5.heap.size/\q≠b/\q≠z) fun q _ hq=>⟨by omega,by omega,by omega⟩;have r9':=((RV.old (w:=w0) r5).ext k5).mono (ok':=fun q=>q<w5.heap.size/\q≠b/\q≠z) fun q _ hq=>⟨by omega,by omega,by omega⟩;refine Za<|Za<|nl<|?_;cases hF;exact wp_ret<|rt rfl (.tmp rfl rfl (.tmp rfl rfl .nil)) ⟨_,rfl,k5,.inr ⟨rfl,b,z,rfl,by omega,by omega,a1,cq1,a2,cq2,a3,cq3,a4,cq4,x0.2.1.length,hN,r8',r9',hc4,hR.bnd (Nat.zero_le _),hlz,hne⟩⟩
end
theorem AKg{m:Nat}{N z:Nat}{w:World}{bn bf b:Nat}{n:Int}{a1:Option Addr}{c1:Nat}{v2 v3 dv fv':Value}{K:List oG}{H:Ar 40 Int}{fr':Int}{ok:Nat->Prop}
  (h1:Bx w bn 256 [.pointer (some ⟨b,0,none⟩)]) (h2:Bx w bf 3 [.int .i64 fr']) (n1:ok bn) (n2:ok bf) (hN:Nz N z w b n a1 c1 v2 v3 dv fv' K H) (nb:ok b) (hok:∀q,q<N->q≠b->q≠z->ok q):
  AB6 Tryz.prog (BelP ok w.heap.size) m 324 #[.pointer (some ⟨bn,0,none⟩),.pointer (some ⟨bf,0,none⟩)] ((G5 K fr').map fun k=>#[fv k]) w:=by
 intro ll J Jx W kW hJ hJx hY h0;have d1:=h1.ext kW;have JW:=hN.ext kW;have hNs:=hN.size;have hNW:w.heap.size<=W.heap.size:=kW.size;refine(callsIn_wide.2 ?_:CallsIn Fence.wide m Tryz.prog 324 ([.func (.yield ll) #[] #[],.pointer (some ⟨bn,0,none⟩),.pointer (some ⟨bf,0,none⟩)].toArray) W _);refine Calls.mono (R:=IA fun v W'=>J ((G5 K fr').map fun x=>#[fv x]).length W'\/Jx W') ?_ ?_
 rotate_left
 ·rintro e W'⟨v,rfl,h⟩
  exact⟨⟨v,rfl⟩,h⟩
 have hcap:=(RVo.rv hN.rv).cap;obtain⟨aD,cD,hdv,hcD⟩:=hN.dr;subst hdv;refine I9 (n:=52) Tryz.func324 rfl rfl rfl<|Zr<|Zv (AP rfl yU ((Bx.cs d1).at 0 rfl))<|Zv (tX rfl)<|Zv (BA rfl AAM)<|Zv (BA rfl yj)<|Zv (AP rfl AAz ((Bx.cs JW.bx).at 1 rfl))<|Zv (Kz rfl Tryz.underlying135)<|Zm<|nl<|wp_block<|lp (I:=fun m' L' w1=>∃(k:Nat)(pre:List (Int×Int×Int)),k+m'=K.length/\G5 K fr'=pre++xF K fr' m' k/\L' 13=.int .i64 (k:Int)/\L' 12=.int .i64 (K.length:Int)/\L' 11=.slice a1 K.length c1/\L' 0=.func (.yield ll) #[] #[]/\L' 1=.pointer (some ⟨bn,0,none⟩)/\L' 2=.pointer (some ⟨bf,0,none⟩)/\J pre.length w1/\BelP ok w.heap.size W w1) K.length
  ⟨0,[],by simp,rfl,rfl,rfl,rfl,rfl,rfl,rfl,h0,BelP.refl⟩ ?_
 rintro m' L' w1⟨k,pre,hk,hl,l13,l12,l11,l0,l1,l2,hj,hx⟩;refine Zr<|Zv (Oi l13 l12)<|nl<|wp_seq<|cnd rfl (fun hc=>?_) (fun hc=>?_)
 ·have hc:(k:Int)<(K.length:Int):=by simpa using hc
  have hkl:k<K.length:=by omega
  obtain⟨m'',rfl⟩:∃q,m'=q+1:=⟨m'-1,by omega⟩;have hg:K[k]?=some K[k]:=List.getElem?_eq_getElem hkl;have hix:ix K (k:Int)=some K[k]:=by simp[ix,hg]
  have J1:=JW.belp hx hNs nb hok;have hz:=(RVo.sl.1 J1.rv);obtain⟨a2',c2',e3,_,_,els⟩:=hz;cases e3;have hz:=Els.ix els hix;obtain⟨b5,off5,cs5,rfl,i1,i2,q5,hcE⟩:=hz;obtain rfl:=Flat.iff.1 q5;have hadd:BH ((k:Int)+1)=((k+1:Nat):Int):=by
   rw[BH,IntWalk.i64_in _ (by unfold maxLen at hcap;omega)]
   rfl
  refine wp_skip<|wp_seq<|wp_block<|Zr<|Zv (FY l13)<|Zv (Dq l11 l13 Tryz.underlying135 wQ i1 i2)<|Zv (Jq rfl wQ rfl hcE)<|yY wQ fun b6 w2 hx2 hg2 hb2=>Za<|xk rfl rfl rfl wQ hb2 rfl rfl (ble rfl) fun w3 hch3 hb3=>?_;have kx3:Ext w1 w3:=hx2.chg hch3 hg2;have hj3:J pre.length w3:=hJ _ _ _ hj kx3;have hx3:=hx.ext kx3 (Nat.le_trans hNW hx.size);have J3:=J1.ext kx3;have d1':=((h1.ext kW).belp hx (by have:=h1.lt;omega) n1).ext kx3;have d2':=((h2.ext kW).belp hx (by have:=h2.lt;omega) n2).ext kx3;have hb3':Bx w3 b6 147 (Flat.enc K[k]):=hb3;have rdr:RV w3 (.slice aD 0 cD) ([]:List Int):=RV.of1 (Nat.zero_le _) hcD (.inl rfl);refine nl<|wp_seq<|Zr<|Zv (AP l1 yU ((Bx.cs d1').at 0 rfl))<|Zv (tX rfl)<|Zv (BA rfl APe)<|Zv (AP rfl Le ((Bx.cs J3.bx).at 4 rfl))<|Zm<|Zc (xc ALA (mc rfl (mc rfl mn))) (AOQ (F:=1) rdr (APv (x:=(k:Int)) Nat.one_pos)) ?_;rintro _ w4⟨rfl,hx4⟩;have hj4:=hJ _ _ _ hj3 hx4;have hx4':=hx3.ext hx4 (Nat.le_trans hNW (Nat.le_trans hx.size kx3.size));have e2:=d2'.ext hx4;have hb4:=hb3'.ext hx4;refine nl<|cnd rfl (fun h=>by cases h) (fun _=>?_);refine wp_skip<|Zr<|Zv (BA rfl zu)<|Zv (AP rfl Ap ((Bx.cs hb4).at 1 rfl))<|Za<|nl<|wp_seq<|Zr<|Zv (BA rfl zu)<|Zv (AP rfl Ap ((Bx.cs hb4).at 1 rfl))<|Zv (AP l2 Ap ((Bx.cs e2).at 0 rfl))<|Zv (zL rfl rfl)<|nl<|cnd rfl (fun hf5=>?_) (fun hf5=>?_)
  ·refine rg<|Zv (BA rfl zX)<|Zv (AP rfl Ap ((Bx.cs hb4).at 0 rfl))<|Za<|nl<|?_
   refine wp_seq<|rgW (m:=m)<|Ko rfl rfl nofun (BA rfl zX)<|Ko rfl rfl nofun (AP rfl Ap ((Bx.cs hb4).at 0 rfl))<|Ko rfl rfl nofun (AP l2 Ap ((Bx.cs e2).at 0 rfl))<|Ko rfl rfl nofun (zL rfl rfl)<|Ko rfl rfl nofun Zk<|Or.elim (Bool.eq_false_or_eq_true (decide (K[k].1=fr'))) (fun hf0=>?_) (fun hf0=>?_)
   ·have hfr:xF K fr' (m''+1) k=(fr',K[k].1,(k:Int))::xF K fr' m'' (k+1):=by
     simp only[xF,hg,hf0,hf5,Bool.true_or,Bool.or_true,if_true,Bool.false_eq_true,if_false]
    have hus:((G5 K fr').map fun u=>(#[fv u]:Array Value))[pre.length]?=some #[fv ((fr',K[k].1,(k:Int)):Int×Int×Int)]:=by
     rw[List.getElem?_map,hl,List.getElem?_append_right (Nat.le_refl _),Nat.sub_self,hfr]
     rfl
    have hz:=hY pre.length #[fv ((fr',K[k].1,(k:Int)):Int×Int×Int)] w4 hus hj4;obtain⟨fn,tmps,assign,body,hy,hR⟩:=hz;refine gfW rfl rfl rfl rfl rfl (BP hf0) rfl<|gfW rfl rfl rfl rfl rfl (BP hf0) rfl<|gfW rfl rfl rfl rfl rfl (BP hf0) rfl<|gfW rfl rfl rfl rfl rfl (BP hf0) rfl<|Ko rfl rfl nofun (wI rfl hf0 rfl)<|Ko rfl rfl nofun Zk<|xq rfl rfl rfl rfl rfl (Md.bt (rfl:true=true))<|Ko rfl rfl nofun (FY l0)<|xq rfl rfl rfl rfl rfl (Md.bt (rfl:true=true))<|Ko rfl rfl nofun (AP l2 Ap ((Bx.cs e2).at 0 rfl))<|xq rfl rfl rfl rfl rfl (Md.bt (rfl:true=true))<|Ko rfl rfl nofun Zk<|xq rfl rfl rfl rfl rfl (Md.bt (rfl:true=true))<|Ko rfl rfl nofun Zk<|xq rfl rfl rfl rfl rfl (Md.bt (rfl:true=true))<|Ko rfl rfl nofun (AAe (r:=[.int .i64 fr',.int .i64 (K[k].1),.int .i64 (k:Int)]) bF ADW (pc rfl (pc rfl (pc rfl pn))) rfl)<|xq rfl rfl rfl rfl rfl (Md.bt (rfl:true=true))<|ylW rfl rfl nofun (xyl rfl (mc rfl mn) hy) hR fun e w5 he=>?_;rcases he with⟨rfl,hj5,k5⟩|⟨rfl,hj5⟩
    ·refine⟨_,rfl,xq rfl rfl rfl rfl rfl (Md.bt (rfl:true=true))<|Ko rfl rfl nofun (wP rfl)<|Ko rfl rfl nofun (wI rfl (rfl:true=true) rfl)<|nlW<|cnd rfl (fun h=>by cases h) (fun _=>wp_skip<|rg<|Zv (FH l13 rfl)<|Zm<|nl ?_)⟩
     refine lq m'' (by omega) ⟨k+1,pre++[(fr',K[k].1,(k:Int))],by omega,by rw[hl,hfr,List.append_assoc];rfl,congrArg _ hadd,l12,l11,l0,l1,l2,?_,hx4'.trans k5⟩;rw[List.length_append];exact hj5
    ·refine⟨_,rfl,xq rfl rfl rfl rfl rfl (Md.bt (rfl:true=true))<|Ko rfl rfl nofun (wP rfl)<|Ko rfl rfl nofun (wI rfl (rfl:true=true) rfl)<|nlW<|cnd rfl (fun _=>?_) (fun h=>by cases h)⟩
     exact wp_ret<|rt rfl .nil (.inr hj5)
   ·have hfr:xF K fr' (m''+1) k=(fr',K[k].1,(k:Int))::xF K fr' m'' (k+1):=by
     simp only[xF,hg,hf0,hf5,Bool.true_or,Bool.or_true,if_true,Bool.false_eq_true,if_false]
    have hus:((G5 K fr').map fun u=>(#[fv u]:Array Value))[pre.length]?=some #[fv ((fr',K[k].1,(k:Int)):Int×Int×Int)]:=by
     rw[List.getElem?_map,hl,List.getElem?_append_right (Nat.le_refl _),Nat.sub_self,hfr]
     rfl
    have hz:=hY pre.length #[fv ((fr',K[k].1,(k:Int)):Int×Int×Int)] w4 hus hj4;obtain⟨fn,tmps,assign,body,hy,hR⟩:=hz;refine xq rfl rfl rfl rfl rfl (Md.bf hf0)<|Ko rfl rfl nofun (BA rfl zu)<|xq rfl rfl rfl rfl rfl (Md.bf hf0)<|Ko rfl rfl nofun (AP rfl Ap ((Bx.cs hb4).at 1 rfl))<|xq rfl rfl rfl rfl rfl (Md.bf hf0)<|Ko rfl rfl nofun (AP l2 Ap ((Bx.cs e2).at 0 rfl))<|xq rfl rfl rfl rfl rfl (Md.bf hf0)<|Ko rfl rfl nofun (zL rfl rfl)<|Ko rfl rfl nofun (yH rfl hf0 rfl)<|Ko rfl rfl nofun Zk<|xq rfl rfl rfl rfl rfl (Md.bt hf5)<|Ko rfl rfl nofun (FY l0)<|xq rfl rfl rfl rfl rfl (Md.bt hf5)<|Ko rfl rfl nofun (AP l2 Ap ((Bx.cs e2).at 0 rfl))<|xq rfl rfl rfl rfl rfl (Md.bt hf5)<|Ko rfl rfl nofun Zk<|xq rfl rfl rfl rfl rfl (Md.bt hf5)<|Ko rfl rfl nofun Zk<|xq rfl rfl rfl rfl rfl (Md.bt hf5)<|Ko rfl rfl nofun (AAe (r:=[.int .i64 fr',.int .i64 (K[k].1),.int .i64 (k:Int)]) bF ADW (pc rfl (pc rfl (pc rfl pn))) rfl)<|xq rfl rfl rfl rfl rfl (Md.bt hf5)<|ylW rfl rfl nofun (xyl rfl (mc rfl mn) hy) hR fun e w5 he=>?_;rcases he with⟨rfl,hj5,k5⟩|⟨rfl,hj5⟩
    ·refine⟨_,rfl,xq rfl rfl rfl rfl rfl (Md.bt hf5)<|Ko rfl rfl nofun (wP rfl)<|Ko rfl rfl nofun (wI rfl hf5 rfl)<|nlW<|cnd rfl (fun h=>by cases h) (fun _=>wp_skip<|rg<|Zv (FH l13 rfl)<|Zm<|nl ?_)⟩
     refine lq m'' (by omega) ⟨k+1,pre++[(fr',K[k].1,(k:Int))],by omega,by rw[hl,hfr,List.append_assoc];rfl,congrArg _ hadd,l12,l11,l0,l1,l2,?_,hx4'.trans k5⟩;rw[List.length_append];exact hj5
    ·refine⟨_,rfl,xq rfl rfl rfl rfl rfl (Md.bt hf5)<|Ko rfl rfl nofun (wP rfl)<|Ko rfl rfl nofun (wI rfl hf5 rfl)<|nlW<|cnd rfl (fun _=>?_) (fun h=>by cases h)⟩
     exact wp_ret<|rt rfl .nil (.inr hj5)
  ·have hf5:decide (K[k].2.1=fr')=false:=by simpa using hf5
   refine wp_skip<|wp_seq<|rgW (m:=m)<|Ko rfl rfl nofun (BA rfl zX)<|Ko rfl rfl nofun (AP rfl Ap ((Bx.cs hb4).at 0 rfl))<|Ko rfl rfl nofun (AP l2 Ap ((Bx.cs e2).at 0 rfl))<|Ko rfl rfl nofun (zL rfl rfl)<|Ko rfl rfl nofun Zk<|Or.elim (Bool.eq_false_or_eq_true (decide (K[k].1=fr'))) (fun hf0=>?_) (fun hf0=>?_)
   ·have hfr:xF K fr' (m''+1) k=(fr',K[k].2.1,(k:Int))::xF K fr' m'' (k+1):=by
     simp only[xF,hg,hf0,hf5,Bool.true_or,Bool.or_true,if_true,Bool.false_eq_true,if_false]
    have hus:((G5 K fr').map fun u=>(#[fv u]:Array Value))[pre.length]?=some #[fv ((fr',K[k].2.1,(k:Int)):Int×Int×Int)]:=by
     rw[List.getElem?_map,hl,List.getElem?_append_right (Nat.le_refl _),Nat.sub_self,hfr]
     rfl
    have hz:=hY pre.length #[fv ((fr',K[k].2.1,(k:Int)):Int×Int×Int)] w4 hus hj4;obtain⟨fn,tmps,assign,body,hy,hR⟩:=hz;refine gfW rfl rfl rfl rfl rfl (BP hf0) rfl<|gfW rfl rfl rfl rfl rfl (BP hf0) rfl<|gfW rfl rfl rfl rfl rfl (BP hf0) rfl<|gfW rfl rfl rfl rfl rfl (BP hf0) rfl<|Ko rfl rfl nofun (wI rfl hf0 rfl)<|Ko rfl rfl nofun Zk<|xq rfl rfl rfl rfl rfl (Md.bt (rfl:true=true))<|Ko rfl rfl nofun (FY l0)<|xq rfl rfl rfl rfl rfl (Md.bt (rfl:true=true))<|Ko rfl rfl nofun (AP l2 Ap ((Bx.cs e2).at 0 rfl))<|xq rfl rfl rfl rfl rfl (Md.bt (rfl:true=true))<|Ko rfl rfl nofun Zk<|xq rfl rfl rfl rfl rfl (Md.bt (rfl:true=true))<|Ko rfl rfl nofun Zk<|xq rfl rfl rfl rfl rfl (Md.bt (rfl:true=true))<|Ko rfl rfl nofun (AAe (r:=[.int .i64 fr',.int .i64 (K[k].2.1),.int .i64 (k:Int)]) bF ADW (pc rfl (pc rfl (pc rfl pn))) rfl)<|xq rfl rfl rfl rfl rfl (Md.bt (rfl:true=true))<|ylW rfl rfl nofun (xyl rfl (mc rfl mn) hy) hR fun e w5 he=>?_;rcases he with⟨rfl,hj5,k5⟩|⟨rfl,hj5⟩
    ·refine⟨_,rfl,xq rfl rfl rfl rfl rfl (Md.bt (rfl:true=true))<|Ko rfl rfl nofun (wP rfl)<|Ko rfl rfl nofun (wI rfl (rfl:true=true) rfl)<|nlW<|cnd rfl (fun h=>by cases h) (fun _=>wp_skip<|rg<|Zv (FH l13 rfl)<|Zm<|nl ?_)⟩
     refine lq m'' (by omega) ⟨k+1,pre++[(fr',K[k].2.1,(k:Int))],by omega,by rw[hl,hfr,List.append_assoc];rfl,congrArg _ hadd,l12,l11,l0,l1,l2,?_,hx4'.trans k5⟩;rw[List.length_append];exact hj5
    ·refine⟨_,rfl,xq rfl rfl rfl rfl rfl (Md.bt (rfl:true=true))<|Ko rfl rfl nofun (wP rfl)<|Ko rfl rfl nofun (wI rfl (rfl:true=true) rfl)<|nlW<|cnd rfl (fun _=>?_) (fun h=>by cases h)⟩
     exact wp_ret<|rt rfl .nil (.inr hj5)
   ·have hfr:xF K fr' (m''+1) k=xF K fr' m'' (k+1):=by
     simp only[xF,hg,hf0,hf5,Bool.or_self,Bool.false_eq_true,if_false]
    refine xq rfl rfl rfl rfl rfl (Md.bf hf0)<|Ko rfl rfl nofun (BA rfl zu)<|xq rfl rfl rfl rfl rfl (Md.bf hf0)<|Ko rfl rfl nofun (AP rfl Ap ((Bx.cs hb4).at 1 rfl))<|xq rfl rfl rfl rfl rfl (Md.bf hf0)<|Ko rfl rfl nofun (AP l2 Ap ((Bx.cs e2).at 0 rfl))<|xq rfl rfl rfl rfl rfl (Md.bf hf0)<|Ko rfl rfl nofun (zL rfl rfl)<|Ko rfl rfl nofun (yH rfl hf0 rfl)<|Ko rfl rfl nofun Zk<|gfW rfl rfl rfl rfl rfl (Gi hf5) rfl<|gfW rfl rfl rfl rfl rfl (Gi hf5) rfl<|gfW rfl rfl rfl rfl rfl (Gi hf5) rfl<|gfW rfl rfl rfl rfl rfl (Gi hf5) rfl<|gfW rfl rfl rfl rfl rfl (Gi hf5) rfl<|gfW rfl rfl rfl rfl rfl (Gi hf5) rfl<|gfW rfl rfl rfl rfl rfl (Gi hf5) rfl<|Ko rfl rfl nofun (yH rfl hf5 rfl)<|nlW<|cnd rfl (fun h=>by cases h) (fun _=>?_);refine wp_skip<|rg<|Zv (FH l13 rfl)<|Zm<|nl ?_;exact lq m'' (by omega) ⟨k+1,pre,by omega,by rw[hl,hfr],congrArg _ hadd,l12,l11,l0,l1,l2,hj4,hx4'⟩
 ·have hc:¬(k:Int)<(K.length:Int):=by simpa using hc
  obtain rfl:m'=0:=by omega
  refine wp_exit<|rtn rfl .nil (.inl ?_);rw[List.length_map,hl];simp only[xF,List.append_nil];exact hj
theorem ARL{m:Nat}{N:Nat}{w:World}{bn bf b:Nat}{n:Int}{a1:Option Addr}{c1:Nat}{v2 v3 dv fv':Value}{K:List oG}{H:Ar 40 Int}{fr':Int}{ok:Nat->Prop}
  (h1:Bx w bn 256 [.pointer (some ⟨b,0,none⟩)]) (h2:Bx w bf 3 [.int .i64 fr']) (n1:ok bn) (n2:ok bf) (hN:Nt N w b n a1 c1 v2 v3 dv fv' K H) (hok:∀q,q<N->ok q):
  AB6 Tryz.prog (BelP ok w.heap.size) m 324 #[.pointer (some ⟨bn,0,none⟩),.pointer (some ⟨bf,0,none⟩)] ((G5 K fr').map fun k=>#[fv k]) w:=AKg h1 h2 n1 n2 hN.nz (hok _ hN.lb) fun q h _ _=>hok q h
def WyV(lo:Nat)(w:World)(u:Value)(b:Nat)(fr':Int):Prop:=∃bn bf,u=.func (.func 324) #[] #[.pointer (some ⟨bn,0,none⟩),.pointer (some ⟨bf,0,none⟩)]/\Bx w bn 256 [.pointer (some ⟨b,0,none⟩)]/\Bx w bf 3 [.int .i64 fr']/\lo<=bn/\lo<=bf
theorem WyV.go{lo N:Nat}{w:World}{u:Value}{b:Nat}{n:Int}{a1:Option Addr}{c1:Nat}{v2 v3 dv fv':Value}{K:List oG}{H:Ar 40 Int}{fr':Int}{ok:Nat->Prop}(h:WyV lo w u b fr')(hN:Nt N w b n a1 c1 v2 v3 dv fv' K H)(hok:∀q,q<N->ok q)(hlo:∀q,lo<=q->q<w.heap.size->ok q)(m:Nat):
  ∃gf cs,u=.func (.func gf) #[] cs/\Ad Tryz.prog gf/\AB6 Tryz.prog (BelP ok w.heap.size) m gf cs ((G5 K fr').map fun k=>#[fv k]) w:=by
 obtain⟨bn,bf,rfl,h1,h2,h3,h4⟩:=h;exact⟨324,_,rfl,AOw,ARL h1 h2 (hlo _ h3 h1.lt) (hlo _ h4 h2.lt) hN hok⟩
theorem WyV.goz{lo N z:Nat}{w:World}{u:Value}{b:Nat}{n:Int}{a1:Option Addr}{c1:Nat}{v2 v3 dv fv':Value}{K:List oG}{H:Ar 40 Int}{fr':Int}{ok:Nat->Prop}(h:WyV lo w u b fr')(hN:Nz N z w b n a1 c1 v2 v3 dv fv' K H)(hb:ok b)(hok:∀q,q<N->q≠b->q≠z->ok q)(hlo:∀q,lo<=q->q<w.heap.size->ok q)(m:Nat):
  ∃gf cs,u=.func (.func gf) #[] cs/\Ad Tryz.prog gf/\AB6 Tryz.prog (BelP ok w.heap.size) m gf cs ((G5 K fr').map fun k=>#[fv k]) w:=by
 obtain⟨bn,bf,rfl,h1,h2,h3,h4⟩:=h;exact⟨324,_,rfl,AOw,AKg h1 h2 (hlo _ h3 h1.lt) (hlo _ h4 h2.lt) hN hb hok⟩
theorem AMH{w0:World}{b:Nat}{fr':Int}:Calls Tryz.prog 262 [.pointer (some ⟨b,0,none⟩),.int .i64 fr'].toArray w0 (IA fun u w'=>WyV w0.heap.size w' u b fr'/\Ext w0 w'):=by
 refine I9 (n:=6) Tryz.func262 rfl rfl rfl<|Zr<|yX rfl rfl fun bn w1 hx1 hg1 hb1=>yX rfl rfl fun bf w2 hx2 hg2 hb2=>?_;have s1:=hx1.size;refine Za<|nl<|Zr<|Zv (xmf (l:=[]) (k:=[.pointer (some ⟨bn,0,none⟩),.pointer (some ⟨bf,0,none⟩)]) rfl rfl)<|Za<|nl<|wp_ret<|Zw rfl rfl rfl ⟨⟨bn,bf,rfl,hb1.ext hx2,hb2,hg1,by omega⟩,hx1.tr hx2⟩
end Go.Proofs.YtfmelbioccbdoaaGreat
end
section
namespace Go.Md
open Go Go.RowKit
section
section
variable {α:Type}[Enc α][Flat α]{e:TypeId}{base:Nat}{w w':World}{v:Value}{l k:List α}
def Que(e:TypeId)(base:Nat)(w:World)(v:Value)(l:List α):Prop:=
 (v=.slice none 0 0/\l=[])\/∃g off cap cur,v=.slice (some ⟨g,off,none⟩) l.length cap/\base<=g/\Bx w g e cur/\l.length<=cap/\cap<=maxLen/\off+cap*Enc.n α<=cur.length/\(cur.drop off).take (l.length*Enc.n α)=l.flatMap Flat.enc
theorem Que.nil:Que (α:=α) e base w (.slice none 0 0) []:=.inl ⟨rfl,rfl⟩
theorem Row.que(h:Row e base w v l):Que e base w v l:=by
 rcases h.2 with⟨rfl,h0⟩|⟨g,cap,cur,rfl,hb,hg,hnc,hcm,hs,ht⟩
 ·exact .inl ⟨rfl,List.eq_nil_of_length_eq_zero h0⟩
 ·exact .inr ⟨g,0,cap,cur.toList,rfl,hb,by simpa[Bx]using hg,hnc,hcm,by simp[hs],by simpa using ht⟩
theorem Que.lt(h:Que e base w v l):∀q,v.ownBlock=some q->base<=q/\q<w.heap.size:=fun q hq=>by
 rcases h with⟨rfl,_⟩|⟨g,off,cap,cur,rfl,hb,hx,_⟩
 ·cases hq
 ·cases hq;exact⟨hb,hx.lt⟩
theorem Que.bnd{B:Nat}(h:Que e base w v l)(hB:B<=base):Que e B w v l:=
 h.imp id fun⟨g,off,cap,cur,e1,hb,r⟩=>⟨g,off,cap,cur,e1,by omega,r⟩
theorem Que.keep(h:Que e base w v l)(k:∀q,v.ownBlock=some q->w'.heap[q]?=w.heap[q]?):Que e base w' v l:=by
 rcases h with h|⟨g,off,cap,cur,rfl,hb,hx,r⟩
 ·exact .inl h
 ·exact .inr ⟨g,off,cap,cur,rfl,hb,(k g rfl).trans hx,r⟩
theorem Que.ext(h:Que e base w v l)(k:Ext w w'):Que e base w' v l:=h.keep fun q hq=>k.block q (h.lt q hq).2
theorem Que.chg{b:Nat}(h:Que e base w v l)(k:Chg b w w')(hb:some b≠v.ownBlock):Que e base w' v l:=h.keep fun q hq=>k.other q fun e=>hb (by rw[hq,e])
theorem Que.ne_old{b:Nat}(h:Que e base w v l)(hb:b<base):some b≠v.ownBlock:=fun e2=>by
 have:=h.lt b e2.symm;omega
theorem Que.chgo{b:Nat}(h:Que e base w v l)(k:Chg b w w')(hb:b<base):Que e base w' v l:=h.chg k (h.ne_old hb)
theorem Que.isc(h:Que e base w v l):∀b,v.ownBlock=some b->∃o:Obj,w.heap[b]?=some o/\o.isCells=true:=fun b hb=>by
 rcases h with⟨rfl,_⟩|⟨g,off,cap,cur,rfl,_,hx,_⟩
 ·cases hb
 ·cases hb;exact⟨_,hx,rfl⟩
theorem Que.asg{B:Nat}(h:Que e base w v l)(k:Asg B w w'):Que e base w' v l:=by
 obtain⟨W1,q,o,_,h1,h2,h3,_,h4⟩:=k;refine(h.ext h1).chg h4 fun e2=>?_;obtain⟨o',h5,h6⟩:=(h.ext h1).isc q e2.symm;rw[h2]at h5;cases h5;rw[h3]at h6;cases h6
theorem Que.belp{ok:Nat->Prop}{N:Nat}(h:Que e base w v l)(k:BelP ok N w w')(hv:∀q,v.ownBlock=some q->q<N/\ok q):Que e base w' v l:=h.keep fun q hq=>k.block q (hv q hq).1 (hv q hq).2
theorem Que.tak{B:Nat}(h:Que e base w v l)(k:Tak B w w'):Que e base w' v l:=by
 rcases h with h|⟨g,off,cap,cur,rfl,hb,hx,r⟩
 ·exact .inl h
 ·exact .inr ⟨g,off,cap,cur,rfl,hb,hx.tak k,r⟩
theorem Que.sl(h:Que e base w v l):∃a cap,v=.slice a l.length cap:=by
 rcases h with⟨rfl,rfl⟩|⟨g,off,cap,cur,rfl,_⟩<;>exact⟨_,_,rfl⟩
theorem Que.els(h:Que e base w v l):RVo (fun q=>base<=q/\q<w.heap.size) w v l:=by
 rcases h with⟨rfl,rfl⟩|⟨g,off,cap,cur,rfl,hb,hx,h1,h2,h3,h4⟩
 ·exact RVo.nil (Nat.zero_le _)
 ·refine RVo.sl.2 ⟨_,cap,rfl,h1,h2,.inr ⟨g,off,rfl,⟨hb,hx.lt⟩,hx.lt,fun i x hi=>⟨Flat.enc x,Flat.iff.2 rfl,fun j c hc=>?_⟩⟩⟩
  have h5:=AEj l i x j c hi hc;rw[<-h4,List.getElem?_take]at h5;split at h5
  ·rw[List.getElem?_drop]at h5
   have:=Bx.cs hx _ c h5;rwa [Nat.zero_add,<-Nat.add_assoc]at this
  ·cases h5
theorem Que.rv(h:Que e base w v l):RV w v l:=h.els.rv
theorem Que.drop{P:Program}{t:TypeId}{agg:Bool}{bytes:Nat}{zz:List Value}{a:Option Addr}{len cap:Nat}{x:α}(h:Que e base w (.slice a len cap) (x::l))(ht:P.underlying t=some (.slice e))(he:TI P e agg (Enc.n α) bytes zz):
  ∃a' c',Que e base w (.slice a' l.length c') l/\(Value.slice a' l.length c').ownBlock=(Value.slice a len cap).ownBlock/\∀(w':World)(n:Nat)(L:Fr)(x y:Operand)(ty:TypeId)(pos:String)(af:Array Edge)(dst:Option Nat)(gdd:Option (Nat×Bool)),ev n L x=.slice a len cap->ev n L y=.int .i64 1->
   (execOp (ev n L) {dst:=dst,op:=.slice t x (some y) none none,type:=ty,pos:=pos,after:=af,guard:=gdd}).run P w'=.ok (.value (.slice a' l.length c')) w':=by
 rcases h with⟨_,h0⟩|⟨g,off,cp,cur,e1,hb,hx,h1,h2,h3,h4⟩
 ·cases h0
 cases e1;rw[List.length_cons]at h1 h4;have hn:(x::l).length=l.length+1:=rfl;by_cases hc:cap=1
 ·have hl0:l=[]:=List.eq_nil_of_length_eq_zero (by omega)
  subst hl0;refine⟨some ⟨g,off,none⟩,0,.inr ⟨g,off,0,cur,rfl,hb,hx,Nat.le_refl _,Nat.zero_le _,by omega,by simp⟩,rfl,?_⟩;intro w' n L x y ty pos af dst gdd hx hy;subst hc;simp[execOp,Instr.sliceAt,run_underlying ht,Instr.slice,hx,hy,Instr.sliceBounds,Instr.sliceBound,asIntOf,he.size]
 ·refine⟨some ⟨g,off+Enc.n α,none⟩,cap-1,.inr ⟨g,off+Enc.n α,cap-1,cur,rfl,hb,hx,by omega,by omega,?_,?_⟩,rfl,?_⟩
  ·have:cap*Enc.n α=(cap-1)*Enc.n α+Enc.n α:=by
    obtain⟨q,rfl⟩:∃q,cap=q+1:=⟨cap-1,by omega⟩;rw[Nat.add_sub_cancel,Nat.add_mul,Nat.one_mul]
   omega
  ·have h5:=congrArg (List.drop (Enc.n α)) h4
   rw[List.flatMap_cons,List.drop_left' (Flat.len x),List.drop_take,List.drop_drop,Nat.add_mul,Nat.one_mul,Nat.add_sub_cancel]at h5;exact h5
  ·intro w' n L x y ty pos af dst gdd hx hy
   have:1<=cap:=by omega
   simp[execOp,Instr.sliceAt,run_underlying ht,Instr.slice,hx,hy,Instr.sliceBounds,Instr.sliceBound,asIntOf,he.size,Addr.add,hc];rw[if_pos (by omega)];by_cases h0:Enc.n α=0
   ·simp[h0]
   ·simp[h0]
theorem AOS{P:Program}{st ty:TypeId}{agg:Bool}{bytes:Nat}{z:List Value}{a:Option Addr}{cap:Nat}(ht:P.underlying st=some (.slice e))
  (he:TI P e agg (Enc.n α) bytes z) (hm:0<Enc.n α) (hb1:1<=bytes) (hrow:Que e base w v l) (hk:Els α (fun _=>True) w a k) (hk1:1<=k.length) (hb:(l.length+k.length)*bytes<=140737488355328) (hbase:base<=w.heap.size):
  ∃v' w',(Builtin.append_ #[st,st] ty #[v,.slice a k.length cap]).run P w=.ok v' w'/\Que e base w' v' (l++k)/\w.grownBy w' v.ownBlock/\(v'.ownBlock=v.ownBlock\/∃g,v'.ownBlock=some g/\w.heap.size<=g):=by
 rcases hrow with⟨rfl,rfl⟩|⟨g,off,cp,cur,rfl,hbg,hx,hnc,hcm,hcs,htake⟩
 ·obtain⟨v',w',h1,h2,h3,h4⟩:=AKP (ty:=ty) (cap:=cap) ht he hm hb1 (Row.nil (α:=α) (e:=e) (base:=base)) hk hb hbase
  exact⟨v',w',h1,h2.que,h3,h4⟩
 obtain⟨i,zv,hi,hn,hby,hz,hzc,_⟩:=he.info;have h63:l.length+k.length<=maxLen:=by
  have h1:l.length+k.length<=(l.length+k.length)*bytes:=by
   have:=Nat.mul_le_mul_left (l.length+k.length) hb1;omega
  have h2:(140737488355328:Nat)<=maxLen:=by unfold maxLen;omega
  omega
 have hzs:zv.cells.size=Enc.n α:=by rw[hzc];simpa using he.zlen
 have h1:∀u∈k.flatMap Flat.enc,u.oneCell'=true:=fun u hu=>by obtain⟨y,_,hy⟩:=List.mem_flatMap.1 hu;exact Flat.one y u hy
 obtain⟨ad,rfl,hsrc⟩:∃ad,a=some ad/\∀j u,(k.flatMap Flat.enc)[j]?=some u->w.cell? (ad.add j)=some u:=by
  rcases hk with rfl|⟨b,off,e1,_,_,h⟩
  ·simp at hk1
  ·subst e1
   refine⟨_,rfl,fun j u hj=>?_⟩;rw[AAq];have:=AHi (w:=w) (b:=b) (off:=off) k 0 (fun i x hx=>by
    obtain⟨cs,h1,h2⟩:=h i x hx;rw[Flat.iff.1 h1]at h2;simpa using h2) j u hj
   simpa using this
 by_cases hr:l.length+k.length<=cp
 ·have hfc:=run_firstCells_some (P:=P) w (Enc.n α) k.length ad k.length cap (k.flatMap Flat.enc) (Flat.flen k) hsrc
  have hle:(l.length+k.length)*Enc.n α<=cp*Enc.n α:=Nat.mul_le_mul_right _ hr;rw[Nat.add_mul]at hle;have hst:=run_storeCells_at P g (off+l.length*Enc.n α) e (k.flatMap Flat.enc) 0 cur.toArray w hx (by rw[Flat.flen];simp;omega) h1;simp only[Nat.add_zero]at hst;have e2:(cur.toArray.toList.take (off+l.length*Enc.n α)++k.flatMap Flat.enc++cur.toArray.toList.drop (off+l.length*Enc.n α+(k.flatMap Flat.enc).length))=iW cur (off+l.length*Enc.n α) (k.flatMap Flat.enc):=rfl;rw[e2]at hst;have hx2:=setRow_heap w g cur.toArray (iW cur (off+l.length*Enc.n α) (k.flatMap Flat.enc)).toArray e _ hx;refine⟨.slice (some ⟨g,off,none⟩) (l.length+k.length) cp,_,?_,.inr ⟨g,off,cp,iW cur (off+l.length*Enc.n α) (k.flatMap Flat.enc),by rw[List.length_append],hbg,hx2,by rw[List.length_append];exact hr,hcm,?_,?_⟩,⟨rfl,rfl,rfl,by simp[World.setRow],fun q hq hne=>setRow_other _ _ _ _ fun e=>hne (by rw[e];rfl)⟩,.inl rfl⟩
  ·simp[Builtin.append_,run_underlying ht,sizeOf,typeInfo,hi,Builtin.lenOf,hr,hn,hfc,Addr.add_lit,hst]
  ·unfold iW
   rw[List.length_append,List.length_append,List.length_take,List.length_drop,Flat.flen];omega
  ·unfold iW
   have e3:off<=cur.length:=by omega
   have e4:(cur.take (off+l.length*Enc.n α)).drop off=l.flatMap Flat.enc:=by
    rw[List.drop_take,Nat.add_sub_cancel_left];exact htake
   rw[List.length_append,List.flatMap_append,List.append_assoc,List.drop_append_of_le_length (by rw[List.length_take];omega),e4,<-List.append_assoc];rw[List.take_append_of_le_length (by rw[List.length_append,Flat.flen,Flat.flen,Nat.add_mul];exact Nat.le_refl _),List.take_of_length_le (by rw[List.length_append,Flat.flen,Flat.flen,Nat.add_mul];exact Nat.le_refl _)]
 ·obtain⟨v',w',hrun,hown,hgr⟩:=run_append_arg_grows (P:=P) w st ty e i zv (Enc.n α) bytes ht hi hz hn hby hzs hm ⟨g,off,none⟩ l.length cp (l.flatMap Flat.enc) (Flat.flen l) (fun j u hj=>by
   rw[<-htake,List.getElem?_take]at hj;split at hj
   ·rw[List.getElem?_drop]at hj
    rw[AAq];have:=Bx.cs hx _ u hj;rwa [Nat.zero_add]at this
   ·cases hj) ad k.length cap (k.flatMap Flat.enc) (Flat.flen k) hsrc (by omega) h63 hb
  have hrw:Row e w.heap.size w' v' (l++k):=by
   unfold Row;rw[List.length_append,List.flatMap_append];exact hown
  refine⟨v',w',hrun,(hrw.bnd hbase).que,⟨hgr.os,hgr.tape,hgr.output,hgr.size,fun q hq _=>hgr.block q hq (by simp)⟩,?_⟩;rcases AI4 hown with⟨h,h0⟩|⟨g,h,h2,_⟩
  ·omega
  ·exact .inr ⟨g,h,h2⟩
end
section
variable {P:Program}{Q:Exit->Act->World->Prop}{n:Nat}{L:Fr}{D:List Deferred}{w:World}{ops:Array Oper}{rest:List Oper}
variable {ty:TypeId}{pos:String}{af:Array Edge}{x y:Operand}
theorem AJf{α:Type}[Enc α][Flat α]{d:Nat}{st e:TypeId}{agg:Bool}{bytes base:Nat}{z:List Value}{v:Value}{a:Option Addr}{cap:Nat}{l k r:List α}(hs:ev n L x=v)(hy:ev n L y=.slice a k.length cap)(ht:P.underlying st=some (.slice e))
  (he:TI P e agg (Enc.n α) bytes z) (hm:Nat.ble 1 (Enc.n α)=true) (hb1:Nat.ble 1 bytes=true) (hrow:Que e base w v l) (hk:Els α (fun _=>True) w a k) (hk1:1<=k.length) (hr:app bytes l k=some r) (hbase:base<=w.heap.size)
  (cont:∀v' w',Que e base w' v' r->Below base w w'->w.grownBy w' v.ownBlock->(v'.ownBlock=v.ownBlock\/∃g,v'.ownBlock=some g/\w.heap.size<=g)->wpList P ops Q rest (act n (vG L d v') D) w'):
  wpList P ops Q ({dst:=some d,op:=.call {callee:=.builtin .append,args:=#[x,y],argTypes:=#[st,st]},type:=ty,pos:=pos,after:=af,guard:=none}::rest) (act n L D) w:=by
 obtain⟨hb,rfl⟩:=AE7 hr;obtain⟨v',w',hrun,hrow',hg,ho⟩:=AOS (ty:=ty) (cap:=cap) ht he (Nat.le_of_ble_eq_true hm) (Nat.le_of_ble_eq_true hb1) hrow hk hk1 hb hbase;refine Zv (v:=v') (w':=w') (by simp[execOp,resolve,invoke,Go.builtin,hs,hy,hrun]) (cont v' w' hrow' ⟨hg.os,hg.tape,hg.output,hg.size,fun q hq=>hg.block q (by omega) (fun e2=>?_)⟩ hg ho);have:=hrow.lt q e2.symm;omega
end
end
end Go.Md
end
section
namespace Go.Md
open Go Go.RowKit
theorem Row.keepq{α:Type}[Enc α][Flat α]{e:TypeId}{base:Nat}{w w':World}{v:Value}{l:List α}(h:Row e base w v l)(k:∀q,v.ownBlock=some q->w'.heap[q]?=w.heap[q]?):Row e base w' v l:=by
 refine⟨h.1,?_⟩;rcases h.2 with hn|⟨g,cap,cur,e1,hb,hg,r⟩
 ·exact .inl hn
 ·exact .inr ⟨g,cap,cur,e1,hb,(k g (by rw[e1];rfl)).trans hg,r⟩
theorem Row.blw{α:Type}[Enc α][Flat α]{e:TypeId}{base B:Nat}{w w':World}{v:Value}{l:List α}(h:Row e base w v l)(k:Below B w w')(hv:∀q,v.ownBlock=some q->q<B):Row e base w' v l:=h.keepq fun q hq=>k.block q (hv q hq)
theorem AHY{b g off len cap:Nat}(h:b≠g):some b≠(Value.slice (some ⟨g,off,none⟩) len cap).ownBlock:=fun e=>h (by cases e;rfl)
theorem AKh{B g off len cap:Nat}(h:g<B):∀q,(Value.slice (some ⟨g,off,none⟩) len cap).ownBlock=some q->q<B:=fun q hq=>by cases hq;exact h
end Go.Md
namespace Go.Proofs.YtfmelbioccbdoaaGreat
open Go Go.Md Go.RowKit
attribute [local irreducible] Go.wpList Go.Code.wp Go.Calls Go.Md.gK Go.Md.Mt Go.Md.vN Go.Md.PE Go.Code.wpIn Go.wpListIn
abbrev Qw:=Int×Int×Int
def AFM:List Int->List Qw->List Int->Option (List Qw×List Int)
 |[],o,q=>some (o,q)
 |k::t,o,q=>(ix o k)>>=fun _=>(app 8 q ([k]:List Int))>>=fun q2=>AFM t (NG o k (k,k,-1)) q2
def ADe(lw:Qw->Option Int):List Qw->List Qw->List Int->Option (List Qw×List Int)
 |[],o,q=>some (o,q)
 |x::t,o,q=>
  (ix o x.2.1)>>=fun y=>
  if decide (y=(0,0,0))=true then
   (lw x)>>=fun r=>
   if decide (0<r)=true then(app 8 q ([x.2.1]:List Int))>>=fun q2=>ADe lw t (NG o x.2.1 x) q2
   else ADe lw t o q
  else ADe lw t o q
def ADf(K:List oG)(lw:Qw->Option Int):Nat->List Qw->List Int->Option (List Qw)
 |0,_,_=>none
 |_+1,o,[]=>some o
 |m+1,o,k::q=>(ADe lw (G5 K k) o q)>>=fun z=>ADf K lw m z.1 z.2
def AAF(F:Nat)(n:Int)(K:List oG)(fr:List Int)(lw:Qw->Option Int):Option (List Qw):=
 (mks 24 n ((0,0,0):Qw))>>=fun o=>(AFM fr o [])>>=fun z=>ADf K lw F z.1 z.2
def FnW(w0:World)(v:Value)(p:Qw->Option Int):Prop:=
 ∃(g:FuncId)(fs cs:List Value),v=.func (.func g) (List.toArray fs) (List.toArray cs)/\Ad Tryz.prog g/\∀W x r,Ext w0 W->p x=some r->
  Calls Tryz.prog g (fs++([fv x]:List Value)++cs).toArray W (IA fun u W'=>u=.int .i64 r/\Ext W W')
theorem FnW.ext{w w':World}{v:Value}{p:Qw->Option Int}(h:FnW w v p)(k:Ext w w'):FnW w' v p:=
 let⟨g,fs,cs,e,c,h⟩:=h
 ⟨g,fs,cs,e,c,fun W x r h1=>h W x r (k.tr h1)⟩
theorem Okb.que{α:Type}[Enc α][Flat α]{B:Nat}{e:TypeId}{base:Nat}{v:Value}{l:List α}:Okb B (fun w=>Que e base w v l):=⟨fun h k=>h.ext k,fun h _ hl ho k=>h.chg k fun e=>by
 obtain⟨o',h1,h2⟩:=h.isc _ e.symm;rw[hl]at h1;cases h1;rw[ho]at h2;cases h2⟩
set_option maxHeartbeats 8000000 in
theorem AUO{w0:World}{b:Nat}{n:Int}{a1:Option Addr}{c1:Nat}{v2 v3 dv fv':Value}{K:List oG}{H:Ar 40 Int}(hN:Nt w0.heap.size w0 b n a1 c1 v2 v3 dv fv' K H){vf:Value}{fr:List Int}(rf:RV w0 vf fr){vw:Value}{lw:Qw->Option Int}(hl:FnW w0 vw lw){F:Nat}{r:List Qw}(hF:AAF F n K fr lw=some r):
  Calls Tryz.prog 161 [.pointer (some ⟨b,0,none⟩),vf,vw].toArray w0 (IA fun u w'=>Row 266 w0.heap.size w' u r/\Ext w0 w'):=by
 unfold AAF at hF;refine bS hF fun o0 Em hF=>bS hF fun z Ei hF=>?_;have hv:vw.cells=#[vw]:=by obtain⟨g,fs,cs,rfl,_,_⟩:=hl;rfl
 have hz:=rf.sl;obtain⟨af,cf,rfl,-,hcf,-⟩:=hz;have hcap:=rf.cap;refine AIr (m:=9) (n:=72) Tryz.func161 rfl rfl rfl<|Zr<|yX rfl hv fun b5 w1 hx1 hg1 hb1=>Za<|nl<|Zr<|Zm<|Zv (tX rfl)<|Zv (BA rfl AAM)<|Zv (BA rfl vV)<|Zv (AP rfl Ap ((Bx.cs (hN.ext hx1).bx).at 0 rfl))<|AGf (α:=Qw) (z0:=(0,0,0)) rfl rfl Tryz.underlying262 bF rfl rfl rfl Em fun b3 w2 hx2 o2=>yY AGD fun b7 w3 hx3 hg3 hb3=>xk rfl rfl rfl AGD hb3 rfl rfl (ble rfl) fun w4 hch4 hb4=>nl<|Zr<|yY Le fun b8 w5 hx5 hg5 hb5=>nl<|?_;have s1:=hx1.size;have s2:=hx2.size;have s3:=hx3.size;have s4:=hch4.size;have s5:=hx5.size;have kx4:Ext w2 w4:=hx3.chg hch4 hg3;have k5:Ext w0 w5:=((hx1.tr hx2).tr kx4).tr hx5;have d5:Bx w5 b5 264 [vw]:=((hb1.ext hx2).ext kx4).ext hx5;have d7:Bx w5 b7 262 [.slice (some ⟨b3,0,none⟩) o0.length o0.length]:=Bx.ext (show Bx w4 b7 262 [.slice (some ⟨b3,0,none⟩) o0.length o0.length]from hb4) hx5;have R5:Row 266 w0.heap.size w5 (.slice (some ⟨b3,0,none⟩) o0.length o0.length) o0:=((o2.ext kx4).ext hx5).bnd s1;have l5:=d5.lt;have l7:=d7.lt;have l8:=hb5.lt;have l3:b3<w2.heap.size:=(o2.lt b3 rfl).2;have m3:w1.heap.size<=b3:=(o2.lt b3 rfl).1;have n5:=hb1.lt;have n7:=hb4.lt;have z5:=k5.size;generalize hvo:(Value.slice (some ⟨b3,0,none⟩) o0.length o0.length)=vo at d7 R5;refine wp_seq ?_;refine ct (fun L' w=>∃(vq:Value),Row 266 w0.heap.size w vo z.1/\Que 3 w5.heap.size w vq z.2/\L' 0=.pointer (some ⟨b,0,none⟩)/\L' 5=.pointer (some ⟨b5,0,none⟩)/\L' 7=.pointer (some ⟨b7,0,none⟩)/\L' 8=.pointer (some ⟨b8,0,none⟩)/\Bx w b5 264 [vw]/\Bx w b7 262 [vo]/\Bx w b8 41 [vq]/\Ext w0 w/\w5.heap.size<=w.heap.size) ?_ ?_
 ·refine Zr<|Zm<|Zv (Kz rfl Tryz.underlying41)<|Zm<|nl<|?_
  refine wp_block<|lp (I:=fun m' L' w=>∃(k:Nat)(o:List Qw)(q:List Int)(vq:Value),k+m'=fr.length/\AFM (fr.drop k) o q=some z/\L' 21=.int .i64 (k:Int)/\L' 20=.int .i64 (fr.length:Int)/\L' 19=.slice af fr.length cf/\Row 266 w0.heap.size w vo o/\o.length=o0.length/\Que 3 w5.heap.size w vq q/\L' 0=.pointer (some ⟨b,0,none⟩)/\L' 5=.pointer (some ⟨b5,0,none⟩)/\L' 7=.pointer (some ⟨b7,0,none⟩)/\L' 8=.pointer (some ⟨b8,0,none⟩)/\Bx w b5 264 [vw]/\Bx w b7 262 [vo]/\Bx w b8 41 [vq]/\Ext w0 w/\w5.heap.size<=w.heap.size) fr.length
   ⟨0,o0,[],_,by simp,Ei,rfl,rfl,rfl,R5,rfl,Que.nil,rfl,rfl,rfl,rfl,d5,d7,hb5,k5,Nat.le_refl _⟩ ?_
  rintro m' L' w⟨k,o,q,vq,hk,hB,l21,l20,l19,R,hol,Q,l0',l5',l7',l8',e5,e7,e8,kw,zw⟩;refine Zr<|Zv (Oi l21 l20)<|nl<|wp_seq<|cnd rfl (fun hc=>?_) (fun hc=>?_)
  ·have hc:(k:Int)<(fr.length:Int):=by simpa using hc
   have hkl:k<fr.length:=by omega
   obtain⟨m'',rfl⟩:∃q,m'=q+1:=⟨m'-1,by omega⟩;rw[List.drop_eq_getElem_cons hkl,AFM]at hB;have hix:ix fr (k:Int)=some fr[k]:=by simp[ix,List.getElem?_eq_getElem hkl]
   refine bS hB fun y Eo hB=>bS hB fun q2 Eq hB=>?_;have hz:=vX Eo;obtain⟨i1,i2,-⟩:=hz;have hz:=Els.ix (rf.ext kw).els hix;obtain⟨b9,off9,cs9,rfl,i5,i6,q5,hcE⟩:=hz;obtain rfl:=Flat.iff.1 q5;have hz:=Q.sl;obtain⟨aq,cq,rfl⟩:=hz;have hadd:BH ((k:Int)+1)=((k+1:Nat):Int):=by
    rw[BH,IntWalk.i64_in _ (by unfold maxLen at hcf;omega)]
    rfl
   subst hvo;refine wp_skip<|wp_seq<|wp_block<|Zr<|Zv (Dq l19 l21 Tryz.underlying41 Ap i5 i6)<|Zv (AP rfl Ap (hcE.at 0 rfl))<|Za<|nl<|Zr<|Zv (AP l7' AGD ((Bx.cs e7).at 0 rfl))<|Zm<|Zm<|Zm<|Zv (AAe (r:=[.int .i64 fr[k],.int .i64 fr[k],.int .i64 (-1)]) bF ADW (pc rfl (pc rfl (pc rfl pn))) rfl)<|Zv (Dq rfl rfl Tryz.underlying262 bF i1 (by omega))<|ADO (v:=((fr[k],fr[k],-1):Qw)) rfl rfl rfl bF R Eo fun w6 hch6 R6=>nl<|?_;have s6:=hch6.size;have f5:=e5.chg hch6 (by omega);have f7:=e7.chg hch6 (by omega);have f8:=e8.chg hch6 (by omega);have Q6:=Q.chgo hch6 (by omega);have k6:=kw.chg hch6 (by omega);refine rg<|Zv (AP l8' Le ((Bx.cs f8).at 0 rfl))<|Zm<|AAR (cs:=[.int .i64 fr[k]]) Tryz.underlying41 Ap rfl (pc rfl pn) rfl rfl rfl rfl rfl fun bo w8 hx8 hg8 hb8=>?_;have o8:Row (α:=Int) 3 _ w8 (.slice (some ⟨bo,0,none⟩) 1 1) [fr[k]]:=Row.lit hg8 hb8 rfl (ble rfl);have s8:=hx8.size;refine AJf (l:=q) (k:=([fr[k]]:List Int)) rfl rfl Tryz.underlying41 Ap rfl rfl (Q6.ext hx8) (RV.els o8.rv) (Nat.le_refl _) Eq (by omega) fun v9 w9 q9 hB9 hg9 hw9=>?_;have s9:=hB9.size;have t5:=(f5.ext hx8).below hB9 l5;have t7:=(f7.ext hx8).below hB9 l7;have t8:=(f8.ext hx8).below hB9 l8;have t0:=AFw (k6.tr hx8) hB9 z5;have R9:=(R6.ext hx8).blw hB9 (AKh (by omega));have hz:=q9.sl;obtain⟨av,cv,rfl⟩:=hz;refine xk l8' rfl rfl Le t8 rfl rfl (ble rfl) fun wC hchC hbC=>nl<|rg<|Zv (FH l21 rfl)<|Zm<|nl<|lq m'' (by omega) ⟨k+1,_,q2,_,by omega,hB,congrArg _ hadd,l20,l19,R9.chgn hchC (AHY (by omega)),by rw[NG,List.length_set];exact hol,q9.chgo hchC (by omega),l0',l5',l7',l8',t5.chg hchC (by omega),t7.chg hchC (by omega),hbC,t0.chg hchC (by omega),by rw[hchC.size];omega⟩
  ·have hc:¬(k:Int)<(fr.length:Int):=by simpa using hc
   rw[List.drop_of_length_le (by omega),AFM]at hB;cases hB;exact wp_exit<|lf ⟨vq,R,Q,l0',l5',l7',l8',e5,e7,e8,kw,zw⟩
 rintro L6 w6⟨vq,R6,Q6,l0',l5',l7',l8',e5,e7,e8,k6,z6⟩;refine wp_seq ?_;obtain⟨g,fs,cs,hvw,hcb,hcall⟩:=hl;have hO0:∀(w:World)(o:List Qw),Row 266 w0.heap.size w vo o->o.length=o0.length:=fun w o h=>by
  subst hvo;exact h.rv.cap.1.symm
 refine ctM w0.heap.size (fun L' w=>L' 7=.pointer (some ⟨b7,0,none⟩)/\Bx w b7 262 [vo]/\Row 266 w0.heap.size w vo r/\Ext w0 w) ?_ ?_
 ·refine wp_block<|lpM w0.heap.size (I:=fun m' L' w=>∃(o:List Qw)(q:List Int)(vq:Value),ADf K lw m' o q=some r/\Row 266 w0.heap.size w vo o/\Que 3 w5.heap.size w vq q/\L' 0=.pointer (some ⟨b,0,none⟩)/\L' 5=.pointer (some ⟨b5,0,none⟩)/\L' 7=.pointer (some ⟨b7,0,none⟩)/\L' 8=.pointer (some ⟨b8,0,none⟩)/\Bx w b5 264 [vw]/\Bx w b7 262 [vo]/\Bx w b8 41 [vq]/\Ext w0 w/\w5.heap.size<=w.heap.size) F Mks.nil
   ⟨z.1,z.2,vq,hF,R6,Q6,l0',l5',l7',l8',e5,e7,e8,k6,z6⟩ ?_
  clear l0' l5' l7' l8' e5 e7 e8 R6 Q6 hF;rintro m' L' D' w hM⟨o,q,vq,hB,R,Q,l0',l5',l7',l8',e5,e7,e8,kw,zw⟩;rcases m' with _|m'
  ·rw[ADf]at hB;cases hB
  have hz:=Q.sl;obtain⟨aq,cq,rfl⟩:=hz;refine wp_seq<|Zr<|Zv (AP l8' Le ((Bx.cs e8).at 0 rfl))<|Zv (Kz rfl Tryz.underlying41)<|Zv (xU rfl rfl)<|nl<|cnd rfl (fun hc=>?_) (fun hc=>?_)
  ·cases q with
   |nil=>simp at hc
   |cons kk q=>
    rw[ADf]at hB;refine bS hB fun z2 Er hB=>?_;have hz:=Els.ix Q.rv.els (show ix (kk::q) 0=some kk from rfl);obtain⟨b9,off9,cs9,rfl,i5,i6,q5,hcE⟩:=hz;obtain rfl:=Flat.iff.1 q5;have hz:=Q.drop Tryz.underlying41 Ap;obtain⟨a',c',Q2,ho2,hx2⟩:=hz;refine wp_skip<|wp_block<|Zr<|Zv (AP l8' Le ((Bx.cs e8).at 0 rfl))<|Zv (Dq rfl rfl Tryz.underlying41 Ap i5 i6)<|Zv (AP rfl Ap (hcE.at 0 rfl))<|Za<|nl<|Zr<|Zv (AP l8' Le ((Bx.cs e8).at 0 rfl))<|Zv (hx2 _ _ _ _ _ _ _ _ _ _ rfl rfl)<|xk l8' rfl rfl Le e8 rfl rfl (ble rfl) fun wa hcha hba=>nl<|?_;have sa:=hcha.size;have f5:=e5.chg hcha (by omega);have f7:=e7.chg hcha (by omega);have f8:Bx wa b8 41 [.slice a' q.length c']:=hba;have Ra:=R.chgn hcha (by subst hvo;exact AHY (by omega));have Qa:=Q2.chgo hcha (by omega);have ka:=kw.chg hcha (by omega);have Ma:=hM.chg hcha e8.nd;refine Zr<|Zv (FY l0')<|Zm<|Zc (xc AIq (mc rfl (mc rfl mn))) AMH fun u w7 hu=>?_;obtain⟨hwy,hx7⟩:=hu;have s7:=hx7.size;refine nl<|wp_block<|rangeB (α:=Qw) (xs:=G5 K kk) (m:=9) (by decide) rfl (KpOk.belp (ok:=fun q=>q<w0.heap.size\/wa.heap.size<=q)) (hwy.go (N:=w0.heap.size) (hN.ext (ka.tr hx7)) (fun q h=>.inl h) (fun q h1 _=>.inr h1) 8) rfl rfl rfl bF rfl
     (fun k W=>∃(o:List Qw)(q:List Int)(vq:Value),ADe lw ((G5 K kk).drop k) o q=some z2/\Row 266 w0.heap.size W vo o/\Que 3 w5.heap.size W vq q/\Out wa.heap.size w7.heap.size vq/\Bx W b5 264 [vw]/\Bx W b7 262 [vo]/\Bx W b8 41 [vq]/\Ext w0 W/\Mks w0.heap.size D' W/\w7.heap.size<=W.heap.size) (fun _ _=>False)
     (fun k=>Okb.ex fun _=>Okb.ex fun _=>Okb.ex fun _=>Okb.pure.and (Okb.row.and (Okb.que.and (Okb.pure.and (Okb.bx.and (Okb.bx.and (Okb.bx.and ((Okb.extw (by omega)).and ((Okb.mks (Ma.ext hx7) rfl).and Okb.size))))))))) (fun c=>Okb.pure)
     ⟨o,q,_,Er,Ra.ext hx7,Qa.ext hx7,fun g hg=>.inl (Qa.lt g hg).2,f5.ext hx7,f7.ext hx7,f8.ext hx7,ka.tr hx7,Ma.ext hx7,Nat.le_refl _⟩ ?round (fun k A h=>by obtain⟨_,_,_,_,_,_,_,_,_,_,_,_,h⟩:=h;exact h) ?done (fun _ _ _ _ h _=>h.elim)
    case done=>
     rintro DD W hD⟨o3,q3,vq3,hB3,R3,Q3,-,g5,g7,g8,k3,M3,z3⟩ hK;rw[List.drop_length,ADe]at hB3;cases hB3;exact lqM m' (Nat.lt_succ_self _) (Mks.cons (Ma.ext hx7) M3 (by omega) hD hK) ⟨_,_,vq3,hB,R3,Q3,l0',l5',l7',l8',g5,g7,g8,k3,by omega⟩
    case round=>
     clear hB Er R Q e5 e7 e8 Q2 Qa Ra f5 f7 f8 hcE hba;rintro ll k x A W bb hu⟨o,q,vq,hB,R,Q,hO,e5,e7,e8,kw',hM',zw'⟩ hAs hb1 hb2 hbx;rw[AGI hu,ADe]at hB;refine bS hB fun y Eo hB=>?_;have R:=R.asg hAs;have Q:=Q.asg hAs;have e5:=e5.asg hAs;have e7:=e7.asg hAs;have e8:=e8.asg hAs;have kw2:=Go.Md.Below.asg kw' hAs (show w0.heap.size<=w7.heap.size by omega);have M2:=hM'.asg hAs;have zw2:w7.heap.size<=W.heap.size:=Nat.le_trans zw' hAs.size;have hol:=hO0 _ _ R;have hz:=Q.sl;obtain⟨aq,cq,rfl⟩:=hz;subst hvo;have hz:=ix2 R.rv Eo;obtain⟨cs9,i1,i2,q5,hcE⟩:=hz;obtain rfl:=Flat.iff.1 q5;refine wpIn_block<|wpIn_seq<|rgR rfl<|Zv (AP l7' AGD ((Bx.cs e7).at 0 rfl))<|Zv (BA rfl ABM)<|Zv (AP rfl Ap ((Bx.cs hbx).at 1 rfl))<|Zv (Dq rfl rfl Tryz.underlying262 bF i1 (by omega))<|Zv (Jq rfl bF rfl hcE)<|Zv (AAe (r:=[.int .i64 0,.int .i64 0,.int .i64 0]) bF ADW pn rfl)<|Zv (AQG (α:=Qw) (a:=y) (b:=(0,0,0)) rfl AIn AIm rfl rfl rfl rfl rfl)<|Zm<|?_;refine Or.elim (Bool.eq_false_or_eq_true (decide (y=(0,0,0)))) (fun hy=>?_) (fun hy=>?_)
     ·have hB:=Cj hB hy
      refine bS hB fun rr Ef hB=>Gt rfl (bt hy)<|Zv (AP l5' ARp ((Bx.cs e5).at 0 rfl))<|Gt rfl (bt hy)<|Zv (Jq rfl bF rfl (Bx.cs hbx))<|Gt rfl (bt hy)<|Zc (xcv (fs:=fs) (cs:=cs) hvw hcb (mc rfl mn) rfl) (hcall W x rr kw2 Ef) ?_;rintro _ w8⟨rfl,hx8⟩;have s8:=hx8.size;have R8:=R.ext hx8;have Q8:=Q.ext hx8;have p5:=e5.ext hx8;have p7:=e7.ext hx8;have p8:=e8.ext hx8;have px:=hbx.ext hx8;have k8:=kw2.tr hx8;have M8:=M2.ext hx8;have be8:BelP (fun q=>q<w0.heap.size\/wa.heap.size<=q) w7.heap.size W w8:=BelP.of hx8 zw2;have kf8:KeepsFrom w7.heap.size W w8:=hx8.kf;refine Gt rfl (bt hy)<|Zv (xU rfl rfl)<|Zv (wI rfl hy rfl)<|nl<|AEX rfl (fun hg=>?_) (fun hg=>?_)
      ·have hB:=Cj hB hg
       refine bS hB fun q2 Eq hB=>wpIn_seq<|rgR rfl<|Zv (AP l7' AGD ((Bx.cs p7).at 0 rfl))<|Zv (BA rfl ABM)<|Zv (AP rfl Ap ((Bx.cs px).at 1 rfl))<|Zv (Jq rfl bF rfl (Bx.cs px))<|Zv (Dq rfl rfl Tryz.underlying262 bF i1 (by omega))<|ADO (v:=x) rfl rfl rfl bF R8 Eo fun w9 hch9 R9=>nl<|?_;have s9:=hch9.size;have u5:=p5.chg hch9 (by omega);have u7:=p7.chg hch9 (by omega);have u8:=p8.chg hch9 (by omega);have ux:=px.chg hch9 (by omega);have Q9:=Q8.chgo hch9 (by omega);refine rgR rfl<|Zv (AP l8' Le ((Bx.cs u8).at 0 rfl))<|Zv (BA rfl ABM)<|Zv (AP rfl Ap ((Bx.cs ux).at 1 rfl))<|AAR (cs:=[.int .i64 x.2.1]) Tryz.underlying41 Ap rfl (pc rfl pn) rfl rfl rfl rfl rfl fun bo wb hxb hgb hbb=>?_;have ob:Row (α:=Int) 3 _ wb (.slice (some ⟨bo,0,none⟩) 1 1) [x.2.1]:=Row.lit hgb hbb rfl (ble rfl);have sb:=hxb.size;have Qb:=Q9.ext hxb;refine AJf (l:=q) (k:=([x.2.1]:List Int)) rfl rfl Tryz.underlying41 Ap rfl rfl Qb (RV.els ob.rv) (Nat.le_refl _) Eq (by omega) fun v9 wc qc hBc hgc hwc=>?_;have sc:=hBc.size;have t5:=(u5.ext hxb).below hBc l5;have t7:=(u7.ext hxb).below hBc l7;have t8:=(u8.ext hxb).below hBc l8;have tR:=(R9.ext hxb).blw hBc (AKh (by omega));have tk:=AFw ((k8.chg hch9 (by omega)).tr hxb) hBc z5;have tM:Mks w0.heap.size D' wc:=((M8.chg hch9 (R8.nd _ rfl)).ext hxb).gr hgc fun g hg=>by
        obtain⟨o',h1,h2⟩:=Qb.isc g hg;exact⟨o',h1,fun ds e=>by subst e;cases h2⟩
       have tO:Out wa.heap.size w7.heap.size v9:=hO.app hwc (by omega);have bec:BelP (fun q=>q<w0.heap.size\/wa.heap.size<=q) w7.heap.size W wc:=((be8.chg hch9 (.inr (by omega))).ext hxb (by omega)).gr hgc (by omega) fun g hg=>by
        have h1:=(Q.lt g hg).1;rcases hO g hg with h2|h2
        ·exact .inr (by omega)
        ·exact .inl h2
       have kfc:KeepsFrom w7.heap.size W wc:=((kf8.chgc hch9 (.inl (by omega))).ext hxb).grc hgc fun g hg=>Qb.isc g hg;have hz:=qc.sl;obtain⟨av,cv,rfl⟩:=hz;refine xk l8' rfl rfl Le t8 rfl rfl (ble rfl) fun wC hchC hbC=>nl<|?_;refine⟨kfc.chgc hchC (.inl (by omega)),bec.chg hchC (.inr (by omega)),_,q2,_,hB,tR.chgn hchC (AHY (by omega)),qc.chgo hchC (by omega),tO,t5.chg hchC (by omega),t7.chg hchC (by omega),hbC,tk.chg hchC (by omega),tM.chg hchC t8.nd,by rw[hchC.size];omega⟩
      ·have hB:=DF hB hg
       exact wpIn_skip ⟨kf8,be8,o,q,_,hB,R8,Q8,hO,p5,p7,p8,k8,M8,by omega⟩
     ·have hB:=DF hB hy
      refine Gk rfl (Gi hy)<|Gk rfl (Gi hy)<|Gk rfl (Gi hy)<|Gk rfl (Gi hy)<|Zv (yH rfl hy rfl)<|nl<|AEX rfl (fun h=>by cases h) (fun _=>?_);exact wpIn_skip ⟨(Ext.refl W).kf,BelP.refl,o,q,_,hB,R,Q,hO,e5,e7,e8,kw2,M2,zw2⟩
  ·have hq:q=[]:=by
    cases q with
    |nil=>rfl
    |cons _ _=>simp at hc
   subst hq;rw[ADf]at hB;cases hB;exact wp_exit<|lfM hM ⟨l7',e7,R,kw⟩
 rintro LZ DZ wZ MZ⟨l7',e7,RZ,kZ⟩;refine Zr<|Zv (AP l7' AGD ((Bx.cs e7).at 0 rfl))<|Za<|nl<|wp_ret<|AQY rfl MZ fun w' hk=>⟨_,.tmp rfl rfl .nil,RZ.tak hk,Go.Md.Below.tak kZ hk (Nat.le_refl _)⟩
end Go.Proofs.YtfmelbioccbdoaaGreat
end
section
namespace Go.Proofs.YtfmelbioccbdoaaGreat
open Go Go.Md Go.RowKit
def ABE(F:Nat)(x0:(List Int))(x1:Int):Nat->Int->Option (Sum Bool (Unit))
 |0,_=>none
 |m+1,y1=>
  if(decide (y1<(x0.length:Int)))=true then
   (ix x0 y1)>>=fun x3=>
   if(decide (x3=x1))=true then
    some (.inl true)
   else
    ABE F x0 x1 m (BH (y1+1))
  else
   some (.inr ())
def ABZ(F:Nat)(x0:(List Int))(x1:Int):Option Bool:=
 ((ABE F x0 x1 F 0)>>=fun o=>match o with
  |.inl r=>some r
  |.inr ()=>
   some false)
def yQ(F:Nat)(x0:(List Int))(x1:Int):Nat->Int->Option (Sum Bool (Unit))
 |0,_=>none
 |m+1,y1=>
  if(decide (y1<(x0.length:Int)))=true then
   (((ix x0 y1)>>=fun x4=>
   if(decide (x4<0))=true then
    if true=true then
     some true
    else
     if(decide (0<y1))=true then
      (ix x0 y1)>>=fun x5=>
      (ix x0 (BH (y1-1)))>>=fun x6=>
      some (decide (x5<=x6))
     else
      some false
   else
    (ix x0 y1)>>=fun x7=>
    if(decide (x1<=x7))=true then
     some true
    else
     if(decide (0<y1))=true then
      (ix x0 y1)>>=fun x8=>
      (ix x0 (BH (y1-1)))>>=fun x9=>
      some (decide (x8<=x9))
     else
      some false:Option (Bool))>>=fun y2=>
   if y2=true then
    some (.inl false)
   else
    yQ F x0 x1 m (BH (y1+1)))
  else
   some (.inr ())
def AAt(F:Nat)(x0:(List Int))(x1:Int):Option Bool:=
 ((yQ F x0 x1 F 0)>>=fun o=>match o with
  |.inl r=>some r
  |.inr ()=>
   some true)
def wL(F:Nat)(x0:(Int×(List (Int×Int×Int))×(List Int)×(List Int))):Nat->Int->Option (Sum Int (Unit))
 |0,_=>none
 |m+1,y1=>
  if(decide (y1<(x0.2.1.length:Int)))=true then
   (ix x0.2.1 y1)>>=fun x2=>
   if(((((((decide (x2.1<0))||(decide (x0.1<=x2.1)))||(decide (x2.2.1<0)))||(decide (x0.1<=x2.2.1)))||(decide (x2.1=x2.2.1)))||(decide (x2.2.2<1)))||(decide (1000000<x2.2.2)))=true then
    some (.inl 2)
   else
    wL F x0 m (BH (y1+1))
  else
   some (.inr ())
def wM(F:Nat)(x0:(Int×(List (Int×Int×Int))×(List Int)×(List Int))):Nat->Int->Option (Sum Int (Unit))
 |0,_=>none
 |m+1,y2=>
  if(decide (y2<(x0.2.2.1.length:Int)))=true then
   (ix x0.2.2.1 y2)>>=fun x5=>
   (ABZ F x0.2.2.2 x5)>>=fun x6=>
   if x6=true then
    some (.inl 21)
   else
    wM F x0 m (BH (y2+1))
  else
   some (.inr ())
def kE(F:Nat)(x0:(Int×(List (Int×Int×Int))×(List Int)×(List Int))):Option Int:=
 if(((((((decide (x0.1<2))||(decide (40<x0.1)))||(decide (120<(x0.2.1.length:Int))))||(decide ((x0.2.2.1.length:Int)<1)))||(decide (10<(x0.2.2.1.length:Int))))||(decide ((x0.2.2.2.length:Int)<1)))||(decide (10<(x0.2.2.2.length:Int))))=true then
  some 6
 else
  ((wL F x0 F 0)>>=fun o=>match o with
   |.inl r=>some r
   |.inr ()=>
    (AAt F x0.2.2.1 x0.1)>>=fun x3=>
    (gd (!(!x3)) (AAt F x0.2.2.2 x0.1) false)>>=fun x4=>
    if((!x3)||(!x4))=true then
     some 3
    else
     ((wM F x0 F 0)>>=fun o=>match o with
      |.inl r=>some r
      |.inr ()=>
       some 0))
def AB1(F:Nat)(x0:(Int×(List (Int×Int×Int))×(List Int)×(List Int))):Option Bool:=
 (gd (((decide ((x0.2.1.length:Int)<=130))&&(decide ((x0.2.2.1.length:Int)<=20)))&&(decide ((x0.2.2.2.length:Int)<=20))) (kE F (x0.1,x0.2.1,x0.2.2.1,x0.2.2.2)) 0)>>=fun x2=>
 some ((((decide ((x0.2.1.length:Int)<=130))&&(decide ((x0.2.2.1.length:Int)<=20)))&&(decide ((x0.2.2.2.length:Int)<=20)))&&(decide (x2=0)))
def vz(x0:((Int×(List (Int×Int×Int))×(List Int)×(List Int))×(List Int)×(List Int)×(Ar 40 Int)))(x1:(Int×Int×Int)):Option Int:=
 (ix x0.1.2.1 x1.2.2)>>=fun x3=>
 if(decide (x3.1=x1.1))=true then
  (ix x0.2.2.1 x1.2.2)>>=fun x4=>
  some (BH (x3.2.2-x4))
 else
  (ix x0.2.2.1 x1.2.2)>>=fun x5=>
  some (BH (x3.2.2+x5))
def AAS(x0:((Int×(List (Int×Int×Int))×(List Int)×(List Int))×(List Int)×(List Int)×(Ar 40 Int)))(x1:(Int×Int×Int)):Option Int:=
 (vz ((x0.1.1,x0.1.2.1,x0.1.2.2.1,x0.1.2.2.2),x0.2.1,x0.2.2.1,x0.2.2.2) (x1.2.1,x1.1,x1.2.2))>>=fun x3=>
 some x3
def yc(F:Nat)(x0:((Int×(List (Int×Int×Int))×(List Int)×(List Int))×(List Int)×(List Int)×(Ar 40 Int))):Nat->Int->(Ar 40 Int)->Option ((Ar 40 Int))
 |0,_,_=>none
 |m+1,y1,y2=>
  if(decide (y1<(x0.1.2.1.length:Int)))=true then
   (ix x0.1.2.1 y1)>>=fun x2=>
   (ix y2.l x2.1)>>=fun x3=>
   (ix x0.2.2.1 y1)>>=fun x4=>
   (ix y2.l x2.1)>>=fun x5=>
   (ix (vZ y2 x2.1 (BH (x3-x4))).l x2.2.1)>>=fun x6=>
   (ix x0.2.2.1 y1)>>=fun x7=>
   (ix (vZ y2 x2.1 (BH (x3-x4))).l x2.2.1)>>=fun x8=>
   yc F x0 m (BH (y1+1)) (vZ (vZ y2 x2.1 (BH (x3-x4))) x2.2.1 (BH (x6+x7)))
  else
   some y2
def AAT(F:Nat)(x0:((Int×(List (Int×Int×Int))×(List Int)×(List Int))×(List Int)×(List Int)×(Ar 40 Int))):Option (Ar 40 Int):=
 ((yc F x0 F 0 (Ar.fill 40 0:(Ar 40 Int)))>>=fun z1=>
 some z1)
def yN(F:Nat)(x0:((Int×(List (Int×Int×Int))×(List Int)×(List Int))×(List Int)×(List Int)×(Ar 40 Int)))(x2:(Ar 40 Int)):Nat->Int->Int->Option (Int)
 |0,_,_=>none
 |m+1,y1,y2=>
  if(decide (y2<(x0.1.2.2.1.length:Int)))=true then
   (ix x0.1.2.2.1 y2)>>=fun x3=>
   (ix x2.l x3)>>=fun x4=>
   yN F x0 x2 m (BH (y1-x4)) (BH (y2+1))
  else
   some y1
def ABP(F:Nat)(x0:((Int×(List (Int×Int×Int))×(List Int)×(List Int))×(List Int)×(List Int)×(Ar 40 Int))):Option Int:=
 (AAT F ((x0.1.1,x0.1.2.1,x0.1.2.2.1,x0.1.2.2.2),x0.2.1,x0.2.2.1,x0.2.2.2))>>=fun x2=>
 ((yN F x0 x2 F 0 0)>>=fun z1=>
 some z1)
def yA(F:Nat)(x0:(Int×(List (Int×Int×Int))×(List Int)×(List Int)))(x1:(List Int)):Nat->(List Int)->Int->Option (Sum (Int×Int) ((List Int)))
 |0,_,_=>none
 |m+1,y1,y2=>
  if(decide (y2<(x1.length:Int)))=true then
   (ix x0.2.1 y2)>>=fun x6=>
   (((ix x1 y2)>>=fun x8=>
   if(decide (x6.2.2<x8))=true then
    some true
   else
    (ix x1 y2)>>=fun x9=>
    some (decide (x9<(BH (0-x6.2.2)))):Option (Bool))>>=fun y3=>
   if y3=true then
    some (.inl (0,14))
   else
    (ix y1 x6.1)>>=fun x10=>
    (ix x1 y2)>>=fun x11=>
    (ix y1 x6.1)>>=fun x12=>
    (ix (NG y1 x6.1 (BH (x10+x11))) x6.2.1)>>=fun x13=>
    (ix x1 y2)>>=fun x14=>
    (ix (NG y1 x6.1 (BH (x10+x11))) x6.2.1)>>=fun x15=>
    yA F x0 x1 m (NG (NG y1 x6.1 (BH (x10+x11))) x6.2.1 (BH (x13-x14))) (BH (y2+1)))
  else
   some (.inr y1)
def yB(F:Nat)(x0:(Int×(List (Int×Int×Int))×(List Int)×(List Int)))(z1:(List Int)):Nat->Int->Int->Option (Sum (Int×Int) (Int))
 |0,_,_=>none
 |m+1,y4,y5=>
  if(decide (y5<x0.1))=true then
   (((ABZ F x0.2.2.1 y5)>>=fun x16=>
   ((if x16=true then
    (ix z1 y5)>>=fun x17=>
    some (.inr (BH (y4+x17)))
   else
    (((ABZ F x0.2.2.2 y5)>>=fun x19=>
    if(!x19)=true then
     (ix z1 y5)>>=fun x20=>
     some (!decide (x20=0))
    else
     some false:Option (Bool))>>=fun y8=>
    if y8=true then
     some (.inl (0,14))
    else
     some (.inr y4)):Option (Sum (Int×Int) (Int)))>>=fun o=>match o with
    |.inl r=>some (.inl r)
    |.inr y7=>
     some (.inr y7)):Option (Sum (Int×Int) (Int)))>>=fun o=>match o with
    |.inl r=>some (.inl r)
    |.inr y6=>
     yB F x0 z1 m y6 (BH (y5+1)))
  else
   some (.inr y4)
def AA9(F:Nat)(x0:(Int×(List (Int×Int×Int))×(List Int)×(List Int)))(x1:(List Int)):Option (Int×Int):=
 (kE F (x0.1,x0.2.1,x0.2.2.1,x0.2.2.2))>>=fun x3=>
 if(!decide (x3=0))=true then
  (kE F (x0.1,x0.2.1,x0.2.2.1,x0.2.2.2))>>=fun x4=>
  some (0,x4)
 else
  if(!decide ((x1.length:Int)=(x0.2.1.length:Int)))=true then
   some (0,15)
  else
   (mks 8 x0.1 (0))>>=fun x5=>
   ((yA F x0 x1 F x5 0)>>=fun o=>match o with
    |.inl r=>some r
    |.inr z1=>
     ((yB F x0 z1 F 0 0)>>=fun o=>match o with
      |.inl r=>some r
      |.inr z2=>
       some (z2,0)))
def AAU(F:Nat)(x0:(List Int))(x1:(List Int)):Nat->Int->Option (Sum Bool (Unit))
 |0,_=>none
 |m+1,y1=>
  if(decide (y1<(x0.length:Int)))=true then
   (ix x0 y1)>>=fun x3=>
   (ix x1 y1)>>=fun x4=>
   if(!decide (x3=x4))=true then
    some (.inl false)
   else
    AAU F x0 x1 m (BH (y1+1))
  else
   some (.inr ())
def ACa(F:Nat)(x0:(List Int))(x1:(List Int)):Option Bool:=
 if(!decide ((x0.length:Int)=(x1.length:Int)))=true then
  some false
 else
  ((AAU F x0 x1 F 0)>>=fun o=>match o with
   |.inl r=>some r
   |.inr ()=>
    some true)
def ACb(x0:Int)(x1:(List Bool)):Option Bool:=
 (ix x1 x0)>>=fun x3=>
 some (!x3)
def ACc(x0:Int)(x1:(List Bool)):Option Bool:=
 (ix x1 x0)>>=fun x3=>
 some x3
end Go.Proofs.YtfmelbioccbdoaaGreat
end
section
namespace Go.Proofs.YtfmelbioccbdoaaGreat
open Go Go.Md Go.RowKit
attribute [local irreducible] Go.wpList Go.Code.wp Go.Calls Go.Md.gK Go.Md.Mt Go.Md.vN Go.Md.PE Go.Code.wpIn
theorem c79{w0:World}{v0:Value}{x0:(List Int)}(r0:RV w0 v0 x0){x1:Int}{F:Nat}{r:Bool}(hF:ABZ F x0 x1=some r):
  Calls Tryz.prog 79 [v0,.int .i64 x1].toArray w0 (IA fun v w'=>v=.bool r/\Ext w0 w'):=by
 unfold ABZ at hF;have hz:=r0.sl;obtain⟨a1,cq1,rfl,-,-,-⟩:=hz;refine I9 (n:=18) Tryz.func79 rfl rfl rfl<|Zr<|Za<|nl<|wp_seq<|Zr<|Za<|nl<|bS hF fun o1 hB1 hF=>ct (fun L w=>o1=.inr ()/\Ext w0 w) ?_ ?_
 ·refine wp_block<|lp (I:=fun m L w=>∃y1:Int,ABE F x0 x1 m y1=some o1/\L 5=.int .i64 y1/\L 0=.slice a1 x0.length cq1/\L 1=.int .i64 x1/\Ext w0 w) F ⟨_,hB1,rfl,rfl,rfl,(Ext.refl _)⟩ ?_;rintro m L w1⟨y1,hB1,l5_i1,l0_i1,l1_i1,K0_i1⟩;rcases m with _|m
  ·rw[ABE]at hB1;cases hB1
  rw[ABE]at hB1;refine wp_seq<|Zr<|Zm<|Zm<|Zv (Kz l0_i1 Tryz.underlying41)<|Zv (Oi l5_i1 rfl)<|nl<|cnd rfl (fun h3=>?_) (fun h3=>?_)
  ·have hB1:=Cj hB1 h3;refine wp_skip<|wp_seq<|wp_block<|Zr<|Zm<|Zm<|bS hB1 fun x3 Ex3 hB1=>?_;have hz:=(RV.els r0).ix Ex3;obtain⟨b3,f1,cs3,e1,i2,i3,q3,hc1⟩:=hz;cases e1;obtain rfl:=q3;have hc2:=hc1.ext K0_i1;refine Zv (Dq l0_i1 l5_i1 Tryz.underlying41 Ap i2 i3)<|Zv (AP rfl Ap (hc2.at 0 rfl))<|Zm<|Zv (zL rfl l1_i1)<|nl<|cnd rfl (fun h4=>?_) (fun h4=>?_)
   ·have hB1:=Cj hB1 h4;refine Zr<|Za<|nl<|?_;cases hB1;have hF:=(show some _=some _ from hF);cases hF;exact wp_ret<|Zw rfl rfl rfl ⟨rfl,K0_i1⟩
   ·have hB1:=DF hB1 h4;refine wp_skip<|rg<|Zm<|Zv (FH l5_i1 rfl)<|Za<|nl<|lq m (Nat.lt_succ_self _)<|?_;exact⟨_,hB1,rfl,l0_i1,l1_i1,K0_i1⟩
  ·have hB1:=DF hB1 h3;refine wp_exit<|?_;cases hB1;refine lf<|?_;exact⟨rfl,K0_i1⟩
 rintro L w2⟨rfl,K0_j1⟩;refine Zr<|Za<|nl<|?_;cases hF;exact wp_ret<|Zw rfl rfl rfl ⟨rfl,K0_j1⟩
theorem ARN{w0:World}{v0:Value}{x0:(List Int)}(r0:RV w0 v0 x0){x1:Int}{F:Nat}{r:Bool}(hF:AAt F x0 x1=some r):
  Calls Tryz.prog 254 [v0,.int .i64 x1].toArray w0 (IA fun v w'=>v=.bool r/\Ext w0 w'):=by
 unfold AAt at hF;have hz:=r0.sl;obtain⟨a1,cq1,rfl,-,-,-⟩:=hz;refine I9 (n:=41) Tryz.func254 rfl rfl rfl<|Zr<|Za<|nl<|wp_seq<|Zr<|Za<|nl<|bS hF fun o1 hB1 hF=>ct (fun L w=>o1=.inr ()/\Ext w0 w) ?_ ?_
 ·refine wp_block<|lp (I:=fun m L w=>∃y1:Int,yQ F x0 x1 m y1=some o1/\L 5=.int .i64 y1/\L 0=.slice a1 x0.length cq1/\L 1=.int .i64 x1/\Ext w0 w) F ⟨_,hB1,rfl,rfl,rfl,(Ext.refl _)⟩ ?_;rintro m L w1⟨y1,hB1,l5_i1,l0_i1,l1_i1,K0_i1⟩;rcases m with _|m
  ·rw[yQ]at hB1;cases hB1
  rw[yQ]at hB1;refine wp_seq<|Zr<|Zm<|Zm<|Zv (Kz l0_i1 Tryz.underlying41)<|Zv (Oi l5_i1 rfl)<|nl<|cnd rfl (fun h3=>?_) (fun h3=>?_)
  ·have hB1:=Cj hB1 h3;refine wp_skip<|wp_seq<|wp_block<|wp_seq<|bS hB1 fun y2 hB3 hB1=>ct (fun L w=>L 40=.bool y2/\L 0=.slice a1 x0.length cq1/\L 1=.int .i64 x1/\L 5=.int .i64 y1/\Ext w1 w) ?_ ?_
   ·refine wpl [] (.pure true 0 (.pure true 1 (.pure true 2 (.pure false 3 (.pure true 4 (.pure true 5 (.pure true 6 (.pure true 7 (.pure true 8 (.pure false 9 (.pure true 10 (.pure true 11 (.pure true 12 (.pure true 13 (.pure true 14 (.pure true 15 (.pure true 16 (.pure true 17 (.pure true 18 (.pure true 19 (.pure false 20 (.pure true 21 (.pure true 22 (.pure true 23 (.pure true 24 (.pure false 25 (.pure true 26 (.pure true 27 (.pure true 28 .fin))))))))))))))))))))))))))))) mixed (by kernel_rfl) (fun w3 hx2=>?_);have k2:=K0_i1.tr hx2;refine Zn rfl<|Zn rfl<|bS hB3 fun x4 Ex4 hB3=>?_;have hz:=(RV.els r0).ix Ex4;obtain⟨b4,f2,cs4,e2,i4,i5,q4,hc3⟩:=hz;cases e2;obtain rfl:=q4;have hc4:=hc3.ext k2;refine Zp rfl (fun _=>Dq l0_i1 l5_i1 Tryz.underlying41 Ap i4 i5)<|Zq rfl (fun _ hS=>AP rfl Ap ((hc4.ext (hS.resolve_left nofun)).at 0 rfl)) (Ext.refl _)<|Zp rfl (fun _=>Oi rfl rfl)<|Zn rfl<|Or.elim (Bool.eq_false_or_eq_true (decide (x4<0))) (fun h4=>?_) (fun h4=>?_)
    ·have hB3:=Cj hB3 h4;refine Yf rfl (BP h4)<|Yf rfl (BP h4)<|Yf rfl (BP h4)<|Yh rfl (BP h4) (Ext.refl _)<|Yf rfl (BP h4)<|Yf rfl (BP h4)<|Zp rfl (fun _=>wI rfl h4 rfl)<|Zn rfl<|Or.elim (Bool.eq_false_or_eq_true true) (fun h5=>?_) (fun h5=>?_)
     ·have hB3:=Cj hB3 h5;refine Yf rfl (BP h5)<|Yf rfl (BP h5)<|Yf rfl (BP h5)<|Yf rfl bu<|Yf rfl bu<|Yf rfl bu<|Yh rfl bu (Ext.refl _)<|Yf rfl bu<|Yf rfl bu<|Yf rfl bu<|Yf rfl bu<|Yh rfl bu (Ext.refl _)<|Yf rfl bu<|Yf rfl (BP h5)<|Zp rfl (fun _=>wI rfl h5 rfl)<|?_;cases hB3;refine lf<|?_;exact⟨rfl,l0_i1,l1_i1,l5_i1,hx2⟩
     ·have hB3:=DF hB3 h5;refine Yt rfl (bf h5) (fun _=>Zk)<|Yt rfl (bf h5) (fun _=>xU l5_i1 rfl)<|Yt rfl (bf h5) (fun _=>Zk)<|Or.elim (Bool.eq_false_or_eq_true (decide (0<y1))) (fun h6=>?_) (fun h6=>?_)
      ·have hB3:=Cj hB3 h6;refine Yt rfl (bt h6) (fun _=>Zk)<|Yt rfl (bt h6) (fun _=>Zk)<|bS hB3 fun x5 Ex5 hB3=>?_;have hz:=ix2 r0 Ex5;obtain⟨cs5,i6,i7,q5,hc5⟩:=hz;obtain rfl:=q5;have hc6:=hc5.ext k2;refine Yt rfl (bt h6) (fun _=>Dq l0_i1 l5_i1 Tryz.underlying41 Ap i6 i7)<|Yi rfl (bt h6) (fun _ hS=>AP rfl Ap ((hc6.ext (hS.resolve_left nofun)).at 0 rfl)) (Ext.refl _)<|Yt rfl (bt h6) (fun _=>Zk)<|Yt rfl (bt h6) (fun _=>Zk)<|Yt rfl (bt h6) (fun _=>AB4 l5_i1 rfl)<|bS hB3 fun x6 Ex6 hB3=>?_;have hz:=ix2 r0 Ex6;obtain⟨cs6,i8,i9,q6,hc7⟩:=hz;obtain rfl:=q6;have hc8:=hc7.ext k2;refine Yt rfl (bt h6) (fun _=>Dq l0_i1 rfl Tryz.underlying41 Ap i8 i9)<|Yi rfl (bt h6) (fun _ hS=>AP rfl Ap ((hc8.ext (hS.resolve_left nofun)).at 0 rfl)) (Ext.refl _)<|Yt rfl (bt h6) (fun _=>ADo rfl rfl)<|Yt rfl (bf h5) (fun _=>wI rfl h6 rfl)<|Zp rfl (fun _=>yH rfl h5 rfl)<|?_;cases hB3;refine lf<|?_;exact⟨rfl,l0_i1,l1_i1,l5_i1,hx2⟩
      ·have hB3:=DF hB3 h6;refine Yf rfl (Gi h6)<|Yf rfl (Gi h6)<|Yf rfl (Gi h6)<|Yh rfl (Gi h6) (Ext.refl _)<|Yf rfl (Gi h6)<|Yf rfl (Gi h6)<|Yf rfl (Gi h6)<|Yf rfl (Gi h6)<|Yh rfl (Gi h6) (Ext.refl _)<|Yf rfl (Gi h6)<|Yt rfl (bf h5) (fun _=>yH rfl h6 rfl)<|Zp rfl (fun _=>yH rfl h5 rfl)<|?_;cases hB3;refine lf<|?_;exact⟨rfl,l0_i1,l1_i1,l5_i1,hx2⟩
    ·have hB3:=DF hB3 h4;refine Yt rfl (bf h4) (fun _=>Zk)<|Yt rfl (bf h4) (fun _=>Zk)<|bS hB3 fun x7 Ex7 hB3=>?_;have hz:=ix2 r0 Ex7;obtain⟨cs7,i10,i11,q7,hc9⟩:=hz;obtain rfl:=q7;have hc10:=hc9.ext k2;refine Yt rfl (bf h4) (fun _=>Dq l0_i1 l5_i1 Tryz.underlying41 Ap i10 i11)<|Yi rfl (bf h4) (fun _ hS=>AP rfl Ap ((hc10.ext (hS.resolve_left nofun)).at 0 rfl)) (Ext.refl _)<|Yt rfl (bf h4) (fun _=>Zk)<|Yt rfl (bf h4) (fun _=>ACq rfl l1_i1)<|Zp rfl (fun _=>yH rfl h4 rfl)<|Zn rfl<|Or.elim (Bool.eq_false_or_eq_true (decide (x1<=x7))) (fun h7=>?_) (fun h7=>?_)
     ·have hB3:=Cj hB3 h7;refine Yf rfl (BP h7)<|Yf rfl (BP h7)<|Yf rfl (BP h7)<|Yf rfl bu<|Yf rfl bu<|Yf rfl bu<|Yh rfl bu (Ext.refl _)<|Yf rfl bu<|Yf rfl bu<|Yf rfl bu<|Yf rfl bu<|Yh rfl bu (Ext.refl _)<|Yf rfl bu<|Yf rfl (BP h7)<|Zp rfl (fun _=>wI rfl h7 rfl)<|?_;cases hB3;refine lf<|?_;exact⟨rfl,l0_i1,l1_i1,l5_i1,hx2⟩
     ·have hB3:=DF hB3 h7;refine Yt rfl (bf h7) (fun _=>Zk)<|Yt rfl (bf h7) (fun _=>xU l5_i1 rfl)<|Yt rfl (bf h7) (fun _=>Zk)<|Or.elim (Bool.eq_false_or_eq_true (decide (0<y1))) (fun h8=>?_) (fun h8=>?_)
      ·have hB3:=Cj hB3 h8;refine Yt rfl (bt h8) (fun _=>Zk)<|Yt rfl (bt h8) (fun _=>Zk)<|bS hB3 fun x8 Ex8 hB3=>?_;have hz:=ix2 r0 Ex8;obtain⟨cs8,i12,i13,q8,hc11⟩:=hz;obtain rfl:=q8;have hc12:=hc11.ext k2;refine Yt rfl (bt h8) (fun _=>Dq l0_i1 l5_i1 Tryz.underlying41 Ap i12 i13)<|Yi rfl (bt h8) (fun _ hS=>AP rfl Ap ((hc12.ext (hS.resolve_left nofun)).at 0 rfl)) (Ext.refl _)<|Yt rfl (bt h8) (fun _=>Zk)<|Yt rfl (bt h8) (fun _=>Zk)<|Yt rfl (bt h8) (fun _=>AB4 l5_i1 rfl)<|bS hB3 fun x9 Ex9 hB3=>?_;have hz:=ix2 r0 Ex9;obtain⟨cs9,i14,i15,q9,hc13⟩:=hz;obtain rfl:=q9;have hc14:=hc13.ext k2;refine Yt rfl (bt h8) (fun _=>Dq l0_i1 rfl Tryz.underlying41 Ap i14 i15)<|Yi rfl (bt h8) (fun _ hS=>AP rfl Ap ((hc14.ext (hS.resolve_left nofun)).at 0 rfl)) (Ext.refl _)<|Yt rfl (bt h8) (fun _=>ADo rfl rfl)<|Yt rfl (bf h7) (fun _=>wI rfl h8 rfl)<|Zp rfl (fun _=>yH rfl h7 rfl)<|?_;cases hB3;refine lf<|?_;exact⟨rfl,l0_i1,l1_i1,l5_i1,hx2⟩
      ·have hB3:=DF hB3 h8;refine Yf rfl (Gi h8)<|Yf rfl (Gi h8)<|Yf rfl (Gi h8)<|Yh rfl (Gi h8) (Ext.refl _)<|Yf rfl (Gi h8)<|Yf rfl (Gi h8)<|Yf rfl (Gi h8)<|Yf rfl (Gi h8)<|Yh rfl (Gi h8) (Ext.refl _)<|Yf rfl (Gi h8)<|Yt rfl (bf h7) (fun _=>yH rfl h8 rfl)<|Zp rfl (fun _=>yH rfl h7 rfl)<|?_;cases hB3;refine lf<|?_;exact⟨rfl,l0_i1,l1_i1,l5_i1,hx2⟩
   rintro L w4⟨l40_j1,l0_j1,l1_j1,l5_j1,K0_j1⟩;have k3:=K0_i1.tr K0_j1;refine cnd l40_j1 (fun h9=>?_) (fun h9=>?_)
   ·have hB1:=Cj hB1 h9;refine Zr<|Za<|nl<|?_;cases hB1;have hF:=(show some _=some _ from hF);cases hF;exact wp_ret<|Zw rfl rfl rfl ⟨rfl,k3⟩
   ·have hB1:=DF hB1 h9;refine wp_skip<|rg<|Zm<|Zv (FH l5_j1 rfl)<|Za<|nl<|lq m (Nat.lt_succ_self _)<|?_;exact⟨_,hB1,rfl,l0_j1,l1_j1,k3⟩
  ·have hB1:=DF hB1 h3;refine wp_exit<|?_;cases hB1;refine lf<|?_;exact⟨rfl,K0_i1⟩
 rintro L w5⟨rfl,K0_j2⟩;refine Zr<|Za<|nl<|?_;cases hF;exact wp_ret<|Zw rfl rfl rfl ⟨rfl,K0_j2⟩
theorem AOT{w0:World}{v0:Value}{x0:(Int×(List (Int×Int×Int))×(List Int)×(List Int))}(r0:RV w0 v0 x0){F:Nat}{r:Int}(hF:kE F x0=some r):
  Calls Tryz.prog 158 [v0].toArray w0 (IA fun v w'=>v=.int .i64 r/\Ext w0 w'):=by
 unfold kE at hF;have hz:=id r0;obtain⟨_,rfl,_,_,rfl,rfl,_,_,rfl,⟨a1,cq1,rfl,p1,q2,e1⟩,_,_,rfl,⟨a2,cq2,rfl,p2,q3,e2⟩,a3,cq3,rfl,p3,q4,e3⟩:=hz;have r2:=RV.of1 p1 q2 e1;have r3:=RV.of1 p2 q3 e2;have r4:=RV.of1 p3 q4 e3;refine I9 (n:=124) Tryz.func158 rfl rfl rfl<|Zr<|yX rfl rfl fun b2 w1 hx1 hg1 hb1=>?_;have r6:=r3.ext hx1;have r7:=r4.ext hx1;refine Za<|nl<|wp_seq<|Zr<|Zv (BA rfl vV)<|Zv (AP rfl Ap ((Bx.cs hb1).at 0 rfl))<|Zv (Oi rfl rfl)<|Zm<|Zg rfl rfl (EO rfl) (fun hc=>BA rfl vV)<|Zg rfl rfl (EO rfl) (fun hc=>AP (mv hc rfl) Ap ((Bx.cs hb1).at 0 rfl))<|Zg rfl rfl (EO rfl) (fun hc=>xU (mv hc rfl) rfl)<|Zv (xpo rfl rfl rfl)<|Zm<|Zg rfl rfl (EO rfl) (fun hc=>BA rfl yj)<|Zg rfl rfl (EO rfl) (fun hc=>AP (mv hc rfl) AAz ((Bx.cs hb1).at 1 rfl))<|Zg rfl rfl (EO rfl) (fun hc=>Kz (mv hc rfl) Tryz.underlying135)<|Zg rfl rfl (EO rfl) (fun hc=>xU (mv hc rfl) rfl)<|Zv (xpo rfl rfl rfl)<|Zm<|Zg rfl rfl (EO rfl) (fun hc=>BA rfl yT)<|Zg rfl rfl (EO rfl) (fun hc=>AP (mv hc rfl) Le ((Bx.cs hb1).at 2 rfl))<|Zg rfl rfl (EO rfl) (fun hc=>Kz (mv hc rfl) Tryz.underlying41)<|Zg rfl rfl (EO rfl) (fun hc=>Oi (mv hc rfl) rfl)<|Zv (xpo rfl rfl rfl)<|Zm<|Zg rfl rfl (EO rfl) (fun hc=>BA rfl yT)<|Zg rfl rfl (EO rfl) (fun hc=>AP (mv hc rfl) Le ((Bx.cs hb1).at 2 rfl))<|Zg rfl rfl (EO rfl) (fun hc=>Kz (mv hc rfl) Tryz.underlying41)<|Zg rfl rfl (EO rfl) (fun hc=>xU (mv hc rfl) rfl)<|Zv (xpo rfl rfl rfl)<|Zm<|Zg rfl rfl (EO rfl) (fun hc=>BA rfl AAo)<|Zg rfl rfl (EO rfl) (fun hc=>AP (mv hc rfl) Le ((Bx.cs hb1).at 3 rfl))<|Zg rfl rfl (EO rfl) (fun hc=>Kz (mv hc rfl) Tryz.underlying41)<|Zg rfl rfl (EO rfl) (fun hc=>Oi (mv hc rfl) rfl)<|Zv (xpo rfl rfl rfl)<|Zm<|Zg rfl rfl (EO rfl) (fun hc=>BA rfl AAo)<|Zg rfl rfl (EO rfl) (fun hc=>AP (mv hc rfl) Le ((Bx.cs hb1).at 3 rfl))<|Zg rfl rfl (EO rfl) (fun hc=>Kz (mv hc rfl) Tryz.underlying41)<|Zg rfl rfl (EO rfl) (fun hc=>xU (mv hc rfl) rfl)<|Zv (xpo rfl rfl rfl)<|nl<|cnd rfl (fun h2=>?_) (fun h2=>?_)
 ·have hF:=Cj hF h2;refine Zr<|Za<|nl<|?_;cases hF;exact wp_ret<|Zw rfl rfl rfl ⟨rfl,hx1⟩
 ·have hF:=DF hF h2;refine wp_skip<|wp_seq<|Zr<|Za<|nl<|bS hF fun o1 hB1 hF=>ct (fun L w=>o1=.inr ()/\L 1=.pointer (some ⟨b2,0,none⟩)/\Ext w1 w) ?_ ?_
  ·refine wp_block<|lp (I:=fun m L w=>∃y1:Int,wL F x0 m y1=some o1/\L 3=.int .i64 y1/\L 1=.pointer (some ⟨b2,0,none⟩)/\Ext w1 w) F ⟨_,hB1,rfl,rfl,(Ext.refl _)⟩ ?_;rintro m L w2⟨y1,hB1,l3_i1,l1_i1,K0_i1⟩;rcases m with _|m
   ·rw[wL]at hB1;cases hB1
   rw[wL]at hB1;have k1:=hx1.tr K0_i1;have hb2:=hb1.ext K0_i1;refine wp_seq<|Zr<|Zm<|Zv (BA l1_i1 yj)<|Zv (AP rfl AAz ((Bx.cs hb2).at 1 rfl))<|Zv (Kz rfl Tryz.underlying135)<|Zv (Oi l3_i1 rfl)<|nl<|cnd rfl (fun h3=>?_) (fun h3=>?_)
   ·have hB1:=Cj hB1 h3;refine wp_skip<|wp_seq<|wp_block<|Zr<|Zv (BA l1_i1 yj)<|Zv (AP rfl AAz ((Bx.cs hb2).at 1 rfl))<|Zm<|bS hB1 fun x2 Ex2 hB1=>?_;have hz:=(RV.els r2).ix Ex2;obtain⟨b3,f1,cs2,e4,i2,i3,q5,hc1⟩:=hz;cases e4;obtain⟨_,_,rfl,rfl,_,_,rfl,rfl,rfl⟩:=q5;have hc2:=hc1.ext k1;refine Zv (Dq rfl l3_i1 Tryz.underlying135 wQ i2 i3)<|Zv (Jq rfl wQ rfl hc2)<|yY wQ fun b4 w3 hx2 hg2 hb3=>?_;have k2:=k1.tr hx2;have k3:=K0_i1.tr hx2;refine xk rfl rfl rfl wQ hb3 rfl rfl (ble rfl) fun w4 hch1 hb5=>?_;have k4:=Ext.chg k2 hch1 (Nat.le_trans k1.size hg2);have k5:=Ext.chg k3 hch1 (Nat.le_trans K0_i1.size hg2);have k6:=Ext.chg hx2 hch1 (Nat.le_trans (Nat.le_refl _) hg2);have hb6:=hb2.ext k6;have hb7:Bx w4 b4 147 [.int .i64 x2.1,.int .i64 x2.2.1,.int .i64 x2.2.2]:=hb5;refine nl<|Zr<|Zv (BA rfl zX)<|Zv (AP rfl Ap ((Bx.cs hb7).at 0 rfl))<|Zv (Oi rfl rfl)<|Zm<|Zg rfl rfl (EO rfl) (fun hc=>BA rfl zX)<|Zg rfl rfl (EO rfl) (fun hc=>AP (mv hc rfl) Ap ((Bx.cs hb7).at 0 rfl))<|Zg rfl rfl (EO rfl) (fun hc=>BA l1_i1 vV)<|Zg rfl rfl (EO rfl) (fun hc=>AP (mv hc rfl) Ap ((Bx.cs hb6).at 0 rfl))<|Zg rfl rfl (EO rfl) (fun hc=>ACq (mv hc rfl) (mv hc rfl))<|Zv (xpo rfl rfl rfl)<|Zm<|Zg rfl rfl (EO rfl) (fun hc=>BA rfl zu)<|Zg rfl rfl (EO rfl) (fun hc=>AP (mv hc rfl) Ap ((Bx.cs hb7).at 1 rfl))<|Zg rfl rfl (EO rfl) (fun hc=>Oi (mv hc rfl) rfl)<|Zv (xpo rfl rfl rfl)<|Zm<|Zg rfl rfl (EO rfl) (fun hc=>BA rfl zu)<|Zg rfl rfl (EO rfl) (fun hc=>AP (mv hc rfl) Ap ((Bx.cs hb7).at 1 rfl))<|Zg rfl rfl (EO rfl) (fun hc=>BA l1_i1 vV)<|Zg rfl rfl (EO rfl) (fun hc=>AP (mv hc rfl) Ap ((Bx.cs hb6).at 0 rfl))<|Zg rfl rfl (EO rfl) (fun hc=>ACq (mv hc rfl) (mv hc rfl))<|Zv (xpo rfl rfl rfl)<|Zm<|Zg rfl rfl (EO rfl) (fun hc=>BA rfl zX)<|Zg rfl rfl (EO rfl) (fun hc=>AP (mv hc rfl) Ap ((Bx.cs hb7).at 0 rfl))<|Zg rfl rfl (EO rfl) (fun hc=>BA rfl zu)<|Zg rfl rfl (EO rfl) (fun hc=>AP (mv hc rfl) Ap ((Bx.cs hb7).at 1 rfl))<|Zg rfl rfl (EO rfl) (fun hc=>zL (mv hc rfl) (mv hc rfl))<|Zv (xpo rfl rfl rfl)<|Zm<|Zg rfl rfl (EO rfl) (fun hc=>BA rfl yu)<|Zg rfl rfl (EO rfl) (fun hc=>AP (mv hc rfl) Bh ((Bx.cs hb7).at 2 rfl))<|Zg rfl rfl (EO rfl) (fun hc=>Oi (mv hc rfl) rfl)<|Zv (xpo rfl rfl rfl)<|Zm<|Zg rfl rfl (EO rfl) (fun hc=>BA rfl yu)<|Zg rfl rfl (EO rfl) (fun hc=>AP (mv hc rfl) Bh ((Bx.cs hb7).at 2 rfl))<|Zg rfl rfl (EO rfl) (fun hc=>xU (mv hc rfl) rfl)<|Zv (xpo rfl rfl rfl)<|nl<|cnd rfl (fun h4=>?_) (fun h4=>?_)
    ·have hB1:=Cj hB1 h4;refine Zr<|Za<|nl<|?_;cases hB1;have hF:=(show some _=some _ from hF);cases hF;exact wp_ret<|Zw rfl rfl rfl ⟨rfl,k4⟩
    ·have hB1:=DF hB1 h4;refine wp_skip<|rg<|Zm<|Zv (FH l3_i1 rfl)<|Za<|nl<|lq m (Nat.lt_succ_self _)<|?_;exact⟨_,hB1,rfl,l1_i1,k5⟩
   ·have hB1:=DF hB1 h3;refine wp_exit<|?_;cases hB1;refine lf<|?_;exact⟨rfl,l1_i1,K0_i1⟩
  rintro L w5⟨rfl,l1_j1,K0_j1⟩;have k7:=hx1.tr K0_j1;have r19:=r6.ext K0_j1;have r20:=r7.ext K0_j1;have hb8:=hb1.ext K0_j1;refine wp_seq<|Zr<|Zv (BA l1_j1 yT)<|Zv (AP rfl Le ((Bx.cs hb8).at 2 rfl))<|Zv (BA l1_j1 vV)<|Zv (AP rfl Ap ((Bx.cs hb8).at 0 rfl))<|bS hF fun x3 Ex3 hF=>Zc (xc AOr (mc rfl (mc rfl mn))) (ARN r19 Ex3) ?_;rintro _ w6⟨rfl,hx3⟩;have k8:=k7.tr hx3;have hb9:=hb8.ext hx3;have r23:=r20.ext hx3;refine Zv (wP rfl)<|Zm<|Zg rfl rfl (EO rfl) (fun hc=>BA l1_j1 AAo)<|Zg rfl rfl (EO rfl) (fun hc=>AP (mv hc rfl) Le ((Bx.cs hb9).at 3 rfl))<|Zg rfl rfl (EO rfl) (fun hc=>BA l1_j1 vV)<|Zg rfl rfl (EO rfl) (fun hc=>AP (mv hc rfl) Ap ((Bx.cs hb9).at 0 rfl))<|bS hF fun x4 Ex4 hF=>gc rfl rfl rfl rfl (EO rfl) rfl (fun hc=>xc AOr (mc (mv hc rfl) (mc (mv hc rfl) mn))) (fun hc=>(ARN r23 (gdp Ex4 hc))) (fun v2 w7 hy1 hn1=>?_);have hx4:Ext w6 w7:=gx (fun h=>(hy1 h).2) (fun h=>(hn1 h).2▸Ext.refl _);have e5:=mkw (fun h=>(hy1 h).1) (fun h=>(hn1 h).1);have k10:=k8.tr hx4;have hb10:=hb9.ext hx4;have r26:=r23.ext hx4;refine Zg rfl rfl (EO rfl) (fun hc=>wP (mv hc e5))<|Zv (xpo rfl rfl rfl)<|nl<|cnd rfl (fun h5=>?_) (fun h5=>?_)
  ·have hF:=Cj hF h5;refine Zr<|Za<|nl<|?_;cases hF;exact wp_ret<|Zw rfl rfl rfl ⟨rfl,k10⟩
  ·have hF:=DF hF h5;refine wp_skip<|wp_seq<|Zr<|Za<|nl<|bS hF fun o2 hB6 hF=>ct (fun L w=>o2=.inr ()/\Ext w7 w) ?_ ?_
   ·refine wp_block<|lp (I:=fun m L w=>∃y2:Int,wM F x0 m y2=some o2/\L 5=.int .i64 y2/\L 1=.pointer (some ⟨b2,0,none⟩)/\Ext w7 w) F ⟨_,hB6,rfl,l1_j1,(Ext.refl _)⟩ ?_;rintro m L w8⟨y2,hB6,l5_i4,l1_i4,K0_i4⟩;rcases m with _|m
    ·rw[wM]at hB6;cases hB6
    rw[wM]at hB6;have k12:=k10.tr K0_i4;have r29:=r26.ext K0_i4;have hb11:=hb10.ext K0_i4;refine wp_seq<|Zr<|Zm<|Zv (BA l1_i4 yT)<|Zv (AP rfl Le ((Bx.cs hb11).at 2 rfl))<|Zv (Kz rfl Tryz.underlying41)<|Zv (Oi l5_i4 rfl)<|nl<|cnd rfl (fun h6=>?_) (fun h6=>?_)
    ·have hB6:=Cj hB6 h6;refine wp_skip<|wp_seq<|wp_block<|wp_seq<|wpl [] (.pure true 0 (.pure false 1 (.pure true 2 (.pure false 3 (.pure true 4 (.pure true 5 (.pure false 6 (.eff 7 .fin .stop)))))))) mixed (by kernel_rfl) (fun w9 hx5=>?_);have k14:=k12.tr hx5;have k16:=K0_i4.tr hx5;have hb12:=hb11.ext hx5;have r32:=r29.ext hx5;refine Zp rfl (fun _=>BA l1_i4 AAo)<|Zq rfl (fun _ hS=>AP rfl Le ((Bx.cs (hb12.ext (hS.resolve_left nofun))).at 3 rfl)) (Ext.refl _)<|Zp rfl (fun _=>BA l1_i4 yT)<|Zq rfl (fun _ hS=>AP rfl Le ((Bx.cs (hb12.ext (hS.resolve_left nofun))).at 2 rfl)) (Ext.refl _)<|Zn rfl<|bS hB6 fun x5 Ex5 hB6=>?_;have hz:=(RV.els r3).ix Ex5;obtain⟨b5,f2,cs3,e6,i5,i6,q6,hc3⟩:=hz;cases e6;obtain rfl:=q6;have hc4:=hc3.ext k14;refine Zp rfl (fun _=>Dq rfl l5_i4 Tryz.underlying41 Ap i5 i6)<|Zq rfl (fun _ hS=>AP rfl Ap ((hc4.ext (hS.resolve_left nofun)).at 0 rfl)) (Ext.refl _)<|bS hB6 fun x6 Ex6 hB6=>pe1 rfl<|Zc (xc AI2 (mc rfl (mc rfl mn))) (c79 r32 Ex6) ?_;rintro _ w10⟨rfl,hx6⟩;have k17:=k14.tr hx6;have k19:=k16.tr hx6;refine nl ⟨fun _ _=>hx6,?_⟩;refine cnd rfl (fun h7=>?_) (fun h7=>?_)
     ·have hB6:=Cj hB6 h7;refine Zr<|Za<|nl<|?_;cases hB6;have hF:=(show some _=some _ from hF);cases hF;exact wp_ret<|Zw rfl rfl rfl ⟨rfl,k17⟩
     ·have hB6:=DF hB6 h7;refine wp_skip<|rg<|Zm<|Zv (FH l5_i4 rfl)<|Za<|nl<|lq m (Nat.lt_succ_self _)<|?_;exact⟨_,hB6,rfl,l1_i4,k19⟩
    ·have hB6:=DF hB6 h6;refine wp_exit<|?_;cases hB6;refine lf<|?_;exact⟨rfl,K0_i4⟩
   rintro L w11⟨rfl,K0_j2⟩;have k20:=k10.tr K0_j2;refine Zr<|Za<|nl<|?_;cases hF;exact wp_ret<|Zw rfl rfl rfl ⟨rfl,k20⟩
theorem c73{w0:World}{v0:Value}{x0:(Int×(List (Int×Int×Int))×(List Int)×(List Int))}(r0:RV w0 v0 x0){F:Nat}{r:Bool}(hF:AB1 F x0=some r):
  Calls Tryz.prog 73 [v0].toArray w0 (IA fun v w'=>v=.bool r/\Ext w0 w'):=by
 unfold AB1 at hF;have hz:=id r0;obtain⟨_,rfl,_,_,rfl,rfl,_,_,rfl,⟨a1,cq1,rfl,p1,q2,e1⟩,_,_,rfl,⟨a2,cq2,rfl,p2,q3,e2⟩,a3,cq3,rfl,p3,q4,e3⟩:=hz;have r2:=RV.of1 p1 q2 e1;have r3:=RV.of1 p2 q3 e2;have r4:=RV.of1 p3 q4 e3;refine I9 (n:=24) Tryz.func73 rfl rfl rfl<|Zr<|yX rfl rfl fun b2 w1 hx1 hg1 hb1=>?_;have r5:=r2.ext hx1;have r6:=r3.ext hx1;have r7:=r4.ext hx1;refine Za<|nl<|Zr<|Zv (BA rfl yj)<|Zv (AP rfl AAz ((Bx.cs hb1).at 1 rfl))<|Zv (Kz rfl Tryz.underlying135)<|Zv (ADo rfl rfl)<|Zm<|Zg rfl rfl (xB rfl) (fun hc=>BA rfl yT)<|Zg rfl rfl (xB rfl) (fun hc=>AP (mv hc rfl) Le ((Bx.cs hb1).at 2 rfl))<|Zg rfl rfl (xB rfl) (fun hc=>Kz (mv hc rfl) Tryz.underlying41)<|Zg rfl rfl (xB rfl) (fun hc=>ADo (mv hc rfl) rfl)<|Zv (xpa rfl rfl rfl)<|Zm<|Zg rfl rfl (xB rfl) (fun hc=>BA rfl AAo)<|Zg rfl rfl (xB rfl) (fun hc=>AP (mv hc rfl) Le ((Bx.cs hb1).at 3 rfl))<|Zg rfl rfl (xB rfl) (fun hc=>Kz (mv hc rfl) Tryz.underlying41)<|Zg rfl rfl (xB rfl) (fun hc=>ADo (mv hc rfl) rfl)<|Zv (xpa rfl rfl rfl)<|Zm<|Zg rfl rfl (xB rfl) (fun hc=>Jq rfl AA0 rfl (Bx.cs hb1))<|bS hF fun x2 Ex2 hF=>gc rfl rfl rfl rfl (xB rfl) rfl (fun hc=>xc ALB (mc (mv hc rfl) mn)) (fun hc=>(AOT (show RV (α:=(Int×(List (Int×Int×Int))×(List Int)×(List Int))) _ (.agg [.int .i64 x0.1,.slice a1 x0.2.1.length cq1,.slice a2 x0.2.2.1.length cq2,.slice a3 x0.2.2.2.length cq3].toArray) (x0.1,x0.2.1,x0.2.2.1,x0.2.2.2)from⟨_,rfl,[.int .i64 x0.1],[.slice a1 x0.2.1.length cq1]++([.slice a2 x0.2.2.1.length cq2]++[.slice a3 x0.2.2.2.length cq3]),rfl,rfl,[.slice a1 x0.2.1.length cq1],[.slice a2 x0.2.2.1.length cq2]++[.slice a3 x0.2.2.2.length cq3],rfl,r5.rep1,[.slice a2 x0.2.2.1.length cq2],[.slice a3 x0.2.2.2.length cq3],rfl,r6.rep1,r7.rep1⟩) (gdp Ex2 hc))) (fun v2 w2 hy1 hn1=>?_);have hx2:Ext w1 w2:=gx (fun h=>(hy1 h).2) (fun h=>(hn1 h).2▸Ext.refl _);have e4:=mkw (fun h=>(hy1 h).1) (fun h=>(hn1 h).1);have k1:=hx1.tr hx2;refine Zg rfl rfl (xB rfl) (fun hc=>zL (mv hc e4) rfl)<|Zv (xpa rfl rfl rfl)<|Za<|nl<|?_;cases hF;exact wp_ret<|Zw rfl rfl rfl ⟨rfl,k1⟩
theorem AJg{w0:World}{b0:Nat}{cs0:List Value}{x0:((Int×(List (Int×Int×Int))×(List Int)×(List Int))×(List Int)×(List Int)×(Ar 40 Int))}(h0:Cs w0 b0 0 cs0)(q0:Enc.rep (fun _=>True) w0 cs0 x0){v1:Value}{x1:(Int×Int×Int)}(r1:RV w0 v1 x1){r:Int}(hF:vz x0 x1=some r):
  Calls Tryz.prog 162 [.pointer (some ⟨b0,0,none⟩),v1].toArray w0 (IA fun v w'=>v=.int .i64 r/\Ext w0 w'):=by
 unfold vz at hF;obtain⟨_,_,rfl,⟨_,_,rfl,rfl,_,_,rfl,⟨a1,cq1,rfl,p1,q3,e1⟩,_,_,rfl,⟨a2,cq2,rfl,p2,q4,e2⟩,a3,cq3,rfl,p3,q5,e3⟩,_,_,rfl,⟨a4,cq4,rfl,p4,q6,e4⟩,_,_,rfl,⟨a5,cq5,rfl,p5,q7,e5⟩,rfl⟩:=q0;have r3:=RV.of1 p1 q3 e1;have r7:=RV.of1 p5 q7 e5;have hz:=id r1;obtain⟨_,rfl,_,_,rfl,rfl,_,_,rfl,rfl,rfl⟩:=hz;refine I9 (n:=42) Tryz.func162 rfl rfl rfl<|Zr<|yX rfl rfl fun b3 w1 hx1 hg1 hb1=>?_;have h3:=h0.ext hx1;refine Za<|nl<|wp_seq<|wpl [] (.pure true 0 (.pure true 1 (.pure true 2 (.pure true 3 (.pure false 4 (.pure true 5 (.pure false 6 (.pure true 7 (.pure false 8 (.eff 9 (.eff 10 .fin .stop) .stop)))))))))) mixed (by kernel_rfl) (fun w2 hx2=>?_);have k1:=hx1.tr hx2;have hb2:=hb1.ext hx2;have h4:=h3.ext hx2;refine Zn rfl<|Zp rfl (fun _=>tX rfl)<|Zp rfl (fun _=>BA rfl AAM)<|Zp rfl (fun _=>BA rfl yj)<|Zq rfl (fun _ hS=>AP rfl AAz ((h4.ext (hS.resolve_left nofun)).at 1 rfl)) (Ext.refl _)<|Zp rfl (fun _=>BA rfl ACr)<|Zq rfl (fun _ hS=>AP rfl Ap ((Bx.cs (hb2.ext (hS.resolve_left nofun))).at 2 rfl)) (Ext.refl _)<|bS hF fun x3 Ex3 hF=>?_;have hz:=(RV.els r3).ix Ex3;obtain⟨b4,f1,cs3,e6,i1,i2,q8,hc1⟩:=hz;cases e6;obtain⟨_,_,rfl,rfl,_,_,rfl,rfl,rfl⟩:=q8;have hc2:=hc1.ext k1;refine Zp rfl (fun _=>Dq rfl rfl Tryz.underlying135 wQ i1 i2)<|Zq rfl (fun _ hS=>Jq rfl wQ rfl (hc2.ext (hS.resolve_left nofun))) (Ext.refl _)<|pe1 rfl<|yY wQ fun b5 w3 hx3 hg2 hb3=>?_;have k2:=k1.tr hx3;refine nl ⟨fun _ _=>hx3,?_⟩;refine pe1 rfl<|xk rfl rfl rfl wQ hb3 rfl rfl (ble rfl) fun w4 hch1 hb5=>?_;have k3:=Ext.chg k2 hch1 (Nat.le_trans k1.size hg2);have k4:=Ext.chg hx3 hch1 (Nat.le_trans (Nat.le_refl _) hg2);have hb6:=hb2.ext k4;have h6:=h4.ext k4;have hb7:Bx w4 b5 147 [.int .i64 x3.1,.int .i64 x3.2.1,.int .i64 x3.2.2]:=hb5;refine nl ⟨fun _ _=>k4,?_⟩;refine wp_seq<|Zr<|Zv (BA rfl zX)<|Zv (AP rfl Ap ((Bx.cs hb7).at 0 rfl))<|Zv (BA rfl AHk)<|Zv (AP rfl Ap ((Bx.cs hb6).at 0 rfl))<|Zv (zL rfl rfl)<|nl<|cnd rfl (fun h7=>?_) (fun h7=>?_)
 ·have hF:=Cj hF h7;refine wp_seq<|wpl [] (.pure true 0 (.pure false 1 (.pure true 2 (.pure true 3 (.pure true 4 (.pure false 5 (.pure true 6 (.pure false 7 (.pure true 8 (.pure false 9 (.pure true 10 (.pure true 11 .fin)))))))))))) mixed (by kernel_rfl) (fun w5 hx4=>?_);have k5:=k3.tr hx4;have hb8:=hb6.ext hx4;have hb9:=hb7.ext hx4;have h8:=h6.ext hx4;refine Zp rfl (fun _=>BA rfl yu)<|Zq rfl (fun _ hS=>AP rfl Bh ((Bx.cs (hb9.ext (hS.resolve_left nofun))).at 2 rfl)) (Ext.refl _)<|Zn rfl<|Zp rfl (fun _=>tX rfl)<|Zp rfl (fun _=>BA rfl ACG)<|Zq rfl (fun _ hS=>AP rfl AFZ ((h8.ext (hS.resolve_left nofun)).at 5 rfl)) (Ext.refl _)<|Zp rfl (fun _=>BA rfl ACr)<|Zq rfl (fun _ hS=>AP rfl Ap ((Bx.cs (hb8.ext (hS.resolve_left nofun))).at 2 rfl)) (Ext.refl _)<|bS hF fun x4 Ex4 hF=>?_;have hz:=(RV.els r7).ix Ex4;obtain⟨b6,f2,cs4,e7,i3,i4,q9,hc3⟩:=hz;cases e7;obtain rfl:=q9;have hc4:=hc3.ext k5;refine Zp rfl (fun _=>Dq rfl rfl Tryz.underlying28 Bh i3 i4)<|Zq rfl (fun _ hS=>AP rfl Bh ((hc4.ext (hS.resolve_left nofun)).at 0 rfl)) (Ext.refl _)<|Zp rfl (fun _=>AB4 rfl rfl)<|Zp rfl (fun _=>xas)<|?_;cases hF;exact wp_ret<|Zw rfl rfl rfl ⟨rfl,k5⟩
 ·have hF:=DF hF h7;refine wp_skip<|wp_seq<|wpl [] (.pure true 0 (.pure false 1 (.pure true 2 (.pure true 3 (.pure true 4 (.pure false 5 (.pure true 6 (.pure false 7 (.pure true 8 (.pure false 9 (.pure true 10 (.pure true 11 .fin)))))))))))) mixed (by kernel_rfl) (fun w6 hx5=>?_);have k7:=k3.tr hx5;have hb10:=hb6.ext hx5;have hb11:=hb7.ext hx5;have h9:=h6.ext hx5;refine Zp rfl (fun _=>BA rfl yu)<|Zq rfl (fun _ hS=>AP rfl Bh ((Bx.cs (hb11.ext (hS.resolve_left nofun))).at 2 rfl)) (Ext.refl _)<|Zn rfl<|Zp rfl (fun _=>tX rfl)<|Zp rfl (fun _=>BA rfl ACG)<|Zq rfl (fun _ hS=>AP rfl AFZ ((h9.ext (hS.resolve_left nofun)).at 5 rfl)) (Ext.refl _)<|Zp rfl (fun _=>BA rfl ACr)<|Zq rfl (fun _ hS=>AP rfl Ap ((Bx.cs (hb10.ext (hS.resolve_left nofun))).at 2 rfl)) (Ext.refl _)<|bS hF fun x5 Ex5 hF=>?_;have hz:=(RV.els r7).ix Ex5;obtain⟨b7,f3,cs5,e8,i5,i6,q10,hc5⟩:=hz;cases e8;obtain rfl:=q10;have hc6:=hc5.ext k7;refine Zp rfl (fun _=>Dq rfl rfl Tryz.underlying28 Bh i5 i6)<|Zq rfl (fun _ hS=>AP rfl Bh ((hc6.ext (hS.resolve_left nofun)).at 0 rfl)) (Ext.refl _)<|Zp rfl (fun _=>FH rfl rfl)<|Zp rfl (fun _=>xas)<|?_;cases hF;exact wp_ret<|Zw rfl rfl rfl ⟨rfl,k7⟩
theorem AUP{w0:World}{b0:Nat}{cs0:List Value}{x0:((Int×(List (Int×Int×Int))×(List Int)×(List Int))×(List Int)×(List Int)×(Ar 40 Int))}(h0:Cs w0 b0 0 cs0)(q0:Enc.rep (fun _=>True) w0 cs0 x0){v1:Value}{x1:(Int×Int×Int)}(r1:RV w0 v1 x1){r:Int}(hF:AAS x0 x1=some r):
  Calls Tryz.prog 163 [.pointer (some ⟨b0,0,none⟩),v1].toArray w0 (IA fun v w'=>v=.int .i64 r/\Ext w0 w'):=by
 unfold AAS at hF;obtain⟨_,_,rfl,⟨_,_,rfl,rfl,_,_,rfl,⟨a1,cq1,rfl,p1,q3,e1⟩,_,_,rfl,⟨a2,cq2,rfl,p2,q4,e2⟩,a3,cq3,rfl,p3,q5,e3⟩,_,_,rfl,⟨a4,cq4,rfl,p4,q6,e4⟩,_,_,rfl,⟨a5,cq5,rfl,p5,q7,e5⟩,rfl⟩:=q0;have r3:=RV.of1 p1 q3 e1;have r4:=RV.of1 p2 q4 e2;have r5:=RV.of1 p3 q5 e3;have r6:=RV.of1 p4 q6 e4;have r7:=RV.of1 p5 q7 e5;have hz:=id r1;obtain⟨_,rfl,_,_,rfl,rfl,_,_,rfl,rfl,rfl⟩:=hz;refine I9 (n:=14) Tryz.func163 rfl rfl rfl<|Zr<|yX rfl rfl fun b3 w1 hx1 hg1 hb1=>?_;have r8:=r3.ext hx1;have r9:=r4.ext hx1;have r10:=r5.ext hx1;have r11:=r6.ext hx1;have r12:=r7.ext hx1;have h3:=h0.ext hx1;refine Za<|nl<|Zr<|Zm<|Zv (BA rfl ABM)<|Zv (AP rfl Ap ((Bx.cs hb1).at 1 rfl))<|Zv (BA rfl AHk)<|Zv (AP rfl Ap ((Bx.cs hb1).at 0 rfl))<|Zv (BA rfl ACr)<|Zv (AP rfl Ap ((Bx.cs hb1).at 2 rfl))<|Zv (AAe (r:=[.int .i64 x1.2.1,.int .i64 x1.1,.int .i64 x1.2.2]) bF ADW (pc rfl (pc rfl (pc rfl pn))) rfl)<|bS hF fun x3 Ex3 hF=>Zc (xc AGy (mc rfl (mc rfl mn))) (AJg (x0:=((x0.1.1,x0.1.2.1,x0.1.2.2.1,x0.1.2.2.2),x0.2.1,x0.2.2.1,x0.2.2.2)) h3 ⟨[.int .i64 x0.1.1]++([.slice a1 x0.1.2.1.length cq1]++([.slice a2 x0.1.2.2.1.length cq2]++[.slice a3 x0.1.2.2.2.length cq3])),[.slice a4 x0.2.1.length cq4]++([.slice a5 x0.2.2.1.length cq5]++(List.flatMap Flat.enc x0.2.2.2.l)),rfl,⟨[.int .i64 x0.1.1],[.slice a1 x0.1.2.1.length cq1]++([.slice a2 x0.1.2.2.1.length cq2]++[.slice a3 x0.1.2.2.2.length cq3]),rfl,rfl,[.slice a1 x0.1.2.1.length cq1],[.slice a2 x0.1.2.2.1.length cq2]++[.slice a3 x0.1.2.2.2.length cq3],rfl,r8.rep1,[.slice a2 x0.1.2.2.1.length cq2],[.slice a3 x0.1.2.2.2.length cq3],rfl,r9.rep1,r10.rep1⟩,[.slice a4 x0.2.1.length cq4],[.slice a5 x0.2.2.1.length cq5]++(List.flatMap Flat.enc x0.2.2.2.l),rfl,r11.rep1,[.slice a5 x0.2.2.1.length cq5],(List.flatMap Flat.enc x0.2.2.2.l),rfl,r12.rep1,rfl⟩ (show RV (α:=(Int×Int×Int)) _ (.agg [.int .i64 x1.2.1,.int .i64 x1.1,.int .i64 x1.2.2].toArray) (x1.2.1,x1.1,x1.2.2)from⟨_,rfl,[.int .i64 x1.2.1],[.int .i64 x1.1]++[.int .i64 x1.2.2],rfl,rfl,[.int .i64 x1.1],[.int .i64 x1.2.2],rfl,rfl,rfl⟩) Ex3) ?_;rintro _ w2⟨rfl,hx2⟩;have k1:=hx1.tr hx2;refine Za<|nl<|?_;cases hF;exact wp_ret<|Zw rfl rfl rfl ⟨rfl,k1⟩
theorem ARO{w0:World}{b0:Nat}{cs0:List Value}{x0:((Int×(List (Int×Int×Int))×(List Int)×(List Int))×(List Int)×(List Int)×(Ar 40 Int))}(h0:Cs w0 b0 0 cs0)(q0:Enc.rep (fun _=>True) w0 cs0 x0){F:Nat}{r:(Ar 40 Int)}(hF:AAT F x0=some r):
  Calls Tryz.prog 263 [.pointer (some ⟨b0,0,none⟩)].toArray w0 (IA fun v w'=>∃u0:Value,v=u0/\RV w' u0 r/\Ext w0 w'):=by
 unfold AAT at hF;obtain⟨_,_,rfl,⟨_,_,rfl,rfl,_,_,rfl,⟨a1,cq1,rfl,p1,q2,e1⟩,_,_,rfl,⟨a2,cq2,rfl,p2,q3,e2⟩,a3,cq3,rfl,p3,q4,e3⟩,_,_,rfl,⟨a4,cq4,rfl,p4,q5,e4⟩,_,_,rfl,⟨a5,cq5,rfl,p5,q6,e5⟩,rfl⟩:=q0;have r2:=RV.of1 p1 q2 e1;have r6:=RV.of1 p5 q6 e5;refine I9 (n:=45) Tryz.func263 rfl rfl rfl<|Zr<|yY ADX fun b2 w1 hx1 hg1 hb1=>?_;have h2:=h0.ext hx1;have hb2:Bx w1 b2 364 (List.flatMap Flat.enc ((Ar.fill 40 0:(Ar 40 Int))).l):=hb1;refine nl<|Zr<|yY ADX fun b3 w2 hx2 hg2 hb3=>?_;have h3:=h2.ext hx2;have hb5:Bx w2 b3 364 (List.flatMap Flat.enc ((Ar.fill 40 0:(Ar 40 Int))).l):=hb3;refine nl<|wp_seq<|Zr<|Zm<|Zv (tX rfl)<|Zv (BA rfl AAM)<|Zv (BA rfl yj)<|Zv (AP rfl AAz (h3.at 1 rfl))<|Zv (Kz rfl Tryz.underlying135)<|Zm<|nl<|bS hF fun z1 hB1 hF=>ct (fun L w=>Bx w b3 364 (List.flatMap Flat.enc z1.l)/\L 2=.pointer (some ⟨b2,0,none⟩)/\L 3=.pointer (some ⟨b3,0,none⟩)/\Ext w1 w) ?_ ?_
 ·refine wp_block<|lp (I:=fun m L w=>∃y1:Int,∃y2:(Ar 40 Int),yc F x0 m y1 y2=some z1/\L 12=.int .i64 y1/\Bx w b3 364 (List.flatMap Flat.enc y2.l)/\L 0=.pointer (some ⟨b0,0,none⟩)/\L 2=.pointer (some ⟨b2,0,none⟩)/\L 3=.pointer (some ⟨b3,0,none⟩)/\L 10=.slice a1 x0.1.2.1.length cq1/\L 11=.int .i64 (x0.1.2.1.length:Int)/\Ext w1 w) F ⟨_,_,hB1,rfl,hb5,rfl,rfl,rfl,rfl,rfl,hx2⟩ ?_;rintro m L w3⟨y1,y2,hB1,l12_i1,B3_i1,l0_i1,l2_i1,l3_i1,l10_i1,l11_i1,K0_i1⟩;rcases m with _|m
  ·rw[yc]at hB1;cases hB1
  rw[yc]at hB1;have k2:=hx1.tr K0_i1;have h4:=h2.ext K0_i1;refine Zr<|Zv (Oi l12_i1 l11_i1)<|nl<|wp_seq<|cnd rfl (fun h5=>?_) (fun h5=>?_)
  ·have hB1:=Cj hB1 h5;refine wp_skip<|wp_seq<|wp_block<|Zr<|Zm<|bS hB1 fun x2 Ex2 hB1=>?_;have hz:=(RV.els r2).ix Ex2;obtain⟨b4,f1,cs2,e6,i2,i3,q7,hc1⟩:=hz;cases e6;obtain⟨_,_,rfl,rfl,_,_,rfl,rfl,rfl⟩:=q7;have hc2:=hc1.ext k2;refine Zv (Dq l10_i1 l12_i1 Tryz.underlying135 wQ i2 i3)<|Zv (Jq rfl wQ rfl hc2)<|yY wQ fun b5 w4 hx3 hg3 hb7=>?_;have k3:=k2.tr hx3;have k4:=K0_i1.tr hx3;refine Za<|xk rfl rfl rfl wQ hb7 rfl rfl (ble rfl) fun w5 hch1 hb9=>?_;have k5:=Ext.chg k3 hch1 (Nat.le_trans k2.size hg3);have k6:=Ext.chg k4 hch1 (Nat.le_trans K0_i1.size hg3);have k7:=Ext.chg hx3 hch1 (Nat.le_trans (Nat.le_refl _) hg3);have B2:=B3_i1.ext k7;have h7:=h4.ext k7;have hb11:Bx w5 b5 147 [.int .i64 x2.1,.int .i64 x2.2.1,.int .i64 x2.2.2]:=hb9;refine nl<|wp_seq<|wpl [13] (.pure true 0 (.pure false 1 (.pure true 2 (.pure false 3 (.pure true 4 (.pure true 5 (.pure true 6 (.pure false 7 (.pure true 8 (.pure true 9 (.pure false 10 (.pure true 11 (.pure true 12 (.eff 13 .fin .stop)))))))))))))) mixed (by kernel_rfl) (fun w6 hx4=>?_);have k8:=k5.tr hx4;have k9:=k6.tr hx4;have B3:=B2.ext hx4;have hb13:=hb11.ext hx4;have h8:=h7.ext hx4;refine Zp rfl (fun _=>BA rfl zX)<|Zq rfl (fun _ hS=>AP rfl Ap ((Bx.cs (hb13.ext (hS.resolve_left nofun))).at 0 rfl)) (Ext.refl _)<|bS hB1 fun x3 Ex3 hB1=>?_;have hz:=yZ (Bx.cs B3) Ex3;obtain⟨i4,i5,hc3⟩:=hz;refine Zp rfl (fun _=>xW l3_i1 rfl Tryz.underlying364 Bh i4 i5)<|Zq rfl (fun _ hS=>AP rfl Bh ((hc3.ext (hS.resolve_left nofun)).at 0 rfl)) (Ext.refl _)<|Zn rfl<|Zp rfl (fun _=>tX l0_i1)<|Zp rfl (fun _=>BA rfl ACG)<|Zq rfl (fun _ hS=>AP rfl AFZ ((h8.ext (hS.resolve_left nofun)).at 5 rfl)) (Ext.refl _)<|Zn rfl<|bS hB1 fun x4 Ex4 hB1=>?_;have hz:=(RV.els r6).ix Ex4;obtain⟨b6,f2,cs3,e7,i6,i7,q8,hc4⟩:=hz;cases e7;obtain rfl:=q8;have hc5:=hc4.ext k8;refine Zp rfl (fun _=>Dq rfl l12_i1 Tryz.underlying28 Bh i6 i7)<|Zq rfl (fun _ hS=>AP rfl Bh ((hc5.ext (hS.resolve_left nofun)).at 0 rfl)) (Ext.refl _)<|Zp rfl (fun _=>AB4 rfl rfl)<|bS hB1 fun x5 Ex5 hB1=>?_;have hz:=yZ (Bx.cs B3) Ex5;obtain⟨i8,i9,hc6⟩:=hz;refine Zp rfl (fun _=>xW l3_i1 rfl Tryz.underlying364 Bh i8 i9)<|pe1 rfl<|AFX (X:=y2) (v:=BH (x3-x4)) rfl rfl rfl Bh B3 Ex5 fun w7 hch2 hb14=>?_;have k11:=Ext.chg k8 hch2 (Nat.le_trans hx1.size hg2);have k12:=Ext.chg k9 hch2 (Nat.le_trans (Nat.le_refl _) hg2);have hb16:=Bx.chg hb13 hch2 (Ne.symm (Nat.ne_of_lt (Nat.lt_of_lt_of_le B3_i1.lt hg3)));have h9:=h2.ext k12;refine nl ⟨fun h=>(h (by decide)).elim,?_⟩;refine wpl [13] (.pure true 0 (.pure false 1 (.pure true 2 (.pure false 3 (.pure true 4 (.pure true 5 (.pure true 6 (.pure false 7 (.pure true 8 (.pure true 9 (.pure false 10 (.pure true 11 (.pure true 12 (.eff 13 .fin .stop)))))))))))))) mixed (by kernel_rfl) (fun w8 hx5=>?_);have k13:=k11.tr hx5;have k14:=k12.tr hx5;have hb18:=hb14.ext hx5;have hb19:=hb16.ext hx5;have h10:=h9.ext hx5;refine Zp rfl (fun _=>BA rfl zu)<|Zq rfl (fun _ hS=>AP rfl Ap ((Bx.cs (hb19.ext (hS.resolve_left nofun))).at 1 rfl)) (Ext.refl _)<|bS hB1 fun x6 Ex6 hB1=>?_;have hz:=yZ (Bx.cs hb18) Ex6;obtain⟨i10,i11,hc7⟩:=hz;refine Zp rfl (fun _=>xW l3_i1 rfl Tryz.underlying364 Bh i10 i11)<|Zq rfl (fun _ hS=>AP rfl Bh ((hc7.ext (hS.resolve_left nofun)).at 0 rfl)) (Ext.refl _)<|Zn rfl<|Zp rfl (fun _=>tX l0_i1)<|Zp rfl (fun _=>BA rfl ACG)<|Zq rfl (fun _ hS=>AP rfl AFZ ((h10.ext (hS.resolve_left nofun)).at 5 rfl)) (Ext.refl _)<|Zn rfl<|bS hB1 fun x7 Ex7 hB1=>?_;have hz:=ix2 r6 Ex7;obtain⟨cs4,i12,i13,q9,hc8⟩:=hz;obtain rfl:=q9;have hc9:=hc8.ext k13;refine Zp rfl (fun _=>Dq rfl l12_i1 Tryz.underlying28 Bh i12 i13)<|Zq rfl (fun _ hS=>AP rfl Bh ((hc9.ext (hS.resolve_left nofun)).at 0 rfl)) (Ext.refl _)<|Zp rfl (fun _=>FH rfl rfl)<|bS hB1 fun x8 Ex8 hB1=>?_;have hz:=yZ (Bx.cs hb18) Ex8;obtain⟨i14,i15,hc10⟩:=hz;refine Zp rfl (fun _=>xW l3_i1 rfl Tryz.underlying364 Bh i14 i15)<|pe1 rfl<|AFX (X:=(vZ y2 x2.1 (BH (x3-x4)))) (v:=BH (x6+x7)) rfl rfl rfl Bh hb18 Ex8 fun w9 hch3 hb20=>?_;have k16:=Ext.chg k14 hch3 (Nat.le_trans (Nat.le_refl _) hg2);refine nl ⟨fun h=>(h (by decide)).elim,?_⟩;refine rg<|Zv (FH l12_i1 rfl)<|Zm<|nl<|lq m (Nat.lt_succ_self _)<|?_;exact⟨_,_,hB1,rfl,hb20,l0_i1,l2_i1,l3_i1,l10_i1,l11_i1,k16⟩
  ·have hB1:=DF hB1 h5;refine wp_exit<|?_;cases hB1;refine lf<|?_;exact⟨B3_i1,l2_i1,l3_i1,K0_i1⟩
 rintro L w10⟨B3_j1,l2_j1,l3_j1,K0_j1⟩;have k17:=hx1.tr K0_j1;have hb22:=hb2.ext K0_j1;refine Zr<|Zv (Jq l3_j1 ADX (xO _) (Bx.cs B3_j1))<|ADs l2_j1 rfl ADX hb22 (xO _) (xO _) (AAr _) fun w11 hch4 hb23=>?_;have k18:=Ext.chg k17 hch4 (Nat.le_trans (Nat.le_refl _) hg1);have hb24:Bx w11 b2 364 (List.flatMap Flat.enc z1.l):=hb23;refine nl<|?_;have hF:=Option.some.inj hF;subst hF;exact wp_ret<|rt rfl (.cell l2_j1 rfl ADX (xO _) (Bx.cs hb24) .nil) ⟨_,rfl,(show RV (α:=(Ar 40 Int)) _ (.agg (List.flatMap Flat.enc z1.l).toArray) z1 from⟨_,rfl,rfl⟩),k18⟩
theorem AUQ{w0:World}{b0:Nat}{cs0:List Value}{x0:((Int×(List (Int×Int×Int))×(List Int)×(List Int))×(List Int)×(List Int)×(Ar 40 Int))}(h0:Cs w0 b0 0 cs0)(q0:Enc.rep (fun _=>True) w0 cs0 x0){F:Nat}{r:Int}(hF:ABP F x0=some r):
  Calls Tryz.prog 164 [.pointer (some ⟨b0,0,none⟩)].toArray w0 (IA fun v w'=>v=.int .i64 r/\Ext w0 w'):=by
 unfold ABP at hF;obtain⟨_,_,rfl,⟨_,_,rfl,rfl,_,_,rfl,⟨a1,cq1,rfl,p1,q2,e1⟩,_,_,rfl,⟨a2,cq2,rfl,p2,q3,e2⟩,a3,cq3,rfl,p3,q4,e3⟩,_,_,rfl,⟨a4,cq4,rfl,p4,q5,e4⟩,_,_,rfl,⟨a5,cq5,rfl,p5,q6,e5⟩,rfl⟩:=q0;have r2:=RV.of1 p1 q2 e1;have r3:=RV.of1 p2 q3 e2;have r4:=RV.of1 p3 q4 e3;have r5:=RV.of1 p4 q5 e4;have r6:=RV.of1 p5 q6 e5;refine I9 (n:=26) Tryz.func164 rfl rfl rfl<|Zr<|Za<|nl<|Zr<|Zm<|bS hF fun x2 Ex2 hF=>Zc (xc AOs (mc rfl mn)) (ARO (x0:=((x0.1.1,x0.1.2.1,x0.1.2.2.1,x0.1.2.2.2),x0.2.1,x0.2.2.1,x0.2.2.2)) h0 ⟨[.int .i64 x0.1.1]++([.slice a1 x0.1.2.1.length cq1]++([.slice a2 x0.1.2.2.1.length cq2]++[.slice a3 x0.1.2.2.2.length cq3])),[.slice a4 x0.2.1.length cq4]++([.slice a5 x0.2.2.1.length cq5]++(List.flatMap Flat.enc x0.2.2.2.l)),rfl,⟨[.int .i64 x0.1.1],[.slice a1 x0.1.2.1.length cq1]++([.slice a2 x0.1.2.2.1.length cq2]++[.slice a3 x0.1.2.2.2.length cq3]),rfl,rfl,[.slice a1 x0.1.2.1.length cq1],[.slice a2 x0.1.2.2.1.length cq2]++[.slice a3 x0.1.2.2.2.length cq3],rfl,r2.rep1,[.slice a2 x0.1.2.2.1.length cq2],[.slice a3 x0.1.2.2.2.length cq3],rfl,r3.rep1,r4.rep1⟩,[.slice a4 x0.2.1.length cq4],[.slice a5 x0.2.2.1.length cq5]++(List.flatMap Flat.enc x0.2.2.2.l),rfl,r5.rep1,[.slice a5 x0.2.2.1.length cq5],(List.flatMap Flat.enc x0.2.2.2.l),rfl,r6.rep1,rfl⟩ Ex2) ?_;rintro _ w1⟨u1,rfl,r7,hx1⟩;have h2:=h0.ext hx1;have hz:=id r7;obtain⟨_,rfl,rfl⟩:=hz;refine yY ADX fun b2 w2 hx2 hg1 hb1=>?_;have k1:=hx1.tr hx2;have hb2:Bx w2 b2 364 (List.flatMap Flat.enc ((Ar.fill 40 0:(Ar 40 Int))).l):=hb1;refine ADs rfl rfl ADX hb2 (xO _) (xO _) (AAr _) fun w3 hch1 hb3=>?_;have k2:=Ext.chg k1 hch1 (Nat.le_trans hx1.size hg1);have k3:=Ext.chg hx2 hch1 (Nat.le_trans (Nat.le_refl _) hg1);have h4:=h2.ext k3;have hb4:Bx w3 b2 364 (List.flatMap Flat.enc x2.l):=hb3;refine nl<|Zr<|Za<|nl<|wp_seq<|Zr<|Zm<|Zv (tX rfl)<|Zv (BA rfl AAM)<|Zv (BA rfl yT)<|Zv (AP rfl Le (h4.at 2 rfl))<|Zv (Kz rfl Tryz.underlying41)<|Zm<|nl<|bS hF fun z1 hB1 hF=>ct (fun L w=>L 4=.int .i64 z1/\Ext w3 w) ?_ ?_
 ·refine wp_block<|lp (I:=fun m L w=>∃y1:Int,∃y2:Int,yN F x0 x2 m y1 y2=some z1/\L 4=.int .i64 y1/\L 15=.int .i64 y2/\L 3=.pointer (some ⟨b2,0,none⟩)/\L 13=.slice a2 x0.1.2.2.1.length cq2/\L 14=.int .i64 (x0.1.2.2.1.length:Int)/\Ext w3 w) F ⟨_,_,hB1,rfl,rfl,rfl,rfl,rfl,(Ext.refl _)⟩ ?_;rintro m L w4⟨y1,y2,hB1,l4_i1,l15_i1,l3_i1,l13_i1,l14_i1,K0_i1⟩;rcases m with _|m
  ·rw[yN]at hB1;cases hB1
  rw[yN]at hB1;have k4:=k2.tr K0_i1;have hb5:=hb4.ext K0_i1;refine Zr<|Zv (Oi l15_i1 l14_i1)<|nl<|wp_seq<|cnd rfl (fun h5=>?_) (fun h5=>?_)
  ·have hB1:=Cj hB1 h5;refine wp_skip<|wp_seq<|wp_block<|Zr<|bS hB1 fun x3 Ex3 hB1=>?_;have hz:=(RV.els r3).ix Ex3;obtain⟨b3,f1,cs2,e6,i2,i3,q7,hc1⟩:=hz;cases e6;obtain rfl:=q7;have hc2:=hc1.ext k4;refine Zv (Dq l13_i1 l15_i1 Tryz.underlying41 Ap i2 i3)<|Zv (AP rfl Ap (hc2.at 0 rfl))<|Za<|nl<|rg<|Zm<|Zm<|bS hB1 fun x4 Ex4 hB1=>?_;have hz:=yZ (Bx.cs hb5) Ex4;obtain⟨i4,i5,hc3⟩:=hz;refine Zv (xW l3_i1 rfl Tryz.underlying364 Bh i4 i5)<|Zv (AP rfl Bh (hc3.at 0 rfl))<|Zv (AB4 l4_i1 rfl)<|Za<|nl<|rg<|Zv (FH l15_i1 rfl)<|Zm<|nl<|lq m (Nat.lt_succ_self _)<|?_;exact⟨_,_,hB1,rfl,rfl,l3_i1,l13_i1,l14_i1,K0_i1⟩
  ·have hB1:=DF hB1 h5;refine wp_exit<|?_;cases hB1;refine lf<|?_;exact⟨l4_i1,K0_i1⟩
 rintro L w5⟨l4_j1,K0_j1⟩;have k6:=k2.tr K0_j1;refine Zr<|Zm<|Za<|nl<|?_;cases hF;exact wp_ret<|rt rfl (.tmp l4_j1 rfl .nil) ⟨rfl,k6⟩
theorem c78{w0:World}{v0:Value}{x0:(Int×(List (Int×Int×Int))×(List Int)×(List Int))}(r0:RV w0 v0 x0){v1:Value}{x1:(List Int)}(r1:RV w0 v1 x1){F:Nat}{r:(Int×Int)}(hF:AA9 F x0 x1=some r):
  Calls Tryz.prog 78 [v0,v1].toArray w0 (IA fun v w'=>v=.tuple #[.int .i64 r.1,.int .i64 r.2]/\Ext w0 w'):=by
 unfold AA9 at hF;have hz:=id r0;obtain⟨_,rfl,_,_,rfl,rfl,_,_,rfl,⟨a1,cq1,rfl,p1,q3,e1⟩,_,_,rfl,⟨a2,cq2,rfl,p2,q4,e2⟩,a3,cq3,rfl,p3,q5,e3⟩:=hz;have r3:=RV.of1 p1 q3 e1;have r4:=RV.of1 p2 q4 e2;have r5:=RV.of1 p3 q5 e3;have hz:=r1.sl;obtain⟨a4,cq4,rfl,-,-,-⟩:=hz;refine I9 (n:=104) Tryz.func78 rfl rfl rfl<|Zr<|yX rfl rfl fun b3 w1 hx1 hg1 hb1=>?_;have r7:=r3.ext hx1;have r8:=r4.ext hx1;have r9:=r5.ext hx1;refine Za<|Za<|nl<|wp_seq<|Zr<|Zv (Jq rfl AA0 rfl (Bx.cs hb1))<|bS hF fun x3 Ex3 hF=>Zc (xc ALB (mc rfl mn)) (AOT (show RV (α:=(Int×(List (Int×Int×Int))×(List Int)×(List Int))) _ (.agg [.int .i64 x0.1,.slice a1 x0.2.1.length cq1,.slice a2 x0.2.2.1.length cq2,.slice a3 x0.2.2.2.length cq3].toArray) (x0.1,x0.2.1,x0.2.2.1,x0.2.2.2)from⟨_,rfl,[.int .i64 x0.1],[.slice a1 x0.2.1.length cq1]++([.slice a2 x0.2.2.1.length cq2]++[.slice a3 x0.2.2.2.length cq3]),rfl,rfl,[.slice a1 x0.2.1.length cq1],[.slice a2 x0.2.2.1.length cq2]++[.slice a3 x0.2.2.2.length cq3],rfl,r7.rep1,[.slice a2 x0.2.2.1.length cq2],[.slice a3 x0.2.2.2.length cq3],rfl,r8.rep1,r9.rep1⟩) Ex3) ?_;rintro _ w2⟨rfl,hx2⟩;have k1:=hx1.tr hx2;have hb2:=hb1.ext hx2;have r11:=r7.ext hx2;have r12:=r8.ext hx2;have r13:=r9.ext hx2;refine Zv (wO rfl rfl)<|nl<|cnd rfl (fun h3=>?_) (fun h3=>?_)
 ·have hF:=Cj hF h3;refine Zr<|Zv (Jq rfl AA0 rfl (Bx.cs hb2))<|bS hF fun x4 Ex4 hF=>Zc (xc ALB (mc rfl mn)) (AOT (show RV (α:=(Int×(List (Int×Int×Int))×(List Int)×(List Int))) _ (.agg [.int .i64 x0.1,.slice a1 x0.2.1.length cq1,.slice a2 x0.2.2.1.length cq2,.slice a3 x0.2.2.2.length cq3].toArray) (x0.1,x0.2.1,x0.2.2.1,x0.2.2.2)from⟨_,rfl,[.int .i64 x0.1],[.slice a1 x0.2.1.length cq1]++([.slice a2 x0.2.2.1.length cq2]++[.slice a3 x0.2.2.2.length cq3]),rfl,rfl,[.slice a1 x0.2.1.length cq1],[.slice a2 x0.2.2.1.length cq2]++[.slice a3 x0.2.2.2.length cq3],rfl,r11.rep1,[.slice a2 x0.2.2.1.length cq2],[.slice a3 x0.2.2.2.length cq3],rfl,r12.rep1,r13.rep1⟩) Ex4) ?_;rintro _ w3⟨rfl,hx3⟩;have k2:=k1.tr hx3;refine Za<|Za<|nl<|?_;cases hF;exact wp_ret<|rt rfl (.tmp rfl rfl (.tmp rfl rfl .nil)) ⟨rfl,k2⟩
 ·have hF:=DF hF h3;refine wp_skip<|wp_seq<|Zr<|Zm<|Zv (Kz rfl Tryz.underlying139)<|Zv (BA rfl yj)<|Zv (AP rfl AAz ((Bx.cs hb2).at 1 rfl))<|Zv (Kz rfl Tryz.underlying135)<|Zv (wO rfl rfl)<|nl<|cnd rfl (fun h4=>?_) (fun h4=>?_)
  ·have hF:=Cj hF h4;refine Zr<|Za<|Za<|nl<|?_;cases hF;exact wp_ret<|rt rfl (.tmp rfl rfl (.tmp rfl rfl .nil)) ⟨rfl,k1⟩
  ·have hF:=DF hF h4;refine wp_skip<|Zr<|Zv (BA rfl vV)<|Zv (AP rfl Ap ((Bx.cs hb2).at 0 rfl))<|bS hF fun x5 Ex5 hF=>AGf (α:=Int) (z0:=0) rfl rfl Tryz.underlying28 Bh rfl rfl rfl Ex5 fun b4 w4 hx4 o1=>Za<|nl<|wp_seq<|Zr<|Za<|nl<|bS hF fun o2 hB1 hF=>ct (fun L w=>∃z1:(List Int),∃v4:Value,o2=.inr z1/\L 6=v4/\Row 2 w2.heap.size w v4 z1/\L 2=.pointer (some ⟨b3,0,none⟩)/\Ext w2 w) ?_ ?_
   ·refine wp_block<|lp (I:=fun m L w=>∃y1:(List Int),∃y2:Int,∃v3:Value,yA F x0 x1 m y1 y2=some o2/\L 6=v3/\Row 2 w2.heap.size w v3 y1/\L 7=.int .i64 y2/\L 1=.slice a4 x1.length cq4/\L 2=.pointer (some ⟨b3,0,none⟩)/\Ext w2 w) F ⟨_,_,_,hB1,rfl,o1,rfl,rfl,rfl,hx4⟩ ?_;rintro m L w5⟨y1,y2,v3,hB1,l6_i1,O6_i1,l7_i1,l1_i1,l2_i1,K0_i1⟩;rcases m with _|m
    ·rw[yA]at hB1;cases hB1
    rw[yA]at hB1;have k4:=k1.tr K0_i1;have hb4:=hb2.ext K0_i1;have hz:=RV.sl O6_i1.rv;obtain⟨a5,cq5,rfl,-,-,-⟩:=hz;refine wp_seq<|Zr<|Zm<|Zm<|Zv (Kz l1_i1 Tryz.underlying139)<|Zv (Oi l7_i1 rfl)<|nl<|cnd rfl (fun h5=>?_) (fun h5=>?_)
    ·have hB1:=Cj hB1 h5;refine wp_skip<|wp_seq<|wp_block<|Zr<|Zv (BA l2_i1 yj)<|Zv (AP rfl AAz ((Bx.cs hb4).at 1 rfl))<|Zm<|bS hB1 fun x6 Ex6 hB1=>?_;have hz:=(RV.els r3).ix Ex6;obtain⟨b5,f1,cs3,e4,i2,i3,q6,hc1⟩:=hz;cases e4;obtain⟨_,_,rfl,rfl,_,_,rfl,rfl,rfl⟩:=q6;have hc2:=hc1.ext k4;refine Zv (Dq rfl l7_i1 Tryz.underlying135 wQ i2 i3)<|Zv (Jq rfl wQ rfl hc2)<|yY wQ fun b6 w6 hx5 hg2 hb5=>?_;have k5:=k4.tr hx5;have k6:=K0_i1.tr hx5;refine xk rfl rfl rfl wQ hb5 rfl rfl (ble rfl) fun w7 hch1 hb7=>?_;have k7:=Ext.chg k5 hch1 (Nat.le_trans k4.size hg2);have k8:=Ext.chg k6 hch1 (Nat.le_trans K0_i1.size hg2);have k9:=Ext.chg hx5 hch1 (Nat.le_trans (Nat.le_refl _) hg2);have O2:=O6_i1.ext k9;have hb9:Bx w7 b6 147 [.int .i64 x6.1,.int .i64 x6.2.1,.int .i64 x6.2.2]:=hb7;refine nl<|wp_seq<|wp_seq<|bS hB1 fun y3 hB3 hB1=>ct (fun L w=>L 52=.bool y3/\L 1=.slice a4 x1.length cq4/\L 2=.pointer (some ⟨b3,0,none⟩)/\L 6=.slice a5 y1.length cq5/\L 7=.int .i64 y2/\L 8=.pointer (some ⟨b6,0,none⟩)/\w2.heap.size<=w.heap.size/\Ext w7 w) ?_ ?_
     ·refine wpl [] (.pure true 0 (.pure true 1 (.pure true 2 (.pure false 3 (.pure true 4 (.pure false 5 (.pure true 6 (.pure true 7 (.pure true 8 (.pure true 9 (.pure true 10 (.pure false 11 (.pure true 12 (.pure false 13 (.pure true 14 (.pure true 15 (.pure true 16 .fin))))))))))))))))) mixed (by kernel_rfl) (fun w9 hx7=>?_);have k13:=k7.tr hx7;have k14:=k8.tr hx7;have hb13:=hb9.ext hx7;refine Zn rfl<|Zn rfl<|bS hB3 fun x8 Ex8 hB3=>?_;have hz:=(RV.els r1).ix Ex8;obtain⟨b8,f3,cs5,e6,i6,i7,q8,hc5⟩:=hz;cases e6;obtain rfl:=q8;have hc6:=hc5.ext k13;refine Zp rfl (fun _=>Dq l1_i1 l7_i1 Tryz.underlying139 Bh i6 i7)<|Zq rfl (fun _ hS=>AP rfl Bh ((hc6.ext (hS.resolve_left nofun)).at 0 rfl)) (Ext.refl _)<|Zp rfl (fun _=>BA rfl yu)<|Zq rfl (fun _ hS=>AP rfl Bh ((Bx.cs (hb13.ext (hS.resolve_left nofun))).at 2 rfl)) (Ext.refl _)<|Zp rfl (fun _=>xU rfl rfl)<|Zn rfl<|Or.elim (Bool.eq_false_or_eq_true (decide (x6.2.2<x8))) (fun h6=>?_) (fun h6=>?_)
      ·have hB3:=Cj hB3 h6;refine Yf rfl (BP h6)<|Yf rfl (BP h6)<|Yf rfl (BP h6)<|Yh rfl (BP h6) (Ext.refl _)<|Yf rfl (BP h6)<|Yh rfl (BP h6) (Ext.refl _)<|Yf rfl (BP h6)<|Yf rfl (BP h6)<|Zp rfl (fun _=>wI rfl h6 rfl)<|?_;cases hB3;refine lf<|?_;exact⟨rfl,l1_i1,l2_i1,l6_i1,l7_i1,rfl,k14.size,hx7⟩
      ·have hB3:=DF hB3 h6;refine Yt rfl (bf h6) (fun _=>Zk)<|Yt rfl (bf h6) (fun _=>Zk)<|bS hB3 fun x9 Ex9 hB3=>?_;have hz:=ix2 r1 Ex9;obtain⟨cs6,i8,i9,q9,hc7⟩:=hz;obtain rfl:=q9;have hc8:=hc7.ext k13;refine Yt rfl (bf h6) (fun _=>Dq l1_i1 l7_i1 Tryz.underlying139 Bh i8 i9)<|Yi rfl (bf h6) (fun _ hS=>AP rfl Bh ((hc8.ext (hS.resolve_left nofun)).at 0 rfl)) (Ext.refl _)<|Yt rfl (bf h6) (fun _=>BA rfl yu)<|Yi rfl (bf h6) (fun _ hS=>AP rfl Bh ((Bx.cs (hb13.ext (hS.resolve_left nofun))).at 2 rfl)) (Ext.refl _)<|Yt rfl (bf h6) (fun _=>AK6 rfl)<|Yt rfl (bf h6) (fun _=>Oi rfl rfl)<|Zp rfl (fun _=>yH rfl h6 rfl)<|?_;cases hB3;refine lf<|?_;exact⟨rfl,l1_i1,l2_i1,l6_i1,l7_i1,rfl,k14.size,hx7⟩
     rintro L w10⟨l52_j1,l1_j1,l2_j1,l6_j1,l7_j1,l8_j1,Z0_j1,K0_j1⟩;have k16:=k7.tr K0_j1;have k17:=k8.tr K0_j1;have O5:=O2.ext K0_j1;have hb15:=hb9.ext K0_j1;refine cnd l52_j1 (fun h7=>?_) (fun h7=>?_)
     ·have hB1:=Cj hB1 h7;refine Zr<|Za<|Za<|nl<|?_;cases hB1;have hF:=(show some _=some _ from hF);cases hF;exact wp_ret<|rt rfl (.tmp rfl rfl (.tmp rfl rfl .nil)) ⟨rfl,k16⟩
     ·have hB1:=DF hB1 h7;refine wp_skip<|wp_seq<|wpl [11] (.pure true 0 (.pure true 1 (.pure false 2 (.pure true 3 (.pure false 4 (.pure true 5 (.pure true 6 (.pure true 7 (.pure false 8 (.pure true 9 (.pure true 10 (.eff 11 .fin .stop)))))))))))) mixed (by kernel_rfl) (fun w11 hx8=>?_);have k19:=k16.tr hx8;have k20:=k17.tr hx8;have hb17:=hb15.ext hx8;have O6:=O5.ext hx8;refine Zn rfl<|Zp rfl (fun _=>BA l8_j1 zX)<|Zq rfl (fun _ hS=>AP rfl Ap ((Bx.cs (hb17.ext (hS.resolve_left nofun))).at 0 rfl)) (Ext.refl _)<|bS hB1 fun x10 Ex10 hB1=>?_;have hz:=(RV.els O6.rv).ix Ex10;obtain⟨b9,f4,cs7,e7,i10,i11,q10,hc9⟩:=hz;cases e7;obtain rfl:=q10;refine Zp rfl (fun _=>Dq l6_j1 rfl Tryz.underlying28 Bh i10 i11)<|Zq rfl (fun _ hS=>AP rfl Bh ((hc9.ext (hS.resolve_left nofun)).at 0 rfl)) (Ext.refl _)<|Zn rfl<|Zn rfl<|bS hB1 fun x11 Ex11 hB1=>?_;have hz:=(RV.els r1).ix Ex11;obtain⟨b10,f5,cs8,e8,i12,i13,q11,hc10⟩:=hz;cases e8;obtain rfl:=q11;have hc11:=hc10.ext k19;refine Zp rfl (fun _=>Dq l1_j1 l7_j1 Tryz.underlying139 Bh i12 i13)<|Zq rfl (fun _ hS=>AP rfl Bh ((hc11.ext (hS.resolve_left nofun)).at 0 rfl)) (Ext.refl _)<|Zp rfl (fun _=>FH rfl rfl)<|bS hB1 fun x12 Ex12 hB1=>?_;have hz:=ix2 O6.rv Ex12;obtain⟨cs9,i14,i15,q12,hc12⟩:=hz;obtain rfl:=q12;refine Zp rfl (fun _=>Dq l6_j1 rfl Tryz.underlying28 Bh i14 i15)<|pe1 rfl<|ADO (l:=y1) (v:=BH (x10+x11)) rfl rfl rfl Bh O6 Ex12 fun w12 hch2 o3=>?_;have k23:=Ext.chg k19 hch2 (Nat.le_trans k1.size (Row.ge O6));have k24:=Ext.chg k20 hch2 (Nat.le_trans (Nat.le_refl _) (Row.ge O6));have hb19:=Bx.chg hb17 hch2 (fun e=>(O6_i1.ne_new hg2) (congrArg some e));refine nl ⟨fun h=>(h (by decide)).elim,?_⟩;refine wpl [11] (.pure true 0 (.pure true 1 (.pure false 2 (.pure true 3 (.pure false 4 (.pure true 5 (.pure true 6 (.pure true 7 (.pure false 8 (.pure true 9 (.pure true 10 (.eff 11 .fin .stop)))))))))))) mixed (by kernel_rfl) (fun w13 hx9=>?_);have k25:=k23.tr hx9;have k26:=k24.tr hx9;have hb21:=hb19.ext hx9;have o4:=o3.ext hx9;refine Zn rfl<|Zp rfl (fun _=>BA l8_j1 zu)<|Zq rfl (fun _ hS=>AP rfl Ap ((Bx.cs (hb21.ext (hS.resolve_left nofun))).at 1 rfl)) (Ext.refl _)<|bS hB1 fun x13 Ex13 hB1=>?_;have hz:=ix2 o4.rv Ex13;obtain⟨cs10,i16,i17,q13,hc13⟩:=hz;rw[NG,List.length_set]at i17;obtain rfl:=q13;refine Zp rfl (fun _=>Dq l6_j1 rfl Tryz.underlying28 Bh i16 i17)<|Zq rfl (fun _ hS=>AP rfl Bh ((hc13.ext (hS.resolve_left nofun)).at 0 rfl)) (Ext.refl _)<|Zn rfl<|Zn rfl<|bS hB1 fun x14 Ex14 hB1=>?_;have hz:=ix2 r1 Ex14;obtain⟨cs11,i18,i19,q14,hc14⟩:=hz;obtain rfl:=q14;have hc15:=hc14.ext k25;refine Zp rfl (fun _=>Dq l1_j1 l7_j1 Tryz.underlying139 Bh i18 i19)<|Zq rfl (fun _ hS=>AP rfl Bh ((hc15.ext (hS.resolve_left nofun)).at 0 rfl)) (Ext.refl _)<|Zp rfl (fun _=>AB4 rfl rfl)<|bS hB1 fun x15 Ex15 hB1=>?_;have hz:=ix2 o4.rv Ex15;obtain⟨cs12,i20,i21,q15,hc16⟩:=hz;rw[NG,List.length_set]at i21;obtain rfl:=q15;refine Zp rfl (fun _=>Dq l6_j1 rfl Tryz.underlying28 Bh i20 i21)<|pe1 rfl<|ADO (l:=(NG y1 x6.1 (BH (x10+x11)))) (v:=BH (x13-x14)) rfl rfl rfl Bh o4 Ex15 fun w14 hch3 o5=>?_;have k28:=Ext.chg k26 hch3 (Nat.le_trans (Nat.le_refl _) (Row.ge o4));refine nl ⟨fun h=>(h (by decide)).elim,?_⟩;refine rg<|Zm<|Zv (FH l7_j1 rfl)<|Za<|nl<|lq m (Nat.lt_succ_self _)<|?_;exact⟨_,_,_,hB1,l6_j1,o5,rfl,l1_j1,l2_j1,k28⟩
    ·have hB1:=DF hB1 h5;refine wp_exit<|?_;cases hB1;refine lf<|?_;exact⟨_,_,rfl,l6_i1,O6_i1,l2_i1,K0_i1⟩
   rintro L w15⟨z1,v4,rfl,l6_j2,O6_j2,l2_j2,K0_j2⟩;have k29:=k1.tr K0_j2;have r60:=r12.ext K0_j2;have r61:=r13.ext K0_j2;have hb23:=hb2.ext K0_j2;have hz:=RV.sl O6_j2.rv;obtain⟨a6,cq6,rfl,-,-,-⟩:=hz;refine Zr<|Za<|nl<|wp_seq<|Zr<|Za<|nl<|bS hF fun o6 hB7 hF=>ct (fun L w=>∃z2:Int,o6=.inr z2/\L 9=.int .i64 z2/\w2.heap.size<=w.heap.size/\Ext w15 w) ?_ ?_
   ·refine wp_block<|lp (I:=fun m L w=>∃y4:Int,∃y5:Int,yB F x0 z1 m y4 y5=some o6/\L 9=.int .i64 y4/\L 10=.int .i64 y5/\L 2=.pointer (some ⟨b3,0,none⟩)/\L 6=.slice a6 z1.length cq6/\w2.heap.size<=w.heap.size/\Ext w15 w) F ⟨_,_,hB7,rfl,rfl,l2_j2,l6_j2,K0_j2.size,(Ext.refl _)⟩ ?_;rintro m L w16⟨y4,y5,hB7,l9_i22,l10_i22,l2_i22,l6_i22,Z0_i22,K0_i22⟩;rcases m with _|m
    ·rw[yB]at hB7;cases hB7
    rw[yB]at hB7;have k30:=k29.tr K0_i22;have r63:=r60.ext K0_i22;have r64:=r61.ext K0_i22;have hb24:=hb23.ext K0_i22;have O7:=O6_j2.ext K0_i22;refine wp_seq<|Zr<|Zm<|Zv (BA l2_i22 vV)<|Zv (AP rfl Ap ((Bx.cs hb24).at 0 rfl))<|Zv (Oi l10_i22 rfl)<|nl<|cnd rfl (fun h8=>?_) (fun h8=>?_)
    ·have hB7:=Cj hB7 h8;refine wp_skip<|wp_seq<|bS hB7 fun o7 hB9 hB7=>ct (fun L w=>∃y6:Int,o7=.inr y6/\L 9=.int .i64 y6/\L 2=.pointer (some ⟨b3,0,none⟩)/\L 6=.slice a6 z1.length cq6/\L 10=.int .i64 y5/\w2.heap.size<=w.heap.size/\Ext w16 w) ?_ ?_
     ·refine wp_block<|Zr<|Zv (BA l2_i22 yT)<|Zv (AP rfl Le ((Bx.cs hb24).at 2 rfl))<|Zm<|bS hB9 fun x16 Ex16 hB9=>Zc (xc AI2 (mc rfl (mc l10_i22 mn))) (c79 r63 Ex16) ?_;rintro _ w17⟨rfl,hx10⟩;have k32:=k30.tr hx10;have zs5:=Nat.le_trans Z0_i22 hx10.size;have hb25:=hb24.ext hx10;have r67:=r64.ext hx10;have O8:=O7.ext hx10;refine nl<|bS hB9 fun o8 hB10 hB9=>ct (fun L w=>∃y7:Int,o8=.inr y7/\L 9=.int .i64 y7/\L 2=.pointer (some ⟨b3,0,none⟩)/\L 6=.slice a6 z1.length cq6/\L 10=.int .i64 y5/\w2.heap.size<=w.heap.size/\Ext w17 w) ?_ ?_
      ·refine cnd rfl (fun h9=>?_) (fun h9=>?_)
       ·have hB10:=Cj hB10 h9;refine rg<|Zm<|Zm<|Zm<|bS hB10 fun x17 Ex17 hB10=>?_;have hz:=(RV.els O8.rv).ix Ex17;obtain⟨b11,f6,cs13,e9,i23,i24,q16,hc17⟩:=hz;cases e9;obtain rfl:=q16;refine Zv (Dq l6_i22 l10_i22 Tryz.underlying28 Bh i23 i24)<|Zv (AP rfl Bh (hc17.at 0 rfl))<|Zv (FH l9_i22 rfl)<|Za<|nl<|?_;cases hB10;refine lf<|?_;exact⟨_,rfl,rfl,l2_i22,l6_i22,l10_i22,zs5,(Ext.refl _)⟩
       ·have hB10:=DF hB10 h9;refine wp_seq<|bS hB10 fun y8 hB13 hB10=>ct (fun L w=>L 102=.bool y8/\L 2=.pointer (some ⟨b3,0,none⟩)/\L 6=.slice a6 z1.length cq6/\L 9=.int .i64 y4/\L 10=.int .i64 y5/\w2.heap.size<=w.heap.size/\Ext w17 w) ?_ ?_
        ·refine rg<|Zv (BA l2_i22 AAo)<|Zv (AP rfl Le ((Bx.cs hb25).at 3 rfl))<|Zm<|bS hB13 fun x19 Ex19 hB13=>Zc (xc AI2 (mc rfl (mc l10_i22 mn))) (c79 r67 Ex19) ?_;rintro _ w19⟨rfl,hx12⟩;have zs7:=Nat.le_trans zs5 hx12.size;have O10:=O8.ext hx12;refine Zv (wP rfl)<|Zm<|Or.elim (Bool.eq_false_or_eq_true (!x19)) (fun h10=>?_) (fun h10=>?_)
         ·have hB13:=Cj hB13 h10;refine Gt rfl (bt h10)<|Zm<|Gt rfl (bt h10)<|Zm<|bS hB13 fun x20 Ex20 hB13=>?_;have hz:=(RV.els O10.rv).ix Ex20;obtain⟨b12,f7,cs14,e10,i25,i26,q17,hc18⟩:=hz;cases e10;obtain rfl:=q17;refine Gt rfl (bt h10)<|Zv (Dq l6_i22 l10_i22 Tryz.underlying28 Bh i25 i26)<|Gt rfl (bt h10)<|Zv (AP rfl Bh (hc18.at 0 rfl))<|Gt rfl (bt h10)<|Zv (wO rfl rfl)<|Zv (wI rfl h10 rfl)<|nl<|?_;cases hB13;refine lf<|?_;exact⟨rfl,l2_i22,l6_i22,l9_i22,l10_i22,zs7,hx12⟩
         ·have hB13:=DF hB13 h10;refine Gk rfl (Gi h10)<|Gk rfl (Gi h10)<|Gk rfl (Gi h10)<|Gk rfl (Gi h10)<|Gk rfl (Gi h10)<|Zv (yH rfl h10 rfl)<|nl<|?_;cases hB13;refine lf<|?_;exact⟨rfl,l2_i22,l6_i22,l9_i22,l10_i22,zs7,hx12⟩
        rintro L w20⟨l102_j3,l2_j3,l6_j3,l9_j3,l10_j3,Z0_j3,K0_j3⟩;have k43:=k32.tr K0_j3;refine cnd l102_j3 (fun h11=>?_) (fun h11=>?_)
        ·have hB10:=Cj hB10 h11;refine Zr<|Za<|Za<|nl<|?_;cases hB10;have hB9:=(show some _=some _ from hB9);cases hB9;have hB7:=(show some _=some _ from hB7);cases hB7;have hF:=(show some _=some _ from hF);cases hF;exact wp_ret<|rt rfl (.tmp rfl rfl (.tmp rfl rfl .nil)) ⟨rfl,k43⟩
        ·have hB10:=DF hB10 h11;refine wp_skip<|?_;cases hB10;refine lf<|?_;exact⟨_,rfl,l9_j3,l2_j3,l6_j3,l10_j3,Z0_j3,K0_j3⟩
      rintro L w21⟨y7,rfl,l9_j4,l2_j4,l6_j4,l10_j4,Z0_j4,K0_j4⟩;have k50:=hx10.tr K0_j4;cases hB9;refine lf<|?_;exact⟨_,rfl,l9_j4,l2_j4,l6_j4,l10_j4,Z0_j4,k50⟩
     rintro L w22⟨y6,rfl,l9_j5,l2_j5,l6_j5,l10_j5,Z0_j5,K0_j5⟩;have k53:=K0_i22.tr K0_j5;refine rg<|Zm<|Zv (FH l10_j5 rfl)<|Za<|nl<|lq m (Nat.lt_succ_self _)<|?_;exact⟨_,_,hB7,l9_j5,rfl,l2_j5,l6_j5,Z0_j5,k53⟩
    ·have hB7:=DF hB7 h8;refine wp_exit<|?_;cases hB7;refine lf<|?_;exact⟨_,rfl,l9_i22,Z0_i22,K0_i22⟩
   rintro L w23⟨z2,rfl,l9_j6,Z0_j6,K0_j6⟩;have k54:=k29.tr K0_j6;refine Zr<|Zm<|Za<|Za<|nl<|?_;cases hF;exact wp_ret<|rt rfl (.tmp l9_j6 rfl (.tmp rfl rfl .nil)) ⟨rfl,k54⟩
theorem c81{w0:World}{v0:Value}{x0:(List Int)}(r0:RV w0 v0 x0){v1:Value}{x1:(List Int)}(r1:RV w0 v1 x1){F:Nat}{r:Bool}(hF:ACa F x0 x1=some r):
  Calls Tryz.prog 81 [v0,v1].toArray w0 (IA fun v w'=>v=.bool r/\Ext w0 w'):=by
 unfold ACa at hF;have hz:=r0.sl;obtain⟨a1,cq1,rfl,-,-,-⟩:=hz;have hz:=r1.sl;obtain⟨a2,cq2,rfl,-,-,-⟩:=hz;refine I9 (n:=26) Tryz.func81 rfl rfl rfl<|Zr<|Za<|nl<|wp_seq<|Zr<|Zm<|Zv (Kz rfl Tryz.underlying41)<|Zm<|Zv (Kz rfl Tryz.underlying41)<|Zv (wO rfl rfl)<|nl<|cnd rfl (fun h3=>?_) (fun h3=>?_)
 ·have hF:=Cj hF h3;refine Zr<|Za<|nl<|?_;cases hF;exact wp_ret<|Zw rfl rfl rfl ⟨rfl,(Ext.refl _)⟩
 ·have hF:=DF hF h3;refine wp_skip<|wp_seq<|Zr<|Za<|nl<|bS hF fun o1 hB1 hF=>ct (fun L w=>o1=.inr ()/\Ext w0 w) ?_ ?_
  ·refine wp_block<|lp (I:=fun m L w=>∃y1:Int,AAU F x0 x1 m y1=some o1/\L 5=.int .i64 y1/\L 0=.slice a1 x0.length cq1/\L 1=.slice a2 x1.length cq2/\Ext w0 w) F ⟨_,hB1,rfl,rfl,rfl,(Ext.refl _)⟩ ?_;rintro m L w1⟨y1,hB1,l5_i1,l0_i1,l1_i1,K0_i1⟩;rcases m with _|m
   ·rw[AAU]at hB1;cases hB1
   rw[AAU]at hB1;refine wp_seq<|Zr<|Zm<|Zm<|Zv (Kz l0_i1 Tryz.underlying41)<|Zv (Oi l5_i1 rfl)<|nl<|cnd rfl (fun h4=>?_) (fun h4=>?_)
   ·have hB1:=Cj hB1 h4;refine wp_skip<|wp_seq<|wp_block<|wp_seq<|wpl [] (.pure true 0 (.pure true 1 (.pure true 2 (.pure false 3 (.pure true 4 (.pure true 5 (.pure true 6 (.pure false 7 (.pure true 8 .fin))))))))) mixed (by kernel_rfl) (fun w2 hx1=>?_);have k1:=K0_i1.tr hx1;refine Zn rfl<|Zn rfl<|bS hB1 fun x3 Ex3 hB1=>?_;have hz:=(RV.els r0).ix Ex3;obtain⟨b3,f1,cs3,e1,i2,i3,q3,hc1⟩:=hz;cases e1;obtain rfl:=q3;have hc2:=hc1.ext k1;refine Zp rfl (fun _=>Dq l0_i1 l5_i1 Tryz.underlying41 Ap i2 i3)<|Zq rfl (fun _ hS=>AP rfl Ap ((hc2.ext (hS.resolve_left nofun)).at 0 rfl)) (Ext.refl _)<|Zn rfl<|Zn rfl<|bS hB1 fun x4 Ex4 hB1=>?_;have hz:=(RV.els r1).ix Ex4;obtain⟨b4,f2,cs4,e2,i4,i5,q4,hc3⟩:=hz;cases e2;obtain rfl:=q4;have hc4:=hc3.ext k1;refine Zp rfl (fun _=>Dq l1_i1 l5_i1 Tryz.underlying41 Ap i4 i5)<|Zq rfl (fun _ hS=>AP rfl Ap ((hc4.ext (hS.resolve_left nofun)).at 0 rfl)) (Ext.refl _)<|Zp rfl (fun _=>wO rfl rfl)<|cnd rfl (fun h5=>?_) (fun h5=>?_)
    ·have hB1:=Cj hB1 h5;refine Zr<|Za<|nl<|?_;cases hB1;have hF:=(show some _=some _ from hF);cases hF;exact wp_ret<|Zw rfl rfl rfl ⟨rfl,k1⟩
    ·have hB1:=DF hB1 h5;refine wp_skip<|rg<|Zm<|Zv (FH l5_i1 rfl)<|Za<|nl<|lq m (Nat.lt_succ_self _)<|?_;exact⟨_,hB1,rfl,l0_i1,l1_i1,k1⟩
   ·have hB1:=DF hB1 h4;refine wp_exit<|?_;cases hB1;refine lf<|?_;exact⟨rfl,K0_i1⟩
  rintro L w3⟨rfl,K0_j1⟩;refine Zr<|Za<|nl<|?_;cases hF;exact wp_ret<|Zw rfl rfl rfl ⟨rfl,K0_j1⟩
theorem AUR{w0:World}{x0:Int}{b1:Nat}{cs1:List Value}{x1:(List Bool)}(h1:Cs w0 b1 0 cs1)(q1:Enc.rep (fun _=>True) w0 cs1 x1){r:Bool}(hF:ACb x0 x1=some r):
  Calls Tryz.prog 167 [.int .i64 x0,.pointer (some ⟨b1,0,none⟩)].toArray w0 (IA fun v w'=>v=.bool r/\Ext w0 w'):=by
 unfold ACb at hF;obtain⟨a1,cq1,rfl,p1,q3,e1⟩:=q1;have r3:=RV.of1 p1 q3 e1;refine I9 (n:=9) Tryz.func167 rfl rfl rfl<|Zr<|Za<|nl<|Zr<|Zv (AP rfl AE8 (h1.at 0 rfl))<|Zm<|bS hF fun x3 Ex3 hF=>?_;have hz:=(RV.els r3).ix Ex3;obtain⟨b3,f1,cs3,e2,i1,i2,q4,hc1⟩:=hz;cases e2;obtain rfl:=q4;refine Zv (Dq rfl rfl Tryz.underlying268 ti4 i1 i2)<|Zv (AP rfl ti4 (hc1.at 0 rfl))<|Zv (wP rfl)<|Za<|nl<|?_;cases hF;exact wp_ret<|Zw rfl rfl rfl ⟨rfl,(Ext.refl _)⟩
theorem AUS{w0:World}{x0:Int}{b1:Nat}{cs1:List Value}{x1:(List Bool)}(h1:Cs w0 b1 0 cs1)(q1:Enc.rep (fun _=>True) w0 cs1 x1){r:Bool}(hF:ACc x0 x1=some r):
  Calls Tryz.prog 168 [.int .i64 x0,.pointer (some ⟨b1,0,none⟩)].toArray w0 (IA fun v w'=>v=.bool r/\Ext w0 w'):=by
 unfold ACc at hF;obtain⟨a1,cq1,rfl,p1,q3,e1⟩:=q1;have r3:=RV.of1 p1 q3 e1;refine I9 (n:=8) Tryz.func168 rfl rfl rfl<|Zr<|Za<|nl<|Zr<|Zv (AP rfl AE8 (h1.at 0 rfl))<|Zm<|bS hF fun x3 Ex3 hF=>?_;have hz:=(RV.els r3).ix Ex3;obtain⟨b3,f1,cs3,e2,i1,i2,q4,hc1⟩:=hz;cases e2;obtain rfl:=q4;refine Zv (Dq rfl rfl Tryz.underlying268 ti4 i1 i2)<|Zv (AP rfl ti4 (hc1.at 0 rfl))<|Za<|nl<|?_;cases hF;exact wp_ret<|Zw rfl rfl rfl ⟨rfl,(Ext.refl _)⟩
end Go.Proofs.YtfmelbioccbdoaaGreat
end
