/-
  Part 13 of 14 of what the last text stands on: lemmas about the model, pure functions, walks, laws in plain Lean; each part's own head says its condition. Merged by a program of our own.
-/
import Derived.Test.YtfmelbioccbdoaaGreatSideSpeedsQl
import Derived.Lib.AppendZerosOnto
import Derived.IntWalk
import Derived.KernelRfl
set_option maxHeartbeats 0
set_option linter.all false
section
namespace Go.Proofs.YtfmelbioccbdoaaGreat
open Go Go.Md Go.RowKit
attribute [local irreducible] Go.wpList Go.Code.wp Go.Calls Go.Md.gK Go.Md.Mt Go.Md.vN Go.Md.PE Go.Code.wpIn Go.wpListIn
section
theorem Bx.inj{w:World}{b:Nat}{T:TypeId}{cs cs':List Value}(h1:Bx w b T cs)(h2:Bx w b T cs'):cs=cs':=by
 have:=Option.some.inj (h1.symm.trans h2);simpa using this
abbrev AOU:=(Int×List oG×List Int×List Int)×List Int×List Int×Ar 40 Int
section
variable {N z:Nat}{w w':World}{b:Nat}{n:Int}{K:List oG}{Lf Rt f f':List Int}{H H':Ar 40 Int}
theorem Nf.lt(h:Nf N z w b n K Lf Rt f H):b<N/\z<N/\z≠b/\N<=w.heap.size:=by
 obtain⟨_,_,_,_,_,_,_,_,_,h1,_,_,_,_,h2,h3⟩:=h;exact⟨h1.lb,h2,h3,h1.size⟩
theorem Nf.belp{ok:Nat->Prop}{B:Nat}(h:Nf N z w b n K Lf Rt f H)(k:BelP ok B w w')(hB:N<=B)(hb:ok b)(hz:ok z)(hok:∀q,q<N->q≠b->q≠z->ok q):Nf N z w' b n K Lf Rt f H:=by
 obtain⟨_,_,_,_,_,_,_,_,_,h1,h2,h3,h4,h5,h6,h7⟩:=h;exact⟨_,_,_,_,_,_,_,_,_,h1.belp k hB hb hok,h2.keep (fun q hq _=>k.block q (by omega) (hok _ hq.1 hq.2.1 hq.2.2)) k.size,h3.keep (fun q hq _=>k.block q (by omega) (hok _ hq.1 hq.2.1 hq.2.2)) k.size,h4,h5.keepq fun q hq=>by cases hq;exact k.block z (by omega) hz,h6,h7⟩
theorem Nf.ext(h:Nf N z w b n K Lf Rt f H)(k:Ext w w'):Nf N z w' b n K Lf Rt f H:=by
 have:=h.lt;exact h.belp (BelP.of (ok:=fun _=>True) (N:=w.heap.size) k (Nat.le_refl _)) this.2.2.2 trivial trivial fun _ _ _ _=>trivial
theorem Nf.rep(h:Nf N z w b n K Lf Rt f H):∃cs,Cs w b 0 cs/\Enc.rep (fun _=>True) w cs (((n,K,Lf,Rt),[],f,H):AOU):=by
 obtain⟨a1,c1,a2,c2,a3,c3,a4,c4,cf,h1,h2,h3,h4,h5,h6,h7⟩:=h;refine⟨_,Bx.cs h1.bx,[.int .i64 n,.slice a1 K.length c1,.slice a2 Lf.length c2,.slice a3 Rt.length c3],[.slice a4 0 c4,.slice (some ⟨z,0,none⟩) K.length cf]++H.l.flatMap Flat.enc,rfl,?_,?_⟩
 ·exact⟨[.int .i64 n],[.slice a1 K.length c1,.slice a2 Lf.length c2,.slice a3 Rt.length c3],rfl,rfl,[.slice a1 K.length c1],[.slice a2 Lf.length c2,.slice a3 Rt.length c3],rfl,RV.rep1 h1.rv.rv,[.slice a2 Lf.length c2],[.slice a3 Rt.length c3],rfl,RV.rep1 h2.rv,RV.rep1 h3.rv⟩
 ·exact⟨[.slice a4 0 c4],[.slice (some ⟨z,0,none⟩) K.length cf]++H.l.flatMap Flat.enc,rfl,RV.rep1 (RVo.nil (α:=Int) h4),[.slice (some ⟨z,0,none⟩) K.length cf],H.l.flatMap Flat.enc,rfl,RV.rep1 h5.rv,rfl⟩
theorem Nf.len(h:Nf N z w b n K Lf Rt f H):f.length=K.length:=by
 obtain⟨a1,c1,a2,c2,a3,c3,a4,c4,cf,h1,h2,h3,h4,h5,h6,h7⟩:=h;exact h5.rv.cap.1.symm
theorem AHZ{a1:Option Addr}{c1:Nat}{v2 v3 dv fv:Value}:(ADI n a1 c1 v2 v3 dv fv K H).length=46:=by
 unfold ADI;rw[List.length_append,xO]
 rfl
theorem AMI{a1:Option Addr}{c1:Nat}{v2 v3 dv fv:Value}{k v:Int}(h0:0<=k)(h1:k<40):Md.iW (ADI n a1 c1 v2 v3 dv fv K H) (6+k.toNat) [.int .i64 v]=ADI n a1 c1 v2 v3 dv fv K (vZ H k v):=by
 have hP:H.l.length=40:=H.h;have e2:(vZ H k v).l.flatMap Flat.enc=Md.iW (H.l.flatMap Flat.enc) (k.toNat*Enc.n Int) (Flat.enc v):=(ADV H.l k.toNat v (by omega)).symm;have n2:Enc.n Int=1:=rfl;have h3:(Flat.enc v:List Value)=[.int .i64 v]:=rfl;unfold ADI;rw[show 6+k.toNat=([.int .i64 n,.slice a1 K.length c1,v2,v3,dv,fv]:List Value).length+k.toNat from rfl,AHX,e2,n2,Nat.mul_one,h3]
end
def ACN(K:List oG)(f:List Int)(x:Qw)(much:Int):Option (List Int):=
 (ix K x.2.2)>>=fun y=>(ix f x.2.2)>>=fun g=>some (if decide (y.1=x.1)=true then NG f x.2.2 (BH (g+much))else NG f x.2.2 (BH (g-much)))
theorem ARP{N z:Nat}{w0:World}{b:Nat}{n:Int}{K:List oG}{Lf Rt f:List Int}{H:Ar 40 Int}(h:Nf N z w0 b n K Lf Rt f H){x:Qw}{much:Int}{f':List Int}(hF:ACN K f x much=some f'):
  Calls Tryz.prog 322 [.pointer (some ⟨b,0,none⟩),.agg (Flat.enc x).toArray,.int .i64 much].toArray w0 (IA fun v w'=>v=.tuple #[]/\Nf N z w' b n K Lf Rt f' H/\BelP (fun q=>q≠z) w0.heap.size w0 w'):=by
 unfold ACN at hF;refine bS hF fun y Ey hF=>bS hF fun g Eg hF=>?_;cases hF;have hlt:=h.lt;have hlen:=h.len;refine I9 (n:=41) Tryz.func322 rfl rfl rfl<|Zr<|yX rfl rfl fun b4 w1 hx1 hg1 hb1=>nl<|wp_seq<|wpl [] (.pure true 0 (.pure true 1 (.pure true 2 (.pure true 3 (.pure false 4 (.pure true 5 (.pure false 6 (.pure true 7 (.pure true 8 (.pure false 9 (.pure true 10 (.pure false 11 (.pure true 12 .fin))))))))))))) mixed (by kernel_rfl) (fun w2 hx2=>?_);have N2:=(h.ext hx1).ext hx2;have hb2:Bx w2 b4 266 (Flat.enc x):=hb1.ext hx2;have s1:=hx1.size;have s2:=hx2.size;have hz:=N2;obtain⟨a1,c1,a2,c2,a3,c3,a4,c4,cf,M1,M2,M3,M4,M5,M6,M7⟩:=hz;have hz:=(RVo.sl.1 M1.rv);obtain⟨a2',c2',e3,_,_,els⟩:=hz;cases e3;have hz:=Els.ix els Ey;obtain⟨b5,off5,cs5,rfl,i1,i2,q5,hcE⟩:=hz;obtain rfl:=Flat.iff.1 q5;refine Zn rfl<|Zp rfl (fun _=>tX rfl)<|Zp rfl (fun _=>BA rfl AAM)<|Zp rfl (fun _=>BA rfl yj)<|Zq rfl (fun _ hS=>AP rfl AAz ((Bx.cs (M1.bx.ext (hS.resolve_left nofun))).at 1 rfl)) (Ext.refl _)<|Zp rfl (fun _=>BA rfl ACr)<|Zq rfl (fun _ hS=>AP rfl Ap ((Bx.cs (hb2.ext (hS.resolve_left nofun))).at 2 rfl)) (Ext.refl _)<|Zp rfl (fun _=>Dq rfl rfl Tryz.underlying135 wQ i1 i2)<|Zp rfl (fun _=>BA rfl zX)<|Zq rfl (fun _ hS=>AP rfl Ap ((hcE.ext (hS.resolve_left nofun)).at 0 rfl)) (Ext.refl _)<|Zp rfl (fun _=>BA rfl AHk)<|Zq rfl (fun _ hS=>AP rfl Ap ((Bx.cs (hb2.ext (hS.resolve_left nofun))).at 0 rfl)) (Ext.refl _)<|Zp rfl (fun _=>zL rfl rfl)<|?_;have hix:=vX Eg;refine cnd rfl (fun hc=>?_) (fun hc=>?_)
 ·rw[if_pos hc]
  refine wpl [11] (.pure true 0 (.pure true 1 (.pure true 2 (.pure false 3 (.pure true 4 (.pure false 5 (.pure true 6 (.pure false 7 (.pure true 8 (.pure true 9 (.pure true 10 (.eff 11 .fin .stop)))))))))))) mixed (by kernel_rfl) (fun w3 hx3=>?_);have R3:=M5.ext hx3;have hz:=ix2 R3.rv Eg;obtain⟨cs9,j1,j2,q9,hcG⟩:=hz;obtain rfl:=Flat.iff.1 q9;have hb3:=hb2.ext hx3;have L3:=M1.bx.ext hx3;refine Zn rfl<|Zp rfl (fun _=>tX rfl)<|Zp rfl (fun _=>BA rfl ACG)<|Zq rfl (fun _ hS=>AP rfl AFZ ((Bx.cs (L3.ext (hS.resolve_left nofun))).at 5 rfl)) (Ext.refl _)<|Zp rfl (fun _=>BA rfl ACr)<|Zq rfl (fun _ hS=>AP rfl Ap ((Bx.cs (hb3.ext (hS.resolve_left nofun))).at 2 rfl)) (Ext.refl _)<|Zp rfl (fun _=>Dq rfl rfl Tryz.underlying28 Bh j1 (by omega))<|Zq rfl (fun _ hS=>AP rfl Bh ((hcG.ext (hS.resolve_left nofun)).at 0 rfl)) (Ext.refl _)<|Zn rfl<|Zp rfl (fun _=>FH rfl rfl)<|Zp rfl (fun _=>Dq rfl rfl Tryz.underlying28 Bh j1 (by omega))<|?_;refine pe1 rfl<|ADO (v:=(BH (g+much):Int)) rfl rfl rfl Bh R3 Eg fun w4 hch4 R4=>nl ⟨fun h=>(h (by decide)).elim,?_⟩;have kk:BelP (fun q=>q≠z) w0.heap.size w0 w4:=(BelP.of ((hx1.tr hx2).tr hx3) (Nat.le_refl _)).chg hch4 (.inr fun h=>h rfl);have kN:BelP (fun q=>q≠z) w2.heap.size w2 w4:=(BelP.of hx3 (Nat.le_refl _)).chg hch4 (.inr fun h=>h rfl);have hne:b≠z:=fun e=>hlt.2.2.1 e.symm;refine rtn rfl .nil ⟨rfl,⟨_,c1,a2,c2,a3,c3,a4,c4,cf,M1.belp kN (by omega) hne fun q _ _ h=>h,M2.keep (fun q hq _=>kN.block q (by have:=hq.1;omega) hq.2.2) kN.size,M3.keep (fun q hq _=>kN.block q (by have:=hq.1;omega) hq.2.2) kN.size,M4,R4,M6,M7⟩,kk⟩
 ·rw[if_neg (by simpa using hc)]
  refine wpl [11] (.pure true 0 (.pure true 1 (.pure true 2 (.pure false 3 (.pure true 4 (.pure false 5 (.pure true 6 (.pure false 7 (.pure true 8 (.pure true 9 (.pure true 10 (.eff 11 .fin .stop)))))))))))) mixed (by kernel_rfl) (fun w3 hx3=>?_);have R3:=M5.ext hx3;have hz:=ix2 R3.rv Eg;obtain⟨cs9,j1,j2,q9,hcG⟩:=hz;obtain rfl:=Flat.iff.1 q9;have hb3:=hb2.ext hx3;have L3:=M1.bx.ext hx3;refine Zn rfl<|Zp rfl (fun _=>tX rfl)<|Zp rfl (fun _=>BA rfl ACG)<|Zq rfl (fun _ hS=>AP rfl AFZ ((Bx.cs (L3.ext (hS.resolve_left nofun))).at 5 rfl)) (Ext.refl _)<|Zp rfl (fun _=>BA rfl ACr)<|Zq rfl (fun _ hS=>AP rfl Ap ((Bx.cs (hb3.ext (hS.resolve_left nofun))).at 2 rfl)) (Ext.refl _)<|Zp rfl (fun _=>Dq rfl rfl Tryz.underlying28 Bh j1 (by omega))<|Zq rfl (fun _ hS=>AP rfl Bh ((hcG.ext (hS.resolve_left nofun)).at 0 rfl)) (Ext.refl _)<|Zn rfl<|Zp rfl (fun _=>AB4 rfl rfl)<|Zp rfl (fun _=>Dq rfl rfl Tryz.underlying28 Bh j1 (by omega))<|?_;refine pe1 rfl<|ADO (v:=(BH (g-much):Int)) rfl rfl rfl Bh R3 Eg fun w4 hch4 R4=>nl ⟨fun h=>(h (by decide)).elim,?_⟩;have kk:BelP (fun q=>q≠z) w0.heap.size w0 w4:=(BelP.of ((hx1.tr hx2).tr hx3) (Nat.le_refl _)).chg hch4 (.inr fun h=>h rfl);have kN:BelP (fun q=>q≠z) w2.heap.size w2 w4:=(BelP.of hx3 (Nat.le_refl _)).chg hch4 (.inr fun h=>h rfl);have hne:b≠z:=fun e=>hlt.2.2.1 e.symm;refine rtn rfl .nil ⟨rfl,⟨_,c1,a2,c2,a3,c3,a4,c4,cf,M1.belp kN (by omega) hne fun q _ _ h=>h,M2.keep (fun q hq _=>kN.block q (by have:=hq.1;omega) hq.2.2) kN.size,M3.keep (fun q hq _=>kN.block q (by have:=hq.1;omega) hq.2.2) kN.size,M4,R4,M6,M7⟩,kk⟩
def ADg(D:AOU):List Qw->Int->Option Int
 |[],low=>some low
 |x::t,low=>
  (vz D x)>>=fun l=>
  if decide (0<l)=true then(ix D.2.2.2.l x.2.1)>>=fun h=>ADg D t (if h<low then h else low)
  else ADg D t low
def ACd(D:AOU)(k:Int):Option (Ar 40 Int):=
 (ADg D (G5 D.1.2.1 k) (BH (2*D.1.1)))>>=fun low=>(ix D.2.2.2.l k)>>=fun _=>some (vZ D.2.2.2 k (BH (low+1)))
theorem Nz.part{N z:Nat}{w:World}{b:Nat}{n:Int}{a1:Option Addr}{c1:Nat}{v2 v3 dv fv:Value}{K:List oG}{H:Ar 40 Int}(h:Nz N z w b n a1 c1 v2 v3 dv fv K H):Cs w b 6 (H.l.flatMap Flat.enc):=by
 have:=(Bx.cs h.bx).snd (l1:=[.int .i64 n,.slice a1 K.length c1,v2,v3,dv,fv]);exact this
theorem Nf.high{N z:Nat}{w w':World}{b:Nat}{n:Int}{K:List oG}{Lf Rt f:List Int}{H:Ar 40 Int}{k v:Int}(h:Nf N z w b n K Lf Rt f H)(h0:0<=k)(h1:k<40)(c:Chg b w w')(hb:∀cs,Bx w b 261 cs->Bx w' b 261 (Md.iW cs (6+k.toNat) [.int .i64 v])):Nf N z w' b n K Lf Rt f (vZ H k v):=by
 have hl:=h.lt;obtain⟨a1,c1,a2,c2,a3,c3,a4,c4,cf,m1,m2,m3,m4,m5,m6,m7⟩:=h;have hb2:=hb _ m1.bx;rw[AMI h0 h1]at hb2;exact⟨a1,c1,a2,c2,a3,c3,a4,c4,cf,⟨by rw[c.size];exact m1.size,m1.lb,hb2,m1.rv.chg c (fun h=>h.2.1 rfl),m1.dr⟩,m2.chg c (fun h=>h.2.1 rfl),m3.chg c (fun h=>h.2.1 rfl),m4,m5.chgn c (AHY (Ne.symm m7)),m6,m7⟩
theorem AUT{N z:Nat}{w0:World}{b:Nat}{n:Int}{K:List oG}{Lf Rt f:List Int}{H:Ar 40 Int}(h:Nf N z w0 b n K Lf Rt f H){k:Int}{H':Ar 40 Int}(hF:ACd ((n,K,Lf,Rt),[],f,H) k=some H'):
  Calls Tryz.prog 323 [.pointer (some ⟨b,0,none⟩),.int .i64 k].toArray w0 (IA fun v w'=>v=.tuple #[]/\Nf N z w' b n K Lf Rt f H'/\BelP (fun q=>q≠b) w0.heap.size w0 w'):=by
 unfold ACd at hF;refine bS hF fun lowF El hF=>bS hF fun y Ek hF=>?_;cases hF;have El:ADg ((n,K,Lf,Rt),[],f,H) (G5 K k) (BH (2*n))=some lowF:=El;have Ek:ix H.l k=some y:=Ek;have hlt:=h.lt;have hNb:∀{w:World},Nf N z w b n K Lf Rt f H->∃cs,Bx w b 261 (.int .i64 n::cs):=fun⟨_,_,_,_,_,_,_,_,_,m,_⟩=>⟨_,m.bx⟩;have hz:=hNb h;obtain⟨csb,hb0⟩:=hz;refine AIr (m:=9) (n:=36) Tryz.func323 rfl rfl rfl<|Zr<|yX rfl rfl fun b2 w1 hx1 hg1 hb1=>nl<|Zr<|Zv (AP rfl yU ((Bx.cs hb1).at 0 rfl))<|Zv (tX rfl)<|Zv (BA rfl AAM)<|Zv (BA rfl vV)<|Zv (AP rfl Ap ((Bx.cs (hb0.ext hx1)).at 0 rfl))<|Zv (ATK rfl rfl)<|yY Ap fun b4 w2 hx2 hg2 hb2=>xk rfl rfl rfl Ap hb2 rfl rfl (ble rfl) fun w3 hch3 hb3=>nl<|?_;have s1:=hx1.size;have s2:=hx2.size;have s3:=hch3.size;have kx3:Ext w1 w3:=hx2.chg hch3 hg2;have k3:=hx1.tr kx3;have d2:Bx w3 b2 256 [.pointer (some ⟨b,0,none⟩)]:=hb1.ext kx3;have d4:Bx w3 b4 3 [.int .i64 (BH (2*n))]:=hb3;have l2:=hb1.lt;have l4:=d4.lt;refine wp_seq<|Zr<|Zv (AP rfl yU ((Bx.cs d2).at 0 rfl))<|Zm<|Zc (xc AIq (mc rfl (mc rfl mn))) AMH fun u w6 hu=>?_;obtain⟨hwy,hx6⟩:=hu;have s6:=hx6.size;have k6:=k3.tr hx6;have z6:=k6.size;have N6:=h.ext k6;refine nl<|ctM w0.heap.size (fun L' W=>L' 1=.int .i64 k/\L' 2=.pointer (some ⟨b2,0,none⟩)/\L' 4=.pointer (some ⟨b4,0,none⟩)/\Bx W b2 256 [.pointer (some ⟨b,0,none⟩)]/\Bx W b4 3 [.int .i64 lowF]/\Ext w0 W) ?_ ?_
 ·have hz:=N6;obtain⟨_,_,_,_,_,_,_,_,_,m1,_⟩:=hz
  refine wp_block<|rangeB (α:=Qw) (xs:=G5 K k) (m:=9) (by decide) rfl (KpOk.belp (ok:=fun q=>q<w0.heap.size\/w3.heap.size<=q)) (hwy.goz (N:=N) m1 (.inl (by omega)) (fun q h _ _=>.inl (by omega)) (fun q h1 _=>.inr h1) 8) rfl rfl rfl bF rfl
   (fun j W=>∃low,ADg ((n,K,Lf,Rt),[],f,H) ((G5 K k).drop j) low=some lowF/\Bx W b2 256 [.pointer (some ⟨b,0,none⟩)]/\Bx W b4 3 [.int .i64 low]/\Ext w0 W/\w6.heap.size<=W.heap.size) (fun _ _=>False)
   (fun j=>Okb.ex fun _=>Okb.pure.and (Okb.bx.and (Okb.bx.and ((Okb.extw (by omega)).and Okb.size)))) (fun c=>Okb.pure)
   ⟨_,El,d2.ext hx6,d4.ext hx6,k6,Nat.le_refl _⟩ ?round (fun j A h=>by obtain⟨_,_,_,_,_,h⟩:=h;exact h) ?done (fun _ _ _ _ h _=>h.elim)
  case done=>
   rintro DD W hD⟨low,hB,g2,g4,kW,zW⟩ hK;rw[List.drop_length,ADg]at hB;cases hB;exact lfM (Mks.cons (w:=w6) Mks.nil Mks.nil (by omega) hD hK) ⟨rfl,rfl,rfl,g2,g4,kW⟩
  case round=>
   rintro ll j x A W bb hu⟨low,hB,g2,g4,kW,zW⟩ hAs hb1' hb2' hbx;rw[AGI hu,ADg]at hB;refine bS hB fun lft Elf hB=>?_;have g2:=g2.asg hAs;have g4:=g4.asg hAs;have kW2:=Go.Md.Below.asg kW hAs (show w0.heap.size<=w6.heap.size by omega);have zW2:w6.heap.size<=W.heap.size:=Nat.le_trans zW hAs.size;have hz:=(h.ext kW2).rep;obtain⟨csr,hr1,hr2⟩:=hz;refine wpIn_block<|wpIn_seq<|rgR rfl<|Zv (AP rfl yU ((Bx.cs g2).at 0 rfl))<|Zv (Jq rfl bF rfl (Bx.cs hbx))<|Zc (xc AGy (mc rfl (mc rfl mn))) (AJg hr1 hr2 (x1:=x) (v1:=.agg (Flat.enc x).toArray) ⟨_,rfl,Flat.iff.2 rfl⟩ Elf) ?_;rintro _ w8⟨rfl,hx8⟩;have s8:=hx8.size;have p2:=g2.ext hx8;have p4:=g4.ext hx8;have px:=hbx.ext hx8;have k8:=kW2.tr hx8;have be8:BelP (fun q=>q<w0.heap.size\/w3.heap.size<=q) w6.heap.size W w8:=BelP.of hx8 zW2;refine Zv (xU rfl rfl)<|nl<|AEX rfl (fun hg=>?_) (fun hg=>?_)
   ·have hB:=Cj hB hg
    refine bS hB fun hh Eh hB=>AGe [9] (.pure false 0 (.pure false 1 (.pure true 2 (.pure false 3 (.pure true 4 (.pure true 5 (.pure true 6 (.pure false 7 (.pure true 8 (.eff 9 .fin .stop)))))))))) mixed (by kernel_rfl) (fun wd hxd=>?_);have t2:=p2.ext hxd;have t4:=p4.ext hxd;have tx:=px.ext hxd;have hz:=(h.ext k8).ext hxd;obtain⟨_,_,_,_,_,_,_,_,_,m9,_⟩:=hz;have hz:=yZ m9.part Eh;obtain⟨j1,j2,hco⟩:=hz;refine Zq rfl (fun _ hS=>AP rfl Ap ((Bx.cs (t4.ext (hS.resolve_left nofun))).at 0 rfl)) (Ext.refl _)<|Zq rfl (fun _ hS=>AP rfl yU ((Bx.cs (t2.ext (hS.resolve_left nofun))).at 0 rfl)) (Ext.refl _)<|Zp rfl (fun _=>BA rfl ABM)<|Zq rfl (fun _ hS=>AP rfl Ap ((Bx.cs (tx.ext (hS.resolve_left nofun))).at 1 rfl)) (Ext.refl _)<|Zp rfl (fun _=>tX rfl)<|Zp rfl (fun _=>BA rfl AEm)<|Zp rfl (fun _=>xW rfl rfl Tryz.underlying259 Ap j1 j2)<|Zq rfl (fun _ hS=>AP rfl Ap ((hco.ext (hS.resolve_left nofun)).at 0 rfl)) (Ext.refl _)<|Zp rfl (fun _=>AQE rfl rfl)<|pe1 rfl<|xk rfl rfl rfl Ap t4 rfl rfl (ble rfl) fun we hche hbe=>nl ⟨fun h=>(h (by decide)).elim,?_⟩;have sd:=hxd.size;exact⟨(hx8.kf.ext hxd).chgc hche (.inl (by omega)),(be8.ext hxd (by omega)).chg hche (.inr (by omega)),_,hB,t2.chg hche (by omega),hbe,(k8.tr hxd).chg hche (by omega),by rw[hche.size];omega⟩
   ·have hB:=DF hB hg
    exact wpIn_skip ⟨hx8.kf,be8,low,hB,p2,p4,k8,by omega⟩
 rintro LZ DZ wZ MZ⟨l1,l2',l4',g2,g4,kZ⟩;have hz:=vX Ek;obtain⟨j1,j2,_⟩:=hz;have hH:H.l.length=40:=H.h;refine wpl [7] (.pure false 0 (.pure true 1 (.pure false 2 (.pure true 3 (.pure true 4 (.pure true 5 (.pure true 6 (.eff 7 .fin .stop)))))))) mixed (by kernel_rfl) (fun wd hxd=>?_);have t2:=g2.ext hxd;have t4:=g4.ext hxd;have Nd:=(h.ext kZ).ext hxd;have hz:=Nd;obtain⟨_,_,_,_,_,_,_,_,_,m9,_⟩:=hz;refine Zq rfl (fun _ hS=>AP l2' yU ((Bx.cs (t2.ext (hS.resolve_left nofun))).at 0 rfl)) (Ext.refl _)<|Zp rfl (fun _=>FY l1)<|Zq rfl (fun _ hS=>AP l4' Ap ((Bx.cs (t4.ext (hS.resolve_left nofun))).at 0 rfl)) (Ext.refl _)<|Zp rfl (fun _=>FH rfl rfl)<|Zp rfl (fun _=>tX rfl)<|Zp rfl (fun _=>BA rfl AEm)<|Zp rfl (fun _=>xW rfl rfl Tryz.underlying259 Ap j1 (by omega))<|?_;refine pe1 rfl<|xk (vs:=[.int .i64 (BH (lowF+1))]) rfl rfl rfl Ap m9.bx rfl rfl (by rw[AHZ,List.length_singleton];omega) fun we hche hbe=>nl ⟨fun h=>(h (by decide)).elim,?_⟩;rw[show 0+6+k.toNat*1=6+k.toNat by omega]at hbe;have Ne:=Nd.high (v:=BH (lowF+1)) j1 (by omega) hche fun cs hcs=>by
  rw[Bx.inj hcs m9.bx];exact hbe
 have Me:Mks w0.heap.size DZ we:=(MZ.ext hxd).chg hche m9.bx.nd;have be:BelP (fun q=>q≠b) w0.heap.size w0 we:=(BelP.of (kZ.tr hxd) (Nat.le_refl _)).chg hche (.inr fun h=>h rfl);refine AQZ rfl Me fun w' hk=>⟨[],.nil,rfl,Ne.belp (ok:=fun _=>True) ⟨hk.os,hk.tape,hk.output,by rw[hk.size];exact Nat.le_refl _,fun q hq _=>hk.low q hq⟩ hlt.2.2.2 trivial trivial (fun _ _ _ _=>trivial),be.tak hk (Nat.le_refl _)⟩
end
end Go.Proofs.YtfmelbioccbdoaaGreat
end
section
namespace Go.Md
open Go Go.RowKit
section
variable {P:Program}{Q:Exit->Act->World->Prop}{n:Nat}{L:Fr}{D:List Deferred}{w:World}
variable {ty:TypeId}{pos:String}{af:Array Edge}{dst:Option Nat}{gd:Option (Nat×Bool)}{x y z:Operand}
theorem ARQ{t:TypeId}{a:Option Addr}{len cap:Nat}{e:TypeId}(h:ev n L x=.slice a len cap)(ht:P.underlying t=some (.slice e)):
  (execOp (ev n L) {dst:=dst,op:=.call {callee:=.builtin .cap,args:=#[x],argTypes:=#[t]},type:=ty,pos:=pos,after:=af,guard:=gd}).run P w=.ok (.value (.int .i64 cap)) w:=by
 simp[execOp,resolve,invoke,Go.builtin,h,Builtin.cap_,run_underlying ht,goInt]
theorem AUU{st tx:TypeId}{v u r:Value}{w':World}(hs:ev n L x=v)(hy:ev n L y=u)(h:(Builtin.append_ #[st,tx] ty #[v,u]).run P w=.ok r w'):
  (execOp (ev n L) {dst:=dst,op:=.call {callee:=.builtin .append,args:=#[x,y],argTypes:=#[st,tx]},type:=ty,pos:=pos,after:=af,guard:=gd}).run P w=.ok (.value r) w':=by
 simp[execOp,resolve,invoke,Go.builtin,hs,hy,h]
theorem ARR{t e:TypeId}{agg:Bool}{m bytes:Nat}{zz:List Value}{a:Option Addr}{len cap:Nat}(hx:ev n L x=.slice a len cap)(hy:ev n L y=.int .i64 0)(ht:P.underlying t=some (.slice e))(he:TI P e agg m bytes zz):
  (execOp (ev n L) {dst:=dst,op:=.slice t x none (some y) none,type:=ty,pos:=pos,after:=af,guard:=gd}).run P w=.ok (.value (.slice a 0 cap)) w:=by
 simp[execOp,Instr.sliceAt,run_underlying ht,Instr.slice,hx,hy,Instr.sliceBounds,Instr.sliceBound,asIntOf,he.size];by_cases h:cap=0
 ·simp[h]
 ·simp[h]
  cases a<;>simp[Addr.add]
end
end Go.Md
namespace Go.Proofs.YtfmelbioccbdoaaGreat
open Go Go.Md Go.RowKit
attribute [local irreducible] Go.wpList Go.Code.wp Go.Calls Go.Md.gK Go.Md.Mt Go.Md.vN Go.Md.PE Go.Code.wpIn Go.wpListIn
theorem grow_run{w:World}{ty:TypeId}{k:Nat}(h1:1<=k)(h2:k<=1000):∃c w',(Builtin.append_ #[41,3] ty #[.slice none 0 0,.int .i64 (k:Int)]).run Tryz.prog w=.ok (.slice (some ⟨w.heap.size,0,none⟩) k c) w'/\Row (α:=Int) 3 w.heap.size w' (.slice (some ⟨w.heap.size,0,none⟩) 0 c) []/\Ext w w':=by
 obtain⟨i,zv,hi,hn,hby,hz,hzc,_⟩:=Ap.info;have hrun:=Go.Lib.run_append_grow_zeros w 41 3 ty 3 i zv .i64 .i64 Tryz.underlying41 Tryz.underlying3 hi hz none 0 0 [] (run_firstCells_none w.drew i.size 0 0 0) k (by omega) (by omega) (by omega) (by omega) (by rw[hby];omega) (growslice_fits (by omega) (by rw[hby];omega));have hge:=grownCap_ge w (0+k) 0 3;have hcm:grownCap w (0+k) 0 3<=maxLen:=grownCap_le_maxLen w (0+k) 0 3 (by unfold maxLen;omega);rw[Nat.zero_add]at hrun hge hcm;refine⟨_,_,hrun,⟨rfl,.inr ⟨w.heap.size,grownCap w k 0 3,_,rfl,Nat.le_refl _,heap_alloc_new w.drew _,Nat.zero_le _,hcm,?_,by simp⟩⟩,(Ext.drew w).tr (Ext.alloc _ _)⟩;have hzs:zv.cells.size=1:=by rw[hzc];rfl
 simp only[Array.size_append,List.size_toArray,size_zeroCells,hzs,List.length_nil,Nat.mul_one,Nat.zero_add,show Enc.n Int=1 from rfl];omega
theorem AUW{w0:World}{k:Nat}(h1:1<=k)(h2:k<=1000):Calls Tryz.prog 344 [.slice none 0 0,.int .i64 (k:Int)].toArray w0 (IA fun v w'=>Row (α:=Int) 3 w0.heap.size w' v []/\Ext w0 w'):=by
 have hz:=grow_run (w:=w0) (ty:=41) h1 h2;obtain⟨c,w1,hrun,hrow,hx⟩:=hz;have e1:IntKind.i64.wrap (((0:Nat):Int)-((0:Nat):Int))=0:=rfl;have e2:IntKind.i64.wrap ((k:Int)-0)=(k:Int):=by
  have:=IntWalk.i64_in ((k:Int)-0) (by omega);rw[this];omega
 refine I9 (n:=27) Tryz.func344 rfl rfl rfl<|Zr<|Za<|nl<|wp_seq<|Zr<|Zm<|Zv (Oi rfl rfl)<|nl<|cnd rfl (fun h=>?_) (fun _=>?_)
 ·simp at h;omega
 refine wp_skip<|wp_seq<|Zr<|Zm<|Zm<|Zv (ARQ rfl Tryz.underlying41)<|Zm<|Zv (Kz rfl Tryz.underlying41)<|Zv (AB4 rfl rfl)<|Zv (AB4 rfl rfl)<|Za<|nl<|Zr<|Zm<|Zv (xU rfl rfl)<|nl<|?_;rw[e1,e2];refine cnd rfl (fun _=>?_) (fun h=>?_)
 ·refine rg<|Zm<|Zm<|Zv (ARQ rfl Tryz.underlying41)<|Zv (ARR rfl rfl Tryz.underlying41 Ap)<|Zm<|Zv (AUU rfl rfl hrun)<|Zm<|Zv (Kz rfl Tryz.underlying41)<|Zv (ARR rfl rfl Tryz.underlying41 Ap)<|Za<|nl<|?_
  exact Zr<|Zm<|Za<|nl<|wp_ret<|Zw rfl rfl rfl ⟨hrow,hx⟩
 ·simp at h;omega
def ACe:List (List Int)->Int->Option Int
 |[],s=>some s
 |l::t,s=>if decide (BH (s+(l.length:Int))<0)=true then none else ACe t (BH (s+(l.length:Int)))
def AD5:List (List Int)->List Int->Option (List Int)
 |[],o=>some o
 |l::t,o=>(app 8 o l)>>=fun o2=>AD5 t o2
def ABc(ls:List (List Int)):Option (List Int):=
 (ACe ls 0)>>=fun s=>if 1<=s/\s<=1000 then AD5 ls []else none
theorem AUX{w0:World}{v0:Value}{ls:List (List Int)}(r0:RV w0 v0 ls){r:List Int}(hF:ABc ls=some r):Calls Tryz.prog 319 [v0].toArray w0 (IA fun v w'=>Row 3 w0.heap.size w' v r/\Ext w0 w'):=by
 unfold ABc at hF;refine bS hF fun sF Es hF=>?_;have hs1:1<=sF/\sF<=1000:=by
  by_cases h:1<=sF/\sF<=1000
  ·exact h
  ·rw[if_neg h]at hF;cases hF
 rw[if_pos hs1]at hF;have hz:=r0.sl;obtain⟨a0,c0,rfl,h01,h02,-⟩:=hz;have hadd:∀k:Nat,k<ls.length->BH ((k:Int)+1)=((k+1:Nat):Int):=fun k hk=>by
  rw[BH,IntWalk.i64_in _ (by unfold maxLen at h02;omega)]
  rfl
 refine I9 (n:=36) Tryz.func319 rfl rfl rfl<|Zr<|Za<|nl<|Zr<|Za<|nl<|wp_seq ?_;refine ct (fun L' w=>L' 0=.slice a0 ls.length c0/\L' 3=.int .i64 sF/\w=w0) ?_ ?_
 ·refine Zr<|Zm<|Zv (Kz rfl Tryz.underlying78)<|Zm<|nl<|?_
  refine wp_block<|lp (I:=fun m' L' w=>∃(k:Nat)(s:Int),k+m'=ls.length/\ACe (ls.drop k) s=some sF/\L' 11=.int .i64 (k:Int)/\L' 10=.int .i64 (ls.length:Int)/\L' 9=.slice a0 ls.length c0/\L' 0=.slice a0 ls.length c0/\L' 3=.int .i64 s/\w=w0) ls.length
   ⟨0,0,by simp,Es,rfl,rfl,rfl,rfl,rfl,rfl⟩ ?_
  rintro m' L' w⟨k,s,hk,hB,l11,l10,l9,l0,l3,rfl⟩;refine Zr<|Zv (Oi l11 l10)<|nl<|wp_seq<|cnd rfl (fun hc=>?_) (fun hc=>?_)
  ·have hc:(k:Int)<(ls.length:Int):=by simpa using hc
   have hkl:k<ls.length:=by omega
   obtain⟨m3,rfl⟩:∃q,m'=q+1:=⟨m'-1,by omega⟩;rw[List.drop_eq_getElem_cons hkl,ACe]at hB;have hix:ix ls (k:Int)=some ls[k]:=by simp[ix,List.getElem?_eq_getElem hkl]
   have hz:=Els.ix r0.els hix;obtain⟨b9,off9,cs9,rfl,i5,i6,⟨ae,ce,rfl,-,-,-⟩,hcE⟩:=hz;have hneg:decide (BH (s+(ls[k].length:Int))<0)=false:=by
    cases h:decide (BH (s+(ls[k].length:Int))<0)with
    |false=>rfl
    |true=>rw[if_pos h]at hB;cases hB
   rw[if_neg (by rw[hneg];simp)]at hB;refine wp_skip<|wp_seq<|wp_block<|Zr<|Zv (Dq l9 l11 Tryz.underlying78 Le i5 i6)<|Zv (AP rfl Le (hcE.at 0 rfl))<|Za<|nl<|Zr<|Zv (FY l3)<|Zm<|Zv (Kz rfl Tryz.underlying41)<|Zv (FH rfl rfl)<|Za<|nl<|Zr<|Zm<|Zv (Oi rfl rfl)<|nl<|cnd rfl (fun h=>?_) (fun _=>?_)
   ·exact absurd (hneg.symm.trans h) (by simp)
   ·refine wp_skip<|rg<|Zv (FH l11 rfl)<|Zm<|nl<|?_
    exact lq m3 (by omega) ⟨k+1,_,by omega,hB,congrArg _ (hadd k hkl),l10,l9,l0,rfl,rfl⟩
  ·have hc:¬(k:Int)<(ls.length:Int):=by simpa using hc
   rw[List.drop_of_length_le (by omega),ACe]at hB;cases hB;exact wp_exit<|lf ⟨l0,l3,rfl⟩
 rintro L1 w⟨l0,l3,rfl⟩;have hsn:((sF.toNat:Nat):Int)=sF:=Int.toNat_of_nonneg (by omega);refine Zr<|Zv (FY l3)<|Zc (xc ASZ (mc rfl (mc (by exact congrArg _ hsn.symm) mn))) (AUW (k:=sF.toNat) (by omega) (by omega)) ?_;rintro v6 w1⟨R1,hx1⟩;refine Za<|nl<|wp_seq ?_;refine ct (fun L' W=>∃vo,L' 6=vo/\Row 3 w.heap.size W vo r/\Ext w W) ?_ ?_
 ·refine Zr<|Zv (FY l0)<|Zv (Kz rfl Tryz.underlying78)<|Zm<|nl<|?_
  refine wp_block<|lp (I:=fun m' L' W=>∃(k:Nat)(o:List Int)(vo:Value),k+m'=ls.length/\AD5 (ls.drop k) o=some r/\L' 27=.int .i64 (k:Int)/\L' 26=.int .i64 (ls.length:Int)/\L' 25=.slice a0 ls.length c0/\L' 6=vo/\Row 3 w.heap.size W vo o/\Ext w W) ls.length
   ⟨0,[],_,by simp,hF,rfl,rfl,rfl,rfl,R1,hx1⟩ ?_
  rintro m' L' W⟨k,o,vo,hk,hB,l27,l26,l25,l6,Ro,kW⟩;refine Zr<|Zv (Oi l27 l26)<|nl<|wp_seq<|cnd rfl (fun hc=>?_) (fun hc=>?_)
  ·have hc:(k:Int)<(ls.length:Int):=by simpa using hc
   have hkl:k<ls.length:=by omega
   obtain⟨m3,rfl⟩:∃q,m'=q+1:=⟨m'-1,by omega⟩;rw[List.drop_eq_getElem_cons hkl,AD5]at hB;refine bS hB fun o2 Eo hB=>?_;have hix:ix ls (k:Int)=some ls[k]:=by simp[ix,List.getElem?_eq_getElem hkl]
   have hz:=Els.ix (r0.ext kW).els hix;obtain⟨b9,off9,cs9,rfl,i5,i6,⟨ae,ce,rfl,j1,j2,els⟩,hcE⟩:=hz;have hz:=RV.sl Ro.rv;obtain⟨ag,cg,rfl,-,-,-⟩:=hz;have zw:=kW.size;refine wp_skip<|wp_seq<|wp_block<|Zr<|Zv (Dq l25 l27 Tryz.underlying78 Le i5 i6)<|Zv (AP rfl Le (hcE.at 0 rfl))<|Za<|nl<|rg<|Zv (FY l6)<|Zm<|ADq (l:=o) (k:=ls[k]) rfl rfl Tryz.underlying41 Ap rfl rfl Ro els Eo zw fun v9 we oe hBe hge hwe=>?_;have hz:=RV.sl oe.rv;obtain⟨av,cv,rfl,-,-,-⟩:=hz;refine Za<|nl<|rg<|Zv (FH l27 rfl)<|Zm<|nl<|lq m3 (by omega) ⟨k+1,o2,_,by omega,hB,congrArg _ (hadd k hkl),l26,l25,rfl,oe,kW.trans hBe⟩
  ·have hc:¬(k:Int)<(ls.length:Int):=by simpa using hc
   rw[List.drop_of_length_le (by omega),AD5]at hB;cases hB;exact wp_exit<|lf ⟨_,l6,Ro,kW⟩
 rintro LZ wZ⟨vo,l6,RZ,kZ⟩;have hz:=RV.sl RZ.rv;obtain⟨ag,cg,rfl,-,-,-⟩:=hz;exact Zr<|Zv (FY l6)<|Za<|nl<|wp_ret<|Zw rfl rfl rfl ⟨RZ,kZ⟩
end Go.Proofs.YtfmelbioccbdoaaGreat
end
section
namespace Go.Proofs.YtfmelbioccbdoaaGreat
open Go Go.Md Go.RowKit
attribute [local irreducible] Go.wpList Go.Code.wp Go.Calls Go.Md.gK Go.Md.Mt Go.Md.vN Go.Md.PE Go.Code.wpIn Go.wpListIn
section
def AD6:List Int->List Int->Option (List Int)
 |[],en=>some en
 |k::t,en=>(ix en k)>>=fun _=>AD6 t (NG en k 1)
def ADJ(F:Nat)(n:Int)(K:List oG)(Lf Rt:List Int)(H:Ar 40 Int):List Qw->List Int->Option (List Int)
 |[],f=>some f
 |x::t,f=>
  (vz ((n,K,Lf,Rt),[],f,H) x)>>=fun much=>
  (slices_Contains_int F Lf x.2.1)>>=fun c=>
  if(!c)=true then(ACN K f x much)>>=fun f2=>ADJ F n K Lf Rt H t f2
  else ADJ F n K Lf Rt H t f
def ACy(F:Nat)(n:Int)(K:List oG)(Lf Rt:List Int):List Int->List Int->Ar 40 Int->Option (List Int×Ar 40 Int)
 |[],f,H=>some (f,H)
 |k::t,f,H=>(ix H.l k)>>=fun _=>(ADJ F n K Lf Rt (vZ H k n) (G5 K k) f)>>=fun f2=>ACy F n K Lf Rt t f2 (vZ H k n)
def AB2(n:Int)(en:List Int)(Y:Ar 40 Int):Nat->Int->List Int->Option (List Int)
 |0,_,_=>none
 |m+1,k,q=>
  if decide (k<n)=true then
   (ix en k)>>=fun e=>
   if decide (e=0)=true then
    (ix Y.l k)>>=fun y=>
    if decide (0<y)=true then(app 8 q ([k]:List Int))>>=fun q2=>AB2 n en Y m (BH (k+1)) q2
    else AB2 n en Y m (BH (k+1)) q
   else AB2 n en Y m (BH (k+1)) q
  else some q
abbrev FlS:=List Int×Ar 40 Int×List Int
def ADA(n:Int)(K:List oG)(Lf Rt en:List Int)(H:Ar 40 Int)(k:Int):List Qw->FlS->Option FlS
 |[],s=>some s
 |x::t,s=>
  (ix s.2.1.l k)>>=fun yk=>
  (vz ((n,K,Lf,Rt),[],s.1,H) x)>>=fun l=>
  if decide (0<(if l<yk then l else yk))=true then
   (ix H.l k)>>=fun hk=>
   (ix H.l x.2.1)>>=fun ht=>
   if decide (hk=BH (ht+1))=true then
    (ACN K s.1 x (if l<yk then l else yk))>>=fun f2=>
    (ix en x.2.1)>>=fun e=>
    (ix s.2.1.l x.2.1)>>=fun yt=>
    (if decide (e=0)=true then(if decide (yt=0)=true then app 8 s.2.2 ([x.2.1]:List Int)else some s.2.2)else some s.2.2)>>=fun q2=>
    (ix (vZ s.2.1 k (BH (yk-(if l<yk then l else yk)))).l x.2.1)>>=fun y2=>
    ADA n K Lf Rt en H k t (f2,vZ (vZ s.2.1 k (BH (yk-(if l<yk then l else yk)))) x.2.1 (BH (y2+(if l<yk then l else yk))),q2)
   else ADA n K Lf Rt en H k t s
  else ADA n K Lf Rt en H k t s
def ADh(n:Int)(K:List oG)(Lf Rt en:List Int):Nat->Ar 40 Int->List Int->Ar 40 Int->List Int->Option (List Int×Ar 40 Int)
 |0,_,_,_,_=>none
 |_+1,H,f,_,[]=>some (f,H)
 |m+1,H,f,Y,k::q=>
  (ADA n K Lf Rt en H k (G5 K k) (f,Y,q))>>=fun s=>
  (ix s.2.1.l k)>>=fun y=>
  if decide (0<y)=true then
   (ACd ((n,K,Lf,Rt),[],s.1,H) k)>>=fun H2=>(app 8 s.2.2 ([k]:List Int))>>=fun q2=>ADh n K Lf Rt en m H2 s.1 s.2.1 q2
  else ADh n K Lf Rt en m H s.1 s.2.1 s.2.2
def ADK(F:Nat)(n:Int)(K:List oG)(Lf Rt f:List Int)(H:Ar 40 Int):Option (List Int×Ar 40 Int):=
 (mks 8 n (0:Int))>>=fun en0=>
 (ABc [Lf,Rt])>>=fun ends=>
 (AD6 ends en0)>>=fun en=>
 (ACy F n K Lf Rt Lf f H)>>=fun p=>
 (AAT F ((n,K,Lf,Rt),[],p.1,p.2))>>=fun Y=>
 (AB2 n en Y F 0 [])>>=fun q=>ADh n K Lf Rt en F p.2 p.1 Y q
structure FO(lo:Nat)(W:World)(b b1 b2:Nat)(ve:Value)(en:List Int):Prop where
 x1:Bx W b1 256 [.pointer (some ⟨b,0,none⟩)]
 x2:Bx W b2 41 [ve]
 re:Row 3 lo W ve en
section
variable {lo:Nat}{w w':World}{b b1 b2 B:Nat}{ve:Value}{en:List Int}
theorem FO.ext(h:FO lo w b b1 b2 ve en)(k:Ext w w'):FO lo w' b b1 b2 ve en:=⟨h.x1.ext k,h.x2.ext k,h.re.ext k⟩
theorem FO.asg(h:FO lo w b b1 b2 ve en)(k:Asg B w w'):FO lo w' b b1 b2 ve en:=⟨h.x1.asg k,h.x2.asg k,h.re.asg k⟩
theorem FO.belp{ok:Nat->Prop}(h:FO lo w b b1 b2 ve en)(k:BelP ok w.heap.size w w')(h1:ok b1)(h2:ok b2)(h3:∀q,ve.ownBlock=some q->ok q):FO lo w' b b1 b2 ve en:=
 ⟨h.x1.belp k h.x1.lt h1,h.x2.belp k h.x2.lt h2,h.re.keepq fun q hq=>k.block q (h.re.lt q hq).2 (h3 q hq)⟩
theorem FO.chg{q:Nat}(h:FO lo w b b1 b2 ve en)(k:Chg q w w')(h1:b1≠q)(h2:b2≠q)(h3:some q≠ve.ownBlock):FO lo w' b b1 b2 ve en:=⟨h.x1.chg k h1,h.x2.chg k h2,h.re.chgn k h3⟩
theorem FO.blw(h:FO lo w b b1 b2 ve en)(k:Below B w w')(h1:b1<B)(h2:b2<B)(h3:∀q,ve.ownBlock=some q->q<B):FO lo w' b b1 b2 ve en:=⟨h.x1.below k h1,h.x2.below k h2,h.re.blw k h3⟩
theorem Okb.fo:Okb B (fun w=>FO lo w b b1 b2 ve en):=⟨fun h k=>h.ext k,fun h _ hl ho k=>⟨h.x1.putne hl ho k,h.x2.putne hl ho k,h.re.putne hl ho k⟩⟩
end
theorem Okb.nf{N z B b:Nat}{n:Int}{K:List oG}{Lf Rt f:List Int}{H:Ar 40 Int}(hB:N<=B):Okb B (fun w=>Nf N z w b n K Lf Rt f H):=⟨fun h k=>h.ext k,fun h hl _ _ k=>by
 have:=h.lt;exact h.belp (ok:=fun q=>q<N) (B:=N) ⟨k.os,k.tape,k.output,by rw[k.size];exact Nat.le_refl _,fun q hq _=>k.other q (by omega)⟩ (Nat.le_refl _) this.1 this.2.1 fun q h _ _=>h⟩
theorem Nf.asg{N z B b:Nat}{w w':World}{n:Int}{K:List oG}{Lf Rt f:List Int}{H:Ar 40 Int}(h:Nf N z w b n K Lf Rt f H)(k:Asg B w w')(hB:N<=B):Nf N z w' b n K Lf Rt f H:=by
 obtain⟨W1,l,o,hl,h1,h2,h3,_,h4⟩:=k;exact(Okb.nf hB).put ((Okb.nf hB).ext h h1) hl h2 h3 h4
theorem Nf.chgo{N z b q:Nat}{w w':World}{n:Int}{K:List oG}{Lf Rt f:List Int}{H:Ar 40 Int}(h:Nf N z w b n K Lf Rt f H)(k:Chg q w w')(hq:N<=q):Nf N z w' b n K Lf Rt f H:=by
 have:=h.lt;exact h.belp (ok:=fun _=>True) (B:=N) ⟨k.os,k.tape,k.output,by rw[k.size];exact Nat.le_refl _,fun p hp _=>k.other p (by omega)⟩ (Nat.le_refl _) trivial trivial fun _ _ _ _=>trivial
theorem RVo.okb{α:Type}[Enc α]{g:Nat->Prop}{B:Nat}{v:Value}{x:α}(hg:∀q,g q->q<B):Okb B (fun w=>RVo g w v x):=⟨fun h k=>h.ext k,fun h hl _ _ k=>h.chg k fun e=>by have:=hg _ e;omega⟩
theorem RVo.asgb{α:Type}[Enc α]{g:Nat->Prop}{B:Nat}{w w':World}{v:Value}{x:α}(h:RVo g w v x)(k:Asg B w w')(hg:∀q,g q->q<B):RVo g w' v x:=by
 obtain⟨W1,l,o,hl,h1,h2,h3,_,h4⟩:=k;exact(RVo.okb hg).put ((RVo.okb hg).ext h h1) hl h2 h3 h4
end
set_option maxHeartbeats 16000000 in
theorem AUY{N z:Nat}{w0:World}{b:Nat}{n:Int}{K:List oG}{Lf Rt f:List Int}{H:Ar 40 Int}(h:Nf N z w0 b n K Lf Rt f H){F:Nat}{r:List Int×Ar 40 Int}(hF:ADK F n K Lf Rt f H=some r):
  Calls Tryz.prog 261 [.pointer (some ⟨b,0,none⟩)].toArray w0 (IA fun v w'=>v=.tuple #[]/\Nf N z w' b n K Lf Rt r.1 r.2/\BelP (fun q=>q≠b/\q≠z) w0.heap.size w0 w'):=by
 unfold ADK at hF;refine bS hF fun en0 Em hF=>bS hF fun ends Ec hF=>bS hF fun en Ee hF=>bS hF fun p Ep hF=>bS hF fun Y EY hF=>bS hF fun q0 Eq0 hF=>?_;have hlt:=h.lt;have hNb:∀{w:World}{f:List Int}{H:Ar 40 Int},Nf N z w b n K Lf Rt f H->∃cs,Bx w b 261 (.int .i64 n::cs):=fun⟨_,_,_,_,_,_,_,_,_,m,_⟩=>⟨_,m.bx⟩;have hz:=hNb h;obtain⟨csb,hb0⟩:=hz;refine AIr (m:=9) (n:=193) Tryz.func261 rfl rfl rfl<|Zr<|yX rfl rfl fun b1 w1 hx1 hg1 hb1=>nl<|Zr<|Zv (AP rfl yU ((Bx.cs hb1).at 0 rfl))<|Zv (tX rfl)<|Zv (BA rfl AAM)<|Zv (BA rfl vV)<|Zv (AP rfl Ap ((Bx.cs (hb0.ext hx1)).at 0 rfl))<|AGf (α:=Int) (z0:=0) rfl rfl Tryz.underlying41 Ap rfl rfl rfl Em fun be w2 hx2 o2=>yY Le fun b2 w3 hx3 hg3 hb3=>xk rfl rfl rfl Le hb3 rfl rfl (ble rfl) fun w4 hch4 hb4=>nl<|?_;have s1:=hx1.size;have s2:=hx2.size;have s3:=hx3.size;have s4:=hch4.size;have kx4:Ext w2 w4:=hx3.chg hch4 hg3;have k4:=(hx1.tr hx2).tr kx4;have l1:=hb1.lt;have l2:=hb4.lt;have le:w1.heap.size<=be/\be<w2.heap.size:=o2.lt be rfl;have O4:FO w0.heap.size w4 b b1 b2 (.slice (some ⟨be,0,none⟩) en0.length en0.length) en0:=⟨(hb1.ext hx2).ext kx4,hb4,(o2.ext kx4).bnd s1⟩;have hown:∀q,(Value.slice (some ⟨be,0,none⟩) en0.length en0.length).ownBlock=some q->q=be:=fun q hq=>by cases hq;rfl
 have hown2:∀(w:World)(e:List Int),Row 3 w0.heap.size w (.slice (some ⟨be,0,none⟩) en0.length en0.length) e->e.length=en0.length:=fun w e h=>h.rv.cap.1.symm;generalize hve:(Value.slice (some ⟨be,0,none⟩) en0.length en0.length)=ve at O4 hown hown2;have N4:=h.ext k4;refine wp_seq ?_;refine ct (fun L' W=>L' 1=.pointer (some ⟨b1,0,none⟩)/\L' 2=.pointer (some ⟨b2,0,none⟩)/\FO w0.heap.size W b b1 b2 ve en/\Ext w0 W/\w4.heap.size<=W.heap.size) ?_ ?_
 ·refine wp_seq<|wpl [] (.pure false 0 (.pure true 1 (.pure true 2 (.pure true 3 (.pure false 4 (.pure false 5 (.pure true 6 (.pure true 7 (.pure true 8 (.pure false 9 (.pure true 13 (.eff 10 (.eff 11 (.pure true 12 .fin) .stop) .stop)))))))))))) mixed (by kernel_rfl) (fun w5 hx5=>?_)
  have O5:=O4.ext hx5;have N5:=N4.ext hx5;have s5:=hx5.size;have hz:=N5;obtain⟨a1,c1,a2,c2,a3,c3,a4,c4,cf,M1,M2,M3,-⟩:=hz;refine Zq rfl (fun _ hS=>AP rfl yU ((Bx.cs (O5.x1.ext (hS.resolve_left nofun))).at 0 rfl)) (Ext.refl _)<|Zp rfl (fun _=>tX rfl)<|Zp rfl (fun _=>BA rfl AAM)<|Zp rfl (fun _=>BA rfl yT)<|Zq rfl (fun _ hS=>AP rfl Le ((Bx.cs (M1.bx.ext (hS.resolve_left nofun))).at 2 rfl)) (Ext.refl _)<|Zq rfl (fun _ hS=>AP rfl yU ((Bx.cs (O5.x1.ext (hS.resolve_left nofun))).at 0 rfl)) (Ext.refl _)<|Zp rfl (fun _=>tX rfl)<|Zp rfl (fun _=>BA rfl AAM)<|Zp rfl (fun _=>BA rfl AAo)<|Zq rfl (fun _ hS=>AP rfl Le ((Bx.cs (M1.bx.ext (hS.resolve_left nofun))).at 3 rfl)) (Ext.refl _)<|Zn rfl<|pe1 rfl<|AAR (cs:=[.slice a2 Lf.length c2,.slice a3 Rt.length c3]) Tryz.underlying78 Le rfl (pc rfl (pc rfl pn)) rfl rfl rfl rfl rfl fun b6 w6 hx6 hg6 hb6=>nl ⟨fun _ _=>hx6,?_⟩;have r6:RV w6 (.slice (some ⟨b6,0,none⟩) 2 2) ([Lf,Rt]:List (List Int)):=RV.lit hb6 (css:=[[.slice a2 Lf.length c2],[.slice a3 Rt.length c3]]) rfl ⟨RV.rep1 (M2.rv.ext hx6),RV.rep1 (M3.rv.ext hx6),trivial⟩ rfl (ble rfl);refine pe1 rfl<|Zc (xc ASV (mc rfl mn)) (AUX r6 Ec) ?_;rintro v7 w7⟨R7,hx7⟩;have s6:=hx6.size;have s7:=hx7.size;have hz:=RV.sl R7.rv;obtain⟨a7,c7,rfl,-,hc7,-⟩:=hz;refine nl ⟨fun _ _=>hx6.tr hx7,?_⟩;refine Zp rfl (fun _=>Kz rfl Tryz.underlying41)<|?_;have O7:=(O5.ext hx6).ext hx7;have k7:=((k4.tr hx5).tr hx6).tr hx7;refine wp_block<|lp (I:=fun m' L' W=>∃(k:Nat)(e:List Int),k+m'=ends.length/\AD6 (ends.drop k) e=some en/\L' 34=.int .i64 (k:Int)/\L' 33=.int .i64 (ends.length:Int)/\L' 32=.slice a7 ends.length c7/\L' 1=.pointer (some ⟨b1,0,none⟩)/\L' 2=.pointer (some ⟨b2,0,none⟩)/\FO w0.heap.size W b b1 b2 ve e/\Row 3 w6.heap.size W (.slice a7 ends.length c7) ends/\Ext w0 W/\w7.heap.size<=W.heap.size) ends.length
   ⟨0,en0,by simp,Ee,rfl,rfl,rfl,rfl,rfl,O7,R7,k7,Nat.le_refl _⟩ ?_
  rintro m' L' W⟨k,e,hk,hB,l34,l33,l32,l1',l2',OW,RW,kW,zW⟩;refine Zr<|Zv (Oi l34 l33)<|nl<|wp_seq<|cnd rfl (fun hc=>?_) (fun hc=>?_)
  ·have hc:(k:Int)<(ends.length:Int):=by simpa using hc
   have hkl:k<ends.length:=by omega
   obtain⟨m3,rfl⟩:∃q,m'=q+1:=⟨m'-1,by omega⟩;rw[List.drop_eq_getElem_cons hkl,AD6]at hB;have hix:ix ends (k:Int)=some ends[k]:=by simp[ix,List.getElem?_eq_getElem hkl]
   refine bS hB fun y Ey hB=>?_;have hz:=vX Ey;obtain⟨i1,i2,-⟩:=hz;have hel:=hown2 _ _ OW.re;have hz:=Els.ix RW.rv.els hix;obtain⟨b9,off9,cs9,rfl,i5,i6,q5,hcE⟩:=hz;obtain rfl:=Flat.iff.1 q5;have hadd:BH ((k:Int)+1)=((k+1:Nat):Int):=by
    rw[BH,IntWalk.i64_in _ (by unfold maxLen at hc7;have:=RW.rv.cap.2.1;omega)]
    rfl
   subst hve;refine wp_skip<|wp_seq<|wp_block<|Zr<|Zv (Dq l32 l34 Tryz.underlying41 Ap i5 i6)<|Zv (AP rfl Ap (hcE.at 0 rfl))<|Za<|nl<|rg<|Zv (AP l2' Le ((Bx.cs OW.x2).at 0 rfl))<|Zm<|Zv (Dq rfl rfl Tryz.underlying41 Ap i1 (by omega))<|ADO (v:=(1:Int)) rfl rfl rfl Ap OW.re Ey fun w8 hch8 R8=>nl<|?_;refine rg<|Zv (FH l34 rfl)<|Zm<|nl<|lq m3 (by omega) ⟨k+1,_,by omega,hB,congrArg _ hadd,l33,l32,l1',l2',⟨OW.x1.chg hch8 (by omega),OW.x2.chg hch8 (by omega),R8⟩,RW.chg hch8 (by omega),kW.chg hch8 (by omega),by rw[hch8.size];exact zW⟩
  ·have hc:¬(k:Int)<(ends.length:Int):=by simpa using hc
   rw[List.drop_of_length_le (by omega),AD6]at hB;cases hB;exact wp_exit<|lf ⟨l1',l2',OW,kW,by omega⟩
 rintro L5 w5⟨l1',l2',O5,k5,z5⟩;clear O4 N4;have N5:=h.ext k5;have hbe1:w0.heap.size<=b1/\w0.heap.size<=b2/\(∀q,ve.ownBlock=some q->w0.heap.size<=q):=⟨hg1,by omega,fun q hq=>by rw[hown q hq];omega⟩;have hb12:b1<w5.heap.size/\b2<w5.heap.size/\be<w5.heap.size:=by omega
 refine wp_seq ?_;refine ctM w0.heap.size (fun L' W=>L' 1=.pointer (some ⟨b1,0,none⟩)/\L' 2=.pointer (some ⟨b2,0,none⟩)/\Nf N z W b n K Lf Rt p.1 p.2/\FO w0.heap.size W b b1 b2 ve en/\BelP (fun q=>q≠b/\q≠z) w0.heap.size w0 W/\w5.heap.size<=W.heap.size) ?_ ?_
 ·have hz:=N5;obtain⟨a1,c1,a2,c2,a3,c3,a4,c4,cf,M1,M2,M3,-⟩:=hz
  refine Zr<|Zv (AP l1' yU ((Bx.cs O5.x1).at 0 rfl))<|Zv (tX rfl)<|Zv (BA rfl AAM)<|Zv (BA rfl yT)<|Zv (AP rfl Le ((Bx.cs M1.bx).at 2 rfl))<|Zv (Kz rfl Tryz.underlying41)<|Zm<|nl<|wp_block<|lpM w0.heap.size (I:=fun m' L' W=>∃(k:Nat)(f:List Int)(H:Ar 40 Int),k+m'=Lf.length/\ACy F n K Lf Rt (Lf.drop k) f H=some p/\L' 48=.int .i64 (k:Int)/\L' 47=.int .i64 (Lf.length:Int)/\L' 46=.slice a2 Lf.length c2/\L' 1=.pointer (some ⟨b1,0,none⟩)/\L' 2=.pointer (some ⟨b2,0,none⟩)/\RVo (fun q=>q<N/\q≠b/\q≠z) W (.slice a2 Lf.length c2) Lf/\Nf N z W b n K Lf Rt f H/\FO w0.heap.size W b b1 b2 ve en/\BelP (fun q=>q≠b/\q≠z) w0.heap.size w0 W/\w5.heap.size<=W.heap.size) Lf.length Mks.nil
   ⟨0,f,H,by simp,Ep,rfl,rfl,rfl,l1',l2',M2,N5,O5,BelP.of k5 (Nat.le_refl _),Nat.le_refl _⟩ ?_
  clear l1' l2' N5 O5 k5 z5 M1 M2 M3;rintro m' L' D' W hM⟨k,f,H,hk,hB,l48,l47,l46,l1',l2',rl,Nw,OW,kW,zW⟩;refine Zr<|Zv (Oi l48 l47)<|nl<|wp_seq<|cnd rfl (fun hc=>?_) (fun hc=>?_)
  ·have hc:(k:Int)<(Lf.length:Int):=by simpa using hc
   have hkl:k<Lf.length:=by omega
   obtain⟨m3,rfl⟩:∃q,m'=q+1:=⟨m'-1,by omega⟩;rw[List.drop_eq_getElem_cons hkl,ACy]at hB;have hix:ix Lf (k:Int)=some Lf[k]:=by simp[ix,List.getElem?_eq_getElem hkl]
   refine bS hB fun y EH hB=>bS hB fun f2 Ef2 hB=>?_;have hz:=vX EH;obtain⟨j1,j2,-⟩:=hz;have hH:H.l.length=40:=H.h;have hz:=(RVo.sl.1 rl);obtain⟨_,_,e3,_,hc2,els⟩:=hz;cases e3;have hz:=Els.ix els hix;obtain⟨b9,off9,cs9,rfl,i5,i6,q5,hcE⟩:=hz;obtain rfl:=Flat.iff.1 q5;have hadd:BH ((k:Int)+1)=((k+1:Nat):Int):=by
    rw[BH,IntWalk.i64_in _ (by unfold maxLen at hc2;have:=rl.rv.cap.2.1;omega)]
    rfl
   generalize Lf[k]=kk at hB hix hcE EH Ef2 j1 j2;refine wp_skip<|wp_seq<|wp_block<|Zr<|Zv (Dq l46 l48 Tryz.underlying41 Ap i5 i6)<|Zv (AP rfl Ap (hcE.at 0 rfl))<|Za<|nl<|wp_seq<|wpl [10] (.pure false 0 (.pure true 1 (.pure false 2 (.pure true 3 (.pure true 4 (.pure true 5 (.pure false 6 (.pure true 7 (.pure true 8 (.pure true 9 (.eff 10 .fin .stop))))))))))) mixed (by kernel_rfl) (fun wd hxd=>?_);have Od:=OW.ext hxd;have Nd:=Nw.ext hxd;have sd:=hxd.size;have hz:=Nd;obtain⟨_,_,_,_,_,_,_,_,_,m9,_⟩:=hz;refine Zq rfl (fun _ hS=>AP l1' yU ((Bx.cs (Od.x1.ext (hS.resolve_left nofun))).at 0 rfl)) (Ext.refl _)<|Zn rfl<|Zq rfl (fun _ hS=>AP l1' yU ((Bx.cs (Od.x1.ext (hS.resolve_left nofun))).at 0 rfl)) (Ext.refl _)<|Zp rfl (fun _=>tX rfl)<|Zp rfl (fun _=>BA rfl AAM)<|Zp rfl (fun _=>BA rfl vV)<|Zq rfl (fun _ hS=>AP rfl Ap ((Bx.cs (m9.bx.ext (hS.resolve_left nofun))).at 0 rfl)) (Ext.refl _)<|Zp rfl (fun _=>tX rfl)<|Zp rfl (fun _=>BA rfl AEm)<|Zp rfl (fun _=>xW rfl rfl Tryz.underlying259 Ap j1 (by omega))<|?_;refine pe1 rfl<|xk (vs:=[.int .i64 n]) rfl rfl rfl Ap m9.bx rfl rfl (by rw[AHZ,List.length_singleton];omega) fun we hche hbe=>nl ⟨fun h=>(h (by decide)).elim,?_⟩;rw[show 0+6+kk.toNat*1=6+kk.toNat by omega]at hbe;have Ne:=Nd.high (v:=n) j1 (by omega) hche fun cs hcs=>by
    rw[Bx.inj hcs m9.bx];exact hbe
   have se:=hche.size;have Oe:=Od.chg hche (by omega) (by omega) (fun e=>by have:=hbe1.2.2 _ e.symm;omega);have rle:=(rl.ext hxd).chg hche (fun h=>h.2.1 rfl);have ke:=(kW.ext hxd (by omega)).chg hche (.inr fun h=>h.1 rfl);have Me:=(hM.ext hxd).chg hche m9.bx.nd;clear Nd Od m9 hbe hche;refine Zr<|Zv (AP l1' yU ((Bx.cs Oe.x1).at 0 rfl))<|Zm<|Zc (xc AIq (mc rfl (mc rfl mn))) AMH fun u w7 hu=>?_;obtain⟨hwy,hx7⟩:=hu;have s7:=hx7.size;have N7:=Ne.ext hx7;have hz:=N7;obtain⟨_,_,_,_,_,_,_,_,_,m7,_⟩:=hz;refine nl<|wp_block<|rangeB (α:=Qw) (xs:=G5 K kk) (m:=9) (by decide) rfl (KpOk.belp (ok:=fun q=>(q<N/\q≠z)\/we.heap.size<=q)) (hwy.goz (N:=N) m7 (.inl ⟨by omega,by omega⟩) (fun q h _ h2=>.inl ⟨h,h2⟩) (fun q h1 _=>.inr h1) 8) rfl rfl rfl bF rfl
    (fun j V=>∃(f':List Int),ADJ F n K Lf Rt (vZ H kk n) ((G5 K kk).drop j) f'=some f2/\Nf N z V b n K Lf Rt f' (vZ H kk n)/\FO w0.heap.size V b b1 b2 ve en/\RVo (fun q=>q<N/\q≠b/\q≠z) V (.slice (some ⟨b9,off9,none⟩) Lf.length c2) Lf/\BelP (fun q=>q≠b/\q≠z) w0.heap.size w0 V/\Mks w0.heap.size D' V/\w7.heap.size<=V.heap.size) (fun _ _=>False)
    (fun j=>Okb.ex fun _=>Okb.pure.and ((Okb.nf (by omega)).and (Okb.fo.and ((RVo.okb (fun q h=>by omega)).and ((Okb.belp (Nat.le_refl _) (by omega)).and ((Okb.mks (Me.ext hx7) rfl).and Okb.size)))))) (fun c=>Okb.pure)
    ⟨f,Ef2,N7,Oe.ext hx7,rle.ext hx7,ke.ext hx7 (by omega),Me.ext hx7,Nat.le_refl _⟩ ?round (fun j A h=>by obtain⟨_,_,_,_,_,_,_,h⟩:=h;exact h) ?done (fun _ _ _ _ h _=>h.elim)
   case done=>
    rintro DD V hD⟨f',hB3,NV,OV,rV,kV,MV,zV⟩ hK;rw[List.drop_length,ADJ]at hB3;cases hB3;refine rg<|Zv (FH l48 rfl)<|Zm<|nl<|lqM m3 (by omega) (Mks.cons (Me.ext hx7) MV (by omega) hD hK) ⟨k+1,_,_,by omega,hB,congrArg _ hadd,l47,l46,l1',l2',rV,NV,OV,kV,by omega⟩
   case round=>
    rintro ll j x A V bb hu⟨f',hB3,NV,OV,rV,kV,MV,zV⟩ hAs hb1' hb2' hbx;rw[AGI hu,ADJ]at hB3;refine bS hB3 fun much Emu hB3=>bS hB3 fun cc Ecc hB3=>?_;have NV:=NV.asg hAs (show N<=w7.heap.size by omega);have OV:=OV.asg hAs;have rV:=RVo.asgb rV hAs (fun q h=>by have:=h.1;omega);have kV:=kV.asg hAs (Nat.le_trans (show w0.heap.size<=w7.heap.size by omega) zV) (show w0.heap.size<=w7.heap.size by omega);have MV:=MV.asg hAs;have zV:w7.heap.size<=V.heap.size:=Nat.le_trans zV hAs.size;have hz:=NV.rep;obtain⟨csr,hr1,hr2⟩:=hz;refine wpIn_block<|wpIn_seq<|rgR rfl<|Zv (AP l1' yU ((Bx.cs OV.x1).at 0 rfl))<|Zv (Jq rfl bF rfl (Bx.cs hbx))<|Zc (xc AGy (mc rfl (mc rfl mn))) (AJg hr1 hr2 (x1:=x) (v1:=.agg (Flat.enc x).toArray) ⟨_,rfl,Flat.iff.2 rfl⟩ Emu) ?_;rintro _ w8⟨rfl,hx8⟩;have s8:=hx8.size;have N8:=NV.ext hx8;have O8:=OV.ext hx8;have r8:=rV.ext hx8;have k8:=kV.ext hx8 (by omega);have M8:=MV.ext hx8;have px:=hbx.ext hx8;refine Za<|nl<|wpIn_seq<|AGe [] (.pure false 0 (.pure true 1 (.pure true 2 (.pure true 3 (.pure false 4 (.pure true 5 (.pure false 6 (.eff 7 (.pure true 8 .fin) .stop)))))))) mixed (by kernel_rfl) (fun wd hxd=>?_);have sdd:=hxd.size;have Nd:=N8.ext hxd;have Od:=O8.ext hxd;have pxd:=px.ext hxd;have hz:=Nd;obtain⟨_,_,_,_,_,_,_,_,_,m9,rl9,_⟩:=hz;refine Zq rfl (fun _ hS=>AP l1' yU ((Bx.cs (Od.x1.ext (hS.resolve_left nofun))).at 0 rfl)) (Ext.refl _)<|Zp rfl (fun _=>tX rfl)<|Zp rfl (fun _=>BA rfl AAM)<|Zp rfl (fun _=>BA rfl yT)<|Zq rfl (fun _ hS=>AP rfl Le ((Bx.cs (m9.bx.ext (hS.resolve_left nofun))).at 2 rfl)) (Ext.refl _)<|Zp rfl (fun _=>BA rfl ABM)<|Zq rfl (fun _ hS=>AP rfl Ap ((Bx.cs (pxd.ext (hS.resolve_left nofun))).at 1 rfl)) (Ext.refl _)<|pe1 rfl<|Zc (xc ALA (mc rfl (mc rfl mn))) (AOQ rl9.rv Ecc) ?_;rintro _ wf⟨rfl,hxf⟩;have sf:=hxf.size;refine nl ⟨fun _ _=>hxf,?_⟩;refine Zp rfl (fun _=>wP rfl)<|?_;have hx8f:=hxd.tr hxf;have Nf':=N8.ext hx8f;have Of:=O8.ext hx8f;have rf:=r8.ext hx8f;have kf:=k8.ext hx8f (by omega);have Mf:=M8.ext hx8f;have pf:=px.ext hx8f;have beV:BelP (fun q=>(q<N/\q≠z)\/we.heap.size<=q) w7.heap.size V wf:=BelP.of (hx8.tr hx8f) zV;have kfV:KeepsFrom w7.heap.size V wf:=(hx8.tr hx8f).kf;refine AEX rfl (fun hg=>?_) (fun hg=>?_)
    ·have hB3:=Cj hB3 hg
     refine bS hB3 fun f3 Ef3 hB3=>rgR rfl<|Zv (AP l1' yU ((Bx.cs Of.x1).at 0 rfl))<|Zv (Jq rfl bF rfl (Bx.cs pf))<|Zm<|Zc (xc AOv (mc rfl (mc rfl (mc rfl mn)))) (ARP Nf' Ef3) ?_;rintro _ wg⟨rfl,Ng,beg⟩;have sg:=beg.size;refine nl ⟨kfV.trans (beg.kf fun q h1=>by omega),beV.trans (beg.weak fun q h1 h2=>⟨by omega,by omega⟩),f3,hB3,Ng,Of.belp beg (by omega) (by omega) (fun q hq=>by have:=hbe1.2.2 q hq;omega),rf.keep (fun q hq hql=>beg.block q hql hq.2.2) beg.size,kf.trans (beg.weak fun q h1 h2=>⟨by omega,h2.2⟩),Mf.belp beg (fun q h1=>by omega),by omega⟩
    ·have hB3:=DF hB3 hg
     exact wpIn_skip ⟨kfV,beV,f',hB3,Nf',Of,rf,kf,Mf,by omega⟩
  ·have hc:¬(k:Int)<(Lf.length:Int):=by simpa using hc
   rw[List.drop_of_length_le (by omega),ACy]at hB;cases hB;exact wp_exit<|lfM hM ⟨l1',l2',Nw,OW,kW,zW⟩
 clear l1' l2' N5 O5 k5 z5;rintro L6 D6 w6 M6⟨l1',l2',N6,O6,k6,z6⟩;have hz:=N6.rep;obtain⟨csr,hr1,hr2⟩:=hz;refine Zr<|Zv (AP l1' yU ((Bx.cs O6.x1).at 0 rfl))<|Zc (xc AOs (mc rfl mn)) (ARO hr1 hr2 EY) ?_;rintro _ w7⟨u7,rfl,r7,hx7⟩;have hz:=id r7;obtain⟨_,rfl,rfl⟩:=hz;refine yY ADX fun b9 w8 hx8 hg8 hb8=>?_;have hb8':Bx w8 b9 364 (List.flatMap Flat.enc ((Ar.fill 40 0:(Ar 40 Int))).l):=hb8;refine ADs rfl rfl ADX hb8' (xO _) (xO _) (AAr _) fun w9 hch9 hb9=>nl<|Zr<|yY Le fun b10 wa hxa hga hba=>nl<|?_;have s7:=hx7.size;have s8:=hx8.size;have s9:=hch9.size;have sa:=hxa.size;have kxa:Ext w6 wa:=((hx7.tr hx8).chg hch9 (by omega)).tr hxa;have Na:=N6.ext kxa;have Oa:=O6.ext kxa;have ka:=k6.ext kxa (by omega);have Ma:=M6.ext kxa;have hb9a:Bx wa b9 364 (List.flatMap Flat.enc Y.l):=hb9.ext hxa;have l9:=hb9.lt;have l10:=hba.lt;have hba:Bx wa b10 41 [.slice none 0 0]:=hba;clear hr1 hr2 r7 hb8 hb8' N6 O6 k6 M6;refine wp_seq ?_;refine ct (fun L' W=>∃vq,L' 1=.pointer (some ⟨b1,0,none⟩)/\L' 2=.pointer (some ⟨b2,0,none⟩)/\L' 9=.pointer (some ⟨b9,0,none⟩)/\L' 10=.pointer (some ⟨b10,0,none⟩)/\Nf N z W b n K Lf Rt p.1 p.2/\FO w0.heap.size W b b1 b2 ve en/\Bx W b9 364 (List.flatMap Flat.enc Y.l)/\Bx W b10 41 [vq]/\Que 3 wa.heap.size W vq q0/\BelP (fun q=>q≠b/\q≠z) w0.heap.size w0 W/\Mks w0.heap.size D6 W/\wa.heap.size<=W.heap.size) ?_ ?_
 ·have hz:=hNb Na;obtain⟨csn,hbn⟩:=hz
  refine Zr<|Zv (AP l1' yU ((Bx.cs Oa.x1).at 0 rfl))<|Zv (tX rfl)<|Zv (BA rfl AAM)<|Zv (BA rfl vV)<|Zv (AP rfl Ap ((Bx.cs hbn).at 0 rfl))<|Zm<|nl<|wp_block<|lp (I:=fun m' L' W=>∃(k:Int)(q:List Int)(vq:Value),AB2 n en Y m' k q=some q0/\L' 90=.int .i64 k/\L' 89=.int .i64 n/\L' 1=.pointer (some ⟨b1,0,none⟩)/\L' 2=.pointer (some ⟨b2,0,none⟩)/\L' 9=.pointer (some ⟨b9,0,none⟩)/\L' 10=.pointer (some ⟨b10,0,none⟩)/\Nf N z W b n K Lf Rt p.1 p.2/\FO w0.heap.size W b b1 b2 ve en/\Bx W b9 364 (List.flatMap Flat.enc Y.l)/\Bx W b10 41 [vq]/\Que 3 wa.heap.size W vq q/\BelP (fun q=>q≠b/\q≠z) w0.heap.size w0 W/\Mks w0.heap.size D6 W/\wa.heap.size<=W.heap.size) F
   ⟨0,[],_,Eq0,rfl,rfl,l1',l2',rfl,rfl,Na,Oa,hb9a,hba,Que.nil,ka,Ma,Nat.le_refl _⟩ ?_
  clear l1' l2' Na Oa ka Ma hb9a hba hbn;rintro m' L' W⟨k,q,vq,hB,l90,l89,l1',l2',l9',l10',Nw,Ow,B9,B10,Q,kw,Mw,zw⟩;rcases m' with _|m'
  ·rw[AB2]at hB;cases hB
  rw[AB2]at hB;have hz:=Q.sl;obtain⟨aq,cq,rfl⟩:=hz;refine Zr<|Zv (Oi l90 l89)<|nl<|wp_seq<|cnd rfl (fun hi=>?_) (fun hi=>?_)
  ·have hB:=Cj hB hi
   have hz:=bs hB;obtain⟨e,Ee',hB⟩:=hz;have hel:=hown2 _ _ Ow.re;have hz:=vX Ee';obtain⟨i1,i2,-⟩:=hz;subst hve;have hz:=ix2 Ow.re.rv Ee';obtain⟨cse,-,-,qe,hce⟩:=hz;obtain rfl:=Flat.iff.1 qe;refine wp_skip<|wp_seq<|wp_block<|Zr<|Zv (FY l90)<|Za<|nl<|Zr<|Zv (AP l2' Le ((Bx.cs Ow.x2).at 0 rfl))<|Zm<|Zv (Dq rfl rfl Tryz.underlying41 Ap i1 (by omega))<|Zv (AP rfl Ap (hce.at 0 rfl))<|Zv (zL rfl rfl)<|Zm<|?_;refine Or.elim (Bool.eq_false_or_eq_true (decide (e=0))) (fun he=>?_) (fun he=>?_)
   ·have hB:=Cj hB he
    refine bS hB fun y Ey hB=>?_;have hz:=yZ (Bx.cs B9) Ey;obtain⟨j1,j2,hco⟩:=hz;refine Gt rfl (bt he)<|Zm<|Gt rfl (bt he)<|Zv (xW l9' rfl Tryz.underlying364 Bh j1 j2)<|Gt rfl (bt he)<|Zv (AP rfl Bh (hco.at 0 rfl))<|Gt rfl (bt he)<|Zv (xU rfl rfl)<|Zv (wI rfl he rfl)<|nl<|cnd rfl (fun hg=>?_) (fun hg=>?_)
    ·have hB:=Cj hB hg
     refine bS hB fun q2 Eq hB=>rg<|Zv (AP l10' Le ((Bx.cs B10).at 0 rfl))<|Zm<|AAR (cs:=[.int .i64 k]) Tryz.underlying41 Ap rfl (pc rfl pn) rfl rfl rfl rfl rfl fun bo wb hxb hgb hbb=>?_;have ob:Row (α:=Int) 3 _ wb (.slice (some ⟨bo,0,none⟩) 1 1) [k]:=Row.lit hgb hbb rfl (ble rfl);have sb:=hxb.size;refine AJf (l:=q) (k:=([k]:List Int)) rfl rfl Tryz.underlying41 Ap rfl rfl (Q.ext hxb) (RV.els ob.rv) (Nat.le_refl _) Eq (by omega) fun v9 wc qc hBc hgc hwc=>?_;have sc:=hBc.size;have t9:=(B9.ext hxb).below hBc (by omega);have t10:=(B10.ext hxb).below hBc l10;have bec:BelP (fun _=>True) wa.heap.size wb wc:=⟨hBc.os,hBc.tape,hBc.output,hBc.size,fun q hq _=>hBc.block q hq⟩;have tN:=(Nw.ext hxb).belp bec (by omega) trivial trivial (fun _ _ _ _=>trivial);have tO:=(Ow.ext hxb).blw hBc (by omega) (by omega) (fun q hq=>by rw[hown q hq];omega);have tk:=(kw.ext hxb (by omega)).trans (bec.weak fun q h1 _=>⟨by omega,trivial⟩);have tM:=(Mw.ext hxb).gr hgc fun g hg=>by
      obtain⟨o',h1,h2⟩:=(Q.ext hxb).isc g hg;exact⟨o',h1,fun ds e=>by subst e;cases h2⟩
     have hz:=qc.sl;obtain⟨av,cv,rfl⟩:=hz;refine xk l10' rfl rfl Le t10 rfl rfl (ble rfl) fun wC hchC hbC=>nl<|rg<|Zv (FH l90 rfl)<|Zm<|nl<|lq m' (Nat.lt_succ_self _) ⟨_,q2,_,hB,rfl,l89,l1',l2',l9',l10',tN.chgo hchC (by omega),tO.chg hchC (by omega) (by omega) (fun e=>by have:=hown _ e.symm;omega),t9.chg hchC (by omega),hbC,qc.chgo hchC l10,tk.chg hchC (.inl (by omega)),tM.chg hchC t10.nd,by rw[hchC.size];omega⟩
    ·have hB:=DF hB hg
     refine wp_skip<|rg<|Zv (FH l90 rfl)<|Zm<|nl<|lq m' (Nat.lt_succ_self _) ⟨_,q,_,hB,rfl,l89,l1',l2',l9',l10',Nw,Ow,B9,B10,Q,kw,Mw,zw⟩
   ·have hB:=DF hB he
    refine Gk rfl (Gi he)<|Gk rfl (Gi he)<|Gk rfl (Gi he)<|Gk rfl (Gi he)<|Zv (yH rfl he rfl)<|nl<|cnd rfl (fun h=>by cases h) (fun _=>?_);refine wp_skip<|rg<|Zv (FH l90 rfl)<|Zm<|nl<|lq m' (Nat.lt_succ_self _) ⟨_,q,_,hB,rfl,l89,l1',l2',l9',l10',Nw,Ow,B9,B10,Q,kw,Mw,zw⟩
  ·have hB:=DF hB hi
   cases hB;exact wp_exit<|lf ⟨_,l1',l2',l9',l10',Nw,Ow,B9,B10,Q,kw,Mw,zw⟩
 clear l1' l2' Na Oa ka Ma hb9a hba;rintro LB wB⟨vqB,l1',l2',l9',l10',NB,OB,B9,B10,QB,kB,MB,zB⟩;refine wp_block<|lpM w0.heap.size (I:=fun m' L' W=>∃(H f:_)(Y:Ar 40 Int)(q:List Int)(vq:Value),ADh n K Lf Rt en m' H f Y q=some r/\L' 1=.pointer (some ⟨b1,0,none⟩)/\L' 2=.pointer (some ⟨b2,0,none⟩)/\L' 9=.pointer (some ⟨b9,0,none⟩)/\L' 10=.pointer (some ⟨b10,0,none⟩)/\Nf N z W b n K Lf Rt f H/\FO w0.heap.size W b b1 b2 ve en/\Bx W b9 364 (List.flatMap Flat.enc Y.l)/\Bx W b10 41 [vq]/\Que 3 wa.heap.size W vq q/\BelP (fun q=>q≠b/\q≠z) w0.heap.size w0 W/\wa.heap.size<=W.heap.size) F MB
  ⟨p.2,p.1,Y,q0,vqB,hF,l1',l2',l9',l10',NB,OB,B9,B10,QB,kB,zB⟩ ?_
 clear l1' l2' l9' l10' NB OB B9 B10 QB kB hF;rintro m' L' D' w hM⟨H,f,Y,q,vq,hB,l1',l2',l9',l10',Nw,Ow,B9,B10,Q,kw,zw⟩;rcases m' with _|m'
 ·rw[ADh]at hB;cases hB
 have hz:=Q.sl;obtain⟨aq,cq,rfl⟩:=hz;refine wp_seq<|Zr<|Zv (AP l10' Le ((Bx.cs B10).at 0 rfl))<|Zv (Kz rfl Tryz.underlying41)<|Zv (xU rfl rfl)<|nl<|cnd rfl (fun hc=>?_) (fun hc=>?_)
 ·cases q with
  |nil=>simp at hc
  |cons kk q=>
   rw[ADh]at hB;refine bS hB fun sF Er hB=>bS hB fun yF EyF hB=>?_;have hz:=Els.ix Q.rv.els (show ix (kk::q) 0=some kk from rfl);obtain⟨bq,offq,cs9,rfl,i5,i6,q5,hcE⟩:=hz;obtain rfl:=Flat.iff.1 q5;have hz:=Q.drop Tryz.underlying41 Ap;obtain⟨a',c',Q2,ho2,hx2'⟩:=hz;refine wp_skip<|wp_block<|Zr<|Zv (AP l10' Le ((Bx.cs B10).at 0 rfl))<|Zv (Dq rfl rfl Tryz.underlying41 Ap i5 i6)<|Zv (AP rfl Ap (hcE.at 0 rfl))<|yY Ap fun b12 wc hxc hgc hbc=>xk rfl rfl rfl Ap hbc rfl rfl (ble rfl) fun wd hchd hbd=>nl<|?_;have kxd:Ext w wd:=hxc.chg hchd hgc;have B12:Bx wd b12 3 [.int .i64 kk]:=hbd;have sd:=kxd.size;have l12:=B12.lt;have Nd:=Nw.ext kxd;have Od:=Ow.ext kxd;have D9:=B9.ext kxd;have D10:=B10.ext kxd;have Qd:=Q2.ext kxd;have kd:=kw.ext kxd (by omega);have Md:=hM.ext kxd;refine Zr<|Zv (AP l10' Le ((Bx.cs D10).at 0 rfl))<|Zv (hx2' _ _ _ _ _ _ _ _ _ _ rfl rfl)<|xk l10' rfl rfl Le D10 rfl rfl (ble rfl) fun we hche hbe=>nl<|?_;have se:=hche.size;have Ne:=Nd.chgo hche (by omega);have Oe:=Od.chg hche (by omega) (by omega) (fun e=>by have:=hown _ e.symm;omega);have E9:=D9.chg hche (by omega);have E12:=B12.chg hche (by omega);have E10:Bx we b10 41 [.slice a' q.length c']:=hbe;have Qe:=Qd.chgo hche l10;have ke:=kd.chg hche (.inl (by omega));have Me:=Md.chg hche D10.nd;clear Nd Od D9 D10 Qd kd Md hbd hbc;refine wp_seq<|Zr<|Zv (AP l1' yU ((Bx.cs Oe.x1).at 0 rfl))<|Zv (AP rfl Ap ((Bx.cs E12).at 0 rfl))<|Zc (xc AIq (mc rfl (mc rfl mn))) AMH fun u w7' hu=>?_;obtain⟨hwy,hx7'⟩:=hu;have s7':=hx7'.size;have N7:=Ne.ext hx7';have hz:=N7;obtain⟨_,_,_,_,_,_,_,_,_,m7,_⟩:=hz;refine nl<|wp_block<|rangeB (α:=Qw) (xs:=G5 K kk) (m:=9) (by decide) rfl (KpOk.belp (ok:=fun q=>(q<N/\q≠z)\/we.heap.size<=q)) (hwy.goz (N:=N) m7 (.inl ⟨by omega,by omega⟩) (fun q h _ h2=>.inl ⟨h,h2⟩) (fun q h1 _=>.inr h1) 8) rfl rfl rfl bF rfl
    (fun j V=>∃(s:FlS)(vq:Value),ADA n K Lf Rt en H kk ((G5 K kk).drop j) s=some sF/\Nf N z V b n K Lf Rt s.1 H/\FO w0.heap.size V b b1 b2 ve en/\Bx V b9 364 (List.flatMap Flat.enc s.2.1.l)/\Bx V b10 41 [vq]/\Bx V b12 3 [.int .i64 kk]/\Que 3 wa.heap.size V vq s.2.2/\Out w.heap.size w7'.heap.size vq/\BelP (fun q=>q≠b/\q≠z) w0.heap.size w0 V/\Mks w0.heap.size D' V/\w7'.heap.size<=V.heap.size) (fun _ _=>False)
    (fun j=>Okb.ex fun _=>Okb.ex fun _=>Okb.pure.and ((Okb.nf (by omega)).and (Okb.fo.and (Okb.bx.and (Okb.bx.and (Okb.bx.and (Okb.que.and (Okb.pure.and ((Okb.belp (Nat.le_refl _) (by omega)).and ((Okb.mks (Me.ext hx7') rfl).and Okb.size)))))))))) (fun c=>Okb.pure)
    ⟨(f,Y,q),_,Er,N7,Oe.ext hx7',E9.ext hx7',E10.ext hx7',E12.ext hx7',Qe.ext hx7',fun g hg=>.inl (Q2.lt g hg).2,ke.ext hx7' (by omega),Me.ext hx7',Nat.le_refl _⟩ ?round (fun j A h=>by obtain⟨_,_,_,_,_,_,_,_,_,_,_,_,h⟩:=h;exact h) ?done (fun _ _ _ _ h _=>h.elim)
   case done=>
    clear Qe E9 E10 E12 ke N7 Ne Oe;rintro DD V hD⟨s,vqV,hB3,NV,OV,V9,V10,V12,QV,-,kV,MV,zV⟩ hK;rw[List.drop_length,ADA]at hB3;cases hB3;have MV':=Mks.cons (Me.ext hx7') MV (by omega) hD hK;have hz:=yZ (Bx.cs V9) EyF;obtain⟨j1,j2,hco⟩:=hz;have hz:=QV.sl;obtain⟨aV,cV,rfl⟩:=hz;refine Zr<|Zv (AP rfl Ap ((Bx.cs V12).at 0 rfl))<|Zv (xW l9' rfl Tryz.underlying364 Bh j1 j2)<|Zv (AP rfl Bh (hco.at 0 rfl))<|Zv (xU rfl rfl)<|nl<|cnd rfl (fun hg=>?_) (fun hg=>?_)
    ·have hB:=Cj hB hg
     refine bS hB fun H2 EH2 hB=>bS hB fun q2 Eq2 hB=>Zr<|Zv (AP l1' yU ((Bx.cs OV.x1).at 0 rfl))<|Zv (AP rfl Ap ((Bx.cs V12).at 0 rfl))<|Zc (xc ASW (mc rfl (mc rfl mn))) (AUT NV EH2) ?_;rintro _ wg⟨rfl,Ng,beg⟩;have sg:=beg.size;have Og:=OV.belp beg (by omega) (by omega) (fun q hq=>by have:=hown q hq;omega);have G10:=V10.belp beg V10.lt (by omega);have G9:=V9.belp beg V9.lt (by omega);have G12:=V12.belp beg V12.lt (by omega);have Qg:=QV.belp beg fun q hq=>⟨(QV.lt q hq).2,by have:=(QV.lt q hq).1;omega⟩;have kg:=kV.trans (beg.weak fun q h1 h2=>⟨by omega,h2.1⟩);have Mg:=MV'.belp beg fun q h1=>by omega
     refine nl<|rg<|Zv (AP l10' Le ((Bx.cs G10).at 0 rfl))<|Zv (AP rfl Ap ((Bx.cs G12).at 0 rfl))<|AAR (cs:=[.int .i64 kk]) Tryz.underlying41 Ap rfl (pc rfl pn) rfl rfl rfl rfl rfl fun bo wb hxb hgb hbb=>?_;have ob:Row (α:=Int) 3 _ wb (.slice (some ⟨bo,0,none⟩) 1 1) [kk]:=Row.lit hgb hbb rfl (ble rfl);have sb:=hxb.size;refine AJf (l:=sF.2.2) (k:=([kk]:List Int)) rfl rfl Tryz.underlying41 Ap rfl rfl (Qg.ext hxb) (RV.els ob.rv) (Nat.le_refl _) Eq2 (by omega) fun v9 wf qf hBf hgf hwf=>?_;have sf:=hBf.size;have t9:=(G9.ext hxb).below hBf (by omega);have t10:=(G10.ext hxb).below hBf l10;have bef:BelP (fun _=>True) wa.heap.size wb wf:=⟨hBf.os,hBf.tape,hBf.output,hBf.size,fun q hq _=>hBf.block q hq⟩;have tN:=(Ng.ext hxb).belp bef (by omega) trivial trivial (fun _ _ _ _=>trivial);have tO:=(Og.ext hxb).blw hBf (by omega) (by omega) (fun q hq=>by rw[hown q hq];omega);have tk:=(kg.ext hxb (by omega)).trans (bef.weak fun q h1 _=>⟨by omega,trivial⟩);have tM:=(Mg.ext hxb).gr hgf fun g hg=>by
      obtain⟨o',h1,h2⟩:=(Qg.ext hxb).isc g hg;exact⟨o',h1,fun ds e=>by subst e;cases h2⟩
     have hz:=qf.sl;obtain⟨av,cv,rfl⟩:=hz;refine xk l10' rfl rfl Le t10 rfl rfl (ble rfl) fun wC hchC hbC=>nl<|lqM m' (Nat.lt_succ_self _) (tM.chg hchC t10.nd) ⟨H2,sF.1,sF.2.1,q2,_,hB,l1',l2',l9',l10',tN.chgo hchC (by omega),tO.chg hchC (by omega) (by omega) (fun e=>by have:=hown _ e.symm;omega),t9.chg hchC (by omega),hbC,qf.chgo hchC l10,tk.chg hchC (.inl (by omega)),by rw[hchC.size];omega⟩
    ·have hB:=DF hB hg
     exact wp_skip (lqM m' (Nat.lt_succ_self _) MV' ⟨H,sF.1,sF.2.1,sF.2.2,_,hB,l1',l2',l9',l10',NV,OV,V9,V10,QV,kV,by omega⟩)
   case round=>
    clear hB EyF Er Qe E9 E10 E12 ke N7 Ne Oe;rintro ll j x A V bb hu⟨s,vq,hB,NV,OV,V9,V10,V12,QV,hO,kV,MV,zV⟩ hAs hb1' hb2' hbx;obtain⟨f,Y,q⟩:=s;rw[AGI hu,ADA]at hB;refine bS hB fun yk Eyk hB=>?_;have hz:=bs hB;obtain⟨lf',Elf,hB⟩:=hz;have Eyk:ix Y.l kk=some yk:=Eyk;have NV:Nf N z A b n K Lf Rt f H:=NV;have hqb:some bb≠vq.ownBlock:=fun e2=>by have:=(QV.lt bb e2.symm).2;omega
    have hq12:some b12≠vq.ownBlock:=fun e2=>by rcases hO b12 e2.symm with h3|h3<;>omega
    have NV:=NV.asg hAs (show N<=w7'.heap.size by omega);have OV:=OV.asg hAs;have V9:Bx V b9 364 (List.flatMap Flat.enc Y.l):=Bx.asg V9 hAs;have V10:=V10.asg hAs;have V12:=V12.asg hAs;have QV:Que 3 wa.heap.size V vq q:=Que.asg QV hAs;have kV:=kV.asg hAs (Nat.le_trans (show w0.heap.size<=w7'.heap.size by omega) zV) (show w0.heap.size<=w7'.heap.size by omega);have MV:=MV.asg hAs;have zV:w7'.heap.size<=V.heap.size:=Nat.le_trans zV hAs.size;have hz:=QV.sl;obtain⟨aV,cV,rfl⟩:=hz;refine wpIn_block<|wpIn_seq<|AGe [] (.pure false 0 (.pure true 1 (.pure false 2 (.pure false 3 (.pure false 4 (.eff 5 (.pure true 6 (.pure true 7 .fin)) .stop)))))) mixed (by kernel_rfl) (fun wd1 hxd1=>?_);have sd1:=hxd1.size;have N1:=NV.ext hxd1;have O1:=OV.ext hxd1;have P9:=V9.ext hxd1;have P12:=V12.ext hxd1;have px:=hbx.ext hxd1;have hz:=yZ (Bx.cs P9) Eyk;obtain⟨j1,j2,hco⟩:=hz;have hz:=N1.rep;obtain⟨csr,hr1,hr2⟩:=hz;refine Zq rfl (fun _ hS=>AP rfl Ap ((Bx.cs (P12.ext (hS.resolve_left nofun))).at 0 rfl)) (Ext.refl _)<|Zp rfl (fun _=>xW l9' rfl Tryz.underlying364 Bh j1 j2)<|Zq rfl (fun _ hS=>AP rfl Bh ((hco.ext (hS.resolve_left nofun)).at 0 rfl)) (Ext.refl _)<|Zq rfl (fun _ hS=>AP l1' yU ((Bx.cs (O1.x1.ext (hS.resolve_left nofun))).at 0 rfl)) (Ext.refl _)<|Zq rfl (fun _ hS=>Jq rfl bF rfl (Bx.cs (px.ext (hS.resolve_left nofun)))) (Ext.refl _)<|pe1 rfl<|Zc (xc AGy (mc rfl (mc rfl mn))) (AJg hr1 hr2 (x1:=x) (v1:=.agg (Flat.enc x).toArray) ⟨_,rfl,Flat.iff.2 rfl⟩ Elf) ?_;rintro _ w8⟨rfl,hx8⟩;refine nl ⟨fun _ _=>hx8,?_⟩;refine Zp rfl (fun _=>AQE rfl rfl)<|Zp rfl (fun _=>xas)<|?_;have kx8:=hxd1.tr hx8;have s8:=kx8.size;have N8:=NV.ext kx8;have O8:=OV.ext kx8;have A9:=V9.ext kx8;have A10:=V10.ext kx8;have A12:=V12.ext kx8;have Q8:=QV.ext kx8;have k8:=kV.ext kx8 (by omega);have M8:=MV.ext kx8;have ax:=hbx.ext kx8;have be8:BelP (fun q=>(q<N/\q≠z)\/we.heap.size<=q) w7'.heap.size V w8:=BelP.of kx8 zV;have kf8:KeepsFrom w7'.heap.size V w8:=kx8.kf;clear N1 O1 P9 P12 px hr1 hr2 hco;generalize hmu:(if lf'<yk then lf' else yk)=mu at hB;refine Or.elim (Bool.eq_false_or_eq_true (decide (0<mu))) (fun hm=>?_) (fun hm=>?_)
    rotate_left
    ·have hB:=DF hB hm
     refine wpIn_seq<|AGe [] (.pure true 0 (.pure true 1 (.pure true 2 (.pure false 3 (.pure false 4 (.pure true 5 (.pure true 6 (.pure true 7 (.pure false 8 (.pure false 9 (.pure true 10 (.pure false 11 (.pure true 12 (.pure true 13 (.pure true 14 (.pure false 15 (.pure true 16 (.pure true 17 (.pure true 18 .fin))))))))))))))))))) mixed (by kernel_rfl) (fun we2 hxe2=>?_);have s82:=hxe2.size;refine Zn rfl<|Zp rfl (fun _=>xU rfl rfl)<|Zn rfl<|Yh rfl (Gi hm) (Ext.refl _)<|Yh rfl (Gi hm) (Ext.refl _)<|Yf rfl (Gi hm)<|Yf rfl (Gi hm)<|Yf rfl (Gi hm)<|Yh rfl (Gi hm) (Ext.refl _)<|Yh rfl (Gi hm) (Ext.refl _)<|Yf rfl (Gi hm)<|Yh rfl (Gi hm) (Ext.refl _)<|Yf rfl (Gi hm)<|Yf rfl (Gi hm)<|Yf rfl (Gi hm)<|Yh rfl (Gi hm) (Ext.refl _)<|Yf rfl (Gi hm)<|Yf rfl (Gi hm)<|Zp rfl (fun _=>yH rfl hm rfl)<|AEX rfl (fun h=>by cases h) (fun _=>?_);exact wpIn_skip ⟨kf8.ext hxe2,be8.ext hxe2 (by omega),(f,Y,q),_,hB,N8.ext hxe2,O8.ext hxe2,A9.ext hxe2,A10.ext hxe2,A12.ext hxe2,Q8.ext hxe2,hO,k8.ext hxe2 (by omega),M8.ext hxe2,by omega⟩
    have hB:=Cj hB hm;refine bS hB fun hk Ehk hB=>bS hB fun ht Eht hB=>wpIn_seq<|AGe [] (.pure true 0 (.pure true 1 (.pure true 2 (.pure false 3 (.pure false 4 (.pure true 5 (.pure true 6 (.pure true 7 (.pure false 8 (.pure false 9 (.pure true 10 (.pure false 11 (.pure true 12 (.pure true 13 (.pure true 14 (.pure false 15 (.pure true 16 (.pure true 17 (.pure true 18 .fin))))))))))))))))))) mixed (by kernel_rfl) (fun we2 hxe2=>?_);have s82:=hxe2.size;have N2:=N8.ext hxe2;have O2:=O8.ext hxe2;have E12:=A12.ext hxe2;have ex:=ax.ext hxe2;have hz:=N2;obtain⟨_,_,_,_,_,_,_,_,_,m9,_⟩:=hz;have hz:=yZ m9.part Ehk;obtain⟨g1,g2,hcg⟩:=hz;have hz:=yZ m9.part Eht;obtain⟨t1,t2,hct⟩:=hz;refine Zn rfl<|Zp rfl (fun _=>xU rfl rfl)<|Zn rfl<|Yi rfl (bt hm) (fun _ hS=>AP l1' yU ((Bx.cs (O2.x1.ext (hS.resolve_left nofun))).at 0 rfl)) (Ext.refl _)<|Yi rfl (bt hm) (fun _ hS=>AP rfl Ap ((Bx.cs (E12.ext (hS.resolve_left nofun))).at 0 rfl)) (Ext.refl _)<|Yt rfl (bt hm) (fun _=>tX rfl)<|Yt rfl (bt hm) (fun _=>BA rfl AEm)<|Yt rfl (bt hm) (fun _=>xW rfl rfl Tryz.underlying259 Ap g1 g2)<|Yi rfl (bt hm) (fun _ hS=>AP rfl Ap ((hcg.ext (hS.resolve_left nofun)).at 0 rfl)) (Ext.refl _)<|Yi rfl (bt hm) (fun _ hS=>AP l1' yU ((Bx.cs (O2.x1.ext (hS.resolve_left nofun))).at 0 rfl)) (Ext.refl _)<|Yt rfl (bt hm) (fun _=>BA rfl ABM)<|Yi rfl (bt hm) (fun _ hS=>AP rfl Ap ((Bx.cs (ex.ext (hS.resolve_left nofun))).at 1 rfl)) (Ext.refl _)<|Yt rfl (bt hm) (fun _=>tX rfl)<|Yt rfl (bt hm) (fun _=>BA rfl AEm)<|Yt rfl (bt hm) (fun _=>xW rfl rfl Tryz.underlying259 Ap t1 t2)<|Yi rfl (bt hm) (fun _ hS=>AP rfl Ap ((hct.ext (hS.resolve_left nofun)).at 0 rfl)) (Ext.refl _)<|Yt rfl (bt hm) (fun _=>FH rfl rfl)<|Yt rfl (bt hm) (fun _=>zL rfl rfl)<|Zp rfl (fun _=>wI rfl hm rfl)<|?_;have C9:=A9.ext hxe2;have C10:=A10.ext hxe2;have Q2:=Q8.ext hxe2;have k2:=k8.ext hxe2 (by omega);have M2:=M8.ext hxe2;have be2:=be8.ext hxe2 (by omega);have kf2:=kf8.ext hxe2;clear N8 O8 A9 A10 A12 Q8 k8 M8 ax be8 kf8 hcg hct m9;refine AEX rfl (fun hg=>?_) (fun hg=>?_)
    rotate_left
    ·have hB:=DF hB hg
     exact wpIn_skip ⟨kf2,be2,(f,Y,q),_,hB,N2,O2,C9,C10,E12,Q2,hO,k2,M2,by omega⟩
    have hB:=Cj hB hg;refine bS hB fun f2 Ef2 hB=>?_;have hz:=bs hB;obtain⟨e,Ee',hB⟩:=hz;refine bS hB fun yt Eyt hB=>bS hB fun q2 Eq2 hB=>bS hB fun y2 Ey2 hB=>?_;have Eyt:ix Y.l x.2.1=some yt:=Eyt;refine wpIn_seq<|rgR rfl<|Zv (AP l1' yU ((Bx.cs O2.x1).at 0 rfl))<|Zv (Jq rfl bF rfl (Bx.cs ex))<|Zm<|Zc (xc AOv (mc rfl (mc rfl (mc rfl mn)))) (ARP N2 Ef2) ?_;rintro _ w3⟨rfl,N3,be3⟩;have s33:=be3.size;have O3:=O2.belp be3 (by omega) (by omega) (fun q hq=>by have:=hown q hq;omega);have F9:=C9.belp be3 C9.lt (by omega);have F10:=C10.belp be3 C10.lt (by omega);have F12:=E12.belp be3 E12.lt (by omega);have fx:=ex.belp be3 ex.lt (by omega);have Q3:=Q2.belp be3 fun q hq=>⟨(Q2.lt q hq).2,by have:=(Q2.lt q hq).1;omega⟩;have k3:=k2.trans (be3.weak fun q h1 h2=>⟨by omega,h2.2⟩);have M3:=M2.belp be3 fun q h1=>by omega
    have beV:=be2.trans (be3.weak fun q h1 h2=>⟨by omega,by omega⟩);have kfV:=kf2.trans (be3.kf fun q h1=>by omega);clear N2 O2 C9 C10 E12 ex Q2 k2 M2 be2 kf2;refine nl<|wpIn_seq ?_;have hel:=hown2 _ _ O3.re;have hz:=vX Ee';obtain⟨i1,i2,-⟩:=hz;refine ctR (fun L' W=>∃vq2,L' 9=.pointer (some ⟨b9,0,none⟩)/\L' 12=.pointer (some ⟨b12,0,none⟩)/\L' 13=.pointer (some ⟨bb,0,none⟩)/\L' 14=.int .i64 mu/\Nf N z W b n K Lf Rt f2 H/\FO w0.heap.size W b b1 b2 ve en/\Bx W b9 364 (List.flatMap Flat.enc Y.l)/\Bx W b10 41 [vq2]/\Bx W b12 3 [.int .i64 kk]/\Bx W bb 266 (Flat.enc x)/\Que 3 wa.heap.size W vq2 q2/\Out w.heap.size w7'.heap.size vq2/\BelP (fun q=>q≠b/\q≠z) w0.heap.size w0 W/\Mks w0.heap.size D' W/\BelP (fun q=>(q<N/\q≠z)\/we.heap.size<=q) w7'.heap.size V W/\KeepsFrom w7'.heap.size V W/\w7'.heap.size<=W.heap.size) ?_ ?_
    ·have hz:=yZ (Bx.cs F9) Eyt;obtain⟨j1',j2',hcy⟩:=hz
     have hvq:∀(q':List Int),q'=q2->Que 3 wa.heap.size w3 (.slice aV q.length cV) q'->Que 3 wa.heap.size w3 (.slice aV q.length cV) q2:=fun q' e h=>e▸h;have hst:∃csb',Bx w3 b2 41 csb'/\∃be' len',csb'=[.slice (some ⟨be',0,none⟩) len' len']/\x.2.1<(len':Int)/\Cs w3 be' (0+x.2.1.toNat*1) [.int .i64 e]:=by
      subst hve;have hz:=ix2 O3.re.rv Ee';obtain⟨cse,-,-,qe,hce⟩:=hz;obtain rfl:=Flat.iff.1 qe;exact⟨_,O3.x2,_,_,rfl,by omega,hce⟩
     obtain⟨csb',hb2v,be',len',rfl,hxl,hce⟩:=hst;refine wpIn_seq<|rgR rfl<|Zv (AP l2' Le ((Bx.cs hb2v).at 0 rfl))<|Zv (BA rfl ABM)<|Zv (AP rfl Ap ((Bx.cs fx).at 1 rfl))<|Zv (Dq rfl rfl Tryz.underlying41 Ap i1 hxl)<|Zv (AP rfl Ap (hce.at 0 rfl))<|Zv (zL rfl rfl)<|Zm<|Or.elim (Bool.eq_false_or_eq_true (decide (e=0))) (fun he=>?_) (fun he=>?_)
     ·have Eq2:=Cj Eq2 he
      refine Gt rfl (bt he)<|Zv (BA rfl ABM)<|Gt rfl (bt he)<|Zv (AP rfl Ap ((Bx.cs fx).at 1 rfl))<|Gt rfl (bt he)<|Zv (xW l9' rfl Tryz.underlying364 Bh j1' j2')<|Gt rfl (bt he)<|Zv (AP rfl Bh (hcy.at 0 rfl))<|Gt rfl (bt he)<|Zv (zL rfl rfl)<|Zv (wI rfl he rfl)<|nl<|AEX rfl (fun hy=>?_) (fun hy=>?_)
      ·have Eq2:=Cj Eq2 hy
       refine rgR rfl<|Zv (AP l10' Le ((Bx.cs F10).at 0 rfl))<|Zv (BA rfl ABM)<|Zv (AP rfl Ap ((Bx.cs fx).at 1 rfl))<|AAR (cs:=[.int .i64 x.2.1]) Tryz.underlying41 Ap rfl (pc rfl pn) rfl rfl rfl rfl rfl fun bo wb hxb hgb hbb=>?_;have ob:Row (α:=Int) 3 _ wb (.slice (some ⟨bo,0,none⟩) 1 1) [x.2.1]:=Row.lit hgb hbb rfl (ble rfl);have sb:=hxb.size;have Qb:=Q3.ext hxb;refine AJf (l:=q) (k:=([x.2.1]:List Int)) rfl rfl Tryz.underlying41 Ap rfl rfl Qb (RV.els ob.rv) (Nat.le_refl _) Eq2 (by omega) fun v9 wf qf hBf hgf hwf=>?_;have sf:=hBf.size;have bef:BelP (fun _=>True) wa.heap.size wb wf:=⟨hBf.os,hBf.tape,hBf.output,hBf.size,fun q hq _=>hBf.block q hq⟩;have l12b:=F12.lt;have lbb:=fx.lt;have t9:=(F9.ext hxb).below hBf (by omega);have t10:=(F10.ext hxb).below hBf l10;have t12:Bx wf b12 3 [.int .i64 kk]:=(hgf.block b12 (by omega) hq12).trans (F12.ext hxb);have tbb:Bx wf bb 266 (Flat.enc x):=(hgf.block bb (by omega) hqb).trans (fx.ext hxb);have tN:=(N3.ext hxb).belp bef (by omega) trivial trivial (fun _ _ _ _=>trivial);have tO:=(O3.ext hxb).blw hBf (by omega) (by omega) (fun q hq=>by rw[hown q hq];omega);have tk:=(k3.ext hxb (by omega)).trans (bef.weak fun q h1 _=>⟨by omega,trivial⟩);have tM:=(M3.ext hxb).gr hgf fun g hg=>by
        obtain⟨o',h1,h2⟩:=Qb.isc g hg;exact⟨o',h1,fun ds e=>by subst e;cases h2⟩
       have tOut:Out w.heap.size w7'.heap.size v9:=hO.app hwf (by omega);have tbe:=(beV.ext hxb (by omega)).gr hgf (by omega) fun g hg=>by
        have h1:=(Q3.lt g hg).1;rcases hO g hg with h2|h2
        ·exact .inr (by omega)
        ·exact .inl h2
       have tkf:=(kfV.ext hxb).grc hgf fun g hg=>Qb.isc g hg;have hz:=qf.sl;obtain⟨av,cv,rfl⟩:=hz;refine xk l10' rfl rfl Le t10 rfl rfl (ble rfl) fun wC hchC hbC=>nl<|lf ⟨_,l9',rfl,rfl,rfl,tN.chgo hchC (by omega),tO.chg hchC (by omega) (by omega) (fun e=>by have:=hown _ e.symm;omega),t9.chg hchC (by omega),hbC,t12.chg hchC (by omega),tbb.chg hchC (by omega),qf.chgo hchC l10,tOut,tk.chg hchC (.inl (by omega)),tM.chg hchC t10.nd,tbe.chg hchC (.inr (by omega)),tkf.chgc hchC (.inl (by omega)),by rw[hchC.size];omega⟩
      ·have Eq2:=DF Eq2 hy
       cases Eq2;exact wpIn_skip (lf ⟨_,l9',rfl,rfl,rfl,N3,O3,F9,F10,F12,fx,Q3,hO,k3,M3,beV,kfV,by omega⟩)
     ·have Eq2:=DF Eq2 he
      cases Eq2;refine Gk rfl (Gi he)<|Gk rfl (Gi he)<|Gk rfl (Gi he)<|Gk rfl (Gi he)<|Gk rfl (Gi he)<|Zv (yH rfl he rfl)<|nl<|AEX rfl (fun h=>by cases h) (fun _=>?_);exact wpIn_skip (lf ⟨_,l9',rfl,rfl,rfl,N3,O3,F9,F10,F12,fx,Q3,hO,k3,M3,beV,kfV,by omega⟩)
    clear N3 O3 F9 F10 F12 fx Q3 k3 M3 beV kfV;rintro L4 w4'⟨vq2,l9'',l12',l13',l14',N4,O4,G9,G10,G12,gx,Q4,hO4,k4',M4,beW,kfW,zW⟩;have hz:=yZ (Bx.cs G9) Eyk;obtain⟨j1',j2',hco⟩:=hz;have l12b:=G12.lt;refine wpIn_seq<|rgR rfl<|Zv (AP l12' Ap ((Bx.cs G12).at 0 rfl))<|Zv (xW l9'' rfl Tryz.underlying364 Bh j1' j2')<|Zv (AP rfl Bh (hco.at 0 rfl))<|Zv (FY l14')<|Zv (AB4 rfl rfl)<|Zv (xW l9'' rfl Tryz.underlying364 Bh j1' j2')<|AFX (X:=Y) (v:=(BH (yk-mu):Int)) rfl rfl rfl Bh G9 Eyk fun w5' hch5 hb5=>nl<|?_;have s5':=hch5.size;have gx5:=gx.chg hch5 (by omega);have Ey2:ix (vZ Y kk (BH (yk-mu))).l x.2.1=some y2:=Ey2;have hz:=yZ (Bx.cs hb5) Ey2;obtain⟨j3,j4,hcp⟩:=hz;refine rgR rfl<|Zv (BA l13' ABM)<|Zv (AP rfl Ap ((Bx.cs gx5).at 1 rfl))<|Zv (xW l9'' rfl Tryz.underlying364 Bh j3 j4)<|Zv (AP rfl Bh (hcp.at 0 rfl))<|Zv (FY l14')<|Zv (FH rfl rfl)<|Zv (xW l9'' rfl Tryz.underlying364 Bh j3 j4)<|AFX (X:=vZ Y kk (BH (yk-mu))) (v:=(BH (y2+mu):Int)) rfl rfl rfl Bh hb5 Ey2 fun w6' hch6 hb6=>nl<|?_;have s6':=hch6.size;have oe9:∀q,ve.ownBlock=some q->q≠b9:=fun q hq=>by have:=hown q hq;omega
    refine⟨(kfW.chgc hch5 (.inl (by omega))).chgc hch6 (.inl (by omega)),(beW.chg hch5 (.inr (by omega))).chg hch6 (.inr (by omega)),(f2,vZ (vZ Y kk (BH (yk-mu))) x.2.1 (BH (y2+mu)),q2),vq2,hB,(N4.chgo hch5 (by omega)).chgo hch6 (by omega),?_,hb6,(G10.chg hch5 (by omega)).chg hch6 (by omega),(G12.chg hch5 (by omega)).chg hch6 (by omega),(Q4.chgo hch5 (by omega)).chgo hch6 (by omega),hO4,(k4'.chg hch5 (.inl (by omega))).chg hch6 (.inl (by omega)),(M4.chg hch5 G9.nd).chg hch6 hb5.nd,by omega⟩;exact(O4.chg hch5 (by omega) (by omega) fun e=>oe9 _ e.symm rfl).chg hch6 (by omega) (by omega) fun e=>oe9 _ e.symm rfl
 ·have hq:q=[]:=by
   cases q with
   |nil=>rfl
   |cons _ _=>simp at hc
  subst hq;rw[ADh]at hB;cases hB;exact wp_exit<|AQZ rfl hM fun w' hk=>⟨[],.nil,rfl,Nw.belp (ok:=fun _=>True) ⟨hk.os,hk.tape,hk.output,by rw[hk.size];exact Nat.le_refl _,fun q hq _=>hk.low q hq⟩ hlt.2.2.2 trivial trivial (fun _ _ _ _=>trivial),kw.tak hk (Nat.le_refl _)⟩
abbrev Nl:=Int×List oG×List Int×List Int
def AAK(F:Nat)(x0:Nl):Option (Int×List Int×Ar 40 Int):=
 (AD4 F x0)>>=fun p=>
 if(!decide (p.1=0))=true then some (p.1,[],Ar.fill 40 0)
 else(ADK F x0.1 x0.2.1 x0.2.2.1 x0.2.2.2 p.2 (Ar.fill 40 0))>>=fun q=>some (0,q.1,q.2)
theorem AOV{w0:World}{v0:Value}{x0:Nl}(r0:RV w0 v0 x0){F:Nat}{r:Int×List Int×Ar 40 Int}(hF:AAK F x0=some r):
  Calls Tryz.prog 160 [v0].toArray w0 (IA fun v w'=>∃u:Value,v=.tuple #[u,.int .i64 r.1]/\Ext w0 w'/\((r.1≠0/\u=.pointer none)\/(r.1=0/\∃N b z,u=.pointer (some ⟨b,0,none⟩)/\Nf N z w' b x0.1 x0.2.1 x0.2.2.1 x0.2.2.2 r.2.1 r.2.2))):=by
 unfold AAK at hF;refine bS hF fun p Eo hF=>?_;have r0':=r0;have hz:=id r0;obtain⟨_,rfl,_,_,rfl,rfl,_,_,rfl,⟨a1,cq1,rfl,p1,q3,e1⟩,_,_,rfl,⟨a2,cq2,rfl,p2,q4,e2⟩,a3,cq3,rfl,p3,q5,e3⟩:=hz;refine I9 (n:=17) Tryz.func160 rfl rfl rfl<|Zr<|yX rfl rfl fun b1 w1 hx1 hg1 hb1=>Za<|Za<|nl<|Zr<|Zv (Jq rfl AA0 rfl (Bx.cs hb1))<|Zc (xc AR6 (mc rfl (mc rfl mn))) (AUN (r0'.ext hx1) (RVo.nil (Nat.zero_le _)) Eo) ?_;rintro _ w2⟨u,rfl,hx2,hu⟩;have k2:=hx1.tr hx2;have s1:=hx1.size;have s2:=hx2.size;refine Zm<|Zv (xC rfl rfl)<|Zv (xC rfl rfl)<|Za<|Za<|nl<|wp_seq<|Zr<|Zm<|Zv (wO rfl rfl)<|nl<|cnd rfl (fun h3=>?_) (fun h3=>?_)
 ·have hF:=Cj hF h3
  cases hF;exact Zr<|Zm<|Za<|Za<|nl<|wp_ret<|rt rfl (.tmp rfl rfl (.tmp rfl rfl .nil)) ⟨_,rfl,k2,.inl ⟨by simpa using h3,rfl⟩⟩
 have hF:=DF hF h3;have h30:p.1=0:=by simpa using h3
 refine bS hF fun q Ef hF=>?_;cases hF;rcases hu with⟨h,_⟩|⟨_,b,zf,rfl,hgb,hgz,hNf⟩
 ·exact absurd h30 h
 refine wp_skip<|Zr<|Zm<|Zc (xc ASG (mc rfl mn)) (AUY hNf Ef) ?_;rintro _ w3⟨rfl,hN3,bZ⟩;have kZ:Ext w0 w3:=k2.trans ⟨bZ.os,bZ.tape,bZ.output,bZ.size,fun q hq=>bZ.block q (by omega) ⟨by omega,by omega⟩⟩;exact nl<|Zr<|Zm<|Za<|Za<|nl<|wp_ret<|rt rfl (.tmp rfl rfl (.tmp rfl rfl .nil)) ⟨_,rfl,kZ,.inr ⟨rfl,_,b,zf,rfl,hN3⟩⟩
def ACO(F:Nat)(x0:Nl):Option (List Int×Int):=
 (AAK F x0)>>=fun p=>
 if(!decide (p.1=0))=true then some ([],p.1)
 else(mks 8 (p.2.1.length:Int) (0:Int))>>=fun o=>some (ADY o p.2.1,0)
theorem c75{w0:World}{v0:Value}{x0:Nl}(r0:RV w0 v0 x0){F:Nat}{r:List Int×Int}(hF:ACO F x0=some r):
  Calls Tryz.prog 75 [v0].toArray w0 (IA fun v w'=>∃u0:Value,v=.tuple #[u0,.int .i64 r.2]/\RV w' u0 r.1/\Ext w0 w'):=by
 unfold ACO at hF;refine bS hF fun p Eo hF=>?_;have r0':=r0;have hz:=id r0;obtain⟨_,rfl,_,_,rfl,rfl,_,_,rfl,⟨a1,cq1,rfl,p1,q3,e1⟩,_,_,rfl,⟨a2,cq2,rfl,p2,q4,e2⟩,a3,cq3,rfl,p3,q5,e3⟩:=hz;refine I9 (n:=28) Tryz.func75 rfl rfl rfl<|Zr<|yX rfl rfl fun b1 w1 hx1 hg1 hb1=>Za<|Za<|nl<|Zr<|Zv (Jq rfl AA0 rfl (Bx.cs hb1))<|Zc (xc ALC (mc rfl mn)) (AOV (r0'.ext hx1) Eo) ?_;rintro _ w2⟨u,rfl,hx2,hu⟩;have k2:=hx1.tr hx2;refine Zm<|Zv (xC rfl rfl)<|Zv (xC rfl rfl)<|Za<|Za<|nl<|wp_seq<|Zr<|Zm<|Zv (wO rfl rfl)<|nl<|cnd rfl (fun h3=>?_) (fun h3=>?_)
 ·have hF:=Cj hF h3
  cases hF;exact Zr<|Zm<|Za<|Za<|nl<|wp_ret<|rt rfl (.tmp rfl rfl (.tmp rfl rfl .nil)) ⟨_,rfl,RVo.nil (Nat.zero_le _),k2⟩
 have hF:=DF hF h3;have h30:p.1=0:=by simpa using h3
 refine bS hF fun o Em hF=>?_;cases hF;rcases hu with⟨h,_⟩|⟨_,N,b,zf,rfl,hNf⟩
 ·exact absurd h30 h
 have hl:=hNf.len;have hz:=id hNf;obtain⟨a1,c1,a2,c2,a3,c3,a4,c4,cf,M1,M2,M3,M4,M5,M6,M7⟩:=hz;refine wp_skip<|Zr<|Zm<|Zv (tX rfl)<|Zv (BA rfl ACG)<|Zv (AP rfl AFZ ((Bx.cs M1.bx).at 5 rfl))<|Zv (Kz rfl Tryz.underlying28)<|?_;rw[<-hl];refine AGf (α:=Int) (z0:=0) rfl rfl Tryz.underlying139 Bh rfl rfl rfl Em fun bd w3 hx3 o3=>Za<|nl<|?_;have N3:=hNf.ext hx3;have R3:=M5.ext hx3;rw[<-hl]at R3;refine Zr<|Zm<|Zm<|Zv (tX rfl)<|Zv (BA rfl ACG)<|Zv (AP rfl AFZ ((Bx.cs (M1.bx.ext hx3)).at 5 rfl))<|ATl (l:=o) (k:=p.2.1) rfl (by rw[hl];rfl) Tryz.underlying139 Bh o3 R3.rv fun w4 c4 hch4 R4=>nl<|?_;have hd1:w2.heap.size<=bd/\bd<w3.heap.size:=o3.lt bd rfl;have hlo:o.length=(ADY o p.2.1).length:=R4.rv.cap.1;have k4:Ext w0 w4:=(k2.tr hx3).chg hch4 (by have:=k2.size;omega);exact Zr<|Zm<|Za<|Za<|nl<|wp_ret<|rt rfl (.tmp rfl rfl (.tmp rfl rfl .nil)) ⟨_,rfl,R4.rv,k4⟩
theorem Nf.fnl{N z:Nat}{w:World}{b:Nat}{n:Int}{K:List oG}{Lf Rt f:List Int}{H:Ar 40 Int}(h:Nf N z w b n K Lf Rt f H):FnW w (.func (.func 162) ([.pointer (some ⟨b,0,none⟩)]:List Value).toArray ([]:List Value).toArray) (vz ((n,K,Lf,Rt),[],f,H)):=
 ⟨162,[.pointer (some ⟨b,0,none⟩)],[],rfl,AGy,fun W x r k hp=>by
  have hz:=(h.ext k).rep;obtain⟨csr,hr1,hr2⟩:=hz;exact AJg hr1 hr2 (x1:=x) (v1:=.agg (Flat.enc x).toArray) ⟨_,rfl,Flat.iff.2 rfl⟩ hp⟩
theorem Nf.fnk{N z:Nat}{w:World}{b:Nat}{n:Int}{K:List oG}{Lf Rt f:List Int}{H:Ar 40 Int}(h:Nf N z w b n K Lf Rt f H):FnW w (.func (.func 163) ([.pointer (some ⟨b,0,none⟩)]:List Value).toArray ([]:List Value).toArray) (AAS ((n,K,Lf,Rt),[],f,H)):=
 ⟨163,[.pointer (some ⟨b,0,none⟩)],[],rfl,AR2,fun W x r k hp=>by
  have hz:=(h.ext k).rep;obtain⟨csr,hr1,hr2⟩:=hz;exact AUP hr1 hr2 (x1:=x) (v1:=.agg (Flat.enc x).toArray) ⟨_,rfl,Flat.iff.2 rfl⟩ hp⟩
theorem Nf.reach{N z:Nat}{w:World}{b:Nat}{n:Int}{K:List oG}{Lf Rt f:List Int}{H:Ar 40 Int}(h:Nf N z w b n K Lf Rt f H){vf:Value}{fr:List Int}(rf:RV w vf fr){vw:Value}{lw:Qw->Option Int}(hl:FnW w vw lw){F:Nat}{r:List Qw}(hF:AAF F n K fr lw=some r):
  Calls Tryz.prog 161 [.pointer (some ⟨b,0,none⟩),vf,vw].toArray w (IA fun u w'=>Row 266 w.heap.size w' u r/\Ext w w'):=by
 obtain⟨_,_,_,_,_,_,_,_,_,M,_⟩:=h;exact AUO (M.nt.mono M.size (Nat.le_refl _)) rf hl hF
def ACA(v:Int):List Qw->Nat->List Int->Option (List Int)
 |[],_,o=>some o
 |x::t,k,o=>
  if(!decide (x=(0,0,0)))=true then(ix o (k:Int))>>=fun _=>ACA v t (k+1) (NG o (k:Int) v)
  else ACA v t (k+1) o
def ACf(F:Nat)(x0:Nl):Option (List Int×Int):=
 (AAK F x0)>>=fun p=>
 if(!decide (p.1=0))=true then some ([],p.1)
 else(mks 8 x0.1 (0:Int))>>=fun o=>
  (AAF F x0.1 x0.2.1 x0.2.2.1 (vz (x0,[],p.2.1,p.2.2)))>>=fun B=>
  (ACA 1 B 0 o)>>=fun o2=>
  (AAF F x0.1 x0.2.1 x0.2.2.2 (AAS (x0,[],p.2.1,p.2.2)))>>=fun C=>
  (ACA (-1) C 0 o2)>>=fun o3=>some (o3,0)
def AEP:List Qw->Nat->List Int->Option (List Int)
 |[],_,o=>some o
 |x::t,k,o=>
  if(!decide (x=(0,0,0)))=true then(app 8 o ([(k:Int)]:List Int))>>=fun o2=>AEP t (k+1) o2
  else AEP t (k+1) o
def ACg(F:Nat)(x0:Nl):Option (List Int×Int×Int):=
 (AAK F x0)>>=fun p=>
 if(!decide (p.1=0))=true then some ([],0,p.1)
 else(AAF F x0.1 x0.2.1 x0.2.2.1 (vz (x0,[],p.2.1,p.2.2)))>>=fun B=>
  (AEP B 0 [])>>=fun s=>
  (ABP F (x0,[],p.2.1,p.2.2))>>=fun g=>some (s,g,0)
set_option maxHeartbeats 8000000 in
theorem c76{w0:World}{v0:Value}{x0:Nl}(r0:RV w0 v0 x0){F:Nat}{r:List Int×Int}(hF:ACf F x0=some r):
  Calls Tryz.prog 76 [v0].toArray w0 (IA fun v w'=>∃u0:Value,v=.tuple #[u0,.int .i64 r.2]/\RV w' u0 r.1/\Ext w0 w'):=by
 unfold ACf at hF;refine bS hF fun p Eo hF=>?_;have r0':=r0;have hz:=id r0;obtain⟨_,rfl,_,_,rfl,rfl,_,_,rfl,⟨a1,cq1,rfl,p1,q3,e1⟩,_,_,rfl,⟨a2,cq2,rfl,p2,q4,e2⟩,a3,cq3,rfl,p3,q5,e3⟩:=hz;refine I9 (n:=61) Tryz.func76 rfl rfl rfl<|Zr<|yX rfl rfl fun b1 w1 hx1 hg1 hb1=>Za<|Za<|nl<|Zr<|Zv (Jq rfl AA0 rfl (Bx.cs hb1))<|Zc (xc ALC (mc rfl mn)) (AOV (r0'.ext hx1) Eo) ?_;rintro _ w2⟨u,rfl,hx2,hu⟩;have k2:=hx1.tr hx2;have s1:=hx1.size;have s2:=hx2.size;have hb2:=hb1.ext hx2;refine Zm<|Zv (xC rfl rfl)<|Zv (xC rfl rfl)<|Za<|Za<|nl<|wp_seq<|Zr<|Zm<|Zv (wO rfl rfl)<|nl<|cnd rfl (fun h3=>?_) (fun h3=>?_)
 ·have hF:=Cj hF h3
  cases hF;exact Zr<|Zm<|Za<|Za<|nl<|wp_ret<|rt rfl (.tmp rfl rfl (.tmp rfl rfl .nil)) ⟨_,rfl,RVo.nil (Nat.zero_le _),k2⟩
 have hF:=DF hF h3;have h30:p.1=0:=by simpa using h3
 refine bS hF fun o Em hF=>bS hF fun B EB hF=>bS hF fun o2 Eo2 hF=>bS hF fun C EC hF=>bS hF fun o3 Eo3 hF=>?_;cases hF;rcases hu with⟨h,_⟩|⟨_,N,b,zf,rfl,hNf⟩
 ·exact absurd h30 h
 have rL:RV w2 (.slice a2 x0.2.2.1.length cq2) x0.2.2.1:=(RV.of1 p2 q4 e2).ext k2;have rR:RV w2 (.slice a3 x0.2.2.2.length cq3) x0.2.2.2:=(RV.of1 p3 q5 e3).ext k2;refine wp_skip<|Zr<|Zv (BA rfl vV)<|Zv (AP rfl Ap ((Bx.cs hb2).at 0 rfl))<|AGf (α:=Int) (z0:=0) rfl rfl Tryz.underlying41 Ap rfl rfl rfl Em fun bd w3 hx3 q3=>Za<|nl<|wp_seq ?_;have s3:=hx3.size;have hd1:w2.heap.size<=bd/\bd<w3.heap.size:=q3.lt bd rfl;have N3:=hNf.ext hx3;generalize hvd:(Value.slice (some ⟨bd,0,none⟩) o.length o.length)=vd at q3;have hb3:=hb2.ext hx3;have k3:=k2.tr hx3;have hadd:∀k:Nat,k<2^63-1->BH ((k:Int)+1)=((k+1:Nat):Int):=fun k hk=>by
  rw[BH,IntWalk.i64_in _ (by omega)]
  rfl
 refine ct (fun L' W=>L' 1=.pointer (some ⟨b1,0,none⟩)/\L' 4=.pointer (some ⟨b,0,none⟩)/\L' 6=vd/\Row 3 w2.heap.size W vd o2/\BelP (fun q=>q≠bd) w3.heap.size w3 W) ?_ ?_
 ·refine Zr<|Zm<|Zv (BA rfl yT)<|Zv (AP rfl Le ((Bx.cs hb3).at 2 rfl))<|Zm<|Zv (xmf (l:=[.pointer (some ⟨b,0,none⟩)]) (k:=[]) (mc rfl mn) rfl)<|Zc (xc ALD (mc rfl (mc rfl (mc rfl mn)))) (N3.reach (rL.ext hx3) N3.fnl EB) ?_
  rintro vB wr⟨RB,hxr⟩;have sr:=hxr.size;have hz:=RV.sl RB.rv;obtain⟨aB,cB,rfl,-,hcB,-⟩:=hz;refine Zv (Kz rfl Tryz.underlying262)<|Zm<|nl<|wp_block<|lp (I:=fun m' L' W=>∃(k:Nat)(dn:List Int),k+m'=B.length/\ACA 1 (B.drop k) k dn=some o2/\L' 29=.int .i64 (k:Int)/\L' 28=.int .i64 (B.length:Int)/\L' 27=.slice aB B.length cB/\L' 1=.pointer (some ⟨b1,0,none⟩)/\L' 4=.pointer (some ⟨b,0,none⟩)/\L' 6=vd/\Row 3 w2.heap.size W vd dn/\BelP (fun q=>q≠bd) wr.heap.size wr W) B.length
   ⟨0,o,by simp,Eo2,rfl,rfl,rfl,rfl,rfl,rfl,q3.ext hxr,BelP.refl⟩ ?_
  rintro m'' L' W⟨k,dn,hk,hG,l38,l37,l36,l1,l4,l6,Rd,bW⟩;have sW:=bW.size;refine Zr<|Zv (Oi l38 l37)<|nl<|wp_seq<|cnd rfl (fun hc=>?_) (fun hc=>?_)
  ·have hc:(k:Int)<(B.length:Int):=by simpa using hc
   have hkl:k<B.length:=by omega
   obtain⟨m3,rfl⟩:∃q,m''=q+1:=⟨m''-1,by omega⟩;rw[List.drop_eq_getElem_cons hkl,ACA]at hG;have hix:ix B (k:Int)=some B[k]:=by simp[ix,List.getElem?_eq_getElem hkl]
   have RBW:=RB.keepq fun q hq=>bW.block q (RB.lt q hq).2 (by have:=(RB.lt q hq).1;omega);have hz:=Els.ix (RV.els RBW.rv) hix;obtain⟨b9,off9,cs9,rfl,i5,i6,q5,hcE⟩:=hz;obtain rfl:=Flat.iff.1 q5;have had:=hadd k (by unfold maxLen at hcB;have:=RB.rv.cap.2.1;omega);refine wp_skip<|wp_seq<|wp_block<|Zr<|Zv (FY l38)<|Zv (Dq l36 l38 Tryz.underlying262 bF i5 i6)<|Zv (Jq rfl bF rfl hcE)<|yY bF fun b13 wa hxa hga hba=>Za<|xk rfl rfl rfl bF hba rfl rfl (ble rfl) fun wb hchb hbb=>nl<|?_;have hb13:Bx wb b13 266 (Flat.enc B[k]):=hbb;have kxb:Ext W wb:=hxa.chg hchb hga;have sb:=kxb.size;have Rdb:=Rd.ext kxb;have bb:=bW.ext kxb (by omega);refine Zr<|Zv (Jq rfl bF rfl (Bx.cs hb13))<|Zv (AAe (r:=[.int .i64 0,.int .i64 0,.int .i64 0]) bF ADW pn rfl)<|Zv (AK7 (α:=Qw) (a:=B[k]) (b:=(0,0,0)) rfl AIn AIm rfl rfl rfl rfl rfl)<|nl<|cnd rfl (fun hq=>?_) (fun hq=>?_)
   ·have hG:=Cj hG hq
    refine bS hG fun y Ey hG=>?_;have hz:=vX Ey;obtain⟨i1,i2,-⟩:=hz;have hdl:dn.length=o.length:=by subst hvd;exact Rdb.rv.cap.1.symm
    subst hvd;refine rg<|Zv (FY l6)<|Zm<|Zv (Dq rfl rfl Tryz.underlying41 Ap i1 (by omega))<|ADO (v:=(1:Int)) rfl rfl rfl Ap Rdb Ey fun wc hchc Rdc=>nl<|?_;have sc:=hchc.size;have bc:=bb.chg hchc (.inr fun h=>h rfl);refine rg<|Zv (FH l38 rfl)<|Zm<|nl<|lq m3 (by omega) ⟨k+1,_,by omega,hG,congrArg _ had,l37,l36,l1,l4,l6,Rdc,bc⟩
   ·have hG:=DF hG hq
    refine wp_skip<|rg<|Zv (FH l38 rfl)<|Zm<|nl<|lq m3 (by omega) ⟨k+1,dn,by omega,hG,congrArg _ had,l37,l36,l1,l4,l6,Rdb,bb⟩
  ·have hc:¬(k:Int)<(B.length:Int):=by simpa using hc
   rw[List.drop_of_length_le (by omega),ACA]at hG;cases hG;exact wp_exit<|lf ⟨l1,l4,l6,Rd,(BelP.of hxr (Nat.le_refl _)).trans (bW.mono sr)⟩
 rintro LY wY⟨l1,l4,l6,RdY,bY⟩;have sY:=bY.size;have hltN:=hNf.lt;have NY:=N3.belp bY (by omega) (by omega) (by omega) fun q _ _ _=>by omega
 have kY:Ext w2 wY:=(show Ext w2 w3 from hx3).trans ⟨bY.os,bY.tape,bY.output,bY.size,fun q hq=>bY.block q (by omega) (by omega)⟩;have hbY:=hb2.ext kY;refine wp_seq ?_;refine ct (fun L' W=>L' 6=vd/\Row 3 w2.heap.size W vd o3/\BelP (fun q=>q≠bd) wY.heap.size wY W) ?_ ?_
 ·refine Zr<|Zv (FY l4)<|Zv (BA l1 AAo)<|Zv (AP rfl Le ((Bx.cs hbY).at 3 rfl))<|Zv (FY l4)<|Zv (xmf (l:=[.pointer (some ⟨b,0,none⟩)]) (k:=[]) (mc rfl mn) rfl)<|Zc (xc ALD (mc rfl (mc rfl (mc rfl mn)))) (NY.reach (rR.ext kY) NY.fnk EC) ?_
  rintro vC wr⟨RB,hxr⟩;have sr:=hxr.size;have hz:=RV.sl RB.rv;obtain⟨aB,cB,rfl,-,hcB,-⟩:=hz;refine Zv (Kz rfl Tryz.underlying262)<|Zm<|nl<|wp_block<|lp (I:=fun m' L' W=>∃(k:Nat)(dn:List Int),k+m'=C.length/\ACA (-1) (C.drop k) k dn=some o3/\L' 48=.int .i64 (k:Int)/\L' 47=.int .i64 (C.length:Int)/\L' 46=.slice aB C.length cB/\L' 6=vd/\Row 3 w2.heap.size W vd dn/\BelP (fun q=>q≠bd) wr.heap.size wr W) C.length
   ⟨0,o2,by simp,Eo3,rfl,rfl,rfl,l6,RdY.ext hxr,BelP.refl⟩ ?_
  rintro m'' L' W⟨k,dn,hk,hG,l38,l37,l36,l6,Rd,bW⟩;have sW:=bW.size;refine Zr<|Zv (Oi l38 l37)<|nl<|wp_seq<|cnd rfl (fun hc=>?_) (fun hc=>?_)
  ·have hc:(k:Int)<(C.length:Int):=by simpa using hc
   have hkl:k<C.length:=by omega
   obtain⟨m3,rfl⟩:∃q,m''=q+1:=⟨m''-1,by omega⟩;rw[List.drop_eq_getElem_cons hkl,ACA]at hG;have hix:ix C (k:Int)=some C[k]:=by simp[ix,List.getElem?_eq_getElem hkl]
   have RBW:=RB.keepq fun q hq=>bW.block q (RB.lt q hq).2 (by have:=(RB.lt q hq).1;omega);have hz:=Els.ix (RV.els RBW.rv) hix;obtain⟨b9,off9,cs9,rfl,i5,i6,q5,hcE⟩:=hz;obtain rfl:=Flat.iff.1 q5;have had:=hadd k (by unfold maxLen at hcB;have:=RB.rv.cap.2.1;omega);refine wp_skip<|wp_seq<|wp_block<|Zr<|Zv (FY l38)<|Zv (Dq l36 l38 Tryz.underlying262 bF i5 i6)<|Zv (Jq rfl bF rfl hcE)<|yY bF fun b13 wa hxa hga hba=>Za<|xk rfl rfl rfl bF hba rfl rfl (ble rfl) fun wb hchb hbb=>nl<|?_;have hb13:Bx wb b13 266 (Flat.enc C[k]):=hbb;have kxb:Ext W wb:=hxa.chg hchb hga;have sb:=kxb.size;have Rdb:=Rd.ext kxb;have bb:=bW.ext kxb (by omega);refine Zr<|Zv (Jq rfl bF rfl (Bx.cs hb13))<|Zv (AAe (r:=[.int .i64 0,.int .i64 0,.int .i64 0]) bF ADW pn rfl)<|Zv (AK7 (α:=Qw) (a:=C[k]) (b:=(0,0,0)) rfl AIn AIm rfl rfl rfl rfl rfl)<|nl<|cnd rfl (fun hq=>?_) (fun hq=>?_)
   ·have hG:=Cj hG hq
    refine bS hG fun y Ey hG=>?_;have hz:=vX Ey;obtain⟨i1,i2,-⟩:=hz;have hdl:dn.length=o.length:=by subst hvd;exact Rdb.rv.cap.1.symm
    subst hvd;refine rg<|Zv (FY l6)<|Zm<|Zv (Dq rfl rfl Tryz.underlying41 Ap i1 (by omega))<|ADO (v:=(-1:Int)) rfl rfl rfl Ap Rdb Ey fun wc hchc Rdc=>nl<|?_;have sc:=hchc.size;have bc:=bb.chg hchc (.inr fun h=>h rfl);refine rg<|Zv (FH l38 rfl)<|Zm<|nl<|lq m3 (by omega) ⟨k+1,_,by omega,hG,congrArg _ had,l37,l36,l6,Rdc,bc⟩
   ·have hG:=DF hG hq
    refine wp_skip<|rg<|Zv (FH l38 rfl)<|Zm<|nl<|lq m3 (by omega) ⟨k+1,dn,by omega,hG,congrArg _ had,l37,l36,l6,Rdb,bb⟩
  ·have hc:¬(k:Int)<(C.length:Int):=by simpa using hc
   rw[List.drop_of_length_le (by omega),ACA]at hG;cases hG;exact wp_exit<|lf ⟨l6,Rd,(BelP.of hxr (Nat.le_refl _)).trans (bW.mono sr)⟩
 rintro LZ wZ⟨l6,RdZ,bZ⟩;have kZ:Ext w2 wZ:=kY.trans ⟨bZ.os,bZ.tape,bZ.output,bZ.size,fun q hq=>bZ.block q (by omega) (by omega)⟩;have hz:=RV.sl RdZ.rv;obtain⟨ag,cg,rfl,-,-,-⟩:=hz;exact Zr<|Zv (FY l6)<|Za<|Za<|nl<|wp_ret<|rt rfl (.tmp rfl rfl (.tmp rfl rfl .nil)) ⟨_,rfl,RdZ.rv,k2.tr kZ⟩
set_option maxHeartbeats 8000000 in
theorem c77{w0:World}{v0:Value}{x0:Nl}(r0:RV w0 v0 x0){F:Nat}{r:List Int×Int×Int}(hF:ACg F x0=some r):
  Calls Tryz.prog 77 [v0].toArray w0 (IA fun v w'=>∃u0:Value,v=.tuple #[u0,.int .i64 r.2.1,.int .i64 r.2.2]/\RV w' u0 r.1/\Ext w0 w'):=by
 unfold ACg at hF;refine bS hF fun p Eo hF=>?_;have r0':=r0;have hz:=id r0;obtain⟨_,rfl,_,_,rfl,rfl,_,_,rfl,⟨a1,cq1,rfl,p1,q3,e1⟩,_,_,rfl,⟨a2,cq2,rfl,p2,q4,e2⟩,a3,cq3,rfl,p3,q5,e3⟩:=hz;refine I9 (n:=46) Tryz.func77 rfl rfl rfl<|Zr<|yX rfl rfl fun b1 w1 hx1 hg1 hb1=>Za<|Za<|Za<|nl<|Zr<|Zv (Jq rfl AA0 rfl (Bx.cs hb1))<|Zc (xc ALC (mc rfl mn)) (AOV (r0'.ext hx1) Eo) ?_;rintro _ w2⟨u,rfl,hx2,hu⟩;have k2:=hx1.tr hx2;have s1:=hx1.size;have s2:=hx2.size;have hb2:=hb1.ext hx2;refine Zm<|Zv (xC rfl rfl)<|Zv (xC rfl rfl)<|Za<|Za<|nl<|wp_seq<|Zr<|Zm<|Zv (wO rfl rfl)<|nl<|cnd rfl (fun h3=>?_) (fun h3=>?_)
 ·have hF:=Cj hF h3
  cases hF;exact Zr<|Zm<|Za<|Za<|Za<|nl<|wp_ret<|rt rfl (.tmp rfl rfl (.tmp rfl rfl (.tmp rfl rfl .nil))) ⟨_,rfl,RVo.nil (Nat.zero_le _),k2⟩
 have hF:=DF hF h3;have h30:p.1=0:=by simpa using h3
 refine bS hF fun B EB hF=>bS hF fun s Es hF=>bS hF fun g Eg hF=>?_;cases hF;rcases hu with⟨h,_⟩|⟨_,N,b,zf,rfl,hNf⟩
 ·exact absurd h30 h
 have rL:RV w2 (.slice a2 x0.2.2.1.length cq2) x0.2.2.1:=(RV.of1 p2 q4 e2).ext k2;refine wp_skip<|Zr<|Za<|nl<|wp_seq ?_;have hadd:∀k:Nat,k<2^63-1->BH ((k:Int)+1)=((k+1:Nat):Int):=fun k hk=>by
  rw[BH,IntWalk.i64_in _ (by omega)]
  rfl
 refine ct (fun L' W=>∃vs,L' 5=.pointer (some ⟨b,0,none⟩)/\L' 7=vs/\RV W vs s/\Ext w2 W) ?_ ?_
 ·refine Zr<|Zm<|Zv (BA rfl yT)<|Zv (AP rfl Le ((Bx.cs hb2).at 2 rfl))<|Zm<|Zv (xmf (l:=[.pointer (some ⟨b,0,none⟩)]) (k:=[]) (mc rfl mn) rfl)<|Zc (xc ALD (mc rfl (mc rfl (mc rfl mn)))) (hNf.reach rL hNf.fnl EB) ?_
  rintro vB wr⟨RB,hxr⟩;have sr:=hxr.size;have hz:=RV.sl RB.rv;obtain⟨aB,cB,rfl,-,hcB,-⟩:=hz;refine Zv (Kz rfl Tryz.underlying262)<|Zm<|nl<|wp_block<|lp (I:=fun m' L' W=>∃(k:Nat)(dn:List Int)(vs:Value),k+m'=B.length/\AEP (B.drop k) k dn=some s/\L' 25=.int .i64 (k:Int)/\L' 24=.int .i64 (B.length:Int)/\L' 23=.slice aB B.length cB/\L' 5=.pointer (some ⟨b,0,none⟩)/\L' 7=vs/\RV W vs dn/\Ext wr W) B.length
   ⟨0,[],_,by simp,Es,rfl,rfl,rfl,rfl,rfl,RVo.nil (Nat.zero_le _),Ext.refl _⟩ ?_
  rintro m'' L' W⟨k,dn,vs,hk,hG,l38,l37,l36,l5,l7,Rd,kW⟩;refine Zr<|Zv (Oi l38 l37)<|nl<|wp_seq<|cnd rfl (fun hc=>?_) (fun hc=>?_)
  ·have hc:(k:Int)<(B.length:Int):=by simpa using hc
   have hkl:k<B.length:=by omega
   obtain⟨m3,rfl⟩:∃q,m''=q+1:=⟨m''-1,by omega⟩;rw[List.drop_eq_getElem_cons hkl,AEP]at hG;have hix:ix B (k:Int)=some B[k]:=by simp[ix,List.getElem?_eq_getElem hkl]
   have RBW:=RB.ext kW;have hz:=Els.ix (RV.els RBW.rv) hix;obtain⟨b9,off9,cs9,rfl,i5,i6,q5,hcE⟩:=hz;obtain rfl:=Flat.iff.1 q5;have had:=hadd k (by unfold maxLen at hcB;have:=RB.rv.cap.2.1;omega);have hz:=RV.sl Rd;obtain⟨ag,cg,rfl,hg1,hg2,-⟩:=hz;refine wp_skip<|wp_seq<|wp_block<|Zr<|Zv (FY l38)<|Zv (Dq l36 l38 Tryz.underlying262 bF i5 i6)<|Zv (Jq rfl bF rfl hcE)<|yY bF fun b13 wa hxa hga hba=>Za<|xk rfl rfl rfl bF hba rfl rfl (ble rfl) fun wb hchb hbb=>nl<|?_;have hb13:Bx wb b13 266 (Flat.enc B[k]):=hbb;have kxb:Ext W wb:=hxa.chg hchb hga;have Rdb:=Rd.ext kxb;refine Zr<|Zv (Jq rfl bF rfl (Bx.cs hb13))<|Zv (AAe (r:=[.int .i64 0,.int .i64 0,.int .i64 0]) bF ADW pn rfl)<|Zv (AK7 (α:=Qw) (a:=B[k]) (b:=(0,0,0)) rfl AIn AIm rfl rfl rfl rfl rfl)<|nl<|cnd rfl (fun hq=>?_) (fun hq=>?_)
   ·have hG:=Cj hG hq
    refine bS hG fun g2 Eg2 hG=>rg<|Zv (FY l7)<|Zv (FY l7)<|Zv (Kz rfl Tryz.underlying41)<|Zv (FY l7)<|Zv (Kz rfl Tryz.underlying41)<|Zv (AQP rfl hg1 Tryz.underlying41 Ap rfl rfl)<|Zm<|AAR (cs:=[.int .i64 (k:Int)]) Tryz.underlying41 Ap rfl (pc rfl pn) rfl rfl rfl rfl rfl fun bo wd hxd hgd hbd=>?_;have od:Row (α:=Int) 3 _ wd (.slice (some ⟨bo,0,none⟩) 1 1) [(k:Int)]:=Row.lit hgd hbd rfl (ble rfl);refine AQQ (l:=dn) (k:=([(k:Int)]:List Int)) rfl rfl Tryz.underlying41 Ap rfl rfl (RV.full (Rdb.ext hxd)) od.rv rfl Eg2 fun v9 we oe hxe=>?_;have hz:=RV.sl oe.rv;obtain⟨av,cv,rfl,-,-,-⟩:=hz;refine Za<|nl<|rg<|Zv (FH l38 rfl)<|Zm<|nl<|lq m3 (by omega) ⟨k+1,g2,_,by omega,hG,congrArg _ had,l37,l36,l5,rfl,oe.rv,((kW.tr kxb).tr hxd).tr hxe⟩
   ·have hG:=DF hG hq
    refine wp_skip<|rg<|Zv (FH l38 rfl)<|Zm<|nl<|lq m3 (by omega) ⟨k+1,dn,_,by omega,hG,congrArg _ had,l37,l36,l5,l7,Rdb,kW.tr kxb⟩
  ·have hc:¬(k:Int)<(B.length:Int):=by simpa using hc
   rw[List.drop_of_length_le (by omega),AEP]at hG;cases hG;exact wp_exit<|lf ⟨_,l5,l7,Rd,hxr.tr kW⟩
 rintro LZ wZ⟨vs,l5,l7,RZ,kZ⟩;have hz:=RV.sl RZ;obtain⟨ag,cg,rfl,-,-,-⟩:=hz;have hz:=(hNf.ext kZ).rep;obtain⟨csr,hr1,hr2⟩:=hz;refine Zr<|Zv (FY l7)<|Zv (FY l5)<|Zc (xc AR3 (mc rfl mn)) (AUQ hr1 hr2 Eg) ?_;rintro _ w9⟨rfl,hx9⟩;exact Za<|Za<|Za<|nl<|wp_ret<|rt rfl (.tmp rfl rfl (.tmp rfl rfl (.tmp rfl rfl .nil))) ⟨_,rfl,RZ.ext hx9,(k2.tr kZ).tr hx9⟩
def AFN:List Int->List Bool->Option (List Bool)
 |[],o=>some o
 |k::t,o=>(ix o k)>>=fun _=>AFN t (NG o k true)
def AEQ(inn:List Bool):List oG->Nat->List Int->Int->Option (List Int×Int)
 |[],_,o,c=>some (o,c)
 |x::t,i,o,c=>
  (ix inn x.1)>>=fun a=>(ix inn x.2.1)>>=fun b=>
  if(!(a==b))=true then(app 8 o ([(i:Int)]:List Int))>>=fun o2=>AEQ inn t (i+1) o2 (BH (c+x.2.2))
  else AEQ inn t (i+1) o c
def AD7(F:Nat)(x0:Nl)(x1:List Int):Option (List Int×Int×Int):=
 (AAC F x0)>>=fun e=>
 if(!decide (e=0))=true then some ([],0,e)
 else(ABD F x0.1 [x1])>>=fun b=>
  if(!b)=true then some ([],0,3)
  else(mks 1 x0.1 false)>>=fun o=>(AFN x1 o)>>=fun inn=>
   (kR F x0.2.2.1 (fun k=>ACb k inn))>>=fun a=>
   if a=true then some ([],0,16)
   else(kR F x0.2.2.2 (fun k=>ACc k inn))>>=fun b=>
    if b=true then some ([],0,16)
    else(AEQ inn x0.2.1 0 [] 0)>>=fun z=>some (z.1,z.2,0)
theorem AOW{w:World}{b8:Nat}{v:Value}{inn:List Bool}(hb:Bx w b8 268 [v])(hv:RV w v inn):
  FnB Tryz.prog Int w (.func (.func 167) #[] #[.pointer (some ⟨b8,0,none⟩)]) (fun k=>ACb k inn):=
 ⟨167,[],[.pointer (some ⟨b8,0,none⟩)],rfl,AR4,fun w' u x b k hu hp=>by
  obtain rfl:=RVo.int.1 hu;exact AUR (Bx.cs (hb.ext k)) (hv.ext k).rep1 hp⟩
theorem AOX{w:World}{b8:Nat}{v:Value}{inn:List Bool}(hb:Bx w b8 268 [v])(hv:RV w v inn):
  FnB Tryz.prog Int w (.func (.func 168) #[] #[.pointer (some ⟨b8,0,none⟩)]) (fun k=>ACc k inn):=
 ⟨168,[],[.pointer (some ⟨b8,0,none⟩)],rfl,AR5,fun w' u x b k hu hp=>by
  obtain rfl:=RVo.int.1 hu;exact AUS (Bx.cs (hb.ext k)) (hv.ext k).rep1 hp⟩
set_option maxHeartbeats 8000000 in
theorem c80{w0:World}{v0:Value}{x0:Nl}(r0:RV w0 v0 x0){v1:Value}{x1:List Int}(r1:RV w0 v1 x1){F:Nat}{r:List Int×Int×Int}(hF:AD7 F x0 x1=some r):
  Calls Tryz.prog 80 [v0,v1].toArray w0 (IA fun v w'=>∃u0:Value,v=.tuple #[u0,.int .i64 r.2.1,.int .i64 r.2.2]/\RV w' u0 r.1/\Ext w0 w'):=by
 unfold AD7 at hF;refine bS hF fun e Ee hF=>?_;have r0':=r0;have hz:=id r0;obtain⟨_,rfl,_,_,rfl,rfl,_,_,rfl,⟨a1,cq1,rfl,p1,q3,e1⟩,_,_,rfl,⟨a2,cq2,rfl,p2,q4,e2⟩,a3,cq3,rfl,p3,q5,e3⟩:=hz;have hz:=RV.sl r1;obtain⟨az,cs,rfl,-,hcs,-⟩:=hz;refine I9 (n:=79) Tryz.func80 rfl rfl rfl<|Zr<|yX rfl rfl fun b2 w1 hx1 hg1 hb1=>Za<|Za<|Za<|nl<|wp_seq<|Zr<|Zv (Jq rfl AA0 rfl (Bx.cs hb1))<|Zc (xc AOq (mc rfl mn)) (ARK (r0'.ext hx1) Ee) ?_;rintro _ w2⟨rfl,hx2⟩;have k2:=hx1.tr hx2;have hb2:=hb1.ext hx2;refine Za<|nl<|Zr<|Zm<|Zv (wO rfl rfl)<|nl<|cnd rfl (fun h3=>?_) (fun h3=>?_)
 ·have hF:=Cj hF h3
  cases hF;exact Zr<|Zm<|Za<|Za<|Za<|nl<|wp_ret<|rt rfl (.tmp rfl rfl (.tmp rfl rfl (.tmp rfl rfl .nil))) ⟨_,rfl,RVo.nil (Nat.zero_le _),k2⟩
 have hF:=DF hF h3;refine bS hF fun bb Eb hF=>wp_skip<|wp_seq<|Zr<|Zv (BA rfl vV)<|Zv (AP rfl Ap ((Bx.cs hb2).at 0 rfl))<|Zm<|AAR (cs:=[.slice az x1.length cs]) Tryz.underlying78 Le rfl (pc rfl pn) rfl rfl rfl rfl rfl fun b4 w3 hx3 hg3 hb3=>?_;have k3:=k2.tr hx3;have r15:RV w3 (.slice (some ⟨b4,0,none⟩) 1 1) ([x1]:List (List Int)):=RV.lit hb3 (css:=[[.slice az x1.length cs]]) rfl ⟨(r1.ext k3).rep1,trivial⟩ rfl (ble rfl);refine Zc (xc ALE (mc rfl (mc rfl mn))) (AOR r15 Eb) ?_;rintro _ w4⟨rfl,hx4⟩;have k4:=k3.tr hx4;have hb4:=(hb2.ext hx3).ext hx4;refine Zv (wP rfl)<|nl<|cnd rfl (fun h4=>?_) (fun h4=>?_)
 ·have hF:=Cj hF h4
  cases hF;exact Zr<|Za<|Za<|Za<|nl<|wp_ret<|rt rfl (.tmp rfl rfl (.tmp rfl rfl (.tmp rfl rfl .nil))) ⟨_,rfl,RVo.nil (Nat.zero_le _),k4⟩
 have hF:=DF hF h4;refine bS hF fun o Em hF=>bS hF fun inn Ei hF=>bS hF fun ca Ea hF=>wp_skip<|Zr<|Zv (BA rfl vV)<|Zv (AP rfl Ap ((Bx.cs hb4).at 0 rfl))<|AGf (α:=Bool) (z0:=false) rfl rfl Tryz.underlying268 ti4 rfl rfl rfl Em fun bd w5 hx5 o5=>?_;have hd1:w4.heap.size<=bd/\bd<w5.heap.size:=o5.lt bd rfl;refine yY AE8 fun b8 w6 hx6 hg6 hb6=>xk rfl rfl rfl AE8 hb6 rfl rfl (ble rfl) fun w7 hch7 hb7=>nl<|?_;have hb7:Bx w7 b8 268 [.slice (some ⟨bd,0,none⟩) o.length o.length]:=hb7;have kx7:Ext w5 w7:=hx6.chg hch7 hg6;have k7:=(k4.tr hx5).tr kx7;have s7:=kx7.size;have s5:=hx5.size;have o7:=o5.ext kx7;have hb27:=(hb4.ext hx5).ext kx7;have r17:=r1.ext k7;have hadd:∀k:Nat,k<2^63-1->BH ((k:Int)+1)=((k+1:Nat):Int):=fun k hk=>by
  rw[BH,IntWalk.i64_in _ (by omega)]
  rfl
 have hlk:=(RV.of1 p1 q3 e1).cap;have hls:=r1.cap;refine wp_seq ?_;generalize hvd:(Value.slice (some ⟨bd,0,none⟩) o.length o.length)=vd at hb7 o7;refine ct (fun L' W=>L' 2=.pointer (some ⟨b2,0,none⟩)/\L' 8=.pointer (some ⟨b8,0,none⟩)/\Row 4 w4.heap.size W vd inn/\BelP (fun q=>q≠bd) w7.heap.size w7 W) ?_ ?_
 ·refine Zr<|Zm<|Zv (Kz rfl Tryz.underlying41)<|Zm<|nl<|?_
  refine wp_block<|lp (I:=fun m' L' W=>∃(k:Nat)(dn:List Bool),k+m'=x1.length/\AFN (x1.drop k) dn=some inn/\L' 31=.int .i64 (k:Int)/\L' 30=.int .i64 (x1.length:Int)/\L' 29=.slice az x1.length cs/\L' 2=.pointer (some ⟨b2,0,none⟩)/\L' 8=.pointer (some ⟨b8,0,none⟩)/\Row 4 w4.heap.size W vd dn/\BelP (fun q=>q≠bd) w7.heap.size w7 W) x1.length
   ⟨0,o,by simp,Ei,rfl,rfl,rfl,rfl,rfl,o7,BelP.refl⟩ ?_
  rintro m'' L' W⟨k,dn,hk,hG,l31,l30,l29,l2,l8,Rd,bW⟩;have sW:=bW.size;refine Zr<|Zv (Oi l31 l30)<|nl<|wp_seq<|cnd rfl (fun hc=>?_) (fun hc=>?_)
  ·have hc:(k:Int)<(x1.length:Int):=by simpa using hc
   have hkl:k<x1.length:=by omega
   obtain⟨m3,rfl⟩:∃q,m''=q+1:=⟨m''-1,by omega⟩;rw[List.drop_eq_getElem_cons hkl,AFN]at hG;have hix:ix x1 (k:Int)=some x1[k]:=by simp[ix,List.getElem?_eq_getElem hkl]
   refine bS hG fun y Ey hG=>?_;have kW0:Ext w0 W:=k7.trans ⟨bW.os,bW.tape,bW.output,bW.size,fun q hq=>bW.block q (by have:=k7.size;omega) (by have:=k4.size;omega)⟩;have r1W:=r1.ext kW0;have hz:=Els.ix (RV.els r1W) hix;obtain⟨b9,off9,cs9,rfl,i5,i6,q5,hcE⟩:=hz;obtain rfl:=Flat.iff.1 q5;have had:=hadd k (by unfold maxLen at hcs;have:=r1.cap.2.1;omega);have hz:=vX Ey;obtain⟨i1,i2,-⟩:=hz;have hdl:dn.length=o.length:=by subst hvd;exact Rd.rv.cap.1.symm
   have hb8W:=hb7.belp bW (hb7.lt) (by omega);subst hvd;refine wp_skip<|wp_seq<|wp_block<|Zr<|Zv (Dq l29 l31 Tryz.underlying41 Ap i5 i6)<|Zv (AP rfl Ap (hcE.at 0 rfl))<|Za<|nl<|rg<|Zv (AP l8 AE8 ((Bx.cs hb8W).at 0 rfl))<|Zm<|Zv (Dq rfl rfl Tryz.underlying268 ti4 i1 (by omega))<|ADO (v:=true) rfl rfl rfl ti4 Rd Ey fun wc hchc Rdc=>nl<|?_;have bc:=bW.chg hchc (.inr fun h=>h rfl);refine rg<|Zv (FH l31 rfl)<|Zm<|nl<|lq m3 (by omega) ⟨k+1,_,by omega,hG,congrArg _ had,l30,l29,l2,l8,Rdc,bc⟩
  ·have hc:¬(k:Int)<(x1.length:Int):=by simpa using hc
   rw[List.drop_of_length_le (by omega),AFN]at hG;cases hG;exact wp_exit<|lf ⟨l2,l8,Rd,bW⟩
 rintro LY wY⟨l2,l8,RdY,bY⟩;have sY:=bY.size;have kY:Ext w0 wY:=k7.trans ⟨bY.os,bY.tape,bY.output,bY.size,fun q hq=>bY.block q (by have:=k7.size;omega) (by have:=k4.size;omega)⟩;have hb8:=hb7.belp bY (hb7.lt) (by omega);have hb2Y:=hb27.belp bY (hb27.lt) (by have:=hb4.lt;omega);have rK:=(RV.of1 p1 q3 e1).ext kY;have rL:=(RV.of1 p2 q4 e2).ext kY;have rR:=(RV.of1 p3 q5 e3).ext kY;refine wp_seq<|Zr<|Zv (BA l2 yT)<|Zv (AP rfl Le ((Bx.cs hb2Y).at 2 rfl))<|Zv (xmf (l:=[]) (k:=[.pointer (some ⟨b8,0,none⟩)]) rfl (mc l8 mn))<|Zc (xc AIp (mc rfl (mc rfl mn))) (ALP rL (AOW hb8 RdY.rv) Ea) ?_;rintro _ wa⟨rfl,hxa⟩;refine Zm<|?_;cases ca with
 |true=>
  cases hF;refine Gk rfl (BP rfl)<|Gk rfl (BP rfl)<|Gk rfl (BP rfl)<|Gk rfl (BP rfl)<|Zv (wI rfl rfl rfl)<|nl<|cnd rfl (fun _=>?_) (fun h=>by cases h);exact Zr<|Za<|Za<|Za<|nl<|wp_ret<|rt rfl (.tmp rfl rfl (.tmp rfl rfl (.tmp rfl rfl .nil))) ⟨_,rfl,RVo.nil (Nat.zero_le _),kY.tr hxa⟩
 |false=>
 have hF:=DF hF rfl;refine bS hF fun cb Ecb hF=>?_;have hb2a:=hb2Y.ext hxa;have hb8a:=hb8.ext hxa;have Rda:=RdY.ext hxa;refine Gt rfl (bf rfl)<|Zv (BA l2 AAo)<|Gt rfl (bf rfl)<|Zv (AP rfl Le ((Bx.cs hb2a).at 3 rfl))<|Gt rfl (bf rfl)<|Zv (xmf (l:=[]) (k:=[.pointer (some ⟨b8,0,none⟩)]) rfl (mc l8 mn))<|Gt rfl (bf rfl)<|Zc (xc AIp (mc rfl (mc rfl mn))) (ALP (rR.ext hxa) (AOX hb8a Rda.rv) Ecb) ?_;rintro _ wb⟨rfl,hxb⟩;have kb:=(kY.tr hxa).tr hxb;refine Zv (yH rfl rfl rfl)<|nl<|cnd rfl (fun h6=>?_) (fun h6=>?_)
 ·have hF:=Cj hF h6
  cases hF;exact Zr<|Za<|Za<|Za<|nl<|wp_ret<|rt rfl (.tmp rfl rfl (.tmp rfl rfl (.tmp rfl rfl .nil))) ⟨_,rfl,RVo.nil (Nat.zero_le _),kb⟩
 have hF:=DF hF h6;refine bS hF fun z Ez hF=>?_;cases hF;have hb2b:=hb2a.ext hxb;have hb8b:=hb8a.ext hxb;have Rdb:=Rda.ext hxb;have rKb:=(rK.ext hxa).ext hxb;refine wp_skip<|Zr<|Za<|nl<|Zr<|Za<|nl<|wp_seq ?_;refine ct (fun L' W=>∃vo,L' 11=vo/\L' 12=.int .i64 z.2/\Row 3 wb.heap.size W vo z.1/\Ext wb W) ?_ ?_
 ·refine Zr<|Zv (BA l2 yj)<|Zv (AP rfl AAz ((Bx.cs hb2b).at 1 rfl))<|Zv (Kz rfl Tryz.underlying135)<|Zm<|nl<|?_
  refine wp_block<|lp (I:=fun m' L' W=>∃(k:Nat)(dn:List Int)(c:Int)(vo:Value),k+m'=x0.2.1.length/\AEQ inn (x0.2.1.drop k) k dn c=some z/\L' 52=.int .i64 (k:Int)/\L' 51=.int .i64 (x0.2.1.length:Int)/\L' 50=.slice a1 x0.2.1.length cq1/\L' 8=.pointer (some ⟨b8,0,none⟩)/\L' 11=vo/\L' 12=.int .i64 c/\Row 3 wb.heap.size W vo dn/\Ext wb W) x0.2.1.length
   ⟨0,[],0,_,by simp,Ez,rfl,rfl,rfl,l8,rfl,rfl,Row.nil,Ext.refl _⟩ ?_
  rintro m'' L' W⟨k,dn,c,vo,hk,hG,l52,l51,l50,l8,l11,l12,Ro,kW⟩;have sW:=kW.size;refine Zr<|Zv (Oi l52 l51)<|nl<|wp_seq<|cnd rfl (fun hc=>?_) (fun hc=>?_)
  ·have hc:(k:Int)<(x0.2.1.length:Int):=by simpa using hc
   have hkl:k<x0.2.1.length:=by omega
   obtain⟨m3,rfl⟩:∃q,m''=q+1:=⟨m''-1,by omega⟩;rw[List.drop_eq_getElem_cons hkl,AEQ]at hG;refine bS hG fun ya Eya hG=>bS hG fun yb Eyb hG=>?_;have hix:ix x0.2.1 (k:Int)=some x0.2.1[k]:=by simp[ix,List.getElem?_eq_getElem hkl]
   have hz:=Els.ix (RV.els (rKb.ext kW)) hix;obtain⟨b9,off9,cs9,rfl,i5,i6,q5,hcE⟩:=hz;obtain rfl:=Flat.iff.1 q5;have had:=hadd k (by unfold maxLen at q3;omega);refine wp_skip<|wp_seq<|wp_block<|Zr<|Zv (FY l52)<|Zv (Dq l50 l52 Tryz.underlying135 wQ i5 i6)<|Zv (Jq rfl wQ rfl hcE)<|yY wQ fun b14 wc hxc hgc hbc=>Za<|xk rfl rfl rfl wQ hbc rfl rfl (ble rfl) fun wd hchd hbd=>nl<|?_;have hb14:Bx wd b14 147 [.int .i64 (x0.2.1[k]).1,.int .i64 (x0.2.1[k]).2.1,.int .i64 (x0.2.1[k]).2.2]:=hbd;have kxd:Ext W wd:=hxc.chg hchd hgc;have sd:=kxd.size;refine wp_seq<|wpl [] (.pure false 0 (.pure true 1 (.pure false 2 (.pure true 3 (.pure false 4 (.pure false 5 (.pure true 6 (.pure false 7 (.pure true 8 (.pure false 9 (.pure true 10 .fin))))))))))) mixed (by kernel_rfl) (fun we hxe=>?_);have kxe:=kxd.tr hxe;have se:=kxe.size;have ke:=kW.tr kxe;have hb8e:=hb8b.ext ke;have hb14e:=hb14.ext hxe;have Rde:=Rdb.ext ke;have Roe:=Ro.ext kxe;have hdi:o.length=inn.length:=by subst hvd;exact Rde.rv.cap.1
   subst hvd;have hz:=ix2 Rde.rv Eya;obtain⟨csa,j1,j2,qa,hca⟩:=hz;obtain rfl:=Flat.iff.1 qa;have hz:=ix2 Rde.rv Eyb;obtain⟨csb,j3,j4,qb,hcb⟩:=hz;obtain rfl:=Flat.iff.1 qb;refine Zq rfl (fun _ hS=>AP l8 AE8 ((Bx.cs (hb8e.ext (hS.resolve_left nofun))).at 0 rfl)) (Ext.refl _)<|Zp rfl (fun _=>BA rfl zX)<|Zq rfl (fun _ hS=>AP rfl Ap ((Bx.cs (hb14e.ext (hS.resolve_left nofun))).at 0 rfl)) (Ext.refl _)<|Zp rfl (fun _=>Dq rfl rfl Tryz.underlying268 ti4 j1 (by omega))<|Zq rfl (fun _ hS=>AP rfl ti4 ((hca.ext (hS.resolve_left nofun)).at 0 rfl)) (Ext.refl _)<|Zq rfl (fun _ hS=>AP l8 AE8 ((Bx.cs (hb8e.ext (hS.resolve_left nofun))).at 0 rfl)) (Ext.refl _)<|Zp rfl (fun _=>BA rfl zu)<|Zq rfl (fun _ hS=>AP rfl Ap ((Bx.cs (hb14e.ext (hS.resolve_left nofun))).at 1 rfl)) (Ext.refl _)<|Zp rfl (fun _=>Dq rfl rfl Tryz.underlying268 ti4 j3 (by omega))<|Zq rfl (fun _ hS=>AP rfl ti4 ((hcb.ext (hS.resolve_left nofun)).at 0 rfl)) (Ext.refl _)<|Zp rfl (fun _=>ATP Tryz.underlying4 rfl rfl)<|?_;have hz:=RV.sl Roe.rv;obtain⟨ag,cg,rfl,-,-,-⟩:=hz;refine cnd rfl (fun hq=>?_) (fun hq=>?_)
   ·have hG:=Cj hG hq
    refine bS hG fun o2 Eo2 hG=>Zr<|Zv (FY l11)<|Zm<|AAR (cs:=[.int .i64 (k:Int)]) Tryz.underlying41 Ap rfl (pc rfl pn) rfl rfl rfl rfl rfl fun bo wf hxf hgf hbf=>?_;have od:Row (α:=Int) 3 _ wf (.slice (some ⟨bo,0,none⟩) 1 1) [(k:Int)]:=Row.lit hgf hbf rfl (ble rfl);have sf:=hxf.size;refine ADq (l:=dn) (k:=([(k:Int)]:List Int)) rfl rfl Tryz.underlying41 Ap rfl rfl (Roe.ext hxf) (RV.els od.rv) Eo2 (by omega) fun v9 wg oe hBe hge hwe=>?_;have hz:=RV.sl oe.rv;obtain⟨av,cv,rfl,-,-,-⟩:=hz;have kg:Ext wb wg:=AFw (ke.tr hxf) hBe (Nat.le_refl _);have hb14g:=(hb14e.ext hxf).gr hge (by
     intro e;have:=Ro.lt b14 e.symm;omega)
    refine Za<|nl<|rg<|Zv (FY l12)<|Zv (BA rfl yu)<|Zv (AP rfl Bh ((Bx.cs hb14g).at 2 rfl))<|Zv (FH rfl rfl)<|Za<|nl<|rg<|Zv (FH l52 rfl)<|Zm<|nl<|lq m3 (by omega) ⟨k+1,o2,_,_,by omega,hG,congrArg _ had,l51,l50,l8,rfl,rfl,oe,kg⟩
   ·have hG:=DF hG hq
    refine wp_skip<|rg<|Zv (FH l52 rfl)<|Zm<|nl<|lq m3 (by omega) ⟨k+1,dn,c,_,by omega,hG,congrArg _ had,l51,l50,l8,l11,l12,Roe,ke⟩
  ·have hc:¬(k:Int)<(x0.2.1.length:Int):=by simpa using hc
   rw[List.drop_of_length_le (by omega),AEQ]at hG;cases hG;exact wp_exit<|lf ⟨_,l11,l12,Ro,kW⟩
 rintro LZ wZ⟨vo,l11,l12,RoZ,kZ⟩;have hz:=RV.sl RoZ.rv;obtain⟨ag,cg,rfl,-,-,-⟩:=hz;exact Zr<|Zv (FY l11)<|Zv (FY l12)<|Za<|Za<|Za<|nl<|wp_ret<|rt rfl (.tmp rfl rfl (.tmp rfl rfl (.tmp rfl rfl .nil))) ⟨_,rfl,RoZ.rv,kb.tr kZ⟩
end Go.Proofs.YtfmelbioccbdoaaGreat
end
section
namespace Go.Proofs.YtfmelbioccbdoaaGreat
open Go Go.Md Go.RowKit
def ABg(F:Nat):Option Bool:=
 (AEe F)>>=fun x1=>
 (gd x1 (AFt F) false)>>=fun x2=>
 (gd (x1&&x2) (AFu F) false)>>=fun x3=>
 some ((x1&&x2)&&x3)
def wV(F:Nat)(x0:(Int×(List (Int×Int×Int))×(List Int)×(List Int))):Nat->Int->(Int×(List (Int×Int×Int)))->Option ((Int×(List (Int×Int×Int))))
 |0,_,_=>none
 |m+1,y1,y2=>
  if(decide (y1<x0.1))=true then
   (((ABZ F x0.2.2.2 y1)>>=fun x8=>
   ((if x8=true then
    some 0
   else
    some 1:Option (Int))>>=fun y4=>
   (app 24 y2.2 ([(0,BH (y1+1),y4)]:List (Int×Int×Int)))>>=fun x9=>
   (ABZ F x0.2.2.1 y1)>>=fun x10=>
   ((if x10=true then
    (app 24 x9 ([(BH (y1+1),0,(-1))]:List (Int×Int×Int)))>>=fun x11=>
    some (y2.1,x11)
   else
    some (y2.1,x9):Option ((Int×(List (Int×Int×Int)))))>>=fun y5=>
   some (y5.1,y5.2))):Option ((Int×(List (Int×Int×Int)))))>>=fun y3=>
   wV F x0 m (BH (y1+1)) (y3.1,y3.2))
  else
   some (y2.1,y2.2)
def wW(F:Nat)(x0:(Int×(List (Int×Int×Int))×(List Int)×(List Int)))(x4:((List Int)×Int)):Nat->Int->(Int×(List (Int×Int×Int)))->Option ((Int×(List (Int×Int×Int))))
 |0,_,_=>none
 |m+1,y6,y7=>
  if(decide (y6<(x0.2.1.length:Int)))=true then
   (((ix x0.2.1 y6)>>=fun x12=>
   (ix x4.1 y6)>>=fun x13=>
   ((if(decide (x13<x12.2.2))=true then
    (app 24 y7.2 ([(BH (x12.2.1+1),BH (x12.1+1),0)]:List (Int×Int×Int)))>>=fun x14=>
    some (y7.1,x14)
   else
    some (y7.1,y7.2):Option ((Int×(List (Int×Int×Int)))))>>=fun y9=>
   (ix x4.1 y6)>>=fun x15=>
   ((if(decide ((BH (0-x12.2.2))<x15))=true then
    (app 24 y9.2 ([(BH (x12.1+1),BH (x12.2.1+1),0)]:List (Int×Int×Int)))>>=fun x16=>
    some (y9.1,x16)
   else
    some (y9.1,y9.2):Option ((Int×(List (Int×Int×Int)))))>>=fun y10=>
   some (y10.1,y10.2))):Option ((Int×(List (Int×Int×Int)))))>>=fun y8=>
   wW F x0 x4 m (BH (y6+1)) (y8.1,y8.2))
  else
   some (y7.1,y7.2)
def wX(F:Nat)(x0:(Int×(List (Int×Int×Int))×(List Int)×(List Int)))(x5:((List Int)×Int))(x18:((List Int)×Int))(x19:((List Int)×Int))(z2:(Int×(List (Int×Int×Int)))):Nat->(List Int)->(List Int)->Int->Option (Sum Bool ((List Int)×(List Int)))
 |0,_,_,_=>none
 |m+1,y11,y12,y13=>
  if(decide (y13<x0.1))=true then
   (((ACW F (z2.1,z2.2) (BH (y13+1)))>>=fun x22=>
   ((if(!decide (x22.2=0))=true then
    if true=true then
     some true
    else
     (ix x19.1 y13)>>=fun x23=>
     if(!decide (x22.1.2=x23))=true then
      some true
     else
      (ix x5.1 y13)>>=fun x24=>
      (ix x18.1 y13)>>=fun x25=>
      (ix x19.1 y13)>>=fun x26=>
      some (!decide (x24=(BH ((BH (x25+x26))-1))))
   else
    (ix x18.1 y13)>>=fun x27=>
    if(!decide (x22.1.1=x27))=true then
     if true=true then
      some true
     else
      (ix x5.1 y13)>>=fun x28=>
      (ix x18.1 y13)>>=fun x29=>
      (ix x19.1 y13)>>=fun x30=>
      some (!decide (x28=(BH ((BH (x29+x30))-1))))
    else
     (ix x19.1 y13)>>=fun x31=>
     if(!decide (x22.1.2=x31))=true then
      some true
     else
      (ix x5.1 y13)>>=fun x32=>
      (ix x18.1 y13)>>=fun x33=>
      (ix x19.1 y13)>>=fun x34=>
      some (!decide (x32=(BH ((BH (x33+x34))-1)))):Option (Bool))>>=fun y16=>
   if y16=true then
    some (.inl false)
   else
    (ix x18.1 y13)>>=fun x35=>
    ((if(decide (x35=1))=true then
     (app 8 y11 ([y13]:List Int))>>=fun x36=>
     some (x36,y12)
    else
     some (y11,y12):Option ((List Int)×(List Int)))>>=fun(y17,y18)=>
    (ix x19.1 y13)>>=fun x37=>
    ((if(decide (x37=1))=true then
     (app 8 y18 ([y13]:List Int))>>=fun x38=>
     some (y17,x38)
    else
     some (y17,y18):Option ((List Int)×(List Int)))>>=fun(y19,y20)=>
    some (.inr (y19,y20))))):Option (Sum Bool ((List Int)×(List Int))))>>=fun o=>match o with
    |.inl r=>some (.inl r)
    |.inr (y14,y15)=>
     wX F x0 x5 x18 x19 z2 m y14 y15 (BH (y13+1)))
  else
   some (.inr (y11,y12))
def ABJ(F:Nat)(x0:(Int×(List (Int×Int×Int))×(List Int)×(List Int))):Option Bool:=
 (AB1 F (x0.1,x0.2.1,x0.2.2.1,x0.2.2.2))>>=fun x2=>
 if((!x2)||(decide (20<x0.1)))=true then
  (ABg F)>>=fun x3=>
  some x3
 else
  (ACO F (x0.1,x0.2.1,x0.2.2.1,x0.2.2.2))>>=fun x4=>
  (ACf F (x0.1,x0.2.1,x0.2.2.1,x0.2.2.2))>>=fun x5=>
  (ACg F (x0.1,x0.2.1,x0.2.2.1,x0.2.2.2))>>=fun x6=>
  (AA9 F (x0.1,x0.2.1,x0.2.2.1,x0.2.2.2) x4.1)>>=fun x7=>
  if((((((!decide (x4.2=0))||(!decide (x5.2=0)))||(!decide (x6.2.2=0)))||(!decide (x7.2=0)))||(!decide (x7.1=x6.2.1)))||(!decide ((x5.1.length:Int)=x0.1)))=true then
   some false
  else
   ((wV F x0 F 0 (x0.1,[]))>>=fun z1=>
   ((wW F x0 x4 F 0 (z1.1,z1.2))>>=fun z2=>
   if(decide (60<(z2.2.length:Int)))=true then
    (ABg F)>>=fun x17=>
    some x17
   else
    (ABS F (z2.1,z2.2) false)>>=fun x18=>
    (ABS F (z2.1,z2.2) true)>>=fun x19=>
    (gd (!((!decide (x18.2=0))||(!decide (x19.2=0)))) (zY F (z2.1,z2.2) x18.1) 0)>>=fun x20=>
    (gd (!(((!decide (x18.2=0))||(!decide (x19.2=0)))||(!decide (x20=0)))) (zY F (z2.1,z2.2) x19.1) 0)>>=fun x21=>
    if((((!decide (x18.2=0))||(!decide (x19.2=0)))||(!decide (x20=0)))||(!decide (x21=0)))=true then
     some false
    else
     ((wX F x0 x5 x18 x19 z2 F ([]) ([]) 0)>>=fun o=>match o with
      |.inl r=>some r
      |.inr (z3,z4)=>
       (AD7 F (x0.1,x0.2.1,x0.2.2.1,x0.2.2.2) z4)>>=fun x39=>
       (gd ((decide (x39.2.2=0))&&(decide (x39.2.1=x6.2.1))) (ACa F z3 x6.1) false)>>=fun x40=>
       (gd (((decide (x39.2.2=0))&&(decide (x39.2.1=x6.2.1)))&&x40) (ABg F) false)>>=fun x41=>
       some ((((decide (x39.2.2=0))&&(decide (x39.2.1=x6.2.1)))&&x40)&&x41))))
end Go.Proofs.YtfmelbioccbdoaaGreat
end
section
namespace Go.Proofs.YtfmelbioccbdoaaGreat
open Go Go.Md Go.RowKit
attribute [local irreducible] Go.wpList Go.Code.wp Go.Calls Go.Md.gK Go.Md.Mt Go.Md.vN Go.Md.PE Go.Code.wpIn
theorem c74{w0:World}{F:Nat}{r:Bool}(hF:ABg F=some r):
  Calls Tryz.prog 74 [].toArray w0 (IA fun v w'=>v=.bool r/\Ext w0 w'):=by
 unfold ABg at hF;refine I9 (n:=8) Tryz.func74 rfl rfl rfl<|Zr<|Za<|nl<|Zr<|bS hF fun x1 Ex1 hF=>Zc (xc ATT mn) (c35 Ex1) ?_;rintro _ w1⟨rfl,hx1⟩;refine Zm<|bS hF fun x2 Ex2 hF=>gc rfl rfl rfl rfl (xB rfl) rfl (fun hc=>xc AR0 mn) (fun hc=>(ASw (gdp Ex2 hc))) (fun v1 w2 hy1 hn1=>?_);have hx2:Ext w1 w2:=gx (fun h=>(hy1 h).2) (fun h=>(hn1 h).2▸Ext.refl _);have e1:=mkw (fun h=>(hy1 h).1) (fun h=>(hn1 h).1);have k1:=hx1.tr hx2;refine Zv (xpa rfl e1 rfl)<|Zm<|bS hF fun x3 Ex3 hF=>gc rfl rfl rfl rfl (xB rfl) rfl (fun hc=>xc AR1 mn) (fun hc=>(ASx (gdp Ex3 hc))) (fun v2 w3 hy2 hn2=>?_);have hx3:Ext w2 w3:=gx (fun h=>(hy2 h).2) (fun h=>(hn2 h).2▸Ext.refl _);have e2:=mkw (fun h=>(hy2 h).1) (fun h=>(hn2 h).1);have k2:=k1.tr hx3;refine Zv (xpa rfl e2 rfl)<|Za<|nl<|?_;cases hF;exact wp_ret<|Zw rfl rfl rfl ⟨rfl,k2⟩
theorem c12{w0:World}{v0:Value}{x0:(Int×(List (Int×Int×Int))×(List Int)×(List Int))}(r0:RV w0 v0 x0){F:Nat}{r:Bool}(hF:ABJ F x0=some r):
  Calls Tryz.prog 12 [v0].toArray w0 (IA fun v w'=>v=.bool r/\Ext w0 w'):=by
 unfold ABJ at hF;have hz:=id r0;obtain⟨_,rfl,_,_,rfl,rfl,_,_,rfl,⟨a1,cq1,rfl,p1,q2,e1⟩,_,_,rfl,⟨a2,cq2,rfl,p2,q3,e2⟩,a3,cq3,rfl,p3,q4,e3⟩:=hz;have r2:=RV.of1 p1 q2 e1;have r3:=RV.of1 p2 q3 e2;have r4:=RV.of1 p3 q4 e3;refine I9 (n:=292) Tryz.func12 rfl rfl rfl<|Zr<|yX rfl rfl fun b2 w1 hx1 hg1 hb1=>?_;have r5:=r2.ext hx1;have r6:=r3.ext hx1;have r7:=r4.ext hx1;refine Za<|nl<|wp_seq<|Zr<|Zv (Jq rfl AA0 rfl (Bx.cs hb1))<|bS hF fun x2 Ex2 hF=>Zc (xc ATV (mc rfl mn)) (c73 (show RV (α:=(Int×(List (Int×Int×Int))×(List Int)×(List Int))) _ (.agg [.int .i64 x0.1,.slice a1 x0.2.1.length cq1,.slice a2 x0.2.2.1.length cq2,.slice a3 x0.2.2.2.length cq3].toArray) (x0.1,x0.2.1,x0.2.2.1,x0.2.2.2)from⟨_,rfl,[.int .i64 x0.1],[.slice a1 x0.2.1.length cq1]++([.slice a2 x0.2.2.1.length cq2]++[.slice a3 x0.2.2.2.length cq3]),rfl,rfl,[.slice a1 x0.2.1.length cq1],[.slice a2 x0.2.2.1.length cq2]++[.slice a3 x0.2.2.2.length cq3],rfl,r5.rep1,[.slice a2 x0.2.2.1.length cq2],[.slice a3 x0.2.2.2.length cq3],rfl,r6.rep1,r7.rep1⟩) Ex2) ?_;rintro _ w2⟨rfl,hx2⟩;have k1:=hx1.tr hx2;have hb2:=hb1.ext hx2;have r9:=r5.ext hx2;have r10:=r6.ext hx2;have r11:=r7.ext hx2;refine Zv (wP rfl)<|Zm<|Zg rfl rfl (EO rfl) (fun hc=>BA rfl vV)<|Zg rfl rfl (EO rfl) (fun hc=>AP (mv hc rfl) Ap ((Bx.cs hb2).at 0 rfl))<|Zg rfl rfl (EO rfl) (fun hc=>xU (mv hc rfl) rfl)<|Zv (xpo rfl rfl rfl)<|nl<|cnd rfl (fun h2=>?_) (fun h2=>?_)
 ·have hF:=Cj hF h2;refine Zr<|bS hF fun x3 Ex3 hF=>Zc (xc ANj mn) (c74 Ex3) ?_;rintro _ w3⟨rfl,hx3⟩;have k2:=k1.tr hx3;refine Za<|nl<|?_;cases hF;exact wp_ret<|Zw rfl rfl rfl ⟨rfl,k2⟩
 ·have hF:=DF hF h2;refine wp_skip<|Zr<|Zv (Jq rfl AA0 rfl (Bx.cs hb2))<|bS hF fun x4 Ex4 hF=>Zc (xc ATW (mc rfl mn)) (c75 (show RV (α:=(Int×(List (Int×Int×Int))×(List Int)×(List Int))) _ (.agg [.int .i64 x0.1,.slice a1 x0.2.1.length cq1,.slice a2 x0.2.2.1.length cq2,.slice a3 x0.2.2.2.length cq3].toArray) (x0.1,x0.2.1,x0.2.2.1,x0.2.2.2)from⟨_,rfl,[.int .i64 x0.1],[.slice a1 x0.2.1.length cq1]++([.slice a2 x0.2.2.1.length cq2]++[.slice a3 x0.2.2.2.length cq3]),rfl,rfl,[.slice a1 x0.2.1.length cq1],[.slice a2 x0.2.2.1.length cq2]++[.slice a3 x0.2.2.2.length cq3],rfl,r9.rep1,[.slice a2 x0.2.2.1.length cq2],[.slice a3 x0.2.2.2.length cq3],rfl,r10.rep1,r11.rep1⟩) Ex4) ?_;rintro _ w4⟨u1,rfl,r12,hx4⟩;have k3:=k1.tr hx4;have hb3:=hb2.ext hx4;have r13:=r9.ext hx4;have r14:=r10.ext hx4;have r15:=r11.ext hx4;have hz:=RV.sl r12;obtain⟨a4,cq4,rfl,-,-,-⟩:=hz;refine Zm<|Zv (xC rfl rfl)<|Zv (xC rfl rfl)<|Za<|Za<|nl<|Zr<|Zv (Jq rfl AA0 rfl (Bx.cs hb3))<|bS hF fun x5 Ex5 hF=>Zc (xc ATX (mc rfl mn)) (c76 (show RV (α:=(Int×(List (Int×Int×Int))×(List Int)×(List Int))) _ (.agg [.int .i64 x0.1,.slice a1 x0.2.1.length cq1,.slice a2 x0.2.2.1.length cq2,.slice a3 x0.2.2.2.length cq3].toArray) (x0.1,x0.2.1,x0.2.2.1,x0.2.2.2)from⟨_,rfl,[.int .i64 x0.1],[.slice a1 x0.2.1.length cq1]++([.slice a2 x0.2.2.1.length cq2]++[.slice a3 x0.2.2.2.length cq3]),rfl,rfl,[.slice a1 x0.2.1.length cq1],[.slice a2 x0.2.2.1.length cq2]++[.slice a3 x0.2.2.2.length cq3],rfl,r13.rep1,[.slice a2 x0.2.2.1.length cq2],[.slice a3 x0.2.2.2.length cq3],rfl,r14.rep1,r15.rep1⟩) Ex5) ?_;rintro _ w5⟨u2,rfl,r16,hx5⟩;have k4:=k3.tr hx5;have hb4:=hb3.ext hx5;have r17:=r13.ext hx5;have r18:=r14.ext hx5;have r19:=r15.ext hx5;have r20:=r12.ext hx5;have hz:=RV.sl r16;obtain⟨a5,cq5,rfl,-,-,-⟩:=hz;refine Zm<|Zv (xC rfl rfl)<|Zv (xC rfl rfl)<|Za<|Za<|nl<|Zr<|Zv (Jq rfl AA0 rfl (Bx.cs hb4))<|bS hF fun x6 Ex6 hF=>Zc (xc ATY (mc rfl mn)) (c77 (show RV (α:=(Int×(List (Int×Int×Int))×(List Int)×(List Int))) _ (.agg [.int .i64 x0.1,.slice a1 x0.2.1.length cq1,.slice a2 x0.2.2.1.length cq2,.slice a3 x0.2.2.2.length cq3].toArray) (x0.1,x0.2.1,x0.2.2.1,x0.2.2.2)from⟨_,rfl,[.int .i64 x0.1],[.slice a1 x0.2.1.length cq1]++([.slice a2 x0.2.2.1.length cq2]++[.slice a3 x0.2.2.2.length cq3]),rfl,rfl,[.slice a1 x0.2.1.length cq1],[.slice a2 x0.2.2.1.length cq2]++[.slice a3 x0.2.2.2.length cq3],rfl,r17.rep1,[.slice a2 x0.2.2.1.length cq2],[.slice a3 x0.2.2.2.length cq3],rfl,r18.rep1,r19.rep1⟩) Ex6) ?_;rintro _ w6⟨u3,rfl,r21,hx6⟩;have k5:=k4.tr hx6;have hb5:=hb4.ext hx6;have r22:=r17.ext hx6;have r23:=r18.ext hx6;have r24:=r19.ext hx6;have r25:=r20.ext hx6;have r26:=r16.ext hx6;have hz:=RV.sl r21;obtain⟨a6,cq6,rfl,-,-,-⟩:=hz;refine Zm<|Zv (xC rfl rfl)<|Zv (xC rfl rfl)<|Zv (xC rfl rfl)<|Za<|Za<|Za<|nl<|Zr<|Zv (Jq rfl AA0 rfl (Bx.cs hb5))<|Zm<|bS hF fun x7 Ex7 hF=>Zc (xc ATZ (mc rfl (mc rfl mn))) (c78 (show RV (α:=(Int×(List (Int×Int×Int))×(List Int)×(List Int))) _ (.agg [.int .i64 x0.1,.slice a1 x0.2.1.length cq1,.slice a2 x0.2.2.1.length cq2,.slice a3 x0.2.2.2.length cq3].toArray) (x0.1,x0.2.1,x0.2.2.1,x0.2.2.2)from⟨_,rfl,[.int .i64 x0.1],[.slice a1 x0.2.1.length cq1]++([.slice a2 x0.2.2.1.length cq2]++[.slice a3 x0.2.2.2.length cq3]),rfl,rfl,[.slice a1 x0.2.1.length cq1],[.slice a2 x0.2.2.1.length cq2]++[.slice a3 x0.2.2.2.length cq3],rfl,r22.rep1,[.slice a2 x0.2.2.1.length cq2],[.slice a3 x0.2.2.2.length cq3],rfl,r23.rep1,r24.rep1⟩) r25 Ex7) ?_;rintro _ w7⟨rfl,hx7⟩;have k6:=k5.tr hx7;have hb6:=hb5.ext hx7;have r27:=r22.ext hx7;have r28:=r23.ext hx7;have r29:=r24.ext hx7;have r30:=r25.ext hx7;have r31:=r26.ext hx7;have r32:=r21.ext hx7;refine Zm<|Zv (xC rfl rfl)<|Zv (xC rfl rfl)<|Za<|Za<|nl<|wp_seq<|Zr<|Zm<|Zv (wO rfl rfl)<|Zm<|Zg rfl rfl (EO rfl) (fun hc=>FY rfl)<|Zg rfl rfl (EO rfl) (fun hc=>wO (mv hc rfl) rfl)<|Zv (xpo rfl rfl rfl)<|Zm<|Zg rfl rfl (EO rfl) (fun hc=>FY rfl)<|Zg rfl rfl (EO rfl) (fun hc=>wO (mv hc rfl) rfl)<|Zv (xpo rfl rfl rfl)<|Zm<|Zg rfl rfl (EO rfl) (fun hc=>FY rfl)<|Zg rfl rfl (EO rfl) (fun hc=>wO (mv hc rfl) rfl)<|Zv (xpo rfl rfl rfl)<|Zm<|Zg rfl rfl (EO rfl) (fun hc=>FY rfl)<|Zg rfl rfl (EO rfl) (fun hc=>FY rfl)<|Zg rfl rfl (EO rfl) (fun hc=>wO (mv hc rfl) (mv hc rfl))<|Zv (xpo rfl rfl rfl)<|Zm<|Zg rfl rfl (EO rfl) (fun hc=>FY rfl)<|Zg rfl rfl (EO rfl) (fun hc=>Kz (mv hc rfl) Tryz.underlying41)<|Zg rfl rfl (EO rfl) (fun hc=>BA rfl vV)<|Zg rfl rfl (EO rfl) (fun hc=>AP (mv hc rfl) Ap ((Bx.cs hb6).at 0 rfl))<|Zg rfl rfl (EO rfl) (fun hc=>wO (mv hc rfl) (mv hc rfl))<|Zv (xpo rfl rfl rfl)<|nl<|cnd rfl (fun h3=>?_) (fun h3=>?_)
  ·have hF:=Cj hF h3;refine Zr<|Za<|nl<|?_;cases hF;exact wp_ret<|Zw rfl rfl rfl ⟨rfl,k6⟩
  ·have hF:=DF hF h3;refine wp_skip<|Zr<|Zv (BA rfl vV)<|Zv (AP rfl Ap ((Bx.cs hb6).at 0 rfl))<|Zv (AAe (r:=[.int .i64 x0.1,.slice none 0 0]) AB5 ATQ (pc rfl pn) rfl)<|yY AB5 fun b3 w8 hx8 hg2 hb7=>xk rfl rfl rfl AB5 hb7 rfl rfl (ble rfl) fun w9 hch1 hb9=>?_;have k9:=Ext.chg hx8 hch1 (Nat.le_trans (Nat.le_refl _) hg2);have hb11:Bx w9 b3 24 [.int .i64 x0.1,.slice none 0 0]:=hb9;refine nl<|wp_seq<|Zr<|Za<|nl<|bS hF fun z1 hB1 hF=>ct (fun L w=>∃v3:Value,Bx w b3 24 [.int .i64 z1.1,v3]/\Row 58 w9.heap.size w v3 z1.2/\some b3≠Value.ownBlock v3/\L 1=.pointer (some ⟨b2,0,none⟩)/\L 3=.slice a4 x4.1.length cq4/\L 5=.slice a5 x5.1.length cq5/\L 7=.slice a6 x6.1.length cq6/\L 8=.int .i64 x6.2.1/\L 12=.pointer (some ⟨b3,0,none⟩)/\w9.heap.size<=w.heap.size/\Ext w7 w) ?_ ?_
   ·refine wp_block<|lp (I:=fun m L w=>∃y1:Int,∃y2:(Int×(List (Int×Int×Int))),∃v2:Value,wV F x0 m y1 y2=some z1/\L 13=.int .i64 y1/\Bx w b3 24 [.int .i64 y2.1,v2]/\Row 58 w9.heap.size w v2 y2.2/\some b3≠Value.ownBlock v2/\L 1=.pointer (some ⟨b2,0,none⟩)/\L 3=.slice a4 x4.1.length cq4/\L 5=.slice a5 x5.1.length cq5/\L 7=.slice a6 x6.1.length cq6/\L 8=.int .i64 x6.2.1/\L 12=.pointer (some ⟨b3,0,none⟩)/\w9.heap.size<=w.heap.size/\Ext w7 w) F ⟨_,_,_,hB1,rfl,hb11,Row.nil,(fun e=>by cases e),rfl,rfl,rfl,rfl,rfl,rfl,(Nat.le_refl _),k9⟩ ?_;rintro m L w10⟨y1,y2,v2,hB1,l13_i1,B12_i1,O12c1_i1,N12c1_i1,l1_i1,l3_i1,l5_i1,l7_i1,l8_i1,l12_i1,Z0_i1,K0_i1⟩;rcases m with _|m
    ·rw[wV]at hB1;cases hB1
    rw[wV]at hB1;have r47:=r29.ext K0_i1;have hb12:=hb6.ext K0_i1;have hz:=RV.sl O12c1_i1.rv;obtain⟨a7,cq7,rfl,-,-,-⟩:=hz;refine wp_seq<|Zr<|Zm<|Zv (BA l1_i1 vV)<|Zv (AP rfl Ap ((Bx.cs hb12).at 0 rfl))<|Zv (Oi l13_i1 rfl)<|nl<|cnd rfl (fun h4=>?_) (fun h4=>?_)
    ·have hB1:=Cj hB1 h4;refine wp_skip<|wp_seq<|bS hB1 fun y3 hB3 hB1=>ct (fun L w=>∃v4:Value,Bx w b3 24 [.int .i64 y3.1,v4]/\Row 58 w9.heap.size w v4 y3.2/\some b3≠Value.ownBlock v4/\L 1=.pointer (some ⟨b2,0,none⟩)/\L 3=.slice a4 x4.1.length cq4/\L 5=.slice a5 x5.1.length cq5/\L 7=.slice a6 x6.1.length cq6/\L 8=.int .i64 x6.2.1/\L 12=.pointer (some ⟨b3,0,none⟩)/\L 13=.int .i64 y1/\w9.heap.size<=w.heap.size/\Ext w7 w) ?_ ?_
     ·refine wp_block<|Zr<|Za<|nl<|wp_seq<|Zr<|Zv (BA l1_i1 AAo)<|Zv (AP rfl Le ((Bx.cs hb12).at 3 rfl))<|Zm<|bS hB3 fun x8 Ex8 hB3=>Zc (xc AI2 (mc rfl (mc l13_i1 mn))) (c79 r47 Ex8) ?_;rintro _ w11⟨rfl,hx9⟩;have k12:=K0_i1.tr hx9;have zs1:=Nat.le_trans Z0_i1 hx9.size;have B1:=B12_i1.ext hx9;have O1:=O12c1_i1.ext hx9;refine nl<|bS hB3 fun y4 hB4 hB3=>ct (fun L w=>L 14=.int .i64 y4/\L 1=.pointer (some ⟨b2,0,none⟩)/\L 3=.slice a4 x4.1.length cq4/\L 5=.slice a5 x5.1.length cq5/\L 7=.slice a6 x6.1.length cq6/\L 8=.int .i64 x6.2.1/\L 12=.pointer (some ⟨b3,0,none⟩)/\L 13=.int .i64 y1/\w9.heap.size<=w.heap.size/\Ext w11 w) ?_ ?_
      ·refine cnd rfl (fun h5=>?_) (fun h5=>?_)
       ·have hB4:=Cj hB4 h5;refine rg<|Za<|nl<|?_;cases hB4;refine lf<|?_;exact⟨rfl,l1_i1,l3_i1,l5_i1,l7_i1,l8_i1,l12_i1,l13_i1,zs1,(Ext.refl _)⟩
       ·have hB4:=DF hB4 h5;refine wp_skip<|?_;cases hB4;refine lf<|?_;exact⟨rfl,l1_i1,l3_i1,l5_i1,l7_i1,l8_i1,l12_i1,l13_i1,zs1,(Ext.refl _)⟩
      rintro L w12⟨l14_j1,l1_j1,l3_j1,l5_j1,l7_j1,l8_j1,l12_j1,l13_j1,Z0_j1,K0_j1⟩;have k14:=k12.tr K0_j1;have O2:=O1.ext K0_j1;have B2:=B1.ext K0_j1;refine Zr<|Zv (BA l12_j1 AAH)<|Zv (AP rfl AAw ((Bx.cs B2).at 1 rfl))<|Zm<|Zv (FH l13_j1 rfl)<|Zm<|Zv (AAe (r:=[.int .i64 0,.int .i64 (BH (y1+1)),.int .i64 y4]) xY AHj (pc rfl (pc rfl (pc l14_j1 pn))) rfl)<|AAR (cs:=[.int .i64 0,.int .i64 (BH (y1+1)),.int .i64 y4]) Tryz.underlying22 xY rfl (pc rfl pn) rfl rfl rfl rfl rfl fun b4 w13 hx10 hg3 hb15=>?_;have k17:=k14.tr hx10;have zs2:=Nat.le_trans Z0_j1 hx10.size;have B3:=B2.ext hx10;have O3:=O2.ext hx10;have o2:Row (α:=(Int×Int×Int)) 58 w12.heap.size w13 (.slice (some ⟨b4,0,none⟩) 1 1) [(0,BH (y1+1),y4)]:=Row.lit hg3 hb15 rfl (ble rfl);refine bS hB3 fun x9 Ex9 hB3=>ADq (l:=y2.2) (k:=([(0,BH (y1+1),y4)]:List (Int×Int×Int))) rfl rfl Tryz.underlying22 xY rfl rfl O3 (RV.els o2.rv) Ex9 zs2 fun v5 w14 o3 hB7 hgr1 how1=>?_;have k21:=Ext.grow k17 k9.size hB7;have zs3:=Nat.le_trans zs2 hgr1.size;have ne1:=AFa how1 N12c1_i1 B3.lt;have hb18:=Bx.gr B3 hgr1 N12c1_i1;have hz:=RV.sl o3.rv;obtain⟨a8,cq8,rfl,-,-,-⟩:=hz;refine Zv (BA l12_j1 AAH)<|xk rfl rfl rfl AAw hb18 rfl rfl (ble rfl) fun w15 hch2 hb19=>?_;have k23:=Ext.chg k21 hch2 (Nat.le_trans (Nat.le_refl _) hg2);have zs4:=Nat.le_trans zs3 (Nat.le_of_eq hch2.size.symm);have hb20:=hb6.ext k23;have r77:=r28.ext k23;have o4:=Row.chgn o3 hch2 ne1;have hb21:Bx w15 b3 24 [.int .i64 y2.1,.slice a8 x9.length cq8]:=hb19;refine nl<|Zr<|Zv (BA l1_j1 yT)<|Zv (AP rfl Le ((Bx.cs hb20).at 2 rfl))<|Zm<|bS hB3 fun x10 Ex10 hB3=>Zc (xc AI2 (mc rfl (mc l13_j1 mn))) (c79 r77 Ex10) ?_;rintro _ w16⟨rfl,hx11⟩;have k25:=k23.tr hx11;have zs5:=Nat.le_trans zs4 hx11.size;have hb23:=hb21.ext hx11;have o5:=o4.ext hx11;refine nl<|bS hB3 fun y5 hB8 hB3=>ct (fun L w=>∃v6:Value,Bx w b3 24 [.int .i64 y5.1,v6]/\Row 58 w9.heap.size w v6 y5.2/\some b3≠Value.ownBlock v6/\L 1=.pointer (some ⟨b2,0,none⟩)/\L 3=.slice a4 x4.1.length cq4/\L 5=.slice a5 x5.1.length cq5/\L 7=.slice a6 x6.1.length cq6/\L 8=.int .i64 x6.2.1/\L 12=.pointer (some ⟨b3,0,none⟩)/\L 13=.int .i64 y1/\w9.heap.size<=w.heap.size/\Ext w7 w) ?_ ?_
      ·refine cnd rfl (fun h6=>?_) (fun h6=>?_)
       ·have hB8:=Cj hB8 h6;refine rg<|Zv (BA l12_j1 AAH)<|Zv (AP rfl AAw ((Bx.cs hb23).at 1 rfl))<|Zm<|Zv (FH l13_j1 rfl)<|Zv (AAe (r:=[.int .i64 (BH (y1+1)),.int .i64 0,.int .i64 (-1)]) xY AHj (pc rfl (pc rfl (pc rfl pn))) rfl)<|AAR (cs:=[.int .i64 (BH (y1+1)),.int .i64 0,.int .i64 (-1)]) Tryz.underlying22 xY rfl (pc rfl pn) rfl rfl rfl rfl rfl fun b5 w17 hx12 hg4 hb24=>?_;have k27:=k25.tr hx12;have zs6:=Nat.le_trans zs5 hx12.size;have hb26:=hb23.ext hx12;have o6:=o5.ext hx12;have o7:Row (α:=(Int×Int×Int)) 58 w16.heap.size w17 (.slice (some ⟨b5,0,none⟩) 1 1) [(BH (y1+1),0,(-1))]:=Row.lit hg4 hb24 rfl (ble rfl);refine bS hB8 fun x11 Ex11 hB8=>ADq (l:=x9) (k:=([(BH (y1+1),0,(-1))]:List (Int×Int×Int))) rfl rfl Tryz.underlying22 xY rfl rfl o6 (RV.els o7.rv) Ex11 zs6 fun v7 w18 o8 hB10 hgr2 how2=>?_;have k29:=Ext.grow k27 k9.size hB10;have zs7:=Nat.le_trans zs6 hgr2.size;have ne2:=AFa how2 ne1 hb26.lt;have hb28:=Bx.gr hb26 hgr2 ne1;have hz:=RV.sl o8.rv;obtain⟨a9,cq9,rfl,-,-,-⟩:=hz;refine Zv (BA l12_j1 AAH)<|xk rfl rfl rfl AAw hb28 rfl rfl (ble rfl) fun w19 hch3 hb29=>?_;have k31:=Ext.chg k29 hch3 (Nat.le_trans (Nat.le_refl _) hg2);have zs8:=Nat.le_trans zs7 (Nat.le_of_eq hch3.size.symm);have o9:=Row.chgn o8 hch3 ne2;have hb31:Bx w19 b3 24 [.int .i64 y2.1,.slice a9 x11.length cq9]:=hb29;refine nl<|?_;cases hB8;refine lf<|?_;exact⟨_,hb31,o9,ne2,l1_j1,l3_j1,l5_j1,l7_j1,l8_j1,l12_j1,l13_j1,zs8,k31⟩
       ·have hB8:=DF hB8 h6;refine wp_skip<|?_;cases hB8;refine lf<|?_;exact⟨_,hb23,o5,ne1,l1_j1,l3_j1,l5_j1,l7_j1,l8_j1,l12_j1,l13_j1,zs5,k25⟩
      rintro L w20⟨v6,B12_j2,O12c1_j2,N12c1_j2,l1_j2,l3_j2,l5_j2,l7_j2,l8_j2,l12_j2,l13_j2,Z0_j2,K0_j2⟩;have hz:=RV.sl O12c1_j2.rv;obtain⟨a10,cq10,rfl,-,-,-⟩:=hz;cases hB3;refine lf<|?_;exact⟨_,B12_j2,O12c1_j2,N12c1_j2,l1_j2,l3_j2,l5_j2,l7_j2,l8_j2,l12_j2,l13_j2,Z0_j2,K0_j2⟩
     rintro L w21⟨v4,B12_j3,O12c1_j3,N12c1_j3,l1_j3,l3_j3,l5_j3,l7_j3,l8_j3,l12_j3,l13_j3,Z0_j3,K0_j3⟩;have hz:=RV.sl O12c1_j3.rv;obtain⟨a11,cq11,rfl,-,-,-⟩:=hz;refine rg<|Zm<|Zv (FH l13_j3 rfl)<|Za<|nl<|lq m (Nat.lt_succ_self _)<|?_;exact⟨_,_,_,hB1,rfl,B12_j3,O12c1_j3,N12c1_j3,l1_j3,l3_j3,l5_j3,l7_j3,l8_j3,l12_j3,Z0_j3,K0_j3⟩
    ·have hB1:=DF hB1 h4;refine wp_exit<|?_;cases hB1;refine lf<|?_;exact⟨_,B12_i1,O12c1_i1,N12c1_i1,l1_i1,l3_i1,l5_i1,l7_i1,l8_i1,l12_i1,Z0_i1,K0_i1⟩
   rintro L w22⟨v3,B12_j4,O12c1_j4,N12c1_j4,l1_j4,l3_j4,l5_j4,l7_j4,l8_j4,l12_j4,Z0_j4,K0_j4⟩;have hz:=RV.sl O12c1_j4.rv;obtain⟨a12,cq12,rfl,-,-,-⟩:=hz;refine wp_seq<|Zr<|Za<|nl<|bS hF fun z2 hB13 hF=>ct (fun L w=>∃v9:Value,Bx w b3 24 [.int .i64 z2.1,v9]/\Row 58 w9.heap.size w v9 z2.2/\some b3≠Value.ownBlock v9/\L 1=.pointer (some ⟨b2,0,none⟩)/\L 5=.slice a5 x5.1.length cq5/\L 7=.slice a6 x6.1.length cq6/\L 8=.int .i64 x6.2.1/\L 12=.pointer (some ⟨b3,0,none⟩)/\w9.heap.size<=w.heap.size/\Ext w7 w) ?_ ?_
   ·refine wp_block<|lp (I:=fun m L w=>∃y6:Int,∃y7:(Int×(List (Int×Int×Int))),∃v8:Value,wW F x0 x4 m y6 y7=some z2/\L 15=.int .i64 y6/\Bx w b3 24 [.int .i64 y7.1,v8]/\Row 58 w9.heap.size w v8 y7.2/\some b3≠Value.ownBlock v8/\L 1=.pointer (some ⟨b2,0,none⟩)/\L 3=.slice a4 x4.1.length cq4/\L 5=.slice a5 x5.1.length cq5/\L 7=.slice a6 x6.1.length cq6/\L 8=.int .i64 x6.2.1/\L 12=.pointer (some ⟨b3,0,none⟩)/\w9.heap.size<=w.heap.size/\Ext w7 w) F ⟨_,_,_,hB13,rfl,B12_j4,O12c1_j4,N12c1_j4,l1_j4,l3_j4,l5_j4,l7_j4,l8_j4,l12_j4,Z0_j4,K0_j4⟩ ?_;rintro m L w23⟨y6,y7,v8,hB13,l15_i2,B12_i2,O12c1_i2,N12c1_i2,l1_i2,l3_i2,l5_i2,l7_i2,l8_i2,l12_i2,Z0_i2,K0_i2⟩;rcases m with _|m
    ·rw[wW]at hB13;cases hB13
    rw[wW]at hB13;have k35:=k6.tr K0_i2;have hb35:=hb6.ext K0_i2;have hz:=RV.sl O12c1_i2.rv;obtain⟨a13,cq13,rfl,-,-,-⟩:=hz;refine wp_seq<|Zr<|Zm<|Zv (BA l1_i2 yj)<|Zv (AP rfl AAz ((Bx.cs hb35).at 1 rfl))<|Zv (Kz rfl Tryz.underlying135)<|Zv (Oi l15_i2 rfl)<|nl<|cnd rfl (fun h7=>?_) (fun h7=>?_)
    ·have hB13:=Cj hB13 h7;refine wp_skip<|wp_seq<|bS hB13 fun y8 hB15 hB13=>ct (fun L w=>∃v10:Value,Bx w b3 24 [.int .i64 y8.1,v10]/\Row 58 w9.heap.size w v10 y8.2/\some b3≠Value.ownBlock v10/\L 1=.pointer (some ⟨b2,0,none⟩)/\L 3=.slice a4 x4.1.length cq4/\L 5=.slice a5 x5.1.length cq5/\L 7=.slice a6 x6.1.length cq6/\L 8=.int .i64 x6.2.1/\L 12=.pointer (some ⟨b3,0,none⟩)/\L 15=.int .i64 y6/\w9.heap.size<=w.heap.size/\Ext w7 w) ?_ ?_
     ·refine wp_block<|Zr<|Zv (BA l1_i2 yj)<|Zv (AP rfl AAz ((Bx.cs hb35).at 1 rfl))<|Zm<|bS hB15 fun x12 Ex12 hB15=>?_;have hz:=(RV.els r2).ix Ex12;obtain⟨b6,f1,cs2,e4,i3,i4,q5,hc1⟩:=hz;cases e4;obtain⟨_,_,rfl,rfl,_,_,rfl,rfl,rfl⟩:=q5;have hc2:=hc1.ext k35;refine Zv (Dq rfl l15_i2 Tryz.underlying135 wQ i3 i4)<|Zv (Jq rfl wQ rfl hc2)<|yY wQ fun b7 w24 hx13 hg5 hb36=>?_;have k37:=K0_i2.tr hx13;have zs9:=Nat.le_trans Z0_i2 hx13.size;refine xk rfl rfl rfl wQ hb36 rfl rfl (ble rfl) fun w25 hch4 hb38=>?_;have k39:=Ext.chg k37 hch4 (Nat.le_trans K0_i2.size hg5);have k40:=Ext.chg hx13 hch4 (Nat.le_trans (Nat.le_refl _) hg5);have zs10:=Nat.le_trans zs9 (Nat.le_of_eq hch4.size.symm);have B5:=B12_i2.ext k40;have O5:=O12c1_i2.ext k40;have hb40:Bx w25 b7 147 [.int .i64 x12.1,.int .i64 x12.2.1,.int .i64 x12.2.2]:=hb38;refine nl<|wp_seq<|wp_seq<|wpl [] (.pure true 0 (.pure true 1 (.pure true 2 (.pure false 3 (.pure true 4 (.pure false 5 (.pure true 6 .fin))))))) mixed (by kernel_rfl) (fun w26 hx14=>?_);have k42:=k39.tr hx14;have zs11:=Nat.le_trans zs10 hx14.size;have B6:=B5.ext hx14;have O6:=O5.ext hx14;have hb42:=hb40.ext hx14;refine Zn rfl<|Zn rfl<|bS hB15 fun x13 Ex13 hB15=>?_;have hz:=(RV.els r30).ix Ex13;obtain⟨b8,f2,cs3,e5,i5,i6,q6,hc3⟩:=hz;cases e5;obtain rfl:=q6;have hc4:=hc3.ext k42;refine Zp rfl (fun _=>Dq l3_i2 l15_i2 Tryz.underlying139 Bh i5 i6)<|Zq rfl (fun _ hS=>AP rfl Bh ((hc4.ext (hS.resolve_left nofun)).at 0 rfl)) (Ext.refl _)<|Zp rfl (fun _=>BA rfl yu)<|Zq rfl (fun _ hS=>AP rfl Bh ((Bx.cs (hb42.ext (hS.resolve_left nofun))).at 2 rfl)) (Ext.refl _)<|Zp rfl (fun _=>Oi rfl rfl)<|bS hB15 fun y9 hB16 hB15=>ct (fun L w=>∃v11:Value,Bx w b3 24 [.int .i64 y9.1,v11]/\Row 58 w9.heap.size w v11 y9.2/\some b3≠Value.ownBlock v11/\Bx w b7 147 [.int .i64 x12.1,.int .i64 x12.2.1,.int .i64 x12.2.2]/\L 1=.pointer (some ⟨b2,0,none⟩)/\L 3=.slice (some ⟨b8,f2,none⟩) x4.1.length cq4/\L 5=.slice a5 x5.1.length cq5/\L 7=.slice a6 x6.1.length cq6/\L 8=.int .i64 x6.2.1/\L 12=.pointer (some ⟨b3,0,none⟩)/\L 15=.int .i64 y6/\L 16=.pointer (some ⟨b7,0,none⟩)/\w9.heap.size<=w.heap.size/\Ext w7 w) ?_ ?_
      ·refine cnd rfl (fun h8=>?_) (fun h8=>?_)
       ·have hB16:=Cj hB16 h8;refine rg<|Zv (BA l12_i2 AAH)<|Zv (AP rfl AAw ((Bx.cs B6).at 1 rfl))<|Zv (BA rfl zu)<|Zv (AP rfl Ap ((Bx.cs hb42).at 1 rfl))<|Zv (FH rfl rfl)<|Zv (BA rfl zX)<|Zv (AP rfl Ap ((Bx.cs hb42).at 0 rfl))<|Zv (FH rfl rfl)<|Zv (AAe (r:=[.int .i64 (BH (x12.2.1+1)),.int .i64 (BH (x12.1+1)),.int .i64 0]) xY AHj (pc rfl (pc rfl pn)) rfl)<|AAR (cs:=[.int .i64 (BH (x12.2.1+1)),.int .i64 (BH (x12.1+1)),.int .i64 0]) Tryz.underlying22 xY rfl (pc rfl pn) rfl rfl rfl rfl rfl fun b9 w27 hx15 hg6 hb43=>?_;have k45:=k42.tr hx15;have zs12:=Nat.le_trans zs11 hx15.size;have B7:=B6.ext hx15;have O7:=O6.ext hx15;have hb45:=hb42.ext hx15;have o11:Row (α:=(Int×Int×Int)) 58 w26.heap.size w27 (.slice (some ⟨b9,0,none⟩) 1 1) [(BH (x12.2.1+1),BH (x12.1+1),0)]:=Row.lit hg6 hb43 rfl (ble rfl);refine bS hB16 fun x14 Ex14 hB16=>ADq (l:=y7.2) (k:=([(BH (x12.2.1+1),BH (x12.1+1),0)]:List (Int×Int×Int))) rfl rfl Tryz.underlying22 xY rfl rfl O7 (RV.els o11.rv) Ex14 zs12 fun v12 w28 o12 hB18 hgr3 how3=>?_;have k48:=Ext.grow k45 k9.size hB18;have zs13:=Nat.le_trans zs12 hgr3.size;have ne3:=AFa how3 N12c1_i2 B7.lt;have hb47:=Bx.gr B7 hgr3 N12c1_i2;have hb48:=Bx.gr hb45 hgr3 (O12c1_i2.ne_new hg5);have hz:=RV.sl o12.rv;obtain⟨a14,cq14,rfl,-,-,-⟩:=hz;refine Zv (BA l12_i2 AAH)<|xk rfl rfl rfl AAw hb47 rfl rfl (ble rfl) fun w29 hch5 hb49=>?_;have k50:=Ext.chg k48 hch5 (Nat.le_trans (Nat.le_refl _) hg2);have zs14:=Nat.le_trans zs13 (Nat.le_of_eq hch5.size.symm);have hb51:=Bx.chg hb48 hch5 (Ne.symm (Nat.ne_of_lt (Nat.lt_of_lt_of_le B12_i2.lt hg5)));have o13:=Row.chgn o12 hch5 ne3;have hb52:Bx w29 b3 24 [.int .i64 y7.1,.slice a14 x14.length cq14]:=hb49;refine nl<|?_;cases hB16;refine lf<|?_;exact⟨_,hb52,o13,ne3,hb51,l1_i2,l3_i2,l5_i2,l7_i2,l8_i2,l12_i2,l15_i2,rfl,zs14,k50⟩
       ·have hB16:=DF hB16 h8;refine wp_skip<|?_;cases hB16;refine lf<|?_;exact⟨_,B6,O6,N12c1_i2,hb42,l1_i2,l3_i2,l5_i2,l7_i2,l8_i2,l12_i2,l15_i2,rfl,zs11,k42⟩
      rintro L w30⟨v11,B12_j5,O12c1_j5,N12c1_j5,B16_j5,l1_j5,l3_j5,l5_j5,l7_j5,l8_j5,l12_j5,l15_j5,l16_j5,Z0_j5,K0_j5⟩;have hz:=RV.sl O12c1_j5.rv;obtain⟨a15,cq15,rfl,-,-,-⟩:=hz;refine wp_seq<|wpl [] (.pure true 0 (.pure true 1 (.pure true 2 (.pure false 3 (.pure true 4 (.pure false 5 (.pure true 6 (.pure true 7 .fin)))))))) mixed (by kernel_rfl) (fun w31 hx16=>?_);have k53:=K0_j5.tr hx16;have zs15:=Nat.le_trans Z0_j5 hx16.size;have B8:=B12_j5.ext hx16;have O8:=O12c1_j5.ext hx16;have hb55:=B16_j5.ext hx16;refine Zn rfl<|Zn rfl<|bS hB15 fun x15 Ex15 hB15=>?_;have hz:=ix2 r30 Ex15;obtain⟨cs4,i7,i8,q7,hc5⟩:=hz;obtain rfl:=q7;have hc6:=hc5.ext k53;refine Zp rfl (fun _=>Dq l3_j5 l15_j5 Tryz.underlying139 Bh i7 i8)<|Zq rfl (fun _ hS=>AP rfl Bh ((hc6.ext (hS.resolve_left nofun)).at 0 rfl)) (Ext.refl _)<|Zp rfl (fun _=>BA l16_j5 yu)<|Zq rfl (fun _ hS=>AP rfl Bh ((Bx.cs (hb55.ext (hS.resolve_left nofun))).at 2 rfl)) (Ext.refl _)<|Zp rfl (fun _=>AK6 rfl)<|Zp rfl (fun _=>xU rfl rfl)<|bS hB15 fun y10 hB20 hB15=>ct (fun L w=>∃v13:Value,Bx w b3 24 [.int .i64 y10.1,v13]/\Row 58 w9.heap.size w v13 y10.2/\some b3≠Value.ownBlock v13/\L 1=.pointer (some ⟨b2,0,none⟩)/\L 3=.slice (some ⟨b8,f2,none⟩) x4.1.length cq4/\L 5=.slice a5 x5.1.length cq5/\L 7=.slice a6 x6.1.length cq6/\L 8=.int .i64 x6.2.1/\L 12=.pointer (some ⟨b3,0,none⟩)/\L 15=.int .i64 y6/\w9.heap.size<=w.heap.size/\Ext w7 w) ?_ ?_
      ·refine cnd rfl (fun h9=>?_) (fun h9=>?_)
       ·have hB20:=Cj hB20 h9;refine rg<|Zv (BA l12_j5 AAH)<|Zv (AP rfl AAw ((Bx.cs B8).at 1 rfl))<|Zv (BA l16_j5 zX)<|Zv (AP rfl Ap ((Bx.cs hb55).at 0 rfl))<|Zv (FH rfl rfl)<|Zv (BA l16_j5 zu)<|Zv (AP rfl Ap ((Bx.cs hb55).at 1 rfl))<|Zv (FH rfl rfl)<|Zv (AAe (r:=[.int .i64 (BH (x12.1+1)),.int .i64 (BH (x12.2.1+1)),.int .i64 0]) xY AHj (pc rfl (pc rfl pn)) rfl)<|AAR (cs:=[.int .i64 (BH (x12.1+1)),.int .i64 (BH (x12.2.1+1)),.int .i64 0]) Tryz.underlying22 xY rfl (pc rfl pn) rfl rfl rfl rfl rfl fun b10 w32 hx17 hg7 hb56=>?_;have k55:=k53.tr hx17;have zs16:=Nat.le_trans zs15 hx17.size;have B9:=B8.ext hx17;have O9:=O8.ext hx17;have o14:Row (α:=(Int×Int×Int)) 58 w31.heap.size w32 (.slice (some ⟨b10,0,none⟩) 1 1) [(BH (x12.1+1),BH (x12.2.1+1),0)]:=Row.lit hg7 hb56 rfl (ble rfl);refine bS hB20 fun x16 Ex16 hB20=>ADq (l:=y9.2) (k:=([(BH (x12.1+1),BH (x12.2.1+1),0)]:List (Int×Int×Int))) rfl rfl Tryz.underlying22 xY rfl rfl O9 (RV.els o14.rv) Ex16 zs16 fun v14 w33 o15 hB22 hgr4 how4=>?_;have k57:=Ext.grow k55 k9.size hB22;have zs17:=Nat.le_trans zs16 hgr4.size;have ne5:=AFa how4 N12c1_j5 B9.lt;have hb59:=Bx.gr B9 hgr4 N12c1_j5;have hz:=RV.sl o15.rv;obtain⟨a16,cq16,rfl,-,-,-⟩:=hz;refine Zv (BA l12_j5 AAH)<|xk rfl rfl rfl AAw hb59 rfl rfl (ble rfl) fun w34 hch6 hb60=>?_;have k59:=Ext.chg k57 hch6 (Nat.le_trans (Nat.le_refl _) hg2);have zs18:=Nat.le_trans zs17 (Nat.le_of_eq hch6.size.symm);have o16:=Row.chgn o15 hch6 ne5;have hb62:Bx w34 b3 24 [.int .i64 y9.1,.slice a16 x16.length cq16]:=hb60;refine nl<|?_;cases hB20;refine lf<|?_;exact⟨_,hb62,o16,ne5,l1_j5,l3_j5,l5_j5,l7_j5,l8_j5,l12_j5,l15_j5,zs18,k59⟩
       ·have hB20:=DF hB20 h9;refine wp_skip<|?_;cases hB20;refine lf<|?_;exact⟨_,B8,O8,N12c1_j5,l1_j5,l3_j5,l5_j5,l7_j5,l8_j5,l12_j5,l15_j5,zs15,k53⟩
      rintro L w35⟨v13,B12_j6,O12c1_j6,N12c1_j6,l1_j6,l3_j6,l5_j6,l7_j6,l8_j6,l12_j6,l15_j6,Z0_j6,K0_j6⟩;have hz:=RV.sl O12c1_j6.rv;obtain⟨a17,cq17,rfl,-,-,-⟩:=hz;cases hB15;refine lf<|?_;exact⟨_,B12_j6,O12c1_j6,N12c1_j6,l1_j6,l3_j6,l5_j6,l7_j6,l8_j6,l12_j6,l15_j6,Z0_j6,K0_j6⟩
     rintro L w36⟨v10,B12_j7,O12c1_j7,N12c1_j7,l1_j7,l3_j7,l5_j7,l7_j7,l8_j7,l12_j7,l15_j7,Z0_j7,K0_j7⟩;have hz:=RV.sl O12c1_j7.rv;obtain⟨a18,cq18,rfl,-,-,-⟩:=hz;refine rg<|Zm<|Zv (FH l15_j7 rfl)<|Za<|nl<|lq m (Nat.lt_succ_self _)<|?_;exact⟨_,_,_,hB13,rfl,B12_j7,O12c1_j7,N12c1_j7,l1_j7,l3_j7,l5_j7,l7_j7,l8_j7,l12_j7,Z0_j7,K0_j7⟩
    ·have hB13:=DF hB13 h7;refine wp_exit<|?_;cases hB13;refine lf<|?_;exact⟨_,B12_i2,O12c1_i2,N12c1_i2,l1_i2,l5_i2,l7_i2,l8_i2,l12_i2,Z0_i2,K0_i2⟩
   rintro L w37⟨v9,B12_j8,O12c1_j8,N12c1_j8,l1_j8,l5_j8,l7_j8,l8_j8,l12_j8,Z0_j8,K0_j8⟩;have k62:=k6.tr K0_j8;have r211:=r27.ext K0_j8;have r212:=r28.ext K0_j8;have r213:=r29.ext K0_j8;have hb65:=hb6.ext K0_j8;have r215:=r32.ext K0_j8;have hz:=RV.sl O12c1_j8.rv;obtain⟨a19,cq19,rfl,-,-,-⟩:=hz;refine wp_seq<|Zr<|Zv (BA l12_j8 AAH)<|Zv (AP rfl AAw ((Bx.cs B12_j8).at 1 rfl))<|Zv (Kz rfl Tryz.underlying22)<|Zv (xU rfl rfl)<|nl<|cnd rfl (fun h10=>?_) (fun h10=>?_)
   ·have hF:=Cj hF h10;refine Zr<|bS hF fun x17 Ex17 hF=>Zc (xc ANj mn) (c74 Ex17) ?_;rintro _ w38⟨rfl,hx18⟩;have k63:=k62.tr hx18;refine Za<|nl<|?_;cases hF;exact wp_ret<|Zw rfl rfl rfl ⟨rfl,k63⟩
   ·have hF:=DF hF h10;refine wp_skip<|Zr<|Zv (Jq l12_j8 AB5 rfl (Bx.cs B12_j8))<|bS hF fun x18 Ex18 hF=>Zc (xc AQL (mc rfl (mc rfl mn))) (c29 (show RV (α:=(Int×(List (Int×Int×Int)))) _ (.agg [.int .i64 z2.1,.slice a19 z2.2.length cq19].toArray) (z2.1,z2.2)from⟨_,rfl,[.int .i64 z2.1],[.slice a19 z2.2.length cq19],rfl,rfl,O12c1_j8.rv.rep1⟩) Ex18) ?_;rintro _ w39⟨u4,rfl,r216,hx19⟩;have k65:=k62.tr hx19;have k66:=K0_j8.tr hx19;have zs20:=Nat.le_trans Z0_j8 hx19.size;have hb66:=hb65.ext hx19;have r217:=r211.ext hx19;have r218:=r212.ext hx19;have r219:=r213.ext hx19;have B10:=B12_j8.ext hx19;have O10:=O12c1_j8.ext hx19;have r221:=r215.ext hx19;have hz:=RV.sl r216;obtain⟨a20,cq20,rfl,-,-,-⟩:=hz;refine Zm<|Zv (xC rfl rfl)<|Zv (xC rfl rfl)<|Za<|Za<|nl<|Zr<|Zv (Jq l12_j8 AB5 rfl (Bx.cs B10))<|bS hF fun x19 Ex19 hF=>Zc (xc AQL (mc rfl (mc rfl mn))) (c29 (show RV (α:=(Int×(List (Int×Int×Int)))) _ (.agg [.int .i64 z2.1,.slice a19 z2.2.length cq19].toArray) (z2.1,z2.2)from⟨_,rfl,[.int .i64 z2.1],[.slice a19 z2.2.length cq19],rfl,rfl,O10.rv.rep1⟩) Ex19) ?_;rintro _ w40⟨u5,rfl,r222,hx20⟩;have k67:=k65.tr hx20;have k68:=k66.tr hx20;have zs21:=Nat.le_trans zs20 hx20.size;have hb67:=hb66.ext hx20;have r223:=r217.ext hx20;have r224:=r218.ext hx20;have r225:=r219.ext hx20;have B11:=B10.ext hx20;have O11:=O10.ext hx20;have r227:=r221.ext hx20;have r228:=r216.ext hx20;have hz:=RV.sl r222;obtain⟨a21,cq21,rfl,-,-,-⟩:=hz;refine Zm<|Zv (xC rfl rfl)<|Zv (xC rfl rfl)<|Za<|Za<|nl<|wp_seq<|Zr<|Zm<|Zv (wO rfl rfl)<|Zm<|Zg rfl rfl (EO rfl) (fun hc=>FY rfl)<|Zg rfl rfl (EO rfl) (fun hc=>wO (mv hc rfl) rfl)<|Zv (xpo rfl rfl rfl)<|Zm<|Zg rfl rfl (EO rfl) (fun hc=>Jq l12_j8 AB5 rfl (Bx.cs B11))<|Zg rfl rfl (EO rfl) (fun hc=>FY rfl)<|bS hF fun x20 Ex20 hF=>gc rfl rfl rfl rfl (EO rfl) rfl (fun hc=>xc AQM (mc (mv hc rfl) (mc (mv hc rfl) mn))) (fun hc=>(c31 (show RV (α:=(Int×(List (Int×Int×Int)))) _ (.agg [.int .i64 z2.1,.slice a19 z2.2.length cq19].toArray) (z2.1,z2.2)from⟨_,rfl,[.int .i64 z2.1],[.slice a19 z2.2.length cq19],rfl,rfl,O11.rv.rep1⟩) r228 (gdp Ex20 hc))) (fun v15 w41 hy1 hn1=>?_);have hx21:Ext w40 w41:=gx (fun h=>(hy1 h).2) (fun h=>(hn1 h).2▸Ext.refl _);have e6:=mkw (fun h=>(hy1 h).1) (fun h=>(hn1 h).1);have k69:=k67.tr hx21;have k70:=k68.tr hx21;have zs22:=Nat.le_trans zs21 hx21.size;have hb68:=hb67.ext hx21;have r229:=r223.ext hx21;have r230:=r224.ext hx21;have r231:=r225.ext hx21;have B12:=B11.ext hx21;have O12:=O11.ext hx21;have r233:=r227.ext hx21;have r234:=r228.ext hx21;have r235:=r222.ext hx21;refine Zg rfl rfl (EO rfl) (fun hc=>wO (mv hc e6) rfl)<|Zv (xpo rfl rfl rfl)<|Zm<|Zg rfl rfl (EO rfl) (fun hc=>Jq l12_j8 AB5 rfl (Bx.cs B12))<|Zg rfl rfl (EO rfl) (fun hc=>FY rfl)<|bS hF fun x21 Ex21 hF=>gc rfl rfl rfl rfl (EO rfl) rfl (fun hc=>xc AQM (mc (mv hc rfl) (mc (mv hc rfl) mn))) (fun hc=>(c31 (show RV (α:=(Int×(List (Int×Int×Int)))) _ (.agg [.int .i64 z2.1,.slice a19 z2.2.length cq19].toArray) (z2.1,z2.2)from⟨_,rfl,[.int .i64 z2.1],[.slice a19 z2.2.length cq19],rfl,rfl,O12.rv.rep1⟩) r235 (gdp Ex21 hc))) (fun v16 w42 hy2 hn2=>?_);have hx22:Ext w41 w42:=gx (fun h=>(hy2 h).2) (fun h=>(hn2 h).2▸Ext.refl _);have e7:=mkw (fun h=>(hy2 h).1) (fun h=>(hn2 h).1);have k71:=k69.tr hx22;have k72:=k70.tr hx22;have zs23:=Nat.le_trans zs22 hx22.size;have hb69:=hb68.ext hx22;have r236:=r229.ext hx22;have r237:=r230.ext hx22;have r238:=r231.ext hx22;have B13:=B12.ext hx22;have O13:=O12.ext hx22;have r240:=r233.ext hx22;have r241:=r234.ext hx22;have r242:=r235.ext hx22;refine Zg rfl rfl (EO rfl) (fun hc=>wO (mv hc e7) rfl)<|Zv (xpo rfl rfl rfl)<|nl<|cnd rfl (fun h11=>?_) (fun h11=>?_)
    ·have hF:=Cj hF h11;refine Zr<|Za<|nl<|?_;cases hF;exact wp_ret<|Zw rfl rfl rfl ⟨rfl,k71⟩
    ·have hF:=DF hF h11;refine wp_skip<|Zr<|Za<|Za<|nl<|wp_seq<|Zr<|Za<|nl<|?_;have o17:Row (α:=Int) 3 w42.heap.size w42 (.slice none 0 0) []:=Row.nil;have o18:Row (α:=Int) 3 w42.heap.size w42 (.slice none 0 0) []:=Row.nil;refine bS hF fun o19 hB25 hF=>ct (fun L w=>∃z3:(List Int),∃z4:(List Int),∃v19 v20:Value,o19=.inr (z3,z4)/\L 19=v19/\Row 3 w42.heap.size w v19 z3/\L 20=v20/\Row 3 w42.heap.size w v20 z4/\Apart (v19) (v20)/\L 1=.pointer (some ⟨b2,0,none⟩)/\L 7=.slice a6 x6.1.length cq6/\L 8=.int .i64 x6.2.1/\w9.heap.size<=w.heap.size/\Ext w42 w) ?_ ?_
     ·refine wp_block<|lp (I:=fun m L w=>∃y11:(List Int),∃y12:(List Int),∃y13:Int,∃v17 v18:Value,wX F x0 x5 x18 x19 z2 m y11 y12 y13=some o19/\L 19=v17/\Row 3 w42.heap.size w v17 y11/\L 20=v18/\Row 3 w42.heap.size w v18 y12/\L 21=.int .i64 y13/\Apart (v17) (v18)/\L 1=.pointer (some ⟨b2,0,none⟩)/\L 5=.slice a5 x5.1.length cq5/\L 7=.slice a6 x6.1.length cq6/\L 8=.int .i64 x6.2.1/\L 12=.pointer (some ⟨b3,0,none⟩)/\L 17=.slice a20 x18.1.length cq20/\L 18=.slice a21 x19.1.length cq21/\w9.heap.size<=w.heap.size/\Ext w42 w) F ⟨_,_,_,_,_,hB25,rfl,o17,rfl,o18,rfl,(Apart.old' o17.own_lt (fun q e=>(o18.lt q e).1)),l1_j8,l5_j8,l7_j8,l8_j8,l12_j8,rfl,rfl,zs23,(Ext.refl _)⟩ ?_;rintro m L w43⟨y11,y12,y13,v17,v18,hB25,l19_i9,O19_i9,l20_i9,O20_i9,l21_i9,X0_i9,l1_i9,l5_i9,l7_i9,l8_i9,l12_i9,l17_i9,l18_i9,Z0_i9,K0_i9⟩;rcases m with _|m
      ·rw[wX]at hB25;cases hB25
      rw[wX]at hB25;have k73:=k71.tr K0_i9;have k74:=k72.tr K0_i9;have hb70:=hb69.ext K0_i9;have O14:=O13.ext K0_i9;have B14:=B13.ext K0_i9;have hz:=RV.sl O19_i9.rv;obtain⟨a22,cq22,rfl,-,-,-⟩:=hz;have hz:=RV.sl O20_i9.rv;obtain⟨a23,cq23,rfl,-,-,-⟩:=hz;refine wp_seq<|Zr<|Zm<|Zv (BA l1_i9 vV)<|Zv (AP rfl Ap ((Bx.cs hb70).at 0 rfl))<|Zv (Oi l21_i9 rfl)<|nl<|cnd rfl (fun h12=>?_) (fun h12=>?_)
      ·have hB25:=Cj hB25 h12;refine wp_skip<|wp_seq<|bS hB25 fun o20 hB27 hB25=>ct (fun L w=>∃y14:(List Int),∃y15:(List Int),∃v21 v22:Value,o20=.inr (y14,y15)/\L 19=v21/\Row 3 w42.heap.size w v21 y14/\L 20=v22/\Row 3 w42.heap.size w v22 y15/\Apart (v21) (v22)/\L 1=.pointer (some ⟨b2,0,none⟩)/\L 5=.slice a5 x5.1.length cq5/\L 7=.slice a6 x6.1.length cq6/\L 8=.int .i64 x6.2.1/\L 12=.pointer (some ⟨b3,0,none⟩)/\L 17=.slice a20 x18.1.length cq20/\L 18=.slice a21 x19.1.length cq21/\L 21=.int .i64 y13/\w9.heap.size<=w.heap.size/\Ext w42 w) ?_ ?_
       ·refine wp_block<|Zr<|Zv (Jq l12_i9 AB5 rfl (Bx.cs B14))<|Zm<|Zv (FH l21_i9 rfl)<|bS hB27 fun x22 Ex22 hB27=>Zc (xc ATU (mc rfl (mc rfl mn))) (c50 (show RV (α:=(Int×(List (Int×Int×Int)))) _ (.agg [.int .i64 z2.1,.slice a19 z2.2.length cq19].toArray) (z2.1,z2.2)from⟨_,rfl,[.int .i64 z2.1],[.slice a19 z2.2.length cq19],rfl,rfl,O14.rv.rep1⟩) Ex22) ?_;rintro _ w44⟨u6,rfl,r250,hx23⟩;have k75:=k73.tr hx23;have k76:=k74.tr hx23;have k77:=K0_i9.tr hx23;have zs24:=Nat.le_trans Z0_i9 hx23.size;have O16:=O19_i9.ext hx23;have O17:=O20_i9.ext hx23;have hz:=id r250;obtain⟨_,rfl,_,_,rfl,rfl,rfl⟩:=hz;refine Zm<|Zv (xC rfl rfl)<|Zv (xC rfl rfl)<|yY ACB fun b11 w45 hx24 hg8 hb72=>?_;have k78:=k75.tr hx24;have k79:=k76.tr hx24;have k80:=k77.tr hx24;have zs25:=Nat.le_trans zs24 hx24.size;refine xk rfl rfl rfl ACB hb72 rfl rfl (ble rfl) fun w46 hch7 hb74=>?_;have k82:=Ext.chg k78 hch7 (Nat.le_trans k75.size hg8);have k83:=Ext.chg k79 hch7 (Nat.le_trans k76.size hg8);have k84:=Ext.chg k80 hch7 (Nat.le_trans k77.size hg8);have k86:=Ext.chg hx24 hch7 (Nat.le_trans (Nat.le_refl _) hg8);have zs26:=Nat.le_trans zs25 (Nat.le_of_eq hch7.size.symm);have O22:=O16.ext k86;have O23:=O17.ext k86;have hb76:Bx w46 b11 35 [.int .i64 x22.1.1,.int .i64 x22.1.2]:=hb74;refine Za<|nl<|wp_seq<|wp_seq<|bS hB27 fun y16 hB28 hB27=>ct (fun L w=>L 251=.bool y16/\L 1=.pointer (some ⟨b2,0,none⟩)/\L 5=.slice a5 x5.1.length cq5/\L 7=.slice a6 x6.1.length cq6/\L 8=.int .i64 x6.2.1/\L 12=.pointer (some ⟨b3,0,none⟩)/\L 17=.slice a20 x18.1.length cq20/\L 18=.slice a21 x19.1.length cq21/\L 19=.slice a22 y11.length cq22/\L 20=.slice a23 y12.length cq23/\L 21=.int .i64 y13/\w9.heap.size<=w.heap.size/\w42.heap.size<=w.heap.size/\Ext w46 w) ?_ ?_
        ·refine wpl [] (.pure true 0 (.pure true 1 (.pure true 2 (.pure true 3 (.pure false 4 (.pure true 5 (.pure true 6 (.pure true 7 (.pure false 8 (.pure true 9 (.pure true 10 (.pure true 11 (.pure true 12 (.pure false 13 (.pure true 14 (.pure true 15 (.pure true 16 (.pure false 17 (.pure true 18 (.pure true 19 (.pure true 20 (.pure true 21 (.pure true 22 (.pure true 23 (.pure false 24 (.pure true 25 (.pure true 26 (.pure true 27 (.pure false 28 (.pure true 29 (.pure true 30 (.pure true 31 (.pure false 32 (.pure true 33 (.pure true 34 (.pure true 35 (.pure true 36 .fin))))))))))))))))))))))))))))))))))))) mixed (by kernel_rfl) (fun w48 hx26=>?_);have k93:=k83.tr hx26;have k94:=k84.tr hx26;have zs28:=Nat.le_trans zs26 hx26.size;have hb80:=hb76.ext hx26;refine Zn rfl<|Zp rfl (fun _=>wO rfl rfl)<|Zn rfl<|Or.elim (Bool.eq_false_or_eq_true (!decide (x22.2=0))) (fun h13=>?_) (fun h13=>?_)
         ·have hB28:=Cj hB28 h13;refine Yf rfl (BP h13)<|Yh rfl (BP h13) (Ext.refl _)<|Yf rfl (BP h13)<|Yf rfl (BP h13)<|Yf rfl (BP h13)<|Yh rfl (BP h13) (Ext.refl _)<|Yf rfl (BP h13)<|Zp rfl (fun _=>wI rfl h13 rfl)<|Zn rfl<|Or.elim (Bool.eq_false_or_eq_true true) (fun h14=>?_) (fun h14=>?_)
          ·have hB28:=Cj hB28 h14;refine Yf rfl (BP h14)<|Yh rfl (BP h14) (Ext.refl _)<|Yf rfl (BP h14)<|Yf rfl (BP h14)<|Yf rfl (BP h14)<|Yh rfl (BP h14) (Ext.refl _)<|Yf rfl (BP h14)<|Zp rfl (fun _=>wI rfl h14 rfl)<|Zn rfl<|Yf rfl (BP h14)<|Yf rfl (BP h14)<|Yf rfl (BP h14)<|Yh rfl (BP h14) (Ext.refl _)<|Yf rfl (BP h14)<|Yf rfl (BP h14)<|Yf rfl (BP h14)<|Yh rfl (BP h14) (Ext.refl _)<|Yf rfl (BP h14)<|Yf rfl (BP h14)<|Yf rfl (BP h14)<|Yh rfl (BP h14) (Ext.refl _)<|Yf rfl (BP h14)<|Yf rfl (BP h14)<|Yf rfl (BP h14)<|Zp rfl (fun _=>wI rfl h14 rfl)<|?_;cases hB28;refine lf<|?_;exact⟨rfl,l1_i9,l5_i9,l7_i9,l8_i9,l12_i9,l17_i9,l18_i9,l19_i9,l20_i9,l21_i9,zs28,k94.size,hx26⟩
          ·have hB28:=DF hB28 h14;refine Yt rfl (bf h14) (fun _=>BA rfl AMP)<|Yi rfl (bf h14) (fun _ hS=>AP rfl Bh ((Bx.cs (hb80.ext (hS.resolve_left nofun))).at 1 rfl)) (Ext.refl _)<|Yt rfl (bf h14) (fun _=>Zk)<|Yt rfl (bf h14) (fun _=>Zk)<|bS hB28 fun x23 Ex23 hB28=>?_;have hz:=(RV.els r242).ix Ex23;obtain⟨b12,f3,cs5,e8,i10,i11,q8,hc7⟩:=hz;cases e8;obtain rfl:=q8;have hc8:=hc7.ext k94;refine Yt rfl (bf h14) (fun _=>Dq l18_i9 l21_i9 Tryz.underlying28 Bh i10 i11)<|Yi rfl (bf h14) (fun _ hS=>AP rfl Bh ((hc8.ext (hS.resolve_left nofun)).at 0 rfl)) (Ext.refl _)<|Yt rfl (bf h14) (fun _=>wO rfl rfl)<|Zp rfl (fun _=>yH rfl h14 rfl)<|Zn rfl<|Or.elim (Bool.eq_false_or_eq_true (!decide (x22.1.2=x23))) (fun h15=>?_) (fun h15=>?_)
           ·have hB28:=Cj hB28 h15;refine Yf rfl (BP h15)<|Yf rfl (BP h15)<|Yf rfl (BP h15)<|Yh rfl (BP h15) (Ext.refl _)<|Yf rfl (BP h15)<|Yf rfl (BP h15)<|Yf rfl (BP h15)<|Yh rfl (BP h15) (Ext.refl _)<|Yf rfl (BP h15)<|Yf rfl (BP h15)<|Yf rfl (BP h15)<|Yh rfl (BP h15) (Ext.refl _)<|Yf rfl (BP h15)<|Yf rfl (BP h15)<|Yf rfl (BP h15)<|Zp rfl (fun _=>wI rfl h15 rfl)<|?_;cases hB28;refine lf<|?_;exact⟨rfl,l1_i9,l5_i9,l7_i9,l8_i9,l12_i9,l17_i9,l18_i9,l19_i9,l20_i9,l21_i9,zs28,k94.size,hx26⟩
           ·have hB28:=DF hB28 h15;refine Yt rfl (bf h15) (fun _=>Zk)<|Yt rfl (bf h15) (fun _=>Zk)<|bS hB28 fun x24 Ex24 hB28=>?_;have hz:=(RV.els r31).ix Ex24;obtain⟨b13,f4,cs6,e9,i12,i13,q9,hc9⟩:=hz;cases e9;obtain rfl:=q9;have hc10:=hc9.ext k93;refine Yt rfl (bf h15) (fun _=>Dq l5_i9 l21_i9 Tryz.underlying41 Ap i12 i13)<|Yi rfl (bf h15) (fun _ hS=>AP rfl Ap ((hc10.ext (hS.resolve_left nofun)).at 0 rfl)) (Ext.refl _)<|Yt rfl (bf h15) (fun _=>Zk)<|Yt rfl (bf h15) (fun _=>Zk)<|bS hB28 fun x25 Ex25 hB28=>?_;have hz:=(RV.els r241).ix Ex25;obtain⟨b14,f5,cs7,e10,i14,i15,q10,hc11⟩:=hz;cases e10;obtain rfl:=q10;have hc12:=hc11.ext k94;refine Yt rfl (bf h15) (fun _=>Dq l17_i9 l21_i9 Tryz.underlying28 Bh i14 i15)<|Yi rfl (bf h15) (fun _ hS=>AP rfl Bh ((hc12.ext (hS.resolve_left nofun)).at 0 rfl)) (Ext.refl _)<|Yt rfl (bf h15) (fun _=>Zk)<|Yt rfl (bf h15) (fun _=>Zk)<|bS hB28 fun x26 Ex26 hB28=>?_;have hz:=ix2 r242 Ex26;obtain⟨cs8,i16,i17,q11,hc13⟩:=hz;obtain rfl:=q11;have hc14:=hc13.ext k94;refine Yt rfl (bf h15) (fun _=>Dq l18_i9 l21_i9 Tryz.underlying28 Bh i16 i17)<|Yi rfl (bf h15) (fun _ hS=>AP rfl Bh ((hc14.ext (hS.resolve_left nofun)).at 0 rfl)) (Ext.refl _)<|Yt rfl (bf h15) (fun _=>FH rfl rfl)<|Yt rfl (bf h15) (fun _=>AB4 rfl rfl)<|Yt rfl (bf h15) (fun _=>wO rfl rfl)<|Zp rfl (fun _=>yH rfl h15 rfl)<|?_;cases hB28;refine lf<|?_;exact⟨rfl,l1_i9,l5_i9,l7_i9,l8_i9,l12_i9,l17_i9,l18_i9,l19_i9,l20_i9,l21_i9,zs28,k94.size,hx26⟩
         ·have hB28:=DF hB28 h13;refine Yt rfl (bf h13) (fun _=>BA rfl AQI)<|Yi rfl (bf h13) (fun _ hS=>AP rfl Bh ((Bx.cs (hb80.ext (hS.resolve_left nofun))).at 0 rfl)) (Ext.refl _)<|Yt rfl (bf h13) (fun _=>Zk)<|Yt rfl (bf h13) (fun _=>Zk)<|bS hB28 fun x27 Ex27 hB28=>?_;have hz:=(RV.els r241).ix Ex27;obtain⟨b15,f6,cs9,e11,i18,i19,q12,hc15⟩:=hz;cases e11;obtain rfl:=q12;have hc16:=hc15.ext k94;refine Yt rfl (bf h13) (fun _=>Dq l17_i9 l21_i9 Tryz.underlying28 Bh i18 i19)<|Yi rfl (bf h13) (fun _ hS=>AP rfl Bh ((hc16.ext (hS.resolve_left nofun)).at 0 rfl)) (Ext.refl _)<|Yt rfl (bf h13) (fun _=>wO rfl rfl)<|Zp rfl (fun _=>yH rfl h13 rfl)<|Zn rfl<|Or.elim (Bool.eq_false_or_eq_true (!decide (x22.1.1=x27))) (fun h16=>?_) (fun h16=>?_)
          ·have hB28:=Cj hB28 h16;refine Yf rfl (BP h16)<|Yh rfl (BP h16) (Ext.refl _)<|Yf rfl (BP h16)<|Yf rfl (BP h16)<|Yf rfl (BP h16)<|Yh rfl (BP h16) (Ext.refl _)<|Yf rfl (BP h16)<|Zp rfl (fun _=>wI rfl h16 rfl)<|Zn rfl<|Or.elim (Bool.eq_false_or_eq_true true) (fun h17=>?_) (fun h17=>?_)
           ·have hB28:=Cj hB28 h17;refine Yf rfl (BP h17)<|Yf rfl (BP h17)<|Yf rfl (BP h17)<|Yh rfl (BP h17) (Ext.refl _)<|Yf rfl (BP h17)<|Yf rfl (BP h17)<|Yf rfl (BP h17)<|Yh rfl (BP h17) (Ext.refl _)<|Yf rfl (BP h17)<|Yf rfl (BP h17)<|Yf rfl (BP h17)<|Yh rfl (BP h17) (Ext.refl _)<|Yf rfl (BP h17)<|Yf rfl (BP h17)<|Yf rfl (BP h17)<|Zp rfl (fun _=>wI rfl h17 rfl)<|?_;cases hB28;refine lf<|?_;exact⟨rfl,l1_i9,l5_i9,l7_i9,l8_i9,l12_i9,l17_i9,l18_i9,l19_i9,l20_i9,l21_i9,zs28,k94.size,hx26⟩
           ·have hB28:=DF hB28 h17;refine Yt rfl (bf h17) (fun _=>Zk)<|Yt rfl (bf h17) (fun _=>Zk)<|bS hB28 fun x28 Ex28 hB28=>?_;have hz:=(RV.els r31).ix Ex28;obtain⟨b16,f7,cs10,e12,i20,i21,q13,hc17⟩:=hz;cases e12;obtain rfl:=q13;have hc18:=hc17.ext k93;refine Yt rfl (bf h17) (fun _=>Dq l5_i9 l21_i9 Tryz.underlying41 Ap i20 i21)<|Yi rfl (bf h17) (fun _ hS=>AP rfl Ap ((hc18.ext (hS.resolve_left nofun)).at 0 rfl)) (Ext.refl _)<|Yt rfl (bf h17) (fun _=>Zk)<|Yt rfl (bf h17) (fun _=>Zk)<|bS hB28 fun x29 Ex29 hB28=>?_;have hz:=ix2 r241 Ex29;obtain⟨cs11,i22,i23,q14,hc19⟩:=hz;obtain rfl:=q14;have hc20:=hc19.ext k94;refine Yt rfl (bf h17) (fun _=>Dq l17_i9 l21_i9 Tryz.underlying28 Bh i22 i23)<|Yi rfl (bf h17) (fun _ hS=>AP rfl Bh ((hc20.ext (hS.resolve_left nofun)).at 0 rfl)) (Ext.refl _)<|Yt rfl (bf h17) (fun _=>Zk)<|Yt rfl (bf h17) (fun _=>Zk)<|bS hB28 fun x30 Ex30 hB28=>?_;have hz:=(RV.els r242).ix Ex30;obtain⟨b17,f8,cs12,e13,i24,i25,q15,hc21⟩:=hz;cases e13;obtain rfl:=q15;have hc22:=hc21.ext k94;refine Yt rfl (bf h17) (fun _=>Dq l18_i9 l21_i9 Tryz.underlying28 Bh i24 i25)<|Yi rfl (bf h17) (fun _ hS=>AP rfl Bh ((hc22.ext (hS.resolve_left nofun)).at 0 rfl)) (Ext.refl _)<|Yt rfl (bf h17) (fun _=>FH rfl rfl)<|Yt rfl (bf h17) (fun _=>AB4 rfl rfl)<|Yt rfl (bf h17) (fun _=>wO rfl rfl)<|Zp rfl (fun _=>yH rfl h17 rfl)<|?_;cases hB28;refine lf<|?_;exact⟨rfl,l1_i9,l5_i9,l7_i9,l8_i9,l12_i9,l17_i9,l18_i9,l19_i9,l20_i9,l21_i9,zs28,k94.size,hx26⟩
          ·have hB28:=DF hB28 h16;refine Yt rfl (bf h16) (fun _=>BA rfl AMP)<|Yi rfl (bf h16) (fun _ hS=>AP rfl Bh ((Bx.cs (hb80.ext (hS.resolve_left nofun))).at 1 rfl)) (Ext.refl _)<|Yt rfl (bf h16) (fun _=>Zk)<|Yt rfl (bf h16) (fun _=>Zk)<|bS hB28 fun x31 Ex31 hB28=>?_;have hz:=(RV.els r242).ix Ex31;obtain⟨b18,f9,cs13,e14,i26,i27,q16,hc23⟩:=hz;cases e14;obtain rfl:=q16;have hc24:=hc23.ext k94;refine Yt rfl (bf h16) (fun _=>Dq l18_i9 l21_i9 Tryz.underlying28 Bh i26 i27)<|Yi rfl (bf h16) (fun _ hS=>AP rfl Bh ((hc24.ext (hS.resolve_left nofun)).at 0 rfl)) (Ext.refl _)<|Yt rfl (bf h16) (fun _=>wO rfl rfl)<|Zp rfl (fun _=>yH rfl h16 rfl)<|Zn rfl<|Or.elim (Bool.eq_false_or_eq_true (!decide (x22.1.2=x31))) (fun h18=>?_) (fun h18=>?_)
           ·have hB28:=Cj hB28 h18;refine Yf rfl (BP h18)<|Yf rfl (BP h18)<|Yf rfl (BP h18)<|Yh rfl (BP h18) (Ext.refl _)<|Yf rfl (BP h18)<|Yf rfl (BP h18)<|Yf rfl (BP h18)<|Yh rfl (BP h18) (Ext.refl _)<|Yf rfl (BP h18)<|Yf rfl (BP h18)<|Yf rfl (BP h18)<|Yh rfl (BP h18) (Ext.refl _)<|Yf rfl (BP h18)<|Yf rfl (BP h18)<|Yf rfl (BP h18)<|Zp rfl (fun _=>wI rfl h18 rfl)<|?_;cases hB28;refine lf<|?_;exact⟨rfl,l1_i9,l5_i9,l7_i9,l8_i9,l12_i9,l17_i9,l18_i9,l19_i9,l20_i9,l21_i9,zs28,k94.size,hx26⟩
           ·have hB28:=DF hB28 h18;refine Yt rfl (bf h18) (fun _=>Zk)<|Yt rfl (bf h18) (fun _=>Zk)<|bS hB28 fun x32 Ex32 hB28=>?_;have hz:=(RV.els r31).ix Ex32;obtain⟨b19,f10,cs14,e15,i28,i29,q17,hc25⟩:=hz;cases e15;obtain rfl:=q17;have hc26:=hc25.ext k93;refine Yt rfl (bf h18) (fun _=>Dq l5_i9 l21_i9 Tryz.underlying41 Ap i28 i29)<|Yi rfl (bf h18) (fun _ hS=>AP rfl Ap ((hc26.ext (hS.resolve_left nofun)).at 0 rfl)) (Ext.refl _)<|Yt rfl (bf h18) (fun _=>Zk)<|Yt rfl (bf h18) (fun _=>Zk)<|bS hB28 fun x33 Ex33 hB28=>?_;have hz:=ix2 r241 Ex33;obtain⟨cs15,i30,i31,q18,hc27⟩:=hz;obtain rfl:=q18;have hc28:=hc27.ext k94;refine Yt rfl (bf h18) (fun _=>Dq l17_i9 l21_i9 Tryz.underlying28 Bh i30 i31)<|Yi rfl (bf h18) (fun _ hS=>AP rfl Bh ((hc28.ext (hS.resolve_left nofun)).at 0 rfl)) (Ext.refl _)<|Yt rfl (bf h18) (fun _=>Zk)<|Yt rfl (bf h18) (fun _=>Zk)<|bS hB28 fun x34 Ex34 hB28=>?_;have hz:=ix2 r242 Ex34;obtain⟨cs16,i32,i33,q19,hc29⟩:=hz;obtain rfl:=q19;have hc30:=hc29.ext k94;refine Yt rfl (bf h18) (fun _=>Dq l18_i9 l21_i9 Tryz.underlying28 Bh i32 i33)<|Yi rfl (bf h18) (fun _ hS=>AP rfl Bh ((hc30.ext (hS.resolve_left nofun)).at 0 rfl)) (Ext.refl _)<|Yt rfl (bf h18) (fun _=>FH rfl rfl)<|Yt rfl (bf h18) (fun _=>AB4 rfl rfl)<|Yt rfl (bf h18) (fun _=>wO rfl rfl)<|Zp rfl (fun _=>yH rfl h18 rfl)<|?_;cases hB28;refine lf<|?_;exact⟨rfl,l1_i9,l5_i9,l7_i9,l8_i9,l12_i9,l17_i9,l18_i9,l19_i9,l20_i9,l21_i9,zs28,k94.size,hx26⟩
        rintro L w49⟨l251_j9,l1_j9,l5_j9,l7_j9,l8_j9,l12_j9,l17_j9,l18_j9,l19_j9,l20_j9,l21_j9,Z0_j9,Z1_j9,K0_j9⟩;have k97:=k82.tr K0_j9;have k99:=k84.tr K0_j9;have O31:=O22.ext K0_j9;have O32:=O23.ext K0_j9;refine cnd l251_j9 (fun h19=>?_) (fun h19=>?_)
        ·have hB27:=Cj hB27 h19;refine Zr<|Za<|nl<|?_;cases hB27;have hB25:=(show some _=some _ from hB25);cases hB25;have hF:=(show some _=some _ from hF);cases hF;exact wp_ret<|Zw rfl rfl rfl ⟨rfl,k97⟩
        ·have hB27:=DF hB27 h19;refine wp_skip<|wp_seq<|Zr<|Zm<|Zm<|bS hB27 fun x35 Ex35 hB27=>?_;have hz:=(RV.els r241).ix Ex35;obtain⟨b20,f11,cs17,e16,i34,i35,q20,hc31⟩:=hz;cases e16;obtain rfl:=q20;have hc32:=hc31.ext k99;refine Zv (Dq l17_j9 l21_j9 Tryz.underlying28 Bh i34 i35)<|Zv (AP rfl Bh (hc32.at 0 rfl))<|Zv (zL rfl rfl)<|nl<|?_;have hz:=bs hB27;obtain⟨⟨y17,y18⟩,hB31,hB27⟩:=hz;refine ct (fun L w=>∃v23 v24:Value,L 19=v23/\Row 3 w42.heap.size w v23 y17/\L 20=v24/\Row 3 w42.heap.size w v24 y18/\Apart (v23) (v24)/\L 1=.pointer (some ⟨b2,0,none⟩)/\L 5=.slice a5 x5.1.length cq5/\L 7=.slice a6 x6.1.length cq6/\L 8=.int .i64 x6.2.1/\L 12=.pointer (some ⟨b3,0,none⟩)/\L 17=.slice (some ⟨b20,f11,none⟩) x18.1.length cq20/\L 18=.slice a21 x19.1.length cq21/\L 21=.int .i64 y13/\w9.heap.size<=w.heap.size/\Ext w42 w) ?_ ?_
         ·refine cnd rfl (fun h20=>?_) (fun h20=>?_)
          ·have hB31:=Cj hB31 h20;refine rg<|Zm<|Zm<|AAR (cs:=[.int .i64 y13]) Tryz.underlying41 Ap rfl (pc l21_j9 pn) rfl rfl rfl rfl rfl fun b21 w50 hx27 hg9 hb82=>?_;have k104:=k99.tr hx27;have zs29:=Nat.le_trans Z0_j9 hx27.size;have O34:=O32.ext hx27;have O35:=O31.ext hx27;have o21:Row (α:=Int) 3 w49.heap.size w50 (.slice (some ⟨b21,0,none⟩) 1 1) [y13]:=Row.lit hg9 hb82 rfl (ble rfl);refine bS hB31 fun x36 Ex36 hB31=>ADq (l:=y11) (k:=([y13]:List Int)) l19_j9 rfl Tryz.underlying41 Ap rfl rfl O35 (RV.els o21.rv) Ex36 k104.size fun v25 w51 o22 hB33 hgr5 how5=>?_;have k110:Ext w42 w51:=k104.trans hB33;have X2:=Apart.app how5 X0_i9 O34.own_lt;have zs31:=Nat.le_trans zs29 hgr5.size;have o23:=Row.gra O34 hgr5 X0_i9;have hz:=RV.sl o22.rv;obtain⟨a24,cq24,rfl,-,-,-⟩:=hz;refine Za<|nl<|?_;cases hB31;refine lf<|?_;exact⟨_,_,rfl,o22,l20_j9,o23,X2,l1_j9,l5_j9,l7_j9,l8_j9,l12_j9,l17_j9,l18_j9,l21_j9,zs31,k110⟩
          ·have hB31:=DF hB31 h20;refine wp_skip<|?_;cases hB31;refine lf<|?_;exact⟨_,_,l19_j9,O31,l20_j9,O32,X0_i9,l1_j9,l5_j9,l7_j9,l8_j9,l12_j9,l17_j9,l18_j9,l21_j9,Z0_j9,k99⟩
         rintro L w52⟨v23,v24,l19_j10,O19_j10,l20_j10,O20_j10,X0_j10,l1_j10,l5_j10,l7_j10,l8_j10,l12_j10,l17_j10,l18_j10,l21_j10,Z0_j10,K0_j10⟩;have hz:=RV.sl O19_j10.rv;obtain⟨a25,cq25,rfl,-,-,-⟩:=hz;have hz:=RV.sl O20_j10.rv;obtain⟨a26,cq26,rfl,-,-,-⟩:=hz;refine Zr<|Zm<|Zm<|bS hB27 fun x37 Ex37 hB27=>?_;have hz:=(RV.els r242).ix Ex37;obtain⟨b22,f12,cs18,e17,i36,i37,q21,hc33⟩:=hz;cases e17;obtain rfl:=q21;have hc34:=hc33.ext K0_j10;refine Zv (Dq l18_j10 l21_j10 Tryz.underlying28 Bh i36 i37)<|Zv (AP rfl Bh (hc34.at 0 rfl))<|Zv (zL rfl rfl)<|nl<|?_;have hz:=bs hB27;obtain⟨⟨y19,y20⟩,hB35,hB27⟩:=hz;refine ct (fun L w=>∃v26 v27:Value,L 19=v26/\Row 3 w42.heap.size w v26 y19/\L 20=v27/\Row 3 w42.heap.size w v27 y20/\Apart (v26) (v27)/\L 1=.pointer (some ⟨b2,0,none⟩)/\L 5=.slice a5 x5.1.length cq5/\L 7=.slice a6 x6.1.length cq6/\L 8=.int .i64 x6.2.1/\L 12=.pointer (some ⟨b3,0,none⟩)/\L 17=.slice (some ⟨b20,f11,none⟩) x18.1.length cq20/\L 18=.slice (some ⟨b22,f12,none⟩) x19.1.length cq21/\L 21=.int .i64 y13/\w9.heap.size<=w.heap.size/\Ext w42 w) ?_ ?_
         ·refine cnd rfl (fun h21=>?_) (fun h21=>?_)
          ·have hB35:=Cj hB35 h21;refine rg<|Zm<|Zm<|AAR (cs:=[.int .i64 y13]) Tryz.underlying41 Ap rfl (pc l21_j10 pn) rfl rfl rfl rfl rfl fun b23 w53 hx28 hg10 hb86=>?_;have k115:=K0_j10.tr hx28;have zs33:=Nat.le_trans Z0_j10 hx28.size;have O39:=O19_j10.ext hx28;have O40:=O20_j10.ext hx28;have o24:Row (α:=Int) 3 w52.heap.size w53 (.slice (some ⟨b23,0,none⟩) 1 1) [y13]:=Row.lit hg10 hb86 rfl (ble rfl);refine bS hB35 fun x38 Ex38 hB35=>ADq (l:=y18) (k:=([y13]:List Int)) l20_j10 rfl Tryz.underlying41 Ap rfl rfl O40 (RV.els o24.rv) Ex38 k115.size fun v28 w54 o25 hB37 hgr6 how6=>?_;have k118:Ext w42 w54:=k115.trans hB37;have X4:=Apart.app how6 (Apart.symm X0_j10) O39.own_lt;have zs34:=Nat.le_trans zs33 hgr6.size;have o26:=Row.gra O39 hgr6 (Apart.symm X0_j10);have hz:=RV.sl o25.rv;obtain⟨a27,cq27,rfl,-,-,-⟩:=hz;refine Za<|nl<|?_;cases hB35;refine lf<|?_;exact⟨_,_,l19_j10,o26,rfl,o25,(Apart.symm X4),l1_j10,l5_j10,l7_j10,l8_j10,l12_j10,l17_j10,l18_j10,l21_j10,zs34,k118⟩
          ·have hB35:=DF hB35 h21;refine wp_skip<|?_;cases hB35;refine lf<|?_;exact⟨_,_,l19_j10,O19_j10,l20_j10,O20_j10,X0_j10,l1_j10,l5_j10,l7_j10,l8_j10,l12_j10,l17_j10,l18_j10,l21_j10,Z0_j10,K0_j10⟩
         rintro L w55⟨v26,v27,l19_j11,O19_j11,l20_j11,O20_j11,X0_j11,l1_j11,l5_j11,l7_j11,l8_j11,l12_j11,l17_j11,l18_j11,l21_j11,Z0_j11,K0_j11⟩;have hz:=RV.sl O19_j11.rv;obtain⟨a28,cq28,rfl,-,-,-⟩:=hz;have hz:=RV.sl O20_j11.rv;obtain⟨a29,cq29,rfl,-,-,-⟩:=hz;cases hB27;refine lf<|?_;exact⟨_,_,_,_,rfl,l19_j11,O19_j11,l20_j11,O20_j11,X0_j11,l1_j11,l5_j11,l7_j11,l8_j11,l12_j11,l17_j11,l18_j11,l21_j11,Z0_j11,K0_j11⟩
       rintro L w56⟨y14,y15,v21,v22,rfl,l19_j12,O19_j12,l20_j12,O20_j12,X0_j12,l1_j12,l5_j12,l7_j12,l8_j12,l12_j12,l17_j12,l18_j12,l21_j12,Z0_j12,K0_j12⟩;have hz:=RV.sl O19_j12.rv;obtain⟨a30,cq30,rfl,-,-,-⟩:=hz;have hz:=RV.sl O20_j12.rv;obtain⟨a31,cq31,rfl,-,-,-⟩:=hz;refine rg<|Zm<|Zv (FH l21_j12 rfl)<|Za<|nl<|lq m (Nat.lt_succ_self _)<|?_;exact⟨_,_,_,_,_,hB25,l19_j12,O19_j12,l20_j12,O20_j12,rfl,X0_j12,l1_j12,l5_j12,l7_j12,l8_j12,l12_j12,l17_j12,l18_j12,Z0_j12,K0_j12⟩
      ·have hB25:=DF hB25 h12;refine wp_exit<|?_;cases hB25;refine lf<|?_;exact⟨_,_,_,_,rfl,l19_i9,O19_i9,l20_i9,O20_i9,X0_i9,l1_i9,l7_i9,l8_i9,Z0_i9,K0_i9⟩
     rintro L w57⟨z3,z4,v19,v20,rfl,l19_j13,O19_j13,l20_j13,O20_j13,X0_j13,l1_j13,l7_j13,l8_j13,Z0_j13,K0_j13⟩;have k123:=k71.tr K0_j13;have r345:=r236.ext K0_j13;have r346:=r237.ext K0_j13;have r347:=r238.ext K0_j13;have hb91:=hb69.ext K0_j13;have r348:=r240.ext K0_j13;have hz:=RV.sl O19_j13.rv;obtain⟨a32,cq32,rfl,-,-,-⟩:=hz;have hz:=RV.sl O20_j13.rv;obtain⟨a33,cq33,rfl,-,-,-⟩:=hz;refine Zr<|Zv (Jq l1_j13 AA0 rfl (Bx.cs hb91))<|Zm<|bS hF fun x39 Ex39 hF=>Zc (xc ATa (mc rfl (mc l20_j13 mn))) (c80 (show RV (α:=(Int×(List (Int×Int×Int))×(List Int)×(List Int))) _ (.agg [.int .i64 x0.1,.slice a1 x0.2.1.length cq1,.slice a2 x0.2.2.1.length cq2,.slice a3 x0.2.2.2.length cq3].toArray) (x0.1,x0.2.1,x0.2.2.1,x0.2.2.2)from⟨_,rfl,[.int .i64 x0.1],[.slice a1 x0.2.1.length cq1]++([.slice a2 x0.2.2.1.length cq2]++[.slice a3 x0.2.2.2.length cq3]),rfl,rfl,[.slice a1 x0.2.1.length cq1],[.slice a2 x0.2.2.1.length cq2]++[.slice a3 x0.2.2.2.length cq3],rfl,r345.rep1,[.slice a2 x0.2.2.1.length cq2],[.slice a3 x0.2.2.2.length cq3],rfl,r346.rep1,r347.rep1⟩) O20_j13.rv Ex39) ?_;rintro _ w58⟨u7,rfl,r349,hx29⟩;have k125:=k123.tr hx29;have r350:=r348.ext hx29;have O44:=O19_j13.ext hx29;have hz:=RV.sl r349;obtain⟨a34,cq34,rfl,-,-,-⟩:=hz;refine Zm<|Zv (xC rfl rfl)<|Zv (xC rfl rfl)<|Zv (xC rfl rfl)<|Za<|Za<|Za<|nl<|Zr<|Zm<|Zv (zL rfl rfl)<|Zm<|Zg rfl rfl (xB rfl) (fun hc=>FY rfl)<|Zg rfl rfl (xB rfl) (fun hc=>FY l8_j13)<|Zg rfl rfl (xB rfl) (fun hc=>zL (mv hc rfl) (mv hc rfl))<|Zv (xpa rfl rfl rfl)<|Zm<|Zg rfl rfl (xB rfl) (fun hc=>FY l19_j13)<|Zg rfl rfl (xB rfl) (fun hc=>FY l7_j13)<|bS hF fun x40 Ex40 hF=>gc rfl rfl rfl rfl (xB rfl) rfl (fun hc=>xc ATb (mc (mv hc rfl) (mc (mv hc rfl) mn))) (fun hc=>(c81 O44.rv r350 (gdp Ex40 hc))) (fun v29 w59 hy3 hn3=>?_);have hx30:Ext w58 w59:=gx (fun h=>(hy3 h).2) (fun h=>(hn3 h).2▸Ext.refl _);have e18:=mkw (fun h=>(hy3 h).1) (fun h=>(hn3 h).1);have k128:=k125.tr hx30;refine Zv (xpa rfl e18 rfl)<|Zm<|bS hF fun x41 Ex41 hF=>gc rfl rfl rfl rfl (xB rfl) rfl (fun hc=>xc ANj mn) (fun hc=>(c74 (gdp Ex41 hc))) (fun v30 w60 hy4 hn4=>?_);have hx31:Ext w59 w60:=gx (fun h=>(hy4 h).2) (fun h=>(hn4 h).2▸Ext.refl _);have e19:=mkw (fun h=>(hy4 h).1) (fun h=>(hn4 h).1);have k131:=k128.tr hx31;refine Zv (xpa rfl e19 rfl)<|Za<|nl<|?_;cases hF;exact wp_ret<|Zw rfl rfl rfl ⟨rfl,k131⟩
end Go.Proofs.YtfmelbioccbdoaaGreat
end
section
namespace Go.Proofs.YtfmelbioccbdoaaGreat
open Go Go.Md Go.RowKit
section
theorem Dx{n:Int}(h:-9223372036854775808<=n/\n<=9223372036854775807):BH n=n:=IntWalk.i64_in n h
def ACz{α:Type}(l:List α)(f:α->Option Bool):Nat->Int->Option (Sum Int Unit)
 |0,_=>none
 |m+1,k=>
  if(decide (k<(l.length:Int)))=true then
   (ix l k)>>=fun x=>(f x)>>=fun b=>if b=true then some (.inl k)else ACz l f m (BH (k+1))
  else some (.inr ())
theorem AAb{α:Type}{l:List α}{k:Nat}(h:k<l.length):ix l (k:Int)=some l[k]:=by
 simp[ix,List.getElem?_eq_getElem h]
theorem AC0{α:Type}{l:List α}{f:α->Option Bool}{p:α->Bool}(hf:∀x∈l,f x=some (p x))(hl:l.length<4611686018427387904):
  ∀(m k:Nat),k<=l.length->l.length-k<m->∃r,ACz l f m (k:Int)=some r/\((l.drop k).any p=true->∃j:Nat,r=.inl (j:Int))/\((l.drop k).any p=false->r=.inr ())
 |0,k,_,h=>by omega
 |m+1,k,hk,h=>by
  unfold ACz;by_cases hlt:k<l.length
  ·have e:decide ((k:Int)<(l.length:Int))=true:=by simpa using hlt
   rw[if_pos e,AAb hlt];have hd:l.drop k=l[k]::l.drop (k+1):=List.drop_eq_getElem_cons hlt;have hfx:=hf l[k] (List.getElem_mem hlt);simp only[DJ,AU,hfx];cases hp:p l[k]with
   |true=>
    refine⟨_,if_pos rfl,fun _=>⟨k,rfl⟩,fun h=>?_⟩;rw[hd,List.any_cons,hp]at h;cases h
   |false=>
    rw[if_neg (by simp),Dx (by omega)];obtain⟨r,h1,h2,h3⟩:=AC0 hf hl m (k+1) (by omega) (by omega);refine⟨r,h1,?_,?_⟩<;>rw[hd,List.any_cons,hp,Bool.false_or]<;>assumption
  ·have e:¬decide ((k:Int)<(l.length:Int))=true:=by simpa using hlt
   rw[if_neg e];have:l.drop k=[]:=List.drop_of_length_le (by omega);refine⟨_,rfl,?_,fun _=>rfl⟩;rw[this];intro h;cases h
section
variable {α:Type}{f:α->Option Bool}{p:α->Bool}
theorem AKi{l:List Int}{f:Int->Option Bool}(F:Nat):∀m k,vT F l f m k=ACz l f m k
 |0,_=>rfl
 |m+1,k=>by unfold vT ACz;simp only[AKi F m]
theorem AIT{l:List Int}{f:Int->Option Bool}(F:Nat):∀m k,tZ F l f m k=ACz l f m k
 |0,_=>rfl
 |m+1,k=>by unfold tZ ACz;simp only[AIT F m]
theorem AJh{l:List (Int×Int×Int)}{f:(Int×Int×Int)->Option Bool}(F:Nat):∀m k,Oc F l f m k=ACz l f m k
 |0,_=>rfl
 |m+1,k=>by unfold Oc ACz;simp only[AJh F m]
theorem AGO{l:List Int}{f:Int->Option Bool}{p:Int->Bool}{F:Nat}(hf:∀x∈l,f x=some (p x))(hF:l.length<F)(hl:l.length<4611686018427387904):kR F l f=some (l.any p):=by
 obtain⟨r,h1,h2,h3⟩:=AC0 hf hl F 0 (Nat.zero_le _) (by omega);unfold kR AAf;rw[AKi];simp only[Int.natCast_zero,List.drop_zero]at h1 h2 h3;rw[h1];cases hp:l.any p with
 |true=>obtain⟨j,rfl⟩:=h2 hp;simp[DJ]
 |false=>obtain rfl:=h3 hp;simp[DJ]
theorem ANF{l:List Int}{f:Int->Option Bool}{p:Int->Bool}{F:Nat}(hf:∀x∈l,f x=some (p x))(hF:l.length<F)(hl:l.length<4611686018427387904):xP F l f=some (l.any p):=by
 obtain⟨r,h1,h2,h3⟩:=AC0 hf hl F 0 (Nat.zero_le _) (by omega);unfold xP AAD;rw[AIT];simp only[Int.natCast_zero,List.drop_zero]at h1 h2 h3;rw[h1];cases hp:l.any p with
 |true=>obtain⟨j,rfl⟩:=h2 hp;simp[DJ]
 |false=>obtain rfl:=h3 hp;simp[DJ]
theorem AOY{l:List (Int×Int×Int)}{f:(Int×Int×Int)->Option Bool}{p:(Int×Int×Int)->Bool}{F:Nat}(hf:∀x∈l,f x=some (p x))(hF:l.length<F)(hl:l.length<4611686018427387904):vI F l f=some (l.any p):=by
 obtain⟨r,h1,h2,h3⟩:=AC0 hf hl F 0 (Nat.zero_le _) (by omega);unfold vI xQ;rw[AJh];simp only[Int.natCast_zero,List.drop_zero]at h1 h2 h3;rw[h1];cases hp:l.any p with
 |true=>obtain⟨j,rfl⟩:=h2 hp;simp[DJ]
 |false=>obtain rfl:=h3 hp;simp[DJ]
end
def yR(lo hi n:Int):Bool:=decide (lo<=n)&&decide (n<=hi)
theorem AKj{lo hi:Int}(l:List Int):(!l.any fun n=>decide (n<lo)||decide (hi<n))=l.all (yR lo hi):=by
 induction l with
 |nil=>rfl
 |cons a l ih=>
  simp only[List.any_cons,List.all_cons,Bool.not_or,ih,yR]
  congr 1
  by_cases h1:a<lo<;>by_cases h2:hi<a<;>simp[h1,h2]<;>omega
theorem AGo{F:Nat}{lo hi:Int}{l:List Int}(hF:l.length<F)(hl:l.length<4611686018427387904):ABC F lo hi l=some (l.all (yR lo hi)):=by
 unfold ABC;rw[AGO (f:=fun y=>AB9 y lo hi) (p:=fun n=>decide (n<lo)||decide (hi<n)) (fun x _=>rfl) hF hl];simp only[DJ,AU,AKj]
theorem ANG{F:Nat}{lo hi:Int}{l:List Int}(hF:l.length<F)(hl:l.length<4611686018427387904):ABm F lo hi l=some (l.all (yR lo hi)):=by
 unfold ABm;rw[ANF (f:=fun y=>ABu y lo hi) (p:=fun n=>decide (n<lo)||decide (hi<n)) (fun x _=>rfl) hF hl];simp only[DJ,AU,AKj]
end
end Go.Proofs.YtfmelbioccbdoaaGreat
end
section
namespace Go.Proofs.YtfmelbioccbdoaaGreat
open Go Go.Md Go.RowKit
namespace Ng
section
abbrev ZW:Qw:=(0,0,0)
theorem mem_from{K:List oG}{u:Int}{w:Qw}:∀(m k:Nat),k+m=K.length->(w∈xF K u m k↔∃(i:Nat)(x:oG),k<=i/\K[i]?=some x/\(x.1=u\/x.2.1=u)/\w=(u,(if x.2.1=u then x.1 else x.2.1),(i:Int)))
 |0,k,h=>by
  constructor
  ·intro h1;rw[xF]at h1;cases h1
  ·rintro⟨i,x,h1,h2,_⟩
   have:=(List.getElem?_eq_some_iff.1 h2).1;omega
 |m+1,k,h=>by
  have hk:k<K.length:=by omega
  have ih:=mem_from (K:=K) (u:=u) (w:=w) m (k+1) (by omega);have hg:K[k]?=some K[k]:=List.getElem?_eq_getElem hk;have step:(∃(i:Nat)(x:oG),k<=i/\K[i]?=some x/\(x.1=u\/x.2.1=u)/\w=(u,(if x.2.1=u then x.1 else x.2.1),(i:Int)))↔
    ((K[k].1=u\/K[k].2.1=u)/\w=(u,(if K[k].2.1=u then K[k].1 else K[k].2.1),(k:Int)))\/∃(i:Nat)(x:oG),k+1<=i/\K[i]?=some x/\(x.1=u\/x.2.1=u)/\w=(u,(if x.2.1=u then x.1 else x.2.1),(i:Int)):=by
   constructor
   ·rintro⟨i,x,h1,h2,h3,h4⟩
    by_cases e:i=k
    ·subst e
     rw[hg]at h2;cases h2;exact .inl ⟨h3,h4⟩
    ·exact .inr ⟨i,x,by omega,h2,h3,h4⟩
   ·rintro(⟨h3,h4⟩|⟨i,x,h1,h2,h3,h4⟩)
    ·exact⟨k,_,Nat.le_refl _,hg,h3,h4⟩
    ·exact⟨i,x,by omega,h2,h3,h4⟩
  rw[step,xF,hg];simp only;by_cases c:K[k].1=u\/K[k].2.1=u
  ·have c':(decide (K[k].1=u)||decide (K[k].2.1=u))=true:=by simpa using c
   rw[if_pos c',List.mem_cons,ih];simp only[decide_eq_true_eq];constructor
   ·rintro(h|h)
    ·exact .inl ⟨c,h⟩
    ·exact .inr h
   ·rintro(⟨_,h⟩|h)
    ·exact .inl h
    ·exact .inr h
  ·have c':¬(decide (K[k].1=u)||decide (K[k].2.1=u))=true:=by simpa using c
   rw[if_neg c',ih];constructor
   ·exact .inr
   ·rintro(⟨h,_⟩|h)
    ·exact absurd h c
    ·exact h
theorem AEu{K:List oG}{u:Int}{w:Qw}:w∈G5 K u↔∃(i:Nat)(x:oG),K[i]?=some x/\(x.1=u\/x.2.1=u)/\w=(u,(if x.2.1=u then x.1 else x.2.1),(i:Int)):=by
 unfold G5;rw[mem_from K.length 0 (by omega)];constructor
 ·rintro⟨i,x,_,h⟩;exact⟨i,x,h⟩
 ·rintro⟨i,x,h⟩;exact⟨i,x,Nat.zero_le _,h⟩
def VK(n:Nat)(K:List oG):Prop:=∀x∈K,0<=x.1/\x.1<(n:Int)/\0<=x.2.1/\x.2.1<(n:Int)/\x.1≠x.2.1
section
variable {n:Nat}{K:List oG}{u:Int}{w:Qw}
theorem AFO(hK:VK n K)(h:w∈G5 K u):w.1=u/\0<=u/\u<(n:Int)/\0<=w.2.1/\w.2.1<(n:Int)/\w.2.1≠u/\w≠ZW/\0<=w.2.2/\w.2.2<(K.length:Int):=by
 obtain⟨i,x,h1,h2,rfl⟩:=AEu.1 h;have hi:=(List.getElem?_eq_some_iff.1 h1).1;have:=hK x (List.mem_of_getElem? h1);by_cases c:x.2.1=u
 ·rw[if_pos c]
  refine⟨rfl,by omega,by omega,by show 0<=x.1;omega,by show x.1<_;omega,by show x.1≠u;omega,fun e=>?_,by show(0:Int)<=(i:Int);omega,by show(i:Int)<_;omega⟩;have e1:u=0:=congrArg (·.1) e;have e2:x.1=0:=congrArg (·.2.1) e;omega
 ·rw[if_neg c]
  have h3:x.1=u:=h2.resolve_right c;refine⟨rfl,by omega,by omega,by show 0<=x.2.1;omega,by show x.2.1<_;omega,by show x.2.1≠u;omega,fun e=>?_,by show(0:Int)<=(i:Int);omega,by show(i:Int)<_;omega⟩;have e1:u=0:=congrArg (·.1) e;have e2:x.2.1=0:=congrArg (·.2.1) e;omega
theorem AKk(hK:VK n K)(h:w∈G5 K u):(w.2.1,u,w.2.2)∈G5 K w.2.1:=by
 obtain⟨i,x,h1,h2,rfl⟩:=AEu.1 h;have:=hK x (List.mem_of_getElem? h1);refine AEu.2 ⟨i,x,h1,?_,?_⟩
 ·by_cases c:x.2.1=u
  ·simp[c]
  ·simp[c]
 ·by_cases c:x.2.1=u
  ·simp[c]
  ·simp[c];omega
end
theorem AIy{α:Type}[DecidableEq α]:∀{l k:List α},l.Nodup->(∀a∈l,a∈k)->l.length<=k.length
 |[],_,_,_=>Nat.zero_le _
 |a::l,k,hn,hs=>by
  rw[List.nodup_cons]at hn;have ha:=hs a List.mem_cons_self;have:=AIy (k:=k.erase a) hn.2 fun b hb=>by
   have hne:b≠a:=fun e=>hn.1 (e▸hb);exact(List.mem_erase_of_ne hne).2 (hs b (List.mem_cons_of_mem _ hb))
  rw[List.length_erase_of_mem ha]at this;have:=List.length_pos_of_mem ha;simp only[List.length_cons];omega
def R(o:List Qw)(v:Nat):Prop:=∃y,o[v]?=some y/\y≠ZW
theorem APD{o:List Qw}{i v:Nat}{x:Qw}(hi:i<o.length)(hx:x≠ZW):R (o.set i x) v↔v=i\/R o v:=by
 unfold R;rw[List.getElem?_set];by_cases c:i=v
 ·subst c
  rw[if_pos rfl,if_pos hi];exact⟨fun _=>.inl rfl,fun _=>⟨x,rfl,hx⟩⟩
 ·rw[if_neg c]
  constructor
  ·exact .inr
  ·rintro(h|h)
   ·exact absurd h.symm c
   ·exact h
def zc(o:List Qw):Nat:=o.count ZW
structure RI(n:Nat)(K:List oG)(g:Qw->Int)(fr:List Int)(X:Nat->Prop)(o:List Qw)(q:List Int)(rk:Nat->Nat)(t:Nat):Prop where
 len:o.length=n
 tz:t+zc o=n
 qin:∀k∈q,0<=k/\R o k.toNat
 tree:∀(v:Nat)(y:Qw),o[v]?=some y->y≠ZW->rk v<t/\((y=((v:Int),(v:Int),-1)/\(v:Int)∈fr)\/(y.2.1=(v:Int)/\y∈G5 K y.1/\0<g y/\R o y.1.toNat/\rk y.1.toNat<rk v))
 done:∀v,R o v->(v:Int)∈q\/X v\/∀w∈G5 K (v:Int),0<g w->R o w.2.1.toNat
theorem ANI{o:List Qw}{i:Nat}{x:Qw}(h:o[i]?=some ZW)(hx:x≠ZW):zc (o.set i x)+1=zc o:=by
 obtain⟨hi,e⟩:=List.getElem?_eq_some_iff.1 h;unfold zc;have h1:0<o.count ZW:=List.count_pos_iff.2 (by rw[<-e];exact List.getElem_mem hi);rw[List.count_set hi,if_pos (by simp[e]),if_neg (by simpa using hx)];omega
section
variable {n:Nat}{K:List oG}{g:Qw->Int}{fr:List Int}{lw:Qw->Option Int}
theorem AGP(hK:VK n K)(k:Nat)(hl:∀w∈G5 K (k:Int),lw w=some (g w)){c:Nat}(hc:c<=1000000):∀(ws:List Qw)(o:List Qw)(q:List Int)(rk:Nat->Nat)(t:Nat),(∀w∈ws,w∈G5 K (k:Int))->R o k->
  RI n K g fr (·=k) o q rk t->q.length+zc o=c->∃o' q' rk' t',ADe lw ws o q=some (o',q')/\RI n K g fr (·=k) o' q' rk' t'/\q'.length+zc o'=c/\(∀v,R o v->R o' v)/\∀w∈ws,0<g w->R o' w.2.1.toNat
 |[],o,q,rk,t,_,_,hI,hz=>⟨o,q,rk,t,rfl,hI,hz,fun _ h=>h,by simp⟩
 |x::ws,o,q,rk,t,hw,hk,hI,hz=>by
  have hx:=hw x List.mem_cons_self;obtain⟨x1,x2,x3,x4,x5,x6,x7,x8,x9⟩:=AFO hK hx;have hlen:=hI.len;have hi:x.2.1.toNat<o.length:=by omega
  have hix:ix o x.2.1=some o[x.2.1.toNat]:=by unfold ix;rw[if_pos x4,List.getElem?_eq_getElem hi]
  have hw':∀w∈ws,w∈G5 K (k:Int):=fun w h=>hw w (List.mem_cons_of_mem _ h);rw[ADe,hix];simp only[DJ,AU];by_cases c1:o[x.2.1.toNat]=ZW
  ·rw[if_pos (by simpa using c1),hl x hx]
   simp only[AU];by_cases c2:0<g x
   ·have hap:app 8 q ([x.2.1]:List Int)=some (q++[x.2.1]):=by
     unfold app;rw[if_pos (by simp only[List.length_cons,List.length_nil];omega)]
    rw[if_pos (by simpa using c2),hap];simp only[AU];have ho:o[x.2.1.toNat]?=some ZW:=by rw[List.getElem?_eq_getElem hi,c1]
    have hzc:=ANI ho x7;have hRs:∀v,R (o.set x.2.1.toNat x) v↔v=x.2.1.toNat\/R o v:=fun v=>APD hi x7;have hnR:¬R o x.2.1.toNat:=by
     rintro⟨y,h1,h2⟩;rw[ho]at h1;cases h1;exact h2 rfl
    have hI':RI n K g fr (·=k) (NG o x.2.1 x) (q++[x.2.1]) (fun v=>if v=x.2.1.toNat then t else rk v) (t+1):=by
     refine⟨by rw[NG,List.length_set];exact hlen,by have:=hI.tz;simp only[NG];omega,fun j hj=>?_,fun v y hv hy=>?_,fun v hv=>?_⟩
     ·rcases List.mem_append.1 hj with hj|hj
      ·exact⟨(hI.qin j hj).1,(hRs _).2 (.inr (hI.qin j hj).2)⟩
      ·rw[List.mem_singleton.1 hj]
       exact⟨x4,(hRs _).2 (.inl rfl)⟩
     ·rw[NG,List.getElem?_set]at hv
      by_cases c3:x.2.1.toNat=v
      ·rw[if_pos c3,if_pos hi]at hv
       cases hv;have h1:=hI.tree k _ hk.choose_spec.1 hk.choose_spec.2;have hkx:k≠v:=by intro e;subst e;rw[c3]at hnR;exact hnR hk
       rw[if_pos c3.symm];refine⟨Nat.lt_succ_self _,.inr ⟨by omega,by rw[x1];exact hx,c2,?_,?_⟩⟩
       ·rw[x1,Int.toNat_natCast];exact(hRs _).2 (.inr hk)
       ·rw[x1,Int.toNat_natCast,if_neg (by omega)]
        exact h1.1
      ·rw[if_neg c3]at hv
       have h1:=hI.tree v y hv hy;rw[if_neg (by omega)];refine⟨by omega,h1.2.imp id fun⟨a1,a2,a3,a4,a5⟩=>⟨a1,a2,a3,(hRs _).2 (.inr a4),?_⟩⟩;rw[if_neg (by intro e;rw[e]at a4;exact hnR a4)];exact a5
     ·rcases(hRs v).1 hv with rfl|hv
      ·exact .inl (by rw[Int.toNat_of_nonneg x4];simp)
      ·rcases hI.done v hv with h|h|h
       ·exact .inl (List.mem_append_left _ h)
       ·exact .inr (.inl h)
       ·exact .inr (.inr fun w a b=>(hRs _).2 (.inr (h w a b)))
    obtain⟨o',q',rk',t',r1,r2,r3,r4,r5⟩:=AGP hK k hl hc ws _ _ _ _ hw' ((hRs k).2 (.inr hk)) hI' (by rw[List.length_append];simp only[List.length_cons,List.length_nil];omega);refine⟨o',q',rk',t',r1,r2,r3,fun v hv=>r4 v ((hRs v).2 (.inr hv)),fun w h1 h2=>?_⟩;rcases List.mem_cons.1 h1 with rfl|h1
    ·exact r4 _ ((hRs _).2 (.inl rfl))
    ·exact r5 w h1 h2
   ·rw[if_neg (by simpa using c2)]
    obtain⟨o',q',rk',t',r1,r2,r3,r4,r5⟩:=AGP hK k hl hc ws o q rk t hw' hk hI hz;refine⟨o',q',rk',t',r1,r2,r3,r4,fun w h1 h2=>?_⟩;rcases List.mem_cons.1 h1 with rfl|h1
    ·exact absurd h2 c2
    ·exact r5 w h1 h2
  ·rw[if_neg (by simpa using c1)]
   obtain⟨o',q',rk',t',r1,r2,r3,r4,r5⟩:=AGP hK k hl hc ws o q rk t hw' hk hI hz;refine⟨o',q',rk',t',r1,r2,r3,r4,fun w h1 h2=>?_⟩;rcases List.mem_cons.1 h1 with rfl|h1
   ·exact r4 _ ⟨_,List.getElem?_eq_getElem hi,c1⟩
   ·exact r5 w h1 h2
theorem AKl(hK:VK n K)(hl:∀(k:Nat),∀w∈G5 K (k:Int),lw w=some (g w)):∀(m c:Nat)(o:List Qw)(q:List Int)(rk:Nat->Nat)(t:Nat),RI n K g fr (fun _=>False) o q rk t->q.length+zc o=c->c<m->c<=1000000->
  ∃o' rk' t',ADf K lw m o q=some o'/\RI n K g fr (fun _=>False) o' [] rk' t'/\∀v,R o v->R o' v
 |0,c,_,_,_,_,_,_,h,_=>by omega
 |m+1,c,o,[],rk,t,hI,_,_,_=>⟨o,rk,t,by rw[ADf],hI,fun _ h=>h⟩
 |m+1,c,o,k::q,rk,t,hI,hz,hm,hc=>by
  rw[ADf];obtain⟨h0,hRk⟩:=hI.qin k List.mem_cons_self;have ek:((k.toNat:Nat):Int)=k:=Int.toNat_of_nonneg h0;have hI1:RI n K g fr (·=k.toNat) o q rk t:=⟨hI.len,hI.tz,fun j hj=>hI.qin j (List.mem_cons_of_mem _ hj),hI.tree,fun v hv=>by
   rcases hI.done v hv with h|h|h
   ·rcases List.mem_cons.1 h with h|h
    ·exact .inr (.inl (by omega))
    ·exact .inl h
   ·exact h.elim
   ·exact .inr (.inr h)⟩
  rw[List.length_cons]at hz;obtain⟨o',q',rk',t',r1,r2,r3,r4,r5⟩:=AGP hK k.toNat (by rw[ek];intro w hw;have:=hl k.toNat w (by rw[ek];exact hw);exact this) (c:=c-1) (by omega) (G5 K k) o q rk t (by rw[ek];exact fun _ h=>h) hRk hI1 (by omega);rw[r1];simp only[DJ,AU];have hI2:RI n K g fr (fun _=>False) o' q' rk' t':=⟨r2.len,r2.tz,r2.qin,r2.tree,fun v hv=>by
   rcases r2.done v hv with h|h|h
   ·exact .inl h
   ·subst h
    refine .inr (.inr fun w hw hg=>r5 w (by rw[ek]at hw;exact hw) hg)
   ·exact .inr (.inr h)⟩
  obtain⟨o2,rk2,t2,e1,e2,e3⟩:=AKl hK hl m (c-1) o' q' rk' t' hI2 r3 (by omega) (by omega);exact⟨o2,rk2,t2,e1,e2,fun v hv=>e3 v (r4 v hv)⟩
theorem AKm:∀(l:List Int)(o:List Qw)(q:List Int)(rk:Nat->Nat)(t:Nat),l.Nodup->(∀k∈l,0<=k/\k<(n:Int)/\k∈fr/\¬R o k.toNat)->q.length+l.length<=1000000->RI n K g fr (fun _=>False) o q rk t->(∀v,R o v->(v:Int)∈q)->
  ∃o' q' rk' t',AFM l o q=some (o',q')/\RI n K g fr (fun _=>False) o' q' rk' t'/\q'.length+zc o'=q.length+zc o/\(∀v,R o v->R o' v)/\∀k∈l,R o' k.toNat
 |[],o,q,rk,t,_,_,_,hI,_=>⟨o,q,rk,t,rfl,hI,rfl,fun _ h=>h,by simp⟩
 |k::l,o,q,rk,t,hn,hl,hq,hI,hR=>by
  obtain⟨k1,k2,k3,k4⟩:=hl k List.mem_cons_self;have hn':=List.nodup_cons.1 hn;have hlen:=hI.len;have hi:k.toNat<o.length:=by omega
  have ek:((k.toNat:Nat):Int)=k:=Int.toNat_of_nonneg k1;have ho:o[k.toNat]?=some ZW:=by
   rw[List.getElem?_eq_getElem hi]
   congr 1
   exact Classical.byContradiction fun h=>k4 ⟨_,List.getElem?_eq_getElem hi,h⟩
  have hix:ix o k=some ZW:=by unfold ix;rw[if_pos k1,ho]
  rw[List.length_cons]at hq;have hap:app 8 q ([k]:List Int)=some (q++[k]):=by
   unfold app;rw[if_pos (by simp only[List.length_cons,List.length_nil];omega)]
  rw[AFM,hix];simp only[DJ,AU,hap];have hx7:((k,k,-1):Qw)≠ZW:=fun e=>by have:=congrArg (·.2.2) e;simp at this
  have hzc:=ANI ho hx7;have hRs:∀v,R (o.set k.toNat (k,k,-1)) v↔v=k.toNat\/R o v:=fun v=>APD hi hx7;have hI':RI n K g fr (fun _=>False) (NG o k (k,k,-1)) (q++[k]) (fun v=>if v=k.toNat then t else rk v) (t+1):=by
   refine⟨by rw[NG,List.length_set];exact hlen,by have:=hI.tz;simp only[NG];omega,fun j hj=>?_,fun v y hv hy=>?_,fun v hv=>?_⟩
   ·rcases List.mem_append.1 hj with hj|hj
    ·exact⟨(hI.qin j hj).1,(hRs _).2 (.inr (hI.qin j hj).2)⟩
    ·rw[List.mem_singleton.1 hj]
     exact⟨k1,(hRs _).2 (.inl rfl)⟩
   ·rw[NG,List.getElem?_set]at hv
    by_cases c3:k.toNat=v
    ·rw[if_pos c3,if_pos hi]at hv
     cases hv;subst c3;rw[if_pos rfl];exact⟨Nat.lt_succ_self _,.inl ⟨by rw[ek],by rw[ek];exact k3⟩⟩
    ·rw[if_neg c3]at hv
     have h1:=hI.tree v y hv hy;rw[if_neg (by omega)];refine⟨by omega,h1.2.imp id fun⟨a1,a2,a3,a4,a5⟩=>⟨a1,a2,a3,(hRs _).2 (.inr a4),?_⟩⟩;rw[if_neg (by intro e;rw[e]at a4;exact k4 a4)];exact a5
   ·rcases(hRs v).1 hv with rfl|hv
    ·exact .inl (by rw[ek];simp)
    ·exact .inl (List.mem_append_left _ (hR v hv))
  obtain⟨o',q',rk',t',r1,r2,r3,r4,r5⟩:=AKm l _ _ _ _ hn'.2 (fun j hj=>by
   obtain⟨j1,j2,j3,j4⟩:=hl j (List.mem_cons_of_mem _ hj);refine⟨j1,j2,j3,fun h=>?_⟩;rcases(hRs _).1 h with h|h
   ·exact hn'.1 (by rw[show k=j by omega];exact hj)
   ·exact j4 h) (by rw[List.length_append];simp only[List.length_cons,List.length_nil];omega) hI' (fun v hv=>by
   rcases(hRs v).1 hv with rfl|hv
   ·rw[ek];simp
   ·exact List.mem_append_left _ (hR v hv))
  refine⟨o',q',rk',t',r1,r2,?_,fun v hv=>r4 v ((hRs v).2 (.inr hv)),fun j hj=>?_⟩
  ·rw[r3,List.length_append]
   simp only[NG,List.length_cons,List.length_nil];omega
  ·rcases List.mem_cons.1 hj with rfl|hj
   ·exact r4 _ ((hRs _).2 (.inl rfl))
   ·exact r5 j hj
structure Rch(n:Nat)(K:List oG)(g:Qw->Int)(fr:List Int)(o:List Qw):Prop where
 len:o.length=n
 from':∀k∈fr,R o k.toNat
 on:∀v,R o v->∀w∈G5 K (v:Int),0<g w->R o w.2.1.toNat
 tree:∃rk:Nat->Nat,∀(v:Nat)(y:Qw),o[v]?=some y->y≠ZW->rk v<n/\((y=((v:Int),(v:Int),-1)/\(v:Int)∈fr)\/(y.2.1=(v:Int)/\y∈G5 K y.1/\0<g y/\R o y.1.toNat/\rk y.1.toNat<rk v))
theorem AHb{F:Nat}(hF:1000000<F)(hn:n<=1000)(hK:VK n K)(hl:∀(k:Nat),∀w∈G5 K (k:Int),lw w=some (g w))(hfr:fr.Nodup)(hfi:∀k∈fr,0<=k/\k<(n:Int)):
  ∃o,AAF F (n:Int) K fr lw=some o/\Rch n K g fr o:=by
 have hm:mks 24 (n:Int) ((0,0,0):Qw)=some (List.replicate n ZW):=by
  unfold mks;rw[if_pos ⟨by omega,by rw[Int.toNat_natCast];omega⟩,Int.toNat_natCast]
 have hnR:∀v,¬R (List.replicate n ZW) v:=by
  rintro v⟨y,h1,h2⟩;rw[List.getElem?_replicate]at h1;split at h1
  ·cases h1;exact h2 rfl
  ·cases h1
 have hfl:fr.length<=n:=by
  have h1:(fr.map Int.toNat).Nodup:=by
   rw[List.nodup_iff_pairwise_ne,List.pairwise_map];refine hfr.imp_of_mem fun{a b} ha hb hab=>?_;have:=hfi a ha;have:=hfi b hb;omega
  have h2:(fr.map Int.toNat).length<=(List.range n).length:=AIy h1 (fun v hv=>by
   obtain⟨a,ha,rfl⟩:=List.mem_map.1 hv;have:=hfi a ha;exact List.mem_range.2 (by omega))
  simpa using h2
 have hz0:zc (List.replicate n ZW)=n:=by unfold zc;rw[List.count_replicate];simp
 have hI0:RI n K g fr (fun _=>False) (List.replicate n ZW) [] (fun _=>0) 0:=⟨by simp,by rw[hz0];omega,by simp,fun v y h1 h2=>absurd ⟨y,h1,h2⟩ (hnR v),fun v h=>absurd h (hnR v)⟩;unfold AAF;rw[hm];simp only[DJ,AU];obtain⟨o,q,rk,t,e1,e2,e3,e4,e5⟩:=AKm (n:=n) (K:=K) (g:=g) (fr:=fr) fr (List.replicate n ZW) [] (fun _=>0) 0 hfr (fun k hk=>⟨(hfi k hk).1,(hfi k hk).2,hk,hnR _⟩) (by simp;omega) hI0 (fun v h=>absurd h (hnR v));rw[e1];simp only[AU];rw[hz0,List.length_nil]at e3;obtain⟨o',rk',t',f1,f2,f3⟩:=AKl hK hl F n o q rk t e2 (by omega) (by omega) (by omega);refine⟨o',f1,f2.len,fun k hk=>f3 _ (e5 k hk),fun v hv=>?_,rk',fun v y h1 h2=>⟨by have:=(f2.tree v y h1 h2).1;have:=f2.tz;omega,(f2.tree v y h1 h2).2⟩⟩;rcases f2.done v hv with h|h|h
 ·cases h
 ·exact h.elim
 ·exact h
theorem Rch.ind{o:List Qw}(hK:VK n K)(h:Rch n K g fr o)(p:Nat->Prop)(h0:∀v:Nat,(v:Int)∈fr->p v)(h1:∀(u:Nat)(w:Qw),p u->w∈G5 K (u:Int)->0<g w->p w.2.1.toNat):∀v,R o v->p v:=by
 obtain⟨rk,ht⟩:=h.tree;have key:∀(t v:Nat),rk v<t->R o v->p v:=by
  intro t
  induction t with
  |zero=>intro v hv;omega
  |succ t ih=>
   rintro v hv⟨y,hy,hy2⟩;rcases(ht v y hy hy2).2 with⟨_,h2⟩|⟨h2,h3,h4,h5,h6⟩
   ·exact h0 v h2
   ·have h7:=(AFO hK h3).2.1
    have:=h1 y.1.toNat y (ih y.1.toNat (by omega) h5) (by rw[Int.toNat_of_nonneg h7];exact h3) h4;rwa [h2,Int.toNat_natCast]at this
 exact fun v hv=>key (rk v+1) v (Nat.lt_succ_self _) hv
end
end
section
abbrev ABF:=Int×List (Int×Int×Int)×List Int×List Int
structure VN(x:ABF)(n:Nat):Prop where
 nn:x.1=(n:Int)
 n2:2<=n/\n<=40
 lk:x.2.1.length<=120
 el:1<=x.2.2.1.length/\x.2.2.1.length<=10
 er:1<=x.2.2.2.length/\x.2.2.2.length<=10
 kk:∀y∈x.2.1,0<=y.1/\y.1<(n:Int)/\0<=y.2.1/\y.2.1<(n:Int)/\y.1≠y.2.1/\1<=y.2.2/\y.2.2<=1000000
 ul:x.2.2.1.Pairwise (·<·)
 il:∀v∈x.2.2.1,0<=v/\v<(n:Int)
 ur:x.2.2.2.Pairwise (·<·)
 ir:∀v∈x.2.2.2,0<=v/\v<(n:Int)
 cl:∀v∈x.2.2.1,v∉x.2.2.2
theorem VN.vk{x:ABF}{n:Nat}(h:VN x n):VK n x.2.1:=fun y hy=>by
 have:=h.kk y hy;exact⟨this.1,this.2.1,this.2.2.1,this.2.2.2.1,this.2.2.2.2.1⟩
theorem ndl{l:List Int}(h:l.Pairwise (·<·)):l.Nodup:=by
 rw[List.nodup_iff_pairwise_ne];exact h.imp fun h e=>by omega
theorem ARV{F:Nat}{n:Int}{l:List Int}(hl:l.length<=1000000)(hi:∀v∈l,v<n):∀(m k:Nat)(y:Int),k<=l.length->l.length-k<m->(l.drop k).Pairwise (·<·)->(∀v∈l.drop k,y<v)->zF F n l m y (k:Int)=some (.inr ())
 |0,k,y,_,h,_,_=>by omega
 |m+1,k,y,hk,h,hp,hy=>by
  unfold zF;by_cases hlt:k<l.length
  ·have hd:l.drop k=l[k]::l.drop (k+1):=List.drop_eq_getElem_cons hlt
   rw[hd]at hp hy;have h1:=hi l[k] (List.getElem_mem hlt);have h2:=hy _ List.mem_cons_self;rw[if_pos (by simpa using hlt),AAb hlt];simp only[DJ,AU];rw[if_neg (by simp;omega),show BH ((k:Int)+1)=((k+1:Nat):Int) by rw[Dx (by omega)];rfl];exact ARV hl hi m (k+1) l[k] (by omega) (by omega) (List.pairwise_cons.1 hp).2 (List.pairwise_cons.1 hp).1
  ·rw[if_neg (by simpa using hlt)]
theorem ARW{F:Nat}(hF:1000000<F){n:Int}{ls:List (List Int)}(hls:ls.length<=1000)(h:∀l∈ls,l.length<=1000/\l.Pairwise (·<·)/\∀v∈l,0<=v/\v<n):∀(m k:Nat),k<=ls.length->ls.length-k<m->zH F n ls m (k:Int)=some (.inr ())
 |0,k,_,h=>by omega
 |m+1,k,hk,hm=>by
  unfold zH;by_cases hlt:k<ls.length
  ·obtain⟨h1,h2,h3⟩:=h ls[k] (List.getElem_mem hlt)
   rw[if_pos (by simpa using hlt),AAb hlt];simp only[DJ,AU];rw[show zF F n ls[k] F (-1) 0=some (.inr ())from ARV (k:=0) (by omega) (fun v hv=>(h3 v hv).2) F (-1) (by omega) (by omega) (by simpa using h2) (fun v hv=>by have:=h3 v (by simpa using hv);omega)];simp only[AU];rw[show BH ((k:Int)+1)=((k+1:Nat):Int) by rw[Dx (by omega)];rfl];exact ARW hF hls h m (k+1) (by omega) (by omega)
  ·rw[if_neg (by simpa using hlt)]
theorem AFx{F:Nat}(hF:1000000<F){n:Int}{ls:List (List Int)}(hls:ls.length<=1000)(h:∀l∈ls,l.length<=1000/\l.Pairwise (·<·)/\∀v∈l,0<=v/\v<n):ABD F n ls=some true:=by
 unfold ABD;rw[show zH F n ls F 0=some (.inr ())from ARW (k:=0) hF hls h F (by omega) (by omega)]
 rfl
theorem AJi{l:List (Int×Int×Int)}{f:(Int×Int×Int)->Option Bool}(F:Nat):∀m k,Pv F l f m k=ACz l f m k
 |0,_=>rfl
 |m+1,k=>by unfold Pv ACz;simp only[AJi F m]
theorem AOZ{l:List (Int×Int×Int)}{f:(Int×Int×Int)->Option Bool}{p:(Int×Int×Int)->Bool}{F:Nat}(hf:∀x∈l,f x=some (p x))(hF:l.length<F)(hl:l.length<4611686018427387904):vO F l f=some (l.any p):=by
 obtain⟨r,h1,h2,h3⟩:=AC0 hf hl F 0 (Nat.zero_le _) (by omega);unfold vO xf;rw[AJi];simp only[Int.natCast_zero,List.drop_zero]at h1 h2 h3;rw[h1];cases hp:l.any p with
 |true=>obtain⟨j,rfl⟩:=h2 hp;simp
 |false=>rw[h3 hp];simp
theorem ANJ{l:List Int}{x:Int}(F:Nat):∀m k,xN F l x m k=ACz l (fun y=>some (decide (x=y))) m k
 |0,_=>rfl
 |m+1,k=>by unfold xN ACz;simp only[ANJ F m];rfl
theorem ANK{l:List Int}{x:Int}{F:Nat}(hF:l.length<F)(hl:l.length<4611686018427387904):slices_Contains_int F l x=some (l.any fun y=>decide (x=y)):=by
 obtain⟨r,h1,h2,h3⟩:=AC0 (f:=fun y=>some (decide (x=y))) (p:=fun y=>decide (x=y)) (fun _ _=>rfl) hl F 0 (Nat.zero_le _) (by omega);unfold slices_Contains_int slices_Index_int;rw[ANJ];simp only[Int.natCast_zero,List.drop_zero]at h1 h2 h3;rw[h1];cases hp:l.any (fun y=>decide (x=y))with
 |true=>obtain⟨j,rfl⟩:=h2 hp;simp
 |false=>rw[h3 hp];simp
section
variable {x:ABF}{n:Nat}{F:Nat}
theorem AFy(hF:1000000<F)(h:VN x n):AAC F x=some 0:=by
 have h1:=h.nn;have h2:=h.n2;have h3:=h.lk;have h4:=h.el;have h5:=h.er;unfold AAC ADH;have c1:(((decide (x.1<2))||(decide (40<x.1)))||(decide (120<(x.2.1.length:Int))))=false:=by simp;omega
 have c2:((decide (0<(x.2.2.1.length:Int)))&&(decide ((x.2.2.1.length:Int)<=10)))=true:=by simp;omega
 have c3:((decide (0<(x.2.2.2.length:Int)))&&(decide ((x.2.2.2.length:Int)<=10)))=true:=by simp;omega
 rw[c1,c2,c3];simp only[gd,Bool.not_false,cond_true,DJ,AU,Bool.not_true,Bool.or_self];rw[if_neg (by simp),AOZ (p:=fun _=>false) (fun y hy=>by
  obtain⟨k1,k2,k3,k4,k5,k6,k7⟩:=h.kk y hy;unfold ABX AAs;simp only[DJ,AU];rw[if_neg (by simp;omega),if_neg (by simp;omega),if_neg (by simpa using k5),if_neg (by simp;omega)];simp;omega) (by omega) (by omega)]
 simp only[AU];rw[if_neg (by simp),AFx hF (by simp) (fun l hl=>by
  rcases List.mem_cons.1 hl with rfl|hl
  ·exact⟨by omega,h.ul,fun v hv=>by rw[h1];exact h.il v hv⟩
  ·rw[List.mem_singleton.1 hl]
   exact⟨by omega,h.ur,fun v hv=>by rw[h1];exact h.ir v hv⟩)]
 simp only[AU];rw[if_neg (by simp),AGO (p:=fun _=>false) (fun v hv=>by
  unfold ABY;rw[ANK (l:=x.2.2.2) (by omega) (by omega)];simp only[DJ,AU]
  congr 1
  rw[List.any_eq_false];intro y hy;have:=h.cl v hv;simp;rintro rfl;exact this hy) (by omega) (by omega)]
 simp only[AU];rw[if_neg (by simp)]
theorem ARX(hF:1000000<F)(h:VN x n):AD4 F x=some (0,List.replicate x.2.1.length 0):=by
 have h3:=h.lk;unfold AD4;rw[show AAC F (x.1,x.2.1,x.2.2.1,x.2.2.2)=some 0 from AFy hF h];simp only[DJ,AU];rw[if_neg (by simp),AFx hF (by simp) (fun l hl=>by rw[List.mem_singleton.1 hl];exact⟨by simp,List.Pairwise.nil,by simp⟩)];simp only[AU];have hm:mks 8 (x.2.1.length:Int) (0:Int)=some (List.replicate x.2.1.length 0):=by
  unfold mks;rw[if_pos ⟨by omega,by rw[Int.toNat_natCast];omega⟩,Int.toNat_natCast]
 rw[if_neg (by simp),hm]
 rfl
end
end
section
def sm(g:Nat->Int):Nat->Int
 |0=>0
 |n+1=>sm g n+g n
theorem AAV{g k:Nat->Int}:∀{n:Nat},(∀v,v<n->g v=k v)->sm g n=sm k n
 |0,_=>rfl
 |n+1,h=>by rw[sm,sm,AAV fun v hv=>h v (by omega),h n (by omega)]
theorem AJj{g k:Nat->Int}:∀n,sm (fun v=>g v+k v) n=sm g n+sm k n
 |0=>rfl
 |n+1=>by rw[sm,sm,sm,AJj n];omega
theorem AJk{g k:Nat->Int}:∀n,sm (fun v=>g v-k v) n=sm g n-sm k n
 |0=>rfl
 |n+1=>by rw[sm,sm,sm,AJk n];omega
theorem ACh{g k:Nat->Int}:∀{n:Nat},(∀v,v<n->g v<=k v)->sm g n<=sm k n
 |0,_=>Int.le_refl _
 |n+1,h=>by
  have:=ACh (n:=n) fun v hv=>h v (by omega);have:=h n (by omega);rw[sm,sm];omega
theorem AC1:∀n,sm (fun _=>0) n=0
 |0=>rfl
 |n+1=>by rw[sm,AC1 n];rfl
theorem AC2{c:Int}:∀n,sm (fun _=>c) n=c*(n:Int)
 |0=>by simp[sm]
 |n+1=>by rw[sm,AC2 n];rw[Int.natCast_succ,Int.mul_add];omega
theorem AHc{a:Int}{k:Nat}:∀n,sm (fun v=>if v=k then a else 0) n=if k<n then a else 0
 |0=>by simp[sm]
 |n+1=>by
  rw[sm,AHc n];by_cases c:n=k
  ·subst c;simp
  ·by_cases d:k<n
   ·rw[if_pos d,if_neg c,if_pos (by omega)];omega
   ·rw[if_neg d,if_neg c,if_neg (by omega)];omega
theorem AEv{g:Nat->Int}{a:Int}{k n:Nat}(h:k<n):sm (fun v=>if v=k then a else g v) n=sm g n-g k+a:=by
 have e:sm (fun v=>if v=k then a else g v) n=sm (fun v=>g v+if v=k then a-g k else 0) n:=AAV fun v _=>by
  by_cases c:v=k
  ·subst c;simp;omega
  ·simp[c]
 rw[e,AJj,AHc,if_pos h];omega
theorem APE{g:Nat->Int}:∀{n:Nat},(∀v,v<n->0<=g v)->0<=sm g n/\∀k,k<n->g k<=sm g n
 |0,_=>⟨Int.le_refl _,fun _ h=>by omega⟩
 |n+1,h=>by
  obtain⟨h1,h2⟩:=APE (n:=n) fun v hv=>h v (by omega)
  have h3:=h n (by omega);rw[sm];refine⟨by omega,fun k hk=>?_⟩;by_cases c:k=n
  ·subst c;omega
  ·have:=h2 k (by omega);omega
theorem AKn{t:Nat->Nat->Int}{m:Nat}:∀n,sm (fun v=>sm (fun i=>t i v) m) n=sm (fun i=>sm (fun v=>t i v) n) m
 |0=>by simp only[sm,AC1]
 |n+1=>by rw[sm,AKn n,<-AJj];rfl
theorem APF{X:Nat->Bool}{t:Nat->Int}{b:Bool}:∀n,(if b=true then sm t n else 0)=sm (fun i=>if b=true then t i else 0) n
 |0=>by simp[sm]
 |n+1=>by
  rw[sm,sm,<-APF (X:=X) n];cases b<;>simp
abbrev gq(f:List Int)(i:Nat):Int:=f.getD i 0
theorem zS{f:List Int}{i j:Nat}{x:Int}(h:i<f.length):gq (f.set i x) j=if j=i then x else gq f j:=by
 simp only[gq,List.getD_eq_getElem?_getD,List.getElem?_set];by_cases c:i=j
 ·subst c;simp[h]
 ·simp[c,Ne.symm c]
theorem AAu{f:List Int}{i:Nat}(h:i<f.length):ix f (i:Int)=some (gq f i):=by
 rw[AAb h];simp[gq,h]
theorem AEw{f:List Int}{i:Int}(h0:0<=i)(h:i<(f.length:Int)):ix f i=some (gq f i.toNat):=by
 have:=AAu (f:=f) (i:=i.toNat) (by omega);rwa [Int.toNat_of_nonneg h0]at this
def CG(Y:Ar 40 Int)(v:Nat):Int:=gq Y.l v
theorem ACi{Y:Ar 40 Int}{k:Int}(h0:0<=k)(h1:k<40):ix Y.l k=some (CG Y k.toNat):=by
 have h:=Y.h;exact AEw h0 (by omega)
theorem AEx{Y:Ar 40 Int}{k:Nat}(h1:k<40):ix Y.l (k:Int)=some (CG Y k):=by
 have:=ACi (Y:=Y) (k:=(k:Int)) (by omega) (by omega);simpa using this
theorem ABq{Y:Ar 40 Int}{k x:Int}{v:Nat}(h1:k.toNat<40):CG (vZ Y k x) v=if v=k.toNat then x else CG Y v:=by
 have h:=Y.h;exact zS (by omega)
theorem AJl(v:Nat):CG (Ar.fill 40 0) v=0:=by
 simp only[CG,gq,Ar.fill,List.getD_eq_getElem?_getD,List.getElem?_replicate];split<;>rfl
def KT(n:Nat)(K:List oG):Prop:=∀y∈K,0<=y.1/\y.1<(n:Int)/\0<=y.2.1/\y.2.1<(n:Int)/\y.1≠y.2.1/\1<=y.2.2/\y.2.2<=1000000
abbrev kd(K:List oG)(i:Nat):oG:=K.getD i (0,0,0)
theorem AHd{K:List oG}{i:Nat}(h:i<K.length):K[i]?=some (kd K i):=by simp[kd,h]
theorem AER{K:List oG}{i:Nat}(h:i<K.length):ix K (i:Int)=some (kd K i):=by rw[AAb h];simp[kd,h]
section
variable {n:Nat}{K:List oG}{f:List Int}
theorem KT.vk(h:KT n K):VK n K:=fun y hy=>⟨(h y hy).1,(h y hy).2.1,(h y hy).2.2.1,(h y hy).2.2.2.1,(h y hy).2.2.2.2.1⟩
theorem KT.at(h:KT n K){i:Nat}(hi:i<K.length):0<=(kd K i).1/\(kd K i).1<(n:Int)/\0<=(kd K i).2.1/\(kd K i).2.1<(n:Int)/\(kd K i).1≠(kd K i).2.1/\1<=(kd K i).2.2/\(kd K i).2.2<=1000000:=
 h _ (List.mem_of_getElem? (AHd hi))
structure FB(K:List oG)(f:List Int):Prop where
 len:f.length=K.length
 fb:∀i,i<K.length->-(kd K i).2.2<=gq f i/\gq f i<=(kd K i).2.2
def lf(K:List oG)(f:List Int)(w:Qw):Int:=
 if(kd K w.2.2.toNat).1=w.1 then(kd K w.2.2.toNat).2.2-gq f w.2.2.toNat else(kd K w.2.2.toNat).2.2+gq f w.2.2.toNat
theorem ADi(hK:KT n K){u:Int}{w:Qw}(h:w∈G5 K u):∃i,i<K.length/\
  ((u=(kd K i).1/\w=((kd K i).1,(kd K i).2.1,(i:Int))/\∀f,lf K f w=(kd K i).2.2-gq f i)\/
   (u=(kd K i).2.1/\w=((kd K i).2.1,(kd K i).1,(i:Int))/\∀f,lf K f w=(kd K i).2.2+gq f i)):=by
 obtain⟨i,x,h1,h2,rfl⟩:=AEu.1 h;have hi:=(List.getElem?_eq_some_iff.1 h1).1;have hx:x=kd K i:=by rw[AHd hi]at h1;exact(Option.some.inj h1).symm
 have hk:=hK.at hi;rw[<-hx]at hk;refine⟨i,hi,?_⟩;rw[<-hx];by_cases c:x.2.1=u
 ·refine .inr ⟨c.symm,by rw[if_pos c,c],fun f=>?_⟩
  simp only[lf,Int.toNat_natCast,<-hx];rw[if_neg (by omega)]
 ·have c1:=h2.resolve_right c
  refine .inl ⟨c1.symm,by rw[if_neg c,c1],fun f=>?_⟩;simp only[lf,Int.toNat_natCast,<-hx];rw[if_pos c1]
theorem wy1(hK:KT n K){i:Nat}(hi:i<K.length):((kd K i).1,(kd K i).2.1,(i:Int))∈G5 K (kd K i).1/\∀f,lf K f ((kd K i).1,(kd K i).2.1,(i:Int))=(kd K i).2.2-gq f i:=by
 have hk:=hK.at hi;refine⟨AEu.2 ⟨i,_,AHd hi,.inl rfl,?_⟩,fun f=>?_⟩
 ·rw[if_neg (by omega)]
 ·simp only[lf,Int.toNat_natCast,if_true]
theorem wy2(hK:KT n K){i:Nat}(hi:i<K.length):((kd K i).2.1,(kd K i).1,(i:Int))∈G5 K (kd K i).2.1/\∀f,lf K f ((kd K i).2.1,(kd K i).1,(i:Int))=(kd K i).2.2+gq f i:=by
 have hk:=hK.at hi;refine⟨AEu.2 ⟨i,_,AHd hi,.inr rfl,?_⟩,fun f=>?_⟩
 ·rw[if_pos rfl]
 ·simp only[lf,Int.toNat_natCast]
  rw[if_neg (by omega)]
theorem AEy(hK:KT n K)(hf:FB K f){u:Int}{w:Qw}(h:w∈G5 K u)(n':Int)(Lf Rt dr:List Int)(H:Ar 40 Int):vz ((n',K,Lf,Rt),dr,f,H) w=some (lf K f w):=by
 obtain⟨i,hi,hc⟩:=ADi hK h;have hk:=hK.at hi;have hb:=hf.fb i hi;have hl:=hf.len;unfold vz;rcases hc with⟨_,rfl,e⟩|⟨_,rfl,e⟩
 ·rw[e f]
  simp only[AER hi,DJ,AU,decide_true,if_true,AAu (show i<f.length by omega)];rw[Dx (by omega)]
 ·rw[e f]
  simp only[AER hi,DJ,AU,AAu (show i<f.length by omega)];rw[if_neg (by simpa using hk.2.2.2.2.1),Dx (by omega)]
theorem APw(hK:KT n K)(hf:FB K f){u:Int}{w:Qw}(h:w∈G5 K u)(n':Int)(Lf Rt dr:List Int)(H:Ar 40 Int):AAS ((n',K,Lf,Rt),dr,f,H) w=some (lf K f (w.2.1,w.1,w.2.2)):=by
 have h1:=AKk hK.vk h;have h2:=(AFO hK.vk h).1;unfold AAS;rw[<-h2]at h1;rw[AEy hK hf h1]
 rfl
def fiv(y:oG)(a:Int)(v:Nat):Int:=(if y.2.1=(v:Int)then a else 0)-(if y.1=(v:Int)then a else 0)
def exk(K:List oG)(f:List Int)(v:Nat)(k:Nat):Int:=sm (fun i=>fiv (kd K i) (gq f i) v) k
abbrev exc(K:List oG)(f:List Int)(v:Nat):Int:=exk K f v K.length
theorem AC3(hK:KT n K){i:Nat}(hi:i<K.length)(a:Int)(v:Nat):fiv (kd K i) a v=(if v=(kd K i).2.1.toNat then a else 0)-(if v=(kd K i).1.toNat then a else 0):=by
 have hk:=hK.at hi;unfold fiv
 repeat' split
 all_goals omega
theorem ANL(hK:KT n K)(hf:FB K f){i:Nat}(hi:i<K.length)(v:Nat):-1000000<=fiv (kd K i) (gq f i) v/\fiv (kd K i) (gq f i) v<=1000000:=by
 have hk:=hK.at hi;have hb:=hf.fb i hi;unfold fiv;split<;>split<;>omega
theorem AE0(hK:KT n K)(hf:FB K f)(v:Nat){k:Nat}(hk:k<=K.length):-1000000*(k:Int)<=exk K f v k/\exk K f v k<=1000000*(k:Int):=by
 unfold exk;constructor
 ·rw[<-AC2];exact ACh fun i hi=>(ANL hK hf (by omega) v).1
 ·rw[<-AC2];exact ACh fun i hi=>(ANL hK hf (by omega) v).2
theorem AKo{f:List Int}{i:Nat}(hf:f.length=K.length)(hi:i<K.length)(b:Int)(v:Nat):exc K (f.set i b) v=exc K f v+(fiv (kd K i) b v-fiv (kd K i) (gq f i) v):=by
 unfold exc exk;rw[AAV (k:=fun j=>if j=i then fiv (kd K i) b v else fiv (kd K j) (gq f j) v) fun j _=>by
  rw[zS (by omega)];by_cases c:j=i
  ·subst c;simp
  ·simp[c],AEv hi]
 omega
theorem AKp(hK:KT n K)(hn:n<=40)(hf:FB K f){F:Nat}{n':Int}{Lf Rt dr:List Int}{H:Ar 40 Int}(hl:K.length<=120):∀(m k:Nat)(Y:Ar 40 Int),k<=K.length->K.length-k<m->(∀v,v<40->CG Y v=exk K f v k)->
  ∃Y',yc F ((n',K,Lf,Rt),dr,f,H) m (k:Int) Y=some Y'/\∀v,v<40->CG Y' v=exc K f v
 |0,k,_,_,h,_=>by omega
 |m+1,k,Y,hk,hm,hY=>by
  unfold yc;by_cases c:k<K.length
  ·have hkk:=hK.at c
   have hb:=hf.fb k c;have hlen:=hf.len;have e1:=hY (kd K k).1.toNat (by omega);have e2:=hY (kd K k).2.1.toNat (by omega);have b1:=AE0 hK hf (kd K k).1.toNat hk;have b2:=AE0 hK hf (kd K k).2.1.toNat hk;have hne:(kd K k).2.1.toNat≠(kd K k).1.toNat:=by omega
   rw[if_pos (by simpa using c),AER c];simp only[DJ,AU,AAu (show k<f.length by omega)];rw[ACi hkk.1 (by omega)];simp only[AU];rw[ACi hkk.2.2.1 (by omega)];simp only[AU];have w1:BH (CG Y (kd K k).1.toNat-gq f k)=CG Y (kd K k).1.toNat-gq f k:=Dx (by omega);have w2:BH (CG Y (kd K k).2.1.toNat+gq f k)=CG Y (kd K k).2.1.toNat+gq f k:=Dx (by omega);have w3:BH ((k:Int)+1)=((k+1:Nat):Int):=by rw[Dx (by omega)];rfl
   rw[ABq (by omega),if_neg hne,w1,w2,w3];refine AKp hK hn hf hl m (k+1) _ (by omega) (by omega) fun v hv=>?_;rw[ABq (by omega),ABq (by omega)];unfold exk at e1 e2⊢;rw[sm];unfold fiv;by_cases c1:v=(kd K k).2.1.toNat
   ·subst c1
    rw[if_pos rfl,if_pos (by omega),if_neg (by omega),e2];unfold fiv;omega
   ·rw[if_neg c1]
    by_cases c2:v=(kd K k).1.toNat
    ·subst c2
     rw[if_pos rfl,if_neg (by omega),if_pos (by omega),e1];unfold fiv;omega
    ·have:=hY v hv
     unfold exk fiv at this;rw[if_neg c2,if_neg (by omega),if_neg (by omega),this];omega
  ·have:k=K.length:=by omega
   subst this;exact⟨Y,by rw[if_neg (by simp)],hY⟩
theorem AKq(hK:KT n K)(hn:n<=40)(hf:FB K f){F:Nat}(hF:1000000<F){n':Int}{Lf Rt dr:List Int}{H:Ar 40 Int}(hl:K.length<=120):
  ∃Y',AAT F ((n',K,Lf,Rt),dr,f,H)=some Y'/\∀v,v<40->CG Y' v=exc K f v:=by
 obtain⟨Y',h1,h2⟩:=AKp hK hn hf (F:=F) (n':=n') (Lf:=Lf) (Rt:=Rt) (dr:=dr) (H:=H) hl F 0 (Ar.fill 40 0) (by omega) (by omega) fun v _=>by rw[AJl];rfl
 refine⟨Y',?_,h2⟩;unfold AAT;rw[show((0:Nat):Int)=0 from rfl]at h1;rw[h1]
 rfl
def Vd(K:List oG)(f:List Int)(h:Nat->Int):Prop:=∀i,i<K.length->
 (gq f i<(kd K i).2.2->h (kd K i).1.toNat<=h (kd K i).2.1.toNat+1)/\(-(kd K i).2.2<gq f i->h (kd K i).2.1.toNat<=h (kd K i).1.toNat+1)
theorem Vd.way{h:Nat->Int}(hK:KT n K)(hv:Vd K f h){u:Int}{w:Qw}(hw:w∈G5 K u)(hl:0<lf K f w):h u.toNat<=h w.2.1.toNat+1:=by
 obtain⟨i,hi,hc⟩:=ADi hK hw;have:=hv i hi;rcases hc with⟨rfl,rfl,e⟩|⟨rfl,rfl,e⟩
 ·rw[e f]at hl;exact this.1 (by omega)
 ·rw[e f]at hl;exact this.2 (by omega)
theorem Vd.of{h:Nat->Int}(hK:KT n K)(H:∀u w,w∈G5 K u->0<lf K f w->h u.toNat<=h w.2.1.toNat+1):Vd K f h:=fun i hi=>by
 have a:=wy1 hK hi;have b:=wy2 hK hi;exact⟨fun h1=>H _ ((kd K i).1,(kd K i).2.1,(i:Int)) a.1 (by rw[a.2 f];omega),fun h1=>H _ ((kd K i).2.1,(kd K i).1,(i:Int)) b.1 (by rw[b.2 f];omega)⟩
theorem AIU(hK:KT n K)(hf:FB K f){u:Int}{w:Qw}(hw:w∈G5 K u){m:Int}(h0:0<=m)(hm:m<=lf K f w):
  ∃f',ACN K f w m=some f'/\FB K f'/\(∀v,exc K f' v=exc K f v+(if v=w.2.1.toNat then m else 0)-(if v=u.toNat then m else 0))/\
   (∀w',w'∈G5 K u->lf K f' w'<=lf K f w')/\lf K f' w=lf K f w-m/\(∀h:Nat->Int,h u.toNat=h w.2.1.toNat+1->Vd K f h->Vd K f' h)/\∃i,i<K.length/\w.2.2=(i:Int)/\∀j,j≠i->gq f' j=gq f j:=by
 obtain⟨i,hi,hc⟩:=ADi hK hw;have hk:=hK.at hi;have hb:=hf.fb i hi;have hl:=hf.len;have hil:i<f.length:=by omega
 unfold ACN;rcases hc with⟨rfl,rfl,e⟩|⟨rfl,rfl,e⟩
 ·rw[e f]at hm
  refine⟨f.set i (gq f i+m),?_,⟨by rw[List.length_set];exact hl,fun j hj=>?_⟩,fun v=>?_,fun w' hw'=>?_,?_,fun h hh hv j hj=>?_,i,hi,rfl,fun j hj=>by rw[zS hil,if_neg hj]⟩
  ·simp only[AER hi,DJ,AU,AAu hil,decide_true,if_true]
   rw[Dx (by omega),NG,Int.toNat_natCast]
  ·rw[zS hil]
   by_cases c:j=i
   ·subst c;rw[if_pos rfl];omega
   ·rw[if_neg c];exact hf.fb j hj
  ·rw[AKo hl hi,AC3 hK hi,AC3 hK hi]
   simp only
   repeat' split
   all_goals omega
  ·obtain⟨j,hj,hd⟩:=ADi hK hw'
   rcases hd with⟨e1,rfl,e2⟩|⟨e1,rfl,e2⟩
   ·rw[e2,e2,zS hil]
    by_cases c:j=i
    ·subst c;rw[if_pos rfl];omega
    ·rw[if_neg c];exact Int.le_refl _
   ·rw[e2,e2,zS hil]
    by_cases c:j=i
    ·subst c;exact absurd e1 hk.2.2.2.2.1
    ·rw[if_neg c];exact Int.le_refl _
  ·rw[e,e,zS hil,if_pos rfl];omega
  ·rw[zS hil]
   by_cases c:j=i
   ·subst c
    exact⟨fun _=>by simp only at hh;omega,fun _=>by simp only at hh;omega⟩
   ·rw[if_neg c];exact hv j hj
 ·rw[e f]at hm
  refine⟨f.set i (gq f i-m),?_,⟨by rw[List.length_set];exact hl,fun j hj=>?_⟩,fun v=>?_,fun w' hw'=>?_,?_,fun h hh hv j hj=>?_,i,hi,rfl,fun j hj=>by rw[zS hil,if_neg hj]⟩
  ·simp only[AER hi,DJ,AU,AAu hil]
   rw[if_neg (by simpa using hk.2.2.2.2.1),Dx (by omega),NG,Int.toNat_natCast]
  ·rw[zS hil]
   by_cases c:j=i
   ·subst c;rw[if_pos rfl];omega
   ·rw[if_neg c];exact hf.fb j hj
  ·rw[AKo hl hi,AC3 hK hi,AC3 hK hi]
   simp only
   repeat' split
   all_goals omega
  ·obtain⟨j,hj,hd⟩:=ADi hK hw'
   rcases hd with⟨e1,rfl,e2⟩|⟨e1,rfl,e2⟩
   ·rw[e2,e2,zS hil]
    by_cases c:j=i
    ·subst c;exact absurd e1.symm hk.2.2.2.2.1
    ·rw[if_neg c];exact Int.le_refl _
   ·rw[e2,e2,zS hil]
    by_cases c:j=i
    ·subst c;rw[if_pos rfl];omega
    ·rw[if_neg c];exact Int.le_refl _
  ·rw[e,e,zS hil,if_pos rfl];omega
  ·rw[zS hil]
   by_cases c:j=i
   ·subst c
    exact⟨fun _=>by simp only at hh;omega,fun _=>by simp only at hh;omega⟩
   ·rw[if_neg c];exact hv j hj
def Cl(K:List oG)(f:List Int)(X:Nat->Bool):Prop:=∀i,i<K.length->
 (gq f i<(kd K i).2.2->X (kd K i).1.toNat=true->X (kd K i).2.1.toNat=true)/\(-(kd K i).2.2<gq f i->X (kd K i).2.1.toNat=true->X (kd K i).1.toNat=true)
def cux(K:List oG)(X:Nat->Bool)(k:Nat):Int:=sm (fun i=>if X (kd K i).1.toNat=X (kd K i).2.1.toNat then 0 else(kd K i).2.2) k
theorem APx(hK:KT n K){i:Nat}(hi:i<K.length){X:Nat->Bool}{a:Int}:sm (fun v=>if X v=true then fiv (kd K i) a v else 0) n=(if X (kd K i).2.1.toNat=true then a else 0)-(if X (kd K i).1.toNat=true then a else 0):=by
 have hk:=hK.at hi;rw[AAV (k:=fun v=>(if v=(kd K i).2.1.toNat then(if X (kd K i).2.1.toNat=true then a else 0)else 0)-(if v=(kd K i).1.toNat then(if X (kd K i).1.toNat=true then a else 0)else 0)) fun v _=>?_]
 ·rw[AJk,AHc,AHc,if_pos (show(kd K i).2.1.toNat<n by omega),if_pos (show(kd K i).1.toNat<n by omega)]
 ·rw[AC3 hK hi]
  by_cases c1:v=(kd K i).2.1.toNat
  ·rw[<-c1,if_pos rfl,if_neg (show¬v=(kd K i).1.toNat by omega),if_neg (show¬v=(kd K i).1.toNat by omega),if_pos rfl]
   split<;>omega
  ·by_cases c2:v=(kd K i).1.toNat
   ·rw[<-c2,if_neg c1,if_neg c1,if_pos rfl,if_pos rfl]
    split<;>omega
   ·rw[if_neg c1,if_neg c1,if_neg c2,if_neg c2]
    split<;>rfl
theorem AKr(hK:KT n K)(hf:FB K f){X:Nat->Bool}(hX:Cl K f X):sm (fun v=>if X v=true then exc K f v else 0) n=-cux K X K.length:=by
 have e1:sm (fun v=>if X v=true then exc K f v else 0) n=sm (fun v=>sm (fun i=>if X v=true then fiv (kd K i) (gq f i) v else 0) K.length) n:=AAV fun v _=>by
  unfold exc exk;exact APF (X:=X) _
 rw[e1,AKn,AAV (k:=fun i=>0-if X (kd K i).1.toNat=X (kd K i).2.1.toNat then 0 else(kd K i).2.2) fun i hi=>?_]
 ·rw[AJk,AC1];unfold cux;omega
 ·rw[APx hK hi]
  have hb:=hf.fb i hi;obtain⟨h1,h2⟩:=hX i hi;cases ha:X (kd K i).1.toNat<;>cases hb2:X (kd K i).2.1.toNat
  ·rw[if_neg (by simp),if_pos rfl]
  ·rw[ha,hb2]at h2
   have:¬-(kd K i).2.2<gq f i:=fun h=>by have:=h2 h rfl;cases this
   rw[if_pos rfl,if_neg (by simp),if_neg (by simp)];omega
  ·rw[ha,hb2]at h1
   have:¬gq f i<(kd K i).2.2:=fun h=>by have:=h1 h rfl;cases this
   rw[if_neg (by simp),if_pos rfl,if_neg (by simp)];omega
  ·rw[if_pos rfl,if_pos rfl];omega
theorem APy(hK:KT n K)(X:Nat->Bool):0<=cux K X K.length:=by
 have h:sm (fun _=>0) K.length<=cux K X K.length:=ACh fun i hi=>by
  have:=hK.at hi;split<;>omega
 rwa [AC1]at h
theorem gap{h:Nat->Int}{L E:List Int}(hL:L.Nodup)(hE:E.Nodup)(hd:∀a∈L,a∉E)(he:∀a∈E,∃v,v<n/\h v=a)(hn:n<L.length+E.length):∃j∈L,∀v,v<n->h v≠j:=by
 refine Classical.byContradiction fun hno=>?_;have hall:∀j∈L,∃v,v<n/\h v=j:=fun j hj=>Classical.byContradiction fun hc=>hno ⟨j,hj,fun v hv e=>hc ⟨v,hv,e⟩⟩;have h1:(L++E).Nodup:=List.nodup_append.2 ⟨hL,hE,fun a ha b hb e=>hd a ha (e▸hb)⟩;have h2:=AIy (k:=(List.range n).map h) h1 fun a ha=>by
  rcases List.mem_append.1 ha with ha|ha
  ·obtain⟨v,hv,e⟩:=hall a ha
   exact List.mem_map.2 ⟨v,List.mem_range.2 hv,e⟩
  ·obtain⟨v,hv,e⟩:=he a ha
   exact List.mem_map.2 ⟨v,List.mem_range.2 hv,e⟩
 rw[List.length_append,List.length_map,List.length_range]at h2;omega
theorem AIV{b:Int}{m:Nat}:((List.range m).map fun(t:Nat)=>b+(t:Int)).Nodup:=by
 rw[List.nodup_iff_pairwise_ne,List.pairwise_map];exact(List.nodup_iff_pairwise_ne.1 List.nodup_range).imp fun h e=>h (by omega)
theorem ARY{h:Nat->Int}(hK:KT n K)(hv:Vd K f h){j:Int}(hj:∀v,v<n->h v≠j):Cl K f fun v=>decide (j<h v):=fun i hi=>by
 have hk:=hK.at hi;obtain⟨h1,h2⟩:=hv i hi;have a:=hj (kd K i).1.toNat (by omega);have b:=hj (kd K i).2.1.toNat (by omega);simp only[decide_eq_true_eq];exact⟨fun h3 h4=>by have:=h1 h3;omega,fun h3 h4=>by have:=h2 h3;omega⟩
end
end
end Ng
end Go.Proofs.YtfmelbioccbdoaaGreat
end
section
namespace Go.Proofs.YtfmelbioccbdoaaGreat
open Go Go.Md Go.RowKit
def AAL(T:Int)(r:Int×Int×Int):Bool:=yR 0 T r.1&&yR 0 T r.2.1&& !decide (r.1=r.2.1)&&yR (-100000) 100000 r.2.2
def DY(x:Int×List (Int×Int×Int)):Int:=
 if 60<x.2.length then 6 else if yR 1 20 x.1=true then(if x.2.all (AAL x.1)=true then 0 else 3)else 2
theorem ARZ{F:Nat}(hF:3<F)(T:Int)(s:List (Int×Int×Int))(r:Int×Int×Int):AAJ F r (T,s)=some (!AAL T r):=by
 unfold AAJ;rw[AGo (by simp;omega) (by simp),ANG (by simp;omega) (by simp)];simp only[DJ,AU,List.all_cons,List.all_nil,Bool.and_true,AAL];cases h1:yR 0 T r.1<;>cases h2:yR 0 T r.2.1<;>by_cases h3:r.1=r.2.1<;>cases h4:yR (-100000) 100000 r.2.2<;>simp[gd,h3]
theorem APz{α:Type}{p:α->Bool}(l:List α):(l.any fun x=>!p x)=!l.all p:=by
 induction l with
 |nil=>rfl
 |cons a l ih=>simp[ih,Bool.not_and]
theorem AFS{F:Nat}(hF:100<F)(x:Int×List (Int×Int×Int)):zy F x=some (DY x):=by
 unfold zy DY;by_cases h1:60<x.2.length
 ·rw[if_pos (by simp;omega),if_pos h1]
 ·rw[if_neg (by simp;omega),if_neg h1,AGo (by simp;omega) (by simp)]
  simp only[DJ,AU,List.all_cons,List.all_nil,Bool.and_true];cases h2:yR 1 20 x.1 with
  |false=>simp
  |true=>
   rw[AOY (p:=fun r=>!AAL x.1 r) (fun r _=>ARZ (by omega) x.1 x.2 r) (by omega) (by omega),APz];simp only[AU];cases x.2.all (AAL x.1)<;>simp
theorem ANM(r:Int×Int×Int)(T:Int):ABn r T=some (AAL T r):=by
 unfold ABn AAL yR
 congr 1
 cases decide (0<=r.1)<;>cases decide (r.1<=T)<;>cases decide (0<=r.2.1)<;>cases decide (r.2.1<=T)<;>simp[Bool.and_assoc]
theorem AGb{F:Nat}{x:Int×List (Int×Int×Int)}(hl:x.2.length<4611686018427387904):∀(m k:Nat),k<=x.2.length->x.2.length-k<m->
  xH F x m (k:Int)=some (if(x.2.drop k).all (AAL x.1)=true then .inr ()else .inl 3)
 |0,k,_,h=>by omega
 |m+1,k,hk,h=>by
  unfold xH;by_cases hlt:k<x.2.length
  ·rw[if_pos (by simpa using hlt),AAb hlt]
   have hd:x.2.drop k=x.2[k]::x.2.drop (k+1):=List.drop_eq_getElem_cons hlt;simp only[DJ,AU,ANM];rw[hd,List.all_cons];cases hp:AAL x.1 x.2[k]with
   |false=>simp
   |true=>
    rw[if_neg (by simp),Dx (by omega)];exact(AGb hl m (k+1) (by omega) (by omega)).trans (by rw[Bool.true_and])
  ·rw[if_neg (by simpa using hlt),List.drop_of_length_le (by omega)]
   rfl
theorem AKJ{F:Nat}(hF:100<F)(x:Int×List (Int×Int×Int)):AAA F x=some (DY x):=by
 unfold AAA DY;by_cases h1:60<x.2.length
 ·rw[if_pos (by simp;omega),if_pos h1]
 ·rw[if_neg (by simp;omega),if_neg h1]
  cases h2:yR 1 20 x.1 with
  |false=>
   rw[if_pos (by simp[yR]at h2⊢;omega)]
   rfl
  |true=>
   rw[if_neg (by simp[yR]at h2⊢;omega)];have:=AGb (F:=F) (x:=x) (by omega) F 0 (Nat.zero_le _) (by omega);simp only[Int.natCast_zero,List.drop_zero]at this;rw[this];cases x.2.all (AAL x.1)<;>rfl
theorem qg{x:Int×List (Int×Int×Int)}(h:DY x=0):x.2.length<=60/\1<=x.1/\x.1<=20/\∀r∈x.2,AAL x.1 r=true:=by
 unfold DY at h;split at h
 ·cases h
 ·rename_i h1
  split at h
  ·rename_i h2
   split at h
   ·rename_i h3
    simp only[yR,Bool.and_eq_true,decide_eq_true_eq]at h2;exact⟨by omega,h2.1,h2.2,List.all_eq_true.1 h3⟩
   ·cases h
  ·cases h
def AET(n:Nat):List (Int×Int×Int):=(List.range n).flatMap fun(t:Nat)=>[(0,(t:Int)+1,100000),((t:Int)+1,0,0)]
theorem AHe(n:Nat):AET (n+1)=AET n++[(0,(n:Int)+1,100000),((n:Int)+1,0,0)]:=by simp[AET,List.range_succ]
theorem AIW(n:Nat):(AET n).length=2*n:=by
 induction n with
 |zero=>rfl
 |succ n ih=>rw[AHe,List.length_append,ih];simp;omega
def XB(x:Int×List (Int×Int×Int)):List (Int×Int×Int):=x.2++AET x.1.toNat
theorem xA{α:Type}{b:Nat}{l k:List α}(h:(l.length+k.length)*b<=140737488355328):app b l k=some (l++k):=by
 unfold app;rw[if_pos h]
theorem AIX{F:Nat}{x:Int×List (Int×Int×Int)}{N:Nat}(hN:x.1=N)(h20:N<=20)(hl:x.2.length<=60)(y:(Int×List (Int×Int×Int))×List (Int×Int×Int)):∀(m k:Nat),k<=N->N-k<m->
  zM F x m (k:Int) ((x.1,x.2),x.2++AET k)=some ((x.1,x.2),x.2++AET N)
 |0,k,_,h=>by omega
 |m+1,k,hk,h=>by
  unfold zM;by_cases hlt:k<N
  ·rw[if_pos (by simp;omega)]
   have hlen:=AIW k;rw[xA (by simp only[List.length_append,List.length_cons,List.length_nil,hlen];omega)];simp only[DJ,AU];rw[Dx (by omega),List.append_assoc,<-AHe];exact AIX hN h20 hl y m (k+1) (by omega) (by omega)
  ·have:k=N:=by omega
   subst this;rw[if_neg (by simp;omega)]
theorem ANN{F:Nat}(hF:100<F){x:Int×List (Int×Int×Int)}(h0:0<=x.1)(h20:x.1<=20)(hl:x.2.length<=60):ABo F x=some ⟨some ((x.1,x.2),XB x)⟩:=by
 unfold ABo AA1;rw[xA (by simp;omega)];simp only[DJ,AU,List.nil_append];have:=AIX (F:=F) (x:=x) (N:=x.1.toNat) (by omega) (by omega) hl ((x.1,x.2),[]) F 0 (Nat.zero_le _) (by omega);simp only[Int.natCast_zero,AET,List.range_zero,List.flatMap_nil,List.append_nil]at this;rw[this]
 rfl
theorem ANO{x:Int×List (Int×Int×Int)}(h:DY x=0):(XB x).length<=100:=by
 obtain⟨h1,h2,h3,_⟩:=qg h;simp only[XB,List.length_append,AIW];omega
def ofS(s:List Int)(t:Int):Int:=if t=0 then 0 else(ix s (t-1)).getD 0
theorem APJ{s:List Int}{t:Int}(h0:0<=t)(h1:t<=s.length)(hl:s.length<=20):ACs s t=some (ofS s t):=by
 unfold ACs ofS;by_cases h:t=0
 ·rw[if_pos (by simpa using h),if_pos h]
 ·rw[if_neg (by simpa using h),if_neg h,Dx (by omega)]
  have:(t-1)=((t-1).toNat:Int):=by omega
  rw[this,AAb (by omega)]
  rfl
def zU(s:List Int)(r:Int×Int×Int):Bool:=decide (ofS s r.2.1<=BH (ofS s r.1+r.2.2))
def AAO(x:Int×List (Int×Int×Int))(s:List Int):Int:=
 if DY x≠0 then DY x else if(s.length:Int)≠x.1 then 15 else if s.all (yR 0 100000)=true then(if x.2.all (zU s)=true then 0 else 17)else 3
theorem AFz{F:Nat}{s:List Int}(hl:s.length<=40):∀(m k:Nat),k<=s.length->s.length-k<m->
  wR F s m (k:Int)=some (if(s.drop k).all (yR 0 100000)=true then .inr ()else .inl 3)
 |0,k,_,h=>by omega
 |m+1,k,hk,h=>by
  unfold wR;by_cases hlt:k<s.length
  ·rw[if_pos (by simpa using hlt),AAb hlt]
   have hd:s.drop k=s[k]::s.drop (k+1):=List.drop_eq_getElem_cons hlt;simp only[DJ,AU];rw[hd,List.all_cons];have ih:=AFz (F:=F) hl m (k+1) (by omega) (by omega);by_cases a1:s[k]<0
   ·simp only[a1,decide_true,if_true,AU]
    rw[if_neg];simp only[yR,Bool.and_eq_true,decide_eq_true_eq,not_and];omega
   ·simp only[a1,decide_false,Bool.false_eq_true,if_false,AU]
    by_cases a2:100000<s[k]
    ·simp only[a2,decide_true,if_true]
     rw[if_neg];simp only[yR,Bool.and_eq_true,decide_eq_true_eq,not_and];omega
    ·simp only[a2,decide_false,Bool.false_eq_true,if_false]
     rw[Dx (by omega)];have:yR 0 100000 s[k]=true:=by simp[yR];omega
     rw[this,Bool.true_and];exact ih
  ·rw[if_neg (by simpa using hlt),List.drop_of_length_le (by omega)]
   rfl
theorem AF0{F:Nat}{x:Int×List (Int×Int×Int)}{s:List Int}(hx:DY x=0)(hs:(s.length:Int)=x.1):∀(m k:Nat),k<=x.2.length->x.2.length-k<m->
  wS F x s m (k:Int)=some (if(x.2.drop k).all (zU s)=true then .inr ()else .inl 17)
 |0,k,_,h=>by omega
 |m+1,k,hk,h=>by
  obtain⟨h1,h2,h3,h4⟩:=qg hx;unfold wS;by_cases hlt:k<x.2.length
  ·rw[if_pos (by simpa using hlt),AAb hlt]
   have hd:x.2.drop k=x.2[k]::x.2.drop (k+1):=List.drop_eq_getElem_cons hlt;have hr:=h4 _ (List.getElem_mem hlt);simp only[AAL,yR,Bool.and_eq_true,decide_eq_true_eq]at hr;obtain⟨⟨⟨⟨r1,r2⟩,r3,r4⟩,_⟩,_⟩:=hr;simp only[DJ,AU];rw[APJ r3 (by omega) (by omega),APJ r1 (by omega) (by omega)];simp only[AU];rw[hd,List.all_cons];have e:decide (BH (ofS s x.2[k].1+x.2[k].2.2)<ofS s x.2[k].2.1)=!zU s x.2[k]:=by
    unfold zU;by_cases h:ofS s x.2[k].2.1<=BH (ofS s x.2[k].1+x.2[k].2.2)<;>simp[h]<;>omega
   rw[e];cases hp:zU s x.2[k]with
   |false=>simp
   |true=>
    rw[if_neg (by simp),Dx (by omega)];exact(AF0 hx hs m (k+1) (by omega) (by omega)).trans (by rw[Bool.true_and])
  ·rw[if_neg (by simpa using hlt),List.drop_of_length_le (by omega)]
   rfl
theorem cs1{x:Int×List (Int×Int×Int)}{s:List Int}(h:DY x≠0):AAO x s=DY x:=by unfold AAO;rw[if_pos h]
theorem cs2{x:Int×List (Int×Int×Int)}{s:List Int}(h:DY x=0)(h5:(s.length:Int)≠x.1):AAO x s=15:=by unfold AAO;rw[if_neg (fun e=>e h),if_pos h5]
theorem cs3{x:Int×List (Int×Int×Int)}{s:List Int}(h:DY x=0)(h5:(s.length:Int)=x.1):AAO x s=if s.all (yR 0 100000)=true then(if x.2.all (zU s)=true then 0 else 17)else 3:=by unfold AAO;rw[if_neg (fun e=>e h),if_neg (fun e=>e h5)]
theorem AF1{F:Nat}(hF:200<F)(x:Int×List (Int×Int×Int))(s:List Int):zY F x s=some (AAO x s):=by
 unfold zY;simp only[AKJ (show 100<F by omega),DJ,AU];by_cases h:DY x=0
 ·obtain⟨h1,h2,h3,_⟩:=qg h
  rw[if_neg (by simp[h])];by_cases h5:(s.length:Int)=x.1
  ·rw[if_neg (by simp[h5]),cs3 h h5]
   have t1:=AFz (F:=F) (s:=s) (by omega) F 0 (Nat.zero_le _) (by omega);have t2:=AF0 (F:=F) h h5 F 0 (Nat.zero_le _) (by omega);simp only[Int.natCast_zero,List.drop_zero]at t1 t2;rw[t1];cases h6:s.all (yR 0 100000)with
   |false=>rfl
   |true=>
    simp only[if_true,AU];rw[t2];cases x.2.all (zU s)<;>rfl
  ·rw[if_pos (by simp[h5]),cs2 h h5]
 ·rw[if_pos (by simp[h]),cs1 h]
end Go.Proofs.YtfmelbioccbdoaaGreat
end
