/-
  Part 14 of 14 of what the last text stands on: lemmas about the model, pure functions, walks, laws in plain Lean; each part's own head says its condition. Merged by a program of our own.
-/
import Derived.Test.YtfmelbioccbdoaaGreatSideSpeedsQm
import Derived.Test.YtfmelbioccbdoaaGreatRows
import Derived.JoinedOf
set_option maxHeartbeats 0
set_option linter.all false
section
namespace Go.Proofs.YtfmelbioccbdoaaGreat
open Go Go.Md Go.RowKit
namespace Ng
section
theorem AJm{n:Nat}:∀(l:List Int)(en:List Int),en.length=n->(∀k∈l,0<=k/\k<(n:Int))->∃en',AD6 l en=some en'/\en'.length=n/\∀v,v<n->gq en' v=if(v:Int)∈l then 1 else gq en v
 |[],en,h,_=>⟨en,rfl,h,fun v _=>by rw[if_neg (by simp)]⟩
 |k::t,en,h,hl=>by
  obtain⟨k0,k1⟩:=hl k List.mem_cons_self;obtain⟨en',e1,e2,e3⟩:=AJm t (NG en k 1) (by rw[NG,List.length_set];exact h) fun j hj=>hl j (List.mem_cons_of_mem _ hj)
  refine⟨en',?_,e2,fun v hv=>?_⟩
  ·rw[AD6,AEw k0 (by omega)]
   exact e1
  ·rw[e3 v hv,NG,zS (by omega)]
   by_cases c:(v:Int)∈t
   ·rw[if_pos c,if_pos (List.mem_cons_of_mem _ c)]
   ·rw[if_neg c]
    by_cases d:v=k.toNat
    ·rw[if_pos d,if_pos]
     have:(v:Int)=k:=by omega
     rw[this];exact List.mem_cons_self
    ·rw[if_neg d,if_neg]
     intro hm;rcases List.mem_cons.1 hm with hm|hm
     ·omega
     ·exact c hm
theorem AP0{l:List Int}{x:Int}:(l.any fun y=>decide (x=y))=decide (x∈l):=by
 rw[Bool.eq_iff_iff,List.any_eq_true];simp
section
variable {n:Nat}{K:List oG}{Lf Rt f:List Int}
def tg(Lf:List Int)(y:oG):Int:=if y.1∈Lf/\y.2.1∉Lf then y.2.2 else if y.2.1∈Lf/\y.1∉Lf then-y.2.2 else 0
structure T1(K:List oG)(Lf f:List Int):Prop where
 len:f.length=K.length
 tt:∀i,i<K.length->gq f i=0\/gq f i=tg Lf (kd K i)
theorem T1.fb(hK:KT n K)(h:T1 K Lf f):FB K f:=⟨h.len,fun i hi=>by
 have hk:=hK.at hi;rcases h.tt i hi with e|e
 ·rw[e];omega
 ·rw[e];unfold tg;repeat' split
  all_goals omega⟩
theorem AGp(hK:KT n K){F:Nat}(hL:Lf.length<F/\Lf.length<=1000){n':Int}{H:Ar 40 Int}{k:Int}(hk:k∈Lf):∀(ws:List Qw)(f:List Int),(∀w∈ws,w∈G5 K k)->T1 K Lf f->
  ∃f',ADJ F n' K Lf Rt H ws f=some f'/\T1 K Lf f'/\(∀i,i<K.length->gq f i=tg Lf (kd K i)->gq f' i=tg Lf (kd K i))/\∀w∈ws,gq f' w.2.2.toNat=tg Lf (kd K w.2.2.toNat)
 |[],f,_,h=>⟨f,rfl,h,fun _ _ h=>h,fun _ h=>by cases h⟩
 |x::t,f,hw,h=>by
  have hx:=hw x List.mem_cons_self;have hf:=h.fb hK;obtain⟨i,hi,hc⟩:=ADi hK hx;have hki:=hK.at hi;have hbi:=hf.fb i hi;have hix:x.2.2.toNat=i:=by rcases hc with⟨_,rfl,_⟩|⟨_,rfl,_⟩<;>simp
  rw[ADJ,AEy hK hf hx,ANK (by omega) (by omega),AP0];simp only[DJ,AU];by_cases c:x.2.1∈Lf
  ·rw[if_neg (by simpa using c)]
   obtain⟨f',e1,e2,e3,e4⟩:=AGp hK hL hk t f (fun w hw'=>hw w (List.mem_cons_of_mem _ hw')) h (n':=n') (H:=H);refine⟨f',e1,e2,e3,fun w hw'=>?_⟩;rcases List.mem_cons.1 hw' with rfl|hw'
   ·rw[hix]
    refine e3 i hi ?_;rcases h.tt i hi with e|e
    ·rw[e]
     unfold tg;rcases hc with⟨rfl,rfl,_⟩|⟨rfl,rfl,_⟩
     ·rw[if_neg (fun h=>h.2 c),if_neg (fun h=>h.2 hk)]
     ·rw[if_neg (fun h=>h.2 hk),if_neg (fun h=>h.2 c)]
    ·exact e
   ·exact e4 w hw'
  ·rw[if_pos (by simpa using c)]
   have hm0:0<=lf K f x:=by rcases hc with⟨_,rfl,e⟩|⟨_,rfl,e⟩<;>rw[e f]<;>omega
   obtain⟨f2,p1,p2,p3,p4,p5,p6,j,hj,hj2,p7⟩:=AIU hK hf hx hm0 (Int.le_refl _);have hji:j=i:=by rw[hj2]at hix;simpa using hix
   subst hji;have e0:gq f2 j=tg Lf (kd K j):=by
    unfold tg;rcases hc with⟨rfl,rfl,e⟩|⟨rfl,rfl,e⟩
    ·rw[if_pos ⟨hk,c⟩]
     rw[e f2]at p5;omega
    ·rw[if_neg (fun h=>c h.1),if_pos ⟨hk,c⟩]
     rw[e f2]at p5;omega
   have h2:T1 K Lf f2:=⟨p2.len,fun q hq=>by
    by_cases d:q=j
    ·subst d;exact .inr e0
    ·rw[p7 q d];exact h.tt q hq⟩
   rw[p1];simp only[AU];obtain⟨f',e1,e2,e3,e4⟩:=AGp hK hL hk t f2 (fun w hw'=>hw w (List.mem_cons_of_mem _ hw')) h2 (n':=n') (H:=H);refine⟨f',e1,e2,fun q hq hh=>e3 q hq ?_,fun w hw'=>?_⟩
   ·by_cases d:q=j
    ·subst d;exact e0
    ·rw[p7 q d];exact hh
   ·rcases List.mem_cons.1 hw' with rfl|hw'
    ·rw[hix];exact e3 j hi e0
    ·exact e4 w hw'
theorem AIY(hK:KT n K)(hn:n<=40){F:Nat}(hL:Lf.length<F/\Lf.length<=1000){n':Int}:∀(t:List Int)(f:List Int)(H:Ar 40 Int),(∀k∈t,k∈Lf/\0<=k/\k<(n:Int))->T1 K Lf f->
  ∃f' H',ACy F n' K Lf Rt t f H=some (f',H')/\T1 K Lf f'/\(∀i,i<K.length->gq f i=tg Lf (kd K i)->gq f' i=tg Lf (kd K i))/\(∀k∈t,∀w∈G5 K k,gq f' w.2.2.toNat=tg Lf (kd K w.2.2.toNat))/\∀v,CG H' v=if(v:Int)∈t then n' else CG H v
 |[],f,H,_,h=>⟨f,H,rfl,h,fun _ _ h=>h,fun _ h=>absurd h (by simp),fun v=>by rw[if_neg (by simp)]⟩
 |k::t,f,H,hk,h=>by
  obtain⟨k1,k2,k3⟩:=hk k List.mem_cons_self;rw[ACy,ACi k2 (by omega)];simp only[DJ,AU];obtain⟨f1,e1,e2,e3,e4⟩:=AGp (Rt:=Rt) hK hL k1 (G5 K k) f (fun _ h=>h) h (n':=n') (H:=vZ H k n');rw[e1];simp only[AU];obtain⟨f2,H2,g1,g2,g3,g4,g5⟩:=AIY hK hn hL (n':=n') t f1 (vZ H k n') (fun j hj=>hk j (List.mem_cons_of_mem _ hj)) e2;refine⟨f2,H2,g1,g2,fun i hi hh=>g3 i hi (e3 i hi hh),fun j hj w hw=>?_,fun v=>?_⟩
  ·rcases List.mem_cons.1 hj with rfl|hj
   ·have h1:=(ADi hK hw)
    obtain⟨i,hi,hc⟩:=h1;have hix:w.2.2.toNat=i:=by rcases hc with⟨_,rfl,_⟩|⟨_,rfl,_⟩<;>simp
    rw[hix];have:=e4 w hw;rw[hix]at this;exact g3 i hi this
   ·exact g4 j hj w hw
  ·rw[g5 v,ABq (by omega)]
   by_cases c:(v:Int)∈t
   ·rw[if_pos c,if_pos (List.mem_cons_of_mem _ c)]
   ·rw[if_neg c]
    by_cases d:v=k.toNat
    ·rw[if_pos d,if_pos]
     have:(v:Int)=k:=by omega
     rw[this];exact List.mem_cons_self
    ·rw[if_neg d,if_neg]
     intro hm;rcases List.mem_cons.1 hm with hm|hm
     ·omega
     ·exact c hm
theorem AEU{en:List Int}{Y:Ar 40 Int}(hn:n<=40)(he:en.length=n):∀(m k:Nat)(q:List Int),k<=n->n-k<m->q.Nodup->(∀a,a∈q↔0<=a/\a<(k:Int)/\gq en a.toNat=0/\0<CG Y a.toNat)->q.length<=k->
  ∃q',AB2 (n:Int) en Y m (k:Int) q=some q'/\q'.Nodup/\∀a,a∈q'↔0<=a/\a<(n:Int)/\gq en a.toNat=0/\0<CG Y a.toNat
 |0,k,_,_,h,_,_,_=>by omega
 |m+1,k,q,hk,hm,hq,ha,hql=>by
  rw[AB2];by_cases c:k<n
  ·have w1:BH ((k:Int)+1)=((k+1:Nat):Int):=by rw[Dx (by omega)];rfl
   rw[if_pos (by simpa using c),AAu (by omega),AEx (by omega),w1];simp only[DJ,AU];have hno:∀q2:List Int,(∀a,a∈q2↔a∈q)->¬(gq en k=0/\0<CG Y k)->∀a,a∈q2↔0<=a/\a<((k+1:Nat):Int)/\gq en a.toNat=0/\0<CG Y a.toNat:=fun q2 h2 hno a=>by
    rw[h2 a,ha a];constructor
    ·rintro⟨h1,h2,h3⟩;exact⟨h1,by omega,h3⟩
    ·rintro⟨h1,h2,h3⟩
     refine⟨h1,?_,h3⟩;by_cases d:a=(k:Int)
     ·subst d;exact absurd (by simpa using h3) hno
     ·omega
   by_cases c1:gq en k=0
   ·rw[if_pos (by simpa using c1)]
    by_cases c2:0<CG Y k
    ·rw[if_pos (by simpa using c2),xA (by simp only[List.length_cons,List.length_nil];omega)]
     simp only[AU];refine AEU hn he m (k+1) _ (by omega) (by omega) ?_ (fun a=>?_) (by simp only[List.length_append,List.length_cons,List.length_nil];omega)
     ·refine List.nodup_append.2 ⟨hq,by simp,fun a h1 b h2 e=>?_⟩
      rw[List.mem_singleton.1 h2]at e;have:=(ha a).1 h1;omega
     ·rw[List.mem_append,List.mem_singleton,ha a]
      constructor
      ·rintro(⟨h1,h2,h3⟩|rfl)
       ·exact⟨h1,by omega,h3⟩
       ·exact⟨by omega,by omega,by simpa using c1,by simpa using c2⟩
      ·rintro⟨h1,h2,h3⟩
       by_cases d:a=(k:Int)
       ·exact .inr d
       ·exact .inl ⟨h1,by omega,h3⟩
    ·rw[if_neg (by simpa using c2)]
     exact AEU hn he m (k+1) q (by omega) (by omega) hq (hno q (fun _=>Iff.rfl) fun h=>c2 h.2) (by omega)
   ·rw[if_neg (by simpa using c1)]
    exact AEU hn he m (k+1) q (by omega) (by omega) hq (hno q (fun _=>Iff.rfl) fun h=>c1 h.1) (by omega)
  ·have:k=n:=by omega
   subst this;exact⟨q,by rw[if_neg (by simp)],hq,ha⟩
structure HI(n:Nat)(Lf Rt:List Int)(h:Nat->Int):Prop where
 hl:∀v,v<n->(v:Int)∈Lf->h v=(n:Int)
 hr:∀v,v<n->(v:Int)∈Rt->h v=0
 hb:∀v,v<n->0<=h v/\h v<=2*(n:Int)+1
structure FI(n:Nat)(K:List oG)(Lf Rt:List Int)(h:Nat->Int)(ex:Nat->Prop)(f:List Int)(Y:Ar 40 Int)(q:List Int):Prop where
 fb:FB K f
 yv:∀v,v<40->CG Y v=exc K f v
 pos:∀v,v<n->(v:Int)∉Lf->0<=CG Y v
 vd:Vd K f h
 qd:q.Nodup
 qm:∀a,a∈q↔0<=a/\a<(n:Int)/\a∉Lf/\a∉Rt/\0<CG Y a.toNat/\¬ex a.toNat
def Phi(n:Nat)(h:Nat->Int)(Y:Ar 40 Int):Int:=sm (fun v=>CG Y v*h v) n
structure EN(n:Nat)(Lf Rt en:List Int):Prop where
 len:en.length=n
 ev:∀v,v<n->(gq en v=0↔(v:Int)∉Lf/\(v:Int)∉Rt)
theorem FI.ybd(hK:KT n K){h:Nat->Int}{ex:Nat->Prop}{Y:Ar 40 Int}{q:List Int}(hl:K.length<=120)(hI:FI n K Lf Rt h ex f Y q){v:Nat}(hv:v<40):-120000000<=CG Y v/\CG Y v<=120000000:=by
 rw[hI.yv v hv];have:=AE0 hK hI.fb v (Nat.le_refl K.length);have e:exc K f v=exk K f v K.length:=rfl;rw[e];omega
theorem FI.ql{h:Nat->Int}{ex:Nat->Prop}{Y:Ar 40 Int}{q:List Int}(hI:FI n K Lf Rt h ex f Y q):q.length<=n:=by
 have h2:q.length<=((List.range n).map fun(i:Nat)=>(i:Int)).length:=AIy hI.qd fun v hv=>by
  have:=(hI.qm v).1 hv;exact List.mem_map.2 ⟨v.toNat,List.mem_range.2 (by omega),by omega⟩
 simpa using h2
theorem AH1(hK:KT n K)(hn:n<=40)(hl:K.length<=120){H:Ar 40 Int}(hH:HI n Lf Rt (CG H)){en:List Int}(hE:EN n Lf Rt en){k:Nat}(hk:k<n)(hkL:(k:Int)∉Lf)(hkR:(k:Int)∉Rt):
  ∀(ws:List Qw)(f:List Int)(Y:Ar 40 Int)(q:List Int),(∀w∈ws,w∈G5 K (k:Int))->FI n K Lf Rt (CG H) (·=k) f Y q->
  ∃f' Y' q',ADA (n:Int) K Lf Rt en H (k:Int) ws (f,Y,q)=some (f',Y',q')/\FI n K Lf Rt (CG H) (·=k) f' Y' q'/\Phi n (CG H) Y'-CG Y' k=Phi n (CG H) Y-CG Y k/\CG Y' k<=CG Y k/\
   (∀w,w∈G5 K (k:Int)->lf K f' w<=lf K f w)/\(0<CG Y' k->∀w∈ws,0<lf K f' w->CG H k<=CG H w.2.1.toNat)
 |[],f,Y,q,_,hI=>⟨f,Y,q,rfl,hI,rfl,Int.le_refl _,fun _ _=>Int.le_refl _,fun _ _ h=>by cases h⟩
 |x::t,f,Y,q,hw,hI=>by
  have hx:=hw x List.mem_cons_self;have hw':∀w∈t,w∈G5 K (k:Int):=fun w h=>hw w (List.mem_cons_of_mem _ h);obtain⟨x1,x2,x3,x4,x5,x6,x7,x8,x9⟩:=AFO hK.vk hx;have hto:x.2.1.toNat<n:=by omega
  have hne:x.2.1.toNat≠k:=by omega
  have hyk:=hI.ybd hK hl (v:=k) (by omega);have hyt:=hI.ybd hK hl (v:=x.2.1.toNat) (by omega);have hpk:=hI.pos k hk hkL;have hbk:=hH.hb k hk;have hbt:=hH.hb _ hto;have hlx0:0<=lf K f x/\lf K f x<=2000000:=by
   obtain⟨i,hi,hc⟩:=ADi hK hx;have a:=hK.at hi;have b:=hI.fb.fb i hi;rcases hc with⟨_,_,e⟩|⟨_,_,e⟩<;>rw[e f]<;>omega
  rw[ADA];simp only;rw[AEx (show k<40 by omega),AEy hK hI.fb hx];simp only[DJ,AU];generalize hm:(if lf K f x<CG Y k then lf K f x else CG Y k)=m;have hm1:m<=lf K f x/\m<=CG Y k/\(m=lf K f x\/m=CG Y k):=by rw[<-hm];split<;>omega
  have skip:((0<CG Y k->0<lf K f x->CG H k<=CG H x.2.1.toNat))->∃f' Y' q',ADA (n:Int) K Lf Rt en H (k:Int) t (f,Y,q)=some (f',Y',q')/\FI n K Lf Rt (CG H) (·=k) f' Y' q'/\Phi n (CG H) Y'-CG Y' k=Phi n (CG H) Y-CG Y k/\CG Y' k<=CG Y k/\
   (∀w,w∈G5 K (k:Int)->lf K f' w<=lf K f w)/\(0<CG Y' k->∀w∈x::t,0<lf K f' w->CG H k<=CG H w.2.1.toNat):=fun hs=>by
   obtain⟨f',Y',q',e1,e2,e3,e4,e5,e6⟩:=AH1 hK hn hl hH hE hk hkL hkR t f Y q hw' hI;refine⟨f',Y',q',e1,e2,e3,e4,e5,fun h1 w h2 h3=>?_⟩;rcases List.mem_cons.1 h2 with rfl|h2
   ·have:=e5 w hx
    exact hs (by omega) (by omega)
   ·exact e6 h1 w h2 h3
  by_cases c1:0<m
  ·rw[if_pos (by simpa using c1),AEx (show k<40 by omega),ACi x4 (by omega)]
   simp only[AU];rw[Dx (show-9223372036854775808<=CG H x.2.1.toNat+1/\CG H x.2.1.toNat+1<=9223372036854775807 by omega)];by_cases c2:CG H k=CG H x.2.1.toNat+1
   ·clear skip
    rw[if_pos (by simpa using c2)];obtain⟨f2,p1,p2,p3,p4,p5,p6,_,_,_,_⟩:=AIU hK hI.fb hx (Int.le_of_lt c1) hm1.1;rw[Int.toNat_natCast]at p3 p6;rw[p1,AEw x4 (by rw[hE.len];omega),ACi x4 (by omega)];simp only[AU];have hev:=hE.ev _ hto;rw[Int.toNat_of_nonneg x4]at hev;have hql:=hI.ql;generalize hq2:(if gq en x.2.1.toNat=0/\CG Y x.2.1.toNat=0 then q++[x.2.1]else q)=q2;have eq2:(if decide (gq en x.2.1.toNat=0)=true then(if decide (CG Y x.2.1.toNat=0)=true then app 8 q ([x.2.1]:List Int)else some q)else some q)=some q2:=by
     rw[<-hq2];by_cases d1:gq en x.2.1.toNat=0
     ·by_cases d2:CG Y x.2.1.toNat=0
      ·rw[if_pos (by simpa using d1),if_pos (by simpa using d2),if_pos ⟨d1,d2⟩,xA (by simp only[List.length_cons,List.length_nil];omega)]
      ·rw[if_pos (by simpa using d1),if_neg (by simpa using d2),if_neg (fun h=>d2 h.2)]
     ·rw[if_neg (by simpa using d1),if_neg (fun h=>d1 h.1)]
    rw[eq2];simp only[AU];rw[ACi x4 (by omega)];simp only[AU];have w1:BH (CG Y k-m)=CG Y k-m:=Dx (by omega);have v1:CG (vZ Y (k:Int) (CG Y k-m)) x.2.1.toNat=CG Y x.2.1.toNat:=by rw[ABq (by omega),if_neg (by omega)]
    have w2:BH (CG Y x.2.1.toNat+m)=CG Y x.2.1.toNat+m:=Dx (by omega);rw[w1,v1,w2];generalize hY2:vZ (vZ Y (k:Int) (CG Y k-m)) x.2.1 (CG Y x.2.1.toNat+m)=Y2;have vY:∀v,CG Y2 v=if v=x.2.1.toNat then CG Y x.2.1.toNat+m else if v=k then CG Y k-m else CG Y v:=fun v=>by
     rw[<-hY2,ABq (by omega),ABq (by omega),Int.toNat_natCast]
    have vk:CG Y2 k=CG Y k-m:=by rw[vY,if_neg (by omega),if_pos rfl]
    have hpt:x.2.1∉Lf->0<=CG Y x.2.1.toNat:=fun h=>hI.pos _ hto (by rw[Int.toNat_of_nonneg x4];exact h);have hI2:FI n K Lf Rt (CG H) (·=k) f2 Y2 q2:=by
     refine⟨p2,fun v hv=>?_,fun v hv hvL=>?_,p6 _ c2 hI.vd,?_,fun a=>?_⟩
     ·rw[vY,p3 v,<-hI.yv v hv]
      by_cases d1:v=x.2.1.toNat
      ·rw[if_pos d1,if_pos d1,if_neg (by omega),d1];omega
      ·rw[if_neg d1,if_neg d1]
       by_cases d2:v=k
       ·rw[if_pos d2,if_pos d2,d2];omega
       ·rw[if_neg d2,if_neg d2];omega
     ·have:=hI.pos v hv hvL
      rw[vY];by_cases d1:v=x.2.1.toNat
      ·subst d1;rw[if_pos rfl];omega
      ·rw[if_neg d1]
       split<;>omega
     ·rw[<-hq2]
      by_cases d:gq en x.2.1.toNat=0/\CG Y x.2.1.toNat=0
      ·rw[if_pos d]
       refine List.nodup_append.2 ⟨hI.qd,by simp,fun a h1 b h2 e=>?_⟩;rw[List.mem_singleton.1 h2]at e;subst e;have:=(hI.qm _).1 h1;omega
      ·rw[if_neg d];exact hI.qd
     ·have hqa:=hI.qm a
      by_cases d0:a=x.2.1
      ·subst d0
       rw[vY,if_pos rfl];by_cases d1:gq en x.2.1.toNat=0
       ·have h9:=hev.1 d1
        have:=hpt h9.1;refine⟨fun _=>⟨x4,x5,h9.1,h9.2,by omega,hne⟩,fun _=>?_⟩;rw[<-hq2];by_cases d2:CG Y x.2.1.toNat=0
        ·rw[if_pos ⟨d1,d2⟩];simp
        ·rw[if_neg (fun h=>d2 h.2)]
         exact hqa.2 ⟨x4,x5,h9.1,h9.2,by omega,hne⟩
       ·rw[<-hq2,if_neg (fun h=>d1 h.1)]
        constructor
        ·intro h
         have:=hqa.1 h;exact absurd (hev.2 ⟨this.2.2.1,this.2.2.2.1⟩) d1
        ·rintro⟨_,_,h1,h2,_⟩
         exact absurd (hev.2 ⟨h1,h2⟩) d1
      ·have e:a∈q2↔a∈q:=by
        rw[<-hq2];split
        ·rw[List.mem_append,List.mem_singleton]
         exact⟨fun h=>h.resolve_right d0,.inl⟩
        ·exact Iff.rfl
       rw[e,hqa];refine and_congr_right fun h0=>and_congr_right fun h1=>?_;rw[vY,if_neg (by omega)];by_cases d1:a.toNat=k
       ·rw[if_pos d1]
        exact⟨fun h=>absurd d1 h.2.2.2,fun h=>absurd d1 h.2.2.2⟩
       ·rw[if_neg d1]
    have hPhi:Phi n (CG H) Y2=Phi n (CG H) Y-m:=by
     unfold Phi;rw[AAV (k:=fun v=>if v=x.2.1.toNat then(CG Y x.2.1.toNat+m)*CG H x.2.1.toNat else(fun v=>if v=k then(CG Y k-m)*CG H k else CG Y v*CG H v) v) fun v _=>?_]
     ·rw[AEv hto,AEv hk]
      rw[if_neg hne,Int.add_mul,Int.sub_mul,c2,Int.mul_add,Int.mul_add];omega
     ·rw[vY]
      by_cases d1:v=x.2.1.toNat
      ·subst d1;rw[if_pos rfl,if_pos rfl]
      ·rw[if_neg d1,if_neg d1]
       show(if v=k then CG Y k-m else CG Y v)*CG H v=(if v=k then(CG Y k-m)*CG H k else CG Y v*CG H v);by_cases d2:v=k
       ·subst d2;rw[if_pos rfl,if_pos rfl]
       ·rw[if_neg d2,if_neg d2]
    obtain⟨f',Y',q',e1,e2,e3,e4,e5,e6⟩:=AH1 hK hn hl hH hE hk hkL hkR t f2 Y2 q2 hw' hI2;refine⟨f',Y',q',e1,e2,by omega,by omega,fun w h=>Int.le_trans (e5 w h) (p4 w h),fun h1 w h2 h3=>?_⟩;rcases List.mem_cons.1 h2 with rfl|h2
    ·have:=e5 w hx
     omega
    ·exact e6 h1 w h2 h3
   ·rw[if_neg (by simpa using c2)]
    refine skip fun h1 h2=>?_;have:=hI.vd.way hK hx h2;rw[Int.toNat_natCast]at this;omega
  ·rw[if_neg (by simpa using c1)]
   exact skip fun h1 h2=>by omega
end
end
section
section
variable {n:Nat}{K:List oG}{Lf Rt f:List Int}
theorem AH2(hK:KT n K)(hn:n<=40)(hf:FB K f){H:Ar 40 Int}{n' k:Int}:∀(ws:List Qw)(low:Int),(∀w∈ws,w∈G5 K k)->
  ∃r,ADg ((n',K,Lf,Rt),[],f,H) ws low=some r/\r<=low/\(∀w∈ws,0<lf K f w->r<=CG H w.2.1.toNat)/\∀c,c<=low->(∀w∈ws,0<lf K f w->c<=CG H w.2.1.toNat)->c<=r
 |[],low,_=>⟨low,rfl,Int.le_refl _,fun _ h=>(by cases h),fun c h _=>h⟩
 |x::t,low,hw=>by
  have hx:=hw x List.mem_cons_self;have hw':∀w∈t,w∈G5 K k:=fun w h=>hw w (List.mem_cons_of_mem _ h);obtain⟨x1,x2,x3,x4,x5,x6,x7,x8,x9⟩:=AFO hK.vk hx;rw[ADg,AEy hK hf hx];simp only[DJ,AU];by_cases c:0<lf K f x
  ·rw[if_pos (by simpa using c),ACi x4 (by omega)]
   simp only[AU];obtain⟨r,e1,e2,e3,e4⟩:=AH2 hK hn hf (H:=H) (n':=n') t (if CG H x.2.1.toNat<low then CG H x.2.1.toNat else low) hw';have hle:(if CG H x.2.1.toNat<low then CG H x.2.1.toNat else low)<=low/\(if CG H x.2.1.toNat<low then CG H x.2.1.toNat else low)<=CG H x.2.1.toNat:=by split<;>omega
   refine⟨r,e1,by omega,fun w h1 h2=>?_,fun b h1 h2=>e4 b ?_ fun w h3=>h2 w (List.mem_cons_of_mem _ h3)⟩
   ·rcases List.mem_cons.1 h1 with rfl|h1
    ·omega
    ·exact e3 w h1 h2
   ·have:=h2 x List.mem_cons_self c
    split<;>omega
  ·rw[if_neg (by simpa using c)]
   obtain⟨r,e1,e2,e3,e4⟩:=AH2 hK hn hf (H:=H) (n':=n') t low hw';refine⟨r,e1,e2,fun w h1 h2=>?_,fun b h1 h2=>e4 b h1 fun w h3=>h2 w (List.mem_cons_of_mem _ h3)⟩;rcases List.mem_cons.1 h1 with rfl|h1
   ·exact absurd h2 c
   ·exact e3 w h1 h2
theorem AP1(hK:KT n K)(hn:n<=40){h:Nat->Int}(hH:HI n Lf Rt h){ex:Nat->Prop}{Y:Ar 40 Int}{q:List Int}(hI:FI n K Lf Rt h ex f Y q){v0:Nat}(hv0:v0<n)(hm:(v0:Int)∈Lf){k:Nat}(hk:k<n)(hkL:(k:Int)∉Lf)(hy:0<CG Y k):h k<=2*(n:Int):=by
 refine Classical.byContradiction fun hno=>?_;obtain⟨j,hj,hje⟩:=gap (n:=n) (h:=h) (L:=(List.range n).map fun(t:Nat)=>((n:Int)+1)+(t:Int)) (E:=[(n:Int)]) AIV (by simp) (fun a ha hb=>by
  obtain⟨t,ht,rfl⟩:=List.mem_map.1 ha;rw[List.mem_singleton]at hb;omega) (fun a ha=>⟨v0,hv0,by rw[hH.hl v0 hv0 hm,List.mem_singleton.1 ha]⟩) (by simp)
 obtain⟨t,ht,rfl⟩:=List.mem_map.1 hj;rw[List.mem_range]at ht;have hc:=AKr hK hI.fb (ARY hK hI.vd hje);have hcn:=APy hK fun v=>decide ((n:Int)+1+(t:Int)<h v);have hge:=(APE (g:=fun v=>if(fun v=>decide ((n:Int)+1+(t:Int)<h v)) v=true then exc K f v else 0) (n:=n) fun v hv=>by
  simp only[decide_eq_true_eq];split
  ·rename_i hx
   have:(v:Int)∉Lf:=fun hv2=>by have:=hH.hl v hv hv2;omega
   have:=hI.pos v hv this;rwa [hI.yv v (by omega)]at this
  ·omega).2 k hk
 simp only[decide_eq_true_eq]at hge hc;rw[if_pos (by omega),<-hI.yv k (by omega)]at hge;omega
theorem AMJ{y h b:Int}(h0:0<=h)(hb:h<=b)(hy:-120000000<=y/\y<=120000000):-120000000*b<=y*h/\y*h<=120000000*b:=by
 have a:=Int.mul_le_mul_of_nonneg_right hy.1 h0;have c:=Int.mul_le_mul_of_nonneg_right hy.2 h0;omega
theorem ANP(hn:n<=40){h:Nat->Int}{Y:Ar 40 Int}(hb:∀v,v<n->0<=h v/\h v<=81)(hy:∀v,v<n->-120000000<=CG Y v/\CG Y v<=120000000):-388800000000<=Phi n h Y/\Phi n h Y<=388800000000:=by
 have a:sm (fun _=>-9720000000) n<=Phi n h Y:=ACh fun v hv=>by
  have:=AMJ (hb v hv).1 (hb v hv).2 (hy v hv);show-9720000000<=CG Y v*h v;omega
 have c:Phi n h Y<=sm (fun _=>9720000000) n:=ACh fun v hv=>by
  have:=AMJ (hb v hv).1 (hb v hv).2 (hy v hv);show CG Y v*h v<=9720000000;omega
 rw[AC2]at a c;omega
theorem APK(hn:n<=40){h:Nat->Int}(hb:∀v,v<n->0<=h v/\h v<=81):0<=sm h n/\sm h n<=3240:=by
 have a:sm (fun _=>0) n<=sm h n:=ACh fun v hv=>(hb v hv).1;have c:sm h n<=sm (fun _=>81) n:=ACh fun v hv=>(hb v hv).2;rw[AC2]at a c;omega
theorem AH3(hK:KT n K)(hn:n<=40)(hl:K.length<=120){en:List Int}(hE:EN n Lf Rt en){v0:Nat}(hv0:v0<n)(hm0:(v0:Int)∈Lf):∀(m:Nat)(H:Ar 40 Int)(f:List Int)(Y:Ar 40 Int)(q:List Int),
  HI n Lf Rt (CG H)->FI n K Lf Rt (CG H) (fun _=>False) f Y q->120000001*(3240-sm (CG H) n)+Phi n (CG H) Y+388800000000<(m:Int)->
  ∃f' H' Y',ADh (n:Int) K Lf Rt en m H f Y q=some (f',H')/\HI n Lf Rt (CG H')/\FI n K Lf Rt (CG H') (fun _=>False) f' Y' []
 |0,H,f,Y,q,hH,hI,hM=>by
  have hb:∀v,v<n->0<=CG H v/\CG H v<=81:=fun v hv=>by have:=hH.hb v hv;omega
  have a:=ANP (Y:=Y) hn hb fun v hv=>hI.ybd hK hl (by omega);have c:=APK hn hb;omega
 |m+1,H,f,Y,[],hH,hI,_=>⟨f,H,Y,rfl,hH,hI⟩
 |m+1,H,f,Y,k::q,hH,hI,hM=>by
  obtain⟨k0,k1,k2,k3,k4,_⟩:=(hI.qm k).1 List.mem_cons_self;obtain⟨kn,rfl⟩:∃kn:Nat,k=(kn:Int):=⟨k.toNat,by omega⟩;rw[Int.toNat_natCast]at k4;have hkn:kn<n:=by omega
  have hnd:=List.nodup_cons.1 hI.qd;have hI1:FI n K Lf Rt (CG H) (·=kn) f Y q:=⟨hI.fb,hI.yv,hI.pos,hI.vd,hnd.2,fun a=>by
   have h1:=hI.qm a;constructor
   ·intro h
    have:=h1.1 (List.mem_cons_of_mem _ h);refine⟨this.1,this.2.1,this.2.2.1,this.2.2.2.1,this.2.2.2.2.1,fun e=>?_⟩;have e2:a=(kn:Int):=by omega
    rw[e2]at h;exact hnd.1 h
   ·rintro⟨a1,a2,a3,a4,a5,a6⟩
    rcases List.mem_cons.1 (h1.2 ⟨a1,a2,a3,a4,a5,id⟩)with e|h
    ·exact absurd (show a.toNat=kn by omega) a6
    ·exact h⟩
  obtain⟨f2,Y2,q2,e1,e2,e3,e4,e5,e6⟩:=AH1 hK hn hl hH hE hkn k2 k3 (G5 K (kn:Int)) f Y q (fun _ h=>h) hI1;rw[ADh,e1];simp only[DJ,AU];rw[AEx (show kn<40 by omega)];simp only[AU];have hpk:=e2.pos kn hkn k2;have hyb:=e2.ybd hK hl (v:=kn) (by omega);by_cases c:0<CG Y2 kn
  ·have hlow:=AP1 hK hn hH e2 hv0 hm0 hkn k2 c
   have hbk:=hH.hb kn hkn;obtain⟨r,r1,r2,r3,r4⟩:=AH2 (Lf:=Lf) (Rt:=Rt) (n':=(n:Int)) hK hn e2.fb (H:=H) (G5 K (kn:Int)) (2*(n:Int)) fun _ h=>h
   have r5:=r4 (CG H kn) hlow fun w h1 h2=>e6 c w h1 h2;have w1:BH (2*(n:Int))=2*(n:Int):=Dx (by omega);have w2:BH (r+1)=r+1:=Dx (by omega);have hra:ACd (((n:Int),K,Lf,Rt),[],f2,H) (kn:Int)=some (vZ H (kn:Int) (r+1)):=by
    unfold ACd;simp only;rw[w1,r1];simp only[DJ,AU];rw[AEx (show kn<40 by omega),w2]
    rfl
   have hql:=e2.ql;rw[if_pos (by simpa using c),hra];simp only[AU];rw[xA (by simp only[List.length_cons,List.length_nil];omega)];simp only[AU];have vH:∀v,CG (vZ H (kn:Int) (r+1)) v=if v=kn then r+1 else CG H v:=fun v=>by rw[ABq (by omega),Int.toNat_natCast]
   generalize hH2:vZ H (kn:Int) (r+1)=H2 at vH⊢;have hHI:HI n Lf Rt (CG H2):=⟨fun v hv h=>by
     rw[vH,if_neg (show¬v=kn from fun e=>k2 (by subst e;exact h))];exact hH.hl v hv h,fun v hv h=>by
     rw[vH,if_neg (show¬v=kn from fun e=>k3 (by subst e;exact h))];exact hH.hr v hv h,fun v hv=>by
     have:=hH.hb v hv;rw[vH];split<;>omega⟩
   have hFI:FI n K Lf Rt (CG H2) (fun _=>False) f2 Y2 (q2++[(kn:Int)]):=by
    refine⟨e2.fb,e2.yv,e2.pos,Vd.of hK fun u w hw h1=>?_,?_,fun a=>?_⟩
    ·obtain⟨x1,x2,x3,x4,x5,x6,x7,x8,x9⟩:=AFO hK.vk hw
     have hold:=e2.vd.way hK hw h1;rw[vH,vH];by_cases d:u.toNat=kn
     ·have d2:u=(kn:Int):=by omega
      subst d2;have:=r3 w hw h1;rw[if_pos d,if_neg (by omega)];omega
     ·rw[if_neg d]
      by_cases d3:w.2.1.toNat=kn
      ·rw[if_pos d3];rw[d3]at hold;omega
      ·rw[if_neg d3];exact hold
    ·refine List.nodup_append.2 ⟨e2.qd,by simp,fun a h1 b h2 e=>?_⟩
     rw[List.mem_singleton.1 h2]at e;subst e;have:=(e2.qm _).1 h1;exact this.2.2.2.2.2 (by simp)
    ·rw[List.mem_append,List.mem_singleton,e2.qm a]
     constructor
     ·rintro(h|rfl)
      ·exact⟨h.1,h.2.1,h.2.2.1,h.2.2.2.1,h.2.2.2.2.1,id⟩
      ·exact⟨k0,k1,k2,k3,by simpa using c,id⟩
     ·rintro⟨a1,a2,a3,a4,a5,_⟩
      by_cases d:a.toNat=kn
      ·exact .inr (by omega)
      ·exact .inl ⟨a1,a2,a3,a4,a5,d⟩
   refine AH3 hK hn hl hE hv0 hm0 m H2 f2 Y2 _ hHI hFI ?_;have s1:sm (CG H2) n=sm (CG H) n-CG H kn+(r+1):=by
    rw[AAV (k:=fun v=>if v=kn then r+1 else CG H v) fun v _=>vH v,AEv hkn]
   have s2:Phi n (CG H2) Y2=Phi n (CG H) Y2+CG Y2 kn*(r+1-CG H kn):=by
    unfold Phi;rw[AAV (k:=fun v=>if v=kn then CG Y2 kn*(r+1)else(fun v=>CG Y2 v*CG H v) v) fun v _=>?_]
    ·rw[AEv hkn,Int.mul_sub];omega
    ·show CG Y2 v*CG H2 v=if v=kn then CG Y2 kn*(r+1)else CG Y2 v*CG H v
     rw[vH];by_cases d:v=kn
     ·subst d;rw[if_pos rfl,if_pos rfl]
     ·rw[if_neg d,if_neg d]
   have s3:=(AMJ (y:=CG Y2 kn) (h:=r+1-CG H kn) (b:=r+1-CG H kn) (by omega) (Int.le_refl _) hyb).2;omega
  ·rw[if_neg (by simpa using c)]
   have hFI:FI n K Lf Rt (CG H) (fun _=>False) f2 Y2 q2:=⟨e2.fb,e2.yv,e2.pos,e2.vd,e2.qd,fun a=>by
    rw[e2.qm a];constructor
    ·rintro⟨a1,a2,a3,a4,a5,_⟩;exact⟨a1,a2,a3,a4,a5,id⟩
    ·rintro⟨a1,a2,a3,a4,a5,_⟩
     refine⟨a1,a2,a3,a4,a5,fun e=>?_⟩;rw[e]at a5;exact c a5⟩
   exact AH3 hK hn hl hE hv0 hm0 m H f2 Y2 q2 hH hFI (by omega)
end
structure Fl(x:ABF)(n:Nat)(f:List Int):Prop where
 fb:FB x.2.1 f
 kept:∀v,v<n->(v:Int)∉x.2.2.1->(v:Int)∉x.2.2.2->exc x.2.1 f v=0
 cut:∃X:Nat->Bool,(∀v∈x.2.2.1,X v.toNat=true)/\(∀v∈x.2.2.2,X v.toNat=false)/\Cl x.2.1 f X
theorem VN.kt{x:ABF}{n:Nat}(h:VN x n):KT n x.2.1:=h.kk
theorem ANQ{a b:List Int}(ha:1<=a.length/\a.length<=10)(hb:b.length<=10):ABc [a,b]=some (a++b):=by
 have w1:BH (0+(a.length:Int))=(a.length:Int):=by rw[Dx (by omega),Int.zero_add]
 have w2:BH ((a.length:Int)+(b.length:Int))=(a.length:Int)+(b.length:Int):=Dx (by omega);have e:ACe [a,b] 0=some ((a.length:Int)+(b.length:Int)):=by
  rw[ACe,w1,if_neg (by simp),ACe,w2,if_neg (by simp;omega),ACe]
 unfold ABc;rw[e];simp only[DJ,AU];rw[if_pos (by omega),AD5,xA (by simp;omega)];simp only[DJ,AU,List.nil_append];rw[AD5,xA (by omega)]
 rfl
theorem AP2{x:ABF}{n F:Nat}(hF:100000000000000<F)(h:VN x n):
  ∃f H,ADK F x.1 x.2.1 x.2.2.1 x.2.2.2 (List.replicate x.2.1.length 0) (Ar.fill 40 0)=some (f,H)/\Fl x n f:=by
 have hK:=h.kt;have hn:=h.n2;have hl:=h.lk;have hEl:=h.el;have hEr:=h.er;rw[h.nn];unfold ADK;have hm:mks 8 (n:Int) (0:Int)=some (List.replicate n 0):=by
  unfold mks;rw[if_pos ⟨by omega,by rw[Int.toNat_natCast];omega⟩,Int.toNat_natCast]
 rw[hm,ANQ hEl hEr.2];simp only[DJ,AU];obtain⟨en,n1,n2,n3⟩:=AJm (n:=n) (x.2.2.1++x.2.2.2) (List.replicate n 0) (by simp) fun k hk=>by
  rcases List.mem_append.1 hk with hk|hk
  ·exact h.il k hk
  ·exact h.ir k hk
 have hE:EN n x.2.2.1 x.2.2.2 en:=⟨n2,fun v hv=>by
  rw[n3 v hv];by_cases c:(v:Int)∈x.2.2.1++x.2.2.2
  ·rw[if_pos c]
   constructor
   ·intro h;cases h
   ·rintro⟨h1,h2⟩;rcases List.mem_append.1 c with c|c
    ·exact absurd c h1
    ·exact absurd c h2
  ·rw[if_neg c]
   have e0:gq (List.replicate n 0) v=0:=by
    simp only[gq,List.getD_eq_getElem?_getD,List.getElem?_replicate];split<;>rfl
   exact⟨fun _=>⟨fun h=>c (List.mem_append_left _ h),fun h=>c (List.mem_append_right _ h)⟩,fun _=>e0⟩⟩
 rw[n1];simp only[AU];have hz:∀i,gq (List.replicate x.2.1.length 0) i=0:=fun i=>by
  simp only[gq,List.getD_eq_getElem?_getD,List.getElem?_replicate];split<;>rfl
 obtain⟨f1,H1,i1,i2,_,i4,i5⟩:=AIY (Rt:=x.2.2.2) hK hn.2 (F:=F) (Lf:=x.2.2.1) (by omega) (n':=(n:Int)) x.2.2.1 (List.replicate x.2.1.length 0) (Ar.fill 40 0) (fun k hk=>⟨hk,h.il k hk⟩) ⟨by simp,fun i _=>.inl (hz i)⟩;rw[i1];simp only[AU];have htg:∀i,i<x.2.1.length->gq f1 i=tg x.2.2.1 (kd x.2.1 i):=fun i hi=>by
  by_cases c:(kd x.2.1 i).1∈x.2.2.1
  ·have:=i4 _ c _ (wy1 hK hi).1
   simpa using this
  ·by_cases d:(kd x.2.1 i).2.1∈x.2.2.1
   ·have:=i4 _ d _ (wy2 hK hi).1
    simpa using this
   ·rcases i2.tt i hi with e|e
    ·rw[e];unfold tg
     rw[if_neg (fun h=>c h.1),if_neg (fun h=>d h.1)]
    ·exact e
 have hfb:=i2.fb hK;have hv1:∀v,CG H1 v=if(v:Int)∈x.2.2.1 then(n:Int)else 0:=fun v=>by rw[i5 v,AJl]
 have hH1:HI n x.2.2.1 x.2.2.2 (CG H1):=⟨fun v _ hm=>by rw[hv1,if_pos hm],fun v _ hm=>by
  rw[hv1,if_neg fun h2=>h.cl _ h2 hm],fun v _=>by rw[hv1];split<;>omega⟩
 obtain⟨Y,y1,y2⟩:=AKq hK hn.2 hfb (F:=F) (by omega) (n':=(n:Int)) (Lf:=x.2.2.1) (Rt:=x.2.2.2) (dr:=[]) (H:=H1) hl;rw[y1];simp only[AU];obtain⟨q,q1,q2,q3⟩:=AEU hn.2 hE.len (Y:=Y) F 0 [] (by omega) (by omega) List.nodup_nil (fun a=>by simp;omega) (by simp);rw[show((0:Nat):Int)=0 from rfl]at q1;rw[q1];simp only[AU];have hFI:FI n x.2.1 x.2.2.1 x.2.2.2 (CG H1) (fun _=>False) f1 Y q:=by
  refine⟨hfb,y2,fun v hv hvL=>?_,fun i hi=>?_,q2,fun a=>?_⟩
  ·rw[y2 v (by omega)]
   have:sm (fun _=>0) x.2.1.length<=exc x.2.1 f1 v:=ACh fun i hi=>by
    have hk:=hK.at hi;rw[AC3 hK hi,htg i hi];unfold tg;by_cases c1:v=(kd x.2.1 i).2.1.toNat
    ·have c2:(kd x.2.1 i).2.1=(v:Int):=by omega
     rw[if_pos c1,if_neg (show¬v=(kd x.2.1 i).1.toNat by omega),c2];by_cases c3:(kd x.2.1 i).1∈x.2.2.1
     ·rw[if_pos ⟨c3,hvL⟩];omega
     ·rw[if_neg (fun h=>c3 h.1),if_neg (fun h=>hvL h.1)];omega
    ·rw[if_neg c1]
     by_cases c2:v=(kd x.2.1 i).1.toNat
     ·have c3:(kd x.2.1 i).1=(v:Int):=by omega
      rw[if_pos c2,c3,if_neg (show¬((v:Int)∈x.2.2.1/\(kd x.2.1 i).2.1∉x.2.2.1)from fun h=>hvL h.1)];split<;>omega
     ·rw[if_neg c2];omega
   rwa [AC1]at this
  ·have hk:=hK.at hi
   rw[hv1,hv1,Int.toNat_of_nonneg hk.1,Int.toNat_of_nonneg hk.2.2.1,htg i hi];unfold tg;by_cases c1:(kd x.2.1 i).1∈x.2.2.1
   ·by_cases c2:(kd x.2.1 i).2.1∈x.2.2.1
    ·rw[if_pos c1,if_pos c2];omega
    ·rw[if_pos c1,if_neg c2,if_pos ⟨c1,c2⟩];omega
   ·by_cases c2:(kd x.2.1 i).2.1∈x.2.2.1
    ·rw[if_neg c1,if_pos c2,if_neg (fun h=>c1 h.1),if_pos ⟨c2,c1⟩];omega
    ·rw[if_neg c1,if_neg c2];omega
  ·rw[q3 a]
   constructor
   ·rintro⟨a1,a2,a3,a4⟩
    have:=(hE.ev a.toNat (by omega)).1 a3;rw[Int.toNat_of_nonneg a1]at this;exact⟨a1,a2,this.1,this.2,a4,id⟩
   ·rintro⟨a1,a2,a3,a4,a5,_⟩
    exact⟨a1,a2,(hE.ev a.toNat (by omega)).2 (by rw[Int.toNat_of_nonneg a1];exact⟨a3,a4⟩),a5⟩
 obtain⟨v0,hv0⟩:∃v,v∈x.2.2.1:=by
  cases hL:x.2.2.1 with
  |nil=>rw[hL]at hEl;simp at hEl
  |cons a t=>exact⟨a,List.mem_cons_self⟩
 obtain⟨v1,hv1'⟩:∃v,v∈x.2.2.2:=by
  cases hL:x.2.2.2 with
  |nil=>rw[hL]at hEr;simp at hEr
  |cons a t=>exact⟨a,List.mem_cons_self⟩
 have b0:=h.il v0 hv0;have b1:=h.ir v1 hv1';have hb:∀v,v<n->0<=CG H1 v/\CG H1 v<=81:=fun v hv=>by have:=hH1.hb v hv;omega
 have hpb:=ANP (Y:=Y) hn.2 hb fun v hv=>hFI.ybd hK hl (by omega);have hsb:=APK hn.2 hb;obtain⟨f2,H2,Y2,z1,z2,z3⟩:=AH3 hK hn.2 hl hE (v0:=v0.toNat) (by omega) (by rw[Int.toNat_of_nonneg b0.1];exact hv0) F H1 f1 Y q hH1 hFI (by omega);refine⟨f2,H2,z1,z3.fb,fun v hv h1 h2=>?_,?_⟩
 ·have a:=z3.pos v hv h1
  have c:=z3.qm (v:Int);rw[<-z3.yv v (by omega)];have d:¬0<CG Y2 v:=fun hlt=>by
   have:=c.2 ⟨by omega,by omega,h1,h2,by simpa using hlt,id⟩;cases this
  omega
 ·obtain⟨j,hj,hje⟩:=gap (n:=n) (h:=CG H2) (L:=(List.range (n-1)).map fun(t:Nat)=>(1:Int)+(t:Int)) (E:=[(n:Int),0]) AIV (by simp;omega) (fun a ha hb=>by
   obtain⟨t,ht,rfl⟩:=List.mem_map.1 ha;rw[List.mem_range]at ht;simp only[List.mem_cons,List.not_mem_nil,or_false]at hb;omega) (fun a ha=>by
    simp only[List.mem_cons,List.not_mem_nil,or_false]at ha;rcases ha with rfl|rfl
    ·exact⟨v0.toNat,by omega,z2.hl _ (by omega) (by rw[Int.toNat_of_nonneg b0.1];exact hv0)⟩
    ·exact⟨v1.toNat,by omega,z2.hr _ (by omega) (by rw[Int.toNat_of_nonneg b1.1];exact hv1')⟩) (by simp;omega)
  obtain⟨t,ht,rfl⟩:=List.mem_map.1 hj;rw[List.mem_range]at ht;refine⟨_,fun v hv=>?_,fun v hv=>?_,ARY hK z3.vd hje⟩
  ·have b:=h.il v hv
   have:=z2.hl v.toNat (by omega) (by rw[Int.toNat_of_nonneg b.1];exact hv);simp only[decide_eq_true_eq];omega
  ·have b:=h.ir v hv
   have:=z2.hr v.toNat (by omega) (by rw[Int.toNat_of_nonneg b.1];exact hv);simp only[decide_eq_false_iff_not];omega
theorem AMK{x:ABF}{n F:Nat}(hF:100000000000000<F)(h:VN x n):∃f H,AAK F x=some (0,f,H)/\Fl x n f:=by
 obtain⟨f,H,h1,h2⟩:=AP2 hF h;refine⟨f,H,?_,h2⟩;unfold AAK;rw[ARX (by omega) h];simp only[DJ,AU];rw[if_neg (by simp),h1]
 rfl
end
section
section
variable {F:Nat}{l:List Int}
theorem ADS{k:Nat}(h:k<1000000):BH ((k:Int)+1)=((k+1:Nat):Int):=by rw[Dx (by omega)];rfl
theorem AKs{v:Int}(hl:l.length<=1000):∀(m k:Nat),k<=l.length->l.length-k<m->ABE F l v m (k:Int)=some (if v∈l.drop k then .inl true else .inr ())
 |0,k,_,h=>by omega
 |m+1,k,hk,hm=>by
  unfold ABE;by_cases c:k<l.length
  ·have hd:l.drop k=l[k]::l.drop (k+1):=List.drop_eq_getElem_cons c
   rw[if_pos (by simpa using c),AAb c,hd];simp only[DJ,AU];by_cases d:l[k]=v
   ·rw[if_pos (by simpa using d),if_pos (by rw[d];exact List.mem_cons_self)]
   ·rw[if_neg (by simpa using d),ADS (by omega),AKs hl m (k+1) (by omega) (by omega)]
    congr 1
    by_cases e:v∈l.drop (k+1)
    ·rw[if_pos e,if_pos (List.mem_cons_of_mem _ e)]
    ·rw[if_neg e,if_neg]
     intro h;rcases List.mem_cons.1 h with h|h
     ·exact d h.symm
     ·exact e h
  ·rw[if_neg (by simpa using c),List.drop_of_length_le (by omega),if_neg (by simp)]
theorem AJn{v:Int}(hF:100000<F)(hl:l.length<=1000):ABZ F l v=some (decide (v∈l)):=by
 unfold ABZ;have h:=AKs (F:=F) (v:=v) hl F 0 (by omega) (by omega);rw[show((0:Nat):Int)=0 from rfl,List.drop_zero]at h;rw[h];simp only[DJ,AU];by_cases c:v∈l
 ·rw[if_pos c];simp[c]
 ·rw[if_neg c];simp[c]
theorem AGq{b:Int}(hl:l.length<=1000):∀(m k:Nat),k<=l.length->l.length-k<m->
  yQ F l b m (k:Int)=some (.inl false)\/(yQ F l b m (k:Int)=some (.inr ())/\∀i,k<=i->i<l.length->0<=gq l i/\gq l i<b/\(0<i->gq l (i-1)<gq l i))
 |0,k,_,h=>by omega
 |m+1,k,hk,hm=>by
  unfold yQ;by_cases c:k<l.length
  ·rw[if_pos (by simpa using c),AAu c]
   simp only[DJ,AU];by_cases d1:gq l k<0
   ·rw[if_pos (by simpa using d1)];exact .inl rfl
   rw[if_neg (by simpa using d1)];by_cases d2:b<=gq l k
   ·rw[if_pos (by simpa using d2)];exact .inl rfl
   rw[if_neg (by simpa using d2)];have hk1:((k:Int)+1=((k+1:Nat):Int)):=rfl;by_cases d3:0<k
   ·have e3:BH ((k:Int)-1)=((k-1:Nat):Int):=by rw[Dx (by omega)];omega
    rw[if_pos (by simpa using d3),e3,AAu (show k-1<l.length by omega)];simp only[AU];by_cases d4:gq l k<=gq l (k-1)
    ·rw[if_pos (by simpa using d4)];exact .inl rfl
    ·rw[if_neg (by simpa using d4),ADS (by omega)]
     rcases AGq hl m (k+1) (by omega) (by omega)with h|⟨h,h2⟩
     ·exact .inl h
     ·refine .inr ⟨h,fun i h3 h4=>?_⟩
      by_cases e:i=k
      ·subst e;exact⟨by omega,by omega,fun _=>by omega⟩
      ·exact h2 i (by omega) h4
   ·rw[if_neg (by simpa using d3)]
    simp only[AU];rw[if_neg (by simp),ADS (by omega)];rcases AGq hl m (k+1) (by omega) (by omega)with h|⟨h,h2⟩
    ·exact .inl h
    ·refine .inr ⟨h,fun i h3 h4=>?_⟩
     by_cases e:i=k
     ·subst e;exact⟨by omega,by omega,fun h=>by omega⟩
     ·exact h2 i (by omega) h4
  ·exact .inr ⟨by rw[if_neg (by simpa using c)],fun i h1 h2=>by omega⟩
theorem adj{l:List Int}(h:∀i,i<l.length->0<i->gq l (i-1)<gq l i):l.Pairwise (·<·):=by
 have key:∀(d i:Nat),i+d+1<l.length->gq l i<gq l (i+d+1):=by
  intro d
  induction d with
  |zero=>intro i hi;exact h (i+1) hi (by omega)
  |succ d ih=>
   intro i hi;have a:=ih i (by omega);have b:=h (i+(d+1)+1) hi (by omega);have e:i+(d+1)+1-1=i+d+1:=by omega
   rw[e]at b;omega
 rw[List.pairwise_iff_getElem];intro i j hi hj hij;have:=key (j-i-1) i (by omega);rw[show i+(j-i-1)+1=j by omega]at this;simpa[gq,hi,hj]using this
theorem APL{b:Int}(hF:100000<F)(hl:l.length<=1000):AAt F l b=some false\/(AAt F l b=some true/\l.Pairwise (·<·)/\∀v∈l,0<=v/\v<b):=by
 unfold AAt;have h:=AGq (F:=F) (b:=b) hl F 0 (by omega) (by omega);rw[show((0:Nat):Int)=0 from rfl]at h;rcases h with h|⟨h,h2⟩
 ·rw[h];exact .inl rfl
 ·rw[h]
  refine .inr ⟨rfl,adj fun i hi h0=>(h2 i (by omega) hi).2.2 h0,fun v hv=>?_⟩;obtain⟨i,hi,rfl⟩:=List.mem_iff_getElem.1 hv;have:=h2 i (by omega) hi;simp only[gq,List.getD_eq_getElem?_getD,List.getElem?_eq_getElem hi,Option.getD_some]at this;exact⟨this.1,this.2.1⟩
end
section
variable {F:Nat}{x:ABF}
theorem AJo(hl:x.2.1.length<=1000):∀(m k:Nat),k<=x.2.1.length->x.2.1.length-k<m->
  wL F x m (k:Int)=some (.inl 2)\/(wL F x m (k:Int)=some (.inr ())/\∀i,k<=i->i<x.2.1.length->0<=(kd x.2.1 i).1/\(kd x.2.1 i).1<x.1/\0<=(kd x.2.1 i).2.1/\(kd x.2.1 i).2.1<x.1/\(kd x.2.1 i).1≠(kd x.2.1 i).2.1/\1<=(kd x.2.1 i).2.2/\(kd x.2.1 i).2.2<=1000000)
 |0,k,_,h=>by omega
 |m+1,k,hk,hm=>by
  unfold wL;by_cases c:k<x.2.1.length
  ·rw[if_pos (by simpa using c),AER c]
   simp only[DJ,AU];split
   ·exact .inl rfl
   ·rename_i hn
    simp only[Bool.or_eq_true,decide_eq_true_eq,not_or]at hn;rw[ADS (by omega)];rcases AJo hl m (k+1) (by omega) (by omega)with h|⟨h,h2⟩
    ·exact .inl h
    ·refine .inr ⟨h,fun i h3 h4=>?_⟩
     by_cases e:i=k
     ·subst e;exact⟨by omega,by omega,by omega,by omega,by omega,by omega,by omega⟩
     ·exact h2 i (by omega) h4
  ·exact .inr ⟨by rw[if_neg (by simpa using c)],fun i h1 h2=>by omega⟩
theorem AJp(hF:100000<F)(hl:x.2.2.1.length<=1000)(hr:x.2.2.2.length<=1000):∀(m k:Nat),k<=x.2.2.1.length->x.2.2.1.length-k<m->
  wM F x m (k:Int)=some (.inl 21)\/(wM F x m (k:Int)=some (.inr ())/\∀i,k<=i->i<x.2.2.1.length->gq x.2.2.1 i∉x.2.2.2)
 |0,k,_,h=>by omega
 |m+1,k,hk,hm=>by
  unfold wM;by_cases c:k<x.2.2.1.length
  ·rw[if_pos (by simpa using c),AAu c]
   simp only[DJ,AU];rw[AJn hF hr];simp only[AU];by_cases d:gq x.2.2.1 k∈x.2.2.2
   ·rw[if_pos (by simpa using d)];exact .inl rfl
   ·rw[if_neg (by simpa using d),ADS (by omega)]
    rcases AJp hF hl hr m (k+1) (by omega) (by omega)with h|⟨h,h2⟩
    ·exact .inl h
    ·refine .inr ⟨h,fun i h3 h4=>?_⟩
     by_cases e:i=k
     ·subst e;exact d
     ·exact h2 i (by omega) h4
  ·exact .inr ⟨by rw[if_neg (by simpa using c)],fun i h1 h2=>by omega⟩
theorem ASy(hF:100000<F)(hk:x.2.1.length<=130)(hl:x.2.2.1.length<=20)(hr:x.2.2.2.length<=20):(∃e,kE F x=some e/\e≠0)\/(kE F x=some 0/\∃n,VN x n):=by
 unfold kE;split
 ·exact .inl ⟨6,rfl,by decide⟩
 ·rename_i hn
  simp only[Bool.or_eq_true,decide_eq_true_eq,not_or]at hn;have h1:=AJo (F:=F) (x:=x) (by omega) F 0 (by omega) (by omega);have h2:=AJp (F:=F) (x:=x) hF (by omega) (by omega) F 0 (by omega) (by omega);rw[show((0:Nat):Int)=0 from rfl]at h1 h2;rcases h1 with h1|⟨h1,k1⟩
  ·rw[h1];exact .inl ⟨2,rfl,by decide⟩
  rw[h1];simp only[DJ,AU];rcases APL (F:=F) (l:=x.2.2.1) (b:=x.1) hF (by omega)with h3|⟨h3,k3,k3'⟩
  ·rw[h3]
   simp only[AU,gd,Bool.not_false,Bool.not_true,cond_false];rw[if_pos (by simp)];exact .inl ⟨3,rfl,by decide⟩
  rw[h3];simp only[AU,gd,Bool.not_false,Bool.not_true,cond_true];rcases APL (F:=F) (l:=x.2.2.2) (b:=x.1) hF (by omega)with h4|⟨h4,k4,k4'⟩
  ·rw[h4]
   simp only[AU];rw[if_pos (by simp)];exact .inl ⟨3,rfl,by decide⟩
  rw[h4];simp only[AU];rw[if_neg (by simp)];rcases h2 with h2|⟨h2,k2⟩
  ·rw[h2];exact .inl ⟨21,rfl,by decide⟩
  rw[h2];have hx:x.1=((x.1.toNat:Nat):Int):=by omega
  refine .inr ⟨rfl,x.1.toNat,hx,by omega,by omega,by omega,by omega,fun y hy=>?_,k3,fun v hv=>?_,k4,fun v hv=>?_,fun v hv=>?_⟩
  ·obtain⟨i,hi,rfl⟩:=List.mem_iff_getElem.1 hy
   have:=k1 i (by omega) hi;simp only[kd,List.getD_eq_getElem?_getD,List.getElem?_eq_getElem hi,Option.getD_some]at this;rw[<-hx];exact this
  ·have:=k3' v hv;omega
  ·have:=k4' v hv;omega
  ·obtain⟨i,hi,rfl⟩:=List.mem_iff_getElem.1 hv
   have:=k2 i (by omega) hi;simpa[gq,hi]using this
theorem AJq(hF:100000<F):AB1 F x=some false\/(AB1 F x=some true/\kE F x=some 0/\∃n,VN x n):=by
 unfold AB1;by_cases c:((decide ((x.2.1.length:Int)<=130))&&(decide ((x.2.2.1.length:Int)<=20))&&(decide ((x.2.2.2.length:Int)<=20)))=true
 ·rw[c]
  simp only[Bool.and_eq_true,decide_eq_true_eq]at c;simp only[gd,cond_true,Bool.true_and];rcases ASy (F:=F) (x:=x) hF (by omega) (by omega) (by omega)with⟨e,h1,h2⟩|⟨h1,h2⟩
  ·left
   rw[show kE F (x.1,x.2.1,x.2.2.1,x.2.2.2)=some e from h1];simp[h2]
  ·right
   rw[show kE F (x.1,x.2.1,x.2.2.1,x.2.2.2)=some 0 from h1];exact⟨rfl,rfl,h2⟩
 ·rw[Bool.not_eq_true]at c
  rw[c];exact .inl rfl
end
end
section
section
variable {F n:Nat}{x:ABF}{f:List Int}
theorem ANR(hK:KT n x.2.1)(hl:x.2.1.length<=120)(hf:FB x.2.1 f)(v:Nat):-120000000<=exc x.2.1 f v/\exc x.2.1 f v<=120000000:=by
 have:=AE0 hK hf v (Nat.le_refl x.2.1.length);have e:exc x.2.1 f v=exk x.2.1 f v x.2.1.length:=rfl;rw[e];omega
def GR(x:ABF)(n:Nat)(f:List Int):Int:=-sm (fun v=>if(v:Int)∈x.2.2.1 then exc x.2.1 f v else 0) n
theorem AP3(h:VN x n)(hf:Fl x n f){X:Nat->Bool}(hX:Cl x.2.1 f X)(hL:∀v∈x.2.2.1,X v.toNat=true)(hR:∀v∈x.2.2.2,X v.toNat=false):cux x.2.1 X x.2.1.length=GR x n f:=by
 have h1:=AKr h.kt hf.fb hX;have h2:sm (fun v=>if X v=true then exc x.2.1 f v else 0) n=sm (fun v=>if(v:Int)∈x.2.2.1 then exc x.2.1 f v else 0) n:=AAV fun v hv=>by
  by_cases c:(v:Int)∈x.2.2.1
  ·have:=hL _ c
   rw[Int.toNat_natCast]at this;rw[if_pos this,if_pos c]
  ·rw[if_neg c]
   by_cases d:(v:Int)∈x.2.2.2
   ·have:=hR _ d
    rw[Int.toNat_natCast]at this;rw[if_neg (by rw[this];simp)]
   ·rw[hf.kept v hv c d];split<;>rfl
 unfold GR;omega
theorem APM(h:VN x n)(hf:FB x.2.1 f):∀(m k:Nat)(z:List Int),k<=x.2.1.length->x.2.1.length-k<m->z.length=n->(∀v,v<n->gq z v=-exk x.2.1 f v k)->
  ∃z',yA F x f m z (k:Int)=some (.inr z')/\z'.length=n/\∀v,v<n->gq z' v=-exc x.2.1 f v
 |0,k,_,_,h,_,_=>by omega
 |m+1,k,z,hk,hm,hz,hv=>by
  have hK:=h.kt;have hl:=h.lk;have hn:=h.n2;unfold yA;rw[hf.len];by_cases c:k<x.2.1.length
  ·have hkk:=hK.at c
   have hb:=hf.fb k c;have hlen:=hf.len;have e1:=hv (kd x.2.1 k).1.toNat (by omega);have e2:=hv (kd x.2.1 k).2.1.toNat (by omega);have b1:=AE0 hK hf (kd x.2.1 k).1.toNat hk;have b2:=AE0 hK hf (kd x.2.1 k).2.1.toNat hk;have hne:(kd x.2.1 k).2.1.toNat≠(kd x.2.1 k).1.toNat:=by omega
   have q0:BH (0-(kd x.2.1 k).2.2)=0-(kd x.2.1 k).2.2:=Dx (by omega);have q1:BH (gq z (kd x.2.1 k).1.toNat+gq f k)=gq z (kd x.2.1 k).1.toNat+gq f k:=Dx (by omega);have q2:BH (gq z (kd x.2.1 k).2.1.toNat-gq f k)=gq z (kd x.2.1 k).2.1.toNat-gq f k:=Dx (by omega);rw[if_pos (by simpa using c),AER c];simp only[DJ,AU];rw[AAu (show k<f.length by omega)];simp only[AU];rw[if_neg (by simp only[decide_eq_true_eq];omega)];simp only[AU];rw[q0,if_neg (by simp only[decide_eq_true_eq];omega),AEw hkk.1 (by omega)];simp only[AU];rw[q1,AEw (f:=NG z (kd x.2.1 k).1 (gq z (kd x.2.1 k).1.toNat+gq f k)) hkk.2.2.1 (by rw[NG,List.length_set];omega)];simp only[AU];have q3:gq (NG z (kd x.2.1 k).1 (gq z (kd x.2.1 k).1.toNat+gq f k)) (kd x.2.1 k).2.1.toNat=gq z (kd x.2.1 k).2.1.toNat:=by rw[NG,zS (by omega),if_neg hne]
   rw[q3,q2,ADS (by omega)];refine APM h hf m (k+1) _ (by omega) (by omega) (by rw[NG,NG,List.length_set,List.length_set];exact hz) fun v hvn=>?_;rw[NG,zS (by rw[NG,List.length_set];omega),NG,zS (by omega)];have hvv:=hv v hvn;unfold exk at e1 e2 hvv⊢;rw[sm,AC3 hK c];by_cases c1:v=(kd x.2.1 k).2.1.toNat
   ·subst c1
    rw[if_pos rfl,if_pos rfl,if_neg hne,e2];omega
   ·rw[if_neg c1,if_neg c1]
    by_cases c2:v=(kd x.2.1 k).1.toNat
    ·subst c2
     rw[if_pos rfl,if_pos rfl,e1];omega
    ·rw[if_neg c2,if_neg c2,hvv];omega
  ·have:k=x.2.1.length:=by omega
   subst this;exact⟨z,by rw[if_neg (by simp)],hz,hv⟩
theorem AML(hF:100000<F)(h:VN x n)(hf:Fl x n f){z:List Int}(hz:z.length=n)(hv:∀v,v<n->gq z v=-exc x.2.1 f v):∀(m k:Nat)(a:Int),k<=n->n-k<m->a=-sm (fun v=>if(v:Int)∈x.2.2.1 then exc x.2.1 f v else 0) k->-120000000*(k:Int)<=a->a<=120000000*(k:Int)->
  yB F x z m a (k:Int)=some (.inr (GR x n f))
 |0,k,_,_,h,_,_,_=>by omega
 |m+1,k,a,hk,hm,ha,b1,b2=>by
  have hn:=h.n2;have hel:=h.el;have her:=h.er;unfold yB;rw[h.nn];by_cases c:k<n
  ·have hb:=ANR h.kt h.lk hf.fb k
   have hvk:=hv k c;rw[if_pos (by simpa using c),AJn hF (by omega)];simp only[DJ,AU];by_cases d:(k:Int)∈x.2.2.1
   ·have q:BH (a+gq z k)=a+gq z k:=Dx (by omega)
    rw[if_pos (by simpa using d),AAu (by omega)];simp only[AU];rw[q,ADS (by omega)];refine AML hF h hf hz hv m (k+1) _ (by omega) (by omega) ?_ (by omega) (by omega);rw[sm,if_pos d];omega
   ·rw[if_neg (by simpa using d),AJn hF (by omega)]
    simp only[AU];have fiv':(if((k:Int)∈x.2.2.2)then True else exc x.2.1 f k=0):=by
     split
     ·trivial
     ·rename_i e;exact hf.kept k c d e
    have q:(if(!decide ((k:Int)∈x.2.2.2))=true then(ix z (k:Int)).bind fun x20=>some (!decide (x20=0))else some false)=some false:=by
     by_cases e:(k:Int)∈x.2.2.2
     ·rw[if_neg (by simpa using e)]
     ·rw[if_pos (by simpa using e),AAu (by omega),hvk,hf.kept k c d e];rfl
    rw[q];simp only[AU];rw[if_neg (by simp)];simp only[AU];rw[ADS (by omega)];refine AML hF h hf hz hv m (k+1) a (by omega) (by omega) ?_ (by omega) (by omega);rw[sm,if_neg d];omega
  ·have:k=n:=by omega
   subst this;rw[if_neg (by simp),ha]
   rfl
theorem AJr{m:Nat}(hm:m<=1000):mks 8 (m:Int) (0:Int)=some (List.replicate m 0):=by
 unfold mks;rw[if_pos ⟨by omega,by rw[Int.toNat_natCast];omega⟩,Int.toNat_natCast]
theorem ANT{m:Nat}(i:Nat):gq (List.replicate m (0:Int)) i=0:=by
 simp only[gq,List.getD_eq_getElem?_getD,List.getElem?_replicate];split<;>rfl
theorem ASz(hF:100000<F)(h:VN x n)(hc:kE F x=some 0)(hf:Fl x n f):AA9 F x f=some (GR x n f,0):=by
 have hn:=h.n2;have hl:=h.lk;unfold AA9;rw[show kE F (x.1,x.2.1,x.2.2.1,x.2.2.2)=some 0 from hc];simp only[DJ,AU];rw[if_neg (by simp),if_neg (by simp[hf.fb.len]),h.nn,AJr (by omega)];simp only[AU];obtain⟨z,z1,z2,z3⟩:=APM (F:=F) h hf.fb F 0 (List.replicate n 0) (by omega) (by omega) (by simp) fun v _=>by rw[ANT];rfl
 have z4:=AML hF h hf z2 z3 F 0 0 (by omega) (by omega) rfl (by simp) (by simp);rw[show((0:Nat):Int)=0 from rfl]at z1 z4;rw[z1];simp only[AU];rw[z4]
 rfl
def ls(g:Nat->Int):List Int->Int
 |[]=>0
 |k::t=>g k.toNat+ls g t
theorem APN{g:Nat->Int}:∀(l:List Int),l.Nodup->(∀k∈l,0<=k/\k<(n:Int))->ls g l=sm (fun v=>if(v:Int)∈l then g v else 0) n
 |[],_,_=>by
  rw[AAV (k:=fun _=>0) fun v _=>by rw[if_neg (by simp)],AC1]
  rfl
 |k::t,hd,hi=>by
  have hn:=List.nodup_cons.1 hd;have hk:=hi k List.mem_cons_self;have ih:=APN (g:=g) t hn.2 fun j hj=>hi j (List.mem_cons_of_mem _ hj);have hkt:((k.toNat:Nat):Int)=k:=Int.toNat_of_nonneg hk.1;rw[ls,ih,AAV (g:=fun(v:Nat)=>if(v:Int)∈k::t then g v else 0) (k:=fun(v:Nat)=>if v=k.toNat then g k.toNat else(fun(v:Nat)=>if(v:Int)∈t then g v else 0) v) fun v _=>?_]
  ·rw[AEv (by omega),hkt,if_neg hn.1];omega
  ·show(if(v:Int)∈k::t then g v else 0)=if v=k.toNat then g k.toNat else if(v:Int)∈t then g v else 0
   by_cases c:v=k.toNat
   ·subst c
    rw[if_pos (by rw[hkt];exact List.mem_cons_self),if_pos rfl]
   ·rw[if_neg c]
    by_cases d:(v:Int)∈t
    ·rw[if_pos d,if_pos (List.mem_cons_of_mem _ d)]
    ·rw[if_neg d,if_neg]
     intro hm;rcases List.mem_cons.1 hm with hm|hm
     ·omega
     ·exact d hm
theorem APO(h:VN x n)(hf:FB x.2.1 f){H Y:Ar 40 Int}(hY:∀v,v<40->CG Y v=exc x.2.1 f v):∀(m k:Nat)(a:Int),k<=x.2.2.1.length->x.2.2.1.length-k<m->-120000000*(k:Int)<=a->a<=120000000*(k:Int)->
  yN F (x,[],f,H) Y m a (k:Int)=some (a-ls (exc x.2.1 f) (x.2.2.1.drop k))
 |0,k,_,_,h,_,_=>by omega
 |m+1,k,a,hk,hm,b1,b2=>by
  have hel:=h.el;have hn:=h.n2;unfold yN;by_cases c:k<x.2.2.1.length
  ·have hi:=h.il _ (List.getElem_mem c)
   have hb:=ANR h.kt h.lk hf (x.2.2.1[k]).toNat;have q:BH (a-exc x.2.1 f (x.2.2.1[k]).toNat)=a-exc x.2.1 f (x.2.2.1[k]).toNat:=Dx (by omega);rw[if_pos (by simpa using c),AAb c];simp only[DJ,AU];rw[ACi hi.1 (by omega),hY _ (by omega)];simp only[AU];rw[q,ADS (by omega),APO h hf hY m (k+1) _ (by omega) (by omega) (by omega) (by omega),List.drop_eq_getElem_cons c,ls]
   congr 1
   omega
  ·have:k=x.2.2.1.length:=by omega
   subst this;rw[if_neg (by simp),List.drop_length,ls]
   congr 1
   omega
theorem AOb(hF:1000000<F)(h:VN x n)(hf:FB x.2.1 f){H:Ar 40 Int}:ABP F (x,[],f,H)=some (GR x n f):=by
 have hel:=h.el;obtain⟨Y,y1,y2⟩:=AKq h.kt h.n2.2 hf hF (n':=x.1) (Lf:=x.2.2.1) (Rt:=x.2.2.2) (dr:=[]) (H:=H) h.lk;unfold ABP;rw[show AAT F ((x.1,x.2.1,x.2.2.1,x.2.2.2),[],f,H)=some Y from y1];simp only[DJ,AU];have h1:=APO (F:=F) (H:=H) h hf y2 F 0 0 (by omega) (by omega) (by simp) (by simp);rw[show((0:Nat):Int)=0 from rfl]at h1;rw[h1];simp only[AU];rw[List.drop_zero,APN x.2.2.1 (ndl h.ul) h.il];unfold GR
 congr 1
 omega
theorem AP4(hF:100000000000000<F)(h:VN x n):∃f H,AAK F x=some (0,f,H)/\Fl x n f/\ACO F x=some (f,0):=by
 obtain⟨f,H,h1,h2⟩:=AMK hF h;refine⟨f,H,h1,h2,?_⟩;have hl:=h.lk;have hfl:=h2.fb.len;unfold ACO;rw[h1];simp only[DJ,AU];rw[if_neg (by simp),AJr (by omega)];simp only[AU]
 congr 2
 simp[ADY]
def Sb(o:List Qw)(v:Nat):Bool:=!decide (o.getD v ZW=ZW)
theorem AD9{o:List Qw}{v:Nat}:Sb o v=true↔R o v:=by
 unfold Sb R;rw[List.getD_eq_getElem?_getD];cases h:o[v]? with
 |none=>simp
 |some y=>simp
theorem AOc(hF:1000000<F)(h:VN x n)(hf:FB x.2.1 f){H:Ar 40 Int}:∃o,AAF F (n:Int) x.2.1 x.2.2.1 (vz (x,[],f,H))=some o/\Rch n x.2.1 (lf x.2.1 f) x.2.2.1 o:=
 AHb hF (by have:=h.n2;omega) h.vk (fun k w hw=>AEy h.kt hf hw _ _ _ _ _) (ndl h.ul) h.il
theorem AOd(hF:1000000<F)(h:VN x n)(hf:FB x.2.1 f){H:Ar 40 Int}:∃o,AAF F (n:Int) x.2.1 x.2.2.2 (AAS (x,[],f,H))=some o/\Rch n x.2.1 (fun w=>lf x.2.1 f (w.2.1,w.1,w.2.2)) x.2.2.2 o:=
 AHb hF (by have:=h.n2;omega) h.vk (fun k w hw=>APw h.kt hf hw _ _ _ _ _) (ndl h.ur) h.ir
theorem AP5(hK:KT n x.2.1){o:List Qw}(h:Rch n x.2.1 (lf x.2.1 f) x.2.2.1 o):Cl x.2.1 f (Sb o):=fun i hi=>by
 have hk:=hK.at hi;have a:=wy1 hK hi;have b:=wy2 hK hi;rw[AD9,AD9];refine⟨fun h1 h2=>?_,fun h1 h2=>?_⟩
 ·have:=h.on _ h2 ((kd x.2.1 i).1,(kd x.2.1 i).2.1,(i:Int)) (by rw[Int.toNat_of_nonneg hk.1];exact a.1) (by rw[a.2];omega)
  exact this
 ·have:=h.on _ h2 ((kd x.2.1 i).2.1,(kd x.2.1 i).1,(i:Int)) (by rw[Int.toNat_of_nonneg hk.2.2.1];exact b.1) (by rw[b.2];omega)
  exact this
theorem AP6(hK:KT n x.2.1){o:List Qw}(h:Rch n x.2.1 (fun w=>lf x.2.1 f (w.2.1,w.1,w.2.2)) x.2.2.2 o):Cl x.2.1 f (fun v=>!Sb o v):=fun i hi=>by
 have hk:=hK.at hi;have a:=wy1 hK hi;have b:=wy2 hK hi;simp only[Bool.not_eq_true',<-Bool.not_eq_true,AD9];refine⟨fun h1 h2 h3=>h2 ?_,fun h1 h2 h3=>h2 ?_⟩
 ·have:=h.on _ h3 ((kd x.2.1 i).2.1,(kd x.2.1 i).1,(i:Int)) (by rw[Int.toNat_of_nonneg hk.2.2.1];exact b.1) (by show 0<lf x.2.1 f ((kd x.2.1 i).1,(kd x.2.1 i).2.1,(i:Int));rw[a.2];omega)
  exact this
 ·have:=h.on _ h3 ((kd x.2.1 i).1,(kd x.2.1 i).2.1,(i:Int)) (by rw[Int.toNat_of_nonneg hk.1];exact a.1) (by show 0<lf x.2.1 f ((kd x.2.1 i).2.1,(kd x.2.1 i).1,(i:Int));rw[b.2];omega)
  exact this
theorem Cl.way(hK:KT n x.2.1){X:Nat->Bool}(h:Cl x.2.1 f X){u:Nat}{w:Qw}(hw:w∈G5 x.2.1 (u:Int))(hu:X u=true)(hl:0<lf x.2.1 f w):X w.2.1.toNat=true:=by
 obtain⟨i,hi,hc⟩:=ADi hK hw;have:=h i hi;rcases hc with⟨e1,rfl,e⟩|⟨e1,rfl,e⟩
 ·rw[e]at hl
  exact this.1 (by omega) (by rw[<-e1];exact hu)
 ·rw[e]at hl
  exact this.2 (by omega) (by rw[<-e1];exact hu)
theorem Cl.wayb(hK:KT n x.2.1){X:Nat->Bool}(h:Cl x.2.1 f X){u:Nat}{w:Qw}(hw:w∈G5 x.2.1 (u:Int))(hu:¬X u=true)(hl:0<lf x.2.1 f (w.2.1,w.1,w.2.2)):¬X w.2.1.toNat=true:=by
 have h1:=AKk hK.vk hw;obtain⟨x1,x2,x3,x4,x5,x6,x7,x8,x9⟩:=AFO hK.vk hw;intro hx;rw[<-Int.toNat_of_nonneg x4]at h1;have:=h.way hK (w:=(((w.2.1.toNat:Nat):Int),(u:Int),w.2.2)) h1 hx (by rw[Int.toNat_of_nonneg x4,<-x1];exact hl);exact hu this
structure Sd(x:ABF)(n:Nat)(f:List Int)(A B:Nat->Bool):Prop where
 la:∀v∈x.2.2.1,A v.toNat=true
 rb:∀v∈x.2.2.2,B v.toNat=true
 ab:∀v,A v=true->B v=false
 ca:Cl x.2.1 f A
 cb:Cl x.2.1 f fun v=>!B v
 am:∀X:Nat->Bool,Cl x.2.1 f X->(∀v∈x.2.2.1,X v.toNat=true)->∀v,A v=true->X v=true
 bm:∀X:Nat->Bool,Cl x.2.1 f X->(∀v∈x.2.2.2,X v.toNat=false)->∀v,B v=true->X v=false
theorem AS0(h:VN x n)(hf:Fl x n f){o1 o2:List Qw}(h1:Rch n x.2.1 (lf x.2.1 f) x.2.2.1 o1)(h2:Rch n x.2.1 (fun w=>lf x.2.1 f (w.2.1,w.1,w.2.2)) x.2.2.2 o2):Sd x n f (Sb o1) (Sb o2):=by
 have am:∀X:Nat->Bool,Cl x.2.1 f X->(∀v∈x.2.2.1,X v.toNat=true)->∀v,Sb o1 v=true->X v=true:=fun X hX hL v hv=>
  h1.ind h.vk (fun v=>X v=true) (fun v hm=>by have:=hL _ hm;rwa [Int.toNat_natCast]at this) (fun u w hu hw hg=>hX.way h.kt hw hu hg) v (AD9.1 hv)
 have bm:∀X:Nat->Bool,Cl x.2.1 f X->(∀v∈x.2.2.2,X v.toNat=false)->∀v,Sb o2 v=true->X v=false:=fun X hX hL v hv=>by
  have:=h2.ind h.vk (fun v=>¬X v=true) (fun v hm=>by have:=hL _ hm;rw[Int.toNat_natCast]at this;rw[this];simp) (fun u w hu hw hg=>hX.wayb h.kt hw hu hg) v (AD9.1 hv);simpa using this
 obtain⟨X,x1,x2,x3⟩:=hf.cut;refine⟨fun v hv=>AD9.2 (h1.from' v hv),fun v hv=>AD9.2 (h2.from' v hv),fun v hv=>?_,AP5 h.kt h1,AP6 h.kt h2,am,bm⟩;have a:=am X x3 x1 v hv;cases e:Sb o2 v with
 |false=>rfl
 |true=>have:=bm X x3 x2 v e;rw[a]at this;cases this
theorem AEV{c:Int}:∀(t:List Qw)(k:Nat)(o:List Int),k+t.length<=o.length->∃o',ACA c t k o=some o'/\o'.length=o.length/\∀v,gq o' v=if k<=v/\Sb t (v-k)=true then c else gq o v
 |[],k,o,_=>⟨o,rfl,rfl,fun v=>by rw[if_neg];rintro⟨_,h⟩;simp[Sb]at h⟩
 |x::t,k,o,hk=>by
  rw[List.length_cons]at hk;rw[ACA];have step:∀v,k+1<=v->Sb (x::t) (v-k)=Sb t (v-(k+1)):=fun v hv=>by
   unfold Sb;rw[show v-k=(v-(k+1))+1 by omega,List.getD_cons_succ]
  have here:Sb (x::t) (k-k)=!decide (x=ZW):=by unfold Sb;rw[Nat.sub_self,List.getD_cons_zero]
  by_cases d:x=ZW
  ·rw[if_neg (by simpa using d)]
   obtain⟨o',e1,e2,e3⟩:=AEV t (k+1) o (by omega) (c:=c);refine⟨o',e1,e2,fun v=>?_⟩;rw[e3 v];by_cases hv:k+1<=v
   ·rw[step v hv]
    by_cases hs:Sb t (v-(k+1))=true
    ·rw[if_pos ⟨hv,hs⟩,if_pos ⟨by omega,hs⟩]
    ·rw[if_neg (fun h=>hs h.2),if_neg (fun h=>hs h.2)]
   ·rw[if_neg (fun h=>hv h.1),if_neg]
    rintro⟨h1,h2⟩;have:v=k:=by omega
    subst this;rw[here]at h2;simp[d]at h2
  ·rw[if_pos (by simpa using d),AAu (by omega)]
   simp only[DJ,AU];obtain⟨o',e1,e2,e3⟩:=AEV t (k+1) (NG o (k:Int) c) (by rw[NG,List.length_set];omega) (c:=c);refine⟨o',e1,by rw[e2,NG,List.length_set],fun v=>?_⟩;rw[e3 v,NG,Int.toNat_natCast,zS (by omega)];by_cases hv:k+1<=v
   ·rw[step v hv]
    by_cases hs:Sb t (v-(k+1))=true
    ·rw[if_pos ⟨hv,hs⟩,if_pos ⟨by omega,hs⟩]
    ·rw[if_neg (fun h=>hs h.2),if_neg (show¬v=k by omega),if_neg (fun h=>hs h.2)]
   ·rw[if_neg (fun h=>hv h.1)]
    by_cases e:v=k
    ·subst e
     rw[if_pos rfl,if_pos ⟨Nat.le_refl _,by rw[here];simp[d]⟩]
    ·rw[if_neg e,if_neg]
     rintro⟨h1,_⟩;omega
def nm(X:Nat->Bool)(k:Nat):List Int:=((List.range k).filter X).map fun(v:Nat)=>(v:Int)
theorem AGQ(X:Nat->Bool)(k:Nat):nm X (k+1)=nm X k++if X k=true then[(k:Int)]else[]:=by
 unfold nm;rw[List.range_succ,List.filter_append,List.map_append]
 congr 1
 cases h:X k<;>simp[h]
theorem AF2(X:Nat->Bool)(k:Nat):(nm X k).length<=k:=by
 unfold nm;rw[List.length_map];have:=List.length_filter_le X (List.range k);rwa [List.length_range]at this
theorem AF3{X:Nat->Bool}{k:Nat}{v:Int}:v∈nm X k↔0<=v/\v<(k:Int)/\X v.toNat=true:=by
 unfold nm;rw[List.mem_map];constructor
 ·rintro⟨a,ha,rfl⟩
  obtain⟨h1,h2⟩:=List.mem_filter.1 ha;have:=List.mem_range.1 h1;exact⟨by omega,by omega,by simpa using h2⟩
 ·rintro⟨h1,h2,h3⟩
  exact⟨v.toNat,List.mem_filter.2 ⟨List.mem_range.2 (by omega),h3⟩,by omega⟩
theorem APP(X:Nat->Bool):∀k,(nm X k).Pairwise (·<·)
 |0=>List.Pairwise.nil
 |k+1=>by
  rw[AGQ];refine List.pairwise_append.2 ⟨APP X k,by split<;>simp,fun a ha b hb=>?_⟩;have:=AF3.1 ha;split at hb
  ·rw[List.mem_singleton.1 hb];exact this.2.1
  ·cases hb
theorem AIZ{o:List Qw}(ho:o.length=n)(hn:n<=1000):∀(t:List Qw)(k:Nat),t=o.drop k->k<=n->AEP t k (nm (Sb o) k)=some (nm (Sb o) n)
 |[],k,ht,hk=>by
  have:k=n:=by
   have:=congrArg List.length ht;rw[List.length_drop,List.length_nil]at this;omega
  subst this
  rfl
 |x::t,k,ht,hk=>by
  have hlt:k<o.length:=by
   have:=congrArg List.length ht;rw[List.length_drop,List.length_cons]at this;omega
  rw[List.drop_eq_getElem_cons hlt]at ht;have hx:x=o[k]:=(List.cons.inj ht).1;have ht2:=(List.cons.inj ht).2;have ih:=AIZ ho hn t (k+1) ht2 (by omega);have hs:Sb o k=!decide (x=ZW):=by unfold Sb;rw[hx];simp[hlt]
  have hln:=AF2 (Sb o) k;rw[AGQ,hs]at ih;rw[AEP];by_cases d:x=ZW
  ·rw[if_neg (by simpa using d)]
   rw[if_neg (by simp[d]),List.append_nil]at ih;exact ih
  ·rw[if_pos (by simpa using d),xA (by simp only[List.length_cons,List.length_nil];omega)]
   rw[if_pos (by simp[d])]at ih;exact ih
theorem AOe(hF:100000000000000<F)(h:VN x n):∃f A B k,Fl x n f/\Sd x n f A B/\ACO F x=some (f,0)/\ACf F x=some (k,0)/\k.length=n/\(∀v,v<n->gq k v=if B v=true then-1 else if A v=true then 1 else 0)/\ACg F x=some (nm A n,GR x n f,0):=by
 have hn:=h.n2;obtain⟨f,H,h1,h2,h3⟩:=AP4 hF h;obtain⟨o1,a1,a2⟩:=AOc (F:=F) (H:=H) (by omega) h h2.fb;obtain⟨o2,b1,b2⟩:=AOd (F:=F) (H:=H) (by omega) h h2.fb;obtain⟨k1,c1,c2,c3⟩:=AEV (c:=1) o1 0 (List.replicate n 0) (by rw[a2.len];simp);rw[List.length_replicate]at c2;obtain⟨k2,d1,d2,d3⟩:=AEV (c:=-1) o2 0 k1 (by rw[b2.len];omega);refine⟨f,Sb o1,Sb o2,k2,h2,AS0 h h2 a2 b2,h3,?_,by omega,fun v hv=>?_,?_⟩
 ·unfold ACf
  rw[h1];simp only[DJ,AU];rw[if_neg (by simp),h.nn,AJr (by omega)];simp only[AU];rw[a1];simp only[AU];rw[c1];simp only[AU];rw[b1];simp only[AU];rw[d1]
  rfl
 ·rw[d3 v,c3 v,ANT]
  simp only[Nat.zero_le,true_and,Nat.sub_zero]
 ·unfold ACg
  rw[h1];simp only[DJ,AU];rw[if_neg (by simp),h.nn,a1];simp only[AU];have:=AIZ a2.len (by omega) o1 0 rfl (by omega);rw[show nm (Sb o1) 0=[]from rfl]at this;rw[this];simp only[AU];rw[AOb (by omega) h h2.fb]
  rfl
end
end
section
section
variable {F n:Nat}{x:ABF}{f:List Int}
theorem AS1{o:List Bool}{i j:Nat}{b:Bool}(h:i<o.length):(o.set i b).getD j false=if j=i then b else o.getD j false:=by
 simp only[List.getD_eq_getElem?_getD,List.getElem?_set];by_cases c:i=j
 ·subst c;simp[h]
 ·simp[c,Ne.symm c]
theorem AJs{o:List Bool}{i:Int}(h0:0<=i)(h:i<(o.length:Int)):ix o i=some (o.getD i.toNat false):=by
 have hi:i.toNat<o.length:=by omega
 have:=AAb hi;rw[Int.toNat_of_nonneg h0]at this;rw[this];simp[hi]
theorem AIa:∀(l:List Int)(o:List Bool),(∀k∈l,0<=k/\k<(o.length:Int))->∃o',AFN l o=some o'/\o'.length=o.length/\∀v,o'.getD v false=(decide ((v:Int)∈l)||o.getD v false)
 |[],o,_=>⟨o,rfl,rfl,fun v=>by simp⟩
 |k::t,o,h=>by
  have hk:=h k List.mem_cons_self;obtain⟨o',e1,e2,e3⟩:=AIa t (NG o k true) fun j hj=>by rw[NG,List.length_set];exact h j (List.mem_cons_of_mem _ hj)
  refine⟨o',?_,by rw[e2,NG,List.length_set],fun v=>?_⟩
  ·rw[AFN,AJs hk.1 hk.2];exact e1
  ·rw[e3 v,NG,AS1 (by omega)]
   by_cases c:v=k.toNat
   ·have:(v:Int)=k:=by omega
    rw[if_pos c,this];simp
   ·have:¬(v:Int)=k:=by omega
    rw[if_neg c];simp[this]
theorem AP7(hK:KT n x.2.1)(X:Nat->Bool){i:Nat}(hi:i<=x.2.1.length):0<=cux x.2.1 X i/\cux x.2.1 X i<=1000000*(i:Int):=by
 unfold cux;constructor
 ·have h:sm (fun _=>0) i<=sm (fun i=>if X (kd x.2.1 i).1.toNat=X (kd x.2.1 i).2.1.toNat then 0 else(kd x.2.1 i).2.2) i:=ACh fun j hj=>by
   have:=hK.at (show j<x.2.1.length by omega);split<;>omega
  rwa [AC1]at h
 ·rw[<-AC2]
  exact ACh fun j hj=>by
   have:=hK.at (show j<x.2.1.length by omega);split<;>omega
theorem AF4(h:VN x n){X:Nat->Bool}{inn:List Bool}(hl:inn.length=n)(hX:∀v,v<n->inn.getD v false=X v):∀(t:List oG)(i:Nat)(o:List Int),t=x.2.1.drop i->i<=x.2.1.length->o.length<=i->
  ∃o',AEQ inn t i o (cux x.2.1 X i)=some (o',cux x.2.1 X x.2.1.length)
 |[],i,o,ht,hi,ho=>by
  have:i=x.2.1.length:=by
   have:=congrArg List.length ht;rw[List.length_drop,List.length_nil]at this;omega
  subst this;exact⟨o,rfl⟩
 |y::t,i,o,ht,hi,ho=>by
  have hK:=h.kt;have hlk:=h.lk;have hlt:i<x.2.1.length:=by
   have:=congrArg List.length ht;rw[List.length_drop,List.length_cons]at this;omega
  rw[List.drop_eq_getElem_cons hlt]at ht;have hy:y=kd x.2.1 i:=by rw[(List.cons.inj ht).1];simp[kd,hlt]
  have hk:=hK.at hlt;rw[<-hy]at hk;have hcb:=AP7 hK X hi;have hs:cux x.2.1 X (i+1)=cux x.2.1 X i+if X y.1.toNat=X y.2.1.toNat then 0 else y.2.2:=by rw[hy];rfl
  rw[AEQ,AJs hk.1 (by omega),AJs hk.2.2.1 (by omega),hX _ (by omega),hX _ (by omega)];simp only[DJ,AU];by_cases c:X y.1.toNat=X y.2.1.toNat
  ·rw[if_neg (by simpa using c)]
   rw[if_pos c]at hs;obtain⟨o',e⟩:=AF4 h hl hX t (i+1) o (List.cons.inj ht).2 (by omega) (by omega);rw[hs,Int.add_zero]at e;exact⟨o',e⟩
  ·rw[if_pos (by simpa using c),xA (by simp only[List.length_cons,List.length_nil];omega)]
   simp only[AU];rw[if_neg c]at hs;rw[Dx (by omega),<-hs];exact AF4 h hl hX t (i+1) _ (List.cons.inj ht).2 (by omega) (by simp only[List.length_append,List.length_cons,List.length_nil];omega)
theorem ARa(hF:1000000<F)(h:VN x n){X:Nat->Bool}(hL:∀v∈x.2.2.1,X v.toNat=true)(hR:∀v∈x.2.2.2,X v.toNat=false):∃o,AD7 F x (nm X n)=some (o,cux x.2.1 X x.2.1.length,0):=by
 have hn:=h.n2;have hel:=h.el;have her:=h.er;have hnl:=AF2 X n;unfold AD7;rw[AFy hF h];simp only[DJ,AU];rw[if_neg (by simp),h.nn,AFx hF (by simp) (fun l hl=>by
  rw[List.mem_singleton.1 hl];exact⟨by omega,APP X n,fun v hv=>by have:=AF3.1 hv;exact⟨this.1,this.2.1⟩⟩)]
 simp only[AU];have hm:mks 1 (n:Int) false=some (List.replicate n false):=by
  unfold mks;rw[if_pos ⟨by omega,by rw[Int.toNat_natCast];omega⟩,Int.toNat_natCast]
 rw[if_neg (by simp),hm];simp only[AU];obtain⟨inn,i1,i2,i3⟩:=AIa (nm X n) (List.replicate n false) fun k hk=>by
  have:=AF3.1 hk;rw[List.length_replicate];exact⟨this.1,this.2.1⟩
 rw[List.length_replicate]at i2;rw[i1];simp only[AU];have hX:∀v,v<n->inn.getD v false=X v:=fun v hv=>by
  have e0:(List.replicate n false).getD v false=false:=by
   rw[List.getD_eq_getElem?_getD,List.getElem?_replicate];split<;>rfl
  rw[i3 v,e0,Bool.or_false];cases hx:X v with
  |true=>exact decide_eq_true (AF3.2 ⟨by omega,by omega,by simpa using hx⟩)
  |false=>
   refine decide_eq_false fun hm=>?_;have:=(AF3.1 hm).2.2;rw[Int.toNat_natCast,hx]at this;cases this
 rw[AGO (p:=fun _=>false) (fun v hv=>by
  have b:=h.il v hv;unfold ACb;rw[AJs b.1 (by omega),hX _ (by omega),hL v hv]
  rfl) (by omega) (by omega)]
 simp only[AU];rw[if_neg (by simp),AGO (p:=fun _=>false) (fun v hv=>by
  have b:=h.ir v hv;unfold ACc;rw[AJs b.1 (by omega),hX _ (by omega),hR v hv]
  rfl) (by omega) (by omega)]
 simp only[AU];obtain⟨o,e⟩:=AF4 h i2 hX x.2.1 0 [] rfl (by omega) (by simp);rw[show cux x.2.1 X 0=0 from rfl]at e;rw[if_neg (by simp),e];exact⟨o,rfl⟩
theorem AKt{l:List Int}(hl:l.length<=1000):∀(m k:Nat),k<=l.length->l.length-k<m->AAU F l l m (k:Int)=some (.inr ())
 |0,k,_,h=>by omega
 |m+1,k,hk,hm=>by
  unfold AAU;by_cases c:k<l.length
  ·rw[if_pos (by simpa using c),AAb c]
   simp only[DJ,AU];rw[if_neg (by simp),ADS (by omega)];exact AKt hl m (k+1) (by omega) (by omega)
  ·rw[if_neg (by simpa using c)]
theorem AP8(hF:100000<F){l:List Int}(hl:l.length<=1000):ACa F l l=some true:=by
 unfold ACa;have h:=AKt (F:=F) hl F 0 (by omega) (by omega);rw[show((0:Nat):Int)=0 from rfl]at h;rw[if_neg (by simp),h]
 rfl
end
end
end Ng
end Go.Proofs.YtfmelbioccbdoaaGreat
end
section
namespace Go.Proofs.YtfmelbioccbdoaaGreat
namespace BF
abbrev Rl:=Int×Int×Int×Int
def NEV:Int:=1125899906842624
structure St where
 f:Int->Int
 b:Int->Option Rl
 r:Int->Nat
def up{α:Type}(g:Int->α)(i:Int)(v:α):Int->α:=fun t=>if t=i then v else g t
theorem vP{α:Type}{g:Int->α}{i:Int}{v:α}:up g i v i=v:=by simp[up]
theorem xE{α:Type}{g:Int->α}{i t:Int}{v:α}(h:t≠i):up g i v t=g t:=by simp[up,h]
def cnd(f:Int->Int)(p:Rl):Prop:=f p.2.1≠NEV/\f p.2.1+p.2.2.2<f p.2.2.1
instance {f:Int->Int}{p:Rl}:Decidable (cnd f p):=by unfold cnd;infer_instance
def rel(K:Nat)(s:St)(p:Rl):St:=if cnd s.f p then⟨up s.f p.2.2.1 (s.f p.2.1+p.2.2.2),up s.b p.2.2.1 (some p),up s.r p.2.2.1 K⟩else s
def pass(R:List Rl)(K:Nat)(s:St):St:=R.foldl (rel K) s
def start:St:=⟨fun _=>0,fun _=>none,fun _=>0⟩
inductive Back(b:Int->Option Rl):Int->Int->Int->Nat->Prop
 |one {v:Int} {p:Rl} (h:b v=some p):Back b v p.2.1 p.2.2.2 1
 |more {v u c:Int} {n:Nat} {p:Rl} (h:b v=some p) (k:Back b p.2.1 u c n):Back b v u (p.2.2.2+c) (n+1)
theorem Back.snoc{b:Int->Option Rl}{v u c:Int}{n:Nat}(h:Back b v u c n){p:Rl}(hp:b u=some p):Back b v p.2.1 (c+p.2.2.2) (n+1):=by
 induction h with
 |one h=>exact .more h (.one hp)
 |more h k ih=>
  have:=ih hp;rw[Int.add_assoc];exact .more h this
theorem Back.pos{b:Int->Option Rl}{v u c:Int}{n:Nat}(h:Back b v u c n):1<=n:=by cases h<;>omega
theorem Back.start{b:Int->Option Rl}{v u c:Int}{n:Nat}(h:Back b v u c n):∃p,b v=some p:=by cases h<;>exact⟨_,by assumption⟩
structure Inv(N:Int->Prop)(K:Nat)(done left:List Rl)(s:St):Prop where
 i1:∀v,s.b v=none↔s.r v=0
 i2:∀v p,s.b v=some p->p∈done++left/\p.2.2.1=v/\s.f p.2.1+p.2.2.2<=s.f v
 i3:∀v p,s.b v=some p->s.r v<=s.r p.2.1+1
 i4d:∀q∈done,s.r q.2.1+1<=K->s.f q.2.2.1<=s.f q.2.1+q.2.2.2
 i4l:∀q∈left,s.r q.2.1+2<=K->s.f q.2.2.1<=s.f q.2.1+q.2.2.2
 i5:∀v c n,Back s.b v v c n->c<0
 i6:∀v,s.r v<=K
 i7:∀v,s.f v<=0
theorem cyc{s:St}{p:Rl}(h:∀v q,s.b v=some q->s.f q.2.1+q.2.2.2<=s.f v)(hne:p.2.1≠p.2.2.1)(hc:cnd s.f p):
  ∀{v u c n},Back (up s.b p.2.2.1 (some p)) v u c n->
   up s.f p.2.2.1 (s.f p.2.1+p.2.2.2) u+c<up s.f p.2.2.1 (s.f p.2.1+p.2.2.2) v\/
   (up s.f p.2.2.1 (s.f p.2.1+p.2.2.2) u+c<=up s.f p.2.2.1 (s.f p.2.1+p.2.2.2) v/\u≠p.2.2.1/\(v≠p.2.2.1->Back s.b v u c n)):=by
 obtain⟨_,hlt⟩:=hc;intro v u c n hb
 induction hb with
 | @one v q hq=>
  by_cases hv:v=p.2.2.1
  ·subst hv
   rw[vP]at hq;cases hq;refine .inr ⟨?_,hne,fun h=>(h rfl).elim⟩;rw[vP,xE hne];exact Int.le_refl _
  ·rw[xE hv]at hq
   have h2:=h v q hq;rw[xE hv];by_cases hu:q.2.1=p.2.2.1
   ·left
    rw[hu,vP];rw[hu]at h2;omega
   ·right
    rw[xE hu];exact⟨h2,hu,fun _=>.one hq⟩
 | @more v u c n q hq k ih=>
  have step:up s.f p.2.2.1 (s.f p.2.1+p.2.2.2) q.2.1+q.2.2.2<up s.f p.2.2.1 (s.f p.2.1+p.2.2.2) v\/
    (up s.f p.2.2.1 (s.f p.2.1+p.2.2.2) q.2.1+q.2.2.2<=up s.f p.2.2.1 (s.f p.2.1+p.2.2.2) v/\q.2.1≠p.2.2.1):=by
   by_cases hv:v=p.2.2.1
   ·subst hv
    rw[vP]at hq;cases hq;right;rw[vP,xE hne];exact⟨Int.le_refl _,hne⟩
   ·rw[xE hv]at hq
    have h2:=h v q hq;rw[xE hv];by_cases hu:q.2.1=p.2.2.1
    ·left
     rw[hu,vP];rw[hu]at h2;omega
    ·right
     rw[xE hu];exact⟨h2,hu⟩
  rcases ih with ih|⟨ih1,ih2,ih3⟩
  ·left
   rcases step with h1|⟨h1,_⟩<;>omega
  ·rcases step with h1|⟨h1,h2⟩
   ·left;omega
   ·right
    refine⟨by omega,ih2,fun hv=>?_⟩;rw[xE hv]at hq;exact .more hq (ih3 h2)
theorem Inv.rel{N:Int->Prop}{K:Nat}{done left:List Rl}{s:St}{p:Rl}(hK:1<=K)(h:Inv N K done (p::left) s)(hne:p.2.1≠p.2.2.1):Inv N K (done++[p]) left (rel K s p):=by
 unfold BF.rel;by_cases hc:cnd s.f p
 ·rw[if_pos hc]
  have hc':=hc;obtain⟨_,hlt⟩:=hc';have hmono:∀v,up s.f p.2.2.1 (s.f p.2.1+p.2.2.2) v<=s.f v:=fun v=>by
   by_cases hv:v=p.2.2.1
   ·subst hv;rw[vP];omega
   ·rw[xE hv];exact Int.le_refl _
  have hr:K<=s.r p.2.1+1:=by
   rcases Nat.lt_or_ge (s.r p.2.1+1) K with h'|h'
   ·have:=h.i4l p (by simp) (by omega)
    omega
   ·exact h'
  refine⟨?_,?_,?_,?_,?_,?_,?_,?_⟩
  ·intro v
   by_cases hv:v=p.2.2.1
   ·subst hv;simp only[vP];constructor
    ·intro h;cases h
    ·intro h;omega
   ·simp only[xE hv];exact h.i1 v
  ·intro v q hq
   dsimp only at hq⊢;by_cases hv:v=p.2.2.1
   ·subst hv
    rw[vP]at hq;cases hq;refine⟨by simp,rfl,?_⟩;simp only[vP,xE hne];exact Int.le_refl _
   ·rw[xE hv]at hq
    obtain⟨h1,h2,h3⟩:=h.i2 v q hq;refine⟨by simp only[List.mem_append,List.mem_cons,List.not_mem_nil,or_false]at h1⊢;rcases h1 with h1|h1|h1<;>simp[h1],h2,?_⟩;simp only[xE hv];have:=hmono q.2.1;omega
  ·intro v q hq
   dsimp only at hq⊢;by_cases hv:v=p.2.2.1
   ·subst hv
    rw[vP]at hq;cases hq;simp only[vP,xE hne];exact hr
   ·rw[xE hv]at hq
    have h3:=h.i3 v q hq;simp only[xE hv];by_cases hu:q.2.1=p.2.2.1
    ·rw[hu,vP]
     have:=h.i6 v;omega
    ·rw[xE hu];exact h3
  ·intro q hq hrq
   dsimp only at hrq⊢;have hu:q.2.1≠p.2.2.1:=fun e=>by rw[e,vP]at hrq;omega
   simp only[xE hu]at hrq⊢;have:=hmono q.2.2.1;rcases List.mem_append.1 hq with hq|hq
   ·have:=h.i4d q hq hrq
    omega
   ·simp only[List.mem_singleton]at hq
    subst hq;rw[vP];exact Int.le_refl _
  ·intro q hq hrq
   dsimp only at hrq⊢;have hu:q.2.1≠p.2.2.1:=fun e=>by rw[e,vP]at hrq;omega
   simp only[xE hu]at hrq⊢;have:=hmono q.2.2.1;have:=h.i4l q (by simp[hq]) hrq;omega
  ·intro v c n hb
   dsimp only at hb;rcases cyc (fun v q hq=>(h.i2 v q hq).2.2) hne hc hb with h1|⟨h1,h2,h3⟩
   ·omega
   ·by_cases hv:v=p.2.2.1
    ·exact(h2 hv).elim
    ·exact h.i5 v c n (h3 hv)
  ·intro v
   by_cases hv:v=p.2.2.1
   ·subst hv;simp only[vP];exact Nat.le_refl _
   ·simp only[xE hv];exact h.i6 v
  ·intro v
   exact Int.le_trans (hmono v) (h.i7 v)
 ·rw[if_neg hc]
  have hle:s.f p.2.2.1<=s.f p.2.1+p.2.2.2:=by
   have h7:=h.i7 p.2.1;unfold cnd at hc;have:s.f p.2.1≠NEV:=by unfold NEV;omega
   simp only[not_and,Int.not_lt]at hc;exact hc this
  refine⟨h.i1,fun v q hq=>?_,h.i3,fun q hq hrq=>?_,fun q hq=>h.i4l q (by simp[hq]),h.i5,h.i6,h.i7⟩
  ·obtain⟨h1,h2,h3⟩:=h.i2 v q hq
   exact⟨by simp only[List.mem_append,List.mem_cons,List.not_mem_nil,or_false]at h1⊢;rcases h1 with h1|h1|h1<;>simp[h1],h2,h3⟩
  ·rcases List.mem_append.1 hq with hq|hq
   ·exact h.i4d q hq hrq
   ·simp only[List.mem_singleton]at hq
    subst hq;exact hle
theorem Inv.go{N:Int->Prop}{K:Nat}(hK:1<=K):∀(left done:List Rl)(s:St),(∀p∈left,p.2.1≠p.2.2.1)->Inv N K done left s->Inv N K (done++left) [] (left.foldl (BF.rel K) s)
 |[],done,s,_,h=>by simpa using h
 |p::left,done,s,hne,h=>by
  have h1:=h.rel hK (hne p (by simp));have:=Inv.go hK left (done++[p]) _ (fun q hq=>hne q (by simp[hq])) h1;simpa using this
theorem Inv.pass{N:Int->Prop}{K:Nat}{R:List Rl}{s:St}(hne:∀p∈R,p.2.1≠p.2.2.1)(h:Inv N K R [] s):Inv N (K+1) R [] (pass R (K+1) s):=by
 have h0:Inv N (K+1) [] R s:=⟨h.i1,by simpa using h.i2,h.i3,by simp,fun q hq hr=>h.i4d q hq (by omega),h.i5,fun v=>Nat.le_succ_of_le (h.i6 v),h.i7⟩;have:=Inv.go (by omega) R [] s hne h0;simpa[BF.pass]using this
theorem Inv.zero{N:Int->Prop}{R:List Rl}:Inv N 0 R [] start:=by
 refine⟨fun v=>by simp[start],fun v p h=>by simp[start]at h,fun v p h=>by simp[start]at h,fun q _ h=>by omega,by simp,fun v c n h=>?_,fun v=>by simp[start],fun v=>by simp[start]⟩;obtain⟨p,hp⟩:=h.start;simp[start]at hp
def passes(R:List Rl):Nat->St
 |0=>start
 |K+1=>pass R (K+1) (passes R K)
theorem Inv.passes{N:Int->Prop}{R:List Rl}(hne:∀p∈R,p.2.1≠p.2.2.1):∀K,Inv N K R [] (passes R K)
 |0=>Inv.zero
 |K+1=>(Inv.passes hne K).pass hne
theorem AIb{K:Nat}{v:Int}:∀(R:List Rl)(s:St),(R.foldl (rel K) s).r v≠K->(R.foldl (rel K) s).f v=s.f v/\(R.foldl (rel K) s).r v=s.r v/\(R.foldl (rel K) s).b v=s.b v
 |[],s,_=>⟨rfl,rfl,rfl⟩
 |p::R,s,h=>by
  simp only[List.foldl_cons]at h⊢;have ih:=AIb (K:=K) R (rel K s p) h;unfold rel at ih h⊢;by_cases hc:cnd s.f p
  ·simp only[if_pos hc]at ih h⊢
   by_cases hv:v=p.2.2.1
   ·subst hv
    simp only[vP]at ih;exact(h ih.2.1).elim
   ·simpa only[xE hv]using ih
  ·simp only[if_neg hc]at ih h⊢
   exact ih
theorem AH4{K:Nat}{v:Int}:∀(R:List Rl)(s:St),(R.foldl (rel K) s).f v<=s.f v/\(s.r v≠K->(R.foldl (rel K) s).r v=K->(R.foldl (rel K) s).f v<s.f v)
 |[],s=>⟨Int.le_refl _,fun h k=>(h k).elim⟩
 |p::R,s=>by
  simp only[List.foldl_cons];have ih:=AH4 (K:=K) (v:=v) R (rel K s p);unfold rel at ih⊢;by_cases hc:cnd s.f p
  ·simp only[if_pos hc]at ih⊢
   have hlt:=hc.2;by_cases hv:v=p.2.2.1
   ·subst hv
    simp only[vP]at ih;exact⟨by omega,fun _ _=>by omega⟩
   ·simpa only[xE hv]using ih
  ·simp only[if_neg hc]at ih⊢
   exact ih
end BF
end Go.Proofs.YtfmelbioccbdoaaGreat
end
section
namespace Go.Proofs.YtfmelbioccbdoaaGreat
open Go Go.Md Go.RowKit
open BF (Rl St Back Inv rel pass passes NEV)
def gA(X:Ar 21 Int)(t:Int):Int:=(ix X.l t).getD 0
theorem ixA{X:Ar 21 Int}{t:Int}(h0:0<=t)(h1:t<=20):ix X.l t=some (gA X t):=ALQ h0 h1
theorem AHf{X:Ar 21 Int}{i v t:Int}(i0:0<=i)(i1:i<=20)(t0:0<=t)(t1:t<=20):gA (vZ X i v) t=if t=i then v else gA X t:=by
 have hX:=X.h;unfold gA ix vZ;simp only[if_pos t0,List.getElem?_set];by_cases h:t=i
 ·subst h
  rw[if_pos rfl,if_pos (by omega),if_pos rfl]
  rfl
 ·rw[if_neg (by omega),if_neg h]
theorem AS2{X Y:Ar 21 Int}(h:∀t,0<=t->t<=20->gA X t=gA Y t):X=Y:=by
 obtain⟨a,ha⟩:=X;obtain⟨b,hb⟩:=Y
 congr 1
 apply List.ext_getElem (by omega);intro i h1 h2;have:=h i (by omega) (by omega);simpa[gA,ix,List.getElem?_eq_getElem h1,List.getElem?_eq_getElem h2]using this
theorem AOf{l:List (Int×Int)}{k v t:Int}:AAI 0 (xZ l k v) t=if t=k then v else AAI 0 l t:=by
 induction l with
 |nil=>
  simp only[xZ,AAI];by_cases h:t=k
  ·rw[if_pos h,if_pos h.symm]
  ·rw[if_neg h,if_neg (Ne.symm h)]
 |cons p l ih=>
  obtain⟨a,b⟩:=p;simp only[xZ];by_cases h:a=k
  ·subst h
   simp only[if_true,AAI];by_cases h2:t=a
   ·rw[if_pos h2,if_pos h2.symm]
   ·rw[if_neg h2,if_neg (Ne.symm h2),if_neg (Ne.symm h2)]
  ·simp only[if_neg h,AAI,ih]
   by_cases h2:a=t
   ·subst h2;rw[if_pos rfl,if_pos rfl,if_neg h]
   ·rw[if_neg h2,if_neg h2]
structure Rep(X:Ar 21 Int)(l:List (Int×Int))(s:St):Prop where
 f:∀t,0<=t->t<=20->gA X t=s.f t
 b:∀t p,s.b t=some p->AAI 0 l t=p.1
def Bd(c:Int)(s:St):Prop:=∀v,-c<=s.f v/\s.f v<=NEV
def OKr(T:Int)(r:Int×Int×Int):Prop:=0<=r.1/\r.1<=T/\0<=r.2.1/\r.2.1<=T/\r.1≠r.2.1/\-100000<=r.2.2/\r.2.2<=100000
theorem Rep.step{X:Ar 21 Int}{l:List (Int×Int)}{s:St}{K:Nat}{c T:Int}{p:Rl}(h:Rep X l s)(hb:Bd c s)(hc:c<=1152921504606846976)(hT:T<=20)(hp:OKr T p.2):
  Rep (AAg (X,l) p).1 (AAg (X,l) p).2 (rel K s p):=by
 obtain⟨h1,h2,h3,h4,h5,h6,h7⟩:=hp;have ea:(ix X.l p.2.1).getD 0=s.f p.2.1:=h.f _ h1 (by omega);have eb:(ix X.l p.2.2.1).getD 0=s.f p.2.2.1:=h.f _ h3 (by omega);have hf:=hb p.2.1;have hw:BH (s.f p.2.1+p.2.2.2)=s.f p.2.1+p.2.2.2:=Dx (by unfold NEV at hf;omega);unfold AAg rel;simp only[ea,eb,hw];by_cases hcn:BF.cnd s.f p
 ·have hcn':=hcn
  obtain⟨c1,c2⟩:=hcn';rw[if_pos hcn,if_pos (by unfold NEV at c1;simp[c1];omega)];refine⟨fun t t0 t1=>?_,fun t q hq=>?_⟩
  ·rw[AHf h3 (by omega) t0 t1]
   simp only[BF.up];split
   ·rfl
   ·exact h.f t t0 t1
  ·simp only[BF.up]at hq
   rw[AOf];split
   ·rename_i e
    rw[if_pos e]at hq;cases hq
    rfl
   ·rename_i e
    rw[if_neg e]at hq;exact h.b t q hq
 ·rw[if_neg hcn,if_neg]
  ·exact h
  ·unfold BF.cnd NEV at hcn
   simp only[Bool.and_eq_true,Bool.not_eq_true',decide_eq_false_iff_not,not_and];intro a1 a2;exact hcn ⟨a1,by omega⟩
theorem Bd.rel{c:Int}{s:St}{K:Nat}{p:Rl}(h:Bd c s)(hc:0<=c)(hm:-100000<=p.2.2.2):Bd (c+100000) (rel K s p):=by
 intro v;have h1:=h v;have h2:=h p.2.1;have h3:=h p.2.2.1;unfold BF.rel;by_cases hcn:BF.cnd s.f p
 ·rw[if_pos hcn]
  simp only[BF.up];have:=hcn.2;split<;>omega
 ·rw[if_neg hcn]
  omega
theorem Rep.fold{K:Nat}{T:Int}(hT:T<=20):∀(R:List Rl)(X:Ar 21 Int)(l:List (Int×Int))(s:St)(c:Int),(∀p∈R,OKr T p.2)->0<=c->c+100000*R.length<=1152921504606846976->Rep X l s->Bd c s->
  Rep (R.foldl AAg (X,l)).1 (R.foldl AAg (X,l)).2 (R.foldl (rel K) s)/\Bd (c+100000*R.length) (R.foldl (rel K) s)
 |[],X,l,s,c,_,_,_,h,hb=>⟨h,by simpa using hb⟩
 |p::R,X,l,s,c,hR,hc,hlen,h,hb=>by
  have hp:=hR p (by simp);simp only[List.foldl_cons];have e:(p::R).length=R.length+1:=rfl;have:=Rep.fold (K:=K) hT R (AAg (X,l) p).1 (AAg (X,l) p).2 (rel K s p) (c+100000) (fun q hq=>hR q (by simp[hq])) (by omega) (by rw[e]at hlen;omega) (h.step hb (by omega) hT hp) (hb.rel hc hp.2.2.2.2.2.1);rw[e];refine⟨this.1,?_⟩;have h2:=this.2;have:c+100000+100000*(R.length:Int)=c+100000*((R.length+1:Nat):Int):=by omega
  rwa [this]at h2
theorem ABr{x:Int×List (Int×Int×Int)}(h:DY x=0):∀r∈XB x,OKr x.1 r:=by
 obtain⟨_,h2,h3,h4⟩:=qg h;intro r hr;rcases List.mem_append.1 hr with hr|hr
 ·have:=h4 r hr
  simp only[AAL,yR,Bool.and_eq_true,decide_eq_true_eq,Bool.not_eq_true',decide_eq_false_iff_not]at this;obtain⟨⟨⟨⟨a,b⟩,c,d⟩,e⟩,f,g⟩:=this;exact⟨a,b,c,d,e,f,g⟩
 ·obtain⟨t,ht,hr⟩:=List.mem_flatMap.1 hr
  have ht:=List.mem_range.1 ht;simp only[List.mem_cons,List.not_mem_nil,or_false]at hr;rcases hr with rfl|rfl
  ·unfold OKr;simp only;omega
  ·unfold OKr;simp only;omega
theorem AF5{l:List (Int×Int×Int)}{p:Rl}(h:p∈en l):p.2∈l/\ix l p.1=some p.2/\0<=p.1/\p.1<l.length:=by
 obtain⟨i,hi,e⟩:=List.getElem_of_mem h;rw[AG2]at hi;have h1:(en l)[i]?=some p:=by rw[<-e];exact List.getElem?_eq_getElem _
 rw[AFd,List.getElem?_eq_getElem hi]at h1;simp only[Option.map_some,Option.some.injEq]at h1;subst h1;exact⟨List.getElem_mem hi,AAb hi,by simp,by simpa using hi⟩
def Rs(x:Int×List (Int×Int×Int)):List Rl:=en (XB x)
theorem AEW{x:Int×List (Int×Int×Int)}(h:DY x=0):∀p∈Rs x,OKr x.1 p.2:=fun p hp=>ABr h _ (AF5 hp).1
theorem ARb{x:Int×List (Int×Int×Int)}(h:DY x=0):(Rs x).length<=100:=by
 unfold Rs;rw[AG2];exact ANO h
theorem APQ{x:Int×List (Int×Int×Int)}(h:DY x=0):∀p∈Rs x,p.2.1≠p.2.2.1:=fun p hp=>(AEW h p hp).2.2.2.2.1
def Pot(x:Int×List (Int×Int×Int)):Prop:=∃p:Int->Int,∀r∈XB x,p r.2.1<=p r.1+r.2.2
theorem AP9{x:Int×List (Int×Int×Int)}(h:DY x=0)(X:Ar 21 Int)(l:List (Int×Int)):
  yw (XB x) X l=some (((Rs x).foldl AAg (X,l)).1,((Rs x).foldl AAg (X,l)).2,!decide (((Rs x).foldl AAg (X,l)).1=X)):=by
 unfold yw;rw[if_pos]
 ·rfl
 ·obtain⟨_,_,h3,_⟩:=qg h
  refine List.all_eq_true.2 fun r hr=>?_;obtain⟨a,b,c,d,_⟩:=ABr h r hr;simp only[tR,Bool.and_eq_true,decide_eq_true_eq];omega
theorem AGr{x:Int×List (Int×Int×Int)}(h:DY x=0){X:Ar 21 Int}{l:List (Int×Int)}{s:St}{K:Nat}{c:Int}(hr:Rep X l s)(hb:Bd c s)(hc:0<=c)(hc2:c<=1000000000000):
  ∃X' l' m,yw (XB x) X l=some (X',l',m)/\Rep X' l' (pass (Rs x) K s)/\Bd (c+10000000) (pass (Rs x) K s)/\(m=false↔∀t,0<=t->t<=20->(pass (Rs x) K s).f t=s.f t):=by
 obtain⟨_,_,h3,_⟩:=qg h;have hlen:=ARb h;have:=Rep.fold (K:=K) h3 (Rs x) X l s c (AEW h) hc (by omega) hr hb;refine⟨_,_,_,AP9 h X l,this.1,fun v=>?_,?_⟩
 ·have:=this.2 v
  unfold pass;omega
 ·simp only[Bool.not_eq_false',decide_eq_true_eq]
  constructor
  ·intro e t t0 t1
   have h1:=this.1.f t t0 t1;rw[e,hr.f t t0 t1]at h1;exact h1.symm
  ·intro e
   exact AS2 fun t t0 t1=>by rw[this.1.f t t0 t1,hr.f t t0 t1];exact e t t0 t1
theorem AGs{K:Nat}:∀(R:List Rl)(s:St),(∀p∈R,0<=p.2.2.1/\p.2.2.1<=20)->(∀v,0<=v->v<=20->(R.foldl (rel K) s).f v=s.f v)->∀p∈R,¬BF.cnd s.f p
 |[],_,_,_,p,hp=>by simp at hp
 |q::R,s,hR,hf,p,hp=>by
  simp only[List.foldl_cons]at hf;by_cases hc:BF.cnd s.f q
  ·exfalso
   obtain⟨q0,q1⟩:=hR q (by simp);have h1:=hf _ q0 q1;have h2:=(BF.AH4 (K:=K) (v:=q.2.2.1) R (rel K s q)).1;have h3:(rel K s q).f q.2.2.1<s.f q.2.2.1:=by
    unfold rel;rw[if_pos hc];simp only[BF.vP];exact hc.2
   omega
  ·have e:rel K s q=s:=by unfold rel;rw[if_neg hc]
   rw[e]at hf;rcases List.mem_cons.1 hp with rfl|hp
   ·exact hc
   ·exact AGs R s (fun r hr=>hR r (by simp[hr])) hf p hp
theorem AKw{x:Int×List (Int×Int×Int)}(h:DY x=0){s:St}{K:Nat}(hneg:∀v,s.f v<=0)(hf:∀t,0<=t->t<=20->(pass (Rs x) K s).f t=s.f t):Pot x:=by
 obtain⟨_,_,h3,_⟩:=qg h;refine⟨s.f,fun r hr=>?_⟩;obtain⟨i,hi,e⟩:=List.getElem_of_mem hr;have hm:((i:Int),r)∈Rs x:=by
  have:(en (XB x))[i]?=some ((i:Int),r):=by rw[AFd,List.getElem?_eq_getElem hi,e];rfl
  exact List.mem_of_getElem? this
 have:=AGs (Rs x) s (fun p hp=>by have:=AEW h p hp;exact⟨this.2.2.1,by have:=this.2.2.2.1;omega⟩) hf _ hm;unfold BF.cnd at this;have hn:=hneg r.1;simp only[not_and,Int.not_lt]at this;exact this (by unfold NEV;omega)
theorem AOg{x:Int×List (Int×Int×Int)}{s:St}{K:Nat}{N:Int->Prop}(hI:Inv N K (Rs x) [] s){p:Int->Int}(hp:∀r∈XB x,p r.2.1<=p r.1+r.2.2){v u c:Int}{n:Nat}(hb:Back s.b v u c n):p v<=p u+c:=by
 induction hb with
 | @one v q hq=>
  obtain⟨h1,h2,_⟩:=hI.i2 v q hq;have h1':q∈Rs x:=by simpa using h1
  have:=hp _ (AF5 h1').1;rw[h2]at this;exact this
 | @more v u c n q hq _ ih=>
  obtain⟨h1,h2,_⟩:=hI.i2 v q hq;have h1':q∈Rs x:=by simpa using h1
  have:=hp _ (AF5 h1').1;rw[h2]at this;omega
theorem ARc{x:Int×List (Int×Int×Int)}{s:St}{K:Nat}{N:Int->Prop}(hI:Inv N K (Rs x) [] s){v c:Int}{n:Nat}(hb:Back s.b v v c n):¬Pot x:=by
 rintro⟨p,hp⟩;have h1:=AOg hI hp hb;have h2:=hI.i5 v c n hb;omega
theorem ACP:∀(N:Nat)(M:List Int),M.Nodup->(∀w∈M,0<=w/\w<N)->M.length<=N
 |0,M,_,h=>by
  cases M with
  |nil=>simp
  |cons a M=>have:=h a (by simp);omega
 |N+1,M,hn,h=>by
  have h1:=ACP N (M.filter fun w=>!decide (w=(N:Int))) (hn.filter _) (fun w hw=>by
   simp only[List.mem_filter,Bool.not_eq_true',decide_eq_false_iff_not]at hw;have:=h w hw.1;omega)
  have h2:M.length<=(M.filter fun w=>!decide (w=(N:Int))).length+1:=by
   clear h h1
   induction M with
   |nil=>simp
   |cons a M ih=>
    simp only[List.nodup_cons]at hn;by_cases ha:a=(N:Int)
    ·have e:(M.filter fun w=>!decide (w=(N:Int)))=M:=by
      refine List.filter_eq_self.2 fun w hw=>?_;simp only[Bool.not_eq_true',decide_eq_false_iff_not];rintro rfl;exact hn.1 (ha▸hw)
     rw[List.filter_cons,ha,if_neg (by simp),e];exact Nat.le_refl _
    ·rw[List.filter_cons,if_pos (by simp[ha]),List.length_cons,List.length_cons]
     have:=ih hn.2;omega
  omega
theorem APR{x:Int×List (Int×Int×Int)}(hx:DY x=0){s:St}{K:Nat}{N:Int->Prop}(hI:Inv N K (Rs x) [] s):∀(d:Nat)(M:List Int)(u:Int),M.Nodup->(∀w∈M,0<=w/\w<=x.1)->0<=u->u<=x.1->
  (∀w∈M,∃c n,Back s.b w u c n/\n<=M.length)->x.1+1<=s.r u+M.length->x.1+1-M.length<d->∃w c n,Back s.b w w c n
 |0,M,u,hn,hM,u0,u1,_,_,hd=>by
  have:=ACP (x.1+1).toNat M hn (fun w hw=>by have:=hM w hw;omega);omega
 |d+1,M,u,hn,hM,u0,u1,hB,hr,hd=>by
  by_cases hu:u∈M
  ·obtain⟨c,n,h1,_⟩:=hB u hu
   exact⟨u,c,n,h1⟩
  ·have hn':(u::M).Nodup:=by simp[hn,hu]
   have hM':∀w∈u::M,0<=w/\w<=x.1:=fun w hw=>by
    rcases List.mem_cons.1 hw with rfl|hw
    ·exact⟨u0,u1⟩
    ·exact hM w hw
   have hl:=ACP (x.1+1).toNat (u::M) hn' (fun w hw=>by have:=hM' w hw;omega);simp only[List.length_cons]at hl;have hb:s.b u≠none:=fun e=>by have:=(hI.i1 u).1 e;omega
   obtain⟨p,hp⟩:=Option.ne_none_iff_exists'.1 hb;obtain⟨h1,h2,h3⟩:=hI.i2 u p hp;have hok:=AEW hx p (by simpa using h1);have h4:=hI.i3 u p hp;refine APR hx hI d (u::M) p.2.1 hn' hM' hok.1 hok.2.1 (fun w hw=>?_) (by simp only[List.length_cons];omega) (by simp only[List.length_cons];omega);rcases List.mem_cons.1 hw with rfl|hw
   ·exact⟨_,1,.one hp,by simp⟩
   ·obtain⟨c,n,h5,h6⟩:=hB w hw
    exact⟨_,_,h5.snoc hp,by simp only[List.length_cons];omega⟩
theorem AJt{x:Int×List (Int×Int×Int)}(hx:DY x=0){s:St}{K:Nat}{N:Int->Prop}(hI:Inv N K (Rs x) [] s){v:Int}(v0:0<=v)(v1:v<=x.1)(hr:x.1+1<=s.r v):¬Pot x:=by
 obtain⟨w,c,n,h⟩:=APR hx hI ((x.1+1).toNat+1) [] v (by simp) (by simp) v0 v1 (by simp) (by simpa using hr) (by simp;omega);exact ARc hI h
def AEA(l:List Int)(i:Nat):List Int:=(List.range l.length).map fun t=>if t<i\/l.length-i<=t then l.getD (l.length-1-t) 0 else l.getD t 0
theorem AEB{l:List Int}{i:Nat}:(AEA l i).length=l.length:=by simp[AEA]
theorem AC4{l:List Int}{i t:Nat}(h:t<l.length):(AEA l i)[t]?=some (if t<i\/l.length-i<=t then l.getD (l.length-1-t) 0 else l.getD t 0):=by
 simp[AEA,List.getElem?_map,List.getElem?_range,h]
theorem ANU{l:List Int}:AEA l 0=l:=by
 apply List.ext_getElem?;intro t;by_cases h:t<l.length
 ·rw[AC4 h,if_neg (by omega),List.getElem?_eq_getElem h,List.getD_eq_getElem?_getD,List.getElem?_eq_getElem h]
  rfl
 ·rw[List.getElem?_eq_none (by rw[AEB];omega),List.getElem?_eq_none (by omega)]
theorem AOh{l:List Int}{i:Nat}(h:l.length<=2*i+1):AEA l i=l.reverse:=by
 apply List.ext_getElem?;intro t;by_cases ht:t<l.length
 ·rw[AC4 ht,List.getElem?_reverse ht]
  have h1:l.length-1-t<l.length:=by omega
  rw[List.getElem?_eq_getElem h1];split
  ·rw[List.getD_eq_getElem?_getD,List.getElem?_eq_getElem h1];rfl
  ·have:t=l.length-1-t:=by omega
   rw[List.getD_eq_getElem?_getD]
   conv=>lhs;rw[this]
   rw[List.getElem?_eq_getElem h1]
   rfl
 ·rw[List.getElem?_eq_none (by rw[AEB];omega),List.getElem?_eq_none (by simp;omega)]
theorem ANV{l:List Int}{i:Nat}(h:2*i+1<l.length):NG (NG (AEA l i) (i:Int) (l.getD (l.length-1-i) 0)) ((l.length:Int)-1-i) (l.getD i 0)=AEA l (i+1):=by
 have e:((l.length:Int)-1-i).toNat=l.length-1-i:=by omega
 unfold NG;apply List.ext_getElem?;intro t;rw[e,List.getElem?_set,List.getElem?_set,Int.toNat_natCast];simp only[List.length_set,AEB];by_cases ht:t<l.length
 ·rw[AC4 ht,AC4 ht]
  by_cases h1:l.length-1-i=t
  ·subst h1
   rw[if_pos rfl,if_pos ht,if_pos (by omega)]
   congr 2
   omega
  ·rw[if_neg h1]
   by_cases h2:i=t
   ·subst h2
    rw[if_pos rfl,if_pos (by omega),if_pos (by omega)]
   ·rw[if_neg h2]
    congr 1
    have:(t<i\/l.length-i<=t)↔(t<i+1\/l.length-(i+1)<=t):=by omega
    simp only[this]
 ·rw[if_neg (by omega),if_neg (by omega),List.getElem?_eq_none (by rw[AEB];omega),List.getElem?_eq_none (by rw[AEB];omega)]
theorem AHg{l:List Int}(hl:l.length<1000000):∀(m i:Nat),l.length<m+i->2*i<=l.length+1->yK m (AEA l i) (i:Int) ((l.length:Int)-1-i)=some l.reverse
 |0,i,h,h2=>by omega
 |m+1,i,h,h2=>by
  unfold yK;by_cases hi:2*i+1<l.length
  ·rw[if_pos (by simp;omega)]
   have e1:ix (AEA l i) ((l.length:Int)-1-i)=some (l.getD (l.length-1-i) 0):=by
    have:((l.length:Int)-1-i)=((l.length-1-i:Nat):Int):=by omega
    unfold ix;rw[if_pos (by omega),this,Int.toNat_natCast,AC4 (by omega),if_neg (by omega)]
   have e2:ix (AEA l i) (i:Int)=some (l.getD i 0):=by
    unfold ix;rw[if_pos (by omega),Int.toNat_natCast,AC4 (by omega),if_neg (by omega)]
   rw[e1,e2];simp only[DJ,AU];rw[ANV hi,Dx (by omega),Dx (by omega)];have:=AHg hl m (i+1) (by omega) (by omega);have e3:((l.length:Int)-1-(i:Int)-1)=(l.length:Int)-1-((i+1:Nat):Int):=by omega
   rw[e3];exact this
  ·rw[if_neg (by simp;omega),AOh (by omega)]
theorem AMM{F:Nat}{l:List Int}(hF:l.length<F)(hl:l.length<1000000):ABN F l=some l.reverse:=by
 unfold ABN;rw[Dx (by omega)];have:=AHg hl F 0 (by omega) (by omega);rw[ANU]at this;simpa using this
theorem AKx{v t:Int}(t0:0<=t)(t1:t<=20):gA (Ar.fill 21 v:Ar 21 Int) t=v:=by
 unfold gA ix;rw[if_pos t0];show((List.replicate 21 v)[t.toNat]?).getD 0=v;rw[List.getElem?_replicate,if_pos (by omega)]
 rfl
def nn(x:Int×List (Int×Int×Int)):Nat:=x.1.toNat+1
def Pn(x:Int×List (Int×Int×Int))(K:Nat):St:=passes (Rs x) K
theorem AHh{x:Int×List (Int×Int×Int)}(h:DY x=0)(K:Nat):Inv (fun _=>True) K (Rs x) [] (Pn x K):=Inv.passes (APQ h) K
theorem AIc{x:Int×List (Int×Int×Int)}(h:DY x=0):∀(m k:Nat)(X:Ar 21 Int)(l:List (Int×Int))(more:Bool),k<=nn x->nn x-k<m->Rep X l (Pn x k)->Bd (10000000*k) (Pn x k)->
  (1<=k->(more=false↔∀t,0<=t->t<=20->(Pn x k).f t=(Pn x (k-1)).f t))->
  ∃X' l' more',xI (XB x) (nn x:Int) m (k:Int) X l more=some (X',l',more')/\Rep X' l' (Pn x (nn x))/\Bd (10000000*(nn x:Int)) (Pn x (nn x))/\
   (more'=false↔∀t,0<=t->t<=20->(Pn x (nn x)).f t=(Pn x (nn x-1)).f t)
 |0,k,_,_,_,_,hm,_,_,_=>by omega
 |m+1,k,X,l,more,hk,hm,hr,hb,hmo=>by
  obtain⟨_,_,h3,_⟩:=qg h;unfold xI;by_cases hlt:k<nn x
  ·rw[if_pos (by simpa using hlt)]
   have hn:nn x<=21:=by unfold nn;omega
   obtain⟨X',l',m',e,h1,h2,h4⟩:=AGr (K:=k+1) h hr hb (by omega) (by omega);rw[e];simp only[DJ,AU];rw[Dx (by omega)];have h2':Bd (10000000*((k+1:Nat):Int)) (Pn x (k+1)):=by
    have:10000000*(k:Int)+10000000=10000000*((k+1:Nat):Int):=by omega
    rw[<-this];exact h2
   exact AIc h m (k+1) X' l' m' (by omega) (by omega) h1 h2' (fun _=>h4)
  ·have:k=nn x:=by omega
   subst this;rw[if_neg (by simp)];exact⟨X,l,more,rfl,hr,hb,hmo (by unfold nn;omega)⟩
theorem AId{X Y:Ar 21 Int}:∀(m k:Nat),k<=21->21-k<m->(∃t:Int,(k:Int)<=t/\t<=20/\gA X t≠gA Y t)->∃t,xJ X Y m (k:Int)=some t/\0<=t/\t<=20/\gA X t≠gA Y t
 |0,k,_,hm,_=>by omega
 |m+1,k,hk,hm,⟨t,t0,t1,ht⟩=>by
  unfold xJ;rw[if_pos (by simp;omega),ixA (X:=X) (by omega) (by omega),ixA (X:=Y) (by omega) (by omega)];simp only[DJ,AU];by_cases e:gA X (k:Int)=gA Y (k:Int)
  ·rw[if_neg (by simp[e]),Dx (by omega)]
   have:t≠k:=fun e2=>ht (by rw[e2];exact e);exact AId m (k+1) (by omega) (by omega) ⟨t,by omega,t1,ht⟩
  ·rw[if_pos (by simp[e])]
   exact⟨_,rfl,by omega,by omega,e⟩
theorem AKy{x:Int×List (Int×Int×Int)}(h:DY x=0){X:Ar 21 Int}{l:List (Int×Int)}{s:St}{K:Nat}{N:Int->Prop}(hI:Inv N K (Rs x) [] s)(hr:Rep X l s){u:Int}{p:Rl}(hp:s.b u=some p):
  ABv (XB x) l u=some (p.1,p.2.1)/\p∈Rs x/\p.2.2.1=u:=by
 obtain⟨h1,h2,_⟩:=hI.i2 u p hp;have h1':p∈Rs x:=by simpa using h1
 have hok:=AEW h p h1';obtain⟨_,_,h3,_⟩:=qg h;refine⟨?_,h1',h2⟩;unfold ABv;rw[if_pos (AMV (by have:=hok.2.2.1;omega) (by have:=hok.2.2.2.1;omega)),hr.b u p hp,(AF5 h1').2.1]
 rfl
theorem AIe{x:Int×List (Int×Int×Int)}(h:DY x=0){X:Ar 21 Int}{l:List (Int×Int)}{s:St}{K:Nat}{N:Int->Prop}(hI:Inv N K (Rs x) [] s)(hr:Rep X l s):∀(m:Nat)(M:List Int)(seen:Ar 21 Int)(u:Int),M.Nodup->(∀w∈M,0<=w/\w<=x.1)->0<=u->u<=x.1->
  (∀w∈M,∃c n,Back s.b w u c n/\n<=M.length)->x.1+1<=s.r u+M.length->x.1+1-M.length<m->(∀t,0<=t->t<=20->gA seen t=if t∈M then 1 else 0)->
  ∃e c n,xK (XB x) l m seen u=some e/\Back s.b e e c n/\(n:Int)<=x.1+1/\0<=e/\e<=x.1
 |0,M,seen,u,hn,hM,u0,u1,_,_,hd,_=>by
  have:=ACP (x.1+1).toNat M hn (fun w hw=>by have:=hM w hw;omega);omega
 |m+1,M,seen,u,hn,hM,u0,u1,hB,hst,hd,hs=>by
  obtain⟨_,_,h3,_⟩:=qg h;unfold xK;rw[ixA (X:=seen) u0 (by omega),hs u u0 (by omega)];simp only[DJ,AU];by_cases hu:u∈M
  ·rw[if_pos hu,if_neg (by decide)]
   obtain⟨c,n,h1,h2⟩:=hB u hu;have hl:=ACP (x.1+1).toNat M hn (fun w hw=>by have:=hM w hw;omega);exact⟨u,c,n,rfl,h1,by omega,u0,u1⟩
  ·rw[if_neg hu,if_pos (by decide)]
   have hn':(u::M).Nodup:=by simp[hn,hu]
   have hM':∀w∈u::M,0<=w/\w<=x.1:=fun w hw=>by
    rcases List.mem_cons.1 hw with rfl|hw
    ·exact⟨u0,u1⟩
    ·exact hM w hw
   have hl:=ACP (x.1+1).toNat (u::M) hn' (fun w hw=>by have:=hM' w hw;omega);simp only[List.length_cons]at hl;have hb:s.b u≠none:=fun e=>by have:=(hI.i1 u).1 e;omega
   obtain⟨p,hp⟩:=Option.ne_none_iff_exists'.1 hb;obtain⟨e1,e2,e3⟩:=AKy h hI hr hp;have hok:=AEW h p e2;have h4:=hI.i3 u p hp;rw[e1];simp only[AU];refine AIe h hI hr m (u::M) (vZ seen u 1) p.2.1 hn' hM' hok.1 hok.2.1 (fun w hw=>?_) (by simp only[List.length_cons];omega) (by simp only[List.length_cons];omega) (fun t t0 t1=>?_)
   ·rcases List.mem_cons.1 hw with rfl|hw
    ·exact⟨_,1,.one hp,by simp⟩
    ·obtain⟨c,n,h5,h6⟩:=hB w hw
     exact⟨_,_,h5.snoc hp,by simp only[List.length_cons];omega⟩
   ·rw[AHf u0 (by omega) t0 t1,hs t t0 t1]
    by_cases e:t=u
    ·subst e;simp
    ·simp[e]
def Lk:List Rl->Prop
 |[]=>True
 |[_]=>True
 |p::q::l=>p.2.2.1=q.2.1/\Lk (q::l)
def AGt(l:List Rl):Int:=(l.map fun p=>p.2.2.2).sum
structure Circ(x:Int×List (Int×Int×Int))(e:Int)(a:List Rl):Prop where
 lk:Lk a
 mem:∀p∈a,p∈Rs x
 hd:a.head?.map (fun p=>p.2.1)=some e
 tl:a.getLast?.map (fun p=>p.2.2.1)=some e
 neg:AGt a<0
 len:a.length<=21
theorem AIf{x:Int×List (Int×Int×Int)}(h:DY x=0){X:Ar 21 Int}{l:List (Int×Int)}{s:St}{K:Nat}{N:Int->Prop}(hI:Inv N K (Rs x) [] s)(hr:Rep X l s){e:Int}:∀(m k:Nat)(u:Int)(a:List Rl)(c:Int),
  Back s.b u e c k->k<=m->a.length+k<=21->
  ((a=[]/\u=e)\/(Back s.b e u (AGt a) a.length/\Lk a/\(∀p∈a,p∈Rs x)/\a.head?.map (fun p=>p.2.1)=some u/\a.getLast?.map (fun p=>p.2.2.1)=some e))->
  ∃a',xM (XB x) l e m u ((a.map (·.1)).reverse)=some ((a'.map (·.1)).reverse)/\Circ x e a'
 |0,k,u,a,c,hb,hk,_,_=>by have:=hb.pos;omega
 |m+1,k,u,a,c,hb,hk,hlen,ha=>by
  obtain⟨p,hp⟩:=hb.start;obtain⟨e1,e2,e3⟩:=AKy h hI hr hp;have acc:Back s.b e p.2.1 (AGt (p::a)) (p::a).length/\Lk (p::a)/\(∀q∈p::a,q∈Rs x)/\(p::a).head?.map (fun p=>p.2.1)=some p.2.1/\(p::a).getLast?.map (fun p=>p.2.2.1)=some e:=by
   rcases ha with⟨rfl,rfl⟩|⟨b1,b2,b3,b4,b5⟩
   ·refine⟨?_,trivial,by simpa using e2,rfl,by simpa using e3⟩
    have:=Back.one hp;simpa[AGt]using this
   ·cases a with
    |nil=>simp at b4
    |cons q a=>
     refine⟨?_,⟨?_,b2⟩,?_,rfl,?_⟩
     ·have:=b1.snoc hp
      have e:AGt (p::q::a)=AGt (q::a)+p.2.2.2:=by simp only[AGt,List.map_cons,List.sum_cons];omega
      rw[e];exact this
     ·simp only[List.head?_cons,Option.map_some,Option.some.injEq]at b4
      rw[e3,b4]
     ·intro r hr'
      rcases List.mem_cons.1 hr' with rfl|hr'
      ·exact e2
      ·exact b3 r hr'
     ·rw[List.getLast?_cons_cons];exact b5
  have hk1:=hb.pos;unfold xM;rw[e1];simp only[DJ,AU];rw[xA (by simp only[List.length_reverse,List.length_map,List.length_cons,List.length_nil];omega)];simp only[AU];have eo:(a.map (·.1)).reverse++[p.1]=((p::a).map (·.1)).reverse:=by simp
  rw[eo];by_cases he:p.2.1=e
  ·rw[if_pos (by simpa using he)]
   refine⟨p::a,rfl,acc.2.1,acc.2.2.1,by rw[acc.2.2.2.1,he],acc.2.2.2.2,?_,by simp only[List.length_cons];omega⟩;have:=acc.1;rw[he]at this;exact hI.i5 _ _ _ this
  ·rw[if_neg (by simpa using he)]
   cases hb with
   |one h'=>
    rw[hp]at h';cases h';exact(he rfl).elim
   |more h' k'=>
    rw[hp]at h';cases h';exact AIf h hI hr m _ p.2.1 (p::a) _ k' (by omega) (by simp only[List.length_cons];omega) (.inr acc)
theorem ANW{x:Int×List (Int×Int×Int)}(h:DY x=0){F:Nat}(hF:200<F):
  (AAB F ((x.1,x.2),XB x)=some []/\Pot x)\/(¬Pot x/\∃e a,AAB F ((x.1,x.2),XB x)=some (a.map (·.1))/\Circ x e a):=by
 obtain⟨_,h2,h3,_⟩:=qg h;have hn:((nn x:Nat):Int)=x.1+1:=by unfold nn;omega
 have h0:Rep (Ar.fill 21 0:Ar 21 Int) [] (Pn x 0):=by
  exact⟨fun t t0 t1=>AKx t0 t1,fun t p hp=>by simp[Pn,passes,BF.start]at hp⟩
 have hb0:Bd (10000000*((0:Nat):Int)) (Pn x 0):=fun v=>by simp[Pn,passes,BF.start,NEV]
 obtain⟨X1,l1,more,e1,r1,b1,m1⟩:=AIc h F 0 _ _ true (Nat.zero_le _) (by omega) h0 hb0 (fun h=>by omega);unfold AAB;simp only[Dx (show-9223372036854775808<=x.1+1/\x.1+1<=9223372036854775807 by omega)];rw[hn]at e1;rw[show((0:Nat):Int)=0 from rfl]at e1;rw[e1];simp only[DJ,AU];have hI1:=AHh h (nn x);cases hmore:more with
 |false=>
  left;refine⟨rfl,?_⟩;have hfix:=m1.1 hmore;have hn1:nn x=(nn x-1)+1:=by unfold nn;omega
  refine AKw (s:=Pn x (nn x-1)) (K:=nn x) h (AHh h (nn x-1)).i7 (fun t t0 t1=>?_);have:=hfix t t0 t1;rw[<-this]
  conv=>rhs;rw[hn1]
  show _=(passes (Rs x) (nn x-1+1)).f t;rw[passes,<-hn1]
  rfl
 |true=>
  right;rw[if_neg (by simp)];have hch:∃v,0<=v/\v<=20/\(Pn x (nn x)).f v≠(Pn x (nn x-1)).f v:=by
   apply Classical.byContradiction;intro hno;have:more=false:=m1.2 fun t t0 t1=>Classical.byContradiction fun hne=>hno ⟨t,t0,t1,hne⟩;rw[hmore]at this;cases this
  have hstamp:∀K v,(Pn x (K+1)).f v≠(Pn x K).f v->(Pn x (K+1)).r v=K+1:=fun K v hne=>
   Classical.byContradiction fun hr=>hne (BF.AIb (Rs x) (Pn x K) hr).1
  have hnode:∀K v,(Pn x K).r v≠0->0<=v/\v<=x.1:=fun K v hr=>by
   have hI:=AHh h K;have hb:(Pn x K).b v≠none:=fun e=>hr ((hI.i1 v).1 e);obtain⟨p,hp⟩:=Option.ne_none_iff_exists'.1 hb;obtain⟨h1,h2,_⟩:=hI.i2 v p hp;have hok:=AEW h p (by simpa using h1);rw[<-h2];exact⟨hok.2.2.1,hok.2.2.2.1⟩
  have hn1:nn x=(nn x-1)+1:=by unfold nn;omega
  obtain⟨v,v0,v1,hv⟩:=hch;have hrv:(Pn x (nn x)).r v=nn x:=by
   have:=hstamp (nn x-1) v (by rw[<-hn1];exact hv);rw[<-hn1]at this;exact this
  have hvn:=hnode (nn x) v (by rw[hrv];unfold nn;omega);have hnp:¬Pot x:=AJt h hI1 hvn.1 hvn.2 (by rw[hrv];omega);obtain⟨X2,l2,m2,e2,r2,b2,hm2⟩:=AGr (K:=nn x+1) h r1 b1 (by omega) (by omega);rw[e2];simp only[AU];have hI2:=AHh h (nn x+1);have r2':Rep X2 l2 (Pn x (nn x+1)):=r2;have hch2:∃t,((0:Nat):Int)<=t/\t<=20/\gA X2 t≠gA X1 t:=by
   apply Classical.byContradiction;intro hno;refine hnp (AKw (s:=Pn x (nn x)) (K:=nn x+1) h hI1.i7 fun t t0 t1=>?_);apply Classical.byContradiction;intro hne;refine hno ⟨t,by omega,t1,?_⟩;rw[r2.f t t0 t1,r1.f t t0 t1];exact hne
  obtain⟨t,e3,t0,t1,ht⟩:=AId (X:=X2) (Y:=X1) F 0 (by omega) (by omega) hch2;rw[show((0:Nat):Int)=0 from rfl]at e3;rw[e3];simp only[AU];have hrt:(Pn x (nn x+1)).r t=nn x+1:=hstamp (nn x) t (by
   intro e;apply ht;rw[r2.f t t0 t1,r1.f t t0 t1];exact e)
  have htn:=hnode (nn x+1) t (by rw[hrt];omega);obtain⟨e,c,n,e4,hb,hbn,he0,he1⟩:=AIe h hI2 r2' F [] (Ar.fill 21 0:Ar 21 Int) t (by simp) (by simp) htn.1 htn.2 (by simp) (by rw[hrt];simp;omega) (by simp;omega) (fun w w0 w1=>by
   rw[AKx w0 w1];simp)
  rw[e4];simp only[AU];obtain⟨a,e5,hc⟩:=AIf h hI2 r2' F n e [] c hb (by omega) (by simp;omega) (.inl ⟨rfl,rfl⟩);simp only[List.map_nil,List.reverse_nil]at e5;rw[e5];simp only[AU];have hl:=hc.len;rw[AMM (by simp;omega) (by simp;omega)];exact⟨hnp,e,a,by simp,hc⟩
end Go.Proofs.YtfmelbioccbdoaaGreat
end
section
namespace Go.Proofs.YtfmelbioccbdoaaGreat
open Go Go.Md Go.RowKit
section
abbrev RR:=Int×Int×Int
theorem AOi{k:Nat}(h:k<1000000):BH ((k:Int)+1)=((k+1:Nat):Int):=by
 rw[Dx (by omega)]
 rfl
section
variable {F:Nat}{all:List RR}{way:List Int}
section
variable {x:Int×List RR}
end
end
end
end Go.Proofs.YtfmelbioccbdoaaGreat
end
section
namespace Go.Proofs.YtfmelbioccbdoaaGreat
open Go Go.Md Go.RowKit
open BF (Rl St Back rel pass NEV)
inductive PC(R:List RR)(a:Int):Int->Int->Prop
 |nil:PC R a a 0
 |snoc {u c:Int} {r:RR} (h:PC R a u c) (hr:r∈R) (hu:r.1=u):PC R a r.2.1 (c+r.2.2)
theorem PC.trans{R:List RR}{a b t c d:Int}(h:PC R a b c)(k:PC R b t d):PC R a t (c+d):=by
 induction k with
 |nil=>simpa using h
 |snoc _ hr hu ih=>rw[<-Int.add_assoc];exact .snoc ih hr hu
theorem PC.one{R:List RR}{r:RR}(hr:r∈R):PC R r.1 r.2.1 r.2.2:=by
 have:=PC.snoc (PC.nil (R:=R) (a:=r.1)) hr rfl;simpa using this
theorem PC.pot{R:List RR}{p:Int->Int}(hp:∀r∈R,p r.2.1<=p r.1+r.2.2){a t c:Int}(h:PC R a t c):p t<=p a+c:=by
 induction h with
 |nil=>omega
 |snoc _ hr hu ih=>
  have:=hp _ hr;rw[hu]at this;omega
theorem PC.node{x:Int×List RR}(h:DY x=0){a t c:Int}(a0:0<=a)(a1:a<=x.1)(hp:PC (XB x) a t c):0<=t/\t<=x.1:=by
 cases hp with
 |nil=>exact⟨a0,a1⟩
 |snoc _ hr _=>exact⟨(ABr h _ hr).2.2.1,(ABr h _ hr).2.2.2.1⟩
theorem AEC{x:Int×List RR}{t:Int}(t0:1<=t)(t1:t<=x.1):(0,t,100000)∈XB x/\(t,0,0)∈XB x:=by
 have h:∀r,r=(0,t,(100000:Int))\/r=(t,0,0)->r∈XB x:=fun r hr=>by
  refine List.mem_append.2 (.inr (List.mem_flatMap.2 ⟨(t-1).toNat,List.mem_range.2 (by omega),?_⟩));have:(((t-1).toNat:Nat):Int)+1=t:=by omega
  simp only[this,List.mem_cons,List.not_mem_nil,or_false];exact hr
 exact⟨h _ (.inl rfl),h _ (.inr rfl)⟩
theorem PC.any{x:Int×List RR}{a t:Int}(a0:0<=a)(a1:a<=x.1)(t0:0<=t)(t1:t<=x.1):∃c,PC (XB x) a t c/\c<=100000:=by
 have h1:∃c,PC (XB x) a 0 c/\c<=0:=by
  by_cases h:a=0
  ·subst h;exact⟨0,.nil,by omega⟩
  ·exact⟨0,PC.one (r:=(a,0,0)) (AEC (by omega) a1).2,by omega⟩
 obtain⟨c,h2,h3⟩:=h1;by_cases h:t=0
 ·subst h;exact⟨c,h2,by omega⟩
 ·exact⟨c+100000,h2.trans (PC.one (r:=(0,t,100000)) (AEC (by omega) t1).1),by omega⟩
theorem PC.low{x:Int×List RR}(h:DY x=0)(hP:Pot x){a t c:Int}(a0:0<=a)(a1:a<=x.1)(hp:PC (XB x) a t c):-100000<=c:=by
 obtain⟨p,hpp⟩:=hP;obtain⟨t0,t1⟩:=hp.node h a0 a1;obtain⟨d,h1,h2⟩:=PC.any (x:=x) t0 t1 a0 a1;have:=(hp.trans h1).pot hpp;omega
theorem PC.loop{x:Int×List RR}(hP:Pot x){a c:Int}(hp:PC (XB x) a a c):0<=c:=by
 obtain⟨p,hpp⟩:=hP;have:=hp.pot hpp;omega
def Dist(x:Int×List RR)(a t d:Int):Prop:=PC (XB x) a t d/\∀c,PC (XB x) a t c->d<=c
theorem Dist.uni{x:Int×List RR}{a t d e:Int}(h:Dist x a t d)(k:Dist x a t e):d=e:=by
 have:=h.2 e k.1;have:=k.2 d h.1;omega
structure Jv(x:Int×List RR)(a:Int)(s:St):Prop where
 j1:∀v,s.f v=NEV\/PC (XB x) a v (s.f v)
 j2:∀v q,s.b v=some q->q∈Rs x/\q.2.2.1=v/\s.f q.2.1+q.2.2.2<=s.f v/\s.f q.2.1≠NEV
 j3:∀v c n,Back s.b v v c n->c<0
 j4:∀v,v≠a->s.f v≠NEV->s.b v≠none
 j5:s.f a<=0
 j6:∀v,s.f v<=NEV
theorem Jv.bd{x:Int×List RR}(h:DY x=0)(hP:Pot x){a:Int}(a0:0<=a)(a1:a<=x.1){s:St}(hj:Jv x a s):Bd 100000 s:=by
 intro v;rcases hj.j1 v with h1|h1
 ·rw[h1];unfold NEV;omega
 ·exact⟨h1.low h hP a0 a1,hj.j6 v⟩
theorem Jv.rel{x:Int×List RR}(h:DY x=0){a:Int}{s:St}{K:Nat}{p:Rl}(hp:p∈Rs x)(hj:Jv x a s):Jv x a (BF.rel K s p):=by
 unfold BF.rel;by_cases hc:BF.cnd s.f p
 ·rw[if_pos hc]
  have hne:=APQ h p hp;obtain⟨c1,c2⟩:=hc;have hpc:PC (XB x) a p.2.2.1 (s.f p.2.1+p.2.2.2):=by
   rcases hj.j1 p.2.1 with h1|h1
   ·exact(c1 h1).elim
   ·exact .snoc h1 (AF5 hp).1 rfl
  have hmono:∀v,BF.up s.f p.2.2.1 (s.f p.2.1+p.2.2.2) v<=s.f v:=fun v=>by
   by_cases hv:v=p.2.2.1
   ·subst hv;rw[BF.vP];omega
   ·rw[BF.xE hv];exact Int.le_refl _
  refine⟨fun v=>?_,fun v q hq=>?_,fun v c n hb=>?_,fun v hv hf=>?_,?_,fun v=>?_⟩
  ·dsimp only
   by_cases hv:v=p.2.2.1
   ·subst hv;rw[BF.vP];exact .inr hpc
   ·rw[BF.xE hv];exact hj.j1 v
  ·dsimp only at hq⊢
   by_cases hv:v=p.2.2.1
   ·subst hv
    rw[BF.vP]at hq;cases hq;rw[BF.vP,BF.xE hne];exact⟨hp,rfl,Int.le_refl _,c1⟩
   ·rw[BF.xE hv]at hq
    obtain⟨h1,h2,h3,h4⟩:=hj.j2 v q hq;rw[BF.xE hv];refine⟨h1,h2,by have:=hmono q.2.1;omega,?_⟩;by_cases hu:q.2.1=p.2.2.1
    ·rw[hu,BF.vP]
     have:=hj.j6 p.2.2.1;omega
    ·rw[BF.xE hu];exact h4
  ·dsimp only at hb
   rcases BF.cyc (fun v q hq=>(hj.j2 v q hq).2.2.1) hne ⟨c1,c2⟩ hb with h1|⟨_,h2,h3⟩
   ·omega
   ·by_cases hv:v=p.2.2.1
    ·exact(h2 hv).elim
    ·exact hj.j3 v c n (h3 hv)
  ·dsimp only at hf⊢
   by_cases hv2:v=p.2.2.1
   ·subst hv2;rw[BF.vP];simp
   ·rw[BF.xE hv2]at hf⊢
    exact hj.j4 v hv hf
  ·have:=hmono a
   have:=hj.j5;dsimp only;omega
  ·have:=hmono v
   have:=hj.j6 v;dsimp only;omega
 ·rw[if_neg hc]
  exact hj
theorem Jv.fold{x:Int×List RR}(h:DY x=0){a:Int}{K:Nat}:∀(R:List Rl)(s:St),(∀p∈R,p∈Rs x)->Jv x a s->Jv x a (R.foldl (BF.rel K) s)
 |[],_,_,hj=>hj
 |p::R,s,hR,hj=>Jv.fold h R _ (fun q hq=>hR q (by simp[hq])) (hj.rel h (hR p (by simp)))
theorem AIg{K:Nat}:∀(R:List Rl)(s:St),(∀p∈R,¬BF.cnd s.f p)->R.foldl (BF.rel K) s=s
 |[],_,_=>rfl
 |p::R,s,h=>by
  simp only[List.foldl_cons];have e:BF.rel K s p=s:=by unfold BF.rel;rw[if_neg (h p (by simp))]
  rw[e];exact AIg R s fun q hq=>h q (by simp[hq])
def mu(f:Int->Int):Nat->Nat
 |0=>0
 |n+1=>mu f n+(f (n:Int)+100000).toNat
theorem APS{f g:Int->Int}(h:∀v,f v<=g v):∀n,mu f n<=mu g n
 |0=>Nat.le_refl _
 |n+1=>by
  have:=APS h n;have:=h n;unfold mu;omega
theorem APT{f g:Int->Int}(h:∀v,f v<=g v)(hb:∀v,-100000<=f v):∀(n:Nat)(t:Int),0<=t->t<(n:Int)->f t<g t->mu f n<mu g n
 |0,t,t0,t1,_=>by omega
 |n+1,t,t0,t1,hlt=>by
  have h1:=APS h n;have h2:=h n;unfold mu;by_cases e:t=(n:Int)
  ·subst e
   have:=hb (n:Int);omega
  ·have:=APT h hb n t t0 (by omega) hlt
   omega
theorem ANX{f:Int->Int}(h:∀v,f v<=NEV):∀n,mu f n<=n*1125899906942624
 |0=>Nat.le_refl _
 |n+1=>by
  have:=ANX h n;have:=h n;unfold mu;unfold NEV at this;omega
structure FinS(x:Int×List RR)(a:Int)(X:Ar 21 Int)(l:List (Int×Int))(s:St):Prop where
 rep:Rep X l s
 jv:Jv x a s
 fix:∀p∈Rs x,¬BF.cnd s.f p
theorem AKz{x:Int×List RR}(h:DY x=0)(hP:Pot x){a:Int}(a0:0<=a)(a1:a<=x.1):∀(m:Nat)(X:Ar 21 Int)(l:List (Int×Int))(s:St),Rep X l s->Jv x a s->mu s.f 21<m->
  ∃X' l' s',yM (XB x) m X l=some (X',l')/\FinS x a X' l' s'
 |0,_,_,_,_,_,hm=>by omega
 |m+1,X,l,s,hr,hj,hm=>by
  have hb:=hj.bd h hP a0 a1;obtain⟨X',l',b,e,r1,_,hc⟩:=AGr (K:=1) h hr hb (by omega) (by omega);have hj':Jv x a (pass (Rs x) 1 s):=Jv.fold h (Rs x) s (fun p hp=>hp) hj;unfold yM;rw[e];simp only[DJ,AU];cases hbb:b with
  |false=>
   have hf:=AGs (Rs x) s (fun p hp=>by
    have:=AEW h p hp;obtain⟨_,_,h3,_⟩:=qg h;exact⟨this.2.2.1,by have:=this.2.2.2.1;omega⟩) (hc.1 hbb)
   have hs:pass (Rs x) 1 s=s:=AIg _ _ hf;rw[hs]at r1;exact⟨X',l',s,by simp,r1,hj,hf⟩
  |true=>
   rw[if_pos rfl];refine AKz h hP a0 a1 m X' l' _ r1 hj' ?_;have hle:∀v,(pass (Rs x) 1 s).f v<=s.f v:=fun v=>(BF.AH4 (K:=1) (Rs x) s).1;have hb':=hj'.bd h hP a0 a1;have:∃t:Int,0<=t/\t<((21:Nat):Int)/\(pass (Rs x) 1 s).f t<s.f t:=by
    apply Classical.byContradiction;intro hno;have:b=false:=hc.2 fun t t0 t1=>by
     have:=hle t;have h2:¬(pass (Rs x) 1 s).f t<s.f t:=fun hlt=>hno ⟨t,t0,by omega,hlt⟩;omega
    rw[hbb]at this;cases this
   obtain⟨t,t0,t1,ht⟩:=this;have:=APT hle (fun v=>(hb' v).1) 21 t t0 t1 ht;omega
theorem AK0{F:Nat}:∀(m k:Nat)(X:Ar 21 Int),k<=21->21-k<m->(∀t:Int,0<=t->t<(k:Int)->gA X t=NEV)->∃X',yL F m (k:Int) X=some X'/\∀t,0<=t->t<=20->gA X' t=NEV
 |0,k,_,_,hm,_=>by omega
 |m+1,k,X,hk,hm,hX=>by
  unfold yL;by_cases hlt:k<21
  ·rw[if_pos (by simp;omega),ixA (X:=X) (by omega) (by omega)]
   simp only[DJ,AU];rw[AOi (by omega)];refine AK0 m (k+1) _ (by omega) (by omega) fun t t0 t1=>?_;rw[AHf (by omega) (by omega) t0 (by omega)];split
   ·rfl
   ·exact hX t t0 (by omega)
  ·rw[if_neg (by simp;omega)]
   exact⟨X,rfl,fun t t0 t1=>hX t t0 (by omega)⟩
theorem AQA{x:Int×List RR}(h:DY x=0)(hP:Pot x){a:Int}(a0:0<=a)(a1:a<=x.1){F:Nat}(hF:100000000000000000<=F):
  ∃X l s,yD F ((x.1,x.2),XB x) a=some (X,l)/\FinS x a X l s:=by
 obtain⟨_,_,h3,_⟩:=qg h;obtain⟨Z,e1,hZ⟩:=AK0 (F:=F) F 0 (Ar.fill 21 0:Ar 21 Int) (by omega) (by omega) (fun t t0 t1=>by omega);rw[show((0:Nat):Int)=0 from rfl]at e1;unfold yD;rw[e1];simp only[DJ,AU];rw[ixA (X:=Z) a0 (by omega)];simp only[AU];have hr:Rep (vZ Z a 0) [] ⟨fun t=>if t=a then 0 else NEV,fun _=>none,fun _=>0⟩:=by
  refine⟨fun t t0 t1=>?_,fun t p hp=>by simp at hp⟩;rw[AHf a0 (by omega) t0 t1,hZ t t0 t1]
 have hj:Jv x a ⟨fun t=>if t=a then 0 else NEV,fun _=>none,fun _=>0⟩:=by
  refine⟨fun v=>?_,fun v q hq=>by simp at hq,fun v c n hb=>?_,fun v hv hf=>?_,by simp,fun v=>?_⟩
  ·dsimp only
   by_cases hv:v=a
   ·subst hv;rw[if_pos rfl];exact .inr .nil
   ·rw[if_neg hv];exact .inl rfl
  ·obtain⟨p,hp⟩:=hb.start
   simp at hp
  ·dsimp only at hf
   rw[if_neg hv]at hf;exact(hf rfl).elim
  ·dsimp only
   split
   ·unfold NEV;omega
   ·exact Int.le_refl _
 obtain⟨X',l',s',e2,hf⟩:=AKz h hP a0 a1 F _ _ _ hr hj (by
  have:=ANX hj.j6 21;omega)
 exact⟨X',l',s',e2,hf⟩
theorem FinS.le{x:Int×List RR}(h:DY x=0){a:Int}{X:Ar 21 Int}{l:List (Int×Int)}{s:St}(hf:FinS x a X l s)(a0:0<=a)(a1:a<=x.1){t c:Int}(hp:PC (XB x) a t c):s.f t<=c/\s.f t<NEV:=by
 have key:∀{u c:Int},PC (XB x) a u c->s.f u<NEV->∀r∈XB x,r.1=u->s.f r.2.1<=s.f u+r.2.2:=by
  intro u c _ hlt r hr hu;obtain⟨i,hi,e⟩:=List.getElem_of_mem hr;have hm:((i:Int),r)∈Rs x:=by
   have:(en (XB x))[i]?=some ((i:Int),r):=by rw[AFd,List.getElem?_eq_getElem hi,e];rfl
   exact List.mem_of_getElem? this
  have:=hf.fix _ hm;unfold BF.cnd at this;simp only[not_and,Int.not_lt]at this;rw[<-hu]at hlt⊢;exact this (by omega)
 have h5:=hf.jv.j5;have fin0:s.f 0<=0:=by
  by_cases e:a=0
  ·rw[e]at h5;exact h5
  ·have:=key (PC.nil) (by unfold NEV;omega) (a,0,0) (AEC (by omega) a1).2 rfl
   simp only at this;omega
 have fin:∀u,0<=u->u<=x.1->s.f u<NEV:=fun u u0 u1=>by
  by_cases e:u=0
  ·subst e;unfold NEV;omega
  ·obtain⟨c0,hc0,_⟩:=PC.any (x:=x) (a:=a) (t:=0) a0 a1 (by omega) (by omega)
   have:=key hc0 (by unfold NEV;omega) (0,u,100000) (AEC (by omega) u1).1 rfl;simp only at this;unfold NEV;omega
 have hn:=hp.node h a0 a1;refine⟨?_,fin t hn.1 hn.2⟩;clear hn
 induction hp with
 |nil=>exact h5
 | @snoc u c r hpu hr hu ih=>
  have hnu:=hpu.node h a0 a1;have:=key hpu (fin u hnu.1 hnu.2) r hr hu;omega
theorem FinS.dist{x:Int×List RR}(h:DY x=0){a:Int}{X:Ar 21 Int}{l:List (Int×Int)}{s:St}(hf:FinS x a X l s)(a0:0<=a)(a1:a<=x.1){t:Int}(t0:0<=t)(t1:t<=x.1):Dist x a t (gA X t)/\gA X t=s.f t:=by
 obtain⟨_,_,h3,_⟩:=qg h;obtain⟨c,hc,_⟩:=PC.any (x:=x) a0 a1 t0 t1;have h1:=hf.le h a0 a1 hc;have e:=hf.rep.f t t0 (by omega);rw[e];refine⟨⟨?_,fun c hc=>(hf.le h a0 a1 hc).1⟩,rfl⟩;rcases hf.jv.j1 t with h2|h2
 ·rw[h2]at h1;omega
 ·exact h2
end Go.Proofs.YtfmelbioccbdoaaGreat
end
section
namespace Go.Proofs.YtfmelbioccbdoaaGreat
open Go Go.Md Go.RowKit
open BF (Rl St Back rel pass NEV)
open Classical in
section
noncomputable def D(x:Int×List RR)(a t:Int):Int:=if h:∃d,Dist x a t d then Classical.choose h else 0
section
variable {x:Int×List RR}{a t u:Int}{F:Nat}
theorem AUZ{d:Int}(h:Dist x a t d):D x a t=d:=by
 unfold D;have he:∃d,Dist x a t d:=⟨d,h⟩;rw[dif_pos he];exact(Classical.choose_spec he).uni h
theorem AF6(h:DY x=0)(hP:Pot x)(a0:0<=a)(a1:a<=x.1)(hF:100000000000000000<=F):
  ∃X l s,yD F ((x.1,x.2),XB x) a=some (X,l)/\FinS x a X l s/\∀t,0<=t->t<=x.1->gA X t=D x a t/\ix X.l t=some (D x a t):=by
 obtain⟨_,_,h3,_⟩:=qg h;obtain⟨X,l,s,e,hf⟩:=AQA h hP a0 a1 hF;refine⟨X,l,s,e,hf,fun t t0 t1=>?_⟩;have:=AUZ (hf.dist h a0 a1 t0 t1).1;exact⟨this.symm,by rw[ixA (X:=X) t0 (by omega),this]⟩
theorem ACj(h:DY x=0)(hP:Pot x)(a0:0<=a)(a1:a<=x.1)(t0:0<=t)(t1:t<=x.1):Dist x a t (D x a t):=by
 obtain⟨X,l,s,e,hf,hD⟩:=AF6 (F:=100000000000000000) h hP a0 a1 (Nat.le_refl _);rw[<-(hD t t0 t1).1];exact(hf.dist h a0 a1 t0 t1).1
theorem AF7(h:DY x=0)(hP:Pot x)(a0:0<=a)(a1:a<=x.1)(t0:0<=t)(t1:t<=x.1):-100000<=D x a t/\D x a t<=100000:=by
 obtain⟨h1,h2⟩:=ACj h hP a0 a1 t0 t1;refine⟨h1.low h hP a0 a1,?_⟩;obtain⟨c,hc,hc2⟩:=PC.any (x:=x) a0 a1 t0 t1;have:=h2 c hc;omega
theorem ARd(h:DY x=0)(hP:Pot x)(a0:0<=a)(a1:a<=x.1){r:RR}(hr:r∈XB x):D x a r.2.1<=D x a r.1+r.2.2:=by
 have hok:=ABr h r hr;exact(ACj h hP a0 a1 hok.2.2.1 hok.2.2.2.1).2 _ (.snoc (ACj h hP a0 a1 hok.1 hok.2.1).1 hr rfl)
theorem AQB(h:DY x=0)(hP:Pot x)(a0:0<=a)(a1:a<=x.1){r:RR}(hr:r∈XB x):D x r.1 a<=r.2.2+D x r.2.1 a:=by
 have hok:=ABr h r hr;exact(ACj h hP hok.1 hok.2.1 a0 a1).2 _ ((PC.one hr).trans (ACj h hP hok.2.2.1 hok.2.2.2.1 a0 a1).1)
theorem ARe(h:DY x=0)(hP:Pot x)(a0:0<=a)(a1:a<=x.1):D x a a=0:=by
 obtain⟨h1,h2⟩:=ACj h hP a0 a1 a0 a1;have:=h2 0 .nil;have:=h1.loop hP;omega
theorem AK1(h:DY x=0)(hF:1000<=F):(Pot x->AAh F x=some (⟨some ((x.1,x.2),XB x)⟩,0))/\(¬Pot x->AAh F x=some (⟨none⟩,21)):=by
 obtain⟨h1,h2,h3,_⟩:=qg h;unfold AAh;simp only[AFS (x:=(x.1,x.2)) (show 100<F by omega),DJ,AU];have e:DY (x.1,x.2)=DY x:=rfl;rw[e,if_neg (by simp[h]),ANN (x:=(x.1,x.2)) (by omega) (by simp;omega) h3 h1];have ew:XB (x.1,x.2)=XB x:=rfl;rw[ew];simp only[AU];rcases ANW h (F:=F) (by omega)with⟨e1,hp⟩|⟨hn,e0,a,e1,hc⟩
 ·rw[e1]
  simp only[AU];exact⟨fun _=>by rw[if_neg (by simp)],fun h=>(h hp).elim⟩
 ·rw[e1]
  simp only[AU];refine⟨fun h=>(hn h).elim,fun _=>?_⟩;rw[if_pos];cases a with
  |nil=>have:=hc.hd;simp at this
  |cons p a=>simp
noncomputable def AH5(x:Int×List RR)(high:Bool)(k:Nat):Int:=if high=true then D x 0 ((k:Int)+1)else-D x ((k:Int)+1) 0
noncomputable def ABk(x:Int×List RR)(high:Bool):List Int:=(List.range x.1.toNat).map (AH5 x high)
theorem AK2{y:Int->Option Int}{g:Nat->Int}{N:Nat}(hN:x.1=N)(h20:N<=20)(hy:∀k:Nat,k<N->y ((k:Int)+1)=some (g k)):∀(m k:Nat),k<=N->N-k<m->
  zi F x y m ((List.range k).map g) (k:Int)=some ((List.range N).map g)
 |0,k,_,h=>by omega
 |m+1,k,hk,h=>by
  unfold zi;by_cases hlt:k<N
  ·rw[if_pos (by simp;omega),Dx (by omega),hy k hlt]
   simp only[DJ,AU];rw[xA (by simp only[List.length_map,List.length_range,List.length_cons,List.length_nil];omega)];simp only[AU];have e:(List.range k).map g++[g k]=(List.range (k+1)).map g:=by simp[List.range_succ]
   rw[e];exact AK2 hN h20 hy m (k+1) (by omega) (by omega)
  ·have:k=N:=by omega
   subst this;rw[if_neg (by simp;omega)]
theorem AK3(h:DY x=0)(hF:100000000000000000<=F)(high:Bool):(Pot x->ABS F x high=some (ABk x high,0))/\(¬Pot x->ABS F x high=some ([],21)):=by
 obtain⟨h1,h2,h3,_⟩:=qg h;obtain⟨o1,o2⟩:=AK1 h (F:=F) (by omega);unfold ABS;refine⟨fun hP=>?_,fun hP=>?_⟩
 ·rw[show AAh F (x.1,x.2)=_ from o1 hP]
  simp only[DJ,AU];obtain⟨X,l,s,e,hf,hD⟩:=AF6 h hP (a:=0) (by omega) (by omega) hF;rw[if_neg (by simp),e];simp only[AU];have key:∀y:Int->Option Int,(∀k:Nat,k<x.1.toNat->y ((k:Int)+1)=some (AH5 x high k))->(zi F x y F [] 0).bind (fun z1=>some (z1,(0:Int)))=some (ABk x high,0):=by
   intro y hy;have:=AK2 (F:=F) (x:=x) (N:=x.1.toNat) (by omega) (by omega) hy F 0 (Nat.zero_le _) (by omega);simp only[List.range_zero,List.map_nil,Int.natCast_zero]at this;rw[this]
   rfl
  cases hh:high with
  |true=>
   rw[<-hh];rw[if_neg (by simp[hh])];simp only[AU];refine key _ fun k hk=>?_;unfold ACU AH5;rw[(hD ((k:Int)+1) (by omega) (by omega)).2,if_pos hh]
   rfl
  |false=>
   rw[<-hh];rw[if_pos (by simp[hh])];simp only[AU];refine key _ fun k hk=>?_;obtain⟨Y,l',s',e',hf',hD'⟩:=AF6 h hP (a:=(k:Int)+1) (by omega) (by omega) hF;unfold ACV AH5;simp only[DJ,AU];rw[e'];simp only[AU];have hb:=AF7 h hP (a:=(k:Int)+1) (t:=0) (by omega) (by omega) (by omega) (by omega);rw[(hD' 0 (by omega) (by omega)).2,if_neg (by simp[hh])];simp only[AU];rw[Dx (by omega)]
   congr 1
   omega
 ·rw[show AAh F (x.1,x.2)=_ from o2 hP]
  simp only[DJ,AU];rw[if_pos (by simp)]
theorem AF8{high:Bool}:(ABk x high).length=x.1.toNat:=by simp[ABk]
theorem AC6{high:Bool}(h:DY x=0)(hP:Pot x)(t0:0<=t)(t1:t<=x.1):ofS (ABk x high) t=if high=true then D x 0 t else-D x t 0:=by
 obtain⟨h1,h2,h3,_⟩:=qg h;unfold ofS;by_cases e:t=0
 ·subst e
  rw[if_pos rfl,ARe h hP (by omega) (by omega)];cases high<;>rfl
 ·rw[if_neg e]
  have e2:t-1=((t-1).toNat:Int):=by omega
  have hl:(t-1).toNat<(ABk x high).length:=by rw[AF8];omega
  rw[e2,AAb hl];have e3:(((t-1).toNat:Nat):Int)+1=t:=by omega
  simp only[ABk,List.getElem_map,List.getElem_range,AH5,e3,Option.getD_some]
theorem AF9(h:DY x=0)(hP:Pot x)(high:Bool):AAO x (ABk x high)=0:=by
 obtain⟨h1,h2,h3,_⟩:=qg h;have hl:((ABk x high).length:Int)=x.1:=by rw[AF8];omega
 rw[cs3 h hl,if_pos,if_pos]
 ·refine List.all_eq_true.2 fun r hr=>?_
  have hw:r∈XB x:=List.mem_append.2 (.inl hr);have hok:=ABr h r hw;unfold zU;rw[AC6 h hP hok.2.2.1 hok.2.2.2.1,AC6 h hP hok.1 hok.2.1];have b1:=AF7 h hP (a:=0) (t:=r.1) (by omega) (by omega) hok.1 hok.2.1;have b2:=AF7 h hP (a:=r.1) (t:=0) hok.1 hok.2.1 (by omega) (by omega);have r1:=ARd h hP (a:=0) (by omega) (by omega) hw;have r2:=AQB h hP (a:=0) (by omega) (by omega) hw;obtain⟨_,_,_,_,_,m1,m2⟩:=hok;cases high with
  |true=>
   simp only[if_true];rw[Dx (by omega)];simpa using r1
  |false=>
   simp only[Bool.false_eq_true,if_false];rw[Dx (by omega)];simp only[decide_eq_true_eq];omega
 ·refine List.all_eq_true.2 fun v hv=>?_
  obtain⟨k,hk,rfl⟩:=List.mem_map.1 hv;have hk:=List.mem_range.1 hk;have b1:=AF7 h hP (a:=0) (t:=(k:Int)+1) (by omega) (by omega) (by omega) (by omega);have b2:=AF7 h hP (a:=(k:Int)+1) (t:=0) (by omega) (by omega) (by omega) (by omega);have z:=AEC (x:=x) (t:=(k:Int)+1) (by omega) (by omega);have t1:=(ACj h hP (a:=(k:Int)+1) (t:=0) (by omega) (by omega) (by omega) (by omega)).2 _ (PC.one z.2);have t2:0<=D x 0 ((k:Int)+1):=by
   have:=((ACj h hP (a:=0) (t:=(k:Int)+1) (by omega) (by omega) (by omega) (by omega)).1.trans (PC.one z.2)).loop hP;simp only at this;omega
  simp only at t1;unfold AH5 yR;simp only[Bool.and_eq_true,decide_eq_true_eq];cases high with
  |true=>simp only[if_true];omega
  |false=>simp only[Bool.false_eq_true,if_false];omega
theorem AGu{s:List Int}(hs:AAO x s=0):DY x=0/\(s.length:Int)=x.1/\(∀v∈s,0<=v/\v<=100000)/\∀r∈XB x,ofS s r.2.1<=ofS s r.1+r.2.2:=by
 by_cases h:DY x=0
 ·obtain⟨h1,h2,h3,h4⟩:=qg h
  by_cases h5:(s.length:Int)=x.1
  ·rw[cs3 h h5]at hs
   split at hs
   ·rename_i h6
    split at hs
    ·rename_i h7
     have hv:∀v∈s,0<=v/\v<=100000:=fun v hv=>by
      have:=List.all_eq_true.1 h6 v hv;simpa[yR]using this
     have ho:∀t,0<=t->t<=x.1->0<=ofS s t/\ofS s t<=100000:=fun t t0 t1=>by
      unfold ofS;by_cases e:t=0
      ·rw[if_pos e];omega
      ·rw[if_neg e]
       have e2:t-1=((t-1).toNat:Int):=by omega
       have hl:(t-1).toNat<s.length:=by omega
       rw[e2,AAb hl];exact hv _ (List.getElem_mem hl)
     refine⟨h,h5,hv,fun r hr=>?_⟩;have hok:=ABr h r hr;rcases List.mem_append.1 hr with hr2|hr2
     ·have:=List.all_eq_true.1 h7 r hr2
      unfold zU at this;have b1:=ho r.1 hok.1 hok.2.1;obtain⟨_,_,_,_,_,m1,m2⟩:=hok;rw[Dx (by omega)]at this;simpa using this
     ·obtain⟨t,ht,hr2⟩:=List.mem_flatMap.1 hr2
      have ht:=List.mem_range.1 ht;have b1:=ho ((t:Int)+1) (by omega) (by omega);have z:ofS s 0=0:=rfl;simp only[List.mem_cons,List.not_mem_nil,or_false]at hr2;rcases hr2 with rfl|rfl
      ·simp only[z];omega
      ·simp only[z];omega
    ·cases hs
   ·cases hs
  ·rw[cs2 h h5]at hs;cases hs
 ·rw[cs1 h]at hs;exact(h hs).elim
end
end
end Go.Proofs.YtfmelbioccbdoaaGreat
end
section
namespace Go.Proofs.YtfmelbioccbdoaaGreat
open Go Go.Md Go.RowKit
abbrev FF:Nat:=100000000000000000
end Go.Proofs.YtfmelbioccbdoaaGreat
end
section
namespace Go.Proofs.YtfmelbioccbdoaaGreat
namespace FW
section
def NV:Int:=1099511627776
abbrev Mx:=Int->Int->Int
def mm(c s:Int):Int:=if(if s<c then s else c)> -NV then(if s<c then s else c)else-NV
def nw(g:Mx)(h i k:Int):Int:=if g i h<NV/\g h k<NV then mm (g i k) (g i h+g h k)else g i k
def up1(h i k:Int)(g:Mx):Mx:=fun i' k'=>if i'=i/\k'=k then nw g h i k else g i' k'
def AMN(h i:Int)(ks:List Int)(g:Mx):Mx:=ks.foldl (fun g k=>up1 h i k g) g
def phF(h:Int)(ns is:List Int)(g:Mx):Mx:=is.foldl (fun g i=>AMN h i ns g) g
def fwF(ns hs:List Int)(g:Mx):Mx:=hs.foldl (fun g h=>phF h ns ns g) g
def Rg(g:Mx):Prop:=∀i k,-NV<=g i k/\g i k<=NV
section
variable {g:Mx}{h:Int}
theorem ARf(hg:Rg g)(h0:g h h=0)(i:Int):nw g h i h=g i h:=by
 unfold nw mm;have:=hg i h;rw[h0];split
 ·split<;>split<;>omega
 ·rfl
theorem ARg(hg:Rg g)(h0:g h h=0)(k:Int):nw g h h k=g h k:=by
 unfold nw mm;have:=hg h k;rw[h0];split
 ·split<;>split<;>omega
 ·rfl
def Part(g:Mx)(h:Int)(P:Int->Int->Prop)(g':Mx):Prop:=∀i k,(P i k->g' i k=nw g h i k)/\(¬P i k->g' i k=g i k)
theorem Part.fix(hg:Rg g)(h0:g h h=0){P:Int->Int->Prop}{g':Mx}(hp:Part g h P g'):(∀i,g' i h=g i h)/\∀k,g' h k=g h k:=by
 refine⟨fun i=>?_,fun k=>?_⟩
 ·by_cases hc:P i h
  ·rw[(hp i h).1 hc,ARf hg h0]
  ·exact(hp i h).2 hc
 ·by_cases hc:P h k
  ·rw[(hp h k).1 hc,ARg hg h0]
  ·exact(hp h k).2 hc
theorem Part.up1(hg:Rg g)(h0:g h h=0){P:Int->Int->Prop}{g':Mx}(hp:Part g h P g'){i k:Int}(hn:¬P i k):Part g h (fun a b=>P a b\/(a=i/\b=k)) (up1 h i k g'):=by
 obtain⟨h1,h2⟩:=hp.fix hg h0;have e:nw g' h i k=nw g h i k:=by
  unfold nw;rw[h1 i,h2 k,(hp i k).2 hn]
 intro a b;unfold FW.up1;by_cases hab:a=i/\b=k
 ·rw[if_pos hab]
  refine⟨fun _=>by rw[e,hab.1,hab.2],fun hno=>(hno (.inr hab)).elim⟩
 ·rw[if_neg hab]
  refine⟨fun hc=>?_,fun hc=>(hp a b).2 fun hc2=>hc (.inl hc2)⟩;rcases hc with hc|hc
  ·exact(hp a b).1 hc
  ·exact(hab hc).elim
theorem Part.row(hg:Rg g)(h0:g h h=0){i:Int}:∀(ks:List Int)(P:Int->Int->Prop)(g':Mx),ks.Nodup->(∀k∈ks,¬P i k)->Part g h P g'->Part g h (fun a b=>P a b\/(a=i/\b∈ks)) (AMN h i ks g')
 |[],P,g',_,_,hp=>by simpa[AMN]using hp
 |k::ks,P,g',hn,hk,hp=>by
  simp only[List.nodup_cons]at hn;have h1:=hp.up1 hg h0 (hk k (by simp));have h2:=Part.row hg h0 ks _ _ hn.2 (fun q hq hc=>by
   rcases hc with hc|⟨_,hc⟩
   ·exact hk q (by simp[hq]) hc
   ·exact hn.1 (hc▸hq)) h1
  have e:(fun a b=>(P a b\/(a=i/\b=k))\/(a=i/\b∈ks))=fun a b=>P a b\/(a=i/\b∈k::ks):=by
   funext a b
   simp only[List.mem_cons,eq_iff_iff];constructor
   ·rintro((h|⟨h1,h2⟩)|⟨h1,h2⟩)
    ·exact .inl h
    ·exact .inr ⟨h1,.inl h2⟩
    ·exact .inr ⟨h1,.inr h2⟩
   ·rintro(h|⟨h1,h2|h2⟩)
    ·exact .inl (.inl h)
    ·exact .inl (.inr ⟨h1,h2⟩)
    ·exact .inr ⟨h1,h2⟩
  rw[e]at h2;exact h2
end
inductive PI(R:List RR)(m a:Int):Int->Int->Prop
 |one {r:RR} (hr:r∈R) (ha:r.1=a):PI R m a r.2.1 r.2.2
 |snoc {u c:Int} {r:RR} (h:PI R m a u c) (hu:u<m) (hr:r∈R) (he:r.1=u):PI R m a r.2.1 (c+r.2.2)
theorem PI.split{R:List RR}{m a:Int}(hloop:∀c,PI R m m m c->0<=c){t c:Int}(h:PI R (m+1) a t c):PI R m a t c\/∃c1 c2,PI R m a m c1/\PI R m m t c2/\c1+c2<=c:=by
 induction h with
 |one hr ha=>exact .inl (.one hr ha)
 | @snoc u c r h hu hr he ih=>
  by_cases hum:u=m
  ·subst hum
   rcases ih with ih|⟨c1,c2,h1,h2,h3⟩
   ·exact .inr ⟨c,r.2.2,ih,.one hr he,Int.le_refl _⟩
   ·have:=hloop c2 h2
    exact .inr ⟨c1,r.2.2,h1,.one hr he,by omega⟩
  ·have hum:u<m:=by omega
   rcases ih with ih|⟨c1,c2,h1,h2,h3⟩
   ·exact .inl (.snoc ih hum hr he)
   ·exact .inr ⟨c1,c2+r.2.2,h1,.snoc h2 hum hr he,by omega⟩
def In(n:Int)(i:Int):Prop:=0<=i/\i<n
structure Ok(R:List RR)(n m b:Int)(g:Mx):Prop where
 rg:Rg g
 dg:∀i,In n i->g i i=0
 bd:∀i k,In n i->In n k->g i k=NV\/(-b<=g i k/\g i k<=b)
 un:∀a t c,In n a->In n t->PI R m a t c->g a t<=c/\g a t<NV
 so:∀i k,In n i->In n k->g i k=NV\/PC R i k (g i k)
def So(x:Int×List RR)(g:Mx):Prop:=∀i k,(0<=i/\i<=x.1)->(0<=k/\k<=x.1)->g i k=NV\/PC (XB x) i k (g i k)
theorem So.up1{x:Int×List RR}(hx:DY x=0)(hP:Pot x){g:Mx}(h:So x g){q i k:Int}(hq:0<=q/\q<=x.1)(hi:0<=i/\i<=x.1)(hk:0<=k/\k<=x.1):So x (up1 q i k g):=by
 intro a b ha hb;unfold FW.up1;split
 ·rename_i e
  rw[e.1,e.2];unfold nw;split
  ·rename_i hlt
   have s1:PC (XB x) i q (g i q):=by
    rcases h i q hi hq with s|s
    ·omega
    ·exact s
   have s2:PC (XB x) q k (g q k):=by
    rcases h q k hq hk with s|s
    ·omega
    ·exact s
   have s3:=s1.trans s2;have l3:=s3.low hx hP hi.1 hi.2;unfold mm;by_cases hc:g i q+g q k<g i k
   ·rw[if_pos hc,if_pos (by unfold NV;omega)]
    exact .inr s3
   ·rw[if_neg hc]
    rcases h i k hi hk with s|s
    ·rw[s,if_pos (by unfold NV;omega)]
     exact .inl rfl
    ·have:=s.low hx hP hi.1 hi.2
     rw[if_pos (by unfold NV;omega)];exact .inr s
  ·exact h i k hi hk
 ·exact h a b ha hb
theorem So.all{x:Int×List RR}(hx:DY x=0)(hP:Pot x){ns:List Int}(hm:∀i∈ns,0<=i/\i<=x.1){g:Mx}(h:So x g):So x (fwF ns ns g):=by
 have key:∀{β:Type}{step:Mx->β->Mx}(l:List β),(∀g,∀b∈l,So x g->So x (step g b))->∀g,So x g->So x (l.foldl step g):=by
  intro β step l
  induction l with
  |nil=>intro _ g hg;exact hg
  |cons b l ih=>
   intro hs g hg;exact ih (fun g c hc=>hs g c (by simp[hc])) _ (hs g b (by simp) hg)
 refine key ns (fun g q hq hg=>?_) g h;refine key ns (fun g i hi hg=>?_) g hg;exact key ns (fun g k hk hg=>hg.up1 hx hP (hm q hq) (hm i hi) (hm k hk)) g hg
end
end FW
end Go.Proofs.YtfmelbioccbdoaaGreat
end
section
namespace Go.Proofs.YtfmelbioccbdoaaGreat
open Go Go.Md Go.RowKit
open FW (Mx up1 AMN phF fwF nw Rg In Ok So)
section
structure RepM(n:Nat)(M:List (List Int))(g:Mx):Prop where
 len:M.length=n
 row:∀i:Nat,i<n->∃r,M[i]?=some r/\r.length=n/\∀k:Nat,k<n->r[k]?=some (g i k)
theorem RepM.at{n:Nat}{M:List (List Int)}{g:Mx}(h:RepM n M g){i:Int}(i0:0<=i)(i1:i<n):∃r,ix M i=some r/\r.length=n/\∀k:Int,0<=k->k<n->ix r k=some (g i k):=by
 obtain⟨r,h1,h2,h3⟩:=h.row i.toNat (by omega);refine⟨r,by unfold ix;rw[if_pos i0];exact h1,h2,fun k k0 k1=>?_⟩;unfold ix;rw[if_pos k0,h3 k.toNat (by omega)];have e1:((i.toNat:Nat):Int)=i:=by omega
 have e2:((k.toNat:Nat):Int)=k:=by omega
 rw[e1,e2]
section
variable {n:Nat}{F:Nat}
def g0:Mx:=fun i k=>if i=k then 0 else FW.NV
end
section
variable {x:Int×List RR}{F:Nat}
end
end
end Go.Proofs.YtfmelbioccbdoaaGreat
end
section
namespace Go.Proofs.YtfmelbioccbdoaaGreat
open Go Go.Md Go.RowKit
open BF (Rl St Back rel pass NEV)
section
section
variable {x:Int×List RR}{F:Nat}{a b t:Int}
open Classical in
noncomputable def ADk(x:Int×List RR)(t:Int):(Int×Int)×Int:=
 if DY x≠0 then((0,0),DY x)else if yR 1 x.1 t=true then(if Pot x then((-D x t 0,D x 0 t),0)else((0,0),21))else((0,0),3)
theorem sp1(h:DY x≠0):ADk x t=((0,0),DY x):=by unfold ADk;rw[if_pos h]
theorem sp2(h:DY x=0)(ht:yR 1 x.1 t=false):ADk x t=((0,0),3):=by unfold ADk;rw[if_neg (fun e=>e h),if_neg (by rw[ht];simp)]
theorem sp3(h:DY x=0)(ht:yR 1 x.1 t=true)(hP:Pot x):ADk x t=((-D x t 0,D x 0 t),0):=by unfold ADk;rw[if_neg (fun e=>e h),if_pos ht,if_pos hP]
theorem sp4(h:DY x=0)(ht:yR 1 x.1 t=true)(hP:¬Pot x):ADk x t=((0,0),21):=by unfold ADk;rw[if_neg (fun e=>e h),if_pos ht,if_neg hP]
theorem AQC(hF:100000000000000000<=F):ACW F x t=some (ADk x t):=by
 unfold ACW;have ex:(x.1,x.2)=x:=rfl;simp only[ex,AFS (show 100<F by omega),DJ,AU];by_cases h:DY x=0
 ·obtain⟨h1,h2,h3,_⟩:=qg h
  rw[if_neg (by simp[h]),AGo (by simp;omega) (by simp)];simp only[AU,List.all_cons,List.all_nil,Bool.and_true];cases ht:yR 1 x.1 t with
  |false=>rw[sp2 h ht];rfl
  |true=>
   have ht':=ht;simp only[yR,Bool.and_eq_true,decide_eq_true_eq]at ht';rw[if_neg (by simp)];obtain⟨o1,o2⟩:=AK1 h (F:=F) (by omega);by_cases hP:Pot x
   ·rw[o1 hP,sp3 h ht hP]
    simp only[AU];obtain⟨X,l,s,e,_,hD⟩:=AF6 h hP (a:=0) (by omega) (by omega) hF;obtain⟨Y,l',s',e',_,hD'⟩:=AF6 h hP (a:=t) (by omega) (by omega) hF;have hb:=AF7 h hP (a:=t) (t:=0) (by omega) (by omega) (by omega) (by omega);rw[if_neg (by simp)];have ex2:((x.1,x.2),XB x)=(x,XB x):=rfl;rw[ex2]at e e';rw[e];simp only[AU];rw[e'];simp only[AU];rw[(hD' 0 (by omega) (by omega)).2];simp only[AU];rw[(hD t (by omega) (by omega)).2];simp only[AU];rw[Dx (by omega),Int.zero_sub]
   ·rw[o2 hP,sp4 h ht hP]
    simp only[AU];rw[if_pos (by simp)]
 ·rw[if_pos (by simp[h]),sp1 h]
end
end
end Go.Proofs.YtfmelbioccbdoaaGreat
end
section
namespace Go.Proofs.YtfmelbioccbdoaaGreat
open Go Go.Md Go.RowKit
open BF (Rl St Back)
section
section
variable {x:Int×List RR}{a b t:Int}{way:List Int}{F:Nat}
end
end
end Go.Proofs.YtfmelbioccbdoaaGreat
end
section
namespace Go.Proofs.YtfmelbioccbdoaaGreat
open Go Go.Md Go.RowKit
section
section
variable {x:Int×List RR}{F:Nat}{a b t:Int}
end
end
section
section
variable {x:Int×List RR}{F:Nat}{a b t:Int}
def PairOK(x:Int×List RR)(s:List Int)(n:Int):Prop:=∀i j,0<=i->i<=n->0<=j->j<=n->ofS s j<=ofS s i+D x i j
theorem PairOK.bd(h:DY x=0)(hP:Pot x){s:List Int}{n:Int}(hn:n<=x.1)(hp:PairOK x s n){i:Int}(i0:0<=i)(i1:i<=n):-100000<=ofS s i/\ofS s i<=100000:=by
 obtain⟨h1,h2,h3,_⟩:=qg h;have b1:=AF7 h hP (a:=0) (t:=i) (by omega) (by omega) i0 (by omega);have b2:=AF7 h hP (a:=i) (t:=0) i0 (by omega) (by omega) (by omega);have z:ofS s 0=0:=rfl;have e1:=hp 0 i (by omega) (by omega) i0 i1;have e2:=hp i 0 i0 i1 (by omega) (by omega);rw[z]at e1 e2;omega
theorem AIh(h:DY x=0)(hP:Pot x){s:List Int}(hs:AAO x s=0)(a0:0<=a)(a1:a<=x.1)(b0:0<=b)(b1:b<=x.1):ofS s b<=ofS s a+D x a b:=
 (ACj h hP a0 a1 b0 b1).1.pot (AGu hs).2.2.2
theorem hFF:100000000000000000<=FF:=Nat.le_refl _
end
end
end Go.Proofs.YtfmelbioccbdoaaGreat
end
section
namespace Go.Proofs.YtfmelbioccbdoaaGreat
open Go Go.Md Go.RowKit
namespace LS
open Ng
section
theorem AQD:ABg FF=some true:=rfl
section
variable {n:Nat}{x:ABF}{f:List Int}
def ra(x:ABF)(k:Nat):List RR:=((0,(k:Int)+1,if(k:Int)∈x.2.2.2 then 0 else 1):RR)::(if(k:Int)∈x.2.2.1 then[((k:Int)+1,0,-1)]else[])
def rla(x:ABF):Nat->List RR
 |0=>[]
 |k+1=>rla x k++ra x k
def rb(x:ABF)(f:List Int)(i:Nat):List RR:=
 (if gq f i<(kd x.2.1 i).2.2 then[((kd x.2.1 i).2.1+1,(kd x.2.1 i).1+1,0)]else[])++(if-(kd x.2.1 i).2.2<gq f i then[((kd x.2.1 i).1+1,(kd x.2.1 i).2.1+1,0)]else[])
def rlb(x:ABF)(f:List Int):Nat->List RR
 |0=>[]
 |k+1=>rlb x f k++rb x f k
theorem AE2{r:RR}:∀{k:Nat},r∈rla x k↔∃i,i<k/\r∈ra x i
 |0=>by simp[rla]
 |k+1=>by
  rw[rla,List.mem_append,AE2];constructor
  ·rintro(⟨i,h1,h2⟩|h)
   ·exact⟨i,by omega,h2⟩
   ·exact⟨k,by omega,h⟩
  ·rintro⟨i,h1,h2⟩
   by_cases e:i=k
   ·subst e;exact .inr h2
   ·exact .inl ⟨i,by omega,h2⟩
theorem AE3{r:RR}:∀{k:Nat},r∈rlb x f k↔∃i,i<k/\r∈rb x f i
 |0=>by simp[rlb]
 |k+1=>by
  rw[rlb,List.mem_append,AE3];constructor
  ·rintro(⟨i,h1,h2⟩|h)
   ·exact⟨i,by omega,h2⟩
   ·exact⟨k,by omega,h⟩
  ·rintro⟨i,h1,h2⟩
   by_cases e:i=k
   ·subst e;exact .inr h2
   ·exact .inl ⟨i,by omega,h2⟩
theorem AH6:∀k,(rla x k).length<=2*k
 |0=>Nat.le_refl _
 |k+1=>by
  have:=AH6 k;have h:(ra x k).length<=2:=by unfold ra;rw[List.length_cons];split<;>simp
  rw[rla,List.length_append];omega
theorem AK4:∀k,(rlb x f k).length<=2*k
 |0=>Nat.le_refl _
 |k+1=>by
  have:=AK4 k;have h:(rb x f k).length<=2:=by unfold rb;split<;>split<;>simp
  rw[rlb,List.length_append];omega
theorem APU(h:VN x n){T:Int}:∀(m k:Nat),k<=n->n-k<m->wV FF x m (k:Int) (T,rla x k)=some (T,rla x n)
 |0,k,_,h=>by omega
 |m+1,k,hk,hm=>by
  have hn:=h.n2;have hel:=h.el;have her:=h.er;unfold wV;rw[h.nn];by_cases c:k<n
  ·have hl:=AH6 (x:=x) k
   have e1:∀b:Bool,(if b=true then some (0:Int)else some 1)=some (if b=true then(0:Int)else 1):=fun b=>by cases b<;>rfl
   rw[if_pos (by simpa using c),AJn (by decide) (by omega)];simp only[DJ,AU];rw[e1];simp only[AU];rw[ADS (by omega),xA (by simp only[List.length_cons,List.length_nil];omega)];simp only[AU];rw[AJn (by decide) (by omega)];simp only[AU];have ih:=APU h (T:=T) m (k+1) (by omega) (by omega);rw[rla,ra]at ih;simp only[decide_eq_true_eq];by_cases d:(k:Int)∈x.2.2.1
   ·rw[if_pos d,xA (by simp only[List.length_append,List.length_cons,List.length_nil];omega)]
    rw[if_pos d]at ih;simp only[AU];rw[List.append_assoc];exact ih
   ·rw[if_neg d]
    rw[if_neg d]at ih;exact ih
  ·have:k=n:=by omega
   subst this;rw[if_neg (by simp)]
theorem APV(h:VN x n)(hf:FB x.2.1 f){T e0:Int}{R:List RR}(hR:R.length<=1000):∀(m k:Nat),k<=x.2.1.length->x.2.1.length-k<m->wW FF x (f,e0) m (k:Int) (T,R++rlb x f k)=some (T,R++rlb x f x.2.1.length)
 |0,k,_,h=>by omega
 |m+1,k,hk,hm=>by
  have hlk:=h.lk;unfold wW;by_cases c:k<x.2.1.length
  ·have hkk:=h.kt.at c
   have hn:=h.n2;have hb:=hf.fb k c;have hlen:=hf.len;have hl:=AK4 (x:=x) (f:=f) k;have q0:BH (0-(kd x.2.1 k).2.2)=-(kd x.2.1 k).2.2:=by rw[Dx (by omega)];omega
   have q1:BH ((kd x.2.1 k).1+1)=(kd x.2.1 k).1+1:=Dx (by omega);have q2:BH ((kd x.2.1 k).2.1+1)=(kd x.2.1 k).2.1+1:=Dx (by omega);rw[if_pos (by simpa using c),AER c];simp only[DJ,AU];rw[AAu (show k<f.length by omega)];simp only[AU];rw[q0,q1,q2];have ih:=APV h hf (T:=T) (e0:=e0) hR m (k+1) (by omega) (by omega);rw[rlb,rb]at ih;simp only[decide_eq_true_eq];rw[ADS (by omega)];by_cases d1:gq f k<(kd x.2.1 k).2.2
   ·rw[if_pos d1,xA (by simp only[List.length_append,List.length_cons,List.length_nil];omega)]
    rw[if_pos d1]at ih;simp only[AU];by_cases d2:-(kd x.2.1 k).2.2<gq f k
    ·rw[if_pos d2,xA (by simp only[List.length_append,List.length_cons,List.length_nil];omega)]
     rw[if_pos d2]at ih;simp only[AU];rw[<-ih];simp only[List.append_assoc]
    ·rw[if_neg d2]
     rw[if_neg d2]at ih;simp only[AU];rw[<-ih];simp only[List.append_assoc,List.append_nil]
   ·rw[if_neg d1]
    rw[if_neg d1]at ih;simp only[AU];by_cases d2:-(kd x.2.1 k).2.2<gq f k
    ·rw[if_pos d2,xA (by simp only[List.length_append,List.length_cons,List.length_nil];omega)]
     rw[if_pos d2]at ih;simp only[AU];rw[<-ih];simp only[List.append_assoc,List.nil_append]
    ·rw[if_neg d2]
     rw[if_neg d2]at ih;simp only[AU];rw[<-ih];simp only[List.append_nil]
  ·have:k=x.2.1.length:=by omega
   subst this;rw[if_neg (by simp)]
abbrev sh(x:ABF)(n:Nat)(f:List Int):Int×List RR:=((n:Int),rla x n++rlb x f x.2.1.length)
theorem AIz(h:VN x n)(hn:n<=20)(h60:¬60<(rla x n++rlb x f x.2.1.length).length):DY (sh x n f)=0:=by
 have hn2:=h.n2;unfold DY;rw[if_neg h60,if_pos (by unfold yR;simp;omega),if_pos];refine List.all_eq_true.2 fun r hr=>?_;rcases List.mem_append.1 hr with hr|hr
 ·obtain⟨i,hi,e⟩:=AE2.1 hr
  unfold ra at e;rcases List.mem_cons.1 e with rfl|e
  ·unfold AAL yR
   split<;>simp<;>omega
  ·split at e
   ·rw[List.mem_singleton.1 e]
    unfold AAL yR;simp;omega
   ·cases e
 ·obtain⟨i,hi,e⟩:=AE3.1 hr
  have hk:=h.kt.at hi;unfold rb at e;rcases List.mem_append.1 e with e|e
  ·split at e
   ·rw[List.mem_singleton.1 e]
    unfold AAL yR;simp only[Bool.and_eq_true,decide_eq_true_eq,Bool.not_eq_true',decide_eq_false_iff_not];omega
   ·cases e
  ·split at e
   ·rw[List.mem_singleton.1 e]
    unfold AAL yR;simp only[Bool.and_eq_true,decide_eq_true_eq,Bool.not_eq_true',decide_eq_false_iff_not];omega
   ·cases e
structure Lb(x:ABF)(n:Nat)(f:List Int)(s:List Int):Prop where
 hi:∀v,v<n->gq s v<=if(v:Int)∈x.2.2.2 then 0 else 1
 lo:∀v,v<n->(v:Int)∈x.2.2.1->1<=gq s v
 on:∀i,i<x.2.1.length->(gq f i<(kd x.2.1 i).2.2->gq s (kd x.2.1 i).1.toNat<=gq s (kd x.2.1 i).2.1.toNat)/\(-(kd x.2.1 i).2.2<gq f i->gq s (kd x.2.1 i).2.1.toNat<=gq s (kd x.2.1 i).1.toNat)
theorem ofk{s:List Int}(hs:s.length=n){t:Int}(h0:0<=t)(h1:t<(n:Int)):ofS s (t+1)=gq s t.toNat:=by
 unfold ofS;rw[if_neg (by omega),show t+1-1=t by omega,AEw h0 (by omega)]
 rfl
theorem AFQ(h:VN x n)(hn:n<=20)(h60:¬60<(rla x n++rlb x f x.2.1.length).length){s:List Int}(hs:s.length=n)(hb:∀v∈s,0<=v/\v<=100000):AAO (sh x n f) s=0↔Lb x n f s:=by
 have hc:=AIz h hn h60 (f:=f);have hn2:=h.n2;have bd:∀v,v<n->0<=gq s v/\gq s v<=100000:=fun v hv=>by
  have:=hb s[v] (List.getElem_mem (by omega));simpa[gq,show v<s.length by omega]using this
 have e0:ofS s 0=0:=rfl;have e:(sh x n f).2.all (zU s)=true↔Lb x n f s:=by
  rw[List.all_eq_true];constructor
  ·intro hk
   refine⟨fun v hv=>?_,fun v hv hm=>?_,fun i hi=>?_⟩
   ·have:=hk _ (List.mem_append_left _ (AE2.2 ⟨v,hv,List.mem_cons_self⟩))
    have b:=bd v hv;unfold zU at this;rw[decide_eq_true_eq]at this;simp only[e0]at this;rw[ofk hs (by omega) (by omega),Int.toNat_natCast,Dx (by split<;>omega)]at this;omega
   ·have:=hk ((v:Int)+1,0,-1) (List.mem_append_left _ (AE2.2 ⟨v,hv,by unfold ra;rw[if_pos hm];simp⟩))
    have b:=bd v hv;unfold zU at this;rw[decide_eq_true_eq]at this;simp only[e0]at this;rw[ofk hs (by omega) (by omega),Int.toNat_natCast,Dx (by omega)]at this;omega
   ·have hkk:=h.kt.at hi
    have b1:=bd (kd x.2.1 i).1.toNat (by omega);have b2:=bd (kd x.2.1 i).2.1.toNat (by omega);refine⟨fun hl=>?_,fun hl=>?_⟩
    ·have:=hk ((kd x.2.1 i).2.1+1,(kd x.2.1 i).1+1,0) (List.mem_append_right _ (AE3.2 ⟨i,hi,by unfold rb;rw[if_pos hl];simp⟩))
     unfold zU at this;rw[decide_eq_true_eq]at this;simp only at this;rw[ofk hs (by omega) (by omega),ofk hs (by omega) (by omega),Dx (by omega)]at this;omega
    ·have:=hk ((kd x.2.1 i).1+1,(kd x.2.1 i).2.1+1,0) (List.mem_append_right _ (AE3.2 ⟨i,hi,by unfold rb;rw[if_pos hl];simp⟩))
     unfold zU at this;rw[decide_eq_true_eq]at this;simp only at this;rw[ofk hs (by omega) (by omega),ofk hs (by omega) (by omega),Dx (by omega)]at this;omega
  ·rintro⟨k1,k2,k3⟩ r hr
   rcases List.mem_append.1 hr with hr|hr
   ·obtain⟨v,hv,e⟩:=AE2.1 hr
    have b:=bd v hv;unfold ra at e;rcases List.mem_cons.1 e with rfl|e
    ·have:=k1 v hv
     unfold zU;rw[decide_eq_true_eq];simp only[e0];rw[ofk hs (by omega) (by omega),Int.toNat_natCast,Dx (by split<;>omega)];omega
    ·split at e
     ·rename_i hm
      rw[List.mem_singleton.1 e];have:=k2 v hv hm;unfold zU;rw[decide_eq_true_eq];simp only[e0];rw[ofk hs (by omega) (by omega),Int.toNat_natCast,Dx (by omega)];omega
     ·cases e
   ·obtain⟨i,hi,e⟩:=AE3.1 hr
    have hkk:=h.kt.at hi;have b1:=bd (kd x.2.1 i).1.toNat (by omega);have b2:=bd (kd x.2.1 i).2.1.toNat (by omega);have:=k3 i hi;unfold rb at e;rcases List.mem_append.1 e with e|e
    ·split at e
     ·rename_i hl
      rw[List.mem_singleton.1 e];have:=this.1 hl;unfold zU;rw[decide_eq_true_eq];simp only;rw[ofk hs (by omega) (by omega),ofk hs (by omega) (by omega),Dx (by omega)];omega
     ·cases e
    ·split at e
     ·rename_i hl
      rw[List.mem_singleton.1 e];have:=this.2 hl;unfold zU;rw[decide_eq_true_eq];simp only;rw[ofk hs (by omega) (by omega),ofk hs (by omega) (by omega),Dx (by omega)];omega
     ·cases e
 have eb:s.all (yR 0 100000)=true:=List.all_eq_true.2 fun v hv=>by have:=hb v hv;unfold yR;simp;omega
 unfold AAO;rw[if_neg (fun h=>h hc),if_neg (by simp[hs]),if_pos eb];by_cases c:(sh x n f).2.all (zU s)=true
 ·rw[if_pos c];exact⟨fun _=>e.1 c,fun _=>rfl⟩
 ·rw[if_neg c];exact⟨fun h=>(by cases h),fun h=>absurd (e.2 h) c⟩
def lab(X:Nat->Bool)(n:Nat):List Int:=(List.range n).map fun v=>if X v=true then 1 else 0
theorem AB3(X:Nat->Bool):(lab X n).length=n:=by simp[lab]
theorem ABs{X:Nat->Bool}{v:Nat}(h:v<n):gq (lab X n) v=if X v=true then 1 else 0:=by
 simp[gq,lab,h]
theorem ANb(X:Nat->Bool):∀v∈lab X n,0<=v/\v<=100000:=fun v hv=>by
 obtain⟨i,_,rfl⟩:=List.mem_map.1 hv;split<;>omega
theorem ANc(h:VN x n){X:Nat->Bool}(hX:Cl x.2.1 f X)(hL:∀v∈x.2.2.1,X v.toNat=true)(hR:∀v∈x.2.2.2,X v.toNat=false):Lb x n f (lab X n):=by
 refine⟨fun v hv=>?_,fun v hv hm=>?_,fun i hi=>?_⟩
 ·rw[ABs hv]
  by_cases c:(v:Int)∈x.2.2.2
  ·have:=hR _ c
   rw[Int.toNat_natCast]at this;rw[if_pos c,if_neg (by rw[this];simp)];exact Int.le_refl _
  ·rw[if_neg c];split<;>omega
 ·have:=hL _ hm
  rw[Int.toNat_natCast]at this;rw[ABs hv,if_pos this];exact Int.le_refl _
 ·have hk:=h.kt.at hi
  obtain⟨h1,h2⟩:=hX i hi;rw[ABs (by omega),ABs (by omega)];refine⟨fun hl=>?_,fun hl=>?_⟩
  ·by_cases c:X (kd x.2.1 i).1.toNat=true
   ·rw[if_pos c,if_pos (h1 hl c)];exact Int.le_refl _
   ·rw[if_neg c];split<;>omega
  ·by_cases c:X (kd x.2.1 i).2.1.toNat=true
   ·rw[if_pos c,if_pos (h2 hl c)];exact Int.le_refl _
   ·rw[if_neg c];split<;>omega
theorem ANd(h:VN x n){s:List Int}(hs:s.length=n)(hb:∀v∈s,0<=v/\v<=100000)(hl:Lb x n f s):Cl x.2.1 f (fun v=>decide (gq s v=1))/\(∀v∈x.2.2.1,decide (gq s v.toNat=1)=true)/\(∀v∈x.2.2.2,decide (gq s v.toNat=1)=false)/\∀v,v<n->0<=gq s v/\gq s v<=1:=by
 have bd:∀v,v<n->0<=gq s v/\gq s v<=1:=fun v hv=>by
  have:=hb s[v] (List.getElem_mem (by omega));have h1:=hl.hi v hv;have h2:gq s v=s[v]'(by omega):=by simp[gq,show v<s.length by omega]
  have h3:(if(v:Int)∈x.2.2.2 then(0:Int)else 1)<=1:=by split<;>omega
  omega
 refine⟨fun i hi=>?_,fun v hv=>?_,fun v hv=>?_,bd⟩
 ·have hk:=h.kt.at hi
  have b1:=bd (kd x.2.1 i).1.toNat (by omega);have b2:=bd (kd x.2.1 i).2.1.toNat (by omega);obtain⟨h1,h2⟩:=hl.on i hi;simp only[decide_eq_true_eq];exact⟨fun a b=>by have:=h1 a;omega,fun a b=>by have:=h2 a;omega⟩
 ·have i:=h.il v hv
  have:=hl.lo v.toNat (by omega) (by rw[Int.toNat_of_nonneg i.1];exact hv);have:=bd v.toNat (by omega);simp only[decide_eq_true_eq];omega
 ·have i:=h.ir v hv
  have:=hl.hi v.toNat (by omega);rw[Int.toNat_of_nonneg i.1,if_pos hv]at this;simp only[decide_eq_false_iff_not];omega
theorem ANe{s:List Int}(hs:s.length=n){X:Nat->Bool}(hv:∀v,v<n->gq s v=if X v=true then 1 else 0):s=lab X n:=by
 apply List.ext_getElem
 ·rw[hs,AB3]
 ·intro i h1 h2
  have a:=hv i (by omega);have b:=ABs (X:=X) (show i<n by omega);simp only[gq,List.getD_eq_getElem?_getD,List.getElem?_eq_getElem h1,List.getElem?_eq_getElem h2,Option.getD_some]at a b;rw[a,b]
theorem AJv(h:VN x n)(hn:n<=20)(h60:¬60<(rla x n++rlb x f x.2.1.length).length){A B:Nat->Bool}(hS:Sd x n f A B):Pot (sh x n f)/\ABk (sh x n f) false=lab A n/\ABk (sh x n f) true=lab (fun v=>!B v) n:=by
 have hc:=AIz h hn h60 (f:=f);have hn2:=h.n2;have aR:∀v∈x.2.2.2,A v.toNat=false:=fun v hv=>by
  cases e:A v.toNat with
  |false=>rfl
  |true=>have:=hS.ab _ e;rw[hS.rb v hv]at this;cases this
 have bL:∀v∈x.2.2.1,(!B v.toNat)=true:=fun v hv=>by rw[hS.ab _ (hS.la v hv)];rfl
 have bR:∀v∈x.2.2.2,(!B v.toNat)=false:=fun v hv=>by rw[hS.rb v hv];rfl
 have tA:AAO (sh x n f) (lab A n)=0:=(AFQ h hn h60 (AB3 A) (ANb A)).2 (ANc h hS.ca hS.la aR);have tB:AAO (sh x n f) (lab (fun v=>!B v) n)=0:=(AFQ h hn h60 (AB3 _) (ANb _)).2 (ANc h hS.cb bL bR);have hP:Pot (sh x n f):=by
  obtain⟨_,_,_,hp⟩:=AGu tA;exact⟨ofS (lab A n),hp⟩
 have len:∀b,(ABk (sh x n f) b).length=n:=fun b=>by rw[AF8];simp
 have hE:∀b,Lb x n f (ABk (sh x n f) b)/\∀v∈ABk (sh x n f) b,0<=v/\v<=100000:=fun b=>by
  have ht:=AF9 hc hP b;obtain⟨_,_,hbd,_⟩:=AGu ht;exact⟨(AFQ h hn h60 (len b) hbd).1 ht,hbd⟩
 refine⟨hP,ANe (len false) fun v hv=>?_,ANe (len true) fun v hv=>?_⟩
 ·obtain⟨s1,s2,s3,s4⟩:=ANd h (len false) (hE false).2 (hE false).1
  have a:=AC6 (high:=false) (t:=(v:Int)+1) hc hP (by omega) (by show(v:Int)+1<=(n:Int);omega);rw[ofk (len false) (by omega) (by omega),Int.toNat_natCast,if_neg (by simp)]at a;have b:=AIh hc hP tA (a:=(v:Int)+1) (b:=0) (by omega) (by show(v:Int)+1<=(n:Int);omega) (by omega) (by show(0:Int)<=(n:Int);omega);rw[ofk (AB3 A) (by omega) (by omega),Int.toNat_natCast,show ofS (lab A n) 0=0 from rfl,ABs hv]at b;have c:=s4 v hv;by_cases d:A v=true
  ·have:=hS.am _ s1 s2 v d
   rw[if_pos d];simpa using this
  ·rw[if_neg d]at b⊢
   omega
 ·obtain⟨s1,s2,s3,s4⟩:=ANd h (len true) (hE true).2 (hE true).1
  have a:=AC6 (high:=true) (t:=(v:Int)+1) hc hP (by omega) (by show(v:Int)+1<=(n:Int);omega);rw[ofk (len true) (by omega) (by omega),Int.toNat_natCast,if_pos rfl]at a;have b:=AIh hc hP tB (a:=0) (b:=(v:Int)+1) (by omega) (by show(0:Int)<=(n:Int);omega) (by omega) (by show(v:Int)+1<=(n:Int);omega);rw[ofk (AB3 _) (by omega) (by omega),Int.toNat_natCast,show ofS (lab (fun v=>!B v) n) 0=0 from rfl,ABs hv]at b;have c:=s4 v hv;cases d:B v with
  |true=>
   have:=hS.bm _ s1 s3 v d;simp only[decide_eq_false_iff_not]at this;rw[if_neg (by simp)];omega
  |false=>
   rw[d,if_pos (show(!false)=true from rfl)]at b;rw[if_pos (show(!false)=true from rfl)];omega
theorem APW(h:VN x n)(hn:n<=20)(h60:¬60<(rla x n++rlb x f x.2.1.length).length){A B:Nat->Bool}(hS:Sd x n f A B){ks:List Int}(hk:ks.length=n)(hkv:∀v,v<n->gq ks v=if B v=true then-1 else if A v=true then 1 else 0){e1 e2 e3:Int}:∀(m k:Nat),k<=n->n-k<m->
  wX FF x (ks,e1) (lab A n,e2) (lab (fun v=>!B v) n,e3) (sh x n f) m (nm A k) (nm (fun v=>!B v) k) (k:Int)=some (.inr (nm A n,nm (fun v=>!B v) n))
 |0,k,_,h=>by omega
 |m+1,k,hkn,hm=>by
  have hc:=AIz h hn h60 (f:=f);obtain⟨hP,hE1,hE2⟩:=AJv h hn h60 hS;unfold wX;rw[h.nn];by_cases c:k<n
  ·have hF17:100000000000000000<=FF:=hFF
   have ht:yR 1 (sh x n f).1 ((k:Int)+1)=true:=by unfold yR;simp;omega
   have a1:=AC6 (high:=false) (t:=(k:Int)+1) hc hP (by omega) (by show(k:Int)+1<=(n:Int);omega);have a2:=AC6 (high:=true) (t:=(k:Int)+1) hc hP (by omega) (by show(k:Int)+1<=(n:Int);omega);rw[hE1,ofk (AB3 A) (by omega) (by omega),Int.toNat_natCast,if_neg (by simp),ABs c]at a1;rw[hE2,ofk (AB3 _) (by omega) (by omega),Int.toNat_natCast,if_pos rfl,ABs c]at a2;have i1:ix (lab A n) (k:Int)=some (if A k=true then 1 else 0):=by rw[AAu (by rw[AB3];exact c),ABs c]
   have i2:ix (lab (fun v=>!B v) n) (k:Int)=some (if(!B k)=true then 1 else 0):=by rw[AAu (by rw[AB3];exact c),ABs c]
   have i3:ix ks (k:Int)=some (if B k=true then-1 else if A k=true then 1 else 0):=by rw[AAu (by omega),hkv k c]
   have hab:=hS.ab k;have l1:=AF2 A k;have l2:=AF2 (fun v=>!B v) k;have hw1:BH ((k:Int)+1)=(k:Int)+1:=Dx (by omega);rw[if_pos (by simpa using c),hw1,show(((sh x n f).1,(sh x n f).2):Int×List RR)=sh x n f from rfl,AQC hF17,sp3 hc ht hP,<-a1,<-a2];simp only[DJ,AU];rw[i1,i2,i3];simp only[AU];have ih:=APW h hn h60 hS hk hkv (e1:=e1) (e2:=e2) (e3:=e3) m (k+1) (by omega) (by omega);rw[AGQ,AGQ]at ih;rw[if_neg (by simp),if_neg (by simp),if_neg (by simp)];simp only[AU];rw[show(k:Int)+1=((k+1:Nat):Int)from rfl];cases hB:B k with
   |true=>
    have hA:A k=false:=by
     cases e:A k with
     |false=>rfl
     |true=>rw[hab e]at hB;cases hB
    rw[hB,hA]at ih;simp only[Bool.not_true,Bool.false_eq_true,if_false,List.append_nil]at ih;simp only[hA,Bool.not_true,Bool.false_eq_true,if_false,if_true];rw[if_neg (by rw[Dx (n:=0+0) (by omega),Dx (by omega)];simp)];rw[if_neg (by simp)];simp only[AU];exact ih
   |false=>
    cases hA:A k with
    |true=>
     rw[hB,hA]at ih;simp only[Bool.not_false,if_true]at ih;simp only[Bool.not_false,Bool.false_eq_true,if_false,if_true];rw[if_neg (by rw[Dx (n:=1+1) (by omega),Dx (by omega)];simp)];rw[if_pos (by simp),xA (by simp only[List.length_cons,List.length_nil];omega)];simp only[AU];rw[xA (by simp only[List.length_cons,List.length_nil];omega)];simp only[AU];exact ih
    |false=>
     rw[hB,hA]at ih;simp only[Bool.not_false,Bool.false_eq_true,if_false,if_true,List.append_nil]at ih;simp only[Bool.not_false,Bool.false_eq_true,if_false,if_true];rw[if_neg (by rw[Dx (n:=0+1) (by omega),Dx (by omega)];simp)];rw[if_neg (by simp)];simp only[AU];rw[if_pos (by simp),xA (by simp only[List.length_cons,List.length_nil];omega)];simp only[AU];exact ih
  ·have:k=n:=by omega
   subst this;rw[if_neg (by simp)]
end
theorem AUa:100000000000000<FF:=by decide
theorem AGA(x:ABF):ABJ FF x=some true:=by
 have hF:=AUa;have hF17:100000000000000000<=FF:=hFF;have ex:((x.1,x.2.1,x.2.2.1,x.2.2.2):ABF)=x:=rfl;unfold ABJ;rw[AQD,ex];rcases AJq (F:=FF) (x:=x) (by omega)with h0|⟨h0,hck,n,h⟩
 ·rw[h0]
  simp only[DJ,AU];rw[if_pos (by simp)]
 rw[h0];simp only[DJ,AU];by_cases hn:20<x.1
 ·rw[if_pos (by simpa using hn)]
 rw[if_neg (by simpa using hn)];have hnn:=h.nn;have hn2:=h.n2;have hn20:n<=20:=by omega
 obtain⟨f,A,B,k,hf,hS,e1,e2,e3,e4,e5⟩:=AOe hF h;rw[e1,e2,e5];simp only[AU];rw[ASz (by omega) h hck hf];simp only[AU];rw[if_neg (by simp[e3,hnn])];have hz:=APU h (T:=x.1) FF 0 (by omega) (by omega);rw[show((0:Nat):Int)=0 from rfl,show rla x 0=[]from rfl]at hz;rw[hz];simp only[AU];have hlr:=AH6 (x:=x) n;have hz:=APV h hf.fb (T:=x.1) (e0:=0) (R:=rla x n) (by omega) FF 0 (by omega) (by have:=h.lk;omega);rw[show((0:Nat):Int)=0 from rfl,show rlb x f 0=[]from rfl,List.append_nil]at hz;rw[hz];simp only[AU];by_cases h60:60<(rla x n++rlb x f x.2.1.length).length
 ·rw[if_pos (by simp only[decide_eq_true_eq];omega)]
 rw[if_neg (by simp only[decide_eq_true_eq];omega)];have esh:((x.1,rla x n++rlb x f x.2.1.length):Int×List RR)=sh x n f:=by rw[hnn]
 rw[esh];have hc:=AIz h hn20 h60 (f:=f);obtain⟨hP,hE1,hE2⟩:=AJv h hn20 h60 hS;rw[(AK3 hc hF17 false).1 hP,(AK3 hc hF17 true).1 hP];simp only[AU];rw[AF1 (by decide),AF1 (by decide),AF9 hc hP false,AF9 hc hP true];simp only[decide_true,Bool.not_true,Bool.or_self,Bool.not_false,gd,cond_true,AU];rw[if_neg (by simp),hE1,hE2];have hz:=APW h hn20 h60 hS e3 e4 (e1:=0) (e2:=0) (e3:=0) FF 0 (by omega) (by omega);rw[show((0:Nat):Int)=0 from rfl,show nm A 0=[]from rfl,show nm (fun v=>!B v) 0=[]from rfl]at hz;rw[hz];simp only[AU];have bL:∀v∈x.2.2.1,(fun v=>!B v) v.toNat=true:=fun v hv=>by simp only;rw[hS.ab _ (hS.la v hv)];rfl
 have bR:∀v∈x.2.2.2,(fun v=>!B v) v.toNat=false:=fun v hv=>by simp only;rw[hS.rb v hv];rfl
 obtain⟨o,ec⟩:=ARa (F:=FF) (X:=fun v=>!B v) (by omega) h bL bR;have hnl:=AF2 A n;rw[ec,AP3 h hf hS.cb bL bR,AP8 (by omega) (by omega)];simp
end
end LS
end Go.Proofs.YtfmelbioccbdoaaGreat
end
section
namespace Go.Proofs.YtfmelbioccbdoaaGreat
namespace TopSideSpeedsP
open Go
theorem band{a b:Bool}(h:a=true)(k:b=true):(a&&b)=true:=by rw[h,k];rfl
theorem jf0:(Rows.topSideSpeedsRow.wf (OpenSpec.ofChange Rows.topSideSpeedsSpec))=true:=by kernel_rfl
theorem jf1:(laidOutB Tryz.pinned.checked.prog)=true:=by kernel_rfl
theorem jf2:(mapsRowed Tryz.pinned.checked.prog)=true:=by kernel_rfl
theorem jf3:(Tryz.f12.params.all (Tryz.pinned.checked.prog.readableRec ·))=true:=by kernel_rfl
theorem jf4:(namedTie Tryz.pinned.checked.prog Rows.topSideSpeedsRow.named Rows.topSideSpeedsSpec.vars)=true:=by kernel_rfl
theorem jf5:((Rows.topSideSpeedsRow.stops==[]))=true:=by kernel_rfl
theorem jf6:((Tryz.pinned.checked.prog.stops==[]))=true:=by kernel_rfl
theorem jf7:((Rows.topSideSpeedsRow.knobs==[]))=true:=by kernel_rfl
theorem jf8:((Tryz.pinned.checked.prog.stopKnobs==[]))=true:=by kernel_rfl
theorem jf9:((Rows.topSideSpeedsRow.inPlace==Tryz.pinned.checked.prog.inPlace (12:FuncId)))=true:=by kernel_rfl
theorem AUb:((Rows.topSideSpeedsRow.unfollowed==Tryz.pinned.checked.prog.unfollowed (12:FuncId)))=true:=by kernel_rfl
theorem AUc:((Rows.topSideSpeedsRow.recurses==Tryz.pinned.checked.prog.recurses (12:FuncId)))=true:=by kernel_rfl
theorem AUd:((Rows.topSideSpeedsRow.named==Tryz.pinned.checked.prog.varsNamed (12:FuncId)))=true:=by kernel_rfl
theorem AUe:((Rows.topSideSpeedsRow.maps==(Tryz.f12.params.toList++Rows.topSideSpeedsSpec.plain.varTypes Tryz.pinned.checked.prog).any (Tryz.pinned.checked.prog.mapsRec ·)))=true:=by kernel_rfl
theorem AUf:((Rows.topSideSpeedsRow.ifaces==(Tryz.f12.params.toList++Rows.topSideSpeedsSpec.plain.varTypes Tryz.pinned.checked.prog).any (Tryz.pinned.checked.prog.ifacesRec ·)))=true:=by kernel_rfl
theorem AUg:((Rows.topSideSpeedsRow.mapsOut==Tryz.pinned.checked.prog.mapsAmong Tryz.f12.resultTypes.toList))=true:=by kernel_rfl
theorem AUh:((Rows.topSideSpeedsRow.loops==(Tryz.f12.params.toList++Rows.topSideSpeedsSpec.plain.varTypes Tryz.pinned.checked.prog).any (Tryz.pinned.checked.prog.loopsFrom ·)))=true:=by kernel_rfl
theorem AUi:((Rows.topSideSpeedsRow.wideKeys==(Tryz.f12.params.toList++Rows.topSideSpeedsSpec.plain.varTypes Tryz.pinned.checked.prog++Tryz.f12.resultTypes.toList).any (Tryz.pinned.checked.prog.wideKeysFrom ·)))=true:=by kernel_rfl
theorem AUj:(Rows.topSideSpeedsSpec.vars.all (Tryz.pinned.checked.prog.varReadable ·))=true:=by kernel_rfl
theorem AUk:(Tryz.f12.resultTypes.all (fun t=>Tryz.pinned.checked.prog.readableRec t&&decide (t<Tryz.pinned.checked.prog.types.size)))=true:=by kernel_rfl
theorem AUl:((Rows.topSideSpeedsRow.ifacesOut==Tryz.f12.resultTypes.toList.any (Tryz.pinned.checked.prog.ifacesRec ·)))=true:=by kernel_rfl
theorem AUm:((Rows.topSideSpeedsRow.loopsOut==Tryz.f12.resultTypes.toList.any (Tryz.pinned.checked.prog.loopsFrom ·)))=true:=by kernel_rfl
theorem AUn:((Rows.topSideSpeedsRow.plainKeys==Tryz.pinned.checked.prog.plainKeys))=true:=by kernel_rfl
theorem AUo:(Rows.topSideSpeedsRow.shortTexts.isNone)=true:=by kernel_rfl
theorem AUp:(Tryz.pinned.checked.prog.stopsHeard)=true:=by kernel_rfl
theorem AUq:(Tryz.pinned.checked.prog.mayEnter)=true:=by kernel_rfl
theorem AUr:((Rows.topSideSpeedsRow.lifted==Tryz.pinned.checked.prog.liftsFinal))=true:=by kernel_rfl
theorem AUs:((Tryz.pinned.checked.prog.make==some Rows.topSideSpeedsRow.make))=true:=by kernel_rfl
theorem AUt:((Rows.topSideSpeedsRow.kinds==(if Rows.topSideSpeedsRow.domain.isEmpty then[]else Tryz.f12.params.toList.map fun t=>match Tryz.pinned.checked.prog.underlying t with|some (.int k)=>some k|_=>none)))=true:=by kernel_rfl
theorem AUu:((Rows.topSideSpeedsRow.pinned==Rows.topSideSpeedsRow.pinnedBy))=true:=by kernel_rfl
theorem AUv:((Rows.topSideSpeedsRow.veiled==(Tryz.f12.params.toList++Rows.topSideSpeedsSpec.plain.varTypes Tryz.pinned.checked.prog++Tryz.f12.resultTypes.toList).any (Tryz.pinned.checked.prog.veiledRec ·)))=true:=by kernel_rfl
theorem AUw:(Rows.topSideSpeedsRow.veiledFits Tryz.pinned.checked.prog Tryz.f12.params.toList (Tryz.f12.params.toList++Rows.topSideSpeedsSpec.plain.varTypes Tryz.pinned.checked.prog++Tryz.f12.resultTypes.toList))=true:=by kernel_rfl
theorem named:Tryz.pinned.checked.prog.funcNamed Rows.topSideSpeedsRow.func=some 12:=by kernel_rfl
end TopSideSpeedsP
end Go.Proofs.YtfmelbioccbdoaaGreat
end
