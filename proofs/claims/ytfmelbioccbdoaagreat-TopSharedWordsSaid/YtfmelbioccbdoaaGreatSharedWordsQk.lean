/-
  Part 11 of 11 of what the last text stands on: lemmas about the model, pure functions, walks, laws in plain Lean; each part's own head says its condition. Merged by a program of our own.
-/
import Derived.Test.YtfmelbioccbdoaaGreatSharedWordsQj
import Derived.Test.YtfmelbioccbdoaaGreatRows
import Derived.JoinedOf
set_option maxHeartbeats 0
set_option linter.all false
section
namespace Go.Proofs.YtfmelbioccbdoaaGreat
open Go Go.Md Go.RowKit
namespace L4
open Wo Jn
section
section
variable {c:BJ}{x:Ar 4 (KI .u32)}{k:Nat}{g:Tp}{v:List Int}{top:Nat}
theorem dz(hU:Uq g (zl c x k)){m h a:Nat}(hm:m<(Mt g (zl c x k)).length)(hh:h<k)(e:ML (Mt g (zl c x k)) m h=a):MC g (zl c x k) top v h (Mt g (zl c x k)).length a=LG (Mt g (zl c x k)).length top (LV v) (Bf g (zl c x k)) m:=by
 unfold MC OW;rw[OT (m:=m) List.nodup_range (List.mem_range.2 hm)]
 ·rw[if_pos (show decide (ML (Mt g (zl c x k)) m h=a)=true by simp[e])]
 ·intro j hj hne
  have hj:=List.mem_range.1 hj;rw[if_neg];intro hc;have hc:ML (Mt g (zl c x k)) j h=a:=by simpa using hc
  have h1:=List.getElem_mem hj;have h2:=List.getElem_mem hm;rw[<-Dl hj]at h1;rw[<-Dl hm]at h2;exact hne (QD hj hm (hU.one h1 h2 (by rw[Cw];exact hh) (by rw[hc,e])))
theorem d9(hU:Uq g (zl c x k)){m h a:Nat}{q:List Nat}(hq:∀i∈q,i<(Mt g (zl c x k)).length)(hm:m<(Mt g (zl c x k)).length)(hh:h<k)(e:ML (Mt g (zl c x k)) m h=a):((q.map (ML (Mt g (zl c x k)))).any fun f=>decide (f h=a))=decide (m∈q):=by
 rw[Bool.eq_iff_iff,List.any_eq_true,decide_eq_true_eq];constructor
 ·rintro⟨f,hf,hfa⟩
  obtain⟨i,hi,rfl⟩:=List.mem_map.1 hf;have hfa:ML (Mt g (zl c x k)) i h=a:=by simpa using hfa
  have hi':=hq i hi;have h1:=List.getElem_mem hi';have h2:=List.getElem_mem hm;rw[<-Dl hi']at h1;rw[<-Dl hm]at h2;have:=QD hi' hm (hU.one h1 h2 (by rw[Cw];exact hh) (by rw[hfa,e]));rw[<-this];exact hi
 ·intro hmq
  exact⟨_,List.mem_map.2 ⟨m,hmq,rfl⟩,by simp[e]⟩
theorem mP(hv:VC c)(h2:2<=k)(h4:k<=4)(hT:∀j,j<k->tj c x j∈Jc c)(hU:Uq g (zl c x k))(hs:∀j,j<k->tj c x j=tj c x 0)(hlv:Lv g (zl c x k) (Mt g (zl c x k)) v)
  (ht1:∀i,i<(Mt g (zl c x k)).length->LV v i<=top) (ht2:((Mt g (zl c x k)).length=0/\top=0)\/∃i,i<(Mt g (zl c x k)).length/\LV v i=top):top=c.1.length/\cnt g (zl c x k) top v=1:=by
 have n1:=hv.n1;have hN1:=hU.len;rw[MV hv hT (by omega)]at hN1;have hlen:∀j,j<k->(tj c x j).length=c.1.length:=fun j hj=>(KF.1 (hT j hj)).len;have hN2:c.1.length<=(Mt g (zl c x k)).length:=by
  have:=Nq (l:=List.range c.1.length) (k:=(Mt g (zl c x k)).map fun f=>f 0) List.nodup_range fun a ha=>by
   have ha:=List.mem_range.1 ha;refine List.mem_map.2 ⟨fun j=>if j<k then a else 0,?_,by simp[show 0<k by omega]⟩;refine hU.mem (fun j hj=>?_) (fun j hj=>?_) (fun j hj=>?_)
   ·rw[Cw]at hj;rw[if_pos hj,MV hv hT hj];exact ha
   ·rw[Cw]at hj;rw[if_neg (by omega)]
   ·rw[Cw]at hj
    have hj0:0<k:=by omega
    rw[if_pos hj,if_pos hj0];have a1:(tj c x j)[a]?=some ((tj c x 0)[a]'(by rw[hlen 0 hj0];exact ha)):=by rw[hs j hj];exact List.getElem?_eq_getElem _
    have a2:(tj c x 0)[a]?=some ((tj c x 0)[a]'(by rw[hlen 0 hj0];exact ha)):=List.getElem?_eq_getElem _;rw[(Mh hT hj a1).2,(Mh hT hj0 a2).2]
  rw[List.length_range,List.length_map]at this;exact this
 have hN:(Mt g (zl c x k)).length=c.1.length:=by omega
 have hd:=QB hU.vl hlv;have hB:∀i j,i<j->j<(Mt g (zl c x k)).length->Bf g (zl c x k) i j=true:=by
  intro i j hij hj;have hi:i<(Mt g (zl c x k)).length:=by omega
  have h1:=List.getElem_mem hi;have h2':=List.getElem_mem hj;have ho:=List.pairwise_iff_getElem.1 (dN (g:=g) hU.vl) i j hi hj hij;rw[<-Dl hi,<-Dl hj]at ho;rw[<-Dl hi]at h1;rw[<-Dl hj]at h2';have hne:ML (Mt g (zl c x k)) i 0≠ML (Mt g (zl c x k)) j 0:=fun e=>by
   have:=QD hi hj (hU.one h1 h2' (show 0<(zl c x k).length by rw[Cw];omega) e);omega
  have flat:∀f∈Mt g (zl c x k),∀b,b<k->f b=f 0:=by
   intro f hf b hb;have hfl:=(Iz hf).1;have hl0:∀a,a<k->(zl c x k).getD a []=lin c (tj c x 0):=fun a ha=>by
    rw[List.getD_eq_getElem?_getD,List.getElem?_eq_getElem (by rw[Cw];exact ha),Option.getD_some,OX ha,hs a ha]
   have e1:=hU.same hf (show b<(zl c x k).length by rw[Cw];exact hb);have hb1:=hfl b (by rw[Cw];exact hb);have hb0:=hfl 0 (by rw[Cw];omega);rw[MV hv hT hb]at hb1;refine hU.pos (show 0<(zl c x k).length by rw[Cw];omega) (by rw[MV hv hT (by omega)];exact hb1) hb0 ?_;rw[<-e1];unfold Iy;rw[hl0 b hb,hl0 0 (by omega)]
  refine Dg.2 fun b hb=>?_;rw[Cw]at hb;rw[flat _ h1 b hb,flat _ h2' b hb];omega
 have hl:=X7 hd hB;have htop:top=(Mt g (zl c x k)).length:=by
  rcases ht2 with⟨e,_⟩|⟨i,hi,e⟩
  ·omega
  ·have a:=hl i hi
   have b:=ht1 ((Mt g (zl c x k)).length-1) (by omega);have c:=hl ((Mt g (zl c x k)).length-1) (by omega);omega
 refine⟨by omega,?_⟩;unfold cnt;rw[if_neg (by omega),htop];exact mO hd hB (by omega)
theorem eB(hv:VC c)(h2:2<=k)(h4:k<=4)(hT:∀j,j<k->tj c x j∈Jc c)(hU:Uq g (zl c x k))(h40:(Mt g (zl c x k)).length<=40)(hlv:Lv g (zl c x k) (Mt g (zl c x k)) v)(ht1:∀i,i<(Mt g (zl c x k)).length->LV v i<=top)
  {q:List Nat} (hq:Ps (Mt g (zl c x k)).length top (LV v) (Bf g (zl c x k)) q) (hq8:q.length<=8) {h:Nat} (hh:h<k) {P:List Jb} (hPl:P.length<=1000) {e9 e1 e2:Int}
  (hP:∀z∈P,∃(i i':Nat)(p s:Ap),(A7 c)[i]?=some p/\(A7 c)[i']?=some s/\z=(p,s)/\∀t∈Jc c,P6 i i' t=true):∀(m y:Nat),y<=P.length->P.length-y<m->
  Df FF (P,e9) (h:Int) (q.map fun i=>Gc (zl c x k).length (ML (Mt g (zl c x k)) i),e1) (rl (ln (zl c x k) h) (fun p=>PW (cnt g (zl c x k) top v) (MC g (zl c x k) top v h (Mt g (zl c x k)).length p)),e2) (zl c x k) m (y:Int)=some (.inr ())
 |0,y,_,hm=>by omega
 |m+1,y,hy,hm=>by
  have hd:=QB hU.vl hlv;unfold Df;by_cases hlt:y<P.length
  ·obtain⟨i,i',p,s,a1,a2,ez,hadj⟩:=hP _ (List.getElem_mem hlt)
   obtain⟨a,mm,mm',ha,hm1,hm2,b1',b2'⟩:=X8 hv h2 h4 hT hU hadj;have hi:=(List.getElem?_eq_some_iff.1 a1).1;have hi':=(List.getElem?_eq_some_iff.1 a2).1;have ep:(A7 c).getD i default=p:=by rw[List.getD_eq_getElem?_getD,a1];rfl
   have es:(A7 c).getD i' default=s:=by rw[List.getD_eq_getElem?_getD,a2];rfl
   have hps:IsStep c p:=KE.1 (List.mem_of_getElem? a1);have hss:IsStep c s:=KE.1 (List.mem_of_getElem? a2);rw[if_pos (by simpa using hlt)];simp only;rw[Az hlt,ez];simp only[Ah,AJ];rw[X6 (by simp) (fun u hu=>by
    rcases List.mem_cons.1 hu with rfl|hu
    ·exact Wl hv hps
    ·rw[List.mem_singleton]at hu;subst hu;exact Wl hv hss)]
   simp only[AJ];have e3:=dx hv hT hh (ha h hh).1 (ha h hh).2 FF 0 (Nat.zero_le _) (Nat.lt_of_le_of_lt (show _<=8 by have:=hv.n8;omega) (by decide));rw[if_neg (by omega),ep,es,show((0:Nat):Int)=0 from rfl]at e3;rw[show([(p.1,p.2),(s.1,s.2)]:List Ap).map wo=[wo p,wo s]from rfl,e3];simp only[AJ];have hlen:(tj c x h).length=c.1.length:=(KF.1 (hT h hh)).len;have hal:=(List.getElem?_eq_some_iff.1 (ha h hh).2).1;have hln:=MV hv hT hh;have h8:=hv.n8;rw[if_neg (by simp),Aq (by omega),QX (show a h<_ by omega),QX (show a h+1<_ by omega)];simp only[AJ];have hJ:Jst (Mt g (zl c x k)).length (Bf g (zl c x k)) mm mm':=hU.jst hm1 hm2 fun j hj=>by rw[Cw]at hj;rw[b1' j hj,b2' j hj]
   have eg:MC g (zl c x k) top v h (Mt g (zl c x k)).length (a h)=MC g (zl c x k) top v h (Mt g (zl c x k)).length (a h+1):=by
    rw[dz hU hm1 hh (b1' h hh),dz hU hm2 hh (b2' h hh)];unfold LG;rw[hJ.uw hd,hJ.dw hd ht1]
   rw[eg,if_neg (by simp)];have hql:(q.map (ML (Mt g (zl c x k)))).length<=1000:=by rw[List.length_map];omega
   have eq1:(q.map fun i=>Gc (zl c x k).length (ML (Mt g (zl c x k)) i))=(q.map (ML (Mt g (zl c x k)))).map (Gc (zl c x k).length):=by rw[List.map_map];rfl
   rw[eq1,Wm hql (show h<(zl c x k).length by rw[Cw];exact hh) (by decide),Wm hql (show h<(zl c x k).length by rw[Cw];exact hh) (by decide)];simp only[AJ];have eps:decide (mm∈q)=decide (mm'∈q):=decide_eq_decide.2 (hJ.ps hd ht1 hq);rw[d9 hU (fun i hi=>(hq.mem i hi).1) hm1 hh (b1' h hh),d9 hU (fun i hi=>(hq.mem i hi).1) hm2 hh (b2' h hh),eps];rw[if_neg (by simp),Aq (by omega),<-eq1];exact eB hv h2 h4 hT hU h40 hlv ht1 hq hq8 hh hPl hP m (y+1) (by omega) (by omega)
  ·rw[if_neg (by simpa using hlt)]
end
theorem qK(c:BJ){x:Ar 4 (KI .u32)}(hx:∀y∈x.l,0<=y.v/\y.v<=4294967295){many hearer:Int}(hm:0<=many/\many<=255)(hh:0<=hearer/\hearer<=255):Gb FF c x many hearer=some true:=by
 have hF:100000<FF:=by decide
 unfold Gb;rw[mK];refine(di c).elim ?_ fun e0=>by rw[show Ff FF (c.1,c.2.1,c.2.2.1,c.2.2.2)=some false from e0];rfl
 rintro⟨e0,hv⟩;rw[show Ff FF (c.1,c.2.1,c.2.2.1,c.2.2.2)=some true from e0];simp only[Ah,AJ];rw[if_neg (by simp),show KC FF (c.1,c.2.1,c.2.2.1,c.2.2.2)=_ from count_eq (by decide) hv];simp only[AJ];rw[if_neg (by simp)];by_cases hJ:(Jc c).length=0
 ·rw[if_pos (by simp[hJ])]
 have hJ:0<(Jc c).length:=by omega
 rw[if_neg (by simp only[decide_eq_true_eq];intro hz;have hz:((Jc c).length:Int)=0:=hz;omega)];obtain⟨P,e1,hPl,hP⟩:=XP (F:=FF) (by decide) hv hJ;rw[show H7 FF (c.1,c.2.1,c.2.2.1,c.2.2.2)=_ from e1];simp only[AJ];rw[if_neg (by simp)];have ht:=TY (u:=many) (n:=3) hm.1 (by omega);obtain⟨k,hk⟩:∃k:Nat,2+many.tmod 3=(k:Int):=⟨(2+many.tmod 3).toNat,by omega⟩;have hk2:2<=k:=by omega
 have hk4:k<=4:=by omega
 have hwk:AZ (2+Int.tmod (AZ many) 3)=(k:Int):=by rw[BK (n:=many) (by omega),BK (by omega),hk]
 obtain⟨b,e2,hb⟩:=dm hv hJ hx hwk hk4 FF 0 true (by omega) (Nat.lt_of_le_of_lt (show _<=4 by omega) (by decide)) ⟨fun _ j hj=>by omega,fun _=>rfl⟩;rw[show((0:Nat):Int)=0 from rfl,List.range_zero,List.map_nil]at e2;rw[e2];simp only[AJ];have hT:∀j,j<k->tj c x j∈Jc c:=fun j hj=>by
  obtain⟨y,_,_,e⟩:=Z5 hJ hx (show j<4 by omega);exact List.mem_of_getElem? e
 obtain⟨r0,r1⟩:=TY (u:=hearer) (n:=(k:Int)) hh.1 (by omega);obtain⟨h,eh⟩:∃h:Nat,hearer.tmod (k:Int)=(h:Int):=⟨(hearer.tmod (k:Int)).toNat,by omega⟩;have hhk:h<k:=by omega
 rw[BK (n:=hearer) (by omega),hwk,dh (by omega),eh];simp only[AJ];have hVB:VB (⟨[]⟩:Bk):=⟨by simp,fun p hp=>by cases hp⟩;have hVL:VL (zl c x k):=by
  obtain⟨g0,hg0⟩:∃g:Tp,∀i j,i<101->j<101->(g i=g j↔Con (Ed (⟨[]⟩:Bk)) i j):=by
   obtain⟨g,_,h⟩:=Xv (F:=FF) (by decide) hVB;exact⟨g,h⟩
  exact(kC hv hk2 hk4 hT hg0).vl
 obtain⟨g,hg,hW⟩:=mG hF hVB hVL;have hU:=kC hv hk2 hk4 hT hg;have hN:=hU.len;rw[MV hv hT (by omega)]at hN;have h8:=hv.n8;have n1:=hv.n1;obtain⟨d,v,top,q,hlv,es,ht1,ht2,eL,el,ew,eG,hq⟩:=hW (by omega);have hd:=QB hVL hlv;have htop8:top<=8:=by
  rcases ht2 with⟨_,e⟩|⟨i,hi,e⟩
  ·omega
  ·have a:=(hlv.get hi).2.2.le (by rw[Cw];omega)
   have b:=(Iz (List.getElem_mem hi)).1 0 (by rw[Cw];omega);rw[<-Dl hi,MV hv hT (by omega)]at b;omega
 rw[show((List.range k).map fun j=>lin c (tj c x j))=zl c x k from rfl,eG];simp only[AJ];rw[dV (by decide) hVL hlv (by omega) (by rw[Cw];exact hhk) es el ew];simp only[AJ];rw[iM (by decide) hlv (by omega) es el ew];simp only[AJ];have eq1:(q.map fun i=>Gc (zl c x k).length (ML (Mt g (zl c x k)) i))=(q.map (ML (Mt g (zl c x k)))).map (Gc (zl c x k).length):=by rw[List.map_map];rfl
 have hpass:Dk FF (⟨[]⟩:Bk) (zl c x k) (q.map fun i=>Gc (zl c x k).length (ML (Mt g (zl c x k)) i))=some 0:=by
  rw[eq1];refine mH (by decide) hVB hVL hg (by rw[List.length_map,hq.len];exact htop8) (fun f hf=>?_) (fun t a b ha hb=>?_)
  ·obtain⟨i,hi,rfl⟩:=List.mem_map.1 hf
   have:=(hq.mem i hi).1;rw[Dl this];exact List.getElem_mem this
  ·rw[List.getElem?_map]at ha hb
   obtain⟨i,hi,rfl⟩:=Option.map_eq_some_iff.1 ha;obtain⟨j,hj,rfl⟩:=Option.map_eq_some_iff.1 hb;exact hq.seq t i j hi hj
 have ezh:ix (zl c x k) (h:Int)=some (lin c (tj c x h)):=by rw[Az (by rw[Cw];exact hhk),OX hhk]
 have ez0:ix (zl c x k) 0=some (lin c (tj c x 0)):=by rw[show(0:Int)=((0:Nat):Int)from rfl,Az (by rw[Cw];omega),OX (show 0<k by omega)]
 have elh:=(Jt hv (hT h hhk)).1;have el0:=(Jt hv (hT 0 (by omega))).1;rw[if_neg (by simp),if_neg (by simp),if_neg (by simp),hpass];simp only[AJ];rw[if_neg (by simp),ezh];simp only[AJ];rw[if_neg (by rw[OU,MV hv hT hhk,elh];simp)];have hx2:0<P.length->2<=q.length:=by
  intro hp;obtain⟨i,i',p,s,_,_,_,hadj⟩:=hP _ (List.getElem_mem hp);obtain⟨a,m,m',_,hm1,hm2,b1',b2'⟩:=X8 hv hk2 hk4 hT hU hadj;have hJs:Jst (Mt g (zl c x k)).length (Bf g (zl c x k)) m m':=hU.jst hm1 hm2 fun j hj=>by rw[Cw]at hj;rw[b1' j hj,b2' j hj]
  have:=hJs.lv hd;have:=hd.one m hm1;have:=ht1 m' hm2;rw[hq.len];omega
 simp only[if_true,Bool.false_eq_true,if_false];have hy6:(if b=true then
   (ix (zl c x k) 0).bind fun x33=>if(!decide (((q.map fun i=>Gc (zl c x k).length (ML (Mt g (zl c x k)) i)).length:Int)=(x33.length:Int)))=true then some true
    else if(!decide (((cnt g (zl c x k) top v:Nat):Int)=1))=true then some true else(if decide (0<(P.length:Int))=true then some (decide (((q.map fun i=>Gc (zl c x k).length (ML (Mt g (zl c x k)) i)).length:Int)<2))else some false)
   else(if decide (0<(P.length:Int))=true then some (decide (((q.map fun i=>Gc (zl c x k).length (ML (Mt g (zl c x k)) i)).length:Int)<2))else some false))=some false:=by
  have hlast:(if decide (0<(P.length:Int))=true then some (decide (((q.map fun i=>Gc (zl c x k).length (ML (Mt g (zl c x k)) i)).length:Int)<2))else some false)=some false:=by
   by_cases hp:0<P.length
   ·have:=hx2 hp
    rw[if_pos (by simp only[decide_eq_true_eq];omega),decide_eq_false (by rw[List.length_map];omega)]
   ·rw[if_neg (by simp only[decide_eq_true_eq];omega)]
  cases hbv:b with
  |true=>
   have hs:=hb.1 hbv;obtain⟨s1,s2⟩:=mP hv hk2 hk4 hT hU (fun j hj=>by unfold tj;rw[hs j hj]) hlv ht1 ht2;rw[if_pos rfl,ez0];simp only[AJ];rw[if_neg (by rw[el0];simp[hq.len,s1]),if_neg (by simp[s2])];exact hlast
  |false=>rw[if_neg (by simp)];exact hlast
 rw[hy6];simp only[AJ];rw[if_neg (by simp)];have e5:=eB (e9:=0) (e1:=0) (e2:=0) hv hk2 hk4 hT hU (by omega) hlv ht1 hq (by rw[hq.len];exact htop8) hhk hPl hP FF 0 (by omega) (Nat.lt_of_le_of_lt (show _<=1000 by omega) (by decide));rw[show((0:Nat):Int)=0 from rfl]at e5;rw[e5]
 rfl
theorem PX(c:BJ){x:Ar 4 (KI .u32)}(hx:∀y∈x.l,(Lit.int .u32 y.v).wf=true){many hearer:Int}(hm:(Lit.int .u8 many).wf=true)(hh:(Lit.int .u8 hearer).wf=true):Gb FF c x many hearer=some true:=by
 have hb:∀{v:Int},(Lit.int .u8 v).wf=true->0<=v/\v<=255:=fun{v} h=>by simp[Lit.wf]at h;exact h
 have hb4:∀{v:Int},(Lit.int .u32 v).wf=true->0<=v/\v<=4294967295:=fun{v} h=>by simp[Lit.wf]at h;exact h
 exact qK c (fun y hy=>hb4 (hx y hy)) (hb hm) (hb hh)
end
end L4
end Go.Proofs.YtfmelbioccbdoaaGreat
end
section
namespace Go.Proofs.YtfmelbioccbdoaaGreat
namespace TopSharedWordsP
open Go
theorem band{a b:Bool}(h:a=true)(k:b=true):(a&&b)=true:=by rw[h,k];rfl
theorem zW:(Rows.topSharedWordsRow.wf (OpenSpec.ofChange Rows.topSharedWordsSpec))=true:=by kernel_rfl
theorem zX:(laidOutB Tryz.pinned.checked.prog)=true:=by kernel_rfl
theorem zY:(mapsRowed Tryz.pinned.checked.prog)=true:=by kernel_rfl
theorem zZ:(Tryz.f6.params.all (Tryz.pinned.checked.prog.readableRec ·))=true:=by kernel_rfl
theorem ze:(namedTie Tryz.pinned.checked.prog Rows.topSharedWordsRow.named Rows.topSharedWordsSpec.vars)=true:=by kernel_rfl
theorem zf:((Rows.topSharedWordsRow.stops==[]))=true:=by kernel_rfl
theorem zi:((Tryz.pinned.checked.prog.stops==[]))=true:=by kernel_rfl
theorem zk:((Rows.topSharedWordsRow.knobs==[]))=true:=by kernel_rfl
theorem zm:((Tryz.pinned.checked.prog.stopKnobs==[]))=true:=by kernel_rfl
theorem zn:((Rows.topSharedWordsRow.inPlace==Tryz.pinned.checked.prog.inPlace (6:FuncId)))=true:=by kernel_rfl
theorem yI:((Rows.topSharedWordsRow.unfollowed==Tryz.pinned.checked.prog.unfollowed (6:FuncId)))=true:=by kernel_rfl
theorem yJ:((Rows.topSharedWordsRow.recurses==Tryz.pinned.checked.prog.recurses (6:FuncId)))=true:=by kernel_rfl
theorem yK:((Rows.topSharedWordsRow.named==Tryz.pinned.checked.prog.varsNamed (6:FuncId)))=true:=by kernel_rfl
theorem yL:((Rows.topSharedWordsRow.maps==(Tryz.f6.params.toList++Rows.topSharedWordsSpec.plain.varTypes Tryz.pinned.checked.prog).any (Tryz.pinned.checked.prog.mapsRec ·)))=true:=by kernel_rfl
theorem yM:((Rows.topSharedWordsRow.ifaces==(Tryz.f6.params.toList++Rows.topSharedWordsSpec.plain.varTypes Tryz.pinned.checked.prog).any (Tryz.pinned.checked.prog.ifacesRec ·)))=true:=by kernel_rfl
theorem yN:((Rows.topSharedWordsRow.mapsOut==Tryz.pinned.checked.prog.mapsAmong Tryz.f6.resultTypes.toList))=true:=by kernel_rfl
theorem yO:((Rows.topSharedWordsRow.loops==(Tryz.f6.params.toList++Rows.topSharedWordsSpec.plain.varTypes Tryz.pinned.checked.prog).any (Tryz.pinned.checked.prog.loopsFrom ·)))=true:=by kernel_rfl
theorem yP:((Rows.topSharedWordsRow.wideKeys==(Tryz.f6.params.toList++Rows.topSharedWordsSpec.plain.varTypes Tryz.pinned.checked.prog++Tryz.f6.resultTypes.toList).any (Tryz.pinned.checked.prog.wideKeysFrom ·)))=true:=by kernel_rfl
theorem yQ:(Rows.topSharedWordsSpec.vars.all (Tryz.pinned.checked.prog.varReadable ·))=true:=by kernel_rfl
theorem yR:(Tryz.f6.resultTypes.all (fun t=>Tryz.pinned.checked.prog.readableRec t&&decide (t<Tryz.pinned.checked.prog.types.size)))=true:=by kernel_rfl
theorem yS:((Rows.topSharedWordsRow.ifacesOut==Tryz.f6.resultTypes.toList.any (Tryz.pinned.checked.prog.ifacesRec ·)))=true:=by kernel_rfl
theorem yT:((Rows.topSharedWordsRow.loopsOut==Tryz.f6.resultTypes.toList.any (Tryz.pinned.checked.prog.loopsFrom ·)))=true:=by kernel_rfl
theorem yU:((Rows.topSharedWordsRow.plainKeys==Tryz.pinned.checked.prog.plainKeys))=true:=by kernel_rfl
theorem yV:(Rows.topSharedWordsRow.shortTexts.isNone)=true:=by kernel_rfl
theorem yX:(Tryz.pinned.checked.prog.stopsHeard)=true:=by kernel_rfl
theorem yY:(Tryz.pinned.checked.prog.mayEnter)=true:=by kernel_rfl
theorem yZ:((Rows.topSharedWordsRow.lifted==Tryz.pinned.checked.prog.liftsFinal))=true:=by kernel_rfl
theorem yc:((Tryz.pinned.checked.prog.make==some Rows.topSharedWordsRow.make))=true:=by kernel_rfl
theorem yg:((Rows.topSharedWordsRow.kinds==(if Rows.topSharedWordsRow.domain.isEmpty then[]else Tryz.f6.params.toList.map fun t=>match Tryz.pinned.checked.prog.underlying t with|some (.int k)=>some k|_=>none)))=true:=by kernel_rfl
theorem yj:((Rows.topSharedWordsRow.pinned==Rows.topSharedWordsRow.pinnedBy))=true:=by kernel_rfl
theorem yo:((Rows.topSharedWordsRow.veiled==(Tryz.f6.params.toList++Rows.topSharedWordsSpec.plain.varTypes Tryz.pinned.checked.prog++Tryz.f6.resultTypes.toList).any (Tryz.pinned.checked.prog.veiledRec ·)))=true:=by kernel_rfl
theorem yu:(Rows.topSharedWordsRow.veiledFits Tryz.pinned.checked.prog Tryz.f6.params.toList (Tryz.f6.params.toList++Rows.topSharedWordsSpec.plain.varTypes Tryz.pinned.checked.prog++Tryz.f6.resultTypes.toList))=true:=by kernel_rfl
theorem named:Tryz.pinned.checked.prog.funcNamed Rows.topSharedWordsRow.func=some 6:=by kernel_rfl
end TopSharedWordsP
end Go.Proofs.YtfmelbioccbdoaaGreat
end
