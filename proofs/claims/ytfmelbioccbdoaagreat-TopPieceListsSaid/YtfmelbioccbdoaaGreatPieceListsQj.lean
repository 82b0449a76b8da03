/-
  Part 10 of 10 of what the last text stands on: lemmas about the model, pure functions, walks, laws in plain Lean; each part's own head says its condition. Merged by a program of our own.
-/
import Derived.Test.YtfmelbioccbdoaaGreatPieceListsQi
import Derived.Test.YtfmelbioccbdoaaGreatRows
import Derived.JoinedOf
set_option maxHeartbeats 0
set_option linter.all false
section
namespace Go.Proofs.YtfmelbioccbdoaaGreat
open Go Go.Md Go.RowKit
namespace L5
section
section
variable {L:List Ba}{al:Int->Bool}
theorem KV{k:Nat}{x:Ba}(h:L[k]?=some x):ix L (k:Int)=some x:=by unfold ix;rw[if_pos (by omega),Int.toNat_natCast,h]
theorem key_ok{r:Int}(h:0<=r/\r<12):PL ((true,r):Bool×Int)=some ():=by
 unfold PL;rw[if_pos];show(Lit.int .i64 r).wf=true;have h1:IntKind.i64.min=-9223372036854775808:=rfl;have h2:IntKind.i64.max=9223372036854775807:=rfl;simp[Lit.wf,h1,h2];omega
theorem X4{a:Int}{R:Nat->Prop}:(∀k∈Gn L al a,∀x,ix L k=some x->R x.2.toNat)↔Nb L al a R:=by
 constructor
 ·intro h k x hk ha hal
  exact h k (Ua.2 ⟨k,rfl,x,hk,ha,hal⟩) x (KV hk)
 ·intro h k hk x hx
  obtain⟨i,rfl,y,hy,ha,hal⟩:=Ua.1 hk;rw[KV hy]at hx;cases hx;exact h i _ hy ha hal
theorem FS.done{left:Int}{P:CF}{S:Df}(hP:VP L al P):FS L al left [] P S (false,P,S):=
 ⟨hP,fun _ h=>h,fun _ _=>rfl,fun _=>⟨rfl,(fun k hk=>by cases hk),fun r _ h1 h2=>absurd h1 h2⟩,(fun h=>by cases h),fun R _=>⟨fun _ _=>rfl,fun _=>rfl⟩⟩
theorem dz{P P':CF}{r:Nat}(h:pa P' r=pa P r):lf L P' r=lf L P r:=by unfold lf;rw[h]
theorem Nb.mono{a:Int}{R R':Nat->Prop}(h:Nb L al a R)(hR:∀r,R r->R' r):Nb L al a R':=fun k x h1 h2 h3=>hR _ (h k x h1 h2 h3)
theorem Oe(hv:Kt L){left:Int}{f:Int->CF->Df->Option (Bool×CF×Df)}{m:Nat}(hf:∀a P S,VP L al P->un S<m->∃q,f a P S=some q/\FS L al a (Gn L al a) P S q):
  ∀(l:List Int)(P:CF)(S:Df),(∀k∈l,k∈Gn L al left)->VP L al P->un S<m+1->∃q,Ie L f l P S=some q/\FS L al left l P S q
 |[],P,S,_,hP,_=>⟨_,rfl,FS.done hP⟩
 |k::l,P,S,hl,hP,hm=>by
  obtain⟨i,rfl,x,hx,hxl,hal⟩:=Ua.1 (hl k (List.mem_cons_self ..));have hb:=hv.2 x (List.mem_of_getElem? hx);have hlen:=hv.1;have hi:i<L.length:=(List.getElem?_eq_some_iff.1 hx).1;obtain⟨r,hr⟩:∃r:Nat,x.2=(r:Int):=⟨x.2.toNat,by omega⟩;have hr12:r<12:=by omega
  have hl':∀k∈l,k∈Gn L al left:=fun k hk=>hl k (List.mem_cons_of_mem _ hk);unfold Ie;rw[KV hx];simp only[Am,AJ];rw[key_ok hb.1];simp only[AJ];have hw:Aa ((i:Int)+1)=(i:Int)+1:=Au (by omega);rw[hr];by_cases hs:sn S r
  ·rw[if_pos (show decide (BQ 0 S (true,(r:Int))=1)=true from decide_eq_true hs)];obtain⟨q,e,F⟩:=Oe hv hf l P S hl' hP hm;refine⟨q,e,F.vp,F.mono,F.keep,fun h=>?_,F.succ,fun R hR=>?_⟩
   ·obtain⟨h1,h2,h3⟩:=F.fail h
    refine⟨h1,fun k hk y hy=>?_,h3⟩;rcases List.mem_cons.1 hk with rfl|hk
    ·rw[KV hx]at hy
     cases hy;rw[hr,Int.toNat_natCast];exact F.mono _ hs
    ·exact h2 k hk y hy
   ·exact⟨(F.clo R hR).1,fun h=>(F.clo R hR).2 fun k hk=>h k (List.mem_cons_of_mem _ hk)⟩
  ·rw[if_neg (show¬decide (BQ 0 S (true,(r:Int))=1)=true from fun h=>hs (of_decide_eq_true h)),dx hr12]
   simp only[AJ];by_cases ho:pa P r=0
   ·rw[if_pos (decide_eq_true ho),hw];refine⟨_,rfl,fun r' h12 hne=>?_,fun r' h=>JZ.2 (.inr h),fun r' h=>?_,(fun h=>by cases h),fun _=>⟨?_,fun a=>?_⟩,fun R hR=>⟨fun r' h=>?_,fun h=>?_⟩⟩
    ·rw[II hr12]at hne⊢
     by_cases e:r'=r
     ·rw[if_pos e];subst e;exact⟨i,rfl,x,hx,hr,hal⟩
     ·rw[if_neg e]at hne⊢;exact hP r' h12 hne
    ·rw[II hr12,if_neg (fun e:r'=r=>hs (e▸h))]
    ·have:=ZB (P:=P) (v:=(i:Int)+1) hr12 (by omega)
     simpa[ho]using this
    ·have:=ZC (P:=P) hr12 hx a
     rw[RN ho,hxl]at this;simpa using this
    ·rw[II hr12,if_neg (fun e=>(hR r' h).2.1 (by rw[e,ho]))]
    ·have h1:=h i (List.mem_cons_self ..) x (KV hx)
     rw[hr,Int.toNat_natCast]at h1;exact absurd ho (hR r h1).2.1
   ·rw[if_neg (by simpa using ho)];obtain⟨k0,hk0,y,hy,hy2,hyal⟩:=hP r hr12 ho;have hlf:lf L P r=some y.1:=O4 hk0 hy;have hk0l:k0<L.length:=(List.getElem?_eq_some_iff.1 hy).1;have hw2:Aa (pa P r-1)=(k0:Int):=by rw[hk0,Au (by omega)];omega
    rw[hw2,KV hy];simp only[AJ];have hun:=jZ (S:=S) hr12 hs;obtain⟨q,e,G⟩:=hf y.1 P (BL S (true,(r:Int)) 1) hP (by omega);rw[e];simp only[AJ];rcases hq:q.1 with _|_
    ·rw[if_neg (by simp)];obtain⟨g1,g2,g3⟩:=G.fail hq;have hmono:∀r',sn S r'->sn q.2.2 r':=fun r' h=>G.mono r' (JZ.2 (.inr h));have hsr:sn q.2.2 r:=G.mono r (JZ.2 (.inl rfl));have hun2:un q.2.2<m+1:=by
      have:un q.2.2<=un (BL S (true,(r:Int)) 1):=by
       unfold un;refine List.countP_mono_left fun x _ h=>?_;simp only[decide_eq_true_eq]at h⊢;exact fun h1=>h (G.mono x h1)
      omega
     rw[g1];obtain⟨q',e',F⟩:=Oe hv hf l P q.2.2 hl' hP hun2;refine⟨q',e',F.vp,fun r' h=>F.mono r' (hmono r' h),fun r' h=>F.keep r' (hmono r' h),fun h=>?_,F.succ,fun R hR=>⟨(F.clo R hR).1,fun h=>(F.clo R hR).2 fun k hk=>h k (List.mem_cons_of_mem _ hk)⟩⟩;obtain⟨h1,h2,h3⟩:=F.fail h;refine⟨h1,fun k hk z hz=>?_,fun r' h12 hr1 hr2=>?_⟩
     ·rcases List.mem_cons.1 hk with rfl|hk
      ·rw[KV hx]at hz
       cases hz;rw[hr,Int.toNat_natCast];exact F.mono _ hsr
      ·exact h2 k hk z hz
     ·by_cases hq2:sn q.2.2 r'
      ·by_cases er:r'=r
       ·subst er
        refine⟨ho,fun a ha=>?_⟩;rw[hlf]at ha;cases ha;exact(X4.1 g2).mono fun _ h=>F.mono _ h
       ·obtain⟨h4,h5⟩:=g3 r' h12 hq2 (fun h=>by rcases JZ.1 h with h|h;exact er h;exact hr2 h)
        exact⟨h4,fun a ha=>(h5 a ha).mono fun _ h=>F.mono _ h⟩
      ·exact h3 r' h12 hr1 hq2
    ·rw[if_pos rfl,hw];have hpr:pa q.2.1 r=pa P r:=G.keep r (JZ.2 (.inl rfl));obtain⟨s1,s2⟩:=G.succ hq;refine⟨_,rfl,fun r' h12 hne=>?_,fun r' h=>G.mono r' (JZ.2 (.inr h)),fun r' h=>?_,(fun h=>by cases h),fun _=>⟨?_,fun a=>?_⟩,fun R hR=>?_⟩
     ·rw[II hr12]at hne⊢
      by_cases e:r'=r
      ·rw[if_pos e];subst e;exact⟨i,rfl,x,hx,hr,hal⟩
      ·rw[if_neg e]at hne⊢;exact G.vp r' h12 hne
     ·rw[II hr12,if_neg (fun e:r'=r=>hs (e▸h))]
      exact G.keep r' (JZ.2 (.inr h))
     ·have:=ZB (P:=q.2.1) (v:=(i:Int)+1) hr12 (by omega)
      rw[hpr]at this;simp only[ho,ne_eq,not_false_eq_true,if_true]at this;show mc (Cc q.2.1 (r:Int) ((i:Int)+1))=_;omega
     ·have:=ZC (P:=q.2.1) hr12 hx a
      rw[dz hpr,hlf,hxl]at this;have h2:=s2 a;show cn L (Cc q.2.1 (r:Int) ((i:Int)+1)) a=_;by_cases e1:a=y.1
      ·subst e1
       simp only[if_true]at this h2;omega
      ·rw[if_neg e1]at h2
       rw[if_neg (by simpa[eq_comm]using e1)]at this;omega
     ·have hnr:¬R r:=fun h=>by
       have h1:=(G.clo R hR).2 (X4.2 ((hR r h).2.2 _ hlf));rw[hq]at h1;cases h1
      refine⟨fun r' h=>?_,fun h=>?_⟩
      ·rw[II hr12,if_neg (fun e:r'=r=>hnr (e▸h))]
       exact(G.clo R hR).1 r' h
      ·have h1:=h i (List.mem_cons_self ..) x (KV hx)
       rw[hr,Int.toNat_natCast]at h1;exact absurd h1 hnr
theorem R5(hv:Kt L):∀(m:Nat)(left:Int)(P:CF)(S:Df),VP L al P->un S<m->∃q,GZ L al m left P S=some q/\FS L al left (Gn L al left) P S q
 |0,_,_,_,_,h=>by omega
 |m+1,left,P,S,hP,h=>by
  unfold GZ;exact Oe hv (fun a P S h1 h2=>R5 hv m a P S h1 h2) _ P S (fun _ h=>h) hP h
end
end
section
theorem NA{α:Type}[DecidableEq α]:∀{l k:List α},l.Nodup->(∀a∈l,a∈k)->l.length<=k.length
 |[],_,_,_=>Nat.zero_le _
 |a::l,k,hn,h=>by
  have h1:=List.nodup_cons.1 hn;have ha:=h a (List.mem_cons_self ..);have:=NA (k:=k.erase a) h1.2 fun b hb=>(List.mem_erase_of_ne (fun e:b=a=>h1.1 (e▸hb))).2 (h b (List.mem_cons_of_mem _ hb));rw[List.length_erase_of_mem ha]at this;have hp:=List.length_pos_of_mem ha;rw[List.length_cons];omega
section
variable {L:List Ba}{al:Int->Bool}
structure JN(L:List Ba)(al:Int->Bool)(n:Int)(P:CF):Prop where
 vp:VP L al P
 one:∀a,cn L P a<=1
 out:∀a,a<0\/n<=a->cn L P a=0
 clo:∃R,oV L al P R/\∀a,0<=a->a<n->cn L P a=0->Nb L al a R
theorem RQ{r:Nat}:pa (Ar.fill 12 0) r=0:=by
 unfold pa;show(List.replicate 12 (0:Int)).getD r 0=0;rw[List.getD_eq_getElem?_getD,List.getElem?_replicate];split<;>rfl
theorem JN.zero:JN L al 0 (Ar.fill 12 0):=by
 have h:∀a,cn L (Ar.fill 12 0) a=0:=fun a=>by
  unfold cn;rw[List.countP_eq_zero];intro r _;simp[RN RQ]
 exact⟨fun r _ h=>absurd RQ h,fun a=>by rw[h a];exact Nat.zero_le _,fun a _=>h a,fun _=>False,fun r h=>h.elim,fun a h1 h2=>by omega⟩
theorem X5{P:CF}:mc P<=12:=by unfold mc;exact Nat.le_trans List.countP_le_length (by simp)
theorem nW{S:Df}:un S<=12:=by unfold un;exact Nat.le_trans List.countP_le_length (by simp)
theorem fZ:mc (Ar.fill 12 0)=0:=by
 unfold mc;rw[List.countP_eq_zero];intro r _;simp[RQ]
theorem RS(hv:Kt L){F n:Nat}(hF:12<F)(hn:n<=1000):∀(m i:Nat)(P:CF),i<=n->n-i<m->JN L al i P->∃Q,Ig L al F n m i (mc P:Int) P=some ((mc Q:Int),Q)/\JN L al n Q
 |0,_,_,_,h,_=>by omega
 |m+1,i,P,hi,hm,hJ=>by
  unfold Ig;by_cases hlt:i<n
  ·rw[if_pos (by simpa using hlt)]
   obtain⟨q,e,G⟩:=R5 hv F (i:Int) P [] hJ.vp (Nat.lt_of_le_of_lt nW hF);rw[e];simp only[Am,AJ];have hw:Aa ((i:Int)+1)=((i+1:Nat):Int):=by rw[Au (by omega)];rfl
   obtain⟨R,hR,hRn⟩:=hJ.clo;rcases hq:q.1 with _|_
   ·obtain⟨g1,g2,g3⟩:=G.fail hq
    rw[if_neg (by simp[g1]),hw,g1];refine RS hv hF hn m (i+1) P (by omega) (by omega) ⟨hJ.vp,hJ.one,fun a ha=>hJ.out a (by omega),fun r=>R r\/(r<12/\sn q.2.2 r),?_,fun a h0 h1 hc=>?_⟩
    ·intro r hr
     rcases hr with hr|⟨h12,hr⟩
     ·exact⟨(hR r hr).1,(hR r hr).2.1,fun a ha=>((hR r hr).2.2 a ha).mono fun _ h=>.inl h⟩
     ·have h0:¬sn ([]:Df) r:=by unfold sn;simp[BQ]
      obtain⟨h1,h2⟩:=g3 r h12 hr h0;refine⟨h12,h1,fun a ha k x hx hxa hal=>.inr ⟨?_,h2 a ha k x hx hxa hal⟩⟩;have:=(hv.2 x (List.mem_of_getElem? hx)).1;omega
    ·by_cases ea:a=(i:Int)
     ·subst ea
      intro k x hx hxa hal;refine .inr ⟨?_,X4.1 g2 k x hx hxa hal⟩;have:=(hv.2 x (List.mem_of_getElem? hx)).1;omega
     ·exact(hRn a h0 (by omega) hc).mono fun _ h=>.inl h
   ·obtain⟨s1,s2⟩:=G.succ hq
    have hne:q.2.1≠P:=fun e=>by rw[e]at s1;omega
    have hmc:=X5 (P:=P);have hwc:Aa ((mc P:Int)+1)=((mc q.2.1:Nat):Int):=by rw[Au (by omega),s1];rfl
    rw[if_pos (by simp[hne]),hw,hwc];refine RS hv hF hn m (i+1) q.2.1 (by omega) (by omega) ⟨G.vp,fun a=>?_,fun a ha=>?_,R,fun r hr=>?_,fun a h0 h1 hc=>?_⟩
    ·rw[s2 a]
     by_cases ea:a=(i:Int)
     ·subst ea;rw[hJ.out _ (.inr (Int.le_refl _))];simp
     ·rw[if_neg ea];exact hJ.one a
    ·rw[s2 a,if_neg (by omega),hJ.out a (by omega)]
    ·obtain⟨h1,h2,h3⟩:=hR r hr
     have hp:=(G.clo R hR).1 r hr;exact⟨h1,by rw[hp];exact h2,fun a ha=>h3 a (by rw[<-dz hp];exact ha)⟩
    ·rw[s2 a]at hc
     by_cases ea:a=(i:Int)
     ·rw[if_pos ea]at hc;omega
     ·exact hRn a h0 (by omega) (by omega)
  ·have:i=n:=by omega
   subst this;rw[if_neg (by simp)];exact⟨P,rfl,hJ⟩
theorem ZF(hv:Kt L){F n:Nat}(hF:1000<F)(hn:n<=1000):∃Q,FL F L n al=some ((mc Q:Int),Q)/\JN L al n Q:=by
 obtain⟨Q,e,h⟩:=RS (al:=al) hv (F:=F) (n:=n) (by omega) hn F 0 (Ar.fill 12 0) (Nat.zero_le _) (by omega) JN.zero;refine⟨Q,?_,h⟩;unfold FL;rw[fZ]at e;exact e
def Jg(L:List Ba)(M:List Nat):Prop:=M.Pairwise fun i j=>∀x y,L[i]?=some x->L[j]?=some y->x.1≠y.1/\x.2≠y.2
theorem jk{P:CF}{a:Int}(h:cn L P a≠0):∃r,r<12/\lf L P r=some a:=by
 unfold cn at h;have:=List.countP_pos_iff.1 (Nat.pos_of_ne_zero h);obtain⟨r,hr,e⟩:=this;exact⟨r,List.mem_range.1 hr,by simpa using e⟩
theorem JN.max(hv:Kt L){n:Nat}{P:CF}(h:JN L al n P){M:List Nat}(hl:∀k∈M,∃x,L[k]?=some x/\al k=true/\x.1<n)(hd:Jg L M):M.length<=mc P:=by
 obtain⟨R,hR,hRn⟩:=h.clo;have ex:∀k,∃r,k∈M->r<12/\pa P r≠0/\∃x,L[k]?=some x/\((R r/\x.2=r)\/(¬R r/\lf L P r=some x.1)):=fun k=>by
  by_cases hk:k∈M
  ·obtain⟨x,hx,hal,hxn⟩:=hl k hk
   have hb:=hv.2 x (List.mem_of_getElem? hx);by_cases hr:R x.2.toNat
   ·exact⟨x.2.toNat,fun _=>⟨(hR _ hr).1,(hR _ hr).2.1,x,hx,.inl ⟨hr,by omega⟩⟩⟩
   ·have hc:cn L P x.1≠0:=fun e=>hr (hRn x.1 hb.2.1 hxn e k x hx rfl hal)
    obtain⟨r,h12,e⟩:=jk hc;refine⟨r,fun _=>⟨h12,fun e0=>(by rw[RN e0]at e;cases e),x,hx,.inr ⟨fun hRr=>hr ((hR r hRr).2.2 _ e k x hx rfl hal),e⟩⟩⟩
  ·exact⟨0,fun h=>absurd h hk⟩
 obtain⟨φ,hφ⟩:=Classical.axiomOfChoice ex;have hnd:(M.map φ).Nodup:=by
  rw[List.Nodup,List.pairwise_map];refine List.Pairwise.imp_of_mem ?_ hd;intro i j hi hj hij e;obtain⟨_,_,x,hx,h1⟩:=hφ i hi;obtain⟨_,_,y,hy,h2⟩:=hφ j hj;obtain⟨n1,n2⟩:=hij x y hx hy;rw[<-e]at h2;rcases h1 with⟨a1,a2⟩|⟨a1,a2⟩<;>rcases h2 with⟨b1,b2⟩|⟨b1,b2⟩
  ·exact n2 (by rw[a2,b2])
  ·exact b1 a1
  ·exact a1 b1
  ·rw[a2]at b2;exact n1 (Option.some.inj b2)
 have:=NA (k:=(List.range 12).filter fun r=>decide (pa P r≠0)) hnd fun r hr=>by
  obtain⟨k,hk,rfl⟩:=List.mem_map.1 hr;obtain⟨h1,h2,_⟩:=hφ k hk;exact List.mem_filter.2 ⟨List.mem_range.2 h1,by simpa using h2⟩
 rw[List.length_map,<-List.countP_eq_length_filter]at this;exact this
def Nq(P:CF):List Nat:=((List.range 12).filter fun r=>decide (pa P r≠0)).map fun r=>(pa P r-1).toNat
theorem RX{P:CF}:(Nq P).length=mc P:=by unfold Nq mc;rw[List.length_map,List.countP_eq_length_filter]
theorem fe{n:Int}{P:CF}(h:JN L al n P){k:Nat}(hk:k∈Nq P):∃x,L[k]?=some x/\al k=true:=by
 obtain⟨r,hr,rfl⟩:=List.mem_map.1 hk;obtain⟨h1,h2⟩:=List.mem_filter.1 hr;obtain⟨k,e,x,hx,_,hal⟩:=h.vp r (List.mem_range.1 h1) (by simpa using h2);rw[e,show((k:Int)+1-1).toNat=k by omega];exact⟨x,hx,hal⟩
theorem jl{P:CF}{a:Int}{r s:Nat}(hr:r<s)(hs:s<12)(h1:lf L P r=some a)(h2:lf L P s=some a):2<=cn L P a:=by
 have e1:=Kh (f:=fun i=>decide (lf L P i=some a)) (g:=fun i=>if i=r then false else decide (lf L P i=some a)) (r:=r) (fun i hi=>by simp[hi]) (Nat.lt_trans hr hs);have e2:0<(List.range 12).countP (fun i=>if i=r then false else decide (lf L P i=some a)):=
  List.countP_pos_iff.2 ⟨s,List.mem_range.2 hs,by rw[if_neg (show¬s=r by omega)];simpa using h2⟩
 rw[if_neg (by simp),if_pos (by simpa using h1)]at e1;unfold cn;omega
theorem jo{n:Int}{P:CF}(h:JN L al n P):Jg L (Nq P):=by
 unfold Jg Nq;rw[List.pairwise_map];refine List.Pairwise.imp_of_mem ?_ (List.Pairwise.filter _ (List.pairwise_lt_range (n:=12)));intro r s hr hs hlt x y hx hy;obtain⟨h1,h2⟩:=List.mem_filter.1 hr;obtain⟨h3,h4⟩:=List.mem_filter.1 hs;obtain⟨k,e,x',hx',e1,_⟩:=h.vp r (List.mem_range.1 h1) (by simpa using h2);obtain⟨j,e',y',hy',e2,_⟩:=h.vp s (List.mem_range.1 h3) (by simpa using h4);rw[e,show((k:Int)+1-1).toNat=k by omega,hx']at hx;rw[e',show((j:Int)+1-1).toNat=j by omega,hy']at hy;cases hx;cases hy;refine⟨fun ee=>?_,by omega⟩;have a1:=O4 e hx';have a2:=O4 e' hy';rw[<-ee]at a2;have:=jl hlt (List.mem_range.1 h3) a1 a2;have:=h.one x.1;omega
end
end
end L5
end Go.Proofs.YtfmelbioccbdoaaGreat
end
section
namespace Go.Proofs.YtfmelbioccbdoaaGreat
open Go Go.Md Go.RowKit
def Uf(T:Int)(r:Int×Int×Int):Bool:=Ki 0 T r.1&&Ki 0 T r.2.1&& !decide (r.1=r.2.1)&&Ki (-100000) 100000 r.2.2
def Hg(x:Int×List (Int×Int×Int)):Int:=
 if 60<x.2.length then 6 else if Ki 1 20 x.1=true then(if x.2.all (Uf x.1)=true then 0 else 3)else 2
theorem fo{α:Type}{p:α->Bool}(l:List α):(l.any fun x=>!p x)=!l.all p:=by
 induction l with
 |nil=>rfl
 |cons a l ih=>simp[ih,Bool.not_and]
theorem ZG{x:Int×List (Int×Int×Int)}(h:Hg x=0):x.2.length<=60/\1<=x.1/\x.1<=20/\∀r∈x.2,Uf x.1 r=true:=by
 unfold Hg at h;split at h
 ·cases h
 ·rename_i h1
  split at h
  ·rename_i h2
   split at h
   ·rename_i h3
    simp only[Ki,Bool.and_eq_true,decide_eq_true_eq]at h2;exact⟨by omega,h2.1,h2.2,List.all_eq_true.1 h3⟩
   ·cases h
  ·cases h
def MF(n:Nat):List (Int×Int×Int):=(List.range n).flatMap fun(t:Nat)=>[(0,(t:Int)+1,100000),((t:Int)+1,0,0)]
theorem Qn(n:Nat):MF (n+1)=MF n++[(0,(n:Int)+1,100000),((n:Int)+1,0,0)]:=by simp[MF,List.range_succ]
theorem ZH(n:Nat):(MF n).length=2*n:=by
 induction n with
 |zero=>rfl
 |succ n ih=>rw[Qn,List.length_append,ih];simp;omega
def FP(x:Int×List (Int×Int×Int)):List (Int×Int×Int):=x.2++MF x.1.toNat
theorem Fz{α:Type}{b:Nat}{l k:List α}(h:(l.length+k.length)*b<=140737488355328):app b l k=some (l++k):=by
 unfold app;rw[if_pos h]
theorem ZI{F:Nat}{x:Int×List (Int×Int×Int)}{N:Nat}(hN:x.1=N)(h20:N<=20)(hl:x.2.length<=60):∀(m k:Nat),k<=N->N-k<m->
  JQ F x m (x.2++MF k) ((k:Int)+1)=some (x.2++MF N)
 |0,k,_,h=>by omega
 |m+1,k,hk,h=>by
  unfold JQ;by_cases hlt:k<N
  ·rw[if_pos (by simp;omega)]
   have hlen:=ZH k;rw[Fz (by simp only[List.length_append,List.length_cons,List.length_nil,hlen];omega)];simp only[Am,AJ];rw[Au (by omega),List.append_assoc,<-Qn];exact ZI hN h20 hl m (k+1) (by omega) (by omega)
  ·have:k=N:=by omega
   subst this;rw[if_neg (by simp;omega)]
theorem all_eq{F:Nat}(hF:100<F){x:Int×List (Int×Int×Int)}(h0:0<=x.1)(h20:x.1<=20)(hl:x.2.length<=60):Rk F x=some (FP x):=by
 unfold Rk;rw[Fz (by simp;omega)];simp only[Am,AJ,List.nil_append];have:=ZI (F:=F) (x:=x) (N:=x.1.toNat) (by omega) (by omega) hl F 0 (Nat.zero_le _) (by omega);simp only[Int.natCast_zero,MF,List.range_zero,List.flatMap_nil,List.append_nil,Int.zero_add]at this;rw[this]
 rfl
end Go.Proofs.YtfmelbioccbdoaaGreat
end
section
namespace Go.Proofs.YtfmelbioccbdoaaGreat
open Go Go.Md Go.RowKit
namespace L5
section
structure VSh(n m:Nat)(L:List Ba):Prop where
 n1:1<=n/\n<=12
 m1:1<=m/\m<=12
 len:L.length<=40
 rg:∀x∈L,0<=x.1/\x.1<n/\0<=x.2/\x.2<m
 nd:L.Nodup
section
variable {n m:Nat}{L:List Ba}
theorem VSh.v(h:VSh n m L):Kt L:=⟨by have:=h.len;omega,fun x hx=>by have:=h.rg x hx;have:=h.n1;have:=h.m1;omega⟩
theorem VSh.ok(h:VSh n m L):ShOk ((n:Int),(m:Int),L,[])=true:=by
 unfold ShOk;simp[h.v]
theorem K6{F:Nat}{lo hi:Int}{l:List Int}(hF:l.length<F)(hl:l.length<4611686018427387904):ES F lo hi l=some (l.all (Ki lo hi)):=by
 unfold ES;rw[fU (f:=fun y=>Iu y lo hi) (p:=fun n=>decide (n<lo)||decide (hi<n)) (fun x _=>rfl) hF hl];simp only[Am,AJ,fV]
theorem Ug{l:List Ba}{f:Ba->Option Bool}(F:Nat):∀m k,BN F l f m k=HZ l f m k
 |0,_=>rfl
 |m+1,k=>by unfold BN HZ;simp only[Ug F m]
theorem bH{l:List Ba}{f:Ba->Option Bool}{p:Ba->Bool}{F:Nat}(hf:∀x∈l,f x=some (p x))(hF:l.length<F)(hl:l.length<4611686018427387904):CP F l f=some (l.any p):=by
 obtain⟨r,h1,h2,h3⟩:=KL hf hl F 0 (Nat.zero_le _) (by omega);unfold CP Da;rw[Ug];simp only[Int.natCast_zero,List.drop_zero]at h1 h2 h3;rw[h1];cases hp:l.any p with
 |true=>obtain⟨j,rfl⟩:=h2 hp;simp[Am]
 |false=>obtain rfl:=h3 hp;simp[Am]
theorem Uh{l:List Ba}{x:Ba}(F:Nat):∀m k,Bj F l x m k=HZ l (fun y=>some (decide (x=y))) m k
 |0,_=>rfl
 |m+1,k=>by unfold Bj HZ;simp only[Uh F m];rfl
theorem bI{l:List Ba}{x:Ba}{F:Nat}(hF:l.length<F)(hl:l.length<4611686018427387904):Co F l x=some (l.any fun y=>decide (x=y)):=by
 obtain⟨r,h1,h2,h3⟩:=KL (f:=fun y=>some (decide (x=y))) (p:=fun y=>decide (x=y)) (fun _ _=>rfl) hl F 0 (Nat.zero_le _) (by omega);unfold Co EJ;rw[Uh];simp only[Int.natCast_zero,List.drop_zero]at h1 h2 h3;rw[h1];cases hp:l.any (fun y=>decide (x=y))with
 |true=>obtain⟨j,rfl⟩:=h2 hp;simp
 |false=>rw[h3 hp];simp
theorem fq(h:L.Nodup){k:Nat}(hk:k<L.length):(L.take k).any (fun y=>decide (L[k]=y))=false:=by
 rw[List.any_eq_false];intro y hy;obtain⟨i,hi,rfl⟩:=List.mem_iff_getElem.1 hy;rw[List.length_take]at hi;rw[List.getElem_take];simp only[decide_eq_true_eq];intro e;have:=(List.getElem_inj h).1 e;omega
theorem ZJ{F:Nat}{x:FM}(hn:x.2.2.1.Nodup)(hl:x.2.2.1.length<=1000)(hF:1000<F):∀(m k:Nat),k<=x.2.2.1.length->x.2.2.1.length-k<m->Di F x m (k:Int)=some (.inr ())
 |0,k,_,h=>by omega
 |m+1,k,hk,h=>by
  unfold Di;by_cases hlt:k<x.2.2.1.length
  ·have e1:Ow x.2.2.1 (k:Int)=some (x.2.2.1.take k):=by unfold Ow;rw[if_pos ⟨by omega,by omega⟩,Int.toNat_natCast]
   rw[if_pos (by simpa using hlt),Bb hlt];simp only[Am,AJ];rw[e1];simp only[AJ];rw[bI (by rw[List.length_take];omega) (by rw[List.length_take];omega),show(x.2.2.1[k].1,x.2.2.1[k].2)=x.2.2.1[k]from rfl,fq hn hlt];simp only[AJ];rw[if_neg (by simp),Au (by omega)];exact ZJ hn hl hF m (k+1) (by omega) (by omega)
  ·rw[if_neg (by simpa using hlt)]
theorem Vh{F:Nat}{b:Int}(hF:0<F):Gd F [] b=some true:=by
 obtain⟨F,rfl⟩:∃g,F=g+1:=⟨F-1,by omega⟩
 rfl
theorem Vi{F:Nat}{x:FM}(hF:0<F):Gf F x []=some true:=by
 obtain⟨F,rfl⟩:∃g,F=g+1:=⟨F-1,by omega⟩
 rfl
theorem Vj{F:Nat}{b:Int}(hF:0<F):JR F [] b=some true:=by
 obtain⟨F,rfl⟩:∃g,F=g+1:=⟨F-1,by omega⟩
 rfl
theorem Vk{F:Nat}{x:FM}(hF:0<F):JS F x []=some true:=by
 obtain⟨F,rfl⟩:∃g,F=g+1:=⟨F-1,by omega⟩
 rfl
theorem Ps{F:Nat}(hF:1000<F)(h:VSh n m L):EY F ((n:Int),(m:Int),L,[])=some 0:=by
 have h1:=h.n1;have h2:=h.m1;have h3:=h.len;unfold EY;rw[K6 (by simp;omega) (by simp)];have e1:[(n:Int),(m:Int)].all (Ki 1 12)=true:=by simp[Ki];omega
 simp only[Am,AJ];rw[e1,if_neg (by simp),if_neg (by simp;omega)];rw[bH (p:=fun _=>false) (fun x hx=>by
  have h4:=h.rg x hx;have a1:Ki 0 (Aa ((n:Int)-1)) x.1=true:=by rw[Au (by omega)];simp[Ki];omega
  have a2:Ki 0 (Aa ((m:Int)-1)) x.2=true:=by rw[Au (by omega)];simp[Ki];omega
  unfold Gl;show(ES F 0 (Aa ((n:Int)-1)) [x.1]>>=fun x3=>gd (!(!x3)) (ES F 0 (Aa ((m:Int)-1)) [x.2]) false>>=fun x4=>some ((!x3)||(!x4)))=some false;rw[K6 (by simp;omega) (by simp),K6 (by simp;omega) (by simp)];simp[a1,a2,gd]) (by omega) (by omega)]
 have e2:(L.any fun _=>false)=false:=by simp
 have e3:=ZJ (F:=F) (x:=((n:Int),(m:Int),L,[])) h.nd (by show L.length<=1000;omega) hF F 0 (Nat.zero_le _) (by show L.length-0<F;omega);simp only[AJ];rw[e2,if_neg (by simp),show(0:Int)=((0:Nat):Int)from rfl,e3];simp only[AJ];rw[Vh (by omega)];simp only[AJ,gd,Bool.not_true,Bool.not_false,cond_true];rw[Vi (by omega)];simp
theorem ZK{F:Nat}{x:FM}(hr:∀y∈x.2.2.1,0<=y.1/\y.1<x.1/\0<=y.2/\y.2<x.2.1)(hl:x.2.2.1.length<=1000):∀(m k:Nat),k<=x.2.2.1.length->x.2.2.1.length-k<m->DN F x m (k:Int)=some (.inr ())
 |0,k,_,h=>by omega
 |m+1,k,hk,h=>by
  unfold DN;by_cases hlt:k<x.2.2.1.length
  ·rw[if_pos (by simpa using hlt),Bb hlt]
   simp only[Am,AJ];have:=hr _ (List.getElem_mem hlt);rw[if_neg (by simp only[Bool.or_eq_true,decide_eq_true_eq];omega),Au (by omega)];exact ZK hr hl m (k+1) (by omega) (by omega)
  ·rw[if_neg (by simpa using hlt)]
theorem ZL{F:Nat}{x:FM}(hn:x.2.2.1.Nodup)(hl:x.2.2.1.length<=1000){i:Nat}(hi:i<x.2.2.1.length):∀(m k:Nat),k<=i->i-k<m->DR F x (i:Int) m (k:Int)=some (.inr ())
 |0,k,_,h=>by omega
 |m+1,k,hk,h=>by
  unfold DR;by_cases hlt:k<i
  ·rw[if_pos (by simpa using hlt),Bb hi,Bb (show k<x.2.2.1.length by omega)]
   simp only[Am,AJ];rw[if_neg (by
    rw[decide_eq_true_eq];intro e;have e:x.2.2.1[i]=x.2.2.1[k]:=e;have:=(List.getElem_inj hn).1 e;omega),Au (by omega)]
   exact ZL hn hl hi m (k+1) (by omega) (by omega)
  ·rw[if_neg (by simpa using hlt)]
theorem ZM{F:Nat}{x:FM}(hF:1000<F)(hn:x.2.2.1.Nodup)(hl:x.2.2.1.length<=1000):∀(m k:Nat),k<=x.2.2.1.length->x.2.2.1.length-k<m->DT F x m (k:Int)=some (.inr ())
 |0,k,_,h=>by omega
 |m+1,k,hk,h=>by
  unfold DT;by_cases hlt:k<x.2.2.1.length
  ·rw[if_pos (by simpa using hlt)]
   have e:=ZL (F:=F) hn hl hlt F 0 (Nat.zero_le _) (by omega);rw[show((0:Nat):Int)=0 from rfl]at e;rw[e];simp only[Am,AJ];rw[Au (by omega)];exact ZM hF hn hl m (k+1) (by omega) (by omega)
  ·rw[if_neg (by simpa using hlt)]
theorem ZN{F:Nat}(hF:1000<F)(h:VSh n m L):Fv F ((n:Int),(m:Int),L,[])=some 0:=by
 have h1:=h.n1;have h2:=h.m1;have h3:=h.len;unfold Fv;rw[if_neg (by simp only[Bool.or_eq_true,decide_eq_true_eq];omega),if_neg (by simp;omega)];have e3:=ZK (F:=F) (x:=((n:Int),(m:Int),L,[])) h.rg (by show L.length<=1000;omega) F 0 (Nat.zero_le _) (by show L.length-0<F;omega);have e4:=ZM (F:=F) (x:=((n:Int),(m:Int),L,[])) hF h.nd (by show L.length<=1000;omega) F 0 (Nat.zero_le _) (by show L.length-0<F;omega);rw[show((0:Nat):Int)=0 from rfl]at e3 e4;rw[e3];simp only[Am,AJ];rw[e4];simp only[AJ];rw[Vj (by omega)];simp only[AJ,gd,Bool.not_true,Bool.not_false,cond_true];rw[Vk (by omega)];simp
end
section
variable {n m:Nat}{L:List Ba}{al:Int->Bool}
structure Jo(L:List Ba)(al:Int->Bool)(M:List Nat):Prop where
 mem:∀k∈M,∃x,L[k]?=some x/\al k=true
 jg:Jg L M
structure GM(L:List Ba)(al:Int->Bool)(t:Nat):Prop where
 ex:∃M,Jo L al M/\M.length=t
 le:∀M,Jo L al M->M.length<=t
theorem Jo.nodup{M:List Nat}(h:Jo L al M):M.Nodup:=by
 refine List.Pairwise.imp_of_mem (fun{a b} ha hb hab e=>?_) h.jg;subst e;obtain⟨x,hx,-⟩:=h.mem a ha;exact(hab _ _ hx hx).1 rfl
theorem Jo.le{M:List Nat}(h:Jo L al M):M.length<=((List.range L.length).filter fun k:Nat=>al (k:Int)).length:=
 NA h.nodup fun k hk=>by
  obtain⟨x,hx,ha⟩:=h.mem k hk;exact List.mem_filter.2 ⟨List.mem_range.2 (List.getElem?_eq_some_iff.1 hx).1,ha⟩
theorem O6{F:Nat}(hF:1000<F)(h:VSh n m L)(al:Int->Bool):∃Q,FL F L n al=some ((mc Q:Int),Q)/\JN L al n Q/\GM L al (mc Q):=by
 have:=h.n1;obtain⟨Q,e1,e2⟩:=ZF (al:=al) h.v hF (n:=n) (by omega);refine⟨Q,e1,e2,⟨Nq Q,⟨fun k hk=>fe e2 hk,jo e2⟩,RX⟩,fun M hM=>e2.max h.v (fun k hk=>?_) hM.jg⟩;obtain⟨x,hx,ha⟩:=hM.mem k hk;exact⟨x,hx,ha,(h.rg x (List.mem_of_getElem? hx)).2.1⟩
theorem Pt{F:Nat}{Q:CF}(hv:Kt L)(hq:VP L al Q):∀(m k:Nat)(o:List Int),k<=12->12-k<m->o.length<=k->
  ED F Q m o (k:Int)=some (o++(((List.range' k (12-k)).filter fun r=>decide (pa Q r≠0)).map fun r=>(((pa Q r-1).toNat:Nat):Int)))
 |0,k,_,_,h,_=>by omega
 |m+1,k,o,hk,h,ho=>by
  unfold ED;by_cases hlt:k<12
  ·rw[if_pos (by simp;omega)]
   unfold Ue;rw[dx hlt];have hr:List.range' k (12-k)=k::List.range' (k+1) (12-(k+1)):=by
    rw[show 12-k=12-(k+1)+1 by omega];rfl
   by_cases h0:pa Q k=0
   ·simp only[Am,AJ]
    rw[if_neg (by simp;omega)];simp only[AJ];rw[Au (by omega)];have e:=Pt (F:=F) hv hq m (k+1) o (by omega) (by omega) (by omega);rw[show((k:Int)+1)=((k+1:Nat):Int)from rfl,e,hr,List.filter_cons_of_neg (by simp[h0])]
   ·obtain⟨j,ej,x,hx,-,-⟩:=hq k hlt h0
    have hj:=(List.getElem?_eq_some_iff.1 hx).1;have:=hv.1;simp only[Am,AJ];rw[if_pos (by simp;omega),Fz (by simp;omega)];simp only[AJ];have ew:Aa (pa Q k-1)=(((pa Q k-1).toNat:Nat):Int):=by rw[Au (by omega)];omega
    rw[Au (n:=(k:Int)+1) (by omega),ew];have e:=Pt (F:=F) hv hq m (k+1) (o++[(((pa Q k-1).toNat:Nat):Int)]) (by omega) (by omega) (by simp;omega);rw[show((k:Int)+1)=((k+1:Nat):Int)from rfl,e,hr,List.filter_cons_of_pos (by simp[h0])];simp
  ·have:k=12:=by omega
   subst this;rw[if_neg (by simp)];simp
theorem bJ{F:Nat}(hF:1000<F)(h:VSh n m L):∃Q,JN L (fun _=>true) n Q/\GM L (fun _=>true) (mc Q)/\Hf F ((n:Int),(m:Int),L,[])=some (H6 ((Nq Q).map fun k:Nat=>(k:Int)),0):=by
 obtain⟨Q,e1,e2,e3⟩:=O6 hF h (fun _=>true);refine⟨Q,e2,e3,?_⟩;unfold Hf;simp only[Ps hF h,Am,AJ];rw[if_neg (by simp)];unfold Iy;rw[if_pos h.ok];simp only[e1,Am,AJ];have em:mks 8 (([]:List Int).length:Int) (0:Int)=some []:=rfl;rw[em];simp only[AJ];have el:=Pt (F:=F) h.v e2.vp F 0 [] (by omega) (by omega) (by simp);rw[show KO ([]:List Int) []=[]from rfl,show(0:Int)=((0:Nat):Int)from rfl,el];simp only[AJ,List.nil_append];have ef:((List.range' 0 (12-0)).filter fun r=>decide (pa Q r≠0)).map (fun r=>(((pa Q r-1).toNat:Nat):Int))=(Nq Q).map fun k:Nat=>(k:Int):=by
  unfold Nq;rw[List.map_map,List.range_eq_range']
  rfl
 rw[ef];unfold slices_Sort_int;have:=X5 (P:=Q);rw[if_pos (by rw[List.length_map,RX];omega)]
 rfl
theorem Qo{F:Nat}(hF:1000<F)(h:VSh n m L){c:Nat}:∀(g k:Nat)(o:List Int),k<=L.length->L.length-k<g->o.length=k->
  ∃ks,IK F L n c g (k:Int) o=some (o++ks)/\ks.length=L.length-k/\∀j(hj:k+j<L.length),∃u v,GM L (fun i=>!decide (i=((k+j:Nat):Int))) u/\GM L (Jk L L[k+j]) v/\ks[j]?=some (if u<c then 2 else if 1+v=c then 1 else 0)
 |0,k,_,_,h,_=>by omega
 |g+1,k,o,hk,hg,ho=>by
  have:=h.len;unfold IK;by_cases hlt:k<L.length
  ·rw[if_pos (by simpa using hlt),Bb hlt]
   obtain⟨Q1,a1,-,a3⟩:=O6 hF h (fun i=>!decide (i=(k:Int)));obtain⟨Q2,b1,-,b3⟩:=O6 hF h (Jk L L[k]);simp only[Am,AJ];rw[a1];simp only[AJ];rw[b1];simp only[AJ];have h12:=X5 (P:=Q2);rw[Fz (by simp;omega),Au (n:=(k:Int)+1) (by omega),Au (n:=1+(mc Q2:Int)) (by omega)];simp only[AJ];have ev:(if decide ((mc Q1:Int)<(c:Int))=true then(2:Int)else if decide (1+(mc Q2:Int)=(c:Int))=true then 1 else 0)=(if mc Q1<c then 2 else if 1+mc Q2=c then 1 else 0):=by
    by_cases c1:mc Q1<c
    ·rw[if_pos c1,if_pos (by simpa using c1)]
    ·rw[if_neg c1,if_neg (by simpa using c1)]
     by_cases c2:1+mc Q2=c
     ·rw[if_pos c2,if_pos (by simp;omega)]
     ·rw[if_neg c2,if_neg (by simp;omega)]
   rw[ev];obtain⟨ks,f1,f2,f3⟩:=Qo hF h (c:=c) g (k+1) (o++[(if mc Q1<c then(2:Int)else if 1+mc Q2=c then 1 else 0)]) (by omega) (by omega) (by simp[ho]);refine⟨_::ks,by rw[show((k:Int)+1)=((k+1:Nat):Int)from rfl,f1,List.append_assoc];rfl,by rw[List.length_cons,f2];omega,fun j hj=>?_⟩;cases j with
   |zero=>exact⟨_,_,a3,b3,rfl⟩
   |succ j=>
    obtain⟨u,v,g1,g2,g3⟩:=f3 j (by omega);refine⟨u,v,?_,?_,by rw[List.getElem?_cons_succ];exact g3⟩
    ·have ej:k+(j+1)=k+1+j:=by omega
     rw[ej];exact g1
    ·have ej:k+(j+1)=k+1+j:=by omega
     simp only[ej];exact g2
  ·rw[if_neg (by simpa using hlt)]
   exact⟨[],by simp,by simp;omega,fun j hj=>by omega⟩
theorem bK{F:Nat}(hF:1000<F)(h:VSh n m L):∃t ks,GM L (fun _=>true) t/\Jl F ((n:Int),(m:Int),L,[])=some ks/\ks.length=L.length/\
  ∀j(hj:j<L.length),∃u v,GM L (fun i=>!decide (i=(j:Int))) u/\GM L (Jk L L[j]) v/\ks[j]?=some (if u<t then 2 else if 1+v=t then 1 else 0):=by
 have:=h.len;obtain⟨Q,e1,e2,e3⟩:=O6 hF h (fun _=>true);obtain⟨ks,f1,f2,f3⟩:=Qo hF h (c:=mc Q) F 0 [] (Nat.zero_le _) (by omega) rfl;refine⟨mc Q,ks,e3,?_,by simpa using f2,fun j hj=>?_⟩
 ·unfold Jl
  rw[if_pos h.ok];simp only[e1,Am,AJ];rw[show(0:Int)=((0:Nat):Int)from rfl,f1]
  rfl
 ·obtain⟨u,v,g1,g2,g3⟩:=f3 j (by omega)
  refine⟨u,v,?_,?_,g3⟩
  ·simpa using g1
  ·simp only[Nat.zero_add]at g2;exact g2
end
end
section
section
variable {n m:Nat}{L:List Ba}{M:List Nat}
abbrev nI(M:List Nat):List Int:=M.map fun k:Nat=>(k:Int)
theorem Ui{k:Nat}(hk:k<M.length):ix (nI M) (k:Int)=some ((M[k]:Nat):Int):=by
 rw[Bb (show k<(nI M).length by rw[List.length_map];exact hk)];simp
theorem R6{F:Nat}{b:Nat}(hF:1000<F)(hb:b<=1000)(hM:M.length<=1000)(hs:M.Pairwise (·<·))(hm:∀k∈M,k<b):∀(g k:Nat),k<=M.length->M.length-k<g->Ew F (nI M) (b:Int) g (k:Int)=some (.inr ())
 |0,k,_,h=>by omega
 |g+1,k,hk,h=>by
  unfold Ew;by_cases hlt:k<M.length
  ·have h1:=hm _ (List.getElem_mem hlt)
   rw[if_pos (by simp only[List.length_map,decide_eq_true_eq];omega),Ui hlt];simp only[Am,AJ];rw[K6 (by simp;omega) (by simp)];have e1:[((M[k]:Nat):Int)].all (Ki 0 (Aa ((b:Int)-1)))=true:=by rw[Au (by omega)];simp[Ki];omega
   simp only[AJ];rw[e1,if_neg (by simp)];have ih:=R6 hF hb hM hs hm g (k+1) (by omega) (by omega);have hw:Aa ((k:Int)+1)=((k+1:Nat):Int):=by rw[Au (by omega)];rfl
   by_cases h0:0<k
   ·have ew:Aa ((k:Int)-1)=((k-1:Nat):Int):=by rw[Au (by omega)];omega
    have:=(List.pairwise_iff_getElem.1 hs) (k-1) k (by omega) hlt (by omega);rw[if_pos (by simpa using h0),ew,Ui (show k-1<M.length by omega)];simp only[AJ];rw[if_neg (by simp only[decide_eq_true_eq];omega),hw];exact ih
   ·rw[if_neg (by simpa using h0)]
    simp only[AJ];rw[if_neg (by simp),hw];exact ih
  ·rw[if_neg (by simp only[List.length_map,decide_eq_true_eq];omega)]
theorem ZO{F:Nat}{b:Nat}(hF:1000<F)(hb:b<=1000)(hM:M.length<=1000)(hs:M.Pairwise (·<·))(hm:∀k∈M,k<b):Gd F (nI M) (b:Int)=some true:=by
 unfold Gd;have e:=R6 hF hb hM hs hm F 0 (Nat.zero_le _) (by omega);rw[show((0:Nat):Int)=0 from rfl]at e;rw[e]
 rfl
def Qp(f:Ba->Int)(L:List Ba)(M:List Nat)(a:Nat):Bool:=M.any fun j=>decide ((L[j]?).map f=some (a:Int))
def Tk(f:Ba->Int)(L:List Ba)(M:List Nat)(y:CF):Prop:=∀a,a<12->y.l[a]?=some (if Qp f L M a=true then 1 else 0)
theorem Tk.get{f:Ba->Int}{y:CF}(h:Tk f L M y){a:Nat}(ha:a<12):ix y.l (a:Int)=some (if Qp f L M a=true then 1 else 0):=by
 unfold ix;rw[if_pos (by omega),Int.toNat_natCast,h a ha]
theorem Tk.add{f:Ba->Int}{y:CF}(h:Tk f L M y){j a:Nat}{x:Ba}(hj:L[j]?=some x)(ha:a<12)(e:f x=(a:Int)):Tk f L (M++[j]) (Cc y (a:Int) 1):=by
 intro b hb;have hl:=y.h;have e1:(Cc y (a:Int) 1).l=y.l.set a 1:=rfl;have e2:Qp f L (M++[j]) b=(Qp f L M b||decide (a=b)):=by
  unfold Qp;rw[List.any_append,List.any_cons,List.any_nil,Bool.or_false,hj]
  congr 1
  rw[decide_eq_decide];simp only[Option.map_some,e,Option.some.injEq];omega
 rw[e1,e2,List.getElem?_set];by_cases c:a=b
 ·rw[if_pos c,if_pos (by omega)];simp[c]
 ·rw[if_neg c,h b hb];simp[c]
theorem R7{F:Nat}(h:VSh n m L)(hM:Jo L (fun _=>true) M){x:FM}(hx:x.2.2.1=L):∀(g k:Nat)(y2 y3:CF),k<=M.length->M.length-k<g->M.length<=1000->Tk (·.1) L (M.take k) y2->Tk (·.2) L (M.take k) y3->
  FB F x (nI M) g (k:Int) y2 y3=some (.inr ())
 |0,k,_,_,_,h,_,_,_=>by omega
 |g+1,k,y2,y3,hk,hg,hl,h2,h3=>by
  unfold FB;by_cases hlt:k<M.length
  ·obtain⟨z,hz,-⟩:=hM.mem _ (List.getElem_mem hlt)
   have hr:=h.rg z (List.mem_of_getElem? hz);have hn:=h.n1;have hm':=h.m1;obtain⟨a,ea⟩:∃a:Nat,z.1=(a:Int):=⟨z.1.toNat,by omega⟩;obtain⟨b,eb⟩:∃b:Nat,z.2=(b:Int):=⟨z.2.toNat,by omega⟩;have free:∀j∈M.take k,∀y,L[j]?=some y->y.1≠z.1/\y.2≠z.2:=by
    intro j hj y hy;obtain⟨i,hi,rfl⟩:=List.mem_iff_getElem.1 hj;rw[List.length_take]at hi;rw[List.getElem_take]at hy;exact(List.pairwise_iff_getElem.1 hM.jg) i k (by omega) hlt (by omega) y z hy hz
   have t2:Qp (·.1) L (M.take k) a=false:=by
    unfold Qp;rw[List.any_eq_false];intro j hj;simp only[decide_eq_true_eq];intro e;obtain⟨y,hy,e⟩:=Option.map_eq_some_iff.1 e;exact(free j hj y hy).1 (by rw[ea];exact e)
   have t3:Qp (·.2) L (M.take k) b=false:=by
    unfold Qp;rw[List.any_eq_false];intro j hj;simp only[decide_eq_true_eq];intro e;obtain⟨y,hy,e⟩:=Option.map_eq_some_iff.1 e;exact(free j hj y hy).2 (by rw[eb];exact e)
   have g2:=h2.get (show a<12 by omega);have g3:=h3.get (show b<12 by omega);rw[t2]at g2;rw[t3]at g3;rw[if_pos (by simp only[List.length_map,decide_eq_true_eq];omega),Ui hlt];simp only[Am,AJ,hx];rw[KV hz];simp only[AJ,ea,eb];rw[g2,g3];simp only[AJ];rw[if_neg (by decide),Au (by omega)];refine R7 h hM hx g (k+1) _ _ (by omega) (by omega) hl ?_ ?_
   ·rw[List.take_succ_eq_append_getElem hlt];exact h2.add hz (by omega) ea
   ·rw[List.take_succ_eq_append_getElem hlt];exact h3.add hz (by omega) eb
  ·rw[if_neg (by simp only[List.length_map,decide_eq_true_eq];omega)]
theorem ZP{F:Nat}(hF:1000<F)(h:VSh n m L)(hM:Jo L (fun _=>true) M):Gf F ((n:Int),(m:Int),L,[]) (nI M)=some true:=by
 have h1:=hM.le;have h2:=List.length_filter_le (fun k:Nat=>true) (List.range L.length);rw[List.length_range]at h2;have h3:=h.len;have z:∀f,Tk f L [] (Ar.fill 12 0):=fun f a ha=>by
  show(List.replicate 12 (0:Int))[a]?=_;rw[List.getElem?_replicate,if_pos ha]
  rfl
 unfold Gf;have e:=R7 (F:=F) h hM (x:=((n:Int),(m:Int),L,[])) rfl F 0 (Ar.fill 12 0) (Ar.fill 12 0) (Nat.zero_le _) (by omega) (by omega) (z _) (z _);rw[show((0:Nat):Int)=0 from rfl]at e;rw[e]
 rfl
theorem Qq{F:Nat}(hF:1000<F)(h:VSh n m L)(hs:M.Pairwise (·<·))(hM:Jo L (fun _=>true) M):Fe F ((n:Int),(m:Int),L,[]) (nI M)=some 0:=by
 have h1:=hM.le;have h2:=List.length_filter_le (fun k:Nat=>true) (List.range L.length);rw[List.length_range]at h2;have h3:=h.len;unfold Fe;simp only[Ps hF h,Am,AJ];rw[if_neg (by simp),ZO hF (by omega) (by omega) hs fun k hk=>by
  obtain⟨x,hx,-⟩:=hM.mem k hk;exact(List.getElem?_eq_some_iff.1 hx).1]
 simp only[AJ];rw[if_neg (by simp),ZP hF h hM];simp only[AJ,Bool.not_true,Bool.not_false,gd,cond_true,Bool.false_or];obtain⟨G,rfl⟩:∃G,F=G+1:=⟨F-1,by omega⟩
 rfl
end
end
end L5
end Go.Proofs.YtfmelbioccbdoaaGreat
end
section
namespace Go.Proofs.YtfmelbioccbdoaaGreat
open Go Go.Md Go.RowKit
namespace Sg
abbrev To:=(Int×Int)×Int
def hi(l:List To)(p:Nat):Int:=(l[p]?.getD default).1.2
def Bd(l:List To):Prop:=∀x∈l,0<=x.1.2/\x.1.2<=10000
theorem jq{l:List To}{p:Nat}(h:p<l.length):hi l p=l[p].1.2:=by simp[hi,List.getElem?_eq_getElem h]
theorem Bd.hi{l:List To}(h:Bd l){p:Nat}(hp:p<l.length):0<=hi l p/\hi l p<=10000:=by rw[jq hp];exact h _ (List.getElem_mem hp)
def Sd(X:List To):Prop:=X.Pairwise fun x y=>x.1.2<=y.1.2
theorem Sd.get{X:List To}(h:Sd X){p q:Nat}(hpq:p<=q)(hq:q<X.length):X[p].1.2<=X[q].1.2:=by
 rcases Nat.lt_or_eq_of_le hpq with h1|rfl
 ·exact List.pairwise_iff_getElem.1 h p q (by omega) hq h1
 ·exact Int.le_refl _
theorem R8{l:List (Int×Int)}{f:(Int×Int)->Option Bool}(F:Nat):∀m k,Bc F l f m k=HZ l f m k
 |0,_=>rfl
 |m+1,k=>by unfold Bc HZ;simp only[R8 F m]
theorem ZQ{l:List (Int×Int)}{f:(Int×Int)->Option Bool}{p:(Int×Int)->Bool}{F:Nat}(hf:∀x∈l,f x=some (p x))(hF:l.length<F)(hl:l.length<4611686018427387904):Ck F l f=some (l.any p):=by
 obtain⟨r,h1,h2,h3⟩:=KL hf hl F 0 (Nat.zero_le _) (by omega);unfold Ck EB;rw[R8];simp only[Int.natCast_zero,List.drop_zero]at h1 h2 h3;rw[h1];cases hp:l.any p with
 |true=>obtain⟨j,rfl⟩:=h2 hp;simp
 |false=>rw[h3 hp];simp
theorem Uj:∀(P:List To)(q:List Int),P.Pairwise (fun a b=>a.1.2<b.1.1)->(∀x∈P,∃e∈q,x.1.1<=e/\e<=x.1.2)->P.length<=q.length
 |[],q,_,_=>Nat.zero_le _
 |a::P,q,hp,hq=>by
  have hp':=List.pairwise_cons.1 hp;obtain⟨e,he,h1,h2⟩:=hq a List.mem_cons_self;have ih:=Uj P (q.filter fun v=>decide (a.1.2<v)) hp'.2 (fun x hx=>by
   obtain⟨v,hv,h3,h4⟩:=hq x (List.mem_cons_of_mem _ hx);have:=hp'.1 x hx;exact⟨v,List.mem_filter.2 ⟨hv,by simp;omega⟩,h3,h4⟩)
  have hlt:(q.filter fun v=>decide (a.1.2<v)).length<q.length:=by
   rw[<-List.countP_eq_length_filter];have h3:=List.countP_le_length (p:=fun v=>decide (a.1.2<v)) (l:=q);rcases Nat.lt_or_ge (q.countP fun v=>decide (a.1.2<v)) q.length with h|h
   ·exact h
   ·have:=List.countP_eq_length.1 (Nat.le_antisymm h3 h) e he
    simp at this;omega
  rw[List.length_cons];omega
end Sg
end Go.Proofs.YtfmelbioccbdoaaGreat
end
section
namespace Go.Proofs.YtfmelbioccbdoaaGreat
open Go Go.Md Go.RowKit
namespace Jn
def F4(e:OX):Bool:=(decide (0<=e.1.1)&&decide (e.1.1<=e.1.2)&&decide (e.1.2<=1000))&&(decide (0<=e.2)&&decide (e.2<=100000))
theorem LC{e:OX}:F4 e=true↔(0<=e.1.1/\e.1.1<=e.1.2/\e.1.2<=1000)/\0<=e.2/\e.2<=100000:=by
 unfold F4;simp[and_assoc]
structure VC(c:Aw):Prop where
 n1:1<=c.1.length
 n8:c.1.length<=8
 ends:∀p∈c.1,F4 p.1.1=true/\F4 p.1.2=true
 off:0<=c.2.1/\c.2.1<=1000
 step:-100000<=c.2.2.1/\c.2.2.1<=c.2.2.2/\c.2.2.2<=100000
def Uk(c:Aw):Int:=
 if c.1.length<1\/8<c.1.length then 6 else if(c.1.all fun p=>F4 p.1.1&&F4 p.1.2)=false then 2 else
 if 0<=c.2.1/\c.2.1<=1000/\-100000<=c.2.2.1/\c.2.2.1<=c.2.2.2/\c.2.2.2<=100000 then 0 else 2
theorem RY{c:Aw}:Uk c=0↔VC c:=by
 unfold Uk;by_cases h0:c.1.length<1\/8<c.1.length
 ·rw[if_pos h0];exact⟨fun h=>by(cases h),fun h=>by(have:=h.n1;have:=h.n8;omega)⟩
 rw[if_neg h0];by_cases h1:(c.1.all fun p=>F4 p.1.1&&F4 p.1.2)=false
 ·rw[if_pos h1]
  refine⟨fun h=>by(cases h),fun h=>?_⟩;have:(c.1.all fun p=>F4 p.1.1&&F4 p.1.2)=true:=List.all_eq_true.2 fun p hp=>by have:=h.ends p hp;rw[this.1,this.2];rfl
  rw[this]at h1;cases h1
 rw[if_neg h1];by_cases h2:0<=c.2.1/\c.2.1<=1000/\-100000<=c.2.2.1/\c.2.2.1<=c.2.2.2/\c.2.2.2<=100000
 ·rw[if_pos h2]
  refine⟨fun _=>⟨by omega,by omega,fun p hp=>?_,⟨h2.1,h2.2.1⟩,h2.2.2⟩,fun _=>rfl⟩;have:=List.all_eq_true.1 (show(c.1.all fun p=>F4 p.1.1&&F4 p.1.2)=true by revert h1;cases(c.1.all fun p=>F4 p.1.1&&F4 p.1.2)<;>simp) p hp;simpa using this
 ·rw[if_neg h2];exact⟨fun h=>by(cases h),fun h=>absurd ⟨h.off.1,h.off.2,h.step⟩ h2⟩
theorem uh{F:Nat}{c:Aw}{k:Nat}(hk:k<c.1.length)(m:Nat):BR F c (k:Int) (m+3) 0=some (if(F4 (c.1[k]).1.1&&F4 (c.1[k]).1.2)=true then .inr ()else .inl 2):=by
 have step:∀(e:OX)(y:Int)(n:Nat),ix [(c.1[k]).1.1,(c.1[k]).1.2] y=some e->y<2->BR F c (k:Int) (n+1) y=if F4 e=true then BR F c (k:Int) n (Aa (y+1))else some (.inl 2):=by
  intro e y n he hy
  conv=>lhs;unfold BR
  rw[if_pos (by simpa using hy),Bb hk];simp only[Am,AJ];rw[he];simp only[AJ,Hr];unfold F4;by_cases c1:0<=e.1.1/\e.1.1<=e.1.2/\e.1.2<=1000/\0<=e.2/\e.2<=100000
  ·rw[if_neg (by simp;omega),if_pos (by simp;omega)]
  ·rw[if_pos (by simp;omega),if_neg (by simp;omega)]
 rw[step _ 0 (m+2) rfl (by omega)];cases h0:F4 (c.1[k]).1.1 with
 |false=>rfl
 |true=>
  rw[if_pos rfl,show Aa (0+1)=1 from rfl,step _ 1 (m+1) rfl (by omega)];cases h1:F4 (c.1[k]).1.2 with
  |false=>rfl
  |true=>
   rw[if_pos rfl,show Aa (1+1)=2 from rfl];unfold BR;rw[if_neg (by decide)];rfl
theorem oW{F:Nat}(hF:1000<F){c:Aw}(hl:c.1.length<=1000):∀(m k:Nat),k<=c.1.length->c.1.length-k<m->
  Cg F c m (k:Int)=some (if((c.1.drop k).all fun p=>F4 p.1.1&&F4 p.1.2)=true then .inr ()else .inl 2)
 |0,k,_,h=>by omega
 |m+1,k,hk,h=>by
  unfold Cg;by_cases hlt:k<c.1.length
  ·obtain⟨G,rfl⟩:∃G,F=G+3:=⟨F-3,by omega⟩
   have hd:c.1.drop k=c.1[k]::c.1.drop (k+1):=List.drop_eq_getElem_cons hlt;rw[if_pos (by simpa using hlt),uh hlt G,hd,List.all_cons];cases F4 (c.1[k]).1.1&&F4 (c.1[k]).1.2 with
   |false=>rfl
   |true=>
    rw[if_pos rfl,Bool.true_and];simp only[Am,AJ];rw[show Aa ((k:Int)+1)=((k+1:Nat):Int) by rw[Au (by omega)];rfl,oW hF hl m (k+1) (by omega) (by omega)]
  ·rw[if_neg (by simpa using hlt),List.drop_of_length_le (by omega)];rfl
theorem V8{F:Nat}(hF:1000<F)(c:Aw):Cm F c=some (Uk c):=by
 unfold Cm Uk;by_cases h0:c.1.length<1\/8<c.1.length
 ·rw[if_pos h0,if_pos (by simp;omega)]
 ·rw[if_neg h0,if_neg (by simp;omega)]
  have:=oW hF (c:=c) (by omega) F 0 (by omega) (by omega);rw[show((0:Nat):Int)=0 from rfl,List.drop_zero]at this;rw[this];cases h1:c.1.all fun p=>F4 p.1.1&&F4 p.1.2 with
  |false=>rfl
  |true=>
   rw[if_pos rfl,if_neg (by simp)];simp only[Am,AJ];by_cases h2:0<=c.2.1/\c.2.1<=1000
   ·have e1:(!((decide (c.2.1<0))||(decide (1000<c.2.1))))=true:=by simp;omega
    rw[e1];simp only[gd,cond_true,Hr,AJ];by_cases h3:-100000<=c.2.2.1/\c.2.2.1<=c.2.2.2/\c.2.2.2<=100000
    ·rw[if_neg (by simp;omega),if_pos ⟨h2.1,h2.2,h3⟩]
    ·rw[if_pos (by simp;omega),if_neg (fun h=>h3 h.2.2)]
   ·have e1:(!((decide (c.2.1<0))||(decide (1000<c.2.1))))=false:=by simp;omega
    rw[e1];simp only[gd,cond_false,AJ];rw[if_pos (by simp),if_neg (fun h=>h2 ⟨h.1,h.2.1⟩)]
theorem Sq{F:Nat}{lo hi:Int}{l:List (Int×Int)}(hF:l.length<F)(hl:l.length<4611686018427387904):FE F lo hi l=some (l.all fun r=>decide (lo<=r.1)&&decide (r.1<=r.2)&&decide (r.2<=hi)):=by
 unfold FE;rw[Sg.ZQ (p:=fun r=>!(decide (lo<=r.1)&&decide (r.1<=r.2)&&decide (r.2<=hi))) (fun x _=>by
  unfold Iw;congr 1;rw[Bool.eq_iff_iff];simp<;>omega) hF hl]
 simp only[Am,AJ];rw[fo,Bool.not_not]
theorem oZ{F:Nat}(hF:1000<F){c:Aw}(hl:c.1.length<=1000)(hv:∀p∈c.1,F4 p.1.1=true/\F4 p.1.2=true):∀(m k:Nat),k<=c.1.length->c.1.length-k<m->
  CU F c m true (k:Int)=some true
 |0,k,_,h=>by omega
 |m+1,k,hk,h=>by
  unfold CU;by_cases hlt:k<c.1.length
  ·have h1:=hv _ (List.getElem_mem hlt)
   have a:=LC.1 h1.1;have b:=LC.1 h1.2;rw[if_pos (by simpa using hlt),Bb hlt];simp only[Am,AJ,if_true];rw[Sq (by simp;omega) (by simp)];simp only[AJ,List.all_cons,List.all_nil,Bool.and_true];rw[if_pos (by simp;omega)];simp only[Bv,AJ];rw[Sq (by simp;omega) (by simp)];simp only[AJ,List.all_cons,List.all_nil,Bool.and_true];have e:((decide (0<=(c.1[k]).1.1.2)&&decide ((c.1[k]).1.1.2<=(c.1[k]).1.1.2)&&decide ((c.1[k]).1.1.2<=100000))&&(decide (0<=(c.1[k]).1.2.2)&&decide ((c.1[k]).1.2.2<=(c.1[k]).1.2.2)&&decide ((c.1[k]).1.2.2<=100000)))=true:=by simp;omega
   rw[e,show Aa ((k:Int)+1)=((k+1:Nat):Int) by rw[Au (by omega)];rfl,oZ hF hl hv m (k+1) (by omega) (by omega)]
  ·rw[if_neg (by simpa using hlt)]
theorem fu{F:Nat}(hF:1000<F){c:Aw}(h:VC c):FJ F c=some 0:=by
 unfold FJ;have h1:=h.n1;have h2:=h.n8;have h3:=h.off;have h4:=h.step;rw[if_neg (by simp only[Bool.or_eq_true,decide_eq_true_eq];omega)];simp only[Bv,Am,AJ];rw[Sq (by simp;omega) (by simp)];simp only[AJ,List.all_cons,List.all_nil,Bool.and_true];have e:(decide (0<=c.2.1)&&decide (c.2.1<=c.2.1)&&decide (c.2.1<=1000))=true:=by simp;omega
 rw[e];simp only[gd,cond_true];rw[Sq (by simp;omega) (by simp)];simp only[AJ,List.all_cons,List.all_nil,Bool.and_true];have e:(decide (-100000<=c.2.2.1)&&decide (c.2.2.1<=c.2.2.2)&&decide (c.2.2.2<=100000))=true:=by simp;omega
 rw[e,Bool.true_and];have:=oZ hF (c:=c) (by omega) h.ends F 0 (by omega) (by omega);rw[show CU F c F true 0=some true from this]
 rfl
def Dp:Nat->List M7->List Aj
 |_,[]=>[]
 |k,p::P=>((k:Int),false)::((if p.2=true then[((k:Int),true)]else[])++Dp (k+1) P)
theorem Ni:∀(P:List M7)(k:Nat),(Dp k P).length<=2*P.length
 |[],_=>by simp[Dp]
 |p::P,k=>by
  have:=Ni P (k+1);unfold Dp;cases p.2<;>simp<;>omega
theorem Ul{s:Aj}:∀(P:List M7)(k:Nat),s∈Dp k P↔∃i:Nat,s.1=((k+i:Nat):Int)/\∃p,P[i]?=some p/\(s.2=true->p.2=true)
 |[],k=>by simp[Dp]
 |p::P,k=>by
  unfold Dp;rw[List.mem_cons,List.mem_append,Ul P (k+1)];constructor
  ·rintro(rfl|h|⟨i,h1,q,h2,h3⟩)
   ·exact⟨0,rfl,p,rfl,fun h=>by cases h⟩
   ·cases hp:p.2 with
    |false=>rw[hp]at h;simp at h
    |true=>
     rw[hp]at h;have:s=((k:Int),true):=by simpa using h
     subst this;exact⟨0,rfl,p,rfl,fun _=>hp⟩
   ·exact⟨i+1,by rw[h1];congr 1;omega,q,by simpa using h2,h3⟩
  ·rintro⟨i,h1,q,h2,h3⟩
   cases i with
   |zero=>
    have:p=q:=by simpa using h2
    subst this;cases hs:s.2 with
    |false=>left;exact Prod.ext h1 hs
    |true=>right;left;rw[h3 hs];simp;exact Prod.ext h1 hs
   |succ i=>right;right;exact⟨i,by rw[h1];congr 1;omega,q,by simpa using h2,h3⟩
theorem jr{P:List M7}(hP:P.length<=1000):∀(m k:Nat)(st:List Aj),k<=P.length->P.length-k<m->st.length<=2*k->K4 P m (k:Int) st=some (st++Dp k (P.drop k))
 |0,k,_,_,h,_=>by omega
 |m+1,k,st,hk,h,hs=>by
  unfold K4;by_cases hlt:k<P.length
  ·have hd:P.drop k=P[k]::P.drop (k+1):=List.drop_eq_getElem_cons hlt
   rw[if_pos (by simpa using hlt),Bb hlt];simp only[Am,AJ];rw[Fz (by simp;omega)];simp only[AJ];rw[show Aa ((k:Int)+1)=((k+1:Nat):Int) by rw[Au (by omega)];rfl,hd,Dp];cases(P[k]).2 with
   |true=>
    rw[if_pos rfl,Fz (by simp;omega)];simp only[AJ];rw[jr hP m (k+1) _ (by omega) (by omega) (by simp;omega)];simp
   |false=>rw[if_neg (by simp),jr hP m (k+1) _ (by omega) (by omega) (by simp;omega)];simp
  ·rw[if_neg (by simpa using hlt),List.drop_of_length_le (by omega)];simp[Dp]
def IsStep(c:Aw)(s:Aj):Prop:=∃i:Nat,s.1=(i:Int)/\∃p,c.1[i]?=some p/\(s.2=true->p.2=true)
theorem Ga{c:Aw}{s:Aj}:s∈Dp 0 c.1↔IsStep c s:=by
 rw[Ul];simp only[Nat.zero_add];rfl
def R9(c:Aw)(s:Aj):OX:=if s.2=true then((ix c.1 s.1).getD default).1.2 else((ix c.1 s.1).getD default).1.1
def fin(c:Aw)(s:Aj):OX:=if s.2=true then((ix c.1 s.1).getD default).1.1 else((ix c.1 s.1).getD default).1.2
theorem IsStep.ix{c:Aw}{s:Aj}(h:IsStep c s):∃p,Md.ix c.1 s.1=some p/\p∈c.1/\(s.2=true->p.2=true):=by
 obtain⟨i,h1,p,h2,h3⟩:=h;exact⟨p,by rw[h1];simpa[Md.ix]using h2,List.mem_of_getElem? h2,h3⟩
theorem IsStep.ok{c:Aw}(hv:VC c){s:Aj}(h:IsStep c s):F4 (R9 c s)=true/\F4 (fin c s)=true:=by
 obtain⟨p,h1,h2,-⟩:=h.ix;have:=hv.ends p h2;unfold R9 fin;rw[h1];cases s.2
 ·exact this
 ·exact⟨this.2,this.1⟩
def bL(c:Aw)(e d:OX):Bool:=decide (e.1.1-d.1.2<=c.2.1)&&decide (d.1.1-e.1.2<=c.2.1)&&(decide (c.2.2.1<=d.2-e.2)&&decide (d.2-e.2<=c.2.2.2))
def fit(c:Aw)(p q:Aj):Bool:=!decide (p.1=q.1)&&bL c (fin c p) (R9 c q)
theorem jw{c:Aw}(hv:VC c){st:List Aj}{X:Dv}{p q:Aj}(hp:IsStep c p)(hq:IsStep c q):UY (c,st,X,.mk,.mk) p q=some (fit c p q):=by
 unfold UY fit;by_cases h:p.1=q.1
 ·rw[if_neg (by simpa using h),decide_eq_true h];rfl
 ·rw[if_pos (by simpa using h),decide_eq_false h,Bool.not_false,Bool.true_and]
  obtain⟨x,hx,-,-⟩:=hp.ix;obtain⟨y,hy,-,-⟩:=hq.ix;have e1:DI (c,st,X,.mk,.mk) p 1=some (fin c p):=by
   unfold DI fin;rw[hx];cases p.2
   ·rfl
   ·rfl
  have e2:DI (c,st,X,.mk,.mk) q 0=some (R9 c q):=by
   unfold DI R9;rw[hy];cases q.2
   ·rfl
   ·rfl
  rw[e1,e2];have a:=LC.1 (hp.ok hv).2;have b:=LC.1 (hq.ok hv).1;simp only[Am,AJ];unfold Fx bL;generalize fin c p=e at a⊢;generalize R9 c q=d at b⊢;rw[Au (n:=e.1.1-d.1.2) (by omega),Au (n:=d.1.1-e.1.2) (by omega),Au (n:=d.2-e.2) (by omega)]
  congr 1
  rw[Bool.eq_iff_iff];split<;>simp<;>omega
section
def en(X:Dv)(i k:Nat):Option Int:=(X.l[i]?).bind fun r=>r.l[k]?
theorem en_get{X:Dv}{i k:Nat}(hi:i<16)(hk:k<16):∃r v,X.l[i]?=some r/\r.l[k]?=some v/\en X i k=some v:=by
 have h1:i<X.l.length:=by rw[X.h];exact hi
 have h2:k<(X.l[i]).l.length:=by rw[(X.l[i]).h];exact hk
 exact⟨X.l[i],(X.l[i]).l[k],List.getElem?_eq_getElem h1,List.getElem?_eq_getElem h2,by unfold en;rw[List.getElem?_eq_getElem h1,AJ,List.getElem?_eq_getElem h2]⟩
theorem jy{X:Dv}{i k:Nat}{r:Ar 16 Int}(hr:X.l[i]?=some r)(hk:k<16)(i' k':Nat):en (Cc X (i:Int) (Cc r (k:Int) 1)) i' k'=if i'=i/\k'=k then some 1 else en X i' k':=by
 have hi:i<X.l.length:=(List.getElem?_eq_some_iff.1 hr).1;have hkl:k<r.l.length:=by rw[r.h];exact hk
 unfold en;show((X.l.set (i:Int).toNat (Cc r (k:Int) 1))[i']?).bind _=_;rw[Int.toNat_natCast];by_cases h1:i'=i
 ·subst h1
  rw[List.getElem?_set_self hi,AJ,hr,AJ];show(r.l.set (k:Int).toNat 1)[k']?=_;rw[Int.toNat_natCast];by_cases h2:k'=k
  ·subst h2;rw[List.getElem?_set_self hkl,if_pos ⟨rfl,rfl⟩]
  ·rw[List.getElem?_set_ne (fun h=>h2 h.symm),if_neg (fun h=>h2 h.2)]
 ·rw[List.getElem?_set_ne (fun h=>h1 h.symm),if_neg (fun h=>h1 h.1)]
theorem V9{c:Aw}(hv:VC c){st:List Aj}(hst:∀s∈st,IsStep c s)(h16:st.length<=16){i:Nat}(hi:i<16){p:Aj}(hp:IsStep c p):∀(m k:Nat)(X:Dv),k<=st.length->st.length-k<m->
  ∃Z,K5 c st (i:Int) p m (k:Int) X=some Z/\∀i' k',en Z i' k'=if i'=i/\k<=k'/\(∃q,st[k']?=some q/\fit c p q=true)then some 1 else en X i' k'
 |0,k,_,_,h=>by omega
 |m+1,k,X,hk,h=>by
  unfold K5;by_cases hlt:k<st.length
  ·have hq:=hst _ (List.getElem_mem hlt)
   have hw:Aa ((k:Int)+1)=((k+1:Nat):Int):=by rw[Au (by omega)];rfl
   rw[if_pos (by simpa using hlt),Bb hlt];simp only[Am,AJ];rw[jw hv hp hq];simp only[AJ];cases hf:fit c p st[k]with
   |true=>
    obtain⟨r,v,h1,h2,-⟩:=en_get (X:=X) hi (show k<16 by omega);have hil:i<X.l.length:=(List.getElem?_eq_some_iff.1 h1).1;have hrl:k<r.l.length:=(List.getElem?_eq_some_iff.1 h2).1;rw[if_pos rfl,Bb hil,show X.l[i]=r from(List.getElem?_eq_some_iff.1 h1).2];simp only[AJ];rw[Bb hrl];simp only[AJ];rw[hw];obtain⟨Z,e1,e2⟩:=V9 hv hst h16 hi hp m (k+1) (Cc X (i:Int) (Cc r (k:Int) 1)) (by omega) (by omega);refine⟨Z,e1,fun i' k'=>?_⟩;rw[e2,jy h1 (by omega)];by_cases c1:i'=i/\k<=k'/\(∃q,st[k']?=some q/\fit c p q=true)
    ·rw[if_pos c1]
     by_cases c2:k'=k
     ·rw[if_neg (by omega),if_pos ⟨c1.1,c2⟩]
     ·rw[if_pos ⟨c1.1,by omega,c1.2.2⟩]
    ·rw[if_neg c1,if_neg (fun h=>c1 ⟨h.1,by omega,h.2.2⟩),if_neg]
     rintro⟨h3,rfl⟩;exact c1 ⟨h3,Nat.le_refl _,_,List.getElem?_eq_getElem hlt,hf⟩
   |false=>
    rw[if_neg (by simp),hw];obtain⟨Z,e1,e2⟩:=V9 hv hst h16 hi hp m (k+1) X (by omega) (by omega);refine⟨Z,e1,fun i' k'=>?_⟩;rw[e2];by_cases c1:i'=i/\k<=k'/\(∃q,st[k']?=some q/\fit c p q=true)
    ·rw[if_pos c1,if_pos]
     refine⟨c1.1,?_,c1.2.2⟩;obtain⟨q,h3,h4⟩:=c1.2.2;rcases Nat.lt_or_ge k k' with h5|h5
     ·exact h5
     ·have:k'=k:=by omega
      subst this;rw[List.getElem?_eq_getElem hlt]at h3;cases h3;rw[hf]at h4;cases h4
    ·rw[if_neg c1,if_neg (fun h=>c1 ⟨h.1,by omega,h.2.2⟩)]
  ·rw[if_neg (by simpa using hlt)]
   refine⟨X,rfl,fun i' k'=>?_⟩;rw[if_neg];rintro⟨-,h1,q,h2,-⟩;have:=(List.getElem?_eq_some_iff.1 h2).1;omega
open Classical in
theorem og{F:Nat}(hF:1000<F){c:Aw}(hv:VC c){st:List Aj}(hst:∀s∈st,IsStep c s)(h16:st.length<=16):∀(m k:Nat)(X:Dv),k<=st.length->st.length-k<m->
  ∃Z,MC F c st m (k:Int) X=some Z/\∀i' k',en Z i' k'=if k<=i'/\(∃p q,st[i']?=some p/\st[k']?=some q/\fit c p q=true)then some 1 else en X i' k'
 |0,k,_,_,h=>by omega
 |m+1,k,X,hk,h=>by
  unfold MC;by_cases hlt:k<st.length
  ·have hp:=hst _ (List.getElem_mem hlt)
   rw[if_pos (by simpa using hlt),Bb hlt];simp only[Am,AJ];obtain⟨Y,e1,e2⟩:=V9 hv hst h16 (show k<16 by omega) hp F 0 X (by omega) (by omega);rw[show K5 c st (k:Int) st[k] F 0 X=some Y from e1];simp only[AJ];rw[show Aa ((k:Int)+1)=((k+1:Nat):Int) by rw[Au (by omega)];rfl];obtain⟨Z,f1,f2⟩:=og hF hv hst h16 m (k+1) Y (by omega) (by omega);refine⟨Z,f1,fun i' k'=>?_⟩;rw[f2,e2];by_cases c1:k<=i'/\(∃p q,st[i']?=some p/\st[k']?=some q/\fit c p q=true)
   ·rw[if_pos c1]
    obtain⟨h1,p,q,h2,h3,h4⟩:=c1;by_cases c2:i'=k
    ·subst c2
     rw[List.getElem?_eq_getElem hlt]at h2;cases h2;rw[if_neg (by omega),if_pos ⟨rfl,Nat.zero_le _,q,h3,h4⟩]
    ·rw[if_pos ⟨by omega,p,q,h2,h3,h4⟩]
   ·rw[if_neg c1,if_neg (fun h=>c1 ⟨by omega,h.2⟩),if_neg]
    rintro⟨rfl,-,q,h3,h4⟩;exact c1 ⟨Nat.le_refl _,_,q,List.getElem?_eq_getElem hlt,h3,h4⟩
  ·rw[if_neg (by simpa using hlt)]
   refine⟨X,rfl,fun i' k'=>?_⟩;rw[if_neg];rintro⟨h1,p,q,h2,-⟩;have:=(List.getElem?_eq_some_iff.1 h2).1;omega
def Pb(c:Aw)(X:Dv):Prop:=∀(i k:Nat)(p q:Aj),(Dp 0 c.1)[i]?=some p->(Dp 0 c.1)[k]?=some q->∃r,ix X.l (i:Int)=some r/\ix r.l (k:Int)=some (if fit c p q=true then 1 else 0)
theorem Vl{F:Nat}(hF:1000<F){c:Aw}(hv:VC c):∃X,FX F c=some ⟨some (c,Dp 0 c.1,X,.mk,.mk)⟩/\Pb c X:=by
 have h8:=hv.n8;have hl:=Ni c.1 0;have e1:=jr (P:=c.1) (by omega) F 0 [] (by omega) (by omega) (Nat.le_refl _);rw[List.drop_zero,List.nil_append]at e1;obtain⟨X,e2,e3⟩:=og hF hv (st:=Dp 0 c.1) (fun s hs=>Ga.1 hs) (by omega) F 0 (Ar.fill 16 (Ar.fill 16 0)) (by omega) (by omega);refine⟨X,?_,?_⟩
 ·unfold FX
  rw[show K4 c.1 F 0 []=some (Dp 0 c.1)from e1];simp only[Am,AJ];rw[show MC F c (Dp 0 c.1) F 0 (Ar.fill 16 (Ar.fill 16 0))=some X from e2]
  rfl
 ·intro i k p q hp hq
  have hi:=(List.getElem?_eq_some_iff.1 hp).1;have hk:=(List.getElem?_eq_some_iff.1 hq).1;obtain⟨r,v,h1,h2,h3⟩:=en_get (X:=X) (show i<16 by omega) (show k<16 by omega);have hil:i<X.l.length:=(List.getElem?_eq_some_iff.1 h1).1;have hrl:k<r.l.length:=(List.getElem?_eq_some_iff.1 h2).1;refine⟨r,by rw[Bb hil];exact congrArg some (List.getElem?_eq_some_iff.1 h1).2,?_⟩;rw[Bb hrl,show r.l[k]=v from(List.getElem?_eq_some_iff.1 h2).2];have h4:=e3 i k;rw[h3]at h4;have e0:en (Ar.fill 16 (Ar.fill 16 0)) i k=some 0:=by
   unfold en;show((List.replicate 16 (Ar.fill 16 (0:Int)))[i]?).bind _=_;rw[List.getElem?_replicate,if_pos (by omega),AJ];show(List.replicate 16 (0:Int))[k]?=_;rw[List.getElem?_replicate,if_pos (by omega)]
  by_cases hf:fit c p q=true
  ·rw[if_pos hf]
   rw[if_pos ⟨Nat.zero_le _,p,q,hp,hq,hf⟩]at h4;exact h4
  ·rw[if_neg hf]
   rw[if_neg,e0]at h4
   ·exact h4
   ·rintro⟨-,p',q',h5,h6,h7⟩
    rw[hp]at h5;rw[hq]at h6;cases h5;cases h6;exact hf h7
theorem SA{α:Type}{l:List α}{f:α->Option Bool}{p:α->Bool}(hf:∀x∈l,f x=some (p x))(hl:l.length<4611686018427387904):
  ∀(m k:Nat),k<=l.length->l.length-k<m->(∃j:Nat,HZ l f m (k:Int)=some (.inl (j:Int))/\∃x,l[j]?=some x/\p x=true)\/(HZ l f m (k:Int)=some (.inr ())/\∀x∈l.drop k,p x=false)
 |0,k,_,h=>by omega
 |m+1,k,hk,h=>by
  unfold HZ;by_cases hlt:k<l.length
  ·rw[if_pos (by simpa using hlt),Bb hlt]
   have hd:l.drop k=l[k]::l.drop (k+1):=List.drop_eq_getElem_cons hlt;simp only[Am,AJ,hf l[k] (List.getElem_mem hlt)];cases hp:p l[k]with
   |true=>left;exact⟨k,if_pos rfl,l[k],List.getElem?_eq_getElem hlt,hp⟩
   |false=>
    rw[if_neg (by simp),show Aa ((k:Int)+1)=((k+1:Nat):Int) by rw[Au (by omega)];rfl];rcases SA hf hl m (k+1) (by omega) (by omega)with h1|⟨h1,h2⟩
    ·exact .inl h1
    ·refine .inr ⟨h1,fun x hx=>?_⟩
     rw[hd]at hx;rcases List.mem_cons.1 hx with rfl|hx
     ·exact hp
     ·exact h2 x hx
  ·right
   rw[if_neg (by simpa using hlt),List.drop_of_length_le (by omega)];exact⟨rfl,by simp⟩
theorem SB{l:List Aj}{f:Aj->Option Bool}(F:Nat):∀m k,Bp F l f m k=HZ l f m k
 |0,_=>rfl
 |m+1,k=>by unfold Bp HZ;simp only[SB F m]
theorem Pw{F:Nat}(hF:1000<F){c:Aw}(hv:VC c){X:Dv}{s:Aj}(hs:IsStep c s):∃j:Nat,Ch F (c,Dp 0 c.1,X,Opq.mk,Opq.mk) s=some (j:Int)/\(Dp 0 c.1)[j]?=some s:=by
 have h8:=hv.n8;have hl:=Ni c.1 0;unfold Ch Ec;rw[SB];rcases SA (l:=Dp 0 c.1) (f:=fun y=>FK y (s.1,s.2)) (p:=fun y=>decide (y=s)) (fun x _=>rfl) (by omega) F 0 (by omega) (by omega)with⟨j,h1,x,h2,h3⟩|⟨h1,h2⟩
 ·refine⟨j,?_,?_⟩
  ·rw[show HZ (Dp 0 c.1) (fun y=>FK y (s.1,s.2)) F 0=some (.inl (j:Int))from h1];rfl
  ·rw[h2,of_decide_eq_true h3]
 ·rw[List.drop_zero]at h2
  have:=h2 s (Ga.2 hs);simp at this
theorem Um{l:List Aj}{f:Aj->Option Bool}(F:Nat):∀m k,BO F l f m k=HZ l f m k
 |0,_=>rfl
 |m+1,k=>by unfold BO HZ;simp only[Um F m]
theorem bM{l:List Aj}{f:Aj->Option Bool}{p:Aj->Bool}{F:Nat}(hf:∀x∈l,f x=some (p x))(hF:l.length<F)(hl:l.length<4611686018427387904):CQ F l f=some (l.any p):=by
 obtain⟨r,h1,h2,h3⟩:=KL hf hl F 0 (Nat.zero_le _) (by omega);unfold CQ Db;rw[Um];simp only[Int.natCast_zero,List.drop_zero]at h1 h2 h3;rw[h1];cases hp:l.any p with
 |true=>obtain⟨j,rfl⟩:=h2 hp;simp
 |false=>rw[h3 hp];simp
theorem RZ{F:Nat}(hF:1000<F){c:Aw}(hv:VC c){l:List Aj}(hl:∀s∈l,IsStep c s)(hn:l.length<1000):∃X,Fq F c l=some (⟨some (c,Dp 0 c.1,X,.mk,.mk)⟩,0)/\Pb c X:=by
 obtain⟨X,e1,e2⟩:=Vl hF hv;refine⟨X,?_,e2⟩;unfold Fq;have ex:(c.1,c.2.1,(c.2.2.1,c.2.2.2))=c:=rfl;rw[ex,fu hF hv];simp only[Am,AJ];rw[if_neg (by simp),e1];simp only[AJ];rw[bM (p:=fun _=>false) (fun s hs=>by
  obtain⟨j,h1,-⟩:=Pw hF hv (X:=X) (hl s hs);unfold KU;simp only[Am,AJ];rw[show Ch F ((c.1,c.2.1,(c.2.2.1,c.2.2.2)),Dp 0 c.1,X,Opq.mk,Opq.mk) (s.1,s.2)=some (j:Int)from h1];simp only[AJ];show some (decide ((j:Int)<0))=some false;rw[decide_eq_false (by omega)]) (by omega) (by omega)]
 simp only[AJ];have:(l.any fun _=>false)=false:=by simp
 rw[this,if_neg (by simp)]
theorem gB{F:Nat}(hF:1000<F){c:Aw}(hv:VC c){p q:Aj}(hp:IsStep c p)(hq:IsStep c q):JH F c p q=some (fit c p q,0):=by
 obtain⟨X,e1,e2⟩:=RZ hF hv (l:=[p,q]) (fun s hs=>by
  rcases List.mem_cons.1 hs with rfl|hs
  ·exact hp
  ·rw[List.mem_singleton.1 hs];exact hq) (by simp)
 unfold JH;have ex:(c.1,c.2.1,(c.2.2.1,c.2.2.2))=c:=rfl;rw[ex,show Fq F c [(p.1,p.2),(q.1,q.2)]=_ from e1];simp only[Am,AJ];rw[if_neg (by simp)];obtain⟨i,h1,h2⟩:=Pw hF hv (X:=X) hp;obtain⟨k,h3,h4⟩:=Pw hF hv (X:=X) hq;rw[show Ch F ((c.1,c.2.1,(c.2.2.1,c.2.2.2)),Dp 0 c.1,X,Opq.mk,Opq.mk) (p.1,p.2)=some (i:Int)from h1];simp only[AJ];obtain⟨r,h5,h6⟩:=e2 i k p q h2 h4;rw[h5];simp only[AJ];rw[show Ch F ((c.1,c.2.1,(c.2.2.1,c.2.2.2)),Dp 0 c.1,X,Opq.mk,Opq.mk) (q.1,q.2)=some (k:Int)from h3];simp only[AJ];rw[h6];cases fit c p q<;>rfl
end
structure Ord(c:Aw)(l:List Aj):Prop where
 steps:∀s∈l,IsStep c s
 nodup:(l.map (·.1)).Nodup
 len:l.length=c.1.length
def Ih(c:Aw):List Aj->Bool
 |a::b::l=>fit c a b&&Ih c (b::l)
 |_=>true
theorem X7{c:Aw}{l:List Aj}{k:Nat}(hk:1<=k)(hlt:k<l.length):Ih c (l.drop (k-1))=(fit c l[k-1] l[k]&&Ih c (l.drop k)):=by
 have e1:l.drop (k-1)=l[k-1]::l.drop k:=by
  have:=List.drop_eq_getElem_cons (show k-1<l.length by omega);rw[this];congr 2;omega
 have e2:l.drop k=l[k]::l.drop (k+1):=List.drop_eq_getElem_cons hlt;rw[e1,e2];rfl
theorem SC{α:Type}[DecidableEq α]:∀{l k:List α},l.Nodup->(∀a∈l,a∈k)->l.length<=k.length
 |[],_,_,_=>Nat.zero_le _
 |a::l,k,hn,hs=>by
  rw[List.nodup_cons]at hn;have ha:=hs a (List.mem_cons_self ..);have:=SC (k:=k.erase a) hn.2 fun b hb=>by
   have hne:b≠a:=fun e=>hn.1 (e▸hb);exact(List.mem_erase_of_ne hne).2 (hs b (List.mem_cons_of_mem _ hb))
  rw[List.length_erase_of_mem ha]at this;have:=List.length_pos_of_mem ha;simp only[List.length_cons];omega
theorem SS{α β:Type}{L:List α}{f:α->List β}(h:L.Nodup)(h1:∀a∈L,(f a).Nodup)(h2:∀a∈L,∀b∈L,∀x,x∈f a->x∈f b->a=b):(L.flatMap f).Nodup:=by
 induction L with
 |nil=>simp
 |cons a L ih=>
  rw[List.nodup_cons]at h;rw[List.flatMap_cons,List.nodup_append];refine⟨h1 a (List.mem_cons_self ..),ih h.2 (fun b hb=>h1 b (List.mem_cons_of_mem _ hb)) (fun b hb c hc=>h2 b (List.mem_cons_of_mem _ hb) c (List.mem_cons_of_mem _ hc)),fun x hx y hy e=>?_⟩;subst e;obtain⟨b,hb,hy⟩:=List.mem_flatMap.1 hy;have:=h2 a (List.mem_cons_self ..) b (List.mem_cons_of_mem _ hb) x hx hy;subst this;exact h.1 hb
theorem Og{α β:Type}{L:List α}{f:α->β}(h:L.Nodup)(hf:∀a∈L,∀b∈L,f a=f b->a=b):(L.map f).Nodup:=by
 rw[List.Nodup,List.pairwise_map];exact List.Pairwise.imp_of_mem (fun{a b} ha hb hab e=>hab (hf a ha b hb e)) h
def put(U p:Nat):Nat:=U|||1<<<p
def out(U p:Nat):Nat:=U&&&(255-1<<<p)
def fr(n U:Nat):Nat:=((List.range n).filter fun p=>!U.testBit p).length
def us(n U:Nat):Nat:=((List.range n).filter fun p=>U.testBit p).length
theorem WA(U p q:Nat):(put U p).testBit q=(U.testBit q||decide (q=p)):=by
 unfold put;rw[Nat.testBit_or,Nat.one_shiftLeft,Nat.testBit_two_pow]
 congr 1
 exact decide_eq_decide.2 ⟨fun h=>h.symm,fun h=>h.symm⟩
theorem bN:∀(n:Fin 9)(p:Fin 8)(U:Fin 256),(p.val<n.val->U.val<2^n.val->(put U.val p.val<2^n.val/\out U.val p.val<2^n.val/\(U.val.testBit p.val=false->fr n.val (put U.val p.val)+1=fr n.val U.val)/\(U.val.testBit p.val=true->us n.val (out U.val p.val)+1=us n.val U.val))):=by decide+kernel
theorem ZR:∀(n:Fin 9)(U:Fin 256),U.val<2^n.val->((U.val=2^n.val-1↔fr n.val U.val=0)/\(U.val=0↔us n.val U.val=0)/\fr n.val U.val+us n.val U.val=n.val):=by decide+kernel
section
section
variable (n m:Nat)(pc:Nat->Nat)(ft:Nat->Nat->Bool)
def okn(o:Option Nat)(k:Nat):Bool:=match o with|none=>true|some i=>ft i k
def Jp(U:Nat)(o:Option Nat):List Nat:=(List.range m).filter fun k=>!U.testBit (pc k)&&okn ft o k
def ext:Nat->Nat->Option Nat->List (List Nat)
 |0,_,_=>[[]]
 |d+1,U,o=>(Jp m pc ft U o).flatMap fun k=>(ext d (put U (pc k)) (some k)).map (k::·)
def Un(o:Option Nat):List Nat->Bool
 |[]=>true
 |k::t=>okn ft o k&&Un (some k) t
end
section
variable {n m:Nat}{pc:Nat->Nat}{ft:Nat->Nat->Bool}
theorem Kj{U k:Nat}{o:Option Nat}:k∈Jp m pc ft U o↔k<m/\U.testBit (pc k)=false/\okn ft o k=true:=by
 unfold Jp;simp[and_assoc]
structure Go'(m:Nat)(pc:Nat->Nat)(ft:Nat->Nat->Bool)(d U:Nat)(o:Option Nat)(t:List Nat):Prop where
 len:t.length=d
 mem:∀k∈t,k<m/\U.testBit (pc k)=false
 nod:(t.map pc).Nodup
 seq:Un ft o t=true
theorem O7:∀{d U:Nat}{o:Option Nat}{t:List Nat},t∈ext m pc ft d U o↔Go' m pc ft d U o t
 |0,U,o,t=>by
  unfold ext;rw[List.mem_singleton];constructor
  ·rintro rfl;exact⟨rfl,(fun k hk=>by cases hk),List.nodup_nil,rfl⟩
  ·intro h;exact List.eq_nil_of_length_eq_zero h.len
 |d+1,U,o,t=>by
  unfold ext;rw[List.mem_flatMap];constructor
  ·rintro⟨k,hk,ht⟩
   obtain⟨s,hs,rfl⟩:=List.mem_map.1 ht;obtain⟨k1,k2,k3⟩:=Kj.1 hk;have g:=O7.1 hs;have hb:∀x∈s,U.testBit (pc x)=false/\pc x≠pc k:=fun x hx=>by
    have:=(g.mem x hx).2;rw[WA]at this;simpa using this
   refine⟨by simp[g.len],fun x hx=>?_,?_,by unfold Un;rw[k3,g.seq];rfl⟩
   ·rcases List.mem_cons.1 hx with rfl|hx
    ·exact⟨k1,k2⟩
    ·exact⟨(g.mem x hx).1,(hb x hx).1⟩
   ·rw[List.map_cons,List.nodup_cons]
    refine⟨fun hh=>?_,g.nod⟩;obtain⟨x,hx,e⟩:=List.mem_map.1 hh;exact(hb x hx).2 e
  ·intro h
   cases t with
   |nil=>have:=h.len;simp at this
   |cons k s=>
    have hn:=h.nod;rw[List.map_cons,List.nodup_cons]at hn;have hs:=h.seq;unfold Un at hs;rw[Bool.and_eq_true]at hs;have hk:=h.mem k (List.mem_cons_self ..);refine⟨k,Kj.2 ⟨hk.1,hk.2,hs.1⟩,List.mem_map.2 ⟨s,O7.2 ⟨by have:=h.len;simpa using this,fun x hx=>?_,hn.2,hs.2⟩,rfl⟩⟩;have hx':=h.mem x (List.mem_cons_of_mem _ hx);refine⟨hx'.1,?_⟩;rw[WA,hx'.2,decide_eq_false]
    ·rfl
    ·exact fun e=>hn.1 (List.mem_map.2 ⟨x,hx,e⟩)
theorem WB:∀{d U:Nat}{o:Option Nat},(ext m pc ft d U o).length<=m^d
 |0,U,o=>by unfold ext;simp
 |d+1,U,o=>by
  unfold ext;rw[List.length_flatMap];have:∀L:List Nat,(L.map fun k=>((ext m pc ft d (put U (pc k)) (some k)).map (k::·)).length).sum<=L.length*m^d:=by
   intro L
   induction L with
   |nil=>simp
   |cons a L ih=>
    have:=WB (d:=d) (U:=put U (pc a)) (o:=some a);simp only[List.map_cons,List.sum_cons,List.length_map,List.length_cons,Nat.succ_mul]at*;omega
  have h2:(Jp m pc ft U o).length<=m:=Nat.le_trans (List.length_filter_le ..) (by simp);rw[Nat.pow_succ,Nat.mul_comm (m^d)];exact Nat.le_trans (this _) (Nat.mul_le_mul_right _ h2)
theorem Uo{U p:Nat}(hn:n<=8)(hp:p<n)(hU:U<2^n):put U p<2^n/\(U.testBit p=false->fr n (put U p)+1=fr n U):=by
 have h2:2^n<=2^8:=Nat.pow_le_pow_right (by omega) hn;have:=bN ⟨n,by omega⟩ ⟨p,by omega⟩ ⟨U,by omega⟩ hp hU;exact⟨this.1,this.2.2.1⟩
theorem gD{U:Nat}(hn:n<=8)(hU:U<2^n):U=2^n-1↔fr n U=0:=by
 have h2:2^n<=2^8:=Nat.pow_le_pow_right (by omega) hn;exact(ZR ⟨n,by omega⟩ ⟨U,by omega⟩ hU).1
def Js(n m:Nat)(pc:Nat->Nat)(ft:Nat->Nat->Bool):List (List Nat):=ext m pc ft n 0 none
end
end
section
theorem b1:∀(y:Fin 256)(p:Fin 8),∃s,shr .i64 (y.val:Int) (p.val:Int)=some s/\decide (band .i64 s 1=1)=y.val.testBit p.val/\decide (band .i64 s 1=0)=!y.val.testBit p.val:=by
 have h:∀(y:Fin 256)(p:Fin 8),((shr .i64 (y.val:Int) (p.val:Int)).map fun s=>(decide (band .i64 s 1=1),decide (band .i64 s 1=0)))=some (y.val.testBit p.val,!y.val.testBit p.val):=by decide+kernel
 intro y p;obtain⟨s,h1,h2⟩:=Option.map_eq_some_iff.1 (h y p);simp only[Prod.mk.injEq]at h2;exact⟨s,h1,h2.1,h2.2⟩
theorem b2:∀(y:Fin 256)(p:Fin 8),∃t,shl .i64 1 (p.val:Int)=some t/\N7 .i64 (y.val:Int) t=((put y.val p.val:Nat):Int)/\dP .i64 (y.val:Int) t=((out y.val p.val:Nat):Int)/\decide (band .i64 (y.val:Int) t=0)=!y.val.testBit p.val:=by
 have h:∀(y:Fin 256)(p:Fin 8),((shl .i64 1 (p.val:Int)).map fun t=>(N7 .i64 (y.val:Int) t,dP .i64 (y.val:Int) t,decide (band .i64 (y.val:Int) t=0)))=some (((put y.val p.val:Nat):Int),((out y.val p.val:Nat):Int),!y.val.testBit p.val):=by decide+kernel
 intro y p;obtain⟨s,h1,h2⟩:=Option.map_eq_some_iff.1 (h y p);simp only[Prod.mk.injEq]at h2;exact⟨s,h1,h2.1,h2.2.1,h2.2.2⟩
theorem b3:∀n:Fin 9,shl .i64 1 (n.val:Int)=some (((2^n.val:Nat)):Int):=by decide+kernel
abbrev BJ(c:Aw):List Aj:=Dp 0 c.1
def D5(c:Aw)(k:Nat):Nat:=((BJ c).getD k default).1.toNat
def IQ(c:Aw)(i k:Nat):Bool:=fit c ((BJ c).getD i default) ((BJ c).getD k default)
abbrev Xs(c:Aw)(X:Dv):Bl:=(c,BJ c,X,.mk,.mk)
def Ej(o:Option Nat):Int:=match o with|none=>-1|some i=>(i:Int)
section
variable {c:Aw}{X:Dv}
theorem LD(hv:VC c):(BJ c).length<=16:=by
 have:=Ni c.1 0;have:=hv.n8;show(Dp 0 c.1).length<=16;omega
theorem Oh(hv:VC c){k:Nat}(hk:k<(BJ c).length):ix (BJ c) (k:Int)=some (BJ c)[k]/\((BJ c)[k]).1=((D5 c k:Nat):Int)/\D5 c k<c.1.length/\(BJ c)[k]?=some (BJ c)[k]:=by
 have hm:(BJ c)[k]∈Dp 0 c.1:=List.getElem_mem hk;obtain⟨i,h1,p,h2,_⟩:=Ga.1 hm;have hi:=(List.getElem?_eq_some_iff.1 h2).1;have e:D5 c k=i:=by unfold D5;rw[List.getD_eq_getElem?_getD,List.getElem?_eq_getElem hk,Option.getD_some,h1];simp
 exact⟨Bb hk,by rw[h1,e],by omega,List.getElem?_eq_getElem hk⟩
theorem Ur(hX:Pb c X){i k:Nat}(hi:i<(BJ c).length)(hk:k<(BJ c).length):∃r,ix X.l (i:Int)=some r/\ix r.l (k:Int)=some (if IQ c i k=true then 1 else 0):=by
 obtain⟨r,h1,h2⟩:=hX i k _ _ (List.getElem?_eq_getElem hi) (List.getElem?_eq_getElem hk);refine⟨r,h1,?_⟩;rw[h2];unfold IQ;simp[hi,hk]
def Nj(c:Aw)(U:Nat)(o:Option Nat):Prop:=U<2^c.1.length/\∀i,o=some i->i<(BJ c).length
theorem bO(hv:VC c){U:Nat}(hU:U<2^c.1.length):U<256:=by
 have h2:2^c.1.length<=2^8:=Nat.pow_le_pow_right (by omega) hv.n8;omega
theorem gF(hv:VC c)(hX:Pb c X){U:Nat}{o:Option Nat}(hs:Nj c U o){k:Nat}(hk:k<(BJ c).length):Sn (Xs c X) ((U:Int),Ej o) (k:Int)=some (!U.testBit (D5 c k)&&okn (IQ c) o k):=by
 obtain⟨e1,e2,e3,_⟩:=Oh hv hk;have h8:=hv.n8;obtain⟨s,f1,f2,f3⟩:=b1 ⟨U,bO hv hs.1⟩ ⟨D5 c k,by omega⟩;unfold Sn F3;simp only[Am,AJ];rw[e1];simp only[AJ];rw[e2,f1];simp only[AJ];rw[f3];cases hb:U.testBit (D5 c k)with
 |true=>rfl
 |false=>
  simp only[Bool.not_false,if_true,Bool.true_and];cases o with
  |none=>rfl
  |some i=>
   obtain⟨r,g1,g2⟩:=Ur hX (hs.2 i rfl) hk;rw[if_neg (by unfold Ej;simp)];show((ix X.l (i:Int)).bind fun r=>_)=_;rw[g1];simp only[AJ];rw[g2];simp only[AJ,okn];cases IQ c i k<;>rfl
theorem nX(hv:VC c){U:Nat}{o:Option Nat}(hs:Nj c U o){k:Nat}(hk:k<(BJ c).length):He (Xs c X) ((U:Int),Ej o) (k:Int)=some (((put U (D5 c k):Nat):Int),(k:Int)):=by
 obtain⟨e1,e2,e3,_⟩:=Oh hv hk;have h8:=hv.n8;obtain⟨t,f1,f2,_⟩:=b2 ⟨U,bO hv hs.1⟩ ⟨D5 c k,by omega⟩;unfold He;rw[e1];simp only[Am,AJ];rw[e2,f1];simp only[AJ];rw[show N7 .i64 (U:Int) t=_ from f2]
def Qr(c:Aw)(U k:Nat):BD:=(((put U (D5 c k):Nat):Int),(k:Int))
theorem ZT(hv:VC c)(hX:Pb c X){U:Nat}{o:Option Nat}(hs:Nj c U o):∀(d k:Nat),k+d=(BJ c).length->Gx (Xs c X) ((U:Int),Ej o) d k=some (((List.range' k d).filter fun k=>!U.testBit (D5 c k)&&okn (IQ c) o k).map (Qr c U))
 |0,k,_=>rfl
 |d+1,k,h=>by
  unfold Gx;rw[gF hv hX hs (show k<_ by omega)];simp only[Am,AJ];rw[ZT hv hX hs d (k+1) (by omega),List.range'_succ,List.filter_cons];simp only[AJ];cases hb:!U.testBit (D5 c k)&&okn (IQ c) o k with
  |true=>
   rw[if_pos rfl,nX hv hs (by omega)];simp[Qr]
  |false=>rw[if_neg (by simp)];simp
theorem SE(hv:VC c)(hX:Pb c X){U:Nat}{o:Option Nat}(hs:Nj c U o):Gg (Xs c X) ((U:Int),Ej o)=some ((Jp (BJ c).length (D5 c) (IQ c) U o).map (Qr c U)):=by
 have e:=ZT hv hX hs (BJ c).length 0 (by omega);rw[<-List.range_eq_range']at e;unfold Gg;show(if(!decide (Ej o=-1))=true then _ else Gx (Xs c X) ((U:Int),Ej o) (BJ c).length 0)=_;cases o with
 |none=>rw[if_neg (by simp[Ej])];exact e
 |some i=>
  have hi:=hs.2 i rfl;rw[if_pos (by simp[Ej])];obtain⟨r,g1,_⟩:=Ur hX hi hi;show((ix X.l (i:Int)).bind fun r=>_)=_;rw[g1];simp only[AJ];by_cases hz:r=Ar.fill 16 0
  ·rw[if_pos (by simp[hz])]
   have hnil:Jp (BJ c).length (D5 c) (IQ c) U (some i)=[]:=by
    refine List.filter_eq_nil_iff.2 fun k hk=>?_;have hk:=List.mem_range.1 hk;obtain⟨r',g3,g4⟩:=Ur hX hi hk;rw[g1]at g3;cases g3;have:ix (Ar.fill 16 (0:Int)).l (k:Int)=some 0:=by
     have:=LD hv;rw[Bb (by rw[(Ar.fill 16 (0:Int)).h];omega)]
     congr 1
     exact List.getElem_replicate ..
    rw[hz,this]at g4;cases hf:IQ c i k with
    |true=>rw[hf]at g4;simp at g4
    |false=>simp[okn,hf]
   rw[hnil];rfl
  ·rw[if_neg (by simpa using hz)];exact e
abbrev Nr(c:Aw)(U:Nat)(o:Option Nat):List (List Nat):=ext (BJ c).length (D5 c) (IQ c) (fr c.1.length U) U o
def Ii(c:Aw)(A:EN):Prop:=∀p∈A,∃(U:Nat)(o:Option Nat),p.1=((U:Int),Ej o)/\p.2=(((Nr c U o).length:Nat):Int)
theorem ZU{o o':Option Nat}(h:Ej o=Ej o'):o=o':=by
 cases o<;>cases o'<;>simp[Ej]at h⊢<;>omega
theorem sH{a b:Int}(ha:-1000<=a/\a<=1000)(hb:-1000<=b/\b<=1000):PL ((a,b):Int×Int)=some ():=by
 unfold PL;rw[if_pos];show((Lit.int .i64 a).wf&&(Lit.int .i64 b).wf)=true;have h1:IntKind.i64.min=-9223372036854775808:=rfl;have h2:IntKind.i64.max=9223372036854775807:=rfl;simp[Lit.wf,h1,h2];omega
theorem X8(hv:VC c):∀k,k<(BJ c).length->D5 c k<c.1.length:=fun k hk=>(Oh hv hk).2.2.1
theorem Us(hv:VC c)(U:Nat)(o:Option Nat):(Nr c U o).length<=16^8:=by
 have h1:=LD hv;have h2:=hv.n8;have h3:fr c.1.length U<=8:=by
  unfold fr;have:=List.length_filter_le (fun p=>!U.testBit p) (List.range c.1.length);rw[List.length_range]at this;omega
 refine Nat.le_trans WB ?_;exact Nat.le_trans (Nat.pow_le_pow_left h1 _) (Nat.pow_le_pow_right (by omega) h3)
theorem bP{κ ν:Type}[DecidableEq κ]{k:κ}{v:ν}{p:κ×ν}:∀{m:List (κ×ν)},p∈BL m k v->p=(k,v)\/p∈m
 |[],h=>by rw[BL,List.mem_singleton]at h;exact .inl h
 |(a,b)::m,h=>by
  unfold BL at h;by_cases e:a=k
  ·rw[if_pos e]at h
   rcases List.mem_cons.1 h with h|h
   ·exact .inl h
   ·exact .inr (List.mem_cons_of_mem _ h)
  ·rw[if_neg e]at h
   rcases List.mem_cons.1 h with h|h
   ·exact .inr (by rw[h];exact List.mem_cons_self ..)
   ·exact(bP h).imp id (List.mem_cons_of_mem _)
theorem d9{κ ν:Type}[DecidableEq κ]{d:ν}{k:κ}:∀{m:List (κ×ν)},JO m k=true->(k,BQ d m k)∈m
 |[],h=>by cases h
 |(a,b)::m,h=>by
  unfold JO at h;unfold BQ;by_cases e:a=k
  ·rw[if_pos e];subst e;exact List.mem_cons_self ..
  ·rw[if_neg e]at h⊢
   exact List.mem_cons_of_mem _ (d9 h)
theorem SG{f:EN->BD->Option (Int×EN)}{v:Nat->Nat}{st:Nat->BD}(hv:VC c)(hb:∀k,v k<=16^8):∀(L:List Nat)(a:Nat)(A:EN),(∀k∈L,∀A,Ii c A->∃A',f A (st k)=some (((v k:Nat):Int),A')/\Ii c A')->Ii c A->a+L.length*16^8<=16^10->
  ∃A',Kg f (L.map st) (a:Int) A=some ((((a+(L.map v).sum:Nat)):Int),A')/\Ii c A'
 |[],a,A,_,hA,_=>⟨A,by simp[Kg],hA⟩
 |k::L,a,A,hf,hA,hl=>by
  obtain⟨A1,e1,e2⟩:=hf k (List.mem_cons_self ..) A hA;have hbk:=hb k;have h16:(16:Nat)^8=4294967296:=rfl;have h17:(16:Nat)^10=1099511627776:=rfl;simp only[List.length_cons,Nat.succ_mul]at hl;obtain⟨A2,e3,e4⟩:=SG hv hb L (a+v k) A1 (fun j hj=>hf j (List.mem_cons_of_mem _ hj)) e2 (by omega);refine⟨A2,?_,e4⟩;rw[List.map_cons,Kg,e1];simp only[Am,AJ];rw[Au (by omega),show(a:Int)+(v k:Int)=((a+v k:Nat):Int) by omega,e3,List.map_cons,List.sum_cons,Nat.add_assoc]
theorem Rf(hv:VC c)(hX:Pb c X):∀(mf U:Nat)(o:Option Nat)(A:EN),Nj c U o->fr c.1.length U<mf->Ii c A->∃A',DL (Xs c X) mf A ((U:Int),Ej o)=some ((((Nr c U o).length:Nat):Int),A')/\Ii c A'
 |0,U,o,A,_,h,_=>by omega
 |mf+1,U,o,A,hs,hf,hA=>by
  have h8:=hv.n8;have hU:=bO hv hs.1;have hz:=gD hv.n8 hs.1;have h16:(16:Nat)^8=4294967296:=rfl;have h17:(16:Nat)^10=1099511627776:=rfl;have hm:=LD hv;unfold DL;rw[show shl .i64 1 ((Xs c X).1.1.length:Int)=some (((2^c.1.length:Nat)):Int)from b3 ⟨c.1.length,by omega⟩];simp only[Am,AJ];have h2:2^c.1.length<=2^8:=Nat.pow_le_pow_right (by omega) h8;have h3:1<=2^c.1.length:=Nat.one_le_two_pow;rw[Au (by omega)];by_cases hfull:fr c.1.length U=0
  ·rw[if_pos (by have:=hz.2 hfull;simp only[decide_eq_true_eq];omega)]
   refine⟨A,?_,hA⟩;unfold Nr;rw[hfull];rfl
  ·rw[if_neg (by simp only[decide_eq_true_eq];intro e;exact hfull (hz.1 (by omega)))]
   have hlast:-1<=Ej o/\Ej o<=16:=by
    cases o with
    |none=>simp[Ej]
    |some i=>have:=hs.2 i rfl;simp[Ej];omega
   rw[sH (by omega) (by omega)];simp only[AJ];by_cases hh:JO A ((U:Int),Ej o)=true
   ·rw[if_pos hh]
    obtain⟨V,o',e1,e2⟩:=hA _ (d9 (d:=(0:Int)) hh);simp only[Prod.mk.injEq]at e1;have hV:U=V:=by omega
    have ho:=ZU e1.2;subst hV;subst ho;exact⟨A,by rw[show BQ 0 A ((U:Int),Ej o)=_ from e2],hA⟩
   ·rw[if_neg hh,SE hv hX hs]
    simp only[AJ];obtain⟨d,hd⟩:∃d,fr c.1.length U=d+1:=⟨fr c.1.length U-1,by omega⟩;have hnx:∀k∈Jp (BJ c).length (D5 c) (IQ c) U o,Nj c (put U (D5 c k)) (some k)/\fr c.1.length (put U (D5 c k))=d:=fun k hk=>by
     obtain⟨k1,k2,_⟩:=Kj.1 hk;obtain⟨p1,p2⟩:=Uo hv.n8 (X8 hv k k1) hs.1;exact⟨⟨p1,fun i hi=>by cases hi;exact k1⟩,by have:=p2 k2;omega⟩
    have hnl:(Jp (BJ c).length (D5 c) (IQ c) U o).length<=16:=Nat.le_trans (List.length_filter_le ..) (by simpa using hm);obtain⟨A',e1,e2⟩:=SG (f:=fun A u=>DL (Xs c X) mf A u) (v:=fun k=>(Nr c (put U (D5 c k)) (some k)).length) (st:=Qr c U) hv (fun k=>Us hv _ _) (Jp (BJ c).length (D5 c) (IQ c) U o) 0 A
     (fun k hk A hA=>Rf hv hX mf (put U (D5 c k)) (some k) A (hnx k hk).1 (by have:=(hnx k hk).2;omega) hA) hA (by omega)
    rw[show((0:Nat):Int)=0 from rfl]at e1;rw[e1];simp only[AJ];have hlen:(Nr c U o).length=0+((Jp (BJ c).length (D5 c) (IQ c) U o).map fun k=>(Nr c (put U (D5 c k)) (some k)).length).sum:=by
     unfold Nr;rw[hd,ext,List.length_flatMap,Nat.zero_add]
     congr 1
     refine List.map_congr_left fun k hk=>?_;rw[List.length_map,(hnx k hk).2]
    rw[<-hlen];refine⟨_,rfl,fun p hp=>?_⟩;rcases bP hp with rfl|hp
    ·exact⟨U,o,rfl,rfl⟩
    ·exact e2 p hp
abbrev Jc(c:Aw):List (List Nat):=Js c.1.length (BJ c).length (D5 c) (IQ c)
theorem eB(c:Aw):fr c.1.length 0=c.1.length:=by unfold fr;rw[List.filter_eq_self.2 (fun p _=>by simp),List.length_range]
theorem eD(c:Aw):Nj c 0 none:=⟨Nat.two_pow_pos _,fun i h=>by cases h⟩
theorem all_eq{F:Nat}(hF:1000<F)(hv:VC c)(hX:Pb c X){A:EN}(hA:Ii c A):∃A',DL (Xs c X) F A (0,-1)=some ((((Jc c).length:Nat):Int),A')/\Ii c A':=by
 have h8:=hv.n8;obtain⟨A',h1,h2⟩:=Rf hv hX F 0 none A (eD c) (by rw[eB];omega) hA;refine⟨A',?_,h2⟩;have e:Nr c 0 none=Jc c:=by unfold Nr Jc Js;rw[eB]
 rw[e]at h1;exact h1
theorem SH:Ii c []:=fun p hp=>by cases hp
theorem count_eq{F:Nat}(hF:1000<F)(hv:VC c):Ic F c=some ((((Jc c).length:Nat):Int),0):=by
 obtain⟨X,h1,hX⟩:=RZ hF hv (l:=[]) (fun s hs=>by cases hs) (by simp);obtain⟨A',h2,_⟩:=all_eq hF hv hX SH;unfold Ic;rw[h1];simp only[Am,AJ];rw[if_neg (by simp)];rw[show DL (c,Dp 0 c.1,X,Opq.mk,Opq.mk) F [] (0,-1)=_ from h2]
 rfl
theorem nY(hv:VC c):(Jc c).length<=16^8:=by
 have:=Us hv 0 none;unfold Nr at this;rw[eB]at this;exact this
def Gz(c:Aw)(t:List Nat):List Aj:=t.map fun k=>(BJ c).getD k default
theorem WC(hv:VC c)(hX:Pb c X){mf U d:Nat}{o:Option Nat}(hs:Nj c U o)(hd:fr c.1.length U=d+1)(hmf:d<mf):∀(L:List Nat)(num:Nat)(A:EN)(t:List Nat),(∀k∈L,k∈Jp (BJ c).length (D5 c) (IQ c) U o)->Ii c A->num<=16^8->
  (L.flatMap fun k=>(ext (BJ c).length (D5 c) (IQ c) d (put U (D5 c k)) (some k)).map (k::·))[num]?=some t->
  ∃(k num':Nat)(A':EN)(t':List Nat),KH (Xs c X) mf (L.map (Qr c U)) (num:Int) A=some (some (Qr c U k),(num':Int),A')/\Ii c A'/\k∈L/\t=k::t'/\num'<=16^8/\(ext (BJ c).length (D5 c) (IQ c) d (put U (D5 c k)) (some k))[num']?=some t'
 |[],num,A,t,_,_,_,h=>by simp at h
 |k::L,num,A,t,hL,hA,hnum,h=>by
  have h16:(16:Nat)^8=4294967296:=rfl;obtain⟨k1,k2,_⟩:=Kj.1 (hL k (List.mem_cons_self ..));obtain⟨p1,p2⟩:=Uo hv.n8 (X8 hv k k1) hs.1;have hfr:fr c.1.length (put U (D5 c k))=d:=by have:=p2 k2;omega
  obtain⟨A1,e1,e2⟩:=Rf hv hX mf (put U (D5 c k)) (some k) A ⟨p1,fun i hi=>by cases hi;exact k1⟩ (by omega) hA;have hle:=Us hv (put U (D5 c k)) (some k);unfold Nr at e1 hle;rw[hfr]at e1 hle;rw[List.flatMap_cons]at h;rw[List.map_cons,KH,show DL (Xs c X) mf A (Qr c U k)=_ from e1];simp only[Am,AJ];by_cases hlt:num<(ext (BJ c).length (D5 c) (IQ c) d (put U (D5 c k)) (some k)).length
  ·rw[if_pos (by simpa using hlt)]
   rw[List.getElem?_append_left (by simpa using hlt),List.getElem?_map,List.getElem?_eq_getElem hlt]at h;simp only[Option.map_some,Option.some.injEq]at h;exact⟨k,num,A1,_,rfl,e2,List.mem_cons_self ..,h.symm,hnum,List.getElem?_eq_getElem hlt⟩
  ·rw[if_neg (by simp only[decide_eq_true_eq];omega)]
   rw[List.getElem?_append_right (by simp;omega),List.length_map]at h;rw[Au (by omega),show(num:Int)-((ext (BJ c).length (D5 c) (IQ c) d (put U (D5 c k)) (some k)).length:Int)=((num-(ext (BJ c).length (D5 c) (IQ c) d (put U (D5 c k)) (some k)).length:Nat):Int) by omega];obtain⟨k',num',A',t',g1,g2,g3,g4,g5,g6⟩:=WC hv hX hs hd hmf L _ A1 t (fun j hj=>hL j (List.mem_cons_of_mem _ hj)) e2 (by omega) h;exact⟨k',num',A',t',g1,g2,List.mem_cons_of_mem _ g3,g4,g5,g6⟩
theorem ZV(hv:VC c)(hX:Pb c X){mf:Nat}:∀(d U:Nat)(o:Option Nat)(num:Nat)(q:List Aj)(A:EN)(t:List Nat),Nj c U o->fr c.1.length U=d->d<=mf->Ii c A->num<=16^8->q.length+d<=100->(ext (BJ c).length (D5 c) (IQ c) d U o)[num]?=some t->
  ∃A',JY (Xs c X) mf d ((U:Int),Ej o) (num:Int) q A=some (q++Gz c t,A')/\Ii c A'
 |0,U,o,num,q,A,t,hs,hd,_,hA,_,_,h=>by
  unfold ext at h;have:t=[]:=by
   cases num with
   |zero=>simpa using h.symm
   |succ n=>simp at h
  subst this;exact⟨A,by simp[JY,Gz],hA⟩
 |d+1,U,o,num,q,A,t,hs,hd,hmf,hA,hnum,hq,h=>by
  unfold ext at h;obtain⟨k,num',A',t',g1,g2,g3,g4,g5,g6⟩:=WC hv hX hs hd (mf:=mf) (by omega) _ num A t (fun _ h=>h) hA hnum h;subst g4;obtain⟨k1,k2,_⟩:=Kj.1 g3;obtain⟨p1,p2⟩:=Uo hv.n8 (X8 hv k k1) hs.1;have hfr:fr c.1.length (put U (D5 c k))=d:=by have:=p2 k2;omega
  obtain⟨e1,_,_,e4⟩:=Oh hv k1;unfold JY;rw[SE hv hX hs];simp only[Am,AJ];rw[g1];simp only[AJ,Option.getD_some];rw[show ix (Xs c X).2.1 (Qr c U k).2=some (BJ c)[k]from e1];simp only[AJ];rw[Fz (by simp;omega)];simp only[AJ];obtain⟨A2,f1,f2⟩:=ZV hv hX (mf:=mf) d (put U (D5 c k)) (some k) num' (q++[(BJ c)[k]]) A' t' ⟨p1,fun i hi=>by cases hi;exact k1⟩ hfr (by omega) g2 g5 (by rw[List.length_append,List.length_singleton];omega) g6;refine⟨A2,?_,f2⟩;rw[show Qr c U k=(((put U (D5 c k):Nat):Int),Ej (some k))from rfl,f1];simp[Gz,k1]
theorem kC{F:Nat}(hF:1000<F)(hv:VC c){num:Nat}{t:List Nat}(ht:(Jc c)[num]?=some t):KJ F c (num:Int)=some (Gz c t,0):=by
 have h16:(16:Nat)^8=4294967296:=rfl;have h8:=hv.n8;have hlt:num<(Jc c).length:=(List.getElem?_eq_some_iff.1 ht).1;have hle:=nY hv;have htm:=O7.1 (List.mem_of_getElem? ht);obtain⟨X,h1,hX⟩:=RZ hF hv (l:=[]) (fun s hs=>by cases hs) (by simp);obtain⟨A',h2,hA⟩:=all_eq hF hv hX SH;unfold KJ;rw[h1];simp only[Am,AJ];rw[if_neg (by simp),if_neg (by simp)];rw[show DL (c,Dp 0 c.1,X,Opq.mk,Opq.mk) F [] (0,-1)=_ from h2];simp only[AJ];rw[if_neg (by simp only[decide_eq_true_eq];omega)];obtain⟨A2,f1,_⟩:=ZV hv hX (mf:=F) c.1.length 0 none num [] A' t (eD c) (eB c) (by omega) hA (by omega) (by simp;omega) ht;unfold Nh;rw[show JY (c,Dp 0 c.1,X,Opq.mk,Opq.mk) F (c,Dp 0 c.1,X,Opq.mk,Opq.mk).1.1.length (0,-1) (num:Int) [] A'=some ([]++Gz c t,A2)from f1];simp only[Am,AJ,List.nil_append];have hsl:(Gz c t).length=c.1.length:=by unfold Gz;rw[List.length_map,htm.len]
 have e5:mks 16 ((Gz c t).length:Int) ((0,false):Aj)=some (List.replicate (Gz c t).length (0,false)):=by
  unfold mks;rw[if_pos (by simp;omega)];rfl
 rw[e5];simp only[AJ]
 congr 2
 unfold KO;rw[List.length_replicate,List.take_length,List.drop_of_length_le (by simp),List.append_nil]
end
end
section
section
variable {c:Aw}{X:Dv}
structure Cn(O:oQ)(f:Nat->Nat->Nat):Prop where
 nod:(O.map (·.1)).Nodup
 get:∀i k:Nat,BQ 0 O ((i:Int),(k:Int))=((f i k:Nat):Int)
theorem mput_keys{κ ν:Type}[DecidableEq κ]{k:κ}{v:ν}:∀{l:List (κ×ν)},∀a,a∈(BL l k v).map (·.1)->a=k\/a∈l.map (·.1)
 |l,a,h=>by
  obtain⟨p,hp,rfl⟩:=List.mem_map.1 h;rcases bP hp with rfl|hp
  ·exact .inl rfl
  ·exact .inr (List.mem_map.2 ⟨p,hp,rfl⟩)
theorem Ut{κ ν:Type}[DecidableEq κ]{k:κ}{v:ν}:∀{l:List (κ×ν)},(l.map (·.1)).Nodup->((BL l k v).map (·.1)).Nodup
 |[],_=>by simp[BL]
 |(a,b)::l,h=>by
  simp only[List.map_cons,List.nodup_cons]at h;unfold BL;by_cases e:a=k
  ·rw[if_pos e];subst e;simpa using h
  ·rw[if_neg e]
   simp only[List.map_cons,List.nodup_cons];refine⟨fun hh=>?_,Ut h.2⟩;rcases mput_keys a hh with hh|hh
   ·exact e hh
   ·exact h.1 hh
theorem oh{κ ν:Type}[DecidableEq κ]{d:ν}{k k':κ}{v:ν}:∀{l:List (κ×ν)},BQ d (BL l k v) k'=if k'=k then v else BQ d l k'
 |[]=>by
  by_cases h:k'=k
  ·subst h;simp[BL,BQ]
  ·simp[BL,BQ,h,Ne.symm h]
 |(a,u)::l=>by
  have ih:=oh (d:=d) (k:=k) (k':=k') (v:=v) (l:=l);unfold BL;by_cases e:a=k
  ·rw[if_pos e];subst e
   by_cases h:k'=a
   ·subst h;simp[BQ]
   ·simp[BQ,h,Ne.symm h]
  ·rw[if_neg e,BQ,BQ,ih]
   by_cases h:a=k'
   ·subst h;simp[e]
   ·simp[h]
theorem Cn.add{O:oQ}{f:Nat->Nat->Nat}(h:Cn O f)(i k n:Nat):Cn (BL O ((i:Int),(k:Int)) (((f i k+n:Nat)):Int)) fun i' k'=>if i'=i/\k'=k then f i k+n else f i' k':=by
 refine⟨Ut h.nod,fun i' k'=>?_⟩;rw[oh];by_cases e:i'=i/\k'=k
 ·rw[if_pos (by rw[e.1,e.2]),if_pos e]
 ·rw[if_neg (by simp only[Prod.mk.injEq];intro hh;exact e ⟨by omega,by omega⟩),if_neg e,h.get]
end
end
end Jn
end Go.Proofs.YtfmelbioccbdoaaGreat
end
section
namespace Go.Proofs.YtfmelbioccbdoaaGreat
open Go Go.Md Go.RowKit
namespace Wo
section
theorem LF{k:Nat}(h:k<4611686018427387904):Aa ((k:Int)+1)=((k+1:Nat):Int):=by rw[Au (by omega)];rfl
abbrev Bk:=Uno (List (Ar 2 Int))
def wd(x:Int):Bool:=decide (1<=x)&&decide (x<=100)
theorem kD{x:Int}(h:wd x=true):∃n:Nat,x=(n:Int)/\1<=n/\n<101:=by
 simp[wd]at h;exact⟨x.toNat,by omega,by omega,by omega⟩
inductive Con(E:Nat->Nat->Prop):Nat->Nat->Prop
 |refl (i:Nat):Con E i i
 |step {i j k:Nat}:Con E i j->(E j k\/E k j)->Con E i k
theorem Con.trans{E:Nat->Nat->Prop}{i j k:Nat}(h:Con E i j)(g:Con E j k):Con E i k:=by
 induction g with
 |refl=>exact h
 |step _ e ih=>exact .step ih e
theorem Con.symm{E:Nat->Nat->Prop}{i j:Nat}(h:Con E i j):Con E j i:=by
 induction h with
 |refl=>exact .refl _
 |step _ e ih=>exact(Con.step (.refl _) e.symm).trans ih
section
variable {x:Bk}{low:Nat->Nat}
end
end
structure VL(l:List (List Int)):Prop where
 two:2<=l.length
 four:l.length<=4
 len:∀r∈l,r.length<=8
 ws:∀r∈l,∀n∈r,wd n=true
abbrev Tp:=Nat->Nat
def upd(f:Tp)(j i:Nat):Tp:=fun n=>if n=j then i else f n
def ln(l:List (List Int))(j:Nat):Nat:=(l.getD j []).length
def Ld(l:List (List Int)):Nat->List Tp
 |0=>[fun _=>0]
 |j+1=>(Ld l j).flatMap fun t=>(List.range (ln l j)).map (upd t j)
theorem NC{l:List (List Int)}:∀(j:Nat)(f:Tp),f∈Ld l j->(∀i,i<j->f i<ln l i)/\∀i,j<=i->f i=0
 |0,f,h=>by
  rw[Ld,List.mem_singleton]at h;subst h;exact⟨fun i h=>by omega,fun _ _=>rfl⟩
 |j+1,f,h=>by
  rw[Ld,List.mem_flatMap]at h;obtain⟨t,ht,h⟩:=h;obtain⟨i,hi,rfl⟩:=List.mem_map.1 h;obtain⟨a,b⟩:=NC j t ht;rw[List.mem_range]at hi;refine⟨fun n hn=>?_,fun n hn=>?_⟩
  ·unfold upd;by_cases e:n=j
   ·rw[if_pos e];subst e;exact hi
   ·rw[if_neg e];exact a n (by omega)
  ·unfold upd;rw[if_neg (by omega)];exact b n (by omega)
theorem gG(f:Tp)(j a b:Nat):upd (upd f j a) j b=upd f j b:=by funext n;unfold upd;by_cases e:n=j<;>simp[e]
theorem bQ{f:Tp}{j a:Nat}(h:f j=a):upd f j a=f:=by funext n;unfold upd;by_cases e:n=j<;>simp[e,h]
def pl(f:Tp):Pl:=⟨(List.range 4).map fun i=>(f i:Int),by simp⟩
theorem nZ{l:List (List Int)}(h:VL l)(i:Nat):ln l i<=8:=by
 unfold ln;by_cases hi:i<l.length
 ·simp only[List.getD_eq_getElem?_getD,List.getElem?_eq_getElem hi,Option.getD_some];exact h.len _ (List.getElem_mem hi)
 ·simp only[List.getD_eq_getElem?_getD,List.getElem?_eq_none (by omega:l.length<=i),Option.getD_none];simp
def MG(l:List (List Int))(h i:Nat):Nat:=((l.getD h []).getD i 0).toNat
def mt(g:Tp)(l:List (List Int))(k:Nat)(f:Tp):Bool:=(List.range k).all fun h=>decide (g (MG l h (f h))=g (MG l 0 (f 0)))
theorem Qs{l:List (List Int)}(h:VL l){j i:Nat}(hj:j<l.length)(hi:i<ln l j):ix l[j] (i:Int)=some ((MG l j i:Nat):Int)/\MG l j i<101:=by
 have eln:ln l j=l[j].length:=by unfold ln;simp[hj]
 have hi':i<l[j].length:=by omega
 have hw:=h.ws _ (List.getElem_mem hj) _ (List.getElem_mem hi');obtain⟨n,e,_,hn⟩:=kD hw;have:MG l j i=n:=by unfold MG;simp[hj,hi',e]
 rw[Bb hi',this,e];exact⟨rfl,hn⟩
def Mt(g:Tp)(l:List (List Int)):List Tp:=(Ld l l.length).filter (mt g l l.length)
def cnd(g:Tp)(l:List (List Int))(j:Nat)(f:Tp)(i:Nat):Bool:=decide (g (MG l j i)=g (MG l 0 (if j=0 then i else f 0)))
def JJ(k:Nat)(f f':Tp):Bool:=(List.range k).all fun h=>decide (f h<f' h)
theorem KM{k:Nat}{f f':Tp}:JJ k f f'=true↔∀h,h<k->f h<f' h:=by
 unfold JJ;simp
theorem ZW{k:Nat}{f g h:Tp}(a:JJ k f g=true)(b:JJ k g h=true):JJ k f h=true:=by
 rw[KM]at*
 intro i hi;have:=a i hi;have:=b i hi;omega
theorem Oj{g:Tp}{l:List (List Int)}{f:Tp}(h:f∈Mt g l):(∀i,i<l.length->f i<ln l i)/\(∀i,l.length<=i->f i=0)/\mt g l l.length f=true:=by
 obtain⟨a,b⟩:=List.mem_filter.1 h;exact⟨(NC _ f a).1,(NC _ f a).2,b⟩
section
theorem ZX{l:List (List Int)}:∀(j:Nat)(f:Tp),(∀i,i<j->f i<ln l i)->(∀i,j<=i->f i=0)->f∈Ld l j
 |0,f,_,h=>by rw[Ld,List.mem_singleton];funext i;exact h i (by omega)
 |j+1,f,h,h0=>by
  rw[Ld,List.mem_flatMap];refine⟨upd f j 0,ZX j _ (fun i hi=>?_) (fun i hi=>?_),List.mem_map.2 ⟨f j,List.mem_range.2 (h j (by omega)),?_⟩⟩
  ·unfold upd;rw[if_neg (by omega)];exact h i (by omega)
  ·unfold upd;by_cases e:i=j
   ·rw[if_pos e]
   ·rw[if_neg e];exact h0 i (by omega)
  ·rw[gG,bQ rfl]
theorem ng{g:Tp}{l:List (List Int)}{f:Tp}(h:∀i,i<l.length->f i<ln l i)(h0:∀i,l.length<=i->f i=0)(hm:mt g l l.length f=true):f∈Mt g l:=
 List.mem_filter.2 ⟨ZX _ f h h0,hm⟩
section
variable {g:Tp}{l:List (List Int)}
def Chn(g:Tp)(l:List (List Int))(c:List Tp)(u:Tp):Prop:=c.Pairwise (fun a b=>JJ l.length a b=true)/\∀f∈c,f∈Mt g l/\JJ l.length f u=true
def Mx(g:Tp)(l:List (List Int))(u:Tp)(n:Nat):Prop:=(∃c,Chn g l c u/\c.length=n)/\∀c,Chn g l c u->c.length<=n
theorem Chn.mono{u v:Tp}{c:List Tp}(h:Chn g l c u)(huv:∀f,JJ l.length f u=true->JJ l.length f v=true):Chn g l c v:=⟨h.1,fun f hf=>⟨(h.2 f hf).1,huv f (h.2 f hf).2⟩⟩
theorem Mx.zero{u:Tp}{h:Nat}(hh:h<l.length)(h0:u h=0):Mx g l u 0:=by
 refine⟨⟨[],⟨List.Pairwise.nil,fun f hf=>by cases hf⟩,rfl⟩,fun c hc=>?_⟩;cases c with
 |nil=>exact Nat.le_refl _
 |cons f c=>
  have:=KM.1 (hc.2 f (List.mem_cons_self ..)).2 h hh;omega
theorem WE{α:Type}(c:List α):c=[]\/∃d x,c=d++[x]:=by
 rcases List.eq_nil_or_concat c with h|⟨d,x,h⟩
 ·exact .inl h
 ·exact .inr ⟨d,x,by simpa using h⟩
theorem Chn.snoc{c:List Tp}{x u:Tp}(h:Chn g l (c++[x]) u):Chn g l c x/\x∈Mt g l/\JJ l.length x u=true:=by
 obtain⟨h1,h2⟩:=h;rw[List.pairwise_append]at h1;refine⟨⟨h1.1,fun f hf=>⟨(h2 f (by simp[hf])).1,h1.2.2 f hf x (by simp)⟩⟩,h2 x (by simp)⟩
theorem Chn.add{c:List Tp}{x u:Tp}(h:Chn g l c x)(hx:x∈Mt g l)(hu:JJ l.length x u=true):Chn g l (c++[x]) u:=by
 refine⟨List.pairwise_append.2 ⟨h.1,List.pairwise_singleton ..,fun f hf y hy=>?_⟩,fun f hf=>?_⟩
 ·rw[List.mem_singleton]at hy;subst hy;exact(h.2 f hf).2
 ·rcases List.mem_append.1 hf with hf|hf
  ·exact⟨(h.2 f hf).1,ZW (h.2 f hf).2 hu⟩
  ·rw[List.mem_singleton]at hf;subst hf;exact⟨hx,hu⟩
def WG(j:Nat)(u:Tp):Tp:=fun i=>if i<j then u i-1 else u i
theorem Mx.hit{u:Tp}{n:Nat}(hp:∀h,h<l.length->0<u h)(hv:WG l.length u∈Mt g l)(h:Mx g l (WG l.length u) n):Mx g l u (n+1):=by
 have hvu:JJ l.length (WG l.length u) u=true:=KM.2 fun h hh=>by unfold WG;rw[if_pos hh];have:=hp h hh;omega
 refine⟨?_,fun c hc=>?_⟩
 ·obtain⟨⟨c,c1,c2⟩,_⟩:=h
  exact⟨c++[WG l.length u],c1.add hv hvu,by simp[c2]⟩
 ·rcases WE c with rfl|⟨d,x,rfl⟩
  ·simp
  ·obtain⟨a,b,e⟩:=hc.snoc
   have:=h.2 d (a.mono fun f hf=>KM.2 fun i hi=>by
    have a1:=KM.1 hf i hi;have a2:=KM.1 e i hi;unfold WG;rw[if_pos hi];omega)
   simp;omega
end
def Memo(g:Tp)(l:List (List Int))(m:List (Pl×Int)):Prop:=∀p∈m,∃w n,p.1=pl w/\(∀i,l.length<=i->w i=0)/\p.2=((n:Nat):Int)/\Mx g l w n
theorem Memo.nil{g:Tp}{l:List (List Int)}:Memo g l []:=fun p hp=>by cases hp
theorem Chn.len{g:Tp}{l:List (List Int)}(h:0<l.length):∀(n:Nat)(c:List Tp)(u:Tp),c.length=n->Chn g l c u->n<=u 0
 |0,_,_,_,_=>Nat.zero_le _
 |n+1,c,u,e,hc=>by
  rcases WE c with rfl|⟨d,x,rfl⟩
  ·cases e
  ·obtain⟨a,b,hu⟩:=hc.snoc
   have:=Chn.len h n d x (by simpa using e) a;have:=KM.1 hu 0 h;omega
theorem Mx.le{g:Tp}{l:List (List Int)}(h:0<l.length){u:Tp}{n:Nat}(hm:Mx g l u n):n<=u 0:=by
 obtain⟨⟨c,c1,c2⟩,_⟩:=hm;exact Chn.len h n c u c2 c1
abbrev ul:=(Ob ((Uno (List (Ar 2 Int)))×(Ar 101 Int)))×(List (List Int))×(List (Ar 4 Int))
def Lv(g:Tp)(l:List (List Int))(L:List Tp)(v:List Int):Prop:=v.length=L.length/\∀(i:Nat)(f:Tp),L[i]?=some f->∃n:Nat,v[i]?=some ((n:Int)+1)/\Mx g l f n
end
section
def Uc(b:Nat->Nat)(c:Nat->Nat->Bool)(i:Nat):Nat:=
 b i+((List.range i).attach.map fun j=>if c j.1 i=true then Uc b c j.1 else 0).sum
termination_by i
decreasing_by exact List.mem_range.1 j.2
def Dc(n:Nat)(b:Nat->Nat)(c:Nat->Nat->Bool)(i:Nat):Nat:=
 b i+((List.range' (i+1) (n-1-i)).attach.map fun j=>if c i j.1=true then Dc n b c j.1 else 0).sum
termination_by n-i
decreasing_by have:=List.mem_range'_1.1 j.2;omega
theorem ni(b:Nat->Nat)(c:Nat->Nat->Bool)(i:Nat):Uc b c i=b i+((List.range i).map fun j=>if c j i=true then Uc b c j else 0).sum:=by
 rw[Uc]
 congr 2
 exact List.attach_map_val (f:=fun j=>if c j i=true then Uc b c j else 0)
theorem nk(n:Nat)(b:Nat->Nat)(c:Nat->Nat->Bool)(i:Nat):Dc n b c i=b i+((List.range' (i+1) (n-1-i)).map fun j=>if c i j=true then Dc n b c j else 0).sum:=by
 rw[Dc]
 congr 2
 exact List.attach_map_val (f:=fun j=>if c i j=true then Dc n b c j else 0)
theorem WH:∀i,((List.range i).map fun j=>2^j).sum+1=2^i
 |0=>rfl
 |i+1=>by rw[List.range_succ,List.map_append,List.sum_append];have:=WH i;simp;rw[Nat.pow_succ];omega
theorem Uu{f g:Nat->Nat}:∀(L:List Nat),(∀j∈L,f j<=g j)->(L.map f).sum<=(L.map g).sum
 |[],_=>Nat.le_refl _
 |a::L,h=>by
  have:=Uu L fun j hj=>h j (List.mem_cons_of_mem _ hj);have:=h a (List.mem_cons_self ..);simp only[List.map_cons,List.sum_cons];omega
theorem nu{b:Nat->Nat}{c:Nat->Nat->Bool}(hb:∀i,b i<=1):∀i,Uc b c i<=2^i:=by
 intro i
 induction i using Nat.strongRecOn with
 |ind i ih=>
  rw[ni];have:=Uu (f:=fun j=>if c j i=true then Uc b c j else 0) (g:=fun j=>2^j) (List.range i) fun j hj=>by
   have:=ih j (List.mem_range.1 hj);show(if c j i=true then Uc b c j else 0)<=_;split<;>omega
  have:=WH i;have:=hb i;omega
theorem Uv(n:Nat):∀(d i:Nat),i+d+1=n->((List.range' (i+1) d).map fun j=>2^(n-1-j)).sum+1=2^d
 |0,i,_=>rfl
 |d+1,i,h=>by
  rw[List.range'_succ,List.map_cons,List.sum_cons];have:=Uv n d (i+1) (by omega);rw[show n-1-(i+1)=d by omega,Nat.pow_succ];omega
theorem ny{n:Nat}{b:Nat->Nat}{c:Nat->Nat->Bool}(hb:∀i,b i<=1):∀(d i:Nat),i+d+1=n->Dc n b c i<=2^d:=by
 intro d
 induction d using Nat.strongRecOn with
 |ind d ih=>
  intro i hi;rw[nk];have:=Uu (f:=fun j=>if c i j=true then Dc n b c j else 0) (g:=fun j=>2^(n-1-j)) (List.range' (i+1) (n-1-i)) fun j hj=>by
   have hj:=List.mem_range'_1.1 hj;have:=ih (n-1-j) (by omega) j (by omega);show(if c i j=true then Dc n b c j else 0)<=_;split<;>omega
  have e:=Uv n d i hi;rw[show n-1-i=d by omega]at*
  have:=hb i;omega
def ML(M:List Tp)(i:Nat):Tp:=M.getD i fun _=>0
def LV(v:List Int)(i:Nat):Nat:=(v.getD i 0).toNat
section
variable {g:Tp}{l:List (List Int)}{v:List Int}
theorem ZY{M:List Tp}{i:Nat}(h:i<M.length):ML M i=M[i]:=by simp[ML,h]
theorem Lv.get(hv:Lv g l (Mt g l) v){i:Nat}(hi:i<(Mt g l).length):1<=LV v i/\v[i]?=some ((LV v i:Nat):Int)/\Mx g l (ML (Mt g l) i) (LV v i-1):=by
 obtain⟨n,h1,h2⟩:=hv.2 i _ (List.getElem?_eq_getElem hi);have e:LV v i=n+1:=by unfold LV;rw[List.getD_eq_getElem?_getD,h1];simp
 rw[e,h1,ZY hi];exact⟨by omega,by congr 1,h2⟩
end
section
variable {n:Nat}{lev:Nat->Nat}{B:Nat->Nat->Bool}
def kF(lev:Nat->Nat)(B:Nat->Nat->Bool)(i j:Nat):Bool:=decide (lev i+1=lev j)&&B i j
def YB(top:Nat)(lev:Nat->Nat)(i:Nat):Nat:=if lev i=top then 1 else 0
theorem WI(top:Nat)(lev:Nat->Nat)(i:Nat):YB top lev i<=1:=by unfold YB;split<;>omega
def Dw(n top:Nat)(lev:Nat->Nat)(B:Nat->Nat->Bool):Nat->Nat:=Dc n (YB top lev) (kF lev B)
def Uw(lev:Nat->Nat)(B:Nat->Nat->Bool):Nat->Nat:=Uc (YB 1 lev) (kF lev B)
end
end
section
def TT(n:Nat)(p q:Nat->Nat):List (Int×Int):=(List.range n).map fun i=>(((p i:Nat):Int),((q i:Nat):Int))
theorem Ux(n:Nat)(p q:Nat->Nat):(TT n p q).length=n:=by simp[TT]
theorem oC{n:Nat}{p q:Nat->Nat}{i:Nat}(h:i<n):ix (TT n p q) (i:Int)=some (((p i:Nat):Int),((q i:Nat):Int)):=by
 rw[Bb (by rw[Ux];exact h)];simp[TT]
section
variable {F:Nat}{d:Ob ((Uno (List (Ar 2 Int)))×(Ar 101 Int))}{l:List (List Int)}{g:Tp}{v:List Int}
abbrev Zb(d:Ob ((Uno (List (Ar 2 Int)))×(Ar 101 Int)))(g:Tp)(l:List (List Int)):ul:=(d,l,(Mt g l).map pl)
abbrev Bf(g:Tp)(l:List (List Int))(i j:Nat):Bool:=JJ l.length (ML (Mt g l) i) (ML (Mt g l) j)
theorem Lv.ix(hv:Lv g l (Mt g l) v){i:Nat}(hi:i<(Mt g l).length):Md.ix v (i:Int)=some ((LV v i:Nat):Int):=by
 have:=(hv.get hi).2.1;have hl:=hv.1;rw[Bb (by omega)];rw[List.getElem?_eq_getElem (by omega)]at this;exact this
theorem Lv.le(hv:Lv g l (Mt g l) v)(h:VL l){i:Nat}(hi:i<(Mt g l).length):LV v i<=1001:=by
 have h2:=h.two;obtain⟨_,_,hm⟩:=hv.get hi;have:=hm.le (by omega);have hf:=Oj (List.getElem_mem hi);rw[ZY hi]at this;have:=hf.1 0 (by omega);have:=nZ h 0;omega
end
end
section
section
variable {F:Nat}{d:Ob ((Uno (List (Ar 2 Int)))×(Ar 101 Int))}{l:List (List Int)}{g:Tp}{v:List Int}
end
end
section
section
variable {F:Nat}{d:Ob ((Uno (List (Ar 2 Int)))×(Ar 101 Int))}{l:List (List Int)}{g:Tp}{v:List Int}
end
end
section
section
variable {n top:Nat}{lev:Nat->Nat}{B:Nat->Nat->Bool}{m m':Nat}
end
section
variable {l:List (List Int)}{g:Tp}
theorem SI:∀j,(Ld l j).Nodup
 |0=>by simp[Ld]
 |j+1=>by
  rw[Ld];refine Jn.SS (SI j) (fun t _=>?_) fun a ha b hb x hx hy=>?_
  ·rw[List.Nodup,List.pairwise_map]
   refine List.nodup_range.imp fun{a b} hab e=>hab ?_;have:=congrFun e j;simpa[upd]using this
  ·obtain⟨i,_,rfl⟩:=List.mem_map.1 hx
   obtain⟨i',_,e⟩:=List.mem_map.1 hy;have za:=(NC j a ha).2 j (Nat.le_refl _);have zb:=(NC j b hb).2 j (Nat.le_refl _)
   funext n
   have:=congrFun e n;unfold upd at this;by_cases hn:n=j
   ·subst hn;rw[za,zb]
   ·rw[if_neg hn,if_neg hn]at this;exact this.symm
theorem bR:(Mt g l).Nodup:=List.Nodup.sublist List.filter_sublist (SI _)
structure Uq(g:Tp)(l:List (List Int)):Prop where
 vl:VL l
 nod:∀r∈l,r.Nodup
 inj:∀i j,i<101->j<101->g i=g j->i=j
theorem Uq.pos(h:Uq g l){j a b:Nat}(hj:j<l.length)(ha:a<ln l j)(hb:b<ln l j)(e:MG l j a=MG l j b):a=b:=by
 have eln:ln l j=l[j].length:=by unfold ln;simp[hj]
 have h1:=(Qs h.vl hj ha).1;have h2:=(Qs h.vl hj hb).1;rw[e]at h1;rw[Bb (by omega)]at h1 h2;have:l[j][a]=l[j][b]:=by rw[Option.some.injEq]at h1 h2;rw[h1,h2]
 exact(List.getElem_inj (h.nod _ (List.getElem_mem hj))).1 this
theorem Uq.same(h:Uq g l){f:Tp}(hf:f∈Mt g l){j:Nat}(hj:j<l.length):Wo.MG l j (f j)=Wo.MG l 0 (f 0):=by
 have h2:=h.vl.two;obtain⟨a,_,b⟩:=Oj hf;have:=List.all_eq_true.1 b j (List.mem_range.2 hj);exact h.inj _ _ (Qs h.vl hj (a j hj)).2 (Qs h.vl (by omega) (a 0 (by omega))).2 (by simpa using this)
theorem Uq.one(h:Uq g l){f f':Tp}(hf:f∈Mt g l)(hf':f'∈Mt g l){j:Nat}(hj:j<l.length)(e:f j=f' j):f=f':=by
 obtain⟨a,a0,_⟩:=Oj hf;obtain⟨b,b0,_⟩:=Oj hf'
 funext i
 by_cases hi:i<l.length
 ·refine h.pos hi (a i hi) (b i hi) ?_
  rw[h.same hf hi,h.same hf' hi,<-h.same hf hj,<-h.same hf' hj,e]
 ·rw[a0 i (by omega),b0 i (by omega)]
theorem Uq.mem(h:Uq g l){f:Tp}(hf:∀i,i<l.length->f i<ln l i)(h0:∀i,l.length<=i->f i=0)(he:∀i,i<l.length->Wo.MG l i (f i)=Wo.MG l 0 (f 0)):f∈Mt g l:=
 ng hf h0 (List.all_eq_true.2 fun i hi=>by rw[he i (List.mem_range.1 hi)];simp)
theorem Uq.len(h:Uq g l):(Mt g l).length<=ln l 0:=by
 have h2:=h.vl.two;have hn:((Mt g l).map fun f=>f 0).Nodup:=by
  rw[List.Nodup,List.pairwise_map];refine List.Pairwise.imp_of_mem (fun{a b} ha hb hab e=>hab (h.one ha hb (show 0<l.length by omega) e)) (bR (g:=g) (l:=l))
 have:=Jn.SC (k:=List.range (ln l 0)) hn fun a ha=>by
  obtain⟨f,hf,rfl⟩:=List.mem_map.1 ha;exact List.mem_range.2 ((Oj hf).1 0 (by omega))
 simpa using this
end
end
section
section
variable {F:Nat}{l:List (List Int)}{g:Tp}
end
end
section
section
variable {n top:Nat}{lev:Nat->Nat}{B:Nat->Nat->Bool}
def Qu(n top:Nat)(lev:Nat->Nat)(B:Nat->Nat->Bool)(i:Nat):Nat:=Uw lev B i*Dw n top lev B i
theorem Zd(hn:n<=40){i:Nat}(hi:i<n):Qu n top lev B i<=549755813888:=by
 have a:Uw lev B i<=2^i:=nu (WI 1 lev) i;have b:Dw n top lev B i<=2^(n-1-i):=ny (WI top lev) (n-1-i) i (by omega);refine Nat.le_trans (Nat.mul_le_mul a b) ?_;rw[<-Nat.pow_add];show _<=2^39;exact Nat.pow_le_pow_right (by omega) (by omega)
def Qv(w:Nat->Nat)(p:Nat->Bool)(k:Nat):Nat:=((List.range k).map fun i=>if p i=true then w i else 0).sum
theorem Uy(w:Nat->Nat)(p:Nat->Bool)(k:Nat):Qv w p (k+1)=Qv w p k+if p k=true then w k else 0:=by
 unfold Qv;rw[List.range_succ,List.map_append,List.sum_append];simp
theorem Ze{w:Nat->Nat}{p:Nat->Bool}{W:Nat}(h:∀i,i<n->w i<=W):∀k,k<=n->Qv w p k<=k*W
 |0,_=>by simp[Qv]
 |k+1,hk=>by
  rw[Uy,Nat.succ_mul];have:=Ze h k (by omega) (p:=p);have:=h k (by omega);split<;>omega
end
section
variable {F:Nat}{d:Ob ((Uno (List (Ar 2 Int)))×(Ar 101 Int))}{l:List (List Int)}{g:Tp}{v:List Int}
def cnt(g:Tp)(l:List (List Int))(top:Nat)(v:List Int):Nat:=if(Mt g l).length=0 then 1 else Qv (Qu (Mt g l).length top (LV v) (Bf g l)) (fun i=>decide (LV v i=1)) (Mt g l).length
theorem eF(hv:Lv g l (Mt g l) v)(h40:(Mt g l).length<=40){top:Nat}:∀(m k:Nat),k<=(Mt g l).length->(Mt g l).length-k<m->
  GK F (TT (Mt g l).length (Uw (LV v) (Bf g l)) (Dw (Mt g l).length top (LV v) (Bf g l))) v m ((Qv (Qu (Mt g l).length top (LV v) (Bf g l)) (fun i=>decide (LV v i=1)) k:Nat):Int) (k:Int)
   =some ((Qv (Qu (Mt g l).length top (LV v) (Bf g l)) (fun i=>decide (LV v i=1)) (Mt g l).length:Nat):Int)
 |0,k,_,h=>by omega
 |m+1,k,hk,hm=>by
  have hl:=hv.1;unfold GK;by_cases hlt:k<(Mt g l).length
  ·have hw:=Zd (top:=top) (lev:=LV v) (B:=Bf g l) h40 hlt
   have hs:=Ze (w:=Qu (Mt g l).length top (LV v) (Bf g l)) (p:=fun i=>decide (LV v i=1)) (W:=549755813888) (n:=(Mt g l).length) (fun i hi=>Zd h40 hi) k (by omega);rw[if_pos (by simp;omega),hv.ix hlt];simp only[Am,AJ];have ih:=eF hv h40 (top:=top) m (k+1) (by omega) (by omega);rw[Uy]at ih;by_cases e:LV v k=1
   ·rw[if_pos (by simp[e]),oC hlt]
    simp only[AJ,Kr];rw[show((Uw (LV v) (Bf g l) k:Nat):Int)*((Dw (Mt g l).length top (LV v) (Bf g l) k:Nat):Int)=((Qu (Mt g l).length top (LV v) (Bf g l) k:Nat):Int) by unfold Qu;simp,Au (n:=((Qu (Mt g l).length top (LV v) (Bf g l) k:Nat):Int)) (by omega),Au (by omega),LF (by omega)];rw[if_pos (by simp[e])]at ih;rw[<-ih];rfl
   ·rw[if_neg (by simp;omega)]
    simp only[AJ];rw[LF (by omega)];rw[if_neg (by simp[e])]at ih;exact ih
  ·rw[if_neg (by simp;omega),show k=(Mt g l).length by omega]
theorem count_eq(hF:1000<F)(hv:Lv g l (Mt g l) v)(h40:(Mt g l).length<=40){top:Nat}(hl:I4 F (Zb d g l)=some v):
  Lm F (Zb d g l) (TT (Mt g l).length (Uw (LV v) (Bf g l)) (Dw (Mt g l).length top (LV v) (Bf g l)))=some ((cnt g l top v:Nat):Int):=by
 unfold Lm cnt;by_cases h0:(Mt g l).length=0
 ·rw[if_pos (by simp[Ux,h0]),if_pos h0];rfl
 ·have h0':((Mt g l).length:Int)≠0:=by omega
  rw[if_neg (by rw[Ux];simp only[decide_eq_true_eq];exact h0'),if_neg h0];rw[show I4 F ((Zb d g l).1,(Zb d g l).2.1,(Zb d g l).2.2)=some v from hl];simp only[Am,AJ];have:=eF (F:=F) hv h40 (top:=top) F 0 (by omega) (by omega);rw[show((0:Nat):Int)=0 from rfl,show((Qv (Qu (Mt g l).length top (LV v) (Bf g l)) (fun i=>decide (LV v i=1)) 0:Nat):Int)=0 from rfl]at this;rw[this];rfl
end
end
end Wo
end Go.Proofs.YtfmelbioccbdoaaGreat
end
section
namespace Go.Proofs.YtfmelbioccbdoaaGreat
open Go Go.Md Go.RowKit
namespace Jn
section
section
variable {c:Aw}
theorem gI{s:Aj}(h:IsStep c s):Gv (c.1,c.2.1,(c.2.2.1,c.2.2.2)) (s.1,s.2)=some true:=by
 obtain⟨i,h1,p,h2,h3⟩:=h;have hi:=(List.getElem?_eq_some_iff.1 h2).1;unfold Gv;simp only[h1];rw[if_pos (by simp),if_pos (by simpa using hi)];cases hs:s.2 with
 |false=>rfl
 |true=>
  rw[if_neg (by simp),show ix c.1 (i:Int)=some p by simp[ix,h2]];simp only[Am,AJ];rw[h3 hs]
theorem eG{s:Aj}(hs:IsStep c s):GY (c.1,c.2.1,(c.2.2.1,c.2.2.2)) (s.1,s.2)=some (R9 c s,fin c s):=by
 obtain⟨p,h1,-,-⟩:=hs.ix;unfold GY R9 fin;simp only[h1];cases s.2<;>rfl
theorem oD(hv:VC c){p q:Aj}(hp:IsStep c p)(hq:IsStep c q):Ib (c.1,c.2.1,(c.2.2.1,c.2.2.2)) (p.1,p.2) (q.1,q.2)=some (fit c p q):=by
 have a:=LC.1 (hp.ok hv).2;have b:=LC.1 (hq.ok hv).1;unfold Ib;simp only;rw[show GY (c.1,c.2.1,c.2.2.1,c.2.2.2) (p.1,p.2)=_ from eG hp,show GY (c.1,c.2.1,c.2.2.1,c.2.2.2) (q.1,q.2)=_ from eG hq];simp only[Am,AJ];rw[Au (by omega),Au (by omega),Au (by omega)];unfold fit bL;simp only[Bool.and_assoc]
theorem ol{F:Nat}{l:List Aj}(hl:∀s∈l,IsStep c s)(hn:l.length<=8):∀(m k:Nat),k<=l.length->l.length-k<m->Dk F c l m (k:Int)=some (.inr ())
 |0,k,_,h=>by omega
 |m+1,k,hk,h=>by
  unfold Dk;by_cases hlt:k<l.length
  ·rw[if_pos (by simpa using hlt),Bb hlt]
   simp only[Am,AJ];rw[show Gv (c.1,c.2.1,c.2.2.1,c.2.2.2) (l[k].1,l[k].2)=some true from gI (hl _ (List.getElem_mem hlt))];simp only[AJ];rw[if_neg (by simp),Wo.LF (by omega),ol hl hn m (k+1) (by omega) (by omega)]
  ·rw[if_neg (by simpa using hlt)]
theorem om{F:Nat}{l:List Aj}(hd:(l.map (·.1)).Nodup)(hn:l.length<=8){y:Nat}(hy:y<l.length):∀(m k:Nat),k<=y->y-k<m->Dl F l (y:Int) m (k:Int)=some (.inr ())
 |0,k,_,h=>by omega
 |m+1,k,hk,h=>by
  unfold Dl;by_cases hlt:k<y
  ·rw[if_pos (by simpa using hlt),Bb hy,Bb (show k<l.length by omega)]
   simp only[Am,AJ];have hne:l[y].1≠l[k].1:=by
    rw[List.Nodup,List.pairwise_map,List.pairwise_iff_getElem]at hd;exact fun e=>hd k y (by omega) hy hlt e.symm
   rw[if_neg (by simpa using hne),Wo.LF (by omega),om hd hn hy m (k+1) (by omega) (by omega)]
  ·rw[if_neg (by simpa using hlt)]
theorem oo{F:Nat}(hF:1000<F){l:List Aj}(hd:(l.map (·.1)).Nodup)(hn:l.length<=8):∀(m k:Nat),k<=l.length->l.length-k<m->Dm F l m (k:Int)=some (.inr ())
 |0,k,_,h=>by omega
 |m+1,k,hk,h=>by
  unfold Dm;by_cases hlt:k<l.length
  ·have:=om (F:=F) hd hn hlt F 0 (by omega) (by omega)
   rw[show((0:Nat):Int)=0 from rfl]at this;rw[if_pos (by simpa using hlt),this];simp only[Am,AJ];rw[Wo.LF (by omega),oo hF hd hn m (k+1) (by omega) (by omega)]
  ·rw[if_neg (by simpa using hlt)]
theorem oq{F:Nat}(hv:VC c){l:List Aj}(hl:∀s∈l,IsStep c s)(hn:l.length<=8):∀(m k:Nat),1<=k->l.length-k<m->Ih c (l.drop (k-1))=true->Dn F c l m (k:Int)=some (.inr ())
 |0,k,_,h,_=>by omega
 |m+1,k,h1,h,hj=>by
  unfold Dn;by_cases hlt:k<l.length
  ·rw[X7 h1 hlt,Bool.and_eq_true]at hj
   rw[if_pos (by simpa using hlt),show Aa ((k:Int)-1)=((k-1:Nat):Int) by rw[Au (by omega)];omega,Bb (show k-1<l.length by omega),Bb hlt];simp only[Am,AJ];rw[show Ib (c.1,c.2.1,c.2.2.1,c.2.2.2) (l[k-1].1,l[k-1].2) (l[k].1,l[k].2)=_ from oD hv (hl _ (List.getElem_mem (by omega))) (hl _ (List.getElem_mem hlt)),hj.1];simp only[AJ];rw[if_neg (by simp),Wo.LF (by omega),oq hv hl hn m (k+1) (by omega) (by omega) (by rw[show k+1-1=k by omega];exact hj.2)]
  ·rw[if_neg (by simpa using hlt)]
theorem bT{F:Nat}(hF:1000<F)(hv:VC c){l:List Aj}(hl:Ord c l)(hj:Ih c l=true):FO F c l=some 0:=by
 have h8:=hv.n8;have hn:=hl.len;unfold FO;rw[show Cm F (c.1,c.2.1,c.2.2.1,c.2.2.2)=_ from V8 hF c,RY.2 hv];simp only[Am,AJ];rw[if_neg (by simp),if_neg (by simp[hn])];have a1:=ol (F:=F) hl.steps (by omega) F 0 (by omega) (by omega);have a2:=oo hF hl.nodup (by omega) F 0 (by omega) (by omega);have a4:=oq (F:=F) hv hl.steps (by omega) F 1 (by omega) (by omega) (by simpa using hj);rw[show((0:Nat):Int)=0 from rfl]at a1 a2;rw[show((1:Nat):Int)=1 from rfl]at a4;rw[a1];simp only[AJ];rw[a2];simp only[AJ];rw[a4]
 rfl
theorem kI(hv:VC c){t:List Nat}(ht:t∈Jc c):Ord c (Gz c t)/\Ih c (Gz c t)=true:=by
 have g:=O7.1 ht;have hst:∀k∈t,∃h:k<(BJ c).length,(BJ c).getD k default=(BJ c)[k]:=fun k hk=>⟨(g.mem k hk).1,by simp[(g.mem k hk).1]⟩;refine⟨⟨fun s hs=>?_,?_,by unfold Gz;rw[List.length_map,g.len]⟩,?_⟩
 ·obtain⟨k,hk,rfl⟩:=List.mem_map.1 hs
  obtain⟨h,e⟩:=hst k hk;rw[e];exact Ga.1 (List.getElem_mem h)
 ·have:(Gz c t).map (·.1)=(t.map (D5 c)).map fun p:Nat=>(p:Int):=by
   unfold Gz;rw[List.map_map,List.map_map];refine List.map_congr_left fun k hk=>?_;obtain⟨h,e⟩:=hst k hk;simp only[Function.comp,e];exact(Oh hv h).2.1
  rw[this];exact Og g.nod fun a _ b _ e=>by omega
 ·have key:∀(t:List Nat)(o:Option Nat),Un (IQ c) o t=true->Ih c (Gz c t)=true:=by
   intro t
   induction t with
   |nil=>intro _ _;rfl
   |cons a t ih=>
    intro o h;unfold Un at h;rw[Bool.and_eq_true]at h;cases t with
    |nil=>rfl
    |cons b t=>
     have h2:=h.2;unfold Un at h2;rw[Bool.and_eq_true]at h2;show(fit c _ _&&Ih c (Gz c (b::t)))=true;rw[ih (some a) h.2,Bool.and_true];exact h2.1
  exact key t none g.seq
end
end
end Jn
end Go.Proofs.YtfmelbioccbdoaaGreat
end
section
namespace Go.Proofs.YtfmelbioccbdoaaGreat
open Go Go.Md Go.RowKit
namespace LP
open Jn L5
section
section
variable {c:Aw}
theorem Zh{F:Nat}(hF:1000<F)(hv:VC c):Ht F c=some (BJ c):=by
 have h8:=hv.n8;have key:∀(m k:Nat)(o:List Aj),k<=c.1.length->c.1.length-k<m->o.length<=2*k->FC F c m o (k:Int)=some (o++Dp k (c.1.drop k)):=by
  intro m
  induction m with
  |zero=>intro k _ _ h;omega
  |succ m ih=>
   intro k o hk h ho;unfold FC;by_cases hlt:k<c.1.length
   ·rw[if_pos (by simpa using hlt),Fz (by simp;omega),List.drop_eq_getElem_cons hlt]
    simp only[Am,AJ];rw[Bb hlt];simp only[AJ];have hw:Aa ((k:Int)+1)=((k+1:Nat):Int):=by rw[Au (by omega)];rfl
    unfold Dp;by_cases hp:c.1[k].2=true
    ·rw[if_pos hp,if_pos hp,Fz (by simp;omega)]
     simp only[AJ];rw[hw,ih (k+1) _ (by omega) (by omega) (by simp;omega)];simp
    ·rw[if_neg hp,if_neg hp]
     simp only[AJ];rw[hw,ih (k+1) _ (by omega) (by omega) (by simp;omega)];simp
   ·rw[if_neg (by simpa using hlt),List.drop_of_length_le (by omega)]
    simp[Dp]
 unfold Ht;have e:=key F 0 [] (Nat.zero_le _) (by omega) (by simp);rw[show((0:Nat):Int)=0 from rfl]at e;rw[e]
 rfl
def two(c:Aw)(i k:Nat)(a b:Aj):Bool:=(decide (a.1=(i:Int))&&decide (b.1=(k:Int)))&&fit c a b
def eH(c:Aw)(i k:Nat):Bool:=(BJ c).any fun a=>(BJ c).any fun b=>two c i k a b
theorem Uz{F:Nat}(hF:1000<F)(hv:VC c){i k:Nat}{q:Nat}(hq:q<(BJ c).length):∀(m j:Nat)(y:Bool),j<=(BJ c).length->(BJ c).length-j<m->
  Cw F c (BJ c) (i:Int) (k:Int) (q:Int) m y (j:Int)=some (.inr (y||((BJ c).drop j).any fun b=>two c i k (BJ c)[q] b))
 |0,j,_,_,h=>by omega
 |m+1,j,y,hj,h=>by
  have h16:=LD hv;unfold Cw;by_cases hlt:j<(BJ c).length
  ·have hw:Aa ((j:Int)+1)=((j+1:Nat):Int):=by rw[Au (by omega)];rfl
   rw[if_pos (by simpa using hlt),Bb hq,Bb hlt,List.drop_eq_getElem_cons hlt,List.any_cons];simp only[Am,AJ];have hp:=Ga.1 (List.getElem_mem hq);have hs:=Ga.1 (List.getElem_mem hlt);have e1:(if decide ((BJ c)[q].1=(i:Int))=true then some (decide ((BJ c)[j].1=(k:Int)))else some false)=some (decide ((BJ c)[q].1=(i:Int))&&decide ((BJ c)[j].1=(k:Int))):=by
    cases decide ((BJ c)[q].1=(i:Int))<;>rfl
   rw[e1];simp only[AJ];rw[show JH F (c.1,c.2.1,(c.2.2.1,c.2.2.2)) ((BJ c)[q].1,(BJ c)[q].2) ((BJ c)[j].1,(BJ c)[j].2)=some (fit c (BJ c)[q] (BJ c)[j],0)from gB hF hv hp hs];simp only[AJ];have e2:(if(decide ((BJ c)[q].1=(i:Int))&&decide ((BJ c)[j].1=(k:Int)))=true then(if(!decide True)=true then some (.inl false)else some (.inr (y||fit c (BJ c)[q] (BJ c)[j])))else some (.inr y):Option (Sum Bool Bool))=some (.inr (y||two c i k (BJ c)[q] (BJ c)[j])):=by
    unfold two;cases(decide ((BJ c)[q].1=(i:Int))&&decide ((BJ c)[j].1=(k:Int)))with
    |true=>rw[if_pos rfl,if_neg (by simp)];rfl
    |false=>rw[if_neg (by simp)];simp
   rw[e2];simp only[AJ];rw[hw,Uz hF hv hq m (j+1) _ (by omega) (by omega),Bool.or_assoc]
  ·rw[if_neg (by simpa using hlt),List.drop_of_length_le (by omega)]
   simp
theorem U0{F:Nat}(hF:1000<F)(hv:VC c){i k:Nat}:∀(m q:Nat)(y:Bool),q<=(BJ c).length->(BJ c).length-q<m->
  Cx F c (BJ c) (i:Int) (k:Int) m y (q:Int)=some (.inr (y||((BJ c).drop q).any fun a=>(BJ c).any fun b=>two c i k a b))
 |0,q,_,_,h=>by omega
 |m+1,q,y,hq,h=>by
  have h16:=LD hv;unfold Cx;by_cases hlt:q<(BJ c).length
  ·have hw:Aa ((q:Int)+1)=((q+1:Nat):Int):=by rw[Au (by omega)];rfl
   have e:=Uz hF hv (i:=i) (k:=k) hlt F 0 y (Nat.zero_le _) (by omega);rw[show((0:Nat):Int)=0 from rfl,List.drop_zero]at e;rw[if_pos (by simpa using hlt),e,List.drop_eq_getElem_cons hlt,List.any_cons];simp only[Am,AJ];rw[hw,U0 hF hv m (q+1) _ (by omega) (by omega),Bool.or_assoc]
  ·rw[if_neg (by simpa using hlt),List.drop_of_length_le (by omega)]
   simp
def MS(c:Aw)(i k d:Nat):List Ba:=((List.range' k d).filter (eH c i)).map fun k:Nat=>((i:Int),(k:Int))
def KX(c:Aw)(i d:Nat):List Ba:=(List.range' i d).flatMap fun i=>MS c i 0 c.1.length
theorem Px{F:Nat}(hF:1000<F)(hv:VC c){i:Nat}{x y:Int}:∀(m k:Nat)(o:List Ba),k<=c.1.length->c.1.length-k<m->o.length+(c.1.length-k)<=1000->
  Cy F c (BJ c) (i:Int) m (k:Int) (x,y,o,[])=some (.inr (x,y,o++MS c i k (c.1.length-k),[]))
 |0,k,_,_,h,_=>by omega
 |m+1,k,o,hk,h,ho=>by
  have h16:=LD hv;have h8:=hv.n8;unfold Cy;by_cases hlt:k<c.1.length
  ·have hw:Aa ((k:Int)+1)=((k+1:Nat):Int):=by rw[Au (by omega)];rfl
   have e:=U0 hF hv (i:=i) (k:=k) F 0 false (Nat.zero_le _) (by omega);rw[show((0:Nat):Int)=0 from rfl,List.drop_zero,Bool.false_or]at e;have hr:List.range' k (c.1.length-k)=k::List.range' (k+1) (c.1.length-(k+1)):=by
    rw[show c.1.length-k=c.1.length-(k+1)+1 by omega];rfl
   rw[if_pos (by simpa using hlt),show((BJ c).any fun a=>(BJ c).any fun b=>two c i k a b)=eH c i k from rfl]at*
   rw[e];simp only[Am,AJ];unfold MS;rw[hr];cases hb:eH c i k with
   |true=>
    unfold IV;simp only[AJ,if_true];rw[Fz (by simp;omega)];simp only[AJ];rw[hw,Px hF hv m (k+1) _ (by omega) (by omega) (by simp;omega),List.filter_cons_of_pos hb];unfold MS;simp
   |false=>
    simp only[AJ,Bool.false_eq_true,if_false];rw[hw,Px hF hv m (k+1) _ (by omega) (by omega) (by omega),List.filter_cons_of_neg (by simp[hb])]
    rfl
  ·rw[if_neg (by simpa using hlt),show c.1.length-k=0 by omega]
   simp[MS]
theorem U1{i k d:Nat}:(MS c i k d).length<=d:=by
 unfold MS;rw[List.length_map];exact Nat.le_trans (List.length_filter_le ..) (by simp)
theorem U2{F:Nat}(hF:1000<F)(hv:VC c){x y:Int}:∀(m i:Nat)(o:List Ba),i<=c.1.length->c.1.length-i<m->o.length<=8*i->
  Cz F c (BJ c) m (i:Int) (x,y,o,[])=some (.inr (x,y,o++KX c i (c.1.length-i),[]))
 |0,i,_,_,h,_=>by omega
 |m+1,i,o,hi,h,ho=>by
  have h8:=hv.n8;unfold Cz;by_cases hlt:i<c.1.length
  ·have hw:Aa ((i:Int)+1)=((i+1:Nat):Int):=by rw[Au (by omega)];rfl
   have e:=Px hF hv (i:=i) (x:=x) (y:=y) F 0 o (Nat.zero_le _) (by omega) (by omega);rw[show((0:Nat):Int)=0 from rfl,Nat.sub_zero]at e;have hr:List.range' i (c.1.length-i)=i::List.range' (i+1) (c.1.length-(i+1)):=by
    rw[show c.1.length-i=c.1.length-(i+1)+1 by omega];rfl
   have:=U1 (c:=c) (i:=i) (k:=0) (d:=c.1.length);rw[if_pos (by simpa using hlt)];simp only[e,Am,AJ];rw[hw,U2 hF hv m (i+1) _ (by omega) (by omega) (by simp;omega)];unfold KX;rw[hr,List.flatMap_cons,List.append_assoc]
  ·rw[if_neg (by simpa using hlt),show c.1.length-i=0 by omega]
   simp[KX]
def Cb(c:Aw):List Ba:=KX c 0 c.1.length
theorem WJ{x:Ba}:x∈Cb c↔∃i k:Nat,i<c.1.length/\k<c.1.length/\eH c i k=true/\x=((i:Int),(k:Int)):=by
 unfold Cb KX MS;simp only[List.mem_flatMap,List.mem_map,List.mem_filter,List.mem_range'_1];constructor
 ·rintro⟨i,hi,k,⟨hk,hl⟩,rfl⟩
  exact⟨i,k,by omega,by omega,hl,rfl⟩
 ·rintro⟨i,k,hi,hk,hl,rfl⟩
  exact⟨i,by omega,k,⟨by omega,hl⟩,rfl⟩
theorem U3:(Cb c).Nodup:=by
 unfold Cb KX;rw[List.nodup_iff_pairwise_ne,List.pairwise_flatMap];refine⟨fun i _=>?_,?_⟩
 ·unfold MS
  rw[List.pairwise_map];refine List.Pairwise.imp ?_ (List.Nodup.sublist List.filter_sublist (List.nodup_range' (step:=1) (h:=by omega)));intro a b h e;have:=congrArg Prod.snd e;simp only at this;exact h (by omega)
 ·refine List.Pairwise.imp ?_ (List.nodup_range' (s:=0) (n:=c.1.length) (step:=1) (h:=by omega))
  intro a b h x hx y hy e;unfold MS at hx hy;obtain⟨_,_,rfl⟩:=List.mem_map.1 hx;obtain⟨_,_,rfl⟩:=List.mem_map.1 hy;have:=congrArg Prod.fst e;simp only at this;exact h (by omega)
theorem gJ(hv:VC c)(h6:c.1.length<=6):VSh c.1.length c.1.length (Cb c):=by
 have hn:=hv.n1;refine⟨⟨hn,by omega⟩,⟨hn,by omega⟩,?_,fun x hx=>?_,U3⟩
 ·have hs:∀(d i:Nat),(KX c i d).length<=d*c.1.length:=by
   intro d
   induction d with
   |zero=>intro i;simp[KX]
   |succ d ih=>
    intro i;have:=ih (i+1);have:=U1 (c:=c) (i:=i) (k:=0) (d:=c.1.length);unfold KX at*
    rw[List.range'_succ,List.flatMap_cons,List.length_append,Nat.succ_mul];omega
  have:=hs c.1.length 0;have h36:c.1.length*c.1.length<=6*6:=Nat.mul_le_mul h6 h6;unfold Cb;omega
 ·obtain⟨i,k,hi,hk,_,rfl⟩:=WJ.1 hx
  simp only;omega
end
end
end LP
end Go.Proofs.YtfmelbioccbdoaaGreat
end
section
namespace Go.Proofs.YtfmelbioccbdoaaGreat
namespace BF
abbrev Rl:=Int×Int×Int×Int
def H9:Int:=1125899906842624
structure St where
 f:Int->Int
 b:Int->Option Rl
 r:Int->Nat
def up{α:Type}(g:Int->α)(i:Int)(v:α):Int->α:=fun t=>if t=i then v else g t
theorem Cr{α:Type}{g:Int->α}{i:Int}{v:α}:up g i v i=v:=by simp[up]
theorem Dg{α:Type}{g:Int->α}{i t:Int}{v:α}(h:t≠i):up g i v t=g t:=by simp[up,h]
def cnd(f:Int->Int)(p:Rl):Prop:=f p.2.1≠H9/\f p.2.1+p.2.2.2<f p.2.2.1
instance {f:Int->Int}{p:Rl}:Decidable (cnd f p):=by unfold cnd;infer_instance
def rel(K:Nat)(s:St)(p:Rl):St:=if cnd s.f p then⟨up s.f p.2.2.1 (s.f p.2.1+p.2.2.2),up s.b p.2.2.1 (some p),up s.r p.2.2.1 K⟩else s
def pass(R:List Rl)(K:Nat)(s:St):St:=R.foldl (rel K) s
def start:St:=⟨fun _=>0,fun _=>none,fun _=>0⟩
inductive Back(b:Int->Option Rl):Int->Int->Int->Nat->Prop
 |one {v:Int} {p:Rl} (h:b v=some p):Back b v p.2.1 p.2.2.2 1
 |more {v u c:Int} {n:Nat} {p:Rl} (h:b v=some p) (k:Back b p.2.1 u c n):Back b v u (p.2.2.2+c) (n+1)
theorem Back.snoc{b:Int->Option Rl}{v u c:Int}{n:Nat}(h:Back b v u c n){p:Rl}(hp:b u=some p):Back b v p.2.1 (c+p.2.2.2) (n+1):=by
 induction h with
 |one h=>exact .more h (.one hp)
 |more h k ih=>
  have:=ih hp;rw[Int.add_assoc];exact .more h this
theorem Back.start{b:Int->Option Rl}{v u c:Int}{n:Nat}(h:Back b v u c n):∃p,b v=some p:=by cases h<;>exact⟨_,by assumption⟩
structure Inv(N:Int->Prop)(K:Nat)(done left:List Rl)(s:St):Prop where
 i1:∀v,s.b v=none↔s.r v=0
 i2:∀v p,s.b v=some p->p∈done++left/\p.2.2.1=v/\s.f p.2.1+p.2.2.2<=s.f v
 i3:∀v p,s.b v=some p->s.r v<=s.r p.2.1+1
 i4d:∀q∈done,s.r q.2.1+1<=K->s.f q.2.2.1<=s.f q.2.1+q.2.2.2
 i4l:∀q∈left,s.r q.2.1+2<=K->s.f q.2.2.1<=s.f q.2.1+q.2.2.2
 i5:∀v c n,Back s.b v v c n->c<0
 i6:∀v,s.r v<=K
 i7:∀v,s.f v<=0
theorem ou{s:St}{p:Rl}(h:∀v q,s.b v=some q->s.f q.2.1+q.2.2.2<=s.f v)(hne:p.2.1≠p.2.2.1)(hc:cnd s.f p):
  ∀{v u c n},Back (up s.b p.2.2.1 (some p)) v u c n->
   up s.f p.2.2.1 (s.f p.2.1+p.2.2.2) u+c<up s.f p.2.2.1 (s.f p.2.1+p.2.2.2) v\/
   (up s.f p.2.2.1 (s.f p.2.1+p.2.2.2) u+c<=up s.f p.2.2.1 (s.f p.2.1+p.2.2.2) v/\u≠p.2.2.1/\(v≠p.2.2.1->Back s.b v u c n)):=by
 obtain⟨_,hlt⟩:=hc;intro v u c n hb
 induction hb with
 | @one v q hq=>
  by_cases hv:v=p.2.2.1
  ·subst hv
   rw[Cr]at hq;cases hq;refine .inr ⟨?_,hne,fun h=>(h rfl).elim⟩;rw[Cr,Dg hne];exact Int.le_refl _
  ·rw[Dg hv]at hq
   have h2:=h v q hq;rw[Dg hv];by_cases hu:q.2.1=p.2.2.1
   ·left
    rw[hu,Cr];rw[hu]at h2;omega
   ·right
    rw[Dg hu];exact⟨h2,hu,fun _=>.one hq⟩
 | @more v u c n q hq k ih=>
  have step:up s.f p.2.2.1 (s.f p.2.1+p.2.2.2) q.2.1+q.2.2.2<up s.f p.2.2.1 (s.f p.2.1+p.2.2.2) v\/
    (up s.f p.2.2.1 (s.f p.2.1+p.2.2.2) q.2.1+q.2.2.2<=up s.f p.2.2.1 (s.f p.2.1+p.2.2.2) v/\q.2.1≠p.2.2.1):=by
   by_cases hv:v=p.2.2.1
   ·subst hv
    rw[Cr]at hq;cases hq;right;rw[Cr,Dg hne];exact⟨Int.le_refl _,hne⟩
   ·rw[Dg hv]at hq
    have h2:=h v q hq;rw[Dg hv];by_cases hu:q.2.1=p.2.2.1
    ·left
     rw[hu,Cr];rw[hu]at h2;omega
    ·right
     rw[Dg hu];exact⟨h2,hu⟩
  rcases ih with ih|⟨ih1,ih2,ih3⟩
  ·left
   rcases step with h1|⟨h1,_⟩<;>omega
  ·rcases step with h1|⟨h1,h2⟩
   ·left;omega
   ·right
    refine⟨by omega,ih2,fun hv=>?_⟩;rw[Dg hv]at hq;exact .more hq (ih3 h2)
theorem Inv.rel{N:Int->Prop}{K:Nat}{done left:List Rl}{s:St}{p:Rl}(hK:1<=K)(h:Inv N K done (p::left) s)(hne:p.2.1≠p.2.2.1):Inv N K (done++[p]) left (rel K s p):=by
 unfold BF.rel;by_cases hc:cnd s.f p
 ·rw[if_pos hc]
  have hc':=hc;obtain⟨_,hlt⟩:=hc';have hmono:∀v,up s.f p.2.2.1 (s.f p.2.1+p.2.2.2) v<=s.f v:=fun v=>by
   by_cases hv:v=p.2.2.1
   ·subst hv;rw[Cr];omega
   ·rw[Dg hv];exact Int.le_refl _
  have hr:K<=s.r p.2.1+1:=by
   rcases Nat.lt_or_ge (s.r p.2.1+1) K with h'|h'
   ·have:=h.i4l p (by simp) (by omega)
    omega
   ·exact h'
  refine⟨?_,?_,?_,?_,?_,?_,?_,?_⟩
  ·intro v
   by_cases hv:v=p.2.2.1
   ·subst hv;simp only[Cr];constructor
    ·intro h;cases h
    ·intro h;omega
   ·simp only[Dg hv];exact h.i1 v
  ·intro v q hq
   dsimp only at hq⊢;by_cases hv:v=p.2.2.1
   ·subst hv
    rw[Cr]at hq;cases hq;refine⟨by simp,rfl,?_⟩;simp only[Cr,Dg hne];exact Int.le_refl _
   ·rw[Dg hv]at hq
    obtain⟨h1,h2,h3⟩:=h.i2 v q hq;refine⟨by simp only[List.mem_append,List.mem_cons,List.not_mem_nil,or_false]at h1⊢;rcases h1 with h1|h1|h1<;>simp[h1],h2,?_⟩;simp only[Dg hv];have:=hmono q.2.1;omega
  ·intro v q hq
   dsimp only at hq⊢;by_cases hv:v=p.2.2.1
   ·subst hv
    rw[Cr]at hq;cases hq;simp only[Cr,Dg hne];exact hr
   ·rw[Dg hv]at hq
    have h3:=h.i3 v q hq;simp only[Dg hv];by_cases hu:q.2.1=p.2.2.1
    ·rw[hu,Cr]
     have:=h.i6 v;omega
    ·rw[Dg hu];exact h3
  ·intro q hq hrq
   dsimp only at hrq⊢;have hu:q.2.1≠p.2.2.1:=fun e=>by rw[e,Cr]at hrq;omega
   simp only[Dg hu]at hrq⊢;have:=hmono q.2.2.1;rcases List.mem_append.1 hq with hq|hq
   ·have:=h.i4d q hq hrq
    omega
   ·simp only[List.mem_singleton]at hq
    subst hq;rw[Cr];exact Int.le_refl _
  ·intro q hq hrq
   dsimp only at hrq⊢;have hu:q.2.1≠p.2.2.1:=fun e=>by rw[e,Cr]at hrq;omega
   simp only[Dg hu]at hrq⊢;have:=hmono q.2.2.1;have:=h.i4l q (by simp[hq]) hrq;omega
  ·intro v c n hb
   dsimp only at hb;rcases ou (fun v q hq=>(h.i2 v q hq).2.2) hne hc hb with h1|⟨h1,h2,h3⟩
   ·omega
   ·by_cases hv:v=p.2.2.1
    ·exact(h2 hv).elim
    ·exact h.i5 v c n (h3 hv)
  ·intro v
   by_cases hv:v=p.2.2.1
   ·subst hv;simp only[Cr];exact Nat.le_refl _
   ·simp only[Dg hv];exact h.i6 v
  ·intro v
   exact Int.le_trans (hmono v) (h.i7 v)
 ·rw[if_neg hc]
  have hle:s.f p.2.2.1<=s.f p.2.1+p.2.2.2:=by
   have h7:=h.i7 p.2.1;unfold cnd at hc;have:s.f p.2.1≠H9:=by unfold H9;omega
   simp only[not_and,Int.not_lt]at hc;exact hc this
  refine⟨h.i1,fun v q hq=>?_,h.i3,fun q hq hrq=>?_,fun q hq=>h.i4l q (by simp[hq]),h.i5,h.i6,h.i7⟩
  ·obtain⟨h1,h2,h3⟩:=h.i2 v q hq
   exact⟨by simp only[List.mem_append,List.mem_cons,List.not_mem_nil,or_false]at h1⊢;rcases h1 with h1|h1|h1<;>simp[h1],h2,h3⟩
  ·rcases List.mem_append.1 hq with hq|hq
   ·exact h.i4d q hq hrq
   ·simp only[List.mem_singleton]at hq
    subst hq;exact hle
theorem Inv.go{N:Int->Prop}{K:Nat}(hK:1<=K):∀(left done:List Rl)(s:St),(∀p∈left,p.2.1≠p.2.2.1)->Inv N K done left s->Inv N K (done++left) [] (left.foldl (BF.rel K) s)
 |[],done,s,_,h=>by simpa using h
 |p::left,done,s,hne,h=>by
  have h1:=h.rel hK (hne p (by simp));have:=Inv.go hK left (done++[p]) _ (fun q hq=>hne q (by simp[hq])) h1;simpa using this
theorem Inv.pass{N:Int->Prop}{K:Nat}{R:List Rl}{s:St}(hne:∀p∈R,p.2.1≠p.2.2.1)(h:Inv N K R [] s):Inv N (K+1) R [] (pass R (K+1) s):=by
 have h0:Inv N (K+1) [] R s:=⟨h.i1,by simpa using h.i2,h.i3,by simp,fun q hq hr=>h.i4d q hq (by omega),h.i5,fun v=>Nat.le_succ_of_le (h.i6 v),h.i7⟩;have:=Inv.go (by omega) R [] s hne h0;simpa[BF.pass]using this
theorem Inv.zero{N:Int->Prop}{R:List Rl}:Inv N 0 R [] start:=by
 refine⟨fun v=>by simp[start],fun v p h=>by simp[start]at h,fun v p h=>by simp[start]at h,fun q _ h=>by omega,by simp,fun v c n h=>?_,fun v=>by simp[start],fun v=>by simp[start]⟩;obtain⟨p,hp⟩:=h.start;simp[start]at hp
def passes(R:List Rl):Nat->St
 |0=>start
 |K+1=>pass R (K+1) (passes R K)
theorem Inv.passes{N:Int->Prop}{R:List Rl}(hne:∀p∈R,p.2.1≠p.2.2.1):∀K,Inv N K R [] (passes R K)
 |0=>Inv.zero
 |K+1=>(Inv.passes hne K).pass hne
end BF
end Go.Proofs.YtfmelbioccbdoaaGreat
end
section
namespace Go.Proofs.YtfmelbioccbdoaaGreat
open Go Go.Md Go.RowKit
open BF (Rl St Back Inv rel pass passes H9)
def gA(X:Ar 21 Int)(t:Int):Int:=(ix X.l t).getD 0
theorem kJ{X:Ar 21 Int}{i v t:Int}(i0:0<=i)(i1:i<=20)(t0:0<=t)(t1:t<=20):gA (Cc X i v) t=if t=i then v else gA X t:=by
 have hX:=X.h;unfold gA ix Cc;simp only[if_pos t0,List.getElem?_set];by_cases h:t=i
 ·subst h
  rw[if_pos rfl,if_pos (by omega),if_pos rfl]
  rfl
 ·rw[if_neg (by omega),if_neg h]
theorem bU{l:List (Int×Int)}{k v t:Int}:BQ 0 (BL l k v) t=if t=k then v else BQ 0 l t:=by
 induction l with
 |nil=>
  simp only[BL,BQ];by_cases h:t=k
  ·rw[if_pos h,if_pos h.symm]
  ·rw[if_neg h,if_neg (Ne.symm h)]
 |cons p l ih=>
  obtain⟨a,b⟩:=p;simp only[BL];by_cases h:a=k
  ·subst h
   simp only[if_true,BQ];by_cases h2:t=a
   ·rw[if_pos h2,if_pos h2.symm]
   ·rw[if_neg h2,if_neg (Ne.symm h2),if_neg (Ne.symm h2)]
  ·simp only[if_neg h,BQ,ih]
   by_cases h2:a=t
   ·subst h2;rw[if_pos rfl,if_pos rfl,if_neg h]
   ·rw[if_neg h2,if_neg h2]
structure Rep(X:Ar 21 Int)(l:List (Int×Int))(s:St):Prop where
 f:∀t,0<=t->t<=20->gA X t=s.f t
 b:∀t p,s.b t=some p->BQ 0 l t=p.1
def Bd(c:Int)(s:St):Prop:=∀v,-c<=s.f v/\s.f v<=H9
def Zi(T:Int)(r:Int×Int×Int):Prop:=0<=r.1/\r.1<=T/\0<=r.2.1/\r.2.1<=T/\r.1≠r.2.1/\-100000<=r.2.2/\r.2.2<=100000
theorem Rep.step{X:Ar 21 Int}{l:List (Int×Int)}{s:St}{K:Nat}{c T:Int}{p:Rl}(h:Rep X l s)(hb:Bd c s)(hc:c<=1152921504606846976)(hT:T<=20)(hp:Zi T p.2):
  Rep (Wv (X,l) p).1 (Wv (X,l) p).2 (rel K s p):=by
 obtain⟨h1,h2,h3,h4,h5,h6,h7⟩:=hp;have ea:(ix X.l p.2.1).getD 0=s.f p.2.1:=h.f _ h1 (by omega);have eb:(ix X.l p.2.2.1).getD 0=s.f p.2.2.1:=h.f _ h3 (by omega);have hf:=hb p.2.1;have hw:Aa (s.f p.2.1+p.2.2.2)=s.f p.2.1+p.2.2.2:=Au (by unfold H9 at hf;omega);unfold Wv rel;simp only[ea,eb,hw];by_cases hcn:BF.cnd s.f p
 ·have hcn':=hcn
  obtain⟨c1,c2⟩:=hcn';rw[if_pos hcn,if_pos (by unfold H9 at c1;simp[c1];omega)];refine⟨fun t t0 t1=>?_,fun t q hq=>?_⟩
  ·rw[kJ h3 (by omega) t0 t1]
   simp only[BF.up];split
   ·rfl
   ·exact h.f t t0 t1
  ·simp only[BF.up]at hq
   rw[bU];split
   ·rename_i e
    rw[if_pos e]at hq;cases hq
    rfl
   ·rename_i e
    rw[if_neg e]at hq;exact h.b t q hq
 ·rw[if_neg hcn,if_neg]
  ·exact h
  ·unfold BF.cnd H9 at hcn
   simp only[Bool.and_eq_true,Bool.not_eq_true',decide_eq_false_iff_not,not_and];intro a1 a2;exact hcn ⟨a1,by omega⟩
theorem Bd.rel{c:Int}{s:St}{K:Nat}{p:Rl}(h:Bd c s)(hc:0<=c)(hm:-100000<=p.2.2.2):Bd (c+100000) (rel K s p):=by
 intro v;have h1:=h v;have h2:=h p.2.1;have h3:=h p.2.2.1;unfold BF.rel;by_cases hcn:BF.cnd s.f p
 ·rw[if_pos hcn]
  simp only[BF.up];have:=hcn.2;split<;>omega
 ·rw[if_neg hcn]
  omega
theorem Py{x:Int×List (Int×Int×Int)}(h:Hg x=0):∀r∈FP x,Zi x.1 r:=by
 obtain⟨_,h2,h3,h4⟩:=ZG h;intro r hr;rcases List.mem_append.1 hr with hr|hr
 ·have:=h4 r hr
  simp only[Uf,Ki,Bool.and_eq_true,decide_eq_true_eq,Bool.not_eq_true',decide_eq_false_iff_not]at this;obtain⟨⟨⟨⟨a,b⟩,c,d⟩,e⟩,f,g⟩:=this;exact⟨a,b,c,d,e,f,g⟩
 ·obtain⟨t,ht,hr⟩:=List.mem_flatMap.1 hr
  have ht:=List.mem_range.1 ht;simp only[List.mem_cons,List.not_mem_nil,or_false]at hr;rcases hr with rfl|rfl
  ·unfold Zi;simp only;omega
  ·unfold Zi;simp only;omega
theorem Zj{l:List (Int×Int×Int)}{p:Rl}(h:p∈en l):p.2∈l/\ix l p.1=some p.2/\0<=p.1/\p.1<l.length:=by
 obtain⟨i,hi,e⟩:=List.getElem_of_mem h;rw[iI]at hi;have h1:(en l)[i]?=some p:=by rw[<-e];exact List.getElem?_eq_getElem _
 rw[en_get,List.getElem?_eq_getElem hi]at h1;simp only[Option.map_some,Option.some.injEq]at h1;subst h1;exact⟨List.getElem_mem hi,Bb hi,by simp,by simpa using hi⟩
def Rs(x:Int×List (Int×Int×Int)):List Rl:=en (FP x)
theorem oH{x:Int×List (Int×Int×Int)}(h:Hg x=0):∀p∈Rs x,Zi x.1 p.2:=fun p hp=>Py h _ (Zj hp).1
theorem oI{x:Int×List (Int×Int×Int)}(h:Hg x=0):∀p∈Rs x,p.2.1≠p.2.2.1:=fun p hp=>(oH h p hp).2.2.2.2.1
def eO(x:Int×List (Int×Int×Int)):Prop:=∃p:Int->Int,∀r∈FP x,p r.2.1<=p r.1+r.2.2

end Go.Proofs.YtfmelbioccbdoaaGreat
end
section
namespace Go.Proofs.YtfmelbioccbdoaaGreat
open Go Go.Md Go.RowKit
section
abbrev RR:=Int×Int×Int
section
variable {F:Nat}{all:List RR}{DK:List Int}
section
variable {x:Int×List RR}
end
end
end
end Go.Proofs.YtfmelbioccbdoaaGreat
end
section
namespace Go.Proofs.YtfmelbioccbdoaaGreat
open Go Go.Md Go.RowKit
open BF (Rl St Back rel pass H9)
inductive PC(R:List RR)(a:Int):Int->Int->Prop
 |nil:PC R a a 0
 |snoc {u c:Int} {r:RR} (h:PC R a u c) (hr:r∈R) (hu:r.1=u):PC R a r.2.1 (c+r.2.2)
theorem PC.trans{R:List RR}{a b t c d:Int}(h:PC R a b c)(k:PC R b t d):PC R a t (c+d):=by
 induction k with
 |nil=>simpa using h
 |snoc _ hr hu ih=>rw[<-Int.add_assoc];exact .snoc ih hr hu
theorem PC.one{R:List RR}{r:RR}(hr:r∈R):PC R r.1 r.2.1 r.2.2:=by
 have:=PC.snoc (PC.nil (R:=R) (a:=r.1)) hr rfl;simpa using this
theorem PC.pot{R:List RR}{p:Int->Int}(hp:∀r∈R,p r.2.1<=p r.1+r.2.2){a t c:Int}(h:PC R a t c):p t<=p a+c:=by
 induction h with
 |nil=>omega
 |snoc _ hr hu ih=>
  have:=hp _ hr;rw[hu]at this;omega
theorem PC.node{x:Int×List RR}(h:Hg x=0){a t c:Int}(a0:0<=a)(a1:a<=x.1)(hp:PC (FP x) a t c):0<=t/\t<=x.1:=by
 cases hp with
 |nil=>exact⟨a0,a1⟩
 |snoc _ hr _=>exact⟨(Py h _ hr).2.2.1,(Py h _ hr).2.2.2.1⟩
theorem Nl{x:Int×List RR}{t:Int}(t0:1<=t)(t1:t<=x.1):(0,t,100000)∈FP x/\(t,0,0)∈FP x:=by
 have h:∀r,r=(0,t,(100000:Int))\/r=(t,0,0)->r∈FP x:=fun r hr=>by
  refine List.mem_append.2 (.inr (List.mem_flatMap.2 ⟨(t-1).toNat,List.mem_range.2 (by omega),?_⟩));have:(((t-1).toNat:Nat):Int)+1=t:=by omega
  simp only[this,List.mem_cons,List.not_mem_nil,or_false];exact hr
 exact⟨h _ (.inl rfl),h _ (.inr rfl)⟩
theorem PC.any{x:Int×List RR}{a t:Int}(a0:0<=a)(a1:a<=x.1)(t0:0<=t)(t1:t<=x.1):∃c,PC (FP x) a t c/\c<=100000:=by
 have h1:∃c,PC (FP x) a 0 c/\c<=0:=by
  by_cases h:a=0
  ·subst h;exact⟨0,.nil,by omega⟩
  ·exact⟨0,PC.one (r:=(a,0,0)) (Nl (by omega) a1).2,by omega⟩
 obtain⟨c,h2,h3⟩:=h1;by_cases h:t=0
 ·subst h;exact⟨c,h2,by omega⟩
 ·exact⟨c+100000,h2.trans (PC.one (r:=(0,t,100000)) (Nl (by omega) t1).1),by omega⟩
theorem PC.low{x:Int×List RR}(h:Hg x=0)(hP:eO x){a t c:Int}(a0:0<=a)(a1:a<=x.1)(hp:PC (FP x) a t c):-100000<=c:=by
 obtain⟨p,hpp⟩:=hP;obtain⟨t0,t1⟩:=hp.node h a0 a1;obtain⟨d,h1,h2⟩:=PC.any (x:=x) t0 t1 a0 a1;have:=(hp.trans h1).pot hpp;omega
structure Jv(x:Int×List RR)(a:Int)(s:St):Prop where
 j1:∀v,s.f v=H9\/PC (FP x) a v (s.f v)
 j2:∀v q,s.b v=some q->q∈Rs x/\q.2.2.1=v/\s.f q.2.1+q.2.2.2<=s.f v/\s.f q.2.1≠H9
 j3:∀v c n,Back s.b v v c n->c<0
 j4:∀v,v≠a->s.f v≠H9->s.b v≠none
 j5:s.f a<=0
 j6:∀v,s.f v<=H9
theorem Jv.bd{x:Int×List RR}(h:Hg x=0)(hP:eO x){a:Int}(a0:0<=a)(a1:a<=x.1){s:St}(hj:Jv x a s):Bd 100000 s:=by
 intro v;rcases hj.j1 v with h1|h1
 ·rw[h1];unfold H9;omega
 ·exact⟨h1.low h hP a0 a1,hj.j6 v⟩
theorem Jv.rel{x:Int×List RR}(h:Hg x=0){a:Int}{s:St}{K:Nat}{p:Rl}(hp:p∈Rs x)(hj:Jv x a s):Jv x a (BF.rel K s p):=by
 unfold BF.rel;by_cases hc:BF.cnd s.f p
 ·rw[if_pos hc]
  have hne:=oI h p hp;obtain⟨c1,c2⟩:=hc;have hpc:PC (FP x) a p.2.2.1 (s.f p.2.1+p.2.2.2):=by
   rcases hj.j1 p.2.1 with h1|h1
   ·exact(c1 h1).elim
   ·exact .snoc h1 (Zj hp).1 rfl
  have hmono:∀v,BF.up s.f p.2.2.1 (s.f p.2.1+p.2.2.2) v<=s.f v:=fun v=>by
   by_cases hv:v=p.2.2.1
   ·subst hv;rw[BF.Cr];omega
   ·rw[BF.Dg hv];exact Int.le_refl _
  refine⟨fun v=>?_,fun v q hq=>?_,fun v c n hb=>?_,fun v hv hf=>?_,?_,fun v=>?_⟩
  ·dsimp only
   by_cases hv:v=p.2.2.1
   ·subst hv;rw[BF.Cr];exact .inr hpc
   ·rw[BF.Dg hv];exact hj.j1 v
  ·dsimp only at hq⊢
   by_cases hv:v=p.2.2.1
   ·subst hv
    rw[BF.Cr]at hq;cases hq;rw[BF.Cr,BF.Dg hne];exact⟨hp,rfl,Int.le_refl _,c1⟩
   ·rw[BF.Dg hv]at hq
    obtain⟨h1,h2,h3,h4⟩:=hj.j2 v q hq;rw[BF.Dg hv];refine⟨h1,h2,by have:=hmono q.2.1;omega,?_⟩;by_cases hu:q.2.1=p.2.2.1
    ·rw[hu,BF.Cr]
     have:=hj.j6 p.2.2.1;omega
    ·rw[BF.Dg hu];exact h4
  ·dsimp only at hb
   rcases BF.ou (fun v q hq=>(hj.j2 v q hq).2.2.1) hne ⟨c1,c2⟩ hb with h1|⟨_,h2,h3⟩
   ·omega
   ·by_cases hv:v=p.2.2.1
    ·exact(h2 hv).elim
    ·exact hj.j3 v c n (h3 hv)
  ·dsimp only at hf⊢
   by_cases hv2:v=p.2.2.1
   ·subst hv2;rw[BF.Cr];simp
   ·rw[BF.Dg hv2]at hf⊢
    exact hj.j4 v hv hf
  ·have:=hmono a
   have:=hj.j5;dsimp only;omega
  ·have:=hmono v
   have:=hj.j6 v;dsimp only;omega
 ·rw[if_neg hc]
  exact hj
structure FinS(x:Int×List RR)(a:Int)(X:Ar 21 Int)(l:List (Int×Int))(s:St):Prop where
 rep:Rep X l s
 jv:Jv x a s
 fix:∀p∈Rs x,¬BF.cnd s.f p
theorem FinS.le{x:Int×List RR}(h:Hg x=0){a:Int}{X:Ar 21 Int}{l:List (Int×Int)}{s:St}(hf:FinS x a X l s)(a0:0<=a)(a1:a<=x.1){t c:Int}(hp:PC (FP x) a t c):s.f t<=c/\s.f t<H9:=by
 have key:∀{u c:Int},PC (FP x) a u c->s.f u<H9->∀r∈FP x,r.1=u->s.f r.2.1<=s.f u+r.2.2:=by
  intro u c _ hlt r hr hu;obtain⟨i,hi,e⟩:=List.getElem_of_mem hr;have hm:((i:Int),r)∈Rs x:=by
   have:(en (FP x))[i]?=some ((i:Int),r):=by rw[en_get,List.getElem?_eq_getElem hi,e];rfl
   exact List.mem_of_getElem? this
  have:=hf.fix _ hm;unfold BF.cnd at this;simp only[not_and,Int.not_lt]at this;rw[<-hu]at hlt⊢;exact this (by omega)
 have h5:=hf.jv.j5;have fin0:s.f 0<=0:=by
  by_cases e:a=0
  ·rw[e]at h5;exact h5
  ·have:=key (PC.nil) (by unfold H9;omega) (a,0,0) (Nl (by omega) a1).2 rfl
   simp only at this;omega
 have fin:∀u,0<=u->u<=x.1->s.f u<H9:=fun u u0 u1=>by
  by_cases e:u=0
  ·subst e;unfold H9;omega
  ·obtain⟨c0,hc0,_⟩:=PC.any (x:=x) (a:=a) (t:=0) a0 a1 (by omega) (by omega)
   have:=key hc0 (by unfold H9;omega) (0,u,100000) (Nl (by omega) u1).1 rfl;simp only at this;unfold H9;omega
 have hn:=hp.node h a0 a1;refine⟨?_,fin t hn.1 hn.2⟩;clear hn
 induction hp with
 |nil=>exact h5
 | @snoc u c r hpu hr hu ih=>
  have hnu:=hpu.node h a0 a1;have:=key hpu (fin u hnu.1 hnu.2) r hr hu;omega
section
section
variable {x:Int×List RR}{a t u:Int}{F:Nat}
end
end
end Go.Proofs.YtfmelbioccbdoaaGreat
end
section
namespace Go.Proofs.YtfmelbioccbdoaaGreat
open Go Go.Md Go.RowKit
abbrev FF:Nat:=100000000000000000
end Go.Proofs.YtfmelbioccbdoaaGreat
end
section
namespace Go.Proofs.YtfmelbioccbdoaaGreat
namespace FW
section
def NV:Int:=1099511627776
abbrev Mx:=Int->Int->Int
def mm(c s:Int):Int:=if(if s<c then s else c)> -NV then(if s<c then s else c)else-NV
def nw(g:Mx)(h i k:Int):Int:=if g i h<NV/\g h k<NV then mm (g i k) (g i h+g h k)else g i k
def up1(h i k:Int)(g:Mx):Mx:=fun i' k'=>if i'=i/\k'=k then nw g h i k else g i' k'
def YC(h i:Int)(ks:List Int)(g:Mx):Mx:=ks.foldl (fun g k=>up1 h i k g) g
def ow(h:Int)(ns is:List Int)(g:Mx):Mx:=is.foldl (fun g i=>YC h i ns g) g
def oz(ns hs:List Int)(g:Mx):Mx:=hs.foldl (fun g h=>ow h ns ns g) g
def Rg(g:Mx):Prop:=∀i k,-NV<=g i k/\g i k<=NV
section
variable {g:Mx}{h:Int}
theorem kK(hg:Rg g)(h0:g h h=0)(i:Int):nw g h i h=g i h:=by
 unfold nw mm;have:=hg i h;rw[h0];split
 ·split<;>split<;>omega
 ·rfl
theorem kL(hg:Rg g)(h0:g h h=0)(k:Int):nw g h h k=g h k:=by
 unfold nw mm;have:=hg h k;rw[h0];split
 ·split<;>split<;>omega
 ·rfl
def Part(g:Mx)(h:Int)(P:Int->Int->Prop)(g':Mx):Prop:=∀i k,(P i k->g' i k=nw g h i k)/\(¬P i k->g' i k=g i k)
theorem Part.fix(hg:Rg g)(h0:g h h=0){P:Int->Int->Prop}{g':Mx}(hp:Part g h P g'):(∀i,g' i h=g i h)/\∀k,g' h k=g h k:=by
 refine⟨fun i=>?_,fun k=>?_⟩
 ·by_cases hc:P i h
  ·rw[(hp i h).1 hc,kK hg h0]
  ·exact(hp i h).2 hc
 ·by_cases hc:P h k
  ·rw[(hp h k).1 hc,kL hg h0]
  ·exact(hp h k).2 hc
theorem Part.up1(hg:Rg g)(h0:g h h=0){P:Int->Int->Prop}{g':Mx}(hp:Part g h P g'){i k:Int}(hn:¬P i k):Part g h (fun a b=>P a b\/(a=i/\b=k)) (up1 h i k g'):=by
 obtain⟨h1,h2⟩:=hp.fix hg h0;have e:nw g' h i k=nw g h i k:=by
  unfold nw;rw[h1 i,h2 k,(hp i k).2 hn]
 intro a b;unfold FW.up1;by_cases hab:a=i/\b=k
 ·rw[if_pos hab]
  refine⟨fun _=>by rw[e,hab.1,hab.2],fun hno=>(hno (.inr hab)).elim⟩
 ·rw[if_neg hab]
  refine⟨fun hc=>?_,fun hc=>(hp a b).2 fun hc2=>hc (.inl hc2)⟩;rcases hc with hc|hc
  ·exact(hp a b).1 hc
  ·exact(hab hc).elim
theorem Part.row(hg:Rg g)(h0:g h h=0){i:Int}:∀(ks:List Int)(P:Int->Int->Prop)(g':Mx),ks.Nodup->(∀k∈ks,¬P i k)->Part g h P g'->Part g h (fun a b=>P a b\/(a=i/\b∈ks)) (YC h i ks g')
 |[],P,g',_,_,hp=>by simpa[YC]using hp
 |k::ks,P,g',hn,hk,hp=>by
  simp only[List.nodup_cons]at hn;have h1:=hp.up1 hg h0 (hk k (by simp));have h2:=Part.row hg h0 ks _ _ hn.2 (fun q hq hc=>by
   rcases hc with hc|⟨_,hc⟩
   ·exact hk q (by simp[hq]) hc
   ·exact hn.1 (hc▸hq)) h1
  have e:(fun a b=>(P a b\/(a=i/\b=k))\/(a=i/\b∈ks))=fun a b=>P a b\/(a=i/\b∈k::ks):=by
   funext a b
   simp only[List.mem_cons,eq_iff_iff];constructor
   ·rintro((h|⟨h1,h2⟩)|⟨h1,h2⟩)
    ·exact .inl h
    ·exact .inr ⟨h1,.inl h2⟩
    ·exact .inr ⟨h1,.inr h2⟩
   ·rintro(h|⟨h1,h2|h2⟩)
    ·exact .inl (.inl h)
    ·exact .inl (.inr ⟨h1,h2⟩)
    ·exact .inr ⟨h1,h2⟩
  rw[e]at h2;exact h2
end
inductive PI(R:List RR)(m a:Int):Int->Int->Prop
 |one {r:RR} (hr:r∈R) (ha:r.1=a):PI R m a r.2.1 r.2.2
 |snoc {u c:Int} {r:RR} (h:PI R m a u c) (hu:u<m) (hr:r∈R) (he:r.1=u):PI R m a r.2.1 (c+r.2.2)
theorem PI.split{R:List RR}{m a:Int}(hloop:∀c,PI R m m m c->0<=c){t c:Int}(h:PI R (m+1) a t c):PI R m a t c\/∃c1 c2,PI R m a m c1/\PI R m m t c2/\c1+c2<=c:=by
 induction h with
 |one hr ha=>exact .inl (.one hr ha)
 | @snoc u c r h hu hr he ih=>
  by_cases hum:u=m
  ·subst hum
   rcases ih with ih|⟨c1,c2,h1,h2,h3⟩
   ·exact .inr ⟨c,r.2.2,ih,.one hr he,Int.le_refl _⟩
   ·have:=hloop c2 h2
    exact .inr ⟨c1,r.2.2,h1,.one hr he,by omega⟩
  ·have hum:u<m:=by omega
   rcases ih with ih|⟨c1,c2,h1,h2,h3⟩
   ·exact .inl (.snoc ih hum hr he)
   ·exact .inr ⟨c1,c2+r.2.2,h1,.snoc h2 hum hr he,by omega⟩
def In(n:Int)(i:Int):Prop:=0<=i/\i<n
structure Ok(R:List RR)(n m b:Int)(g:Mx):Prop where
 rg:Rg g
 dg:∀i,In n i->g i i=0
 bd:∀i k,In n i->In n k->g i k=NV\/(-b<=g i k/\g i k<=b)
 un:∀a t c,In n a->In n t->PI R m a t c->g a t<=c/\g a t<NV
 so:∀i k,In n i->In n k->g i k=NV\/PC R i k (g i k)
def So(x:Int×List RR)(g:Mx):Prop:=∀i k,(0<=i/\i<=x.1)->(0<=k/\k<=x.1)->g i k=NV\/PC (FP x) i k (g i k)
theorem So.up1{x:Int×List RR}(hx:Hg x=0)(hP:eO x){g:Mx}(h:So x g){q i k:Int}(hq:0<=q/\q<=x.1)(hi:0<=i/\i<=x.1)(hk:0<=k/\k<=x.1):So x (up1 q i k g):=by
 intro a b ha hb;unfold FW.up1;split
 ·rename_i e
  rw[e.1,e.2];unfold nw;split
  ·rename_i hlt
   have s1:PC (FP x) i q (g i q):=by
    rcases h i q hi hq with s|s
    ·omega
    ·exact s
   have s2:PC (FP x) q k (g q k):=by
    rcases h q k hq hk with s|s
    ·omega
    ·exact s
   have s3:=s1.trans s2;have l3:=s3.low hx hP hi.1 hi.2;unfold mm;by_cases hc:g i q+g q k<g i k
   ·rw[if_pos hc,if_pos (by unfold NV;omega)]
    exact .inr s3
   ·rw[if_neg hc]
    rcases h i k hi hk with s|s
    ·rw[s,if_pos (by unfold NV;omega)]
     exact .inl rfl
    ·have:=s.low hx hP hi.1 hi.2
     rw[if_pos (by unfold NV;omega)];exact .inr s
  ·exact h i k hi hk
 ·exact h a b ha hb
theorem So.all{x:Int×List RR}(hx:Hg x=0)(hP:eO x){ns:List Int}(hm:∀i∈ns,0<=i/\i<=x.1){g:Mx}(h:So x g):So x (oz ns ns g):=by
 have key:∀{β:Type}{step:Mx->β->Mx}(l:List β),(∀g,∀b∈l,So x g->So x (step g b))->∀g,So x g->So x (l.foldl step g):=by
  intro β step l
  induction l with
  |nil=>intro _ g hg;exact hg
  |cons b l ih=>
   intro hs g hg;exact ih (fun g c hc=>hs g c (by simp[hc])) _ (hs g b (by simp) hg)
 refine key ns (fun g q hq hg=>?_) g h;refine key ns (fun g i hi hg=>?_) g hg;exact key ns (fun g k hk hg=>hg.up1 hx hP (hm q hq) (hm i hi) (hm k hk)) g hg
end
end FW
end Go.Proofs.YtfmelbioccbdoaaGreat
end
section
namespace Go.Proofs.YtfmelbioccbdoaaGreat
open Go Go.Md Go.RowKit
open FW (Mx up1 YC ow oz nw Rg In Ok So)
section
structure RepM(n:Nat)(M:List (List Int))(g:Mx):Prop where
 len:M.length=n
 row:∀i:Nat,i<n->∃r,M[i]?=some r/\r.length=n/\∀k:Nat,k<n->r[k]?=some (g i k)
theorem RepM.at{n:Nat}{M:List (List Int)}{g:Mx}(h:RepM n M g){i:Int}(i0:0<=i)(i1:i<n):∃r,ix M i=some r/\r.length=n/\∀k:Int,0<=k->k<n->ix r k=some (g i k):=by
 obtain⟨r,h1,h2,h3⟩:=h.row i.toNat (by omega);refine⟨r,by unfold ix;rw[if_pos i0];exact h1,h2,fun k k0 k1=>?_⟩;unfold ix;rw[if_pos k0,h3 k.toNat (by omega)];have e1:((i.toNat:Nat):Int)=i:=by omega
 have e2:((k.toNat:Nat):Int)=k:=by omega
 rw[e1,e2]
section
variable {n:Nat}{F:Nat}
def g0:Mx:=fun i k=>if i=k then 0 else FW.NV
end
section
variable {x:Int×List RR}{F:Nat}
end
end
end Go.Proofs.YtfmelbioccbdoaaGreat
end
section
namespace Go.Proofs.YtfmelbioccbdoaaGreat
open Go Go.Md Go.RowKit
open BF (Rl St Back rel pass H9)
section
section
variable {x:Int×List RR}{F:Nat}{a b t:Int}
end
end
end Go.Proofs.YtfmelbioccbdoaaGreat
end
section
namespace Go.Proofs.YtfmelbioccbdoaaGreat
open Go Go.Md Go.RowKit
open BF (Rl St Back)
section
section
variable {x:Int×List RR}{a b t:Int}{DK:List Int}{F:Nat}
end
end
end Go.Proofs.YtfmelbioccbdoaaGreat
end
section
namespace Go.Proofs.YtfmelbioccbdoaaGreat
open Go Go.Md Go.RowKit
section
section
variable {x:Int×List RR}{F:Nat}{a b t:Int}
end
end
section
section
variable {x:Int×List RR}{F:Nat}{a b t:Int}
theorem gL{u n:Int}(hu:0<=u)(hn:0<n):0<=u.tmod n/\u.tmod n<n:=⟨Int.tmod_nonneg _ hu,Int.tmod_lt_of_pos _ hn⟩
theorem kM{u n:Int}(hn:0<n):rem u n=some (u.tmod n):=by unfold rem;rw[if_neg (by omega)]
end
end
end Go.Proofs.YtfmelbioccbdoaaGreat
end
section
namespace Go.Proofs.YtfmelbioccbdoaaGreat
open Go Go.Md Go.RowKit
namespace L4
open Wo
section
section
variable {l:List (List Int)}{g:Tp}
end
end
end L4
end Go.Proofs.YtfmelbioccbdoaaGreat
end
section
namespace Go.Proofs.YtfmelbioccbdoaaGreat
open Go Go.Md Go.RowKit
namespace L4
open Wo Jn
section
theorem Zl(c:Aw):(EG FF c=some true/\VC c)\/EG FF c=some false:=by
 unfold EG;have ex:(c.1,c.2.1,(c.2.2.1,c.2.2.2))=c:=rfl;rw[ex,V8 (by decide)];by_cases h:VC c
 ·left
  have h8:=h.n8;have e:decide ((c.1.length:Int)<=20)=true:=by simp;omega
  rw[e,RY.2 h];exact⟨rfl,h⟩
 ·right
  have e2:decide (Uk c=0)=false:=decide_eq_false fun e=>h (RY.1 e);cases decide ((c.1.length:Int)<=20)with
  |false=>rfl
  |true=>
   simp only[gd,cond_true,Am,AJ,e2];rfl
section
variable {c:Aw}
end
end
end L4
end Go.Proofs.YtfmelbioccbdoaaGreat
end
section
namespace Go.Proofs.YtfmelbioccbdoaaGreat
open Go Go.Md Go.RowKit
namespace LP
open Jn L5
section
def il(n:Nat)(f:Nat->Bool):List Int:=(List.range n).map fun m=>if f m=true then(1:Int)else 0
theorem U5{n:Nat}{f:Nat->Bool}:(il n f).length=n:=by simp[il]
theorem eP{n:Nat}{f:Nat->Bool}{m:Nat}(h:m<n):ix (il n f) (m:Int)=some (if f m=true then 1 else 0):=by
 rw[Bb (by rw[U5];exact h)];simp[il]
theorem kN{n:Nat}{f:Nat->Bool}{m:Nat}(h:m<n):Eh (il n f) (m:Int) 1=il n fun i=>f i||decide (i=m):=by
 unfold Eh;rw[Int.toNat_natCast];refine List.ext_getElem (by simp[il]) fun i h1 h2=>?_;rw[List.getElem_set];simp only[il,List.getElem_map,List.getElem_range];by_cases e:m=i
 ·subst e;simp
 ·rw[if_neg e];simp[Ne.symm e]
theorem ND{n:Nat}{f g:Nat->Bool}(h:∀m,m<n->f m=g m):il n f=il n g:=by
 unfold il;exact List.map_congr_left fun m hm=>by rw[h m (List.mem_range.1 hm)]
section
variable {c:Aw}{l:List Aj}
def cr(l:List Aj)(j:Nat):Ba:=((l.getD j default).1,(l.getD (j+1) default).1)
def hit(L:List Ba)(l:List Aj)(k m:Nat):Bool:=(List.range k).any fun j=>decide (L[m]?=some (cr l j))
theorem U6{F:Nat}{z:FM}{k:Nat}(hk:k+1<l.length)(hl:l.length<=100)(hz:z.2.2.1.length<=1000){e:Int}{f:Nat->Bool}:∀(m q:Nat),q<=z.2.2.1.length->z.2.2.1.length-q<m->
  C8 F (l,e) ((k+1:Nat):Int) z m (il z.2.2.1.length fun m=>f m||(decide (m<q)&&decide (z.2.2.1[m]?=some (cr l k)))) (q:Int)=some (il z.2.2.1.length fun m=>f m||decide (z.2.2.1[m]?=some (cr l k)))
 |0,q,_,h=>by omega
 |m+1,q,hq,h=>by
  unfold C8;by_cases hlt:q<z.2.2.1.length
  ·have hw:Aa ((q:Int)+1)=((q+1:Nat):Int):=by rw[Au (by omega)];rfl
   have ew:Aa (((k+1:Nat):Int)-1)=(k:Int):=by rw[Au (by omega)];omega
   have ec:cr l k=(l[k].1,l[k+1].1):=by
    unfold cr;rw[List.getD_eq_getElem?_getD,List.getD_eq_getElem?_getD,List.getElem?_eq_getElem hk,List.getElem?_eq_getElem (show k<l.length by omega)]
    rfl
   rw[if_pos (by simpa using hlt),Bb hlt];simp only[Am,AJ];rw[ew,Bb (show k<l.length by omega)];simp only[AJ];rw[Bb hk];unfold IV;simp only[AJ];have ih:=U6 (F:=F) hk hl hz (e:=e) (f:=f) m (q+1) (by omega) (by omega);by_cases h1:z.2.2.1[q]=(l[k].1,l[k+1].1)
   ·rw[if_pos (by rw[decide_eq_true_eq];exact h1),eP hlt]
    simp only[AJ];rw[kN hlt,hw,<-ih]
    congr 1
    refine ND fun i hi=>?_;by_cases e1:i=q
    ·subst e1
     have:decide (z.2.2.1[i]?=some (cr l k))=true:=by rw[List.getElem?_eq_getElem hlt,h1,ec];simp
     rw[this];simp
    ·have e2:decide (i<q+1)=decide (i<q):=decide_eq_decide.2 (by omega)
     rw[e2];simp[e1]
   ·rw[if_neg (by rw[decide_eq_true_eq];exact h1)]
    simp only[AJ];rw[hw,<-ih]
    congr 1
    refine ND fun i hi=>?_;by_cases e1:i=q
    ·subst e1
     have:decide (z.2.2.1[i]?=some (cr l k))=false:=by rw[List.getElem?_eq_getElem hlt,ec];simp[h1]
     rw[this];simp
    ·have e2:decide (i<q+1)=decide (i<q):=decide_eq_decide.2 (by omega)
     rw[e2]
  ·have:q=z.2.2.1.length:=by omega
   subst this;rw[if_neg (by simp)]
   congr 1
   refine ND fun i hi=>?_;rw[decide_eq_true hi,Bool.true_and]
theorem U7{F:Nat}(hF:1000<F){z:FM}(hl:l.length=c.1.length)(h8:l.length<=8)(hz:z.2.2.1.length<=1000){e:Int}:∀(m k:Nat),k+1<=c.1.length->c.1.length-(k+1)<m->
  CZ F c (l,e) z m (il z.2.2.1.length (hit z.2.2.1 l k)) ((k+1:Nat):Int)=some (il z.2.2.1.length (hit z.2.2.1 l (c.1.length-1)))
 |0,k,_,h=>by omega
 |m+1,k,hk,h=>by
  unfold CZ;by_cases hlt:k+1<c.1.length
  ·have hw:Aa (((k+1:Nat):Int)+1)=((k+1+1:Nat):Int):=by rw[Au (by omega)];rfl
   have e6:=U6 (F:=F) (z:=z) (l:=l) (k:=k) (by omega) (by omega) hz (e:=e) (f:=hit z.2.2.1 l k) F 0 (Nat.zero_le _) (by omega);have e0:(il z.2.2.1.length fun m=>hit z.2.2.1 l k m||(decide (m<0)&&decide (z.2.2.1[m]?=some (cr l k))))=il z.2.2.1.length (hit z.2.2.1 l k):=ND fun i _=>by simp
   have e1:(il z.2.2.1.length fun m=>hit z.2.2.1 l k m||decide (z.2.2.1[m]?=some (cr l k)))=il z.2.2.1.length (hit z.2.2.1 l (k+1)):=ND fun i _=>by
    unfold hit;rw[List.range_succ,List.any_append];simp
   rw[e0,e1,show((0:Nat):Int)=0 from rfl]at e6;rw[if_pos (by rw[decide_eq_true_eq];omega),e6];simp only[Am,AJ];rw[hw];exact U7 hF hl h8 hz m (k+1) (by omega) (by omega)
  ·rw[if_neg (by rw[decide_eq_true_eq];omega),show c.1.length-1=k by omega]
def Lf(n:Nat)(f:Nat->Bool)(q:Nat):List Nat:=(List.range q).filter fun m=>f m&&decide (m<n)
theorem U8{F:Nat}{n:Nat}(hn:n<=1000){f:Nat->Bool}{g ks:List Int}{e e':Int}{N:Int}(hks:ks.length=n)(hN:Aa ((c.1.length:Int)-1)=N)
  (hk:(g.length:Int)=N->∀m(h:m<ks.length),(ks[m]=2->f m=true)/\(ks[m]=0->f m=false)):∀(m q:Nat),q<=n->n-q<m->
  Ca F c (g,e) (ks,e') (il n f) m (nI (Lf n f q)) (q:Int)=some (.inr (nI (Lf n f n)))
 |0,q,_,h=>by omega
 |m+1,q,hq,h=>by
  unfold Ca;by_cases hlt:q<n
  ·have hw:Aa ((q:Int)+1)=((q+1:Nat):Int):=by rw[Au (by omega)];rfl
   have hkq:q<ks.length:=by omega
   have hnl:(Lf n f q).length<=q:=by
    unfold Lf;exact Nat.le_trans (List.length_filter_le ..) (by simp)
   rw[if_pos (by rw[U5];simpa using hlt),eP hlt,Bb hkq];simp only[Am,AJ,hN];have e1:(if decide ((if f q=true then(1:Int)else 0)=1)=true then(app 8 (nI (Lf n f q)) [(q:Int)]).bind fun x29=>some x29 else some (nI (Lf n f q)))=some (nI (Lf n f (q+1))):=by
    have e2:Lf n f (q+1)=Lf n f q++(if f q=true then[q]else[]):=by
     unfold Lf;rw[List.range_succ,List.filter_append]
     congr 1
     cases hf:f q<;>simp[hf,hlt]
    cases hf:f q with
    |true=>
     rw[if_pos (by simp),Fz (by simp;omega),e2,hf];simp
    |false=>rw[if_neg (by simp),e2,hf];simp
   rw[e1];simp only[AJ];have e3:(if decide ((g.length:Int)=N)=true then
     (if decide (ks[q]=2)=true then(if decide ((if f q=true then(1:Int)else 0)=0)=true then some true else if decide (ks[q]=0)=true then some (decide ((if f q=true then(1:Int)else 0)=1))else some false)
     else(if false=true then some true else if decide (ks[q]=0)=true then some (decide ((if f q=true then(1:Int)else 0)=1))else some false))else some false:Option Bool)=some false:=by
    by_cases hg:(g.length:Int)=N
    ·obtain⟨a,b⟩:=hk hg q hkq
     rw[if_pos (by simpa using hg)];by_cases h2:ks[q]=2
     ·rw[if_pos (by simpa using h2),a h2,if_neg (by simp),if_neg (by rw[h2];simp)]
     ·rw[if_neg (by simpa using h2),if_neg (by simp)]
      by_cases h0:ks[q]=0
      ·rw[if_pos (by simpa using h0),b h0];simp
      ·rw[if_neg (by simpa using h0)]
    ·rw[if_neg (by simpa using hg)]
   rw[e3];simp only[AJ];rw[if_neg (by simp),hw];exact U8 hn hks hN hk m (q+1) (by omega) (by omega)
  ·have:q=n:=by omega
   subst this;rw[if_neg (by rw[U5];simp)]
end
end
end LP
end Go.Proofs.YtfmelbioccbdoaaGreat
end
section
namespace Go.Proofs.YtfmelbioccbdoaaGreat
open Go Go.Md Go.RowKit
namespace Sg
def um(q:List Int)(r:Int×Int):Bool:=q.any fun v=>decide (r.1<=v)&&decide (v<=r.2)
theorem U9(a:Int):∀l:List Int,(NK a l).length=l.length+1
 |[]=>rfl
 |b::l=>by unfold NK;split<;>simp[U9 a l]
theorem SK:∀l:List Int,(H6 l).length=l.length
 |[]=>rfl
 |a::l=>by unfold H6;rw[U9,SK l];rfl
structure Short(l:List (Int×Int))(G:List To):Prop where
 mem:∀g∈G,∃i:Nat,l[i]?=some g.1/\g.2=(i:Int)
 apart:G.Pairwise fun a b=>a.1.2<b.1.1
 um:∀r∈l,∃g∈G,r.1<=g.1.2/\g.1.2<=r.2
 len:G.length<=l.length
theorem Short.le{l:List (Int×Int)}{G:List To}(h:Short l G){q:List Int}(hq:∀r∈l,∃e∈q,r.1<=e/\e<=r.2):G.length<=q.length:=
 Uj G q h.apart fun x hx=>by
  obtain⟨i,h1,-⟩:=h.mem x hx;exact hq _ (List.mem_of_getElem? h1)
end Sg
end Go.Proofs.YtfmelbioccbdoaaGreat
end
section
namespace Go.Proofs.YtfmelbioccbdoaaGreat
open Go Go.Md Go.RowKit
namespace LP
open Jn L5
section
section
variable {c:Aw}{l:List Aj}
theorem gM:Hu FF=some true:=rfl
theorem VA:∀{l:List Aj},Ih c l=true->∀(j:Nat)(a b:Aj),l[j]?=some a->l[j+1]?=some b->fit c a b=true
 |[],_,j,a,b,h,_=>by simp at h
 |[x],_,j,a,b,_,h=>by simp at h
 |x::y::l,hj,j,a,b,h1,h2=>by
  have hj:(fit c x y&&Ih c (y::l))=true:=hj;rw[Bool.and_eq_true]at hj;cases j with
  |zero=>simp at h1 h2;rw[<-h1,<-h2];exact hj.1
  |succ j=>exact VA hj.2 j a b (by simpa using h1) (by simpa using h2)
theorem gN(hv:VC c)(ho:Ord c l)(hj:Ih c l=true){j:Nat}(h:j+1<c.1.length):cr l j∈Cb c:=by
 have hl:=ho.len;have h0:j<l.length:=by omega
 have h1:j+1<l.length:=by omega
 have f:=VA hj j _ _ (List.getElem?_eq_getElem h0) (List.getElem?_eq_getElem h1);have sa:=ho.steps _ (List.getElem_mem h0);have sb:=ho.steps _ (List.getElem_mem h1);have ma:=Ga.2 sa;have mb:=Ga.2 sb;obtain⟨i,ei,p,hp,-⟩:=sa;obtain⟨k,ek,q,hq,-⟩:=sb;refine WJ.2 ⟨i,k,(List.getElem?_eq_some_iff.1 hp).1,(List.getElem?_eq_some_iff.1 hq).1,?_,?_⟩
 ·refine List.any_eq_true.2 ⟨_,ma,List.any_eq_true.2 ⟨_,mb,?_⟩⟩
  unfold two;rw[ei,ek,f];simp
 ·unfold cr
  rw[List.getD_eq_getElem?_getD,List.getD_eq_getElem?_getD,List.getElem?_eq_getElem h0,List.getElem?_eq_getElem h1];simp only[Option.getD_some,ei,ek]
theorem Zo(ho:Ord c l){i j:Nat}(hi:i+1<c.1.length)(hj:j+1<c.1.length):((cr l i).1=(cr l j).1->i=j)/\((cr l i).2=(cr l j).2->i=j):=by
 have hl:=ho.len;have key:∀a b,a<l.length->b<l.length->(l.getD a default).1=(l.getD b default).1->a=b:=fun a b ha hb e=>by
  rw[List.getD_eq_getElem?_getD,List.getD_eq_getElem?_getD,List.getElem?_eq_getElem ha,List.getElem?_eq_getElem hb]at e;have:=(List.getElem_inj ho.nodup (i:=a) (j:=b) (h₀:=by rw[List.length_map];exact ha) (h₁:=by rw[List.length_map];exact hb)).1 (by simpa using e);exact this
 exact⟨fun e=>key _ _ (by omega) (by omega) e,fun e=>by have:=key _ _ (show i+1<_ by omega) (show j+1<_ by omega) e;omega⟩
abbrev Jy(c:Aw)(l:List Aj):List Nat:=Lf (Cb c).length (hit (Cb c) l (c.1.length-1)) (Cb c).length
theorem JK{m:Nat}:m∈Jy c l↔m<(Cb c).length/\∃j,j+1<c.1.length/\(Cb c)[m]?=some (cr l j):=by
 unfold Jy Lf hit;simp only[List.mem_filter,List.mem_range,Bool.and_eq_true,List.any_eq_true,decide_eq_true_eq];constructor
 ·rintro⟨h,⟨j,hj,e⟩,_⟩;exact⟨h,j,by omega,e⟩
 ·rintro⟨h,j,hj,e⟩;exact⟨h,⟨j,by omega,e⟩,h⟩
theorem VB:(Jy c l).Pairwise (·<·):=List.Pairwise.sublist List.filter_sublist List.pairwise_lt_range
theorem kP(ho:Ord c l):Jg (Cb c) (Jy c l):=by
 unfold Jg;refine List.Pairwise.imp_of_mem (fun{a b} ha hb hab x y hx hy=>?_) VB;obtain⟨-,i,hi,e1⟩:=JK.1 ha;obtain⟨-,j,hj,e2⟩:=JK.1 hb;rw[hx]at e1;cases e1;rw[hy]at e2;cases e2;have hne:i≠j:=fun e=>by
  subst e;have:=(List.getElem?_inj (List.getElem?_eq_some_iff.1 hx).1 (U3 (c:=c))).1 (hx.trans hy.symm);omega
 obtain⟨k1,k2⟩:=Zo ho hi hj;exact⟨fun e=>hne (k1 e),fun e=>hne (k2 e)⟩
theorem Qx(ho:Ord c l){al:Int->Bool}(ha:∀m∈Jy c l,al m=true):Jo (Cb c) al (Jy c l):=
 ⟨fun m hm=>⟨_,List.getElem?_eq_getElem (JK.1 hm).1,ha m hm⟩,kP ho⟩
theorem WK(hv:VC c)(ho:Ord c l)(hj:Ih c l=true):(Jy c l).length=c.1.length-1:=by
 have n1:=hv.n1;have hnd:(Jy c l).Nodup:=VB.imp fun h=>by omega
 refine Nat.le_antisymm ?_ ?_
 ·have e:((Jy c l).map fun m=>(Cb c).getD m (0,0)).Nodup:=by
   refine Jn.Og hnd fun a ha b hb e=>?_;have ha:=(JK.1 ha).1;have hb:=(JK.1 hb).1;rw[List.getD_eq_getElem?_getD,List.getD_eq_getElem?_getD,List.getElem?_eq_getElem ha,List.getElem?_eq_getElem hb]at e;exact(List.getElem_inj U3).1 e
  have:=NA (k:=(List.range (c.1.length-1)).map (cr l)) e fun x hx=>by
   obtain⟨m,hm,rfl⟩:=List.mem_map.1 hx;obtain⟨-,j,hj,e⟩:=JK.1 hm;refine List.mem_map.2 ⟨j,List.mem_range.2 (by omega),?_⟩;rw[List.getD_eq_getElem?_getD,e];rfl
  rw[List.length_map,List.length_map,List.length_range]at this;exact this
 ·have e:((List.range (c.1.length-1)).map (cr l)).Nodup:=by
   refine Jn.Og List.nodup_range fun a ha b hb e=>?_;have ha:=List.mem_range.1 ha;have hb:=List.mem_range.1 hb;exact(Zo ho (by omega) (by omega)).1 (congrArg Prod.fst e)
  have:=NA (k:=(Jy c l).map fun m=>(Cb c).getD m (0,0)) e fun x hx=>by
   obtain⟨j,hj',rfl⟩:=List.mem_map.1 hx;have hj':=List.mem_range.1 hj';obtain⟨m,hm,e⟩:=List.mem_iff_getElem.1 (gN hv ho hj (j:=j) (by omega));refine List.mem_map.2 ⟨m,JK.2 ⟨hm,j,by omega,by rw[List.getElem?_eq_getElem hm,e]⟩,?_⟩;rw[List.getD_eq_getElem?_getD,List.getElem?_eq_getElem hm,e];rfl
  rw[List.length_map,List.length_map,List.length_range]at this;exact this
theorem gP{L:List Ba}{al:Int->Bool}{s t:Nat}(h:GM L al s)(k:GM L al t):s=t:=by
 obtain⟨M,a,rfl⟩:=h.ex;obtain⟨M',b,rfl⟩:=k.ex;have:=h.le _ b;have:=k.le _ a;omega
theorem gQ(hv:VC c)(ho:Ord c l)(hj:Ih c l=true){t u v m:Nat}(hm:m<(Cb c).length)(ht:GM (Cb c) (fun _=>true) t)(htn:t=c.1.length-1)(hu:GM (Cb c) (fun i=>!decide (i=(m:Int))) u)(hw:GM (Cb c) (Jk (Cb c) (Cb c)[m]) v)
  {k:Int} (hk:k=if u<t then 2 else if 1+v=t then 1 else 0):(k=2->hit (Cb c) l (c.1.length-1) m=true)/\(k=0->hit (Cb c) l (c.1.length-1) m=false):=by
 have hlen:=WK hv ho hj;have hin:m∈Jy c l↔hit (Cb c) l (c.1.length-1) m=true:=by
  unfold Jy Lf;rw[List.mem_filter,List.mem_range,Bool.and_eq_true,decide_eq_true_eq];exact⟨fun h=>h.2.1,fun h=>⟨hm,h,hm⟩⟩
 constructor
 ·intro h2
  refine Classical.byContradiction fun hf=>?_;have hn:m∉Jy c l:=fun h=>hf (hin.1 h);have:=hu.le _ (Qx ho fun i hi=>by
   simp only[Bool.not_eq_true',decide_eq_false_iff_not];intro e;have e:i=m:=by omega
   exact hn (e▸hi))
  rw[if_neg (by omega)]at hk;split at hk<;>omega
 ·intro h0
  refine Classical.byContradiction fun hf=>?_;have hi:=hin.2 (by simpa using hf);have hlt:1<=(Jy c l).length:=List.length_pos_of_mem hi;have hJ:=Qx ho (al:=fun _=>true) fun _ _=>rfl;have h1:Jo (Cb c) (Jk (Cb c) (Cb c)[m]) ((Jy c l).erase m):=by
   refine⟨fun i hi'=>?_,hJ.jg.sublist List.erase_sublist⟩;have hne:i≠m/\i∈Jy c l:=(List.Nodup.mem_erase_iff hJ.nodup).1 hi';have hil:=(JK.1 hne.2).1;refine⟨_,List.getElem?_eq_getElem hil,?_⟩;have hd:(Cb c)[i].1≠(Cb c)[m].1/\(Cb c)[i].2≠(Cb c)[m].2:=by
    have hp:=hJ.jg;unfold Jg at hp;obtain⟨a,ha,ea⟩:=List.mem_iff_getElem.1 hne.2;obtain⟨b,hb,eb⟩:=List.mem_iff_getElem.1 hi;rcases Nat.lt_trichotomy a b with h|h|h
    ·have:=(List.pairwise_iff_getElem.1 hp) a b ha hb h (Cb c)[i] (Cb c)[m] (by rw[ea];exact List.getElem?_eq_getElem hil) (by rw[eb];exact List.getElem?_eq_getElem hm)
     exact this
    ·subst h;exact absurd (ea.symm.trans eb) hne.1
    ·have:=(List.pairwise_iff_getElem.1 hp) b a hb ha h (Cb c)[m] (Cb c)[i] (by rw[eb];exact List.getElem?_eq_getElem hm) (by rw[ea];exact List.getElem?_eq_getElem hil)
     exact⟨fun e=>this.1 e.symm,fun e=>this.2 e.symm⟩
   unfold Jk;rw[Bb hil];simp[hd.1,hd.2]
  have h2:=hw.le _ h1;rw[List.length_erase_of_mem hi]at h2;obtain⟨M,hM,eM⟩:=hw.ex;have hmM:∀i∈M,(Cb c)[i]?≠none/\∀x,(Cb c)[i]?=some x->x.1≠(Cb c)[m].1/\x.2≠(Cb c)[m].2:=fun i hi=>by
   obtain⟨x,hx,hp⟩:=hM.mem i hi;refine⟨by rw[hx];simp,fun y hy=>?_⟩;rw[hx]at hy;cases hy;unfold Jk at hp;rw[KV hx]at hp;simpa using hp
  have h3:=ht.le (m::M) ⟨fun i hi=>by
   rcases List.mem_cons.1 hi with rfl|hi
   ·exact⟨_,List.getElem?_eq_getElem hm,rfl⟩
   ·obtain⟨x,hx,-⟩:=hM.mem i hi
    exact⟨x,hx,rfl⟩,List.pairwise_cons.2 ⟨fun i hi x y hx hy=>by
     rw[List.getElem?_eq_getElem hm]at hx;cases hx;have:=(hmM i hi).2 y hy;exact⟨fun e=>this.1 e.symm,fun e=>this.2 e.symm⟩,hM.jg⟩⟩
  rw[List.length_cons]at h3;have:1+v=t:=by omega
  rw[if_pos this]at hk;split at hk<;>omega
end
theorem kQ{c:Aw}(hJ:0<(Jc c).length){x:Int}(hx:0<=x/\x<=65535):∃(n:Nat)(t:List Nat),rem (Aa x) ((Jc c).length:Int)=some (n:Int)/\(Jc c)[n]?=some t:=by
 have t:=gL (u:=x) (n:=((Jc c).length:Int)) hx.1 (by omega);refine⟨(x.tmod ((Jc c).length:Int)).toNat,_,?_,List.getElem?_eq_getElem (by omega)⟩;rw[Au (by omega),kM (by omega),Int.toNat_of_nonneg t.1]
theorem pieces(c:Aw){one:Int}(h1:0<=one/\one<=65535):Ff FF c one=some true:=by
 have hF:1000<FF:=by decide
 unfold Ff;rw[gM];refine(L4.Zl c).elim ?_ fun e0=>by rw[show EG FF (c.1,c.2.1,c.2.2.1,c.2.2.2)=some false from e0];rfl
 rintro⟨e0,hv⟩;rw[show EG FF (c.1,c.2.1,c.2.2.1,c.2.2.2)=some true from e0];simp only[Am,AJ];by_cases h6:6<c.1.length
 ·rw[if_pos (by simp;omega)]
 rw[if_neg (by simp;omega),show Ht FF (c.1,c.2.1,c.2.2.1,c.2.2.2)=_ from Zh hF hv];simp only[AJ];have hV:=gJ hv (by omega);have e1:=U2 hF hv (x:=(c.1.length:Int)) (y:=(c.1.length:Int)) FF 0 [] (Nat.zero_le _) (Nat.lt_of_le_of_lt (show _<=8 by have:=hv.n8;omega) (by decide)) (Nat.zero_le _);rw[show((0:Nat):Int)=0 from rfl,List.nil_append,Nat.sub_zero,show KX c 0 c.1.length=Cb c from rfl]at e1;rw[e1];simp only[AJ];rw[ZN hF hV];simp only[AJ];rw[if_neg (by simp),show Ic FF (c.1,c.2.1,c.2.2.1,c.2.2.2)=_ from count_eq hF hv];simp only[AJ];obtain⟨Q,q1,q2,q3⟩:=bJ hF hV;obtain⟨t,ks,k1,k2,k3,k4⟩:=bK hF hV;have et:=gP k1 q2;subst et;have ek:Jm FF ((c.1.length:Int),(c.1.length:Int),Cb c,[])=some (ks,0):=by
  unfold Jm;simp only[Ps hF hV,Am,AJ];rw[if_neg (by simp),k2]
  rfl
 rw[q3,ek];simp only[AJ];rw[if_neg (by simp[k3])];by_cases hJ:(Jc c).length=0
 ·rw[if_pos (by simp[hJ])]
 have hJ:0<(Jc c).length:=by omega
 rw[if_neg (by simp only[decide_eq_true_eq];intro hz;have hz:((Jc c).length:Int)=0:=hz;omega)];obtain⟨n1,t,r1,g1⟩:=kQ hJ h1;have ht:=List.mem_of_getElem? g1;obtain⟨o1,j1⟩:=kI hv ht;have hlen:=WK hv o1 j1;have hn1:=hv.n1;have h8:=hv.n8;have hll:=o1.len;rw[r1];simp only[AJ];rw[show KJ FF (c.1,c.2.1,c.2.2.1,c.2.2.2) (n1:Int)=_ from kC hF hv g1];simp only[AJ,decide_true,Bool.not_true,Bool.not_false,gd,cond_true];rw[show FO FF (c.1,c.2.1,c.2.2.1,c.2.2.2) (Gz c t)=_ from bT hF hv o1 j1];simp only[AJ];have hgl:(H6 ((Nq Q).map fun k:Nat=>(k:Int))).length=mc Q:=by
  rw[Sg.SK,List.length_map,RX]
 have hwn:Aa ((c.1.length:Int)-1)=((c.1.length-1:Nat):Int):=by rw[Au (by omega)];omega
 have hge:=q2.le _ (Qx o1 (al:=fun _=>true) fun _ _=>rfl);rw[if_neg (by rw[hwn,hgl];simp;omega)];have hN:=hV.len;have em:mks 8 ((Cb c).length:Int) (0:Int)=some (il (Cb c).length (hit (Cb c) (Gz c t) 0)):=by
  unfold mks;rw[if_pos ⟨by omega,by rw[Int.toNat_natCast];omega⟩,Int.toNat_natCast]
  congr 1
  refine List.ext_getElem (by simp[il]) fun i h1 h2=>?_;simp[il,hit]
 rw[em];simp only[AJ];have e5:=U7 (F:=FF) hF (z:=((c.1.length:Int),(c.1.length:Int),Cb c,[])) (l:=Gz c t) hll (by omega) (by show(Cb c).length<=1000;omega) (e:=0) FF 0 (by omega) (Nat.lt_of_le_of_lt (show _<=8 by omega) (by decide));rw[show((0+1:Nat):Int)=1 from rfl]at e5;rw[show CZ FF (c.1,c.2.1,c.2.2.1,c.2.2.2) (Gz c t,0) ((c.1.length:Int),(c.1.length:Int),Cb c,[]) FF (il (Cb c).length (hit (Cb c) (Gz c t) 0)) 1=_ from e5];simp only[AJ];have e7:=U8 (F:=FF) (c:=c) (n:=(Cb c).length) (by omega) (f:=hit (Cb c) (Gz c t) (c.1.length-1)) (g:=H6 ((Nq Q).map fun k:Nat=>(k:Int))) (ks:=ks) (e:=0) (e':=0) k3 hwn (fun hg m hm=>by
  rw[hgl]at hg;obtain⟨u,v,a1,a2,a3⟩:=k4 m (by omega);rw[List.getElem?_eq_getElem hm]at a3;exact gQ hv o1 j1 (by omega) q2 (by omega) a1 a2 (Option.some.inj a3)) FF 0 (Nat.zero_le _) (Nat.lt_of_le_of_lt (show _<=40 by omega) (by decide))
 rw[show Lf (Cb c).length (hit (Cb c) (Gz c t) (c.1.length-1)) 0=[]from rfl,show((0:Nat):Int)=0 from rfl]at e7;rw[show Ca FF (c.1,c.2.1,c.2.2.1,c.2.2.2) (H6 ((Nq Q).map fun k:Nat=>(k:Int)),0) (ks,0) (il (Cb c).length (hit (Cb c) (Gz c t) (c.1.length-1))) FF [] 0=_ from e7];simp only[AJ];have d1:decide (((nI (Jy c (Gz c t))).length:Int)=Aa ((c.1.length:Int)-1))=true:=by rw[hwn,List.length_map,hlen];simp
 rw[show nI (Lf (Cb c).length (hit (Cb c) (Gz c t) (c.1.length-1)) (Cb c).length)=nI (Jy c (Gz c t))from rfl,d1,Qq hF hV VB (Qx o1 fun _ _=>rfl)]
 rfl
theorem Ol(c:Aw){one:Int}(h1:(Lit.int .u16 one).wf=true):Ff FF c one=some true:=by
 have hb:∀{v:Int},(Lit.int .u16 v).wf=true->0<=v/\v<=65535:=fun{v} h=>by simp[Lit.wf]at h;exact h
 exact pieces c (hb h1)
end
end LP
end Go.Proofs.YtfmelbioccbdoaaGreat
end
section
namespace Go.Proofs.YtfmelbioccbdoaaGreat
namespace TopPieceListsP
open Go
theorem band{a b:Bool}(h:a=true)(k:b=true):(a&&b)=true:=by rw[h,k];rfl
theorem uo:(Rows.topPieceListsRow.wf (OpenSpec.ofChange Rows.topPieceListsSpec))=true:=by kernel_rfl
theorem uq:(laidOutB Tryz.pinned.checked.prog)=true:=by kernel_rfl
theorem uw:(mapsRowed Tryz.pinned.checked.prog)=true:=by kernel_rfl
theorem uy:(Tryz.f10.params.all (Tryz.pinned.checked.prog.readableRec ·))=true:=by kernel_rfl
theorem uz:(namedTie Tryz.pinned.checked.prog Rows.topPieceListsRow.named Rows.topPieceListsSpec.vars)=true:=by kernel_rfl
theorem u7:((Rows.topPieceListsRow.stops==[]))=true:=by kernel_rfl
theorem vB:((Tryz.pinned.checked.prog.stops==[]))=true:=by kernel_rfl
theorem vC:((Rows.topPieceListsRow.knobs==[]))=true:=by kernel_rfl
theorem vD:((Tryz.pinned.checked.prog.stopKnobs==[]))=true:=by kernel_rfl
theorem vE:((Rows.topPieceListsRow.inPlace==Tryz.pinned.checked.prog.inPlace (10:FuncId)))=true:=by kernel_rfl
theorem sJ:((Rows.topPieceListsRow.unfollowed==Tryz.pinned.checked.prog.unfollowed (10:FuncId)))=true:=by kernel_rfl
theorem sK:((Rows.topPieceListsRow.recurses==Tryz.pinned.checked.prog.recurses (10:FuncId)))=true:=by kernel_rfl
theorem sM:((Rows.topPieceListsRow.named==Tryz.pinned.checked.prog.varsNamed (10:FuncId)))=true:=by kernel_rfl
theorem sN:((Rows.topPieceListsRow.maps==(Tryz.f10.params.toList++Rows.topPieceListsSpec.plain.varTypes Tryz.pinned.checked.prog).any (Tryz.pinned.checked.prog.mapsRec ·)))=true:=by kernel_rfl
theorem sO:((Rows.topPieceListsRow.ifaces==(Tryz.f10.params.toList++Rows.topPieceListsSpec.plain.varTypes Tryz.pinned.checked.prog).any (Tryz.pinned.checked.prog.ifacesRec ·)))=true:=by kernel_rfl
theorem sP:((Rows.topPieceListsRow.mapsOut==Tryz.pinned.checked.prog.mapsAmong Tryz.f10.resultTypes.toList))=true:=by kernel_rfl
theorem sQ:((Rows.topPieceListsRow.loops==(Tryz.f10.params.toList++Rows.topPieceListsSpec.plain.varTypes Tryz.pinned.checked.prog).any (Tryz.pinned.checked.prog.loopsFrom ·)))=true:=by kernel_rfl
theorem sS:((Rows.topPieceListsRow.wideKeys==(Tryz.f10.params.toList++Rows.topPieceListsSpec.plain.varTypes Tryz.pinned.checked.prog++Tryz.f10.resultTypes.toList).any (Tryz.pinned.checked.prog.wideKeysFrom ·)))=true:=by kernel_rfl
theorem sU:(Rows.topPieceListsSpec.vars.all (Tryz.pinned.checked.prog.varReadable ·))=true:=by kernel_rfl
theorem sV:(Tryz.f10.resultTypes.all (fun t=>Tryz.pinned.checked.prog.readableRec t&&decide (t<Tryz.pinned.checked.prog.types.size)))=true:=by kernel_rfl
theorem sW:((Rows.topPieceListsRow.ifacesOut==Tryz.f10.resultTypes.toList.any (Tryz.pinned.checked.prog.ifacesRec ·)))=true:=by kernel_rfl
theorem sZ:((Rows.topPieceListsRow.loopsOut==Tryz.f10.resultTypes.toList.any (Tryz.pinned.checked.prog.loopsFrom ·)))=true:=by kernel_rfl
theorem si:((Rows.topPieceListsRow.plainKeys==Tryz.pinned.checked.prog.plainKeys))=true:=by kernel_rfl
theorem su:(Rows.topPieceListsRow.shortTexts.isNone)=true:=by kernel_rfl
theorem sw:(Tryz.pinned.checked.prog.stopsHeard)=true:=by kernel_rfl
theorem tC:(Tryz.pinned.checked.prog.mayEnter)=true:=by kernel_rfl
theorem tF:((Rows.topPieceListsRow.lifted==Tryz.pinned.checked.prog.liftsFinal))=true:=by kernel_rfl
theorem tH:((Tryz.pinned.checked.prog.make==some Rows.topPieceListsRow.make))=true:=by kernel_rfl
theorem tJ:((Rows.topPieceListsRow.kinds==(if Rows.topPieceListsRow.domain.isEmpty then[]else Tryz.f10.params.toList.map fun t=>match Tryz.pinned.checked.prog.underlying t with|some (.int k)=>some k|_=>none)))=true:=by kernel_rfl
theorem tK:((Rows.topPieceListsRow.pinned==Rows.topPieceListsRow.pinnedBy))=true:=by kernel_rfl
theorem tL:((Rows.topPieceListsRow.veiled==(Tryz.f10.params.toList++Rows.topPieceListsSpec.plain.varTypes Tryz.pinned.checked.prog++Tryz.f10.resultTypes.toList).any (Tryz.pinned.checked.prog.veiledRec ·)))=true:=by kernel_rfl
theorem tO:(Rows.topPieceListsRow.veiledFits Tryz.pinned.checked.prog Tryz.f10.params.toList (Tryz.f10.params.toList++Rows.topPieceListsSpec.plain.varTypes Tryz.pinned.checked.prog++Tryz.f10.resultTypes.toList))=true:=by kernel_rfl
theorem named:Tryz.pinned.checked.prog.funcNamed Rows.topPieceListsRow.func=some 10:=by kernel_rfl
end TopPieceListsP
end Go.Proofs.YtfmelbioccbdoaaGreat
end
