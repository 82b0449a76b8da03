/-
  Part 10 of 10 of what the last text stands on: lemmas about the model, pure functions, walks, laws in plain Lean; each part's own head says its condition. Merged by a program of our own.
-/
import Derived.Test.YtfmelbioccbdoaaGreatStepListsQi
import Derived.Test.YtfmelbioccbdoaaGreatRows
import Derived.JoinedOf
set_option maxHeartbeats 0
set_option linter.all false
section
namespace Go.Proofs.YtfmelbioccbdoaaGreat
open Go Go.Md Go.RowKit
namespace L5
section
structure VSh(n m:Nat)(L:List CG):Prop where
 n1:1<=n/\n<=12
 m1:1<=m/\m<=12
 len:L.length<=40
 rg:∀x∈L,0<=x.1/\x.1<n/\0<=x.2/\x.2<m
 nd:L.Nodup
section
variable {n m:Nat}{L:List CG}
theorem VSh.v(h:VSh n m L):I9 L:=⟨by have:=h.len;omega,fun x hx=>by have:=h.rg x hx;have:=h.n1;have:=h.m1;omega⟩
theorem VSh.ok(h:VSh n m L):ShOk ((n:Int),(m:Int),L,[])=true:=by
 unfold ShOk;simp[h.v]
theorem Le{F:Nat}{lo hi:Int}{l:List Int}(hF:l.length<F)(hl:l.length<4611686018427387904):EB F lo hi l=some (l.all (JI lo hi)):=by
 unfold EB;rw[aL (f:=fun y=>Hl y lo hi) (p:=fun n=>decide (n<lo)||decide (hi<n)) (fun x _=>rfl) hF hl];simp only[Am,AR,UI]
theorem SH{l:List CG}{f:CG->Option Bool}(F:Nat):∀m k,BU F l f m k=Ii l f m k
 |0,_=>rfl
 |m+1,k=>by unfold BU Ii;simp only[SH F m]
theorem Yc{l:List CG}{f:CG->Option Bool}{p:CG->Bool}{F:Nat}(hf:∀x∈l,f x=some (p x))(hF:l.length<F)(hl:l.length<4611686018427387904):CO F l f=some (l.any p):=by
 obtain⟨r,h1,h2,h3⟩:=Ij hf hl F 0 (Nat.zero_le _) (by omega);unfold CO DU;rw[SH];simp only[Int.natCast_zero,List.drop_zero]at h1 h2 h3;rw[h1];cases hp:l.any p with
 |true=>obtain⟨j,rfl⟩:=h2 hp;simp[Am]
 |false=>obtain rfl:=h3 hp;simp[Am]
theorem SI{l:List CG}{x:CG}(F:Nat):∀m k,Bn F l x m k=Ii l (fun y=>some (decide (x=y))) m k
 |0,_=>rfl
 |m+1,k=>by unfold Bn Ii;simp only[SI F m];rfl
theorem Yd{l:List CG}{x:CG}{F:Nat}(hF:l.length<F)(hl:l.length<4611686018427387904):Ck F l x=some (l.any fun y=>decide (x=y)):=by
 obtain⟨r,h1,h2,h3⟩:=Ij (f:=fun y=>some (decide (x=y))) (p:=fun y=>decide (x=y)) (fun _ _=>rfl) hl F 0 (Nat.zero_le _) (by omega);unfold Ck D7;rw[SI];simp only[Int.natCast_zero,List.drop_zero]at h1 h2 h3;rw[h1];cases hp:l.any (fun y=>decide (x=y))with
 |true=>obtain⟨j,rfl⟩:=h2 hp;simp
 |false=>rw[h3 hp];simp
theorem aP(h:L.Nodup){k:Nat}(hk:k<L.length):(L.take k).any (fun y=>decide (L[k]=y))=false:=by
 rw[List.any_eq_false];intro y hy;obtain⟨i,hi,rfl⟩:=List.mem_iff_getElem.1 hy;rw[List.length_take]at hi;rw[List.getElem_take];simp only[decide_eq_true_eq];intro e;have:=(List.getElem_inj h).1 e;omega
theorem XM{F:Nat}{x:EF}(hn:x.2.2.1.Nodup)(hl:x.2.2.1.length<=1000)(hF:1000<F):∀(m k:Nat),k<=x.2.2.1.length->x.2.2.1.length-k<m->Db F x m (k:Int)=some (.inr ())
 |0,k,_,h=>by omega
 |m+1,k,hk,h=>by
  unfold Db;by_cases hlt:k<x.2.2.1.length
  ·have e1:NE x.2.2.1 (k:Int)=some (x.2.2.1.take k):=by unfold NE;rw[if_pos ⟨by omega,by omega⟩,Int.toNat_natCast]
   rw[if_pos (by simpa using hlt),Bu hlt];simp only[Am,AR];rw[e1];simp only[AR];rw[Yd (by rw[List.length_take];omega) (by rw[List.length_take];omega),show(x.2.2.1[k].1,x.2.2.1[k].2)=x.2.2.1[k]from rfl,aP hn hlt];simp only[AR];rw[if_neg (by simp),Ad (by omega)];exact XM hn hl hF m (k+1) (by omega) (by omega)
  ·rw[if_neg (by simpa using hlt)]
theorem Ta{F:Nat}{b:Int}(hF:0<F):Im F [] b=some true:=by
 obtain⟨F,rfl⟩:∃g,F=g+1:=⟨F-1,by omega⟩
 rfl
theorem Tc{F:Nat}{x:EF}(hF:0<F):Ip F x []=some true:=by
 obtain⟨F,rfl⟩:∃g,F=g+1:=⟨F-1,by omega⟩
 rfl
theorem Te{F:Nat}{b:Int}(hF:0<F):IC F [] b=some true:=by
 obtain⟨F,rfl⟩:∃g,F=g+1:=⟨F-1,by omega⟩
 rfl
theorem Tg{F:Nat}{x:EF}(hF:0<F):IE F x []=some true:=by
 obtain⟨F,rfl⟩:∃g,F=g+1:=⟨F-1,by omega⟩
 rfl
theorem Lf{F:Nat}(hF:1000<F)(h:VSh n m L):Dm F ((n:Int),(m:Int),L,[])=some 0:=by
 have h1:=h.n1;have h2:=h.m1;have h3:=h.len;unfold Dm;rw[Le (by simp;omega) (by simp)];have e1:[(n:Int),(m:Int)].all (JI 1 12)=true:=by simp[JI];omega
 simp only[Am,AR];rw[e1,if_neg (by simp),if_neg (by simp;omega)];rw[Yc (p:=fun _=>false) (fun x hx=>by
  have h4:=h.rg x hx;have a1:JI 0 (AP ((n:Int)-1)) x.1=true:=by rw[Ad (by omega)];simp[JI];omega
  have a2:JI 0 (AP ((m:Int)-1)) x.2=true:=by rw[Ad (by omega)];simp[JI];omega
  unfold Fy;show(EB F 0 (AP ((n:Int)-1)) [x.1]>>=fun x3=>gd (!(!x3)) (EB F 0 (AP ((m:Int)-1)) [x.2]) false>>=fun x4=>some ((!x3)||(!x4)))=some false;rw[Le (by simp;omega) (by simp),Le (by simp;omega) (by simp)];simp[a1,a2,gd]) (by omega) (by omega)]
 have e2:(L.any fun _=>false)=false:=by simp
 have e3:=XM (F:=F) (x:=((n:Int),(m:Int),L,[])) h.nd (by show L.length<=1000;omega) hF F 0 (Nat.zero_le _) (by show L.length-0<F;omega);simp only[AR];rw[e2,if_neg (by simp),show(0:Int)=((0:Nat):Int)from rfl,e3];simp only[AR];rw[Ta (by omega)];simp only[AR,gd,Bool.not_true,Bool.not_false,cond_true];rw[Tc (by omega)];simp
theorem XO{F:Nat}{x:EF}(hr:∀y∈x.2.2.1,0<=y.1/\y.1<x.1/\0<=y.2/\y.2<x.2.1)(hl:x.2.2.1.length<=1000):∀(m k:Nat),k<=x.2.2.1.length->x.2.2.1.length-k<m->C9 F x m (k:Int)=some (.inr ())
 |0,k,_,h=>by omega
 |m+1,k,hk,h=>by
  unfold C9;by_cases hlt:k<x.2.2.1.length
  ·rw[if_pos (by simpa using hlt),Bu hlt]
   simp only[Am,AR];have:=hr _ (List.getElem_mem hlt);rw[if_neg (by simp only[Bool.or_eq_true,decide_eq_true_eq];omega),Ad (by omega)];exact XO hr hl m (k+1) (by omega) (by omega)
  ·rw[if_neg (by simpa using hlt)]
theorem XP{F:Nat}{x:EF}(hn:x.2.2.1.Nodup)(hl:x.2.2.1.length<=1000){i:Nat}(hi:i<x.2.2.1.length):∀(m k:Nat),k<=i->i-k<m->DC F x (i:Int) m (k:Int)=some (.inr ())
 |0,k,_,h=>by omega
 |m+1,k,hk,h=>by
  unfold DC;by_cases hlt:k<i
  ·rw[if_pos (by simpa using hlt),Bu hi,Bu (show k<x.2.2.1.length by omega)]
   simp only[Am,AR];rw[if_neg (by
    rw[decide_eq_true_eq];intro e;have e:x.2.2.1[i]=x.2.2.1[k]:=e;have:=(List.getElem_inj hn).1 e;omega),Ad (by omega)]
   exact XP hn hl hi m (k+1) (by omega) (by omega)
  ·rw[if_neg (by simpa using hlt)]
theorem XQ{F:Nat}{x:EF}(hF:1000<F)(hn:x.2.2.1.Nodup)(hl:x.2.2.1.length<=1000):∀(m k:Nat),k<=x.2.2.1.length->x.2.2.1.length-k<m->DF F x m (k:Int)=some (.inr ())
 |0,k,_,h=>by omega
 |m+1,k,hk,h=>by
  unfold DF;by_cases hlt:k<x.2.2.1.length
  ·rw[if_pos (by simpa using hlt)]
   have e:=XP (F:=F) hn hl hlt F 0 (Nat.zero_le _) (by omega);rw[show((0:Nat):Int)=0 from rfl]at e;rw[e];simp only[Am,AR];rw[Ad (by omega)];exact XQ hF hn hl m (k+1) (by omega) (by omega)
  ·rw[if_neg (by simpa using hlt)]
theorem XR{F:Nat}(hF:1000<F)(h:VSh n m L):FN F ((n:Int),(m:Int),L,[])=some 0:=by
 have h1:=h.n1;have h2:=h.m1;have h3:=h.len;unfold FN;rw[if_neg (by simp only[Bool.or_eq_true,decide_eq_true_eq];omega),if_neg (by simp;omega)];have e3:=XO (F:=F) (x:=((n:Int),(m:Int),L,[])) h.rg (by show L.length<=1000;omega) F 0 (Nat.zero_le _) (by show L.length-0<F;omega);have e4:=XQ (F:=F) (x:=((n:Int),(m:Int),L,[])) hF h.nd (by show L.length<=1000;omega) F 0 (Nat.zero_le _) (by show L.length-0<F;omega);rw[show((0:Nat):Int)=0 from rfl]at e3 e4;rw[e3];simp only[Am,AR];rw[e4];simp only[AR];rw[Te (by omega)];simp only[AR,gd,Bool.not_true,Bool.not_false,cond_true];rw[Tg (by omega)];simp
end
section
variable {n m:Nat}{L:List CG}{al:Int->Bool}
structure Jo(L:List CG)(al:Int->Bool)(M:List Nat):Prop where
 mem:∀k∈M,∃x,L[k]?=some x/\al k=true
 jg:Jg L M
structure GM(L:List CG)(al:Int->Bool)(t:Nat):Prop where
 ex:∃M,Jo L al M/\M.length=t
 le:∀M,Jo L al M->M.length<=t
theorem Jo.nodup{M:List Nat}(h:Jo L al M):M.Nodup:=by
 refine List.Pairwise.imp_of_mem (fun{a b} ha hb hab e=>?_) h.jg;subst e;obtain⟨x,hx,-⟩:=h.mem a ha;exact(hab _ _ hx hx).1 rfl
theorem Jo.le{M:List Nat}(h:Jo L al M):M.length<=((List.range L.length).filter fun k:Nat=>al (k:Int)).length:=
 Pw h.nodup fun k hk=>by
  obtain⟨x,hx,ha⟩:=h.mem k hk;exact List.mem_filter.2 ⟨List.mem_range.2 (List.getElem?_eq_some_iff.1 hx).1,ha⟩
theorem K8{F:Nat}(hF:1000<F)(h:VSh n m L)(al:Int->Bool):∃Q,D5 F L n al=some ((mc Q:Int),Q)/\JN L al n Q/\GM L al (mc Q):=by
 have:=h.n1;obtain⟨Q,e1,e2⟩:=XK (al:=al) h.v hF (n:=n) (by omega);refine⟨Q,e1,e2,⟨Np Q,⟨fun k hk=>aN e2 hk,eG e2⟩,P5⟩,fun M hM=>e2.max h.v (fun k hk=>?_) hM.jg⟩;obtain⟨x,hx,ha⟩:=hM.mem k hk;exact⟨x,hx,ha,(h.rg x (List.mem_of_getElem? hx)).2.1⟩
theorem OB{F:Nat}{Q:CW}(hv:I9 L)(hq:VP L al Q):∀(m k:Nat)(o:List Int),k<=12->12-k<m->o.length<=k->
  Dw F Q m o (k:Int)=some (o++(((List.range' k (12-k)).filter fun r=>decide (pa Q r≠0)).map fun r=>(((pa Q r-1).toNat:Nat):Int)))
 |0,k,_,_,h,_=>by omega
 |m+1,k,o,hk,h,ho=>by
  unfold Dw;by_cases hlt:k<12
  ·rw[if_pos (by simp;omega)]
   unfold SC;rw[ZR hlt];have hr:List.range' k (12-k)=k::List.range' (k+1) (12-(k+1)):=by
    rw[show 12-k=12-(k+1)+1 by omega];rfl
   by_cases h0:pa Q k=0
   ·simp only[Am,AR]
    rw[if_neg (by simp;omega)];simp only[AR];rw[Ad (by omega)];have e:=OB (F:=F) hv hq m (k+1) o (by omega) (by omega) (by omega);rw[show((k:Int)+1)=((k+1:Nat):Int)from rfl,e,hr,List.filter_cons_of_neg (by simp[h0])]
   ·obtain⟨j,ej,x,hx,-,-⟩:=hq k hlt h0
    have hj:=(List.getElem?_eq_some_iff.1 hx).1;have:=hv.1;simp only[Am,AR];rw[if_pos (by simp;omega),Ik (by simp;omega)];simp only[AR];have ew:AP (pa Q k-1)=(((pa Q k-1).toNat:Nat):Int):=by rw[Ad (by omega)];omega
    rw[Ad (n:=(k:Int)+1) (by omega),ew];have e:=OB (F:=F) hv hq m (k+1) (o++[(((pa Q k-1).toNat:Nat):Int)]) (by omega) (by omega) (by simp;omega);rw[show((k:Int)+1)=((k+1:Nat):Int)from rfl,e,hr,List.filter_cons_of_pos (by simp[h0])];simp
  ·have:k=12:=by omega
   subst this;rw[if_neg (by simp)];simp
theorem Ye{F:Nat}(hF:1000<F)(h:VSh n m L):∃Q,JN L (fun _=>true) n Q/\GM L (fun _=>true) (mc Q)/\Ga F ((n:Int),(m:Int),L,[])=some (FP ((Np Q).map fun k:Nat=>(k:Int)),0):=by
 obtain⟨Q,e1,e2,e3⟩:=K8 hF h (fun _=>true);refine⟨Q,e2,e3,?_⟩;unfold Ga;simp only[Lf hF h,Am,AR];rw[if_neg (by simp)];unfold Ho;rw[if_pos h.ok];simp only[e1,Am,AR];have em:mks 8 (([]:List Int).length:Int) (0:Int)=some []:=rfl;rw[em];simp only[AR];have el:=OB (F:=F) h.v e2.vp F 0 [] (by omega) (by omega) (by simp);rw[show IB ([]:List Int) []=[]from rfl,show(0:Int)=((0:Nat):Int)from rfl,el];simp only[AR,List.nil_append];have ef:((List.range' 0 (12-0)).filter fun r=>decide (pa Q r≠0)).map (fun r=>(((pa Q r-1).toNat:Nat):Int))=(Np Q).map fun k:Nat=>(k:Int):=by
  unfold Np;rw[List.map_map,List.range_eq_range']
  rfl
 rw[ef];unfold slices_Sort_int;have:=Vp (P:=Q);rw[if_pos (by rw[List.length_map,P5];omega)]
 rfl
theorem PN{F:Nat}(hF:1000<F)(h:VSh n m L){c:Nat}:∀(g k:Nat)(o:List Int),k<=L.length->L.length-k<g->o.length=k->
  ∃ks,Gu F L n c g (k:Int) o=some (o++ks)/\ks.length=L.length-k/\∀j(hj:k+j<L.length),∃u v,GM L (fun i=>!decide (i=((k+j:Nat):Int))) u/\GM L (Ld L L[k+j]) v/\ks[j]?=some (if u<c then 2 else if 1+v=c then 1 else 0)
 |0,k,_,_,h,_=>by omega
 |g+1,k,o,hk,hg,ho=>by
  have:=h.len;unfold Gu;by_cases hlt:k<L.length
  ·rw[if_pos (by simpa using hlt),Bu hlt]
   obtain⟨Q1,a1,-,a3⟩:=K8 hF h (fun i=>!decide (i=(k:Int)));obtain⟨Q2,b1,-,b3⟩:=K8 hF h (Ld L L[k]);simp only[Am,AR];rw[a1];simp only[AR];rw[b1];simp only[AR];have h12:=Vp (P:=Q2);rw[Ik (by simp;omega),Ad (n:=(k:Int)+1) (by omega),Ad (n:=1+(mc Q2:Int)) (by omega)];simp only[AR];have ev:(if decide ((mc Q1:Int)<(c:Int))=true then(2:Int)else if decide (1+(mc Q2:Int)=(c:Int))=true then 1 else 0)=(if mc Q1<c then 2 else if 1+mc Q2=c then 1 else 0):=by
    by_cases c1:mc Q1<c
    ·rw[if_pos c1,if_pos (by simpa using c1)]
    ·rw[if_neg c1,if_neg (by simpa using c1)]
     by_cases c2:1+mc Q2=c
     ·rw[if_pos c2,if_pos (by simp;omega)]
     ·rw[if_neg c2,if_neg (by simp;omega)]
   rw[ev];obtain⟨ks,f1,f2,f3⟩:=PN hF h (c:=c) g (k+1) (o++[(if mc Q1<c then(2:Int)else if 1+mc Q2=c then 1 else 0)]) (by omega) (by omega) (by simp[ho]);refine⟨_::ks,by rw[show((k:Int)+1)=((k+1:Nat):Int)from rfl,f1,List.append_assoc];rfl,by rw[List.length_cons,f2];omega,fun j hj=>?_⟩;cases j with
   |zero=>exact⟨_,_,a3,b3,rfl⟩
   |succ j=>
    obtain⟨u,v,g1,g2,g3⟩:=f3 j (by omega);refine⟨u,v,?_,?_,by rw[List.getElem?_cons_succ];exact g3⟩
    ·have ej:k+(j+1)=k+1+j:=by omega
     rw[ej];exact g1
    ·have ej:k+(j+1)=k+1+j:=by omega
     simp only[ej];exact g2
  ·rw[if_neg (by simpa using hlt)]
   exact⟨[],by simp,by simp;omega,fun j hj=>by omega⟩
theorem Yg{F:Nat}(hF:1000<F)(h:VSh n m L):∃t ks,GM L (fun _=>true) t/\Fv F ((n:Int),(m:Int),L,[])=some ks/\ks.length=L.length/\
  ∀j(hj:j<L.length),∃u v,GM L (fun i=>!decide (i=(j:Int))) u/\GM L (Ld L L[j]) v/\ks[j]?=some (if u<t then 2 else if 1+v=t then 1 else 0):=by
 have:=h.len;obtain⟨Q,e1,e2,e3⟩:=K8 hF h (fun _=>true);obtain⟨ks,f1,f2,f3⟩:=PN hF h (c:=mc Q) F 0 [] (Nat.zero_le _) (by omega) rfl;refine⟨mc Q,ks,e3,?_,by simpa using f2,fun j hj=>?_⟩
 ·unfold Fv
  rw[if_pos h.ok];simp only[e1,Am,AR];rw[show(0:Int)=((0:Nat):Int)from rfl,f1]
  rfl
 ·obtain⟨u,v,g1,g2,g3⟩:=f3 j (by omega)
  refine⟨u,v,?_,?_,g3⟩
  ·simpa using g1
  ·simp only[Nat.zero_add]at g2;exact g2
end
end
end L5
end Go.Proofs.YtfmelbioccbdoaaGreat
end
section
namespace Go.Proofs.YtfmelbioccbdoaaGreat
open Go Go.Md Go.RowKit
namespace Sg
abbrev To:=(Int×Int)×Int
def hi(l:List To)(p:Nat):Int:=(l[p]?.getD default).1.2
def Bd(l:List To):Prop:=∀x∈l,0<=x.1.2/\x.1.2<=10000
theorem GH{l:List To}{p:Nat}(h:p<l.length):hi l p=l[p].1.2:=by simp[hi,List.getElem?_eq_getElem h]
theorem Bd.hi{l:List To}(h:Bd l){p:Nat}(hp:p<l.length):0<=hi l p/\hi l p<=10000:=by rw[GH hp];exact h _ (List.getElem_mem hp)
theorem GX{α:Type}{l:List α}{k:Nat}{x:α}:CZ l (k:Int) x=l.set k x:=by simp[CZ]
theorem XT{l:List To}{k p:Nat}{x:To}(h:k<l.length):hi (l.set k x) p=if p=k then x.1.2 else hi l p:=by
 unfold hi;by_cases e:p=k
 ·subst e;simp[List.getElem?_set_self h]
 ·rw[List.getElem?_set_ne (fun h=>e h.symm),if_neg e]
def PO(l:List To)(a b:Nat):Prop:=∀p q,a<=p->p<q->q<b->hi l p<=hi l q
def oD(l:List To)(a b j:Nat):Prop:=(∀p q,a<=p->p<q->q<b->p≠j->q≠j->hi l p<=hi l q)/\∀q,j<q->q<b->hi l j<=hi l q
def swp(l:List To)(i j:Nat):List To:=(l.set i (l[j]?.getD default)).set j (l[i]?.getD default)
theorem SK{l:List To}{i j:Nat}(hi:i<l.length)(hj:j<l.length):(swp l i j).Perm l:=by
 have:=List.set_set_perm hi hj;unfold swp;rw[List.getElem?_eq_getElem hi,List.getElem?_eq_getElem hj];exact this
theorem P6{l:List To}{i j:Nat}:(swp l i j).length=l.length:=by simp[swp]
theorem eH{l:List To}{i j p:Nat}(h1:i<l.length)(h2:j<l.length):hi (swp l i j) p=if p=j then hi l i else if p=i then hi l j else hi l p:=by
 unfold swp;rw[XT (by simpa using h2),XT h1]
 rfl
theorem aQ{l:List To}{i j p:Nat}(h1:p≠i)(h2:p≠j):(swp l i j)[p]?=l[p]?:=by
 unfold swp;rw[List.getElem?_set_ne (fun h=>h2 h.symm),List.getElem?_set_ne (fun h=>h1 h.symm)]
theorem XU{l:List To}(hb:Bd l){x y:To}(hx:x∈l)(hy:y∈l):DL ((x.1.1,x.1.2),x.2) ((y.1.1,y.1.2),y.2)=some (x.1.2-y.1.2):=by
 unfold DL;have h1:=hb x hx;have h2:=hb y hy;show some (AP (x.1.2-y.1.2))=_;rw[Ad (by omega)]
theorem Bd.perm{l k:List To}(h:Bd l)(p:k.Perm l):Bd k:=fun x hx=>h x (p.mem_iff.1 hx)
theorem eO{F a b:Nat}:∀(m j:Nat)(y:List To),Bd y->y.length<1000000->j<y.length->a<=j->j<b->b<=y.length->j-a<m->oD y a b j->
  ∃z,Av F (a:Int) m y (j:Int)=some z/\z.Perm y/\PO z a b/\∀p,(p<a\/b<=p)->z[p]?=y[p]?
 |0,j,y,_,_,_,_,_,_,h,_=>by omega
 |m+1,j,y,hb,hl,hj,haj,hjb,hby,hm,hbut=>by
  unfold Av;by_cases h0:a<j
  ·have hj1:j-1<y.length:=by omega
   rw[if_pos (show decide ((a:Int)<(j:Int))=true by simpa using h0),show(AP ((j:Int)-1))=((j-1:Nat):Int) by rw[Ad (by omega)];omega,Bu hj,Bu hj1];simp only[Am,AR];rw[XU hb (List.getElem_mem hj) (List.getElem_mem hj1)];simp only[AR];by_cases hlt:y[j].1.2-y[j-1].1.2<0
   ·rw[if_pos (by simpa using hlt),GX,Bu (show j-1<(y.set j _).length by simpa using hj1)]
    simp only[AR];rw[GX];have e:(y.set j ((y[j-1].1.1,y[j-1].1.2),y[j-1].2)).set (j-1) ((y[j].1.1,y[j].1.2),y[j].2)=swp y j (j-1):=by
     unfold swp;rw[List.getElem?_eq_getElem hj,List.getElem?_eq_getElem hj1];rfl
    rw[e];have hlt':hi y j<=hi y (j-1):=by rw[GH hj,GH hj1];omega
    have hH:∀p,hi (swp y j (j-1)) p=if p=j-1 then hi y j else if p=j then hi y (j-1)else hi y p:=fun p=>eH hj hj1
    obtain⟨z,e1,e2,e3,e4⟩:=eO (F:=F) (a:=a) (b:=b) m (j-1) (swp y j (j-1)) (hb.perm (SK hj hj1)) (by rw[P6];exact hl) (by rw[P6];exact hj1) (by omega) (by omega) (by rw[P6];exact hby) (by omega) (by
     constructor
     ·intro p q h1 h2 h3 h4 h5
      rw[hH,hH,if_neg h4,if_neg h5];by_cases e1:p=j
      ·rw[if_pos e1,if_neg (by omega)];exact hbut.1 _ _ (by omega) (by omega) h3 (by omega) (by omega)
      ·rw[if_neg e1]
       by_cases e2:q=j
       ·rw[if_pos e2];exact hbut.1 _ _ h1 (by omega) (by omega) e1 (by omega)
       ·rw[if_neg e2];exact hbut.1 _ _ h1 h2 h3 e1 e2
     ·intro q h1 h2
      rw[hH,hH,if_pos rfl,if_neg (by omega)];by_cases e2:q=j
      ·rw[if_pos e2];exact hlt'
      ·rw[if_neg e2];exact hbut.2 _ (by omega) h2)
    exact⟨z,e1,e2.trans (SK hj hj1),e3,fun p hp=>by rw[e4 p hp,aQ (by omega) (by omega)]⟩
   ·rw[if_neg (by simpa using hlt)]
    refine⟨y,rfl,.refl _,?_,fun _ _=>rfl⟩;have hle:hi y (j-1)<=hi y j:=by rw[GH hj,GH hj1];omega
    intro p q h1 h2 h3;by_cases e1:p=j
    ·subst e1;exact hbut.2 _ h2 h3
    ·by_cases e2:q=j
     ·subst e2
      by_cases e3:p=q-1
      ·rw[e3];exact hle
      ·exact Int.le_trans (hbut.1 p (q-1) h1 (by omega) (by omega) e1 (by omega)) hle
     ·exact hbut.1 _ _ h1 h2 h3 e1 e2
  ·rw[if_neg (show¬decide ((a:Int)<(j:Int))=true by simpa using h0)]
   simp only[Am,AR];rw[if_neg (by simp)];refine⟨y,rfl,.refl _,?_,fun _ _=>rfl⟩;have:j=a:=by omega
   subst this;intro p q h1 h2 h3;by_cases e1:p=j
   ·subst e1;exact hbut.2 _ h2 h3
   ·exact hbut.1 _ _ h1 h2 h3 e1 (by omega)
theorem eP{F a b:Nat}(hF:1000000<F):∀(m i:Nat)(y:List To),Bd y->y.length<1000000->a<i->b<=y.length->b-i<m->PO y a i->
  ∃z,Aw F (a:Int) (b:Int) m y (i:Int)=some z/\z.Perm y/\PO z a b/\∀p,(p<a\/b<=p)->z[p]?=y[p]?
 |0,i,y,_,_,_,_,h,_=>by omega
 |m+1,i,y,hb,hl,hai,hby,hm,hs=>by
  unfold Aw;by_cases h0:i<b
  ·rw[if_pos (show decide ((i:Int)<(b:Int))=true by simpa using h0)]
   obtain⟨z,e1,e2,e3,e4⟩:=eO (F:=F) (a:=a) (b:=i+1) F i y hb hl (by omega) (by omega) (by omega) (by omega) (by omega)
    ⟨fun p q h1 h2 h3 h4 h5=>hs p q h1 h2 (by omega),fun q h1 h2=>by omega⟩
   rw[e1];simp only[Am,AR];rw[show(AP ((i:Int)+1))=((i+1:Nat):Int) by rw[Ad (by omega)];omega];obtain⟨z2,f1,f2,f3,f4⟩:=eP (a:=a) (b:=b) hF m (i+1) z (hb.perm e2) (by rw[e2.length_eq];exact hl) (by omega) (by rw[e2.length_eq];exact hby) (by omega) e3;exact⟨z2,f1,f2.trans e2,f3,fun p hp=>by rw[f4 p hp,e4 p (by omega)]⟩
  ·rw[if_neg (show¬decide ((i:Int)<(b:Int))=true by simpa using h0)]
   exact⟨y,rfl,.refl _,fun p q h1 h2 h3=>hs p q h1 h2 (by omega),fun _ _=>rfl⟩
theorem Mj{F a b:Nat}(hF:1000000<F){y:List To}(hb:Bd y)(hl:y.length<1000000)(hby:b<=y.length)(ha:a<1000000):
  ∃z,AZ F y (a:Int) (b:Int)=some z/\z.Perm y/\PO z a b/\∀p,(p<a\/b<=p)->z[p]?=y[p]?:=by
 unfold AZ;rw[show(AP ((a:Int)+1))=((a+1:Nat):Int) by rw[Ad (by omega)];omega];obtain⟨z,e1,e2⟩:=eP (a:=a) (b:=b) hF F (a+1) y hb hl (by omega) hby (by omega) (fun p q h1 h2 h3=>by omega);rw[e1];exact⟨z,rfl,e2⟩
theorem aR{F:Nat}(hF:1000000<F){y:List To}(hb:Bd y)(hl:y.length<=20):∃z,BS F y=some z/\z.Perm y/\PO z 0 y.length:=by
 obtain⟨G,rfl⟩:∃G,F=G+2:=⟨F-2,by omega⟩;unfold BS CJ;unfold Ap A8;have hno:¬decide ((20:Int)<(y.length:Int))=true:=by simp;omega
 by_cases h20:y.length=20
 ·rw[if_pos (by simp;omega)]
  obtain⟨z,e1,e2,e3,-⟩:=Mj (F:=G+2) (a:=0) (b:=20) hF hb (by omega) (by omega) (by omega);rw[show AZ (G+2) y 0 20=some z from e1];simp only[Am,AR];unfold Ap;rw[show AP ((20:Int)+20)=40 from rfl,if_neg (by simp;omega)];simp only[AR];obtain⟨z2,f1,f2,f3,f4⟩:=Mj (F:=G+2) (a:=20) (b:=y.length) hF (hb.perm e2) (by rw[e2.length_eq];omega) (by rw[e2.length_eq];omega) (by omega);rw[show AZ (G+2) z 20 (y.length:Int)=some z2 from f1];simp only[AR];rw[if_neg hno];refine⟨z2,rfl,f2.trans e2,fun p q h1 h2 h3=>?_⟩;have hh:∀r,r<y.length->hi z2 r=hi z r:=fun r hr=>by unfold hi;rw[f4 r (by omega)]
  rw[hh p (by omega),hh q h3];exact e3 p q h1 h2 (by omega)
 ·rw[if_neg (by simp;omega)]
  simp only[Am,AR];obtain⟨z,e1,e2,e3,-⟩:=Mj (F:=G+2) (a:=0) (b:=y.length) hF hb (by omega) (Nat.le_refl _) (by omega);rw[show AZ (G+2) y 0 (y.length:Int)=some z from e1];simp only[AR];rw[if_neg hno];exact⟨z,rfl,e2,e3⟩
theorem Vq{k:Nat}(h:k<4000000000):AP (k:Int)=(k:Int):=Ad (by omega)
def Sd(X:List To):Prop:=X.Pairwise fun x y=>x.1.2<=y.1.2
theorem Vr{i j:Nat}(h:i+j<1000000):shr .u64 (IntKind.u64.wrap (AP ((i:Int)+(j:Int)))) 1=some (((i+j)/2:Nat):Int):=by
 have e1:AP ((i:Int)+(j:Int))=((i+j:Nat):Int):=by rw[Ad (by omega)];rfl
 have e2:IntKind.u64.wrap ((i+j:Nat):Int)=((i+j:Nat):Int):=by
  unfold IntKind.wrap;simp only[IntKind.bits,IntKind.signed];simp;omega
 rw[e1,e2];unfold shr;rw[if_neg (by decide)];have:(min (1:Int).toNat IntKind.u64.bits)=1:=rfl;rw[this]
 congr 1
 rw[Int.fdiv_eq_ediv_of_nonneg _ (by decide)];omega
theorem P7{U V W:List To}{x z:To}:(U++x::(V++z::W))[U.length]?=some x/\(U++x::(V++z::W))[U.length+1+V.length]?=some z:=by
 constructor
 ·simp
 ·rw[List.getElem?_append_right (by omega),show U.length+1+V.length-U.length=V.length+1 by omega,List.getElem?_cons_succ,List.getElem?_append_right (by omega)]
  simp
theorem P8{U V W:List To}{x z:To}:((U++x::(V++z::W)).set U.length z).set (U.length+1+V.length) x=U++z::(V++x::W):=by
 rw[List.set_append_right _ _ (by omega),Nat.sub_self,List.set_cons_zero,List.set_append_right _ _ (by omega),show U.length+1+V.length-U.length=V.length+1 by omega,List.set_cons_succ,List.set_append_right _ _ (by omega),Nat.sub_self,List.set_cons_zero]
theorem Yj{U V W:List To}{x z:To}:((U++x::(V++z::W)).set (U.length+1+V.length) x).set U.length z=U++z::(V++x::W):=by
 rw[List.set_comm _ _ (by omega)];exact P8
theorem PS{l:List To}{k:Nat}{x:To}(h:l[k]?=some x):ix l (k:Int)=some x:=by unfold ix;rw[if_pos (by omega),Int.toNat_natCast,h]
theorem P9{l:List To}{k j:Nat}{x y:To}(h:l[j]?=some y)(hk:k≠j):(l.set k x)[j]?=some y:=by rw[List.getElem?_set_ne hk];exact h
theorem UJ{F:Nat}{A C B:List To}:∀(Xr Zr Xd Zd:List To)(m:Nat),Xr.length=Zr.length->Xd.length=Zd.length->(A++(Zd++(Xr++(C++(Xd++(Zr++B)))))).length<1000000->Xr.length<m->
  Au F (A.length:Int) ((A.length+(Xd.length+Xr.length)+C.length:Nat):Int) ((Xd.length+Xr.length:Nat):Int) m (A++(Zd++(Xr++(C++(Xd++(Zr++B)))))) (Xd.length:Int)=some (A++(Zd++(Zr++(C++(Xd++(Xr++B))))))
 |[],[],Xd,Zd,m,_,_,_,hm=>by
  obtain⟨m,rfl⟩:∃g,m=g+1:=⟨m-1,by omega⟩;unfold Au;rw[if_neg (by simp)]
 |[],z::Zr,_,_,_,h,_,_,_=>by simp at h
 |x::Xr,[],_,_,_,h,_,_,_=>by simp at h
 |x::Xr,z::Zr,Xd,Zd,m,h,hd,hl,hm=>by
  obtain⟨m,rfl⟩:∃g,m=g+1:=⟨m-1,by simp at hm;omega⟩;simp only[List.length_append,List.length_cons]at hl h hm;unfold Au;rw[if_pos (by simp;omega)];have eL:A++(Zd++(x::Xr++(C++(Xd++(z::Zr++B)))))=(A++Zd)++x::((Xr++(C++Xd))++z::(Zr++B)):=by simp
  have ea:AP ((A.length:Int)+(Xd.length:Int))=((A++Zd).length:Int):=by rw[Ad (by omega),List.length_append];omega
  have eb:AP (((A.length+(Xd.length+(x::Xr).length)+C.length:Nat):Int)+(Xd.length:Int))=(((A++Zd).length+1+(Xr++(C++Xd)).length:Nat):Int):=by
   simp only[List.length_append,List.length_cons];rw[Ad (by omega)];omega
  obtain⟨g1,g2⟩:=P7 (U:=A++Zd) (V:=Xr++(C++Xd)) (W:=Zr++B) (x:=x) (z:=z);rw[ea,eb,eL,PS g1,PS g2];simp only[Am,AR];have ex:∀y:To,((y.1.1,y.1.2),y.2)=y:=fun _=>rfl;rw[ex,ex,GX,PS (P9 g2 (by omega))];simp only[AR];rw[GX,P8];have e1:AP ((Xd.length:Int)+1)=(((Xd++[x]).length:Nat):Int):=by rw[Ad (by omega)];simp
  have ih:=UJ (F:=F) (A:=A) (C:=C) (B:=B) Xr Zr (Xd++[x]) (Zd++[z]) m (by omega) (by simp[hd]) (by simp only[List.length_append,List.length_cons,List.length_nil];omega) (by omega);rw[e1];have e2:(((Xd++[x]).length+Xr.length:Nat):Int)=((Xd.length+(x::Xr).length:Nat):Int):=by simp only[List.length_append,List.length_cons,List.length_nil];omega
  have e3:((A.length+((Xd++[x]).length+Xr.length)+C.length:Nat):Int)=((A.length+(Xd.length+(x::Xr).length)+C.length:Nat):Int):=by simp only[List.length_append,List.length_cons,List.length_nil];omega
  rw[e2,e3]at ih;have e4:A++(Zd++[z]++(Xr++(C++(Xd++[x]++(Zr++B)))))=(A++Zd)++z::((Xr++(C++Xd))++x::(Zr++B)):=by simp
  rw[e4]at ih;rw[ih];simp
theorem QA{F:Nat}{A X C Z B:List To}(h:X.length=Z.length)(hl:(A++(X++(C++(Z++B)))).length<1000000)(hF:1000000<F):
  A7 F (A++(X++(C++(Z++B)))) (A.length:Int) ((A.length+X.length+C.length:Nat):Int) (X.length:Int)=some (A++(Z++(C++(X++B)))):=by
 unfold A7;have:=UJ (F:=F) (A:=A) (C:=C) (B:=B) X Z [] [] F h rfl (by simpa using hl) (by simp only[List.length_append]at hl;omega);simp only[List.length_nil,Nat.zero_add,List.nil_append]at this;rw[show((0:Nat):Int)=0 from rfl]at this;rw[this]
 rfl
theorem SN{F mid:Nat}(hF:1000000<F):∀(m:Nat)(A X Y B:List To),A.length+X.length=mid->1<=X.length->1<=Y.length->(A++(X++(Y++B))).length<1000000->X.length+Y.length<m->
  ∃A' X' Y' B',BK F (mid:Int) m (A++(X++(Y++B))) (X.length:Int) (Y.length:Int)=some (A'++(X'++(Y'++B')),(X'.length:Int))/\A'.length+X'.length=mid/\X'.length=Y'.length/\(A'++(X'++(Y'++B'))).length<1000000/\A'++(Y'++(X'++B'))=A++(Y++(X++B))
 |0,_,_,_,_,_,_,_,_,h=>by omega
 |m+1,A,X,Y,B,hmid,hX,hY,hl,hm=>by
  have hl':=hl;simp only[List.length_append]at hl';unfold BK;by_cases e:X.length=Y.length
  ·rw[if_neg (by simp[e])]
   exact⟨A,X,Y,B,rfl,hmid,e,hl,rfl⟩
  ·rw[if_pos (by simp;omega)]
   have ew:AP ((mid:Int)-(X.length:Int))=(A.length:Int):=by rw[Ad (by omega)];omega
   rw[ew];by_cases hlt:Y.length<X.length
   ·rw[if_pos (by simpa using hlt)]
    have hsp:X=X.take Y.length++X.drop Y.length:=(List.take_append_drop _ _).symm;generalize hX1:X.take Y.length=X1 at hsp;generalize hX2:X.drop Y.length=X2 at hsp;have l1:X1.length=Y.length:=by rw[<-hX1,List.length_take];omega
    have l2:X2.length=X.length-Y.length:=by rw[<-hX2,List.length_drop]
    have es:=QA (F:=F) (A:=A) (X:=X1) (C:=X2) (Z:=Y) (B:=B) l1 (by simp only[List.length_append];omega) hF;have eL:A++(X++(Y++B))=A++(X1++(X2++(Y++B))):=by rw[hsp];simp
    have em:(mid:Int)=((A.length+X1.length+X2.length:Nat):Int):=by omega
    rw[eL];rw[show A7 F (A++(X1++(X2++(Y++B)))) (A.length:Int) (mid:Int) (Y.length:Int)=some (A++(Y++(X2++(X1++B)))) by rw[em,<-l1];exact es];simp only[Am,AR];rw[show AP ((X.length:Int)-(Y.length:Int))=(X2.length:Int) by rw[Ad (by omega)];omega];obtain⟨A',X',Y',B',r1,r2,r3,r4,r5⟩:=SN (mid:=mid) hF m (A++Y) X2 X1 B (by rw[List.length_append];omega) (by omega) (by omega) (by simp only[List.length_append];omega) (by omega);refine⟨A',X',Y',B',?_,r2,r3,r4,?_⟩
    ·rw[<-r1,l1]
     simp
    ·rw[r5,hsp];simp
   ·rw[if_neg (by simp;omega)]
    have hsp:Y=Y.take (Y.length-X.length)++Y.drop (Y.length-X.length):=(List.take_append_drop _ _).symm;generalize hY1:Y.take (Y.length-X.length)=Y1 at hsp;generalize hY2:Y.drop (Y.length-X.length)=Y2 at hsp;have l1:Y1.length=Y.length-X.length:=by rw[<-hY1,List.length_take];omega
    have l2:Y2.length=X.length:=by rw[<-hY2,List.length_drop];omega
    have es:=QA (F:=F) (A:=A) (X:=X) (C:=Y1) (Z:=Y2) (B:=B) l2.symm (by simp only[List.length_append];omega) hF;have eL:A++(X++(Y++B))=A++(X++(Y1++(Y2++B))):=by rw[hsp];simp
    have em:AP (AP ((mid:Int)+(Y.length:Int))-(X.length:Int))=((A.length+X.length+Y1.length:Nat):Int):=by rw[Ad (n:=(mid:Int)+Y.length) (by omega),Ad (by omega)];omega
    rw[eL,em,es];simp only[Am,AR];rw[show AP ((Y.length:Int)-(X.length:Int))=(Y1.length:Int) by rw[Ad (by omega)];omega];obtain⟨A',X',Y',B',r1,r2,r3,r4,r5⟩:=SN (mid:=mid) hF m A Y2 Y1 (X++B) (by omega) (by omega) (by omega) (by simp only[List.length_append];omega) (by omega);refine⟨A',X',Y',B',?_,r2,r3,r4,?_⟩
    ·rw[<-r1,l2]
    ·rw[r5,hsp];simp
theorem eT{F:Nat}(hF:1000000<F){A X Y B:List To}(hX:1<=X.length)(hY:1<=Y.length)(hl:(A++(X++(Y++B))).length<1000000):
  Bl F (A++(X++(Y++B))) (A.length:Int) ((A.length+X.length:Nat):Int) ((A.length+X.length+Y.length:Nat):Int)=some (A++(Y++(X++B))):=by
 have hl':=hl;simp only[List.length_append]at hl';obtain⟨A',X',Y',B',r1,r2,r3,r4,r5⟩:=SN hF F A X Y B rfl hX hY hl (by omega);unfold Bl;have e1:AP (((A.length+X.length:Nat):Int)-(A.length:Int))=(X.length:Int):=by rw[Ad (by omega)];omega
 have e2:AP (((A.length+X.length+Y.length:Nat):Int)-((A.length+X.length:Nat):Int))=(Y.length:Int):=by rw[Ad (by omega)];omega
 rw[e1,e2,r1];simp only[Am,AR];have r4':=r4;simp only[List.length_append]at r4';have es:=QA (F:=F) (A:=A') (X:=X') (C:=[]) (Z:=Y') (B:=B') r3 (by simpa using r4) hF;simp only[List.nil_append,List.length_nil,Nat.add_zero]at es;have e3:AP (((A.length+X.length:Nat):Int)-(X'.length:Int))=(A'.length:Int):=by rw[Ad (by omega)];omega
 rw[e3,<-r2,es];simp only[AR];rw[r5]
def JJ(f:Nat->Bool):Nat->Nat->Nat->Nat
 |0,lo,_=>lo
 |m+1,lo,hi=>if lo<hi then(if f ((lo+hi)/2)=true then JJ f m ((lo+hi)/2+1) hi else JJ f m lo ((lo+hi)/2))else lo
theorem KM{f:Nat->Bool}{H Lo:Nat}(hf:∀p q,Lo<=p->p<=q->q<H->f q=true->f p=true):∀(m lo hi:Nat),Lo<=lo->lo<=hi->hi<=H->hi-lo<m->lo<=JJ f m lo hi/\JJ f m lo hi<=hi/\(∀p,lo<=p->p<JJ f m lo hi->f p=true)/\∀p,JJ f m lo hi<=p->p<hi->f p=false
 |0,_,_,_,_,_,h=>by omega
 |m+1,lo,hi,hL,hlh,hH,hm=>by
  unfold JJ;by_cases h:lo<hi
  ·rw[if_pos h]
   by_cases hc:f ((lo+hi)/2)=true
   ·rw[if_pos hc]
    obtain⟨a,b,c,d⟩:=KM hf m ((lo+hi)/2+1) hi (by omega) (by omega) hH (by omega);refine⟨by omega,b,fun p h1 h2=>?_,d⟩;by_cases h3:(lo+hi)/2+1<=p
    ·exact c p h3 h2
    ·exact hf p _ (by omega) (by omega) (by omega) hc
   ·rw[if_neg hc]
    obtain⟨a,b,c,d⟩:=KM hf m lo ((lo+hi)/2) hL (by omega) (by omega) (by omega);refine⟨a,by omega,c,fun p h1 h2=>?_⟩;by_cases h3:p<(lo+hi)/2
    ·exact d p h1 h3
    ·rcases hp:f p with _|_
     ·rfl
     ·exact absurd (hf _ p (by omega) (by omega) (by omega) hp) hc
  ·rw[if_neg h]
   exact⟨Nat.le_refl _,hlh,fun p h1 h2=>by omega,fun p h1 h2=>by omega⟩
theorem SQ{y:List To}(hb:Bd y){p q:Nat}(hp:p<y.length)(hq:q<y.length):DL ((y[p].1.1,y[p].1.2),y[p].2) ((y[q].1.1,y[q].1.2),y[q].2)=some (hi y p-hi y q):=by
 rw[XU hb (List.getElem_mem hp) (List.getElem_mem hq),GH hp,GH hq]
theorem Yk{F a:Nat}{y:List To}(hb:Bd y)(hl:y.length<400000)(ha:a<y.length):∀(m lo hi_:Nat),hi_<=y.length->hi_-lo<m->
  BD F y (a:Int) m (lo:Int) (hi_:Int)=some ((JJ (fun p=>decide (hi y p<hi y a)) m lo hi_:Nat):Int)
 |0,_,_,_,h=>by omega
 |m+1,lo,hi_,hh,hm=>by
  unfold BD JJ;by_cases h:lo<hi_
  ·rw[if_pos (by simpa using h),if_pos h,Vr (by omega)]
   simp only[Am,AR];rw[Vq (by omega),Bu (show(lo+hi_)/2<y.length by omega),Bu ha];simp only[AR];rw[SQ hb (by omega) ha];simp only[AR];by_cases hc:hi y ((lo+hi_)/2)<hi y a
   ·rw[if_pos (by simp;omega),if_pos (by simpa using hc)]
    simp only[AR];rw[show AP ((((lo+hi_)/2:Nat):Int)+1)=(((lo+hi_)/2+1:Nat):Int) by rw[Ad (by omega)];rfl];exact Yk hb hl ha m _ _ hh (by omega)
   ·rw[if_neg (by simp;omega),if_neg (by simpa using hc)]
    simp only[AR];exact Yk hb hl ha m _ _ (by omega) (by omega)
  ·rw[if_neg (by simpa using h),if_neg h]
theorem Yl{F a:Nat}{y:List To}(hb:Bd y)(hl:y.length<400000)(ha:a<y.length):∀(m lo hi_:Nat),hi_<=y.length->hi_-lo<m->
  BG F y (a:Int) m (lo:Int) (hi_:Int)=some ((JJ (fun p=>!decide (hi y a<hi y p)) m lo hi_:Nat):Int)
 |0,_,_,_,h=>by omega
 |m+1,lo,hi_,hh,hm=>by
  unfold BG JJ;by_cases h:lo<hi_
  ·rw[if_pos (by simpa using h),if_pos h,Vr (by omega)]
   simp only[Am,AR];rw[Vq (by omega),Bu (show(lo+hi_)/2<y.length by omega),Bu ha];simp only[AR];rw[SQ hb ha (by omega)];simp only[AR];by_cases hc:hi y a<hi y ((lo+hi_)/2)
   ·rw[if_neg (by simp;omega),if_neg (by simpa using hc)]
    simp only[AR];exact Yl hb hl ha m _ _ (by omega) (by omega)
   ·rw[if_pos (by simp;omega),if_pos (by simpa using hc)]
    simp only[AR];rw[show AP ((((lo+hi_)/2:Nat):Int)+1)=(((lo+hi_)/2+1:Nat):Int) by rw[Ad (by omega)];rfl];exact Yl hb hl ha m _ _ hh (by omega)
  ·rw[if_neg (by simpa using h),if_neg h]
theorem Ym{F x2 x22:Nat}{y:List To}(hb:Bd y)(hl:y.length<400000)(hn:x22+x2<=400000):∀(m lo hi_:Nat),hi_<=y.length->(∀c,lo<=c->c<hi_->c+1<=x22+x2/\x22+x2-1-c<y.length)->hi_-lo<m->
  BH F y (x2:Int) (x22:Int) m (lo:Int) (hi_:Int)=some ((JJ (fun p=>!decide (hi y (x22+x2-1-p)<hi y p)) m lo hi_:Nat):Int)
 |0,_,_,_,_,h=>by omega
 |m+1,lo,hi_,hh,hc0,hm=>by
  unfold BH JJ;by_cases h:lo<hi_
  ·obtain⟨c1,c2⟩:=hc0 ((lo+hi_)/2) (by omega) (by omega)
   rw[if_pos (by simpa using h),if_pos h,Vr (by omega)];simp only[Am,AR];have e1:AP (AP (AP (AP (x22:Int)+(x2:Int))-1)-AP (((lo+hi_)/2:Nat):Int))=((x22+x2-1-(lo+hi_)/2:Nat):Int):=by
    rw[Ad (n:=(x22:Int)) (by omega),Ad (n:=(x22:Int)+x2) (by omega),Ad (n:=(x22:Int)+x2-1) (by omega),Ad (n:=(((lo+hi_)/2:Nat):Int)) (by omega),Ad (by omega)];omega
   rw[e1,Vq (by omega),Bu c2,Bu (show(lo+hi_)/2<y.length by omega)];simp only[AR];rw[SQ hb c2 (by omega)];simp only[AR];by_cases hc:hi y (x22+x2-1-(lo+hi_)/2)<hi y ((lo+hi_)/2)
   ·rw[if_neg (by simp;omega),if_neg (by simpa using hc)]
    simp only[AR];exact Ym hb hl hn m _ _ (by omega) (fun c h1 h2=>hc0 c h1 (by omega)) (by omega)
   ·rw[if_pos (by simp;omega),if_pos (by simpa using hc)]
    simp only[AR];rw[show AP ((((lo+hi_)/2:Nat):Int)+1)=(((lo+hi_)/2+1:Nat):Int) by rw[Ad (by omega)];rfl];exact Ym hb hl hn m _ _ hh (fun c h1 h2=>hc0 c (by omega) h2) (by omega)
  ·rw[if_neg (by simpa using h),if_neg h]
theorem ZV{F z1:Nat}{x:To}:∀(Yr D R:List To)(m:Nat),z1=D.length+Yr.length+1->z1<1000000->Yr.length<m->
  Ay F (z1:Int) m (D++x::(Yr++R)) (D.length:Int)=some (D++(Yr++x::R))
 |[],D,R,m,h,hz,hm=>by
  obtain⟨m,rfl⟩:∃g,m=g+1:=⟨m-1,by omega⟩;unfold Ay;simp only[List.length_nil]at h;rw[if_neg (by rw[Ad (by omega)];simp;omega)]
  rfl
 |v::Yr,D,R,m,h,hz,hm=>by
  obtain⟨m,rfl⟩:∃g,m=g+1:=⟨m-1,by omega⟩;simp only[List.length_cons]at h hm;unfold Ay;rw[if_pos (by rw[Ad (by omega)];simp;omega)];obtain⟨g1,g2⟩:=P7 (U:=D) (V:=[]) (W:=Yr++R) (x:=x) (z:=v);simp only[List.nil_append,List.length_nil,Nat.add_zero]at g1 g2;have e1:AP ((D.length:Int)+1)=((D.length+1:Nat):Int):=by rw[Ad (by omega)];rfl
  have eL:D++x::(v::Yr++R)=D++x::v::(Yr++R):=rfl;rw[e1,eL,PS g2,PS g1];simp only[Am,AR];have ex:∀y:To,((y.1.1,y.1.2),y.2)=y:=fun _=>rfl;rw[ex,ex,GX,PS (P9 g2 (by omega))];simp only[AR];have ts:=P8 (U:=D) (V:=[]) (W:=Yr++R) (x:=x) (z:=v);simp only[List.nil_append,List.length_nil,Nat.add_zero]at ts;rw[GX,ts];have ih:=ZV (F:=F) (z1:=z1) (x:=x) Yr (D++[v]) R m (by simp only[List.length_append,List.length_cons,List.length_nil];omega) hz (by omega);have e2:(D++[v]).length=D.length+1:=by simp
  rw[e2]at ih;have e3:D++v::x::(Yr++R)=(D++[v])++x::(Yr++R):=by simp
  rw[e3,ih];simp
theorem ZW{F:Nat}{D:List To}{v:To}:∀(k:Nat)(Xr R:List To)(m:Nat),Xr.length=k->D.length+k<1000000->k<m->
  Az F (D.length:Int) m (D++(Xr++v::R)) ((D.length+k:Nat):Int)=some (D++v::(Xr++R))
 |0,Xr,R,m,h,hz,hm=>by
  obtain⟨m,rfl⟩:∃g,m=g+1:=⟨m-1,by omega⟩;have:Xr=[]:=List.eq_nil_of_length_eq_zero h;subst this;unfold Az;rw[if_neg (by simp)]
  rfl
 |k+1,Xr,R,m,h,hz,hm=>by
  obtain⟨m,rfl⟩:∃g,m=g+1:=⟨m-1,by omega⟩;rcases List.eq_nil_or_concat Xr with rfl|⟨X',u,rfl⟩
  ·simp at h
  have h:X'.length=k:=by simpa using h
  unfold Az;rw[if_pos (by simp;omega)];obtain⟨g1,g2⟩:=P7 (U:=D++X') (V:=[]) (W:=R) (x:=u) (z:=v);have lU:(D++X').length=D.length+k:=by rw[List.length_append,h]
  simp only[List.nil_append,List.length_nil,Nat.add_zero,lU]at g1 g2;have e1:AP (((D.length+(k+1):Nat):Int)-1)=((D.length+k:Nat):Int):=by rw[Ad (by omega)];omega
  have eL:D++(X'.concat u++v::R)=(D++X')++u::v::R:=by simp
  rw[e1,eL,PS g1,show D.length+(k+1)=D.length+k+1 by omega,PS g2];simp only[Am,AR];have ex:∀y:To,((y.1.1,y.1.2),y.2)=y:=fun _=>rfl;rw[ex,ex,GX,PS (P9 g1 (by omega))];simp only[AR];have ts:=Yj (U:=D++X') (V:=[]) (W:=R) (x:=u) (z:=v);simp only[List.nil_append,List.length_nil,Nat.add_zero,lU]at ts;rw[GX,ts];have ih:=ZW (F:=F) (D:=D) (v:=v) k X' (u::R) m h (by omega) (by omega);have e3:(D++X')++v::u::R=D++(X'++v::u::R):=by simp
  rw[e3,ih];simp
theorem ZX{A X R:List To}{p:Nat}(h:p<X.length):hi (A++(X++R)) (A.length+p)=X[p].1.2:=by
 unfold hi;rw[List.getElem?_append_right (by omega),show A.length+p-A.length=p by omega,List.getElem?_append_left h,List.getElem?_eq_getElem h]
 rfl
theorem Sd.get{X:List To}(h:Sd X){p q:Nat}(hpq:p<=q)(hq:q<X.length):X[p].1.2<=X[q].1.2:=by
 rcases Nat.lt_or_eq_of_le hpq with h1|rfl
 ·exact List.pairwise_iff_getElem.1 h p q (by omega) hq h1
 ·exact Int.le_refl _
theorem Mk{X Y:List To}:Sd (X++Y)↔Sd X/\Sd Y/\∀x∈X,∀y∈Y,x.1.2<=y.1.2:=List.pairwise_append
theorem UK{X M:List To}{P:To->Prop}(h:M.Perm X)(hx:∀x∈X,P x):∀x∈M,P x:=fun x hm=>hx x (h.mem_iff.1 hm)
theorem SS{F:Nat}(hF:1000000<F):∀(m:Nat)(A X Y B:List To),1<=X.length->1<=Y.length->Sd X->Sd Y->Bd (A++(X++(Y++B)))->(A++(X++(Y++B))).length<100000->X.length+Y.length<m->
  ∃M,Ab F m (A++(X++(Y++B))) (A.length:Int) ((A.length+X.length:Nat):Int) ((A.length+X.length+Y.length:Nat):Int)=some (A++(M++B))/\M.Perm (X++Y)/\Sd M
 |0,_,_,_,_,_,_,_,_,_,_,h=>by omega
 |m+1,A,X,Y,B,hX,hY,sX,sY,hb,hl,hm=>by
  have hl':=hl;simp only[List.length_append]at hl';have hyY:∀{p:Nat}(h:p<Y.length),hi (A++(X++(Y++B))) (A.length+X.length+p)=Y[p].1.2:=fun{p} h=>by
   have:=ZX (A:=A++X) (R:=B) h;rw[List.length_append,List.append_assoc]at this;exact this
  have hyX:∀{p:Nat}(h:p<X.length),hi (A++(X++(Y++B))) (A.length+p)=X[p].1.2:=fun{p} h=>ZX h;unfold Ab;have ed1:AP (((A.length+X.length:Nat):Int)-(A.length:Int))=(X.length:Int):=by rw[Ad (by omega)];omega
  have ed2:AP (((A.length+X.length+Y.length:Nat):Int)-((A.length+X.length:Nat):Int))=(Y.length:Int):=by rw[Ad (by omega)];omega
  rw[ed1,ed2];by_cases h1:X.length=1
  ·obtain⟨x,rfl⟩:∃x,X=[x]:=List.length_eq_one_iff.1 h1;rw[if_pos (by simp)];have hxx:=hyX (p:=0) (by simp);simp only[Nat.add_zero,List.getElem_cons_zero]at hxx;rw[Yk hb (by omega) (by simp only[List.length_append,List.length_cons,List.length_nil];omega) F (A.length+ [x].length) (A.length+ [x].length+Y.length) (by simp only[List.length_append];omega) (by omega)];simp only[Am,AR];obtain⟨b1,b2,b3,b4⟩:=KM (f:=fun p=>decide (hi (A++([x]++(Y++B))) p<hi (A++([x]++(Y++B))) A.length)) (H:=A.length+ [x].length+Y.length) (Lo:=A.length+ [x].length) (fun p q h0 hpq hq hf=>by
    obtain⟨p',rfl⟩:∃p',p=A.length+ [x].length+p':=⟨p-(A.length+ [x].length),by omega⟩;obtain⟨q',rfl⟩:∃q',q=A.length+ [x].length+q':=⟨q-(A.length+ [x].length),by omega⟩;rw[decide_eq_true_eq,hyY (by omega)]at hf⊢;have:=sY.get (p:=p') (q:=q') (by omega) (by omega);omega) F (A.length+ [x].length) (A.length+ [x].length+Y.length) (Nat.le_refl _) (by omega) (Nat.le_refl _) (by omega)
   generalize JJ (fun p=>decide (hi (A++([x]++(Y++B))) p<hi (A++([x]++(Y++B))) A.length)) F (A.length+ [x].length) (A.length+ [x].length+Y.length)=s at b1 b2 b3 b4;obtain⟨k,rfl⟩:∃k,s=A.length+ [x].length+k:=⟨s-(A.length+ [x].length),by omega⟩;have hk:k<=Y.length:=by omega
   have hsp:Y=Y.take k++Y.drop k:=(List.take_append_drop _ _).symm;have lk:(Y.take k).length=k:=by rw[List.length_take];omega
   have hs:=ZV (F:=F) (z1:=A.length+ [x].length+k) (x:=x) (Y.take k) A (Y.drop k++B) F (by rw[lk];simp;omega) (by simp only[List.length_cons,List.length_nil]at*;omega) (by rw[lk];omega);have eL:A++([x]++(Y++B))=A++x::(Y.take k++(Y.drop k++B)):=by
    rw[<-List.append_assoc (Y.take k),List.take_append_drop];rfl
   rw[eL,hs];simp only[AR];refine⟨Y.take k++x::Y.drop k,by simp,?_,?_⟩
   ·have:=List.perm_middle (a:=x) (l₁:=Y.take k) (l₂:=Y.drop k)
    rw[List.take_append_drop]at this;exact this
   ·refine Mk.2 ⟨sY.sublist (List.take_sublist _ _),List.pairwise_cons.2 ⟨fun y hy=>?_,sY.sublist (List.drop_sublist _ _)⟩,fun u hu v hv=>?_⟩
    ·obtain⟨j,hj,rfl⟩:=List.mem_iff_getElem.1 hy
     rw[List.length_drop]at hj;have:=b4 (A.length+ [x].length+(k+j)) (by omega) (by omega);rw[decide_eq_false_iff_not,hyY (by omega),hxx]at this;rw[List.getElem_drop];omega
    ·obtain⟨j,hj,rfl⟩:=List.mem_iff_getElem.1 hu
     rw[lk]at hj;have hux:(Y.take k)[j].1.2<x.1.2:=by
      have:=b3 (A.length+ [x].length+j) (by omega) (by omega);rw[decide_eq_true_eq,hyY (by omega),hxx]at this;rw[List.getElem_take];omega
     rcases List.mem_cons.1 hv with rfl|hv
     ·omega
     ·obtain⟨i,hi',rfl⟩:=List.mem_iff_getElem.1 hv
      rw[List.length_drop]at hi';rw[List.getElem_take,List.getElem_drop];exact sY.get (by omega) (by omega)
  rw[if_neg (by simp only[decide_eq_true_eq];omega)];by_cases h2:Y.length=1
  ·obtain⟨v,rfl⟩:∃x,Y=[x]:=List.length_eq_one_iff.1 h2;rw[if_pos (by simp)];have hvv:=hyY (p:=0) (by simp);simp only[Nat.add_zero,List.getElem_cons_zero]at hvv;rw[Yl hb (by omega) (by simp only[List.length_append,List.length_cons,List.length_nil];omega) F A.length (A.length+X.length) (by simp only[List.length_append];omega) (by omega)];simp only[Am,AR];obtain⟨b1,b2,b3,b4⟩:=KM (f:=fun p=>!decide (hi (A++(X++([v]++B))) (A.length+X.length)<hi (A++(X++([v]++B))) p)) (H:=A.length+X.length) (Lo:=A.length) (fun p q h0 hpq hq hf=>by
    obtain⟨p',rfl⟩:∃p',p=A.length+p':=⟨p-A.length,by omega⟩;obtain⟨q',rfl⟩:∃q',q=A.length+q':=⟨q-A.length,by omega⟩;simp only[Bool.not_eq_true',decide_eq_false_iff_not]at hf⊢;rw[hyX (p:=q') (by omega)]at hf;rw[hyX (p:=p') (by omega)];have:=sX.get (p:=p') (q:=q') (by omega) (by omega);omega) F A.length (A.length+X.length) (Nat.le_refl _) (by omega) (Nat.le_refl _) (by omega)
   generalize JJ (fun p=>!decide (hi (A++(X++([v]++B))) (A.length+X.length)<hi (A++(X++([v]++B))) p)) F A.length (A.length+X.length)=s at b1 b2 b3 b4;obtain⟨k,rfl⟩:∃k,s=A.length+k:=⟨s-A.length,by omega⟩;have hk:k<=X.length:=by omega
   have lk:(X.take k).length=k:=by rw[List.length_take];omega
   have ld:(X.drop k).length=X.length-k:=List.length_drop;have hs:=ZW (F:=F) (D:=A++X.take k) (v:=v) (X.length-k) (X.drop k) B F ld (by rw[List.length_append,lk];omega) (by omega);rw[List.length_append,lk,show A.length+k+(X.length-k)=A.length+X.length by omega]at hs;have eL:A++(X++([v]++B))=(A++X.take k)++(X.drop k++v::B):=by
    rw[List.append_assoc A,<-List.append_assoc (X.take k),List.take_append_drop];rfl
   rw[eL,hs];simp only[AR];refine⟨X.take k++v::X.drop k,by simp,?_,?_⟩
   ·have:=List.perm_middle (a:=v) (l₁:=X.take k) (l₂:=X.drop k)
    rw[List.take_append_drop]at this;exact this.trans (List.perm_append_comm (l₁:=[v]) (l₂:=X))
   ·refine Mk.2 ⟨sX.sublist (List.take_sublist _ _),List.pairwise_cons.2 ⟨fun y hy=>?_,sX.sublist (List.drop_sublist _ _)⟩,fun u hu w hw=>?_⟩
    ·obtain⟨j,hj,rfl⟩:=List.mem_iff_getElem.1 hy
     rw[List.length_drop]at hj;have:=b4 (A.length+(k+j)) (by omega) (by omega);simp only[Bool.not_eq_false',decide_eq_true_eq]at this;rw[hyX (p:=k+j) (by omega),hvv]at this;rw[List.getElem_drop];omega
    ·obtain⟨j,hj,rfl⟩:=List.mem_iff_getElem.1 hu
     rw[lk]at hj;have hux:(X.take k)[j].1.2<=v.1.2:=by
      have:=b3 (A.length+j) (by omega) (by omega);simp only[Bool.not_eq_true',decide_eq_false_iff_not]at this;rw[hyX (p:=j) (by omega),hvv]at this;rw[List.getElem_take];omega
     rcases List.mem_cons.1 hw with rfl|hw
     ·exact hux
     ·obtain⟨i,hi',rfl⟩:=List.mem_iff_getElem.1 hw
      rw[List.length_drop]at hi';rw[List.getElem_take,List.getElem_drop];exact sX.get (by omega) (by omega)
  rw[if_neg (by simp only[decide_eq_true_eq];omega)];obtain⟨a,ha⟩:∃a,a=A.length:=⟨_,rfl⟩;obtain⟨n,hn⟩:∃n,n=X.length:=⟨_,rfl⟩;obtain⟨k,hk⟩:∃k,k=Y.length:=⟨_,rfl⟩;obtain⟨mid,hmid⟩:∃d,d=(A.length+(A.length+X.length+Y.length))/2:=⟨_,rfl⟩;rw[Vr (by omega),<-hmid];simp only[Am,AR];rw[Vq (show mid<4000000000 by omega)];obtain⟨lo,r0,elr,hlo⟩:∃lo r0:Nat,(if decide ((mid:Int)<((A.length+X.length:Nat):Int))=true then some (AP (AP ((mid:Int)+((A.length+X.length:Nat):Int))-((A.length+X.length+Y.length:Nat):Int)),(mid:Int))else some ((A.length:Int),((A.length+X.length:Nat):Int)))=some ((lo:Int),(r0:Int))/\
    ((mid<A.length+X.length/\lo+(A.length+X.length+Y.length)=mid+(A.length+X.length)/\r0=mid)\/(A.length+X.length<=mid/\lo=A.length/\r0=A.length+X.length)):=by
   by_cases c:mid<A.length+X.length
   ·refine⟨mid+(A.length+X.length)-(A.length+X.length+Y.length),mid,?_,.inl ⟨c,by omega,rfl⟩⟩
    rw[if_pos (by simp only[decide_eq_true_eq];omega),Ad (n:=(mid:Int)+((A.length+X.length:Nat):Int)) (by omega),Ad (by omega)]
    congr 2
    omega
   ·exact⟨A.length,A.length+X.length,by rw[if_neg (by simp only[decide_eq_true_eq];omega)],.inr ⟨by omega,rfl,rfl⟩⟩
  rw[elr];simp only[AR];have hrange:A.length<=lo/\lo<=r0/\r0<=A.length+X.length/\r0<=mid/\mid+(A.length+X.length)<=lo+(A.length+X.length+Y.length):=by omega
  rw[Ym hb (by omega) (by omega) F lo r0 (by simp only[List.length_append];omega) (fun c h1 h2=>by simp only[List.length_append];omega) (by omega)];simp only[AR];obtain⟨b1,b2,b3,b4⟩:=KM (f:=fun p=>!decide (hi (A++(X++(Y++B))) (mid+(A.length+X.length)-1-p)<hi (A++(X++(Y++B))) p)) (H:=r0) (Lo:=lo) (fun p q h0 hpq hq hf=>by
   obtain⟨p',rfl⟩:∃p',p=A.length+p':=⟨p-A.length,by omega⟩;obtain⟨q',rfl⟩:∃q',q=A.length+q':=⟨q-A.length,by omega⟩;simp only[Bool.not_eq_true',decide_eq_false_iff_not]at hf⊢;rw[hyX (by omega),show mid+(A.length+X.length)-1-(A.length+q')=A.length+X.length+(mid-1-(A.length+q')) by omega,hyY (by omega)]at hf;rw[hyX (by omega),show mid+(A.length+X.length)-1-(A.length+p')=A.length+X.length+(mid-1-(A.length+p')) by omega,hyY (by omega)];have:=sX.get (p:=p') (q:=q') (by omega) (by omega);have:=sY.get (p:=mid-1-(A.length+q')) (q:=mid-1-(A.length+p')) (by omega) (by omega);omega) F lo r0 (Nat.le_refl _) (by omega) (Nat.le_refl _) (by omega)
  generalize JJ (fun p=>!decide (hi (A++(X++(Y++B))) (mid+(A.length+X.length)-1-p)<hi (A++(X++(Y++B))) p)) F lo r0=s at b1 b2 b3 b4;obtain⟨i,rfl⟩:∃i,s=A.length+i:=⟨s-A.length,by omega⟩;obtain⟨j,hj⟩:∃j,j=mid-(A.length+i):=⟨_,rfl⟩;have hi1:i<=X.length:=by omega
  have hj1:j<=Y.length:=by omega
  have ee:AP (AP ((mid:Int)+((A.length+X.length:Nat):Int))-((A.length+i:Nat):Int))=((A.length+X.length+j:Nat):Int):=by
   rw[Ad (n:=(mid:Int)+((A.length+X.length:Nat):Int)) (by omega),Ad (by omega)];omega
  rw[ee];have eX:X=X.take i++X.drop i:=(List.take_append_drop _ _).symm;have eY:Y=Y.take j++Y.drop j:=(List.take_append_drop _ _).symm;have lX1:(X.take i).length=i:=by rw[List.length_take];omega
  have lX2:(X.drop i).length=X.length-i:=List.length_drop;have lY1:(Y.take j).length=j:=by rw[List.length_take];omega
  have lY2:(Y.drop j).length=Y.length-j:=List.length_drop;have P1:∀u∈X.take i,∀v∈Y.drop j,u.1.2<=v.1.2:=by
   intro u hu v hv;obtain⟨p,hp,rfl⟩:=List.mem_iff_getElem.1 hu;obtain⟨q,hq,rfl⟩:=List.mem_iff_getElem.1 hv;rw[lX1]at hp;rw[lY2]at hq;rw[List.getElem_take,List.getElem_drop];have h3:lo<A.length+i:=by omega
   have:=b3 (A.length+i-1) (by omega) (by omega);simp only[Bool.not_eq_true',decide_eq_false_iff_not]at this;rw[show A.length+i-1=A.length+(i-1) by omega,hyX (by omega),show mid+(A.length+X.length)-1-(A.length+(i-1))=A.length+X.length+j by omega,hyY (by omega)]at this;have:=sX.get (p:=p) (q:=i-1) (by omega) (by omega);have:=sY.get (p:=j) (q:=j+q) (by omega) (by omega);omega
  have P2:∀v∈Y.take j,∀u∈X.drop i,v.1.2<=u.1.2:=by
   intro v hv u hu;obtain⟨p,hp,rfl⟩:=List.mem_iff_getElem.1 hv;obtain⟨q,hq,rfl⟩:=List.mem_iff_getElem.1 hu;rw[lY1]at hp;rw[lX2]at hq;rw[List.getElem_take,List.getElem_drop];have h3:A.length+i<r0:=by omega
   have:=b4 (A.length+i) (by omega) h3;simp only[Bool.not_eq_false',decide_eq_true_eq]at this;rw[hyX (by omega),show mid+(A.length+X.length)-1-(A.length+i)=A.length+X.length+(j-1) by omega,hyY (by omega)]at this;have:=sY.get (p:=p) (q:=j-1) (by omega) (by omega);have:=sX.get (p:=i) (q:=i+q) (by omega) (by omega);omega
  have sX1:Sd (X.take i):=sX.sublist (List.take_sublist _ _);have sX2:Sd (X.drop i):=sX.sublist (List.drop_sublist _ _);have sY1:Sd (Y.take j):=sY.sublist (List.take_sublist _ _);have sY2:Sd (Y.drop j):=sY.sublist (List.drop_sublist _ _);have cX:∀u∈X.take i,∀v∈X.drop i,u.1.2<=v.1.2:=(Mk.1 (eX▸sX)).2.2;have cY:∀u∈Y.take j,∀v∈Y.drop j,u.1.2<=v.1.2:=(Mk.1 (eY▸sY)).2.2;have hper:(X++Y).Perm ((X.take i++Y.take j)++(X.drop i++Y.drop j)):=by
   conv=>lhs;rw[eX,eY]
   rw[List.append_assoc,List.append_assoc];refine List.Perm.append_left _ ?_;exact List.perm_append_comm_assoc _ _ _
  generalize X.take i=X1 at*
  generalize X.drop i=X2 at*
  generalize Y.take j=Y1 at*
  generalize Y.drop j=Y2 at*
  have eW:A++(X++(Y++B))=(A++X1)++(X2++(Y1++(Y2++B))):=by rw[eX,eY];simp
  have eV:(A++X1)++(Y1++(X2++(Y2++B)))=A++(X1++(Y1++((X2++Y2)++B))):=by simp
  have lAX:(A++X1).length=A.length+i:=by rw[List.length_append,lX1]
  have erot:(if(decide (((A.length+i:Nat):Int)<((A.length+X.length:Nat):Int))&&decide (((A.length+X.length:Nat):Int)<((A.length+X.length+j:Nat):Int)))=true then
    (Bl F (A++(X++(Y++B))) ((A.length+i:Nat):Int) ((A.length+X.length:Nat):Int) ((A.length+X.length+j:Nat):Int)).bind fun x27=>some x27
    else some (A++(X++(Y++B))))=some (A++(X1++(Y1++((X2++Y2)++B)))):=by
   by_cases c:i<X.length/\0<j
   ·rw[if_pos (by simp;omega)]
    have hr:=eT (F:=F) hF (A:=A++X1) (X:=X2) (Y:=Y1) (B:=Y2++B) (by omega) (by omega) (by rw[<-eW];omega);rw[lAX,lX2,lY1,show A.length+i+(X.length-i)=A.length+X.length by omega,<-eW]at hr;rw[hr,eV]
    rfl
   ·rw[if_neg (by simp;omega),eW,<-eV]
    have:X2=[]\/Y1=[]:=by
     by_cases c2:i<X.length
     ·exact .inr (List.eq_nil_of_length_eq_zero (by omega))
     ·exact .inl (List.eq_nil_of_length_eq_zero (by omega))
    rcases this with rfl|rfl<;>simp
  rw[erot];simp only[AR];have hbV:Bd (A++(X1++(Y1++((X2++Y2)++B)))):=by
   refine hb.perm ?_;rw[eW,<-eV];refine List.Perm.append_left _ ?_;exact List.perm_append_comm_assoc _ _ _
  have hlV:(A++(X1++(Y1++((X2++Y2)++B)))).length<100000:=by simp only[List.length_append,lX1,lX2,lY1,lY2];omega
  obtain⟨M1,f1,f2,f3⟩:∃M1,(if(decide ((A.length:Int)<((A.length+i:Nat):Int))&&decide (((A.length+i:Nat):Int)<(mid:Int)))=true then
    (Ab F m (A++(X1++(Y1++((X2++Y2)++B)))) (A.length:Int) ((A.length+i:Nat):Int) (mid:Int)).bind fun x28=>some x28
    else some (A++(X1++(Y1++((X2++Y2)++B)))))=some (A++(M1++((X2++Y2)++B)))/\M1.Perm (X1++Y1)/\Sd M1:=by
   by_cases c:0<i/\0<j
   ·rw[if_pos (by simp;omega)]
    obtain⟨M1,g1,g2,g3⟩:=SS hF m A X1 Y1 ((X2++Y2)++B) (by omega) (by omega) sX1 sY1 hbV hlV (by omega);rw[lX1,lY1,show A.length+i+j=mid by omega]at g1;rw[g1];exact⟨M1,rfl,g2,g3⟩
   ·rw[if_neg (by simp;omega)]
    refine⟨X1++Y1,by simp,.refl _,?_⟩;by_cases c2:0<i
    ·have:Y1=[]:=List.eq_nil_of_length_eq_zero (by omega)
     subst this;simpa using sX1
    ·have:X1=[]:=List.eq_nil_of_length_eq_zero (by omega)
     subst this;simpa using sY1
  rw[f1];simp only[AR];have lM1:M1.length=i+j:=by rw[f2.length_eq,List.length_append,lX1,lY1]
  have lAM:(A++M1).length=mid:=by rw[List.length_append,lM1];omega
  have eU:A++(M1++((X2++Y2)++B))=(A++M1)++(X2++(Y2++B)):=by simp
  have hbU:Bd ((A++M1)++(X2++(Y2++B))):=by
   rw[<-eU];refine hbV.perm (List.Perm.append_left _ ?_);rw[<-List.append_assoc X1];exact List.Perm.append_right _ f2
  obtain⟨M2,g1,g2,g3⟩:∃M2,(if(decide ((mid:Int)<((A.length+X.length+j:Nat):Int))&&decide (((A.length+X.length+j:Nat):Int)<((A.length+X.length+Y.length:Nat):Int)))=true then
    (Ab F m (A++(M1++((X2++Y2)++B))) (mid:Int) ((A.length+X.length+j:Nat):Int) ((A.length+X.length+Y.length:Nat):Int)).bind fun x29=>some x29
    else some (A++(M1++((X2++Y2)++B))))=some (A++(M1++(M2++B)))/\M2.Perm (X2++Y2)/\Sd M2:=by
   by_cases c:i<X.length/\j<Y.length
   ·rw[if_pos (by simp;omega)]
    obtain⟨M2,g1,g2,g3⟩:=SS hF m (A++M1) X2 Y2 B (by omega) (by omega) sX2 sY2 hbU (by simp only[List.length_append,lX2,lY2,lM1];omega) (by omega);rw[lAM,lX2,lY2,show mid+(X.length-i)=A.length+X.length+j by omega,show A.length+X.length+j+(Y.length-j)=A.length+X.length+Y.length by omega]at g1;rw[eU,g1];exact⟨M2,by simp,g2,g3⟩
   ·rw[if_neg (by simp;omega)]
    refine⟨X2++Y2,rfl,.refl _,?_⟩;by_cases c2:i<X.length
    ·have:Y2=[]:=List.eq_nil_of_length_eq_zero (by omega)
     subst this;simpa using sX2
    ·have:X2=[]:=List.eq_nil_of_length_eq_zero (by omega)
     subst this;simpa using sY2
  rw[g1];simp only[AR];refine⟨M1++M2,by simp,(f2.append g2).trans hper.symm,Mk.2 ⟨f3,g3,?_⟩⟩;refine UK f2 fun u hu=>?_;refine UK g2 fun v hv=>?_;rcases List.mem_append.1 hu with hu|hu<;>rcases List.mem_append.1 hv with hv|hv
  ·exact cX u hu v hv
  ·exact P1 u hu v hv
  ·exact P2 u hu v hv
  ·exact cY u hu v hv
theorem XV{z:List To}{a b:Nat}(h:PO z a b)(hb:b<=z.length):Sd ((z.take b).drop a):=by
 unfold Sd;rw[List.pairwise_iff_getElem];intro i j hi' hj hij;rw[List.length_drop,List.length_take]at hi' hj;have:=h (a+i) (a+j) (by omega) (by omega) (by omega);rw[GH (by omega),GH (by omega)]at this;simpa using this
theorem eZ{z:List To}(h:Sd z):PO z 0 z.length:=fun p q _ hpq hq=>by
 rw[GH (by omega),GH hq];exact h.get (by omega) hq
theorem eu{F:Nat}(hF:1000000<F){y:List To}(hb:Bd y)(hl:y.length<=24):∃z,BS F y=some z/\z.Perm y/\PO z 0 y.length:=by
 by_cases h20:y.length<=20
 ·exact aR hF hb h20
 obtain⟨G,rfl⟩:∃G,F=G+2:=⟨F-2,by omega⟩;unfold BS CJ;unfold Ap A8;rw[if_pos (by simp;omega)];obtain⟨z,e1,e2,e3,-⟩:=Mj (F:=G+2) (a:=0) (b:=20) hF hb (by omega) (by omega) (by omega);rw[show AZ (G+2) y 0 20=some z from e1];simp only[Am,AR];have lz:=e2.length_eq;unfold Ap;rw[show AP ((20:Int)+20)=40 from rfl,if_neg (by simp;omega)];simp only[AR];obtain⟨z2,f1,f2,f3,f4⟩:=Mj (F:=G+2) (a:=20) (b:=y.length) hF (hb.perm e2) (by omega) (by omega) (by omega);rw[show AZ (G+2) z 20 (y.length:Int)=some z2 from f1];simp only[AR];have lz2:=f2.length_eq;have hs1:PO z2 0 20:=fun p q h1 h2 h3=>by
  have hh:∀r,r<20->hi z2 r=hi z r:=fun r hr=>by unfold hi;rw[f4 r (by omega)]
  rw[hh p (by omega),hh q h3];exact e3 p q h1 h2 (by omega)
 rw[if_pos (by simp;omega)];rw[show AP ((2:Int)*20)=40 from rfl];unfold BZ;rw[if_neg (by simp;omega)];simp only[AR];rw[show AP ((0:Int)+20)=20 from rfl,if_pos (by simp;omega)];have lt:(z2.take 20).length=20:=by rw[List.length_take];omega
 have ld:(z2.drop 20).length=y.length-20:=by rw[List.length_drop];omega
 have sd1:Sd (z2.take 20):=by have:=XV hs1 (by omega);simpa using this
 have sd2:Sd (z2.drop 20):=by
  have:=XV f3 (by omega);rw[List.take_of_length_le (by omega)]at this;exact this
 have ez:([]:List To)++(z2.take 20++(z2.drop 20++[]))=z2:=by rw[List.append_nil,List.take_append_drop];rfl
 obtain⟨M,g1,g2,g3⟩:=SS hF (G+2) [] (z2.take 20) (z2.drop 20) [] (by omega) (by omega) sd1 sd2 (by rw[ez];exact(hb.perm e2).perm f2) (by rw[ez];omega) (by omega);rw[ez,lt,ld]at g1;simp only[List.length_nil,List.nil_append,List.append_nil,Nat.zero_add]at g1;rw[show 20+(y.length-20)=y.length by omega]at g1;unfold Cj;rw[show Ab (G+2) (G+2) z2 0 20 (y.length:Int)=some M from g1];simp only[AR];unfold A8;rw[show AP ((20:Int)*2)=40 from rfl,if_neg (by simp;omega)];rw[List.take_append_drop]at g2;have lM:M.length=y.length:=by rw[g2.length_eq];omega
 refine⟨M,rfl,(g2.trans f2).trans e2,?_⟩;have:=eZ g3;rwa [lM]at this
abbrev SL:Nat:=24
theorem Qa{l:List (Int×Int)}{f:(Int×Int)->Option Bool}(F:Nat):∀m k,Be F l f m k=Ii l f m k
 |0,_=>rfl
 |m+1,k=>by unfold Be Ii;simp only[Qa F m]
theorem XW{l:List (Int×Int)}{f:(Int×Int)->Option Bool}{p:(Int×Int)->Bool}{F:Nat}(hf:∀x∈l,f x=some (p x))(hF:l.length<F)(hl:l.length<4611686018427387904):Cg F l f=some (l.any p):=by
 obtain⟨r,h1,h2,h3⟩:=Ij hf hl F 0 (Nat.zero_le _) (by omega);unfold Cg Dr;rw[Qa];simp only[Int.natCast_zero,List.drop_zero]at h1 h2 h3;rw[h1];cases hp:l.any p with
 |true=>obtain⟨j,rfl⟩:=h2 hp;simp
 |false=>rw[h3 hp];simp
def Gb(x:Int×Int):Bool:=!((decide (x.1<0)||decide (x.2<x.1))||decide (10000<x.2))
theorem Il{x:Int×Int}:Gb x=true↔0<=x.1/\x.1<=x.2/\x.2<=10000:=by
 unfold Gb;simp;omega
theorem within_eq{F:Nat}{l:List (Int×Int)}(hF:l.length<F)(hl:l.length<4611686018427387904):Gp F l=some (l.all Gb):=by
 unfold Gp;rw[XW (p:=fun x=>!Gb x) (fun x _=>by unfold Gx Gb;rw[Bool.not_not]) hF hl];simp only[Am,AR];rw[aO,Bool.not_not]
def FQ(l:List (Int×Int)):Int:=if l.length=0\/24<l.length then 6 else if l.all Gb=true then 0 else 2
theorem KN{l:List (Int×Int)}:FQ l=0↔1<=l.length/\l.length<=24/\∀x∈l,Gb x=true:=by
 unfold FQ;by_cases h:l.length=0\/24<l.length
 ·rw[if_pos h];constructor
  ·intro e;cases e
  ·omega
 ·rw[if_neg h]
  by_cases h2:l.all Gb=true
  ·rw[if_pos h2];rw[List.all_eq_true]at h2;exact⟨fun _=>⟨by omega,by omega,h2⟩,fun _=>rfl⟩
  ·rw[if_neg h2];constructor
   ·intro e;cases e
   ·intro h3;exact absurd (List.all_eq_true.2 h3.2.2) h2
theorem Ml{F:Nat}(hF:100<F)(l:List (Int×Int)):Eg F l=some (FQ l):=by
 unfold Eg FQ;by_cases h:l.length=0\/24<l.length
 ·rw[if_pos h,if_pos (by simp only[Bool.or_eq_true,decide_eq_true_eq];omega)]
 ·rw[if_neg h,if_neg (by simp only[Bool.or_eq_true,decide_eq_true_eq];omega),within_eq (by omega) (by omega)]
  simp only[Am,AR];cases l.all Gb<;>rfl
theorem Ll{F:Nat}{l:List (Int×Int)}(hl:l.length<4611686018427387904):∀(m k:Nat),k<=l.length->l.length-k<m->
  Da F l m (k:Int)=some (if(l.drop k).all Gb=true then .inr ()else .inl 2)
 |0,k,_,h=>by omega
 |m+1,k,hk,h=>by
  unfold Da;by_cases hlt:k<l.length
  ·rw[if_pos (by simpa using hlt),Bu hlt]
   have hd:l.drop k=l[k]::l.drop (k+1):=List.drop_eq_getElem_cons hlt;simp only[Am,AR];have ih:=Ll (F:=F) hl m (k+1) (by omega) (by omega);rw[hd,List.all_cons];have hx:(if(decide (l[k].1<0))=true then if True then some true else some (decide (10000<l[k].2))else if(decide (l[k].2<l[k].1))=true then some true else some (decide (10000<l[k].2)):Option Bool)=some (!Gb l[k]):=by
    unfold Gb;rw[Bool.not_not];by_cases a:l[k].1<0<;>by_cases b:l[k].2<l[k].1<;>simp[a,b]
   rw[hx];simp only[AR];cases Gb l[k]
   ·rfl
   ·rw[if_neg (by simp),Ad (by omega)]
    exact ih
  ·rw[if_neg (by simpa using hlt),List.drop_of_length_le (by omega)]
   rfl
theorem JH{F:Nat}(hF:100<F)(l:List (Int×Int)):DN F l=some (FQ l):=by
 unfold DN FQ;by_cases h:l.length=0\/24<l.length
 ·rw[if_pos h,if_pos (by simp only[Bool.or_eq_true,decide_eq_true_eq];omega)]
 ·rw[if_neg h,if_neg (by simp only[Bool.or_eq_true,decide_eq_true_eq];omega)]
  have:=Ll (F:=F) (l:=l) (by omega) F 0 (by omega) (by omega);rw[show((0:Nat):Int)=0 from rfl,List.drop_zero]at this;rw[this];cases l.all Gb<;>rfl
def tn:Nat->List (Int×Int)->List To
 |_,[]=>[]
 |k,a::l=>(a,(k:Int))::tn (k+1) l
theorem PV:∀(l:List (Int×Int))(k:Nat),(tn k l).length=l.length
 |[],_=>rfl
 |a::l,k=>by simp[tn,PV l]
theorem Mq{x:To}:∀(l:List (Int×Int))(k:Nat),x∈tn k l↔∃i:Nat,l[i]?=some x.1/\x.2=((k+i:Nat):Int)
 |[],k=>by simp[tn]
 |a::l,k=>by
  rw[tn,List.mem_cons,Mq l (k+1)];constructor
  ·rintro(rfl|⟨i,h1,h2⟩)
   ·exact⟨0,rfl,rfl⟩
   ·exact⟨i+1,by simpa using h1,by rw[h2];congr 1;omega⟩
  ·rintro⟨i,h1,h2⟩
   cases i with
   |zero=>
    left;have:a=x.1:=by simpa using h1
    rw[this];exact Prod.ext rfl h2
   |succ i=>right;exact⟨i,by simpa using h1,by rw[h2];congr 1;omega⟩
theorem PW{F:Nat}{l:List (Int×Int)}(hl:l.length<=1000):∀(m k:Nat)(Y:List To),k<=l.length->l.length-k<m->Y.length<=k->
  DZ F l m (k:Int) ⟨Y⟩=some ⟨Y++tn k (l.drop k)⟩
 |0,k,_,_,h,_=>by omega
 |m+1,k,Y,hk,h,hY=>by
  unfold DZ;by_cases hlt:k<l.length
  ·rw[if_pos (by simpa using hlt),Bu hlt]
   have hd:l.drop k=l[k]::l.drop (k+1):=List.drop_eq_getElem_cons hlt;simp only[Am,AR];rw[Ik (by simp only[List.length_cons,List.length_nil];omega)];simp only[AR];rw[show AP ((k:Int)+1)=((k+1:Nat):Int) by rw[Ad (by omega)];rfl,PW hl m (k+1) _ (by omega) (by omega) (by simp only[List.length_append,List.length_cons,List.length_nil];omega),hd,tn,List.append_assoc]
   rfl
  ·rw[if_neg (by simpa using hlt),List.drop_of_length_le (by omega)]
   simp[tn]
theorem jD{l:List (Int×Int)}(h:∀x∈l,Gb x=true):Bd (tn 0 l):=by
 intro x hx;obtain⟨i,h1,-⟩:=(Mq l 0).1 hx;have:=Il.1 (h x.1 (List.mem_of_getElem? h1));omega
abbrev ZY(S:List To):Prop:=S.Pairwise fun x y=>x.1.2<=y.1.2
theorem Vs{F:Nat}(hF:1000000<F){l:List (Int×Int)}(hl:l.length<=SL)(h:∀x∈l,Gb x=true):
  ∃S,FW F l=some ⟨some ⟨S⟩⟩/\S.Perm (tn 0 l)/\ZY S:=by
 unfold FW;have hl':l.length<=24:=hl;have e:=PW (F:=F) (l:=l) (by omega) F 0 [] (by omega) (by omega) (Nat.le_refl _);rw[List.drop_zero,List.nil_append]at e;rw[show DZ F l F 0 ⟨[]⟩=some ⟨tn 0 l⟩from e];simp only[Am,AR];obtain⟨S,h1,h2,h3⟩:=eu hF (jD h) (by rw[PV];omega);rw[h1];refine⟨S,rfl,h2,?_⟩;rw[ZY,List.pairwise_iff_getElem];intro i j hi' hj hij;have:=h3 i j (Nat.zero_le _) hij (by rw[<-h2.length_eq];exact hj);rwa [GH hi',GH hj]at this
def gr:List To->Int->List To
 |[],_=>[]
 |x::us,y=>if x.1.1<=y then gr us y else x::gr us x.1.2
theorem QB{F:Nat}:∀(S:List To)(s t:List Int)(y:Int),(∀x∈S,x.1.1<=x.1.2)->s.length+S.length<=1000->t.length+S.length<=1000->
  ∃z,Bz F (1,0) S s t y=some (s++(gr S y).map (·.1.2),t++(gr S y).map (·.2),z)
 |[],s,t,y,_,_,_=>⟨y,by simp[Bz,gr]⟩
 |x::us,s,t,y,h,h1,h2=>by
  unfold Bz gr;rw[List.length_cons]at h1 h2;by_cases c:x.1.1<=y
  ·rw[if_pos (by simpa using c),if_pos c]
   exact QB us s t y (fun x hx=>h x (List.mem_cons_of_mem _ hx)) (by omega) (by omega)
  ·rw[if_neg (by simpa using c),if_neg c]
   rw[if_neg (show¬((decide (((1:Int),(0:Int)).1<=x.1.2))&&(decide (x.1.2<=((1:Int),(0:Int)).2)))=true by simp;omega)];simp only[Am,AR];rw[Ik (by simp only[List.length_cons,List.length_nil];omega)];simp only[AR];have:=h x List.mem_cons_self;rw[if_neg (show¬decide (x.1.2<x.1.1)=true by simp;omega),Ik (by simp only[List.length_cons,List.length_nil];omega)];simp only[AR];obtain⟨z,e⟩:=QB (F:=F) us (s++[x.1.2]) (t++[x.2]) x.1.2 (fun x hx=>h x (List.mem_cons_of_mem _ hx)) (by simp only[List.length_append,List.length_cons,List.length_nil];omega) (by simp only[List.length_append,List.length_cons,List.length_nil];omega);exact⟨z,by rw[e];simp⟩
theorem UL{F:Nat}{S:List To}(h:∀x∈S,x.1.1<=x.1.2)(hl:S.length<=1000):Ee F ⟨S⟩ (1,0)=some ((gr S (-1)).map (·.1.2),(gr S (-1)).map (·.2)):=by
 unfold Ee;obtain⟨z,e⟩:=QB (F:=F) S [] [] (-1) h (by simpa using hl) (by simpa using hl);show(Bz F (1,0) S [] [] (-1))>>=_=_;rw[e];rfl
theorem Mr:∀(S:List To)(y:Int),(gr S y).Sublist S
 |[],_=>.slnil
 |a::us,y=>by
  unfold gr;split
  ·exact(Mr us y).cons _
  ·exact(Mr us _).cons_cons _
theorem Vt:∀(S:List To)(y:Int),(∀x∈S,x.1.1<=x.1.2)->∀x∈gr S y,y<x.1.1
 |[],_,_,x,h=>by cases h
 |a::us,y,hv,x,h=>by
  unfold gr at h;split at h
  ·exact Vt us y (fun x hx=>hv x (List.mem_cons_of_mem _ hx)) x h
  ·rename_i c
   have:=hv a List.mem_cons_self;rcases List.mem_cons.1 h with rfl|h
   ·omega
   ·have:=Vt us a.1.2 (fun x hx=>hv x (List.mem_cons_of_mem _ hx)) x h;omega
theorem OC:∀(S:List To)(y:Int),(∀x∈S,x.1.1<=x.1.2)->(gr S y).Pairwise fun a b=>a.1.2<b.1.1
 |[],_,_=>.nil
 |a::us,y,hv=>by
  have hv':=fun x hx=>hv x (List.mem_cons_of_mem _ hx);unfold gr;split
  ·exact OC us y hv'
  ·exact .cons (fun x hx=>Vt us _ hv' x hx) (OC us _ hv')
theorem SX:∀(S:List To)(y:Int),(∀x∈S,x.1.1<=x.1.2)->ZY S->(∀x∈S,y<=x.1.2)->∀x∈S,(x.1.1<=y)\/∃g∈gr S y,x.1.1<=g.1.2/\g.1.2<=x.1.2
 |[],_,_,_,_,x,h=>by cases h
 |a::us,y,hv,hs,hy,x,h=>by
  have hv':=fun x hx=>hv x (List.mem_cons_of_mem _ hx);have hs':=List.pairwise_cons.1 hs;unfold gr;split
  ·rename_i c
   rcases List.mem_cons.1 h with rfl|h
   ·exact .inl c
   ·exact SX us y hv' hs'.2 (fun x hx=>hy x (List.mem_cons_of_mem _ hx)) x h
  ·rename_i c
   rcases List.mem_cons.1 h with rfl|h
   ·exact .inr ⟨_,List.mem_cons_self,hv _ List.mem_cons_self,Int.le_refl _⟩
   ·rcases SX us a.1.2 hv' hs'.2 (fun x hx=>hs'.1 x hx) x h with h1|⟨g,h1,h2⟩
    ·exact .inr ⟨_,List.mem_cons_self,h1,hs'.1 x h⟩
    ·exact .inr ⟨g,List.mem_cons_of_mem _ h1,h2⟩
theorem SY:∀(P:List To)(q:List Int),P.Pairwise (fun a b=>a.1.2<b.1.1)->(∀x∈P,∃e∈q,x.1.1<=e/\e<=x.1.2)->P.length<=q.length
 |[],q,_,_=>Nat.zero_le _
 |a::P,q,hp,hq=>by
  have hp':=List.pairwise_cons.1 hp;obtain⟨e,he,h1,h2⟩:=hq a List.mem_cons_self;have ih:=SY P (q.filter fun v=>decide (a.1.2<v)) hp'.2 (fun x hx=>by
   obtain⟨v,hv,h3,h4⟩:=hq x (List.mem_cons_of_mem _ hx);have:=hp'.1 x hx;exact⟨v,List.mem_filter.2 ⟨hv,by simp;omega⟩,h3,h4⟩)
  have hlt:(q.filter fun v=>decide (a.1.2<v)).length<q.length:=by
   rw[<-List.countP_eq_length_filter];have h3:=List.countP_le_length (p:=fun v=>decide (a.1.2<v)) (l:=q);rcases Nat.lt_or_ge (q.countP fun v=>decide (a.1.2<v)) q.length with h|h
   ·exact h
   ·have:=List.countP_eq_length.1 (Nat.le_antisymm h3 h) e he
    simp at this;omega
  rw[List.length_cons];omega
def Qb(v:Int):Bool:=decide (0<=v)&&decide (v<=10000)
def KO(q:List Int):Bool:=decide (q.Pairwise (·<·))
def met(q:List Int)(r:Int×Int):Bool:=q.any fun v=>decide (r.1<=v)&&decide (v<=r.2)
theorem UM{q:List Int}{r:Int×Int}:met q r=true↔∃e∈q,r.1<=e/\e<=r.2:=by
 unfold met;simp
def Lg(l:List (Int×Int))(q:List Int):Int:=
 if FQ l≠0 then FQ l else if 24<q.length then 6 else if q.all Qb=false then 3 else if KO q=false then 16 else 0
def Ms(l:List (Int×Int))(q:List Int):Int:=if Lg l q≠0 then Lg l q else if l.all (met q)=true then 0 else 19
theorem XY{l:List (Int×Int)}{q:List Int}(h:FQ l=0)(hl:q.length<=24)(h1:∀v∈q,0<=v/\v<=10000)(h2:q.Pairwise (·<·))(h3:∀r∈l,∃e∈q,r.1<=e/\e<=r.2):Ms l q=0:=by
 have e1:q.all Qb=true:=List.all_eq_true.2 fun v hv=>by have:=h1 v hv;unfold Qb;simp;omega
 have e2:KO q=true:=decide_eq_true h2;have e:Lg l q=0:=by
  unfold Lg;rw[if_neg (fun e=>e h),if_neg (by omega),if_neg (by rw[e1];simp),if_neg (by rw[e2];simp)]
 unfold Ms;rw[if_neg (fun h=>h e),if_pos (List.all_eq_true.2 fun r hr=>UM.2 (h3 r hr))]
theorem aU{q:List Int}{k:Nat}(hk:1<=k)(hlt:k<q.length):KO (q.drop (k-1))=(decide (q[k-1]<q[k])&&KO (q.drop k)):=by
 have e1:q.drop (k-1)=q[k-1]::q.drop k:=by
  have:=List.drop_eq_getElem_cons (show k-1<q.length by omega);rw[this];congr 2;omega
 have e2:q.drop k=q[k]::q.drop (k+1):=List.drop_eq_getElem_cons hlt;unfold KO;rw[<-Bool.decide_and,e1];apply decide_eq_decide.2;rw[List.pairwise_cons];constructor
 ·rintro⟨h1,h2⟩;exact⟨h1 _ (by rw[e2];exact List.mem_cons_self),h2⟩
 ·rintro⟨h1,h2⟩
  refine⟨fun v hv=>?_,h2⟩;rw[e2]at hv h2;rcases List.mem_cons.1 hv with rfl|hv
  ·exact h1
  ·exact Int.lt_trans h1 ((List.pairwise_cons.1 h2).1 v hv)
theorem Sb{F:Nat}{q:List Int}(hl:q.length<1000000):∀(m k:Nat),1<=k->q.length-k<m->
  F7 F q m (k:Int)=some (if KO (q.drop (k-1))=true then .inr ()else .inl 16)
 |0,k,_,h=>by omega
 |m+1,k,hk,h=>by
  unfold F7;by_cases hlt:k<q.length
  ·rw[if_pos (by simpa using hlt),Bu hlt,show AP ((k:Int)-1)=((k-1:Nat):Int) by rw[Ad (by omega)];omega,Bu (show k-1<q.length by omega)]
   simp only[Am,AR];rw[aU hk hlt];by_cases c:q[k-1]<q[k]
   ·rw[if_neg (by simpa using c),show AP ((k:Int)+1)=((k+1:Nat):Int) by rw[Ad (by omega)];rfl,Sb hl m (k+1) (by omega) (by omega),decide_eq_true c,Bool.true_and]
    rfl
   ·rw[if_pos (by simpa using c),decide_eq_false c,Bool.false_and];rfl
  ·rw[if_neg (by simpa using hlt)]
   have:KO (q.drop (k-1))=true:=by
    unfold KO;apply decide_eq_true;have hl2:(q.drop (k-1)).length<=1:=by rw[List.length_drop];omega
    match q.drop (k-1),hl2 with
    |[],_=>exact .nil
    |[a],_=>simp
   rw[this];rfl
theorem PX{F:Nat}{q:List Int}(hl:q.length<1000000):∀(m k:Nat),k<=q.length->q.length-k<m->
  Dv F q m (k:Int)=some (if(q.drop k).all Qb=true then .inr ()else .inl 3)
 |0,k,_,h=>by omega
 |m+1,k,hk,h=>by
  unfold Dv;by_cases hlt:k<q.length
  ·rw[if_pos (by simpa using hlt),Bu hlt]
   have hd:q.drop k=q[k]::q.drop (k+1):=List.drop_eq_getElem_cons hlt;simp only[Am,AR];rw[hd,List.all_cons];have hx:(if(decide (q[k]<0))=true then some true else some (decide (10000<q[k])):Option Bool)=some (!Qb q[k]):=by
    unfold Qb;by_cases a:q[k]<0
    ·rw[if_pos (by simpa using a)];congr 1;symm;simp;omega
    ·rw[if_neg (by simpa using a)];congr 1;rw[Bool.eq_iff_iff];simp;omega
   rw[hx];simp only[AR];cases Qb q[k]
   ·rfl
   ·rw[if_neg (by simp),show AP ((k:Int)+1)=((k+1:Nat):Int) by rw[Ad (by omega)];rfl,PX hl m (k+1) (by omega) (by omega)]
    rfl
  ·rw[if_neg (by simpa using hlt),List.drop_of_length_le (by omega)]
   rfl
theorem Vu{F:Nat}{q:List Int}(hl:q.length<1000000):∀(m k:Nat),1<=k->q.length-k<m->
  Cq F q m (k:Int)=some (if KO (q.drop (k-1))=true then .inr ()else .inl 16)
 |0,k,_,h=>by omega
 |m+1,k,hk,h=>by
  have e:∀m k,Cq F q m k=F7 F q m k:=by
   intro m
   induction m with
   |zero=>intro k;rfl
   |succ m ih=>intro k;unfold Cq F7;simp only[ih]
  rw[e];exact Sb hl (m+1) k hk h
theorem Vv{F:Nat}(hF:1000000<F){l:List (Int×Int)}{q:List Int}:FX F l q=some (Lg l q):=by
 unfold FX Lg;rw[JH (by omega)];simp only[Am,AR];by_cases c0:FQ l=0
 ·rw[if_neg (by simpa using c0),if_neg (show¬(FQ l≠0)from fun e=>e c0)]
  by_cases c1:24<q.length
  ·rw[if_pos (by simp;omega),if_pos c1]
  ·rw[if_neg (by simp;omega),if_neg c1]
   have h1:=PX (F:=F) (q:=q) (by omega) F 0 (by omega) (by omega);rw[show((0:Nat):Int)=0 from rfl,List.drop_zero]at h1;rw[h1];cases c2:q.all Qb with
   |false=>rfl
   |true=>
    have h2:=Vu (F:=F) (q:=q) (by omega) F 1 (Nat.le_refl _) (by omega);rw[show((1:Nat):Int)=1 from rfl,show 1-1=0 from rfl,List.drop_zero]at h2;show(Cq F q F 1).bind _=some (if KO q=false then 16 else 0);rw[h2];cases KO q<;>rfl
 ·rw[if_pos (by simpa using c0),if_pos c0]
theorem Sc{F:Nat}{r:Int×Int}{q:List Int}(hl:q.length<1000000):∀(m k:Nat),k<=q.length->q.length-k<m->
  ET F r q m (k:Int)=some (if met (q.drop k) r=true then .inl true else .inr ())
 |0,k,_,h=>by omega
 |m+1,k,hk,h=>by
  unfold ET;by_cases hlt:k<q.length
  ·rw[if_pos (by simpa using hlt),Bu hlt]
   have hd:q.drop k=q[k]::q.drop (k+1):=List.drop_eq_getElem_cons hlt;simp only[Am,AR];have hx:(if(decide (r.1<=q[k]))=true then some (decide (q[k]<=r.2))else some false:Option Bool)=some (decide (r.1<=q[k])&&decide (q[k]<=r.2)):=by
    by_cases a:r.1<=q[k]<;>simp[a]
   rw[hx];simp only[AR];have hm:met (q.drop k) r=((decide (r.1<=q[k])&&decide (q[k]<=r.2))||met (q.drop (k+1)) r):=by rw[hd];rfl
   rw[hm];cases(decide (r.1<=q[k])&&decide (q[k]<=r.2))with
   |true=>rfl
   |false=>rw[if_neg (by simp),show AP ((k:Int)+1)=((k+1:Nat):Int) by rw[Ad (by omega)];rfl,Sc hl m (k+1) (by omega) (by omega),Bool.false_or]
  ·rw[if_neg (by simpa using hlt),List.drop_of_length_le (by omega)]
   rfl
theorem Si{F:Nat}{r:Int×Int}{q:List Int}(hl:q.length<1000000)(hF:1000000<F):Gd F r q=some (met q r):=by
 unfold Gd;have h1:=Sc (F:=F) (r:=r) hl F 0 (by omega) (by omega);rw[show((0:Nat):Int)=0 from rfl,List.drop_zero]at h1;rw[h1];cases met q r<;>rfl
theorem Qc{F:Nat}{l:List (Int×Int)}{q:List Int}(hq:q.length<1000000)(hF:1000000<F)(hl:l.length<1000000):∀(m k:Nat),k<=l.length->l.length-k<m->
  Cx F l q m (k:Int)=some (if(l.drop k).all (met q)=true then .inr ()else .inl 19)
 |0,k,_,h=>by omega
 |m+1,k,hk,h=>by
  unfold Cx;by_cases hlt:k<l.length
  ·rw[if_pos (by simpa using hlt),Bu hlt]
   have hd:l.drop k=l[k]::l.drop (k+1):=List.drop_eq_getElem_cons hlt;simp only[Am,AR];rw[Si hq hF,hd,List.all_cons];simp only[AR];rw[show met q (l[k].1,l[k].2)=met q l[k]from rfl];cases met q l[k]with
   |false=>rfl
   |true=>rw[Bool.not_true,if_neg (by simp),show AP ((k:Int)+1)=((k+1:Nat):Int) by rw[Ad (by omega)];rfl,Qc hq hF hl m (k+1) (by omega) (by omega),Bool.true_and]
  ·rw[if_neg (by simpa using hlt),List.drop_of_length_le (by omega)]
   rfl
theorem Yn{l:List (Int×Int)}{q:List Int}(h:Lg l q=0):FQ l=0/\q.length<=24:=by
 unfold Lg at h;by_cases c0:FQ l≠0
 ·rw[if_pos c0]at h;exact absurd h c0
 rw[if_neg c0]at h;by_cases c1:24<q.length
 ·rw[if_pos c1]at h;cases h
 exact⟨Decidable.not_not.1 c0,by omega⟩
theorem XZ{F:Nat}(hF:1000000<F){l:List (Int×Int)}{q:List Int}:FM F l q=some (Ms l q):=by
 unfold FM Ms;rw[Vv hF];simp only[Am,AR];by_cases c:Lg l q=0
 ·rw[if_neg (by simpa using c),if_neg (fun e=>e c)]
  obtain⟨h1,h2⟩:=Yn c;have h3:=KN.1 h1;have h4:=Qc (F:=F) (l:=l) (q:=q) (by omega) hF (by omega) F 0 (by omega) (by omega);rw[show((0:Nat):Int)=0 from rfl,List.drop_zero]at h4;rw[h4];cases l.all (met q)<;>rfl
 ·rw[if_pos (by simpa using c),if_pos c]
theorem Xa{l:List (Int×Int)}(h:∀x∈l,Gb x=true){S:List To}(hp:S.Perm (tn 0 l)):∀x∈S,0<=x.1.1/\x.1.1<=x.1.2/\x.1.2<=10000:=by
 intro x hx;obtain⟨i,h1,-⟩:=(Mq l 0).1 (hp.mem_iff.1 hx);exact Il.1 (h x.1 (List.mem_of_getElem? h1))
theorem Sj(a:Int):∀l:List Int,(LM a l).length=l.length+1
 |[]=>rfl
 |b::l=>by unfold LM;split<;>simp[Sj a l]
theorem Mv:∀l:List Int,(FP l).length=l.length
 |[]=>rfl
 |a::l=>by unfold FP;rw[Sj,Mv l];rfl
structure Short(l:List (Int×Int))(G:List To):Prop where
 mem:∀g∈G,∃i:Nat,l[i]?=some g.1/\g.2=(i:Int)
 apart:G.Pairwise fun a b=>a.1.2<b.1.1
 met:∀r∈l,∃g∈G,r.1<=g.1.2/\g.1.2<=r.2
 len:G.length<=l.length
theorem Short.le{l:List (Int×Int)}{G:List To}(h:Short l G){q:List Int}(hq:∀r∈l,∃e∈q,r.1<=e/\e<=r.2):G.length<=q.length:=
 SY G q h.apart fun x hx=>by
  obtain⟨i,h1,-⟩:=h.mem x hx;exact hq _ (List.mem_of_getElem? h1)
theorem Short.asc{l:List (Int×Int)}{G:List To}(h:Short l G)(hv:∀x∈l,Gb x=true):(G.map (·.1.2)).Pairwise (·<·):=by
 rw[List.pairwise_map];refine h.apart.imp_of_mem fun{a b} ha hb hab=>?_;obtain⟨i,h1,-⟩:=h.mem b hb;have:=Il.1 (hv _ (List.mem_of_getElem? h1));omega
theorem Short.bd{l:List (Int×Int)}{G:List To}(h:Short l G)(hv:∀x∈l,Gb x=true):∀v∈G.map (·.1.2),0<=v/\v<=10000:=by
 intro v hv';obtain⟨g,hg,rfl⟩:=List.mem_map.1 hv';obtain⟨i,h1,-⟩:=h.mem g hg;have:=Il.1 (hv _ (List.mem_of_getElem? h1));omega
theorem Short.scale{l:List (Int×Int)}{G:List To}(h:Short l G)(hs:FQ l=0):Ms l (G.map (·.1.2))=0:=by
 have h3:=KN.1 hs;refine XY hs (by rw[List.length_map];have:=h.len;omega) (h.bd h3.2.2) (h.asc h3.2.2) (fun r hr=>?_);obtain⟨g,hg,h1,h2⟩:=h.met r hr;exact⟨_,List.mem_map.2 ⟨g,hg,rfl⟩,h1,h2⟩
theorem Yo{l:List (Int×Int)}(hv:∀x∈l,Gb x=true){S:List To}(hp:S.Perm (tn 0 l))(ha:ZY S):Short l (gr S (-1)):=by
 have hok:=Xa hv hp;have hle:∀x∈S,x.1.1<=x.1.2:=fun x hx=>(hok x hx).2.1;refine⟨fun g hg=>?_,OC S _ hle,fun r hr=>?_,?_⟩
 ·obtain⟨i,h1,h2⟩:=(Mq l 0).1 (hp.mem_iff.1 ((Mr S _).subset hg))
  exact⟨i,h1,by rw[h2];congr 1;omega⟩
 ·obtain⟨i,hi,h4⟩:=List.mem_iff_getElem.1 hr
  have hx:(r,(i:Int))∈S:=hp.mem_iff.2 ((Mq l 0).2 ⟨i,by rw[List.getElem?_eq_getElem hi,h4],by show(i:Int)=_;congr 1;omega⟩);rcases SX S (-1) hle ha (fun x hx=>by have:=hok x hx;omega) _ hx with h|⟨g,h1,h2⟩
  ·have:=hok _ hx;simp only at this h;omega
  ·exact⟨g,h1,h2⟩
 ·have:=(Mr S (-1)).length_le
  rwa [hp.length_eq,PV]at this
theorem Xb{F:Nat}(hF:1000000<F){l:List (Int×Int)}(hs:FQ l=0)(hl:l.length<=SL):
  ∃G,Short l G/\Gq F l=some (G.map (·.1.2),0)/\∃T,Hf F l=some (T,0)/\T=FP (G.map (·.2)):=by
 have h3:=KN.1 hs;obtain⟨S,e1,hp,ha⟩:=Vs hF hl h3.2.2;have hok:=Xa h3.2.2 hp;have hle:∀x∈S,x.1.1<=x.1.2:=fun x hx=>(hok x hx).2.1;have hSl:S.length<=1000:=by rw[hp.length_eq,PV];omega
 have hsh:=Yo h3.2.2 hp ha;refine⟨gr S (-1),hsh,?_,_,?_,rfl⟩
 ·unfold Gq
  rw[Ml (by omega),hs];simp only[Am,AR];rw[if_neg (by simp),e1];simp only[AR];rw[UL hle hSl]
  rfl
 ·unfold Hf
  rw[Ml (by omega),hs];simp only[Am,AR];rw[if_neg (by simp),e1];simp only[AR];rw[UL hle hSl];simp only[AR];have hn:((gr S (-1)).map (·.2)).length<=1000:=by rw[List.length_map];exact Nat.le_trans (Mr S (-1)).length_le hSl
  generalize(gr S (-1)).map (·.2)=k at hn;have hm:mks 8 (k.length:Int) (0:Int)=some (List.replicate k.length 0):=by
   unfold mks;rw[if_pos ⟨by omega,by rw[Int.toNat_natCast];omega⟩,Int.toNat_natCast]
  rw[hm];simp only[AR];have hc:IB (List.replicate k.length (0:Int)) k=k:=by
   unfold IB;rw[List.length_replicate,List.take_length,List.drop_of_length_le (by simp),List.append_nil]
  rw[hc];unfold slices_Sort_int;rw[if_pos (by omega)]
  rfl
theorem Sk{F:Nat}{l:List (Int×Int)}{T:List Int}(hT:∀v∈T,0<=v/\v<(l.length:Int))(hs:T.Pairwise (·<·))(hl:T.length<1000000):∀(m k:Nat),k<=T.length->T.length-k<m->
  Cy F l T m (k:Int)=some (.inr ())
 |0,k,_,h=>by omega
 |m+1,k,hk,h=>by
  unfold Cy;by_cases hlt:k<T.length
  ·have h1:=hT _ (List.getElem_mem hlt)
   rw[if_pos (by simpa using hlt),Bu hlt];simp only[Am,AR];rw[if_neg (by simp only[decide_eq_true_eq];omega),if_neg (by simp only[decide_eq_true_eq];omega)];have hw:AP ((k:Int)+1)=((k+1:Nat):Int):=by rw[Ad (by omega)];rfl
   have ih:=Sk (F:=F) hT hs hl m (k+1) (by omega) (by omega);by_cases h0:0<k
   ·have ew:AP ((k:Int)-1)=((k-1:Nat):Int):=by rw[Ad (by omega)];omega
    have:=(List.pairwise_iff_getElem.1 hs) (k-1) k (by omega) hlt (by omega);rw[if_pos (by simpa using h0),ew,Bu (show k-1<T.length by omega)];simp only[AR];rw[if_neg (by simp only[decide_eq_true_eq];omega),hw];exact ih
   ·rw[if_neg (by simpa using h0)]
    simp only[AR];rw[if_neg (by simp),hw];exact ih
  ·rw[if_neg (by simpa using hlt)]
def Dj(a b:Int×Int):Prop:=a.2<b.1\/b.2<a.1
theorem Sl{F:Nat}{l:List (Int×Int)}{T:List Int}(hT:∀v∈T,0<=v/\v<(l.length:Int))(hl:T.length<1000000){i:Nat}(hi:i<T.length)
  (hd:∀j:Nat,j<i->∀(a b:Int×Int)(v:Int),T[j]?=some v->l[v.toNat]?=some b->l[T[i].toNat]?=some a->Dj a b):∀(m k:Nat),k<=i->i-k<m->
  Cz F l T (i:Int) m (k:Int)=some (.inr ())
 |0,k,_,h=>by omega
 |m+1,k,hk,h=>by
  unfold Cz;by_cases hlt:k<i
  ·have hkl:k<T.length:=by omega
   have h1:=hT _ (List.getElem_mem hi);have h2:=hT _ (List.getElem_mem hkl);obtain⟨a,ea⟩:∃a,l[T[i].toNat]?=some a:=⟨_,List.getElem?_eq_getElem (show T[i].toNat<l.length by omega)⟩;obtain⟨b,eb⟩:∃b,l[T[k].toNat]?=some b:=⟨_,List.getElem?_eq_getElem (show T[k].toNat<l.length by omega)⟩;have e1:ix l T[i]=some a:=by unfold ix;rw[if_pos h1.1,ea]
   have e2:ix l T[k]=some b:=by unfold ix;rw[if_pos h2.1,eb]
   have:=hd k hlt a b _ (List.getElem?_eq_getElem hkl) eb ea;rw[if_pos (by simpa using hlt),Bu hi];simp only[Am,AR];rw[e1];simp only[AR];rw[Bu hkl];simp only[AR];rw[e2];simp only[AR];unfold Dj at this;rw[if_neg (by rw[decide_eq_true_eq];show¬(if a.1<b.1 then b.1 else a.1)<=(if b.2<a.2 then b.2 else a.2);split<;>split<;>omega),Ad (by omega)];exact Sl hT hl hi hd m (k+1) (by omega) (by omega)
  ·rw[if_neg (by simpa using hlt)]
theorem Sm{F:Nat}{l:List (Int×Int)}{T:List Int}(hF:1000000<F)(hT:∀v∈T,0<=v/\v<(l.length:Int))(hl:T.length<1000000)
  (hd:∀i j:Nat,j<i->∀(a b:Int×Int)(u v:Int),T[i]?=some u->T[j]?=some v->l[v.toNat]?=some b->l[u.toNat]?=some a->Dj a b):∀(m k:Nat),k<=T.length->T.length-k<m->
  C8 F l T m (k:Int)=some (.inr ())
 |0,k,_,h=>by omega
 |m+1,k,hk,h=>by
  unfold C8;by_cases hlt:k<T.length
  ·rw[if_pos (by simpa using hlt)]
   have e:=Sl (F:=F) hT hl hlt (fun j hj a b v h1 h2 h3=>hd k j hj a b _ v (List.getElem?_eq_getElem hlt) h1 h2 h3) F 0 (Nat.zero_le _) (by omega);rw[show((0:Nat):Int)=0 from rfl]at e;rw[e];simp only[Am,AR];rw[Ad (by omega)];exact Sm hF hT hl hd m (k+1) (by omega) (by omega)
  ·rw[if_neg (by simpa using hlt)]
theorem Yp{F:Nat}{l:List (Int×Int)}{T:List Int}(hF:1000000<F)(hs:FQ l=0)(hT:∀v∈T,0<=v/\v<(l.length:Int))(ha:T.Pairwise (·<·))(hl:T.length<1000000)
  (hd:∀i j:Nat,j<i->∀(a b:Int×Int)(u v:Int),T[i]?=some u->T[j]?=some v->l[v.toNat]?=some b->l[u.toNat]?=some a->Dj a b):EU F l T=some 0:=by
 unfold EU;have e1:=Sk (F:=F) hT ha hl F 0 (Nat.zero_le _) (by omega);have e2:=Sm hF hT hl hd F 0 (Nat.zero_le _) (by omega);rw[show((0:Nat):Int)=0 from rfl]at e1 e2;rw[JH (by omega),hs];simp only[Am,AR];rw[if_neg (by simp),e1];simp only[AR];rw[e2]
 rfl
structure Steps(l:List (Int×Int))(G:List To)(T:List Int)(s:Nat->Nat):Prop where
 len:T.length=G.length
 up:T.Pairwise (·<·)
 rg:∀v∈T,0<=v/\v<(l.length:Int)
 st:∀i,i<G.length->s i<G.length/\∃g,G[s i]?=some g/\T[i]?=some g.2/\l[g.2.toNat]?=some g.1
 inj:∀i j,i<G.length->j<G.length->s i=s j->i=j
 sur:∀k,k<G.length->∃i,i<G.length/\s i=k
theorem Short.at{l:List (Int×Int)}{G:List To}(h:Short l G){i j:Nat}(hij:i<j){a b:To}(ha:G[i]?=some a)(hb:G[j]?=some b):a.1.2<b.1.1:=by
 obtain⟨h1,rfl⟩:=List.getElem?_eq_some_iff.1 ha;obtain⟨h2,rfl⟩:=List.getElem?_eq_some_iff.1 hb;exact(List.pairwise_iff_getElem.1 h.apart) i j h1 h2 hij
theorem Short.ix{l:List (Int×Int)}{G:List To}(h:Short l G){g:To}(hg:g∈G):0<=g.2/\g.2<(l.length:Int)/\l[g.2.toNat]?=some g.1:=by
 obtain⟨i,h1,h2⟩:=h.mem g hg;have:=(List.getElem?_eq_some_iff.1 h1).1;rw[h2];exact⟨by omega,by omega,by rw[Int.toNat_natCast];exact h1⟩
theorem Short.same{l:List (Int×Int)}{G:List To}(h:Short l G)(hv:∀x∈l,Gb x=true){i j:Nat}{a b:To}(ha:G[i]?=some a)(hb:G[j]?=some b)(e:a.2=b.2):i=j:=by
 have h1:=h.ix (List.mem_of_getElem? ha);have h2:=h.ix (List.mem_of_getElem? hb);rw[<-e]at h2;have ea:a.1=b.1:=Option.some.inj (h1.2.2.symm.trans h2.2.2);have:=Il.1 (hv _ (List.mem_of_getElem? h1.2.2));rcases Nat.lt_trichotomy i j with hlt|hlt|hlt
 ·have:=h.at hlt ha hb;rw[<-ea]at this;omega
 ·exact hlt
 ·have:=h.at hlt hb ha;rw[<-ea]at this;omega
theorem Short.steps{l:List (Int×Int)}{G:List To}(h:Short l G)(hv:∀x∈l,Gb x=true):∃s,Steps l G (FP (G.map (·.2))) s:=by
 have hp:(FP (G.map (·.2))).Perm (G.map (·.2)):=JO;have hnd:(G.map (·.2)).Nodup:=by
  rw[List.nodup_iff_pairwise_ne,List.pairwise_map,List.pairwise_iff_getElem];intro i j hi hj hij e;have:=h.same hv (List.getElem?_eq_getElem hi) (List.getElem?_eq_getElem hj) e;omega
 have hnT:(FP (G.map (·.2))).Nodup:=hp.nodup_iff.2 hnd;have hlen:(FP (G.map (·.2))).length=G.length:=by rw[Mv,List.length_map]
 generalize hTe:FP (G.map (·.2))=T at*
 have hmem:∀i:Nat,∃k:Nat,i<G.length->∃g,G[k]?=some g/\T[i]?=some g.2:=fun i=>by
  by_cases hi:i<G.length
  ·have hm:T[i]'(by omega)∈G.map (·.2):=hp.mem_iff.1 (List.getElem_mem _)
   obtain⟨g,hg,e⟩:=List.mem_map.1 hm;obtain⟨k,hk,ek⟩:=List.mem_iff_getElem.1 hg;exact⟨k,fun _=>⟨g,by rw[List.getElem?_eq_getElem hk,ek],by rw[List.getElem?_eq_getElem (by omega),e]⟩⟩
  ·exact⟨0,fun h=>absurd h hi⟩
 obtain⟨s,hs⟩:=Classical.axiomOfChoice hmem;refine⟨s,hlen,?_,?_,?_,?_,?_⟩
 ·have h2:T.Pairwise (·<=·):=by rw[<-hTe];exact Jz
  exact(h2.and hnT).imp fun{a b} h=>by have:=h.1;have:=h.2;omega
 ·intro v hvT
  obtain⟨g,hg,rfl⟩:=List.mem_map.1 (hp.mem_iff.1 hvT);have:=h.ix hg;exact⟨this.1,this.2.1⟩
 ·intro i hi
  obtain⟨g,h1,h2⟩:=hs i hi;exact⟨(List.getElem?_eq_some_iff.1 h1).1,g,h1,h2,(h.ix (List.mem_of_getElem? h1)).2.2⟩
 ·intro i j hi hj e
  obtain⟨g,h1,h2⟩:=hs i hi;obtain⟨g',h3,h4⟩:=hs j hj;rw[e,h3]at h1;cases h1;exact(List.getElem?_inj (by omega) hnT).1 (h2.trans h4.symm)
 ·intro k hk
  have hm:(G[k]'hk).2∈T:=hp.mem_iff.2 (List.mem_map.2 ⟨_,List.getElem_mem hk,rfl⟩);obtain⟨i,hi,e⟩:=List.mem_iff_getElem.1 hm;obtain⟨g,h1,h2⟩:=hs i (by omega);refine⟨i,by omega,h.same hv h1 (List.getElem?_eq_getElem hk) ?_⟩;rw[List.getElem?_eq_getElem hi,e]at h2;exact(Option.some.inj h2).symm
theorem Short.apartOk{F:Nat}{l:List (Int×Int)}{G:List To}(hF:1000000<F)(hs:FQ l=0)(h:Short l G){T:List Int}{s:Nat->Nat}(hS:Steps l G T s):EU F l T=some 0:=by
 have h3:=KN.1 hs;have:=h.len;refine Yp hF hs hS.rg hS.up (by rw[hS.len];omega) fun i j hij a b u v h1 h2 h4 h5=>?_;have hi:i<G.length:=by rw[<-hS.len];exact(List.getElem?_eq_some_iff.1 h1).1
 have hj:j<G.length:=by omega
 obtain⟨-,g,e1,e2,e3⟩:=hS.st i hi;obtain⟨-,g',f1,f2,f3⟩:=hS.st j hj;rw[h1]at e2;cases e2;rw[h2]at f2;cases f2;rw[h4]at f3;cases f3;rw[h5]at e3;cases e3;rcases Nat.lt_trichotomy (s i) (s j)with c|c|c
 ·exact .inl (h.at c e1 f1)
 ·have:=hS.inj i j hi hj c;omega
 ·exact .inr (h.at c f1 e1)
theorem Steps.meets{l:List (Int×Int)}{G:List To}(hv:∀x∈l,Gb x=true)(h:Short l G){T:List Int}{s:Nat->Nat}(hS:Steps l G T s){i k:Nat}(hi:i<G.length){g:To}(hg:G[k]?=some g){r:Int×Int}{t:Int}(ht:T[i]?=some t)(hr:l[t.toNat]?=some r):
  met [g.1.2] r=true↔k=s i:=by
 obtain⟨-,g',e1,e2,e3⟩:=hS.st i hi;rw[ht]at e2;cases e2;rw[hr]at e3;cases e3;have o1:=Il.1 (hv _ (List.mem_of_getElem? hr));have o2:=Il.1 (hv _ (List.mem_of_getElem? (h.ix (List.mem_of_getElem? hg)).2.2));rw[UM];simp only[List.mem_singleton,exists_eq_left];constructor
 ·intro hm
  rcases Nat.lt_trichotomy k (s i)with c|c|c
  ·have:=h.at c hg e1;omega
  ·exact c
  ·have:=h.at c e1 hg;omega
 ·intro e
  subst e;rw[e1]at hg;cases hg;omega
end Sg
end Go.Proofs.YtfmelbioccbdoaaGreat
end
section
namespace Go.Proofs.YtfmelbioccbdoaaGreat
namespace BF
abbrev Rl:=Int×Int×Int×Int
def IU:Int:=1125899906842624
structure St where
 f:Int->Int
 b:Int->Option Rl
 r:Int->Nat
def up{α:Type}(g:Int->α)(i:Int)(v:α):Int->α:=fun t=>if t=i then v else g t
theorem Cm{α:Type}{g:Int->α}{i:Int}{v:α}:up g i v i=v:=by simp[up]
theorem DW{α:Type}{g:Int->α}{i t:Int}{v:α}(h:t≠i):up g i v t=g t:=by simp[up,h]
def cnd(f:Int->Int)(p:Rl):Prop:=f p.2.1≠IU/\f p.2.1+p.2.2.2<f p.2.2.1
instance {f:Int->Int}{p:Rl}:Decidable (cnd f p):=by unfold cnd;infer_instance
def rel(K:Nat)(s:St)(p:Rl):St:=if cnd s.f p then⟨up s.f p.2.2.1 (s.f p.2.1+p.2.2.2),up s.b p.2.2.1 (some p),up s.r p.2.2.1 K⟩else s
def pass(R:List Rl)(K:Nat)(s:St):St:=R.foldl (rel K) s
def start:St:=⟨fun _=>0,fun _=>none,fun _=>0⟩
inductive Back(b:Int->Option Rl):Int->Int->Int->Nat->Prop
 |one {v:Int} {p:Rl} (h:b v=some p):Back b v p.2.1 p.2.2.2 1
 |more {v u c:Int} {n:Nat} {p:Rl} (h:b v=some p) (k:Back b p.2.1 u c n):Back b v u (p.2.2.2+c) (n+1)
theorem Back.snoc{b:Int->Option Rl}{v u c:Int}{n:Nat}(h:Back b v u c n){p:Rl}(hp:b u=some p):Back b v p.2.1 (c+p.2.2.2) (n+1):=by
 induction h with
 |one h=>exact .more h (.one hp)
 |more h k ih=>
  have:=ih hp;rw[Int.add_assoc];exact .more h this
theorem Back.start{b:Int->Option Rl}{v u c:Int}{n:Nat}(h:Back b v u c n):∃p,b v=some p:=by cases h<;>exact⟨_,by assumption⟩
structure Inv(N:Int->Prop)(K:Nat)(done left:List Rl)(s:St):Prop where
 i1:∀v,s.b v=none↔s.r v=0
 i2:∀v p,s.b v=some p->p∈done++left/\p.2.2.1=v/\s.f p.2.1+p.2.2.2<=s.f v
 i3:∀v p,s.b v=some p->s.r v<=s.r p.2.1+1
 i4d:∀q∈done,s.r q.2.1+1<=K->s.f q.2.2.1<=s.f q.2.1+q.2.2.2
 i4l:∀q∈left,s.r q.2.1+2<=K->s.f q.2.2.1<=s.f q.2.1+q.2.2.2
 i5:∀v c n,Back s.b v v c n->c<0
 i6:∀v,s.r v<=K
 i7:∀v,s.f v<=0
theorem jW{s:St}{p:Rl}(h:∀v q,s.b v=some q->s.f q.2.1+q.2.2.2<=s.f v)(hne:p.2.1≠p.2.2.1)(hc:cnd s.f p):
  ∀{v u c n},Back (up s.b p.2.2.1 (some p)) v u c n->
   up s.f p.2.2.1 (s.f p.2.1+p.2.2.2) u+c<up s.f p.2.2.1 (s.f p.2.1+p.2.2.2) v\/
   (up s.f p.2.2.1 (s.f p.2.1+p.2.2.2) u+c<=up s.f p.2.2.1 (s.f p.2.1+p.2.2.2) v/\u≠p.2.2.1/\(v≠p.2.2.1->Back s.b v u c n)):=by
 obtain⟨_,hlt⟩:=hc;intro v u c n hb
 induction hb with
 | @one v q hq=>
  by_cases hv:v=p.2.2.1
  ·subst hv
   rw[Cm]at hq;cases hq;refine .inr ⟨?_,hne,fun h=>(h rfl).elim⟩;rw[Cm,DW hne];exact Int.le_refl _
  ·rw[DW hv]at hq
   have h2:=h v q hq;rw[DW hv];by_cases hu:q.2.1=p.2.2.1
   ·left
    rw[hu,Cm];rw[hu]at h2;omega
   ·right
    rw[DW hu];exact⟨h2,hu,fun _=>.one hq⟩
 | @more v u c n q hq k ih=>
  have step:up s.f p.2.2.1 (s.f p.2.1+p.2.2.2) q.2.1+q.2.2.2<up s.f p.2.2.1 (s.f p.2.1+p.2.2.2) v\/
    (up s.f p.2.2.1 (s.f p.2.1+p.2.2.2) q.2.1+q.2.2.2<=up s.f p.2.2.1 (s.f p.2.1+p.2.2.2) v/\q.2.1≠p.2.2.1):=by
   by_cases hv:v=p.2.2.1
   ·subst hv
    rw[Cm]at hq;cases hq;right;rw[Cm,DW hne];exact⟨Int.le_refl _,hne⟩
   ·rw[DW hv]at hq
    have h2:=h v q hq;rw[DW hv];by_cases hu:q.2.1=p.2.2.1
    ·left
     rw[hu,Cm];rw[hu]at h2;omega
    ·right
     rw[DW hu];exact⟨h2,hu⟩
  rcases ih with ih|⟨ih1,ih2,ih3⟩
  ·left
   rcases step with h1|⟨h1,_⟩<;>omega
  ·rcases step with h1|⟨h1,h2⟩
   ·left;omega
   ·right
    refine⟨by omega,ih2,fun hv=>?_⟩;rw[DW hv]at hq;exact .more hq (ih3 h2)
theorem Inv.rel{N:Int->Prop}{K:Nat}{done left:List Rl}{s:St}{p:Rl}(hK:1<=K)(h:Inv N K done (p::left) s)(hne:p.2.1≠p.2.2.1):Inv N K (done++[p]) left (rel K s p):=by
 unfold BF.rel;by_cases hc:cnd s.f p
 ·rw[if_pos hc]
  have hc':=hc;obtain⟨_,hlt⟩:=hc';have hmono:∀v,up s.f p.2.2.1 (s.f p.2.1+p.2.2.2) v<=s.f v:=fun v=>by
   by_cases hv:v=p.2.2.1
   ·subst hv;rw[Cm];omega
   ·rw[DW hv];exact Int.le_refl _
  have hr:K<=s.r p.2.1+1:=by
   rcases Nat.lt_or_ge (s.r p.2.1+1) K with h'|h'
   ·have:=h.i4l p (by simp) (by omega)
    omega
   ·exact h'
  refine⟨?_,?_,?_,?_,?_,?_,?_,?_⟩
  ·intro v
   by_cases hv:v=p.2.2.1
   ·subst hv;simp only[Cm];constructor
    ·intro h;cases h
    ·intro h;omega
   ·simp only[DW hv];exact h.i1 v
  ·intro v q hq
   dsimp only at hq⊢;by_cases hv:v=p.2.2.1
   ·subst hv
    rw[Cm]at hq;cases hq;refine⟨by simp,rfl,?_⟩;simp only[Cm,DW hne];exact Int.le_refl _
   ·rw[DW hv]at hq
    obtain⟨h1,h2,h3⟩:=h.i2 v q hq;refine⟨by simp only[List.mem_append,List.mem_cons,List.not_mem_nil,or_false]at h1⊢;rcases h1 with h1|h1|h1<;>simp[h1],h2,?_⟩;simp only[DW hv];have:=hmono q.2.1;omega
  ·intro v q hq
   dsimp only at hq⊢;by_cases hv:v=p.2.2.1
   ·subst hv
    rw[Cm]at hq;cases hq;simp only[Cm,DW hne];exact hr
   ·rw[DW hv]at hq
    have h3:=h.i3 v q hq;simp only[DW hv];by_cases hu:q.2.1=p.2.2.1
    ·rw[hu,Cm]
     have:=h.i6 v;omega
    ·rw[DW hu];exact h3
  ·intro q hq hrq
   dsimp only at hrq⊢;have hu:q.2.1≠p.2.2.1:=fun e=>by rw[e,Cm]at hrq;omega
   simp only[DW hu]at hrq⊢;have:=hmono q.2.2.1;rcases List.mem_append.1 hq with hq|hq
   ·have:=h.i4d q hq hrq
    omega
   ·simp only[List.mem_singleton]at hq
    subst hq;rw[Cm];exact Int.le_refl _
  ·intro q hq hrq
   dsimp only at hrq⊢;have hu:q.2.1≠p.2.2.1:=fun e=>by rw[e,Cm]at hrq;omega
   simp only[DW hu]at hrq⊢;have:=hmono q.2.2.1;have:=h.i4l q (by simp[hq]) hrq;omega
  ·intro v c n hb
   dsimp only at hb;rcases jW (fun v q hq=>(h.i2 v q hq).2.2) hne hc hb with h1|⟨h1,h2,h3⟩
   ·omega
   ·by_cases hv:v=p.2.2.1
    ·exact(h2 hv).elim
    ·exact h.i5 v c n (h3 hv)
  ·intro v
   by_cases hv:v=p.2.2.1
   ·subst hv;simp only[Cm];exact Nat.le_refl _
   ·simp only[DW hv];exact h.i6 v
  ·intro v
   exact Int.le_trans (hmono v) (h.i7 v)
 ·rw[if_neg hc]
  have hle:s.f p.2.2.1<=s.f p.2.1+p.2.2.2:=by
   have h7:=h.i7 p.2.1;unfold cnd at hc;have:s.f p.2.1≠IU:=by unfold IU;omega
   simp only[not_and,Int.not_lt]at hc;exact hc this
  refine⟨h.i1,fun v q hq=>?_,h.i3,fun q hq hrq=>?_,fun q hq=>h.i4l q (by simp[hq]),h.i5,h.i6,h.i7⟩
  ·obtain⟨h1,h2,h3⟩:=h.i2 v q hq
   exact⟨by simp only[List.mem_append,List.mem_cons,List.not_mem_nil,or_false]at h1⊢;rcases h1 with h1|h1|h1<;>simp[h1],h2,h3⟩
  ·rcases List.mem_append.1 hq with hq|hq
   ·exact h.i4d q hq hrq
   ·simp only[List.mem_singleton]at hq
    subst hq;exact hle
theorem Inv.go{N:Int->Prop}{K:Nat}(hK:1<=K):∀(left done:List Rl)(s:St),(∀p∈left,p.2.1≠p.2.2.1)->Inv N K done left s->Inv N K (done++left) [] (left.foldl (BF.rel K) s)
 |[],done,s,_,h=>by simpa using h
 |p::left,done,s,hne,h=>by
  have h1:=h.rel hK (hne p (by simp));have:=Inv.go hK left (done++[p]) _ (fun q hq=>hne q (by simp[hq])) h1;simpa using this
theorem Inv.pass{N:Int->Prop}{K:Nat}{R:List Rl}{s:St}(hne:∀p∈R,p.2.1≠p.2.2.1)(h:Inv N K R [] s):Inv N (K+1) R [] (pass R (K+1) s):=by
 have h0:Inv N (K+1) [] R s:=⟨h.i1,by simpa using h.i2,h.i3,by simp,fun q hq hr=>h.i4d q hq (by omega),h.i5,fun v=>Nat.le_succ_of_le (h.i6 v),h.i7⟩;have:=Inv.go (by omega) R [] s hne h0;simpa[BF.pass]using this
theorem Inv.zero{N:Int->Prop}{R:List Rl}:Inv N 0 R [] start:=by
 refine⟨fun v=>by simp[start],fun v p h=>by simp[start]at h,fun v p h=>by simp[start]at h,fun q _ h=>by omega,by simp,fun v c n h=>?_,fun v=>by simp[start],fun v=>by simp[start]⟩;obtain⟨p,hp⟩:=h.start;simp[start]at hp
def passes(R:List Rl):Nat->St
 |0=>start
 |K+1=>pass R (K+1) (passes R K)
theorem Inv.passes{N:Int->Prop}{R:List Rl}(hne:∀p∈R,p.2.1≠p.2.2.1):∀K,Inv N K R [] (passes R K)
 |0=>Inv.zero
 |K+1=>(Inv.passes hne K).pass hne
end BF
end Go.Proofs.YtfmelbioccbdoaaGreat
end
section
namespace Go.Proofs.YtfmelbioccbdoaaGreat
open Go Go.Md Go.RowKit
open BF (Rl St Back Inv rel pass passes IU)
def gA(X:Ar 21 Int)(t:Int):Int:=(ix X.l t).getD 0
structure Rep(X:Ar 21 Int)(l:List (Int×Int))(s:St):Prop where
 f:∀t,0<=t->t<=20->gA X t=s.f t
 b:∀t p,s.b t=some p->Cw 0 l t=p.1
def Bd(c:Int)(s:St):Prop:=∀v,-c<=s.f v/\s.f v<=IU
def Zb(T:Int)(r:Int×Int×Int):Prop:=0<=r.1/\r.1<=T/\0<=r.2.1/\r.2.1<=T/\r.1≠r.2.1/\-100000<=r.2.2/\r.2.2<=100000
theorem Bd.rel{c:Int}{s:St}{K:Nat}{p:Rl}(h:Bd c s)(hc:0<=c)(hm:-100000<=p.2.2.2):Bd (c+100000) (rel K s p):=by
 intro v;have h1:=h v;have h2:=h p.2.1;have h3:=h p.2.2.1;unfold BF.rel;by_cases hcn:BF.cnd s.f p
 ·rw[if_pos hcn]
  simp only[BF.up];have:=hcn.2;split<;>omega
 ·rw[if_neg hcn]
  omega
theorem OD{x:Int×List (Int×Int×Int)}(h:JA x=0):∀r∈Gl x,Zb x.1 r:=by
 obtain⟨_,h2,h3,h4⟩:=XL h;intro r hr;rcases List.mem_append.1 hr with hr|hr
 ·have:=h4 r hr
  simp only[SG,JI,Bool.and_eq_true,decide_eq_true_eq,Bool.not_eq_true',decide_eq_false_iff_not]at this;obtain⟨⟨⟨⟨a,b⟩,c,d⟩,e⟩,f,g⟩:=this;exact⟨a,b,c,d,e,f,g⟩
 ·obtain⟨t,ht,hr⟩:=List.mem_flatMap.1 hr
  have ht:=List.mem_range.1 ht;simp only[List.mem_cons,List.not_mem_nil,or_false]at hr;rcases hr with rfl|rfl
  ·unfold Zb;simp only;omega
  ·unfold Zb;simp only;omega
theorem Xc{l:List (Int×Int×Int)}{p:Rl}(h:p∈en l):p.2∈l/\ix l p.1=some p.2/\0<=p.1/\p.1<l.length:=by
 obtain⟨i,hi,e⟩:=List.getElem_of_mem h;rw[bQ]at hi;have h1:(en l)[i]?=some p:=by rw[<-e];exact List.getElem?_eq_getElem _
 rw[WB,List.getElem?_eq_getElem hi]at h1;simp only[Option.map_some,Option.some.injEq]at h1;subst h1;exact⟨List.getElem_mem hi,Bu hi,by simp,by simpa using hi⟩
def Rs(x:Int×List (Int×Int×Int)):List Rl:=en (Gl x)
theorem jF{x:Int×List (Int×Int×Int)}(h:JA x=0):∀p∈Rs x,Zb x.1 p.2:=fun p hp=>OD h _ (Xc hp).1
theorem jG{x:Int×List (Int×Int×Int)}(h:JA x=0):∀p∈Rs x,p.2.1≠p.2.2.1:=fun p hp=>(jF h p hp).2.2.2.2.1

end Go.Proofs.YtfmelbioccbdoaaGreat
end
section
namespace Go.Proofs.YtfmelbioccbdoaaGreat
open Go Go.Md Go.RowKit
section
abbrev RR:=Int×Int×Int
section
variable {F:Nat}{all:List RR}{DR:List Int}
section
variable {x:Int×List RR}
end
end
end
end Go.Proofs.YtfmelbioccbdoaaGreat
end
section
namespace Go.Proofs.YtfmelbioccbdoaaGreat
open Go Go.Md Go.RowKit
open BF (Rl St Back rel pass IU)
inductive PC(R:List RR)(a:Int):Int->Int->Prop
 |nil:PC R a a 0
 |snoc {u c:Int} {r:RR} (h:PC R a u c) (hr:r∈R) (hu:r.1=u):PC R a r.2.1 (c+r.2.2)
theorem PC.trans{R:List RR}{a b t c d:Int}(h:PC R a b c)(k:PC R b t d):PC R a t (c+d):=by
 induction k with
 |nil=>simpa using h
 |snoc _ hr hu ih=>rw[<-Int.add_assoc];exact .snoc ih hr hu
theorem PC.one{R:List RR}{r:RR}(hr:r∈R):PC R r.1 r.2.1 r.2.2:=by
 have:=PC.snoc (PC.nil (R:=R) (a:=r.1)) hr rfl;simpa using this
theorem PC.node{x:Int×List RR}(h:JA x=0){a t c:Int}(a0:0<=a)(a1:a<=x.1)(hp:PC (Gl x) a t c):0<=t/\t<=x.1:=by
 cases hp with
 |nil=>exact⟨a0,a1⟩
 |snoc _ hr _=>exact⟨(OD h _ hr).2.2.1,(OD h _ hr).2.2.2.1⟩
theorem Lh{x:Int×List RR}{t:Int}(t0:1<=t)(t1:t<=x.1):(0,t,100000)∈Gl x/\(t,0,0)∈Gl x:=by
 have h:∀r,r=(0,t,(100000:Int))\/r=(t,0,0)->r∈Gl x:=fun r hr=>by
  refine List.mem_append.2 (.inr (List.mem_flatMap.2 ⟨(t-1).toNat,List.mem_range.2 (by omega),?_⟩));have:(((t-1).toNat:Nat):Int)+1=t:=by omega
  simp only[this,List.mem_cons,List.not_mem_nil,or_false];exact hr
 exact⟨h _ (.inl rfl),h _ (.inr rfl)⟩
theorem PC.any{x:Int×List RR}{a t:Int}(a0:0<=a)(a1:a<=x.1)(t0:0<=t)(t1:t<=x.1):∃c,PC (Gl x) a t c/\c<=100000:=by
 have h1:∃c,PC (Gl x) a 0 c/\c<=0:=by
  by_cases h:a=0
  ·subst h;exact⟨0,.nil,by omega⟩
  ·exact⟨0,PC.one (r:=(a,0,0)) (Lh (by omega) a1).2,by omega⟩
 obtain⟨c,h2,h3⟩:=h1;by_cases h:t=0
 ·subst h;exact⟨c,h2,by omega⟩
 ·exact⟨c+100000,h2.trans (PC.one (r:=(0,t,100000)) (Lh (by omega) t1).1),by omega⟩
structure Jv(x:Int×List RR)(a:Int)(s:St):Prop where
 j1:∀v,s.f v=IU\/PC (Gl x) a v (s.f v)
 j2:∀v q,s.b v=some q->q∈Rs x/\q.2.2.1=v/\s.f q.2.1+q.2.2.2<=s.f v/\s.f q.2.1≠IU
 j3:∀v c n,Back s.b v v c n->c<0
 j4:∀v,v≠a->s.f v≠IU->s.b v≠none
 j5:s.f a<=0
 j6:∀v,s.f v<=IU
theorem Jv.rel{x:Int×List RR}(h:JA x=0){a:Int}{s:St}{K:Nat}{p:Rl}(hp:p∈Rs x)(hj:Jv x a s):Jv x a (BF.rel K s p):=by
 unfold BF.rel;by_cases hc:BF.cnd s.f p
 ·rw[if_pos hc]
  have hne:=jG h p hp;obtain⟨c1,c2⟩:=hc;have hpc:PC (Gl x) a p.2.2.1 (s.f p.2.1+p.2.2.2):=by
   rcases hj.j1 p.2.1 with h1|h1
   ·exact(c1 h1).elim
   ·exact .snoc h1 (Xc hp).1 rfl
  have hmono:∀v,BF.up s.f p.2.2.1 (s.f p.2.1+p.2.2.2) v<=s.f v:=fun v=>by
   by_cases hv:v=p.2.2.1
   ·subst hv;rw[BF.Cm];omega
   ·rw[BF.DW hv];exact Int.le_refl _
  refine⟨fun v=>?_,fun v q hq=>?_,fun v c n hb=>?_,fun v hv hf=>?_,?_,fun v=>?_⟩
  ·dsimp only
   by_cases hv:v=p.2.2.1
   ·subst hv;rw[BF.Cm];exact .inr hpc
   ·rw[BF.DW hv];exact hj.j1 v
  ·dsimp only at hq⊢
   by_cases hv:v=p.2.2.1
   ·subst hv
    rw[BF.Cm]at hq;cases hq;rw[BF.Cm,BF.DW hne];exact⟨hp,rfl,Int.le_refl _,c1⟩
   ·rw[BF.DW hv]at hq
    obtain⟨h1,h2,h3,h4⟩:=hj.j2 v q hq;rw[BF.DW hv];refine⟨h1,h2,by have:=hmono q.2.1;omega,?_⟩;by_cases hu:q.2.1=p.2.2.1
    ·rw[hu,BF.Cm]
     have:=hj.j6 p.2.2.1;omega
    ·rw[BF.DW hu];exact h4
  ·dsimp only at hb
   rcases BF.jW (fun v q hq=>(hj.j2 v q hq).2.2.1) hne ⟨c1,c2⟩ hb with h1|⟨_,h2,h3⟩
   ·omega
   ·by_cases hv:v=p.2.2.1
    ·exact(h2 hv).elim
    ·exact hj.j3 v c n (h3 hv)
  ·dsimp only at hf⊢
   by_cases hv2:v=p.2.2.1
   ·subst hv2;rw[BF.Cm];simp
   ·rw[BF.DW hv2]at hf⊢
    exact hj.j4 v hv hf
  ·have:=hmono a
   have:=hj.j5;dsimp only;omega
  ·have:=hmono v
   have:=hj.j6 v;dsimp only;omega
 ·rw[if_neg hc]
  exact hj
structure FinS(x:Int×List RR)(a:Int)(X:Ar 21 Int)(l:List (Int×Int))(s:St):Prop where
 rep:Rep X l s
 jv:Jv x a s
 fix:∀p∈Rs x,¬BF.cnd s.f p
theorem FinS.le{x:Int×List RR}(h:JA x=0){a:Int}{X:Ar 21 Int}{l:List (Int×Int)}{s:St}(hf:FinS x a X l s)(a0:0<=a)(a1:a<=x.1){t c:Int}(hp:PC (Gl x) a t c):s.f t<=c/\s.f t<IU:=by
 have key:∀{u c:Int},PC (Gl x) a u c->s.f u<IU->∀r∈Gl x,r.1=u->s.f r.2.1<=s.f u+r.2.2:=by
  intro u c _ hlt r hr hu;obtain⟨i,hi,e⟩:=List.getElem_of_mem hr;have hm:((i:Int),r)∈Rs x:=by
   have:(en (Gl x))[i]?=some ((i:Int),r):=by rw[WB,List.getElem?_eq_getElem hi,e];rfl
   exact List.mem_of_getElem? this
  have:=hf.fix _ hm;unfold BF.cnd at this;simp only[not_and,Int.not_lt]at this;rw[<-hu]at hlt⊢;exact this (by omega)
 have h5:=hf.jv.j5;have fin0:s.f 0<=0:=by
  by_cases e:a=0
  ·rw[e]at h5;exact h5
  ·have:=key (PC.nil) (by unfold IU;omega) (a,0,0) (Lh (by omega) a1).2 rfl
   simp only at this;omega
 have fin:∀u,0<=u->u<=x.1->s.f u<IU:=fun u u0 u1=>by
  by_cases e:u=0
  ·subst e;unfold IU;omega
  ·obtain⟨c0,hc0,_⟩:=PC.any (x:=x) (a:=a) (t:=0) a0 a1 (by omega) (by omega)
   have:=key hc0 (by unfold IU;omega) (0,u,100000) (Lh (by omega) u1).1 rfl;simp only at this;unfold IU;omega
 have hn:=hp.node h a0 a1;refine⟨?_,fin t hn.1 hn.2⟩;clear hn
 induction hp with
 |nil=>exact h5
 | @snoc u c r hpu hr hu ih=>
  have hnu:=hpu.node h a0 a1;have:=key hpu (fin u hnu.1 hnu.2) r hr hu;omega
section
section
variable {x:Int×List RR}{a t u:Int}{F:Nat}
end
end
end Go.Proofs.YtfmelbioccbdoaaGreat
end
section
namespace Go.Proofs.YtfmelbioccbdoaaGreat
open Go Go.Md Go.RowKit
abbrev FF:Nat:=100000000000000000
end Go.Proofs.YtfmelbioccbdoaaGreat
end
section
namespace Go.Proofs.YtfmelbioccbdoaaGreat
open Go Go.Md Go.RowKit
namespace L5
section
theorem aW:Gh FF=some true:=rfl
def Gc(s:Nat->Nat)(k:Nat):List CG:=(List.range k).map fun i:Nat=>((i:Int),(s i:Int))
theorem H8{s:Nat->Nat}{k:Nat}:(Gc s k).length=k:=by simp[Gc]
theorem Yq{s:Nat->Nat}{k:Nat}:Gc s (k+1)=Gc s k++[((k:Int),(s k:Int))]:=by simp[Gc,List.range_succ]
theorem NP{s:Nat->Nat}{n k:Nat}(h:k<n):(Gc s n)[k]?=some ((k:Int),(s k:Int)):=by simp[Gc,h]
section
variable {l:List (Int×Int)}{G:List Sg.To}{T:List Int}{s:Nat->Nat}
theorem QC{F:Nat}(hF:1000000<F)(hv:∀x∈l,Sg.Gb x=true)(h:Sg.Short l G)(hS:Sg.Steps l G T s)(hn:G.length<=12){a b:Int}{i:Nat}(hi:i<G.length):∀(m k:Nat)(o:List CG),k<=G.length->G.length-k<m->o.length+(G.length-k)<=100->
  DI F l (G.map (·.1.2),a) (T,b) (i:Int) m (k:Int) ((G.length:Int),(G.length:Int),o,[])=some ((G.length:Int),(G.length:Int),(if k<=s i then o++[((i:Int),(s i:Int))]else o),[])
 |0,k,_,_,h,_=>by omega
 |m+1,k,o,hk,hm,ho=>by
  have hsi:=(hS.st i hi).1;unfold DI;by_cases hlt:k<G.length
  ·have hiT:i<T.length:=by rw[hS.len];exact hi
   have hrg:=hS.rg _ (List.getElem_mem hiT);obtain⟨r,er⟩:∃r,l[T[i].toNat]?=some r:=⟨_,List.getElem?_eq_getElem (show T[i].toNat<l.length by omega)⟩;have e1:ix l T[i]=some r:=by unfold ix;rw[if_pos hrg.1,er]
   have hw:AP ((k:Int)+1)=((k+1:Nat):Int):=by rw[Ad (by omega)];rfl
   have e2:Pe (G.map (·.1.2)) (k:Int) ((k+1:Nat):Int)=some [(G[k]).1.2]:=by
    unfold Pe;rw[if_pos (by rw[List.length_map];omega)]
    congr 1
    rw[Int.toNat_natCast,Int.toNat_natCast];rw[List.drop_take,show k+1-k=1 by omega,List.drop_eq_getElem_cons (show k<(G.map (·.1.2)).length by rw[List.length_map];exact hlt)];simp
   rw[if_pos (by simp only[List.length_map,decide_eq_true_eq];omega),Bu hiT];simp only[Am,AR];rw[e1];simp only[AR];rw[hw,e2];simp only[AR];have em:=hS.meets hv h hi (List.getElem?_eq_getElem hlt) (List.getElem?_eq_getElem hiT) er;rw[show(r.1,r.2)=r from rfl,Sg.Si (by simp) hF];simp only[AR];by_cases c:k=s i
   ·rw[if_pos (em.2 c)]
    unfold JP;simp only[AR];rw[Ik (by simp;omega)];simp only[AR];rw[QC hF hv h hS hn hi m (k+1) _ (by omega) (by omega) (by simp;omega),if_neg (by omega),if_pos (by omega),c]
   ·rw[if_neg (fun e=>c (em.1 e))]
    simp only[AR];rw[QC hF hv h hS hn hi m (k+1) _ (by omega) (by omega) (by omega)];by_cases c2:k<=s i
    ·rw[if_pos c2,if_pos (by omega)]
    ·rw[if_neg c2,if_neg (by omega)]
  ·rw[if_neg (by simp only[List.length_map,decide_eq_true_eq];omega),if_neg (by omega)]
theorem UN{F:Nat}(hF:1000000<F)(hv:∀x∈l,Sg.Gb x=true)(h:Sg.Short l G)(hS:Sg.Steps l G T s)(hn:G.length<=12){a b:Int}:∀(m i:Nat),i<=G.length->G.length-i<m->
  DJ F l (G.map (·.1.2),a) (T,b) m (i:Int) ((G.length:Int),(G.length:Int),Gc s i,[])=some ((G.length:Int),(G.length:Int),Gc s G.length,[])
 |0,i,_,h=>by omega
 |m+1,i,hi,hm=>by
  unfold DJ;by_cases hlt:i<G.length
  ·rw[if_pos (by simp only[List.length_map,decide_eq_true_eq];omega)]
   have e:=QC hF hv h hS hn (a:=a) (b:=b) hlt F 0 (Gc s i) (Nat.zero_le _) (by omega) (by rw[H8];omega);rw[if_pos (Nat.zero_le _),show((0:Nat):Int)=0 from rfl]at e;simp only[e,Am,AR];rw[Ad (by omega)];have ih:=UN hF hv h hS hn (a:=a) (b:=b) m (i+1) (by omega) (by omega);rw[Yq]at ih;exact ih
  ·have:i=G.length:=by omega
   subst this;rw[if_neg (by simp)]
theorem UO(hS:Sg.Steps l G T s)(hn:1<=G.length/\G.length<=12):VSh G.length G.length (Gc s G.length):=by
 refine⟨hn,hn,by rw[H8];omega,fun x hx=>?_,?_⟩
 ·obtain⟨i,hi,rfl⟩:=List.mem_map.1 hx
  have hi:=List.mem_range.1 hi;have:=(hS.st i hi).1;simp only;omega
 ·unfold Gc
  rw[List.nodup_iff_pairwise_ne,List.pairwise_map];refine List.nodup_range.imp fun{a b} h e=>h ?_;have:=congrArg Prod.fst e;simp only at this;omega
theorem aX(hS:Sg.Steps l G T s):Jo (Gc s G.length) (fun _=>true) (List.range G.length):=by
 refine⟨fun k hk=>⟨_,NP (List.mem_range.1 hk),rfl⟩,?_⟩;unfold Jg;rw[List.pairwise_iff_getElem];intro i j hi hj hij x y hx hy;rw[List.length_range]at hi hj;rw[List.getElem_range]at hx hy;rw[NP hi]at hx;rw[NP hj]at hy;cases hx;cases hy;refine⟨fun e=>?_,fun e=>?_⟩
 ·have e:(i:Int)=(j:Int):=e
  omega
 ·have e:(s i:Int)=(s j:Int):=e
  have:=hS.inj i j hi hj (by omega);omega
theorem Xe(hS:Sg.Steps l G T s){t:Nat}(h:GM (Gc s G.length) (fun _=>true) t):t=G.length:=by
 have h1:=h.le _ (aX hS);obtain⟨M,hM,e⟩:=h.ex;have h2:=hM.le;rw[List.length_range]at h1;have:=List.length_filter_le (fun k:Nat=>true) (List.range (Gc s G.length).length);rw[List.length_range,H8]at this;rw[H8]at h2;omega
theorem Yu{u j:Nat}(hj:j<G.length)(h:GM (Gc s G.length) (fun i=>!decide (i=(j:Int))) u):u<G.length:=by
 obtain⟨M,hM,e⟩:=h.ex;have h2:=hM.le;rw[H8]at h2;have h3:((List.range G.length).filter fun k:Nat=>!decide ((k:Int)=(j:Int))).length<(List.range G.length).length:=by
  rw[List.length_filter_lt_length_iff_exists];exact⟨j,List.mem_range.2 hj,by simp⟩
 rw[List.length_range]at h3;omega
theorem Xf{F:Nat}(hF:1000000<F)(hS:Sg.Steps l G T s)(hn:1<=G.length/\G.length<=12):Fv F ((G.length:Int),(G.length:Int),Gc s G.length,[])=some (List.replicate G.length 2):=by
 obtain⟨t,ks,h1,h2,h3,h4⟩:=Yg (F:=F) (by omega) (UO hS hn);rw[h2];rw[H8]at h3;have ht:=Xe hS h1
 congr 1
 refine List.eq_replicate_iff.2 ⟨h3,fun b hb=>?_⟩;obtain⟨j,hj,rfl⟩:=List.mem_iff_getElem.1 hb;obtain⟨u,v,g1,-,g3⟩:=h4 j (by rw[H8];omega);have:=Yu (by omega) g1;rw[if_pos (by omega),List.getElem?_eq_getElem hj]at g3;exact Option.some.inj g3
def JK(s:Nat->Nat)(n k:Nat):List Int:=(List.range n).map fun r:Nat=>if(List.range k).any (fun i=>decide (s i=r))=true then 2 else 0
theorem NQ{n k:Nat}:(JK s n k).length=n:=by simp[JK]
theorem Yv{n:Nat}:JK s n 0=List.replicate n 0:=by
 refine List.ext_getElem? fun r=>?_;simp[JK,List.getElem?_replicate,List.getElem?_range];by_cases h:r<n
 ·rw[List.getElem?_eq_getElem (by simpa using h)];simp[h]
 ·rw[List.getElem?_eq_none (by simpa using h)];simp[h]
theorem Yw{n k:Nat}(h:s k<n):JK s n (k+1)=(JK s n k).set (s k) 2:=by
 refine List.ext_getElem (by simp[JK]) fun r h1 h2=>?_;rw[List.getElem_set];simp only[JK,List.getElem_map,List.getElem_range,List.range_succ,List.any_append,List.any_cons,List.any_nil,Bool.or_false];by_cases c:s k=r
 ·rw[if_pos c];simp[c]
 ·rw[if_neg c];simp[c]
theorem Sn{F:Nat}(hS:Sg.Steps l G T s)(hn:1<=G.length/\G.length<=12):∀(m k:Nat),k<=G.length->G.length-k<m->
  El F ((G.length:Int),(G.length:Int),Gc s G.length,[]) (List.replicate G.length 2) m (JK s G.length k) (k:Int)=some (JK s G.length G.length)
 |0,k,_,h=>by omega
 |m+1,k,hk,hm=>by
  unfold El;by_cases hlt:k<G.length
  ·have hsk:=(hS.st k hlt).1
   rw[if_pos (by simp only[List.length_replicate,decide_eq_true_eq];omega),Bu (by rw[List.length_replicate];exact hlt)];have e1:NM ((G.length:Int),(G.length:Int),Gc s G.length,[]) (k:Int)=some (s k:Int):=by
    unfold NM IK;show(ix (Gc s G.length) (k:Int)>>=fun x3=>some x3.2)=_;rw[JV (NP hlt)]
    rfl
   simp only[Am,AR];rw[e1];simp only[AR];rw[Bu (show s k<(JK s G.length k).length by rw[NQ];exact hsk)];simp only[AR,List.getElem_replicate];have ev:(if(JK s G.length k)[s k]'(by rw[NQ];exact hsk)<(2:Int)then(2:Int)else(JK s G.length k)[s k]'(by rw[NQ];exact hsk))=2:=by
    simp only[JK,List.getElem_map,List.getElem_range];split<;>simp
   rw[ev,Sg.GX,<-Yw hsk,Ad (by omega)];exact Sn hS hn m (k+1) (by omega) (by omega)
  ·have:k=G.length:=by omega
   subst this;rw[if_neg (by simp)]
theorem aY(hS:Sg.Steps l G T s):JK s G.length G.length=List.replicate G.length 2:=by
 refine List.eq_replicate_iff.2 ⟨NQ,fun b hb=>?_⟩;obtain⟨r,hr,rfl⟩:=List.mem_map.1 hb;obtain⟨i,hi,e⟩:=hS.sur r (List.mem_range.1 hr);rw[if_pos];exact List.any_eq_true.2 ⟨i,List.mem_range.2 hi,by simpa using e⟩
theorem Sq{F:Nat}{n:Nat}(hn:n<=12){x:EF}{c:Int}:∀(m k:Nat),k<=n->n-k<m->Em F x c (List.replicate n 2) m (k:Int)=some ()
 |0,k,_,h=>by omega
 |m+1,k,hk,hm=>by
  unfold Em;by_cases hlt:k<n
  ·rw[if_pos (by simp only[List.length_replicate,decide_eq_true_eq];omega),Bu (by rw[List.length_replicate];exact hlt)]
   simp only[Am,AR,List.getElem_replicate];rw[Ad (by omega)];exact Sq hn m (k+1) (by omega) (by omega)
  ·rw[if_neg (by simp only[List.length_replicate,decide_eq_true_eq];omega)]
theorem Xg{F:Nat}{n:Nat}(hn:n<=12):∀(m k:Nat),k<=n->n-k<m->Fx F (List.replicate n 2) m (k:Int)=some ()
 |0,k,_,h=>by omega
 |m+1,k,hk,hm=>by
  unfold Fx;by_cases hlt:k<n
  ·rw[if_pos (by simp only[List.length_replicate,decide_eq_true_eq];omega),Bu (by rw[List.length_replicate];exact hlt)]
   simp only[Am,AR,List.getElem_replicate];rw[Ad (by omega)];exact Xg hn m (k+1) (by omega) (by omega)
  ·rw[if_neg (by simp only[List.length_replicate,decide_eq_true_eq];omega)]
theorem UQ{F:Nat}{n:Nat}(hn:n<=12){q:List Int}(hq:q.length=n){a b c:Int}:∀(m k:Nat),k<=n->n-k<m->DK F (q,a) (List.replicate n 2,b) (List.replicate n 2,c) m (k:Int)=some (.inr ())
 |0,k,_,h=>by omega
 |m+1,k,hk,hm=>by
  unfold DK;by_cases hlt:k<n
  ·rw[if_pos (by simp only[hq,decide_eq_true_eq];omega),Bu (by rw[List.length_replicate];exact hlt)]
   simp only[Am,AR,List.getElem_replicate];rw[Ad (by omega)];exact UQ hn hq m (k+1) (by omega) (by omega)
  ·rw[if_neg (by simp only[hq,decide_eq_true_eq];omega)]
end
theorem NV(l:List (Int×Int)):GV FF l=some true:=by
 have hF:1000000<FF:=by decide
 unfold GV;simp only[aW,Am];by_cases h30:30<l.length
 ·have e:decide (30<(l.length:Int))=true:=by simp;omega
  rw[e];rfl
 have e30:decide (30<(l.length:Int))=false:=by simp;omega
 simp only[e30,gd,Bool.not_false,cond_true,Bool.false_or];rw[Sg.JH (by omega)];simp only[AR];by_cases hs:Sg.FQ l=0
 case neg=>rw[if_pos (by simp[hs])]
 have h3:=Sg.KN.1 hs;have hv:=h3.2.2;rw[if_neg (by simp[hs])];obtain⟨G,hG,f1,T,f2,f3⟩:=Sg.Xb hF hs (show _<=24 by omega);obtain⟨s,hS⟩:=hG.steps hv;rw[<-f3]at hS;rw[f1,f2];simp only[AR];have hTl:=hS.len;have hGl:=hG.len;have hG1:1<=G.length:=by
  obtain⟨g,hg,-⟩:=hG.met _ (List.getElem_mem (show 0<l.length by omega));exact List.length_pos_of_mem hg
 rw[Sg.XZ hF,hG.scale hs,hG.apartOk hF hs hS];simp only[List.length_map,hTl,decide_true,Bool.not_true,Bool.or_false,Bool.not_false,cond_true,AR];rw[if_neg (by simp)];by_cases h12:12<G.length
 ·rw[if_pos (by simp;omega)]
 rw[if_neg (by simp;omega)];have hn:1<=G.length/\G.length<=12:=⟨hG1,by omega⟩;have e1:=UN hF hv hG hS hn.2 (a:=0) (b:=0) FF 0 (Nat.zero_le _) (by omega);rw[show Gc s 0=[]from rfl,show((0:Nat):Int)=0 from rfl]at e1;rw[e1];simp only[AR];have hV:=UO hS hn;rw[XR (by omega) hV];simp only[AR,H8,decide_true,Bool.not_true,Bool.or_false];rw[if_neg (by simp)];obtain⟨Q,-,q2,q3⟩:=Ye (F:=FF) (by omega) hV;have hk:=Xf hF hS hn;rw[q3];simp only[AR];have ek:IQ FF ((G.length:Int),(G.length:Int),Gc s G.length,[])=some (List.replicate G.length 2,0):=by
  unfold IQ;simp only[Lf (F:=FF) (by omega) hV,Am,AR];rw[if_neg (by simp),hk]
  rfl
 have ei:IL FF ((G.length:Int),(G.length:Int),Gc s G.length,[]) true=some (List.replicate G.length 2,0):=by
  obtain⟨Q',a1,-,-⟩:=K8 (F:=FF) (by omega) hV (fun _=>true);unfold IL NN;simp only[Lf (F:=FF) (by omega) hV,Am,AR];rw[if_neg (by simp),if_pos trivial,if_pos hV.ok];simp only[AR,a1,hk];have em:mks 8 (G.length:Int) (0:Int)=some (JK s G.length 0):=by
   unfold mks;rw[if_pos ⟨by omega,by rw[Int.toNat_natCast];omega⟩,Int.toNat_natCast,Yv]
  rw[em];simp only[AR];have b1:=Sn (F:=FF) hS hn FF 0 (Nat.zero_le _) (by omega);have b2:=Sq (F:=FF) (x:=((G.length:Int),(G.length:Int),Gc s G.length,[])) (c:=(mc Q':Int)) hn.2 FF 0 (Nat.zero_le _) (by omega);rw[show((0:Nat):Int)=0 from rfl]at b1 b2;rw[b1];simp only[AR,aY hS];rw[b2]
  rfl
 have ea:KL FF ((G.length:Int),(G.length:Int),Gc s G.length,[])=some (0,0,5):=by
  unfold KL;simp only[Lf (F:=FF) (by omega) hV,Am,AR];rw[if_neg (by simp),hk];simp only[AR];have b1:=Xg (F:=FF) hn.2 FF 0 (Nat.zero_le _) (by omega);rw[show((0:Nat):Int)=0 from rfl]at b1;rw[b1]
  rfl
 rw[ek,ei,ea];have eg:(FP ((Np Q).map fun k:Nat=>(k:Int))).length=G.length:=by
  rw[Sg.Mv,List.length_map,P5];exact Xe hS q2
 simp only[AR,eg,List.length_replicate,decide_true,Bool.not_true,Bool.or_false];rw[if_neg (by simp)];have b3:=UQ (F:=FF) hn.2 (q:=G.map (·.1.2)) (by simp) (a:=0) (b:=0) (c:=0) FF 0 (Nat.zero_le _) (by omega);rw[show((0:Nat):Int)=0 from rfl]at b3;rw[b3]
 rfl
end
end L5
end Go.Proofs.YtfmelbioccbdoaaGreat
end
section
namespace Go.Proofs.YtfmelbioccbdoaaGreat
namespace TopStepListsP
open Go
theorem band{a b:Bool}(h:a=true)(k:b=true):(a&&b)=true:=by rw[h,k];rfl
theorem oG:(Rows.topStepListsRow.wf (OpenSpec.ofChange Rows.topStepListsSpec))=true:=by kernel_rfl
theorem oH:(laidOutB Tryz.pinned.checked.prog)=true:=by kernel_rfl
theorem oI:(mapsRowed Tryz.pinned.checked.prog)=true:=by kernel_rfl
theorem oJ:(Tryz.f9.params.all (Tryz.pinned.checked.prog.readableRec ·))=true:=by kernel_rfl
theorem oK:(namedTie Tryz.pinned.checked.prog Rows.topStepListsRow.named Rows.topStepListsSpec.vars)=true:=by kernel_rfl
theorem oL:((Rows.topStepListsRow.stops==[]))=true:=by kernel_rfl
theorem oM:((Tryz.pinned.checked.prog.stops==[]))=true:=by kernel_rfl
theorem oN:((Rows.topStepListsRow.knobs==[]))=true:=by kernel_rfl
theorem oO:((Tryz.pinned.checked.prog.stopKnobs==[]))=true:=by kernel_rfl
theorem oP:((Rows.topStepListsRow.inPlace==Tryz.pinned.checked.prog.inPlace (9:FuncId)))=true:=by kernel_rfl
theorem mI:((Rows.topStepListsRow.unfollowed==Tryz.pinned.checked.prog.unfollowed (9:FuncId)))=true:=by kernel_rfl
theorem mJ:((Rows.topStepListsRow.recurses==Tryz.pinned.checked.prog.recurses (9:FuncId)))=true:=by kernel_rfl
theorem mK:((Rows.topStepListsRow.named==Tryz.pinned.checked.prog.varsNamed (9:FuncId)))=true:=by kernel_rfl
theorem mM:((Rows.topStepListsRow.maps==(Tryz.f9.params.toList++Rows.topStepListsSpec.plain.varTypes Tryz.pinned.checked.prog).any (Tryz.pinned.checked.prog.mapsRec ·)))=true:=by kernel_rfl
theorem mO:((Rows.topStepListsRow.ifaces==(Tryz.f9.params.toList++Rows.topStepListsSpec.plain.varTypes Tryz.pinned.checked.prog).any (Tryz.pinned.checked.prog.ifacesRec ·)))=true:=by kernel_rfl
theorem mP:((Rows.topStepListsRow.mapsOut==Tryz.pinned.checked.prog.mapsAmong Tryz.f9.resultTypes.toList))=true:=by kernel_rfl
theorem mQ:((Rows.topStepListsRow.loops==(Tryz.f9.params.toList++Rows.topStepListsSpec.plain.varTypes Tryz.pinned.checked.prog).any (Tryz.pinned.checked.prog.loopsFrom ·)))=true:=by kernel_rfl
theorem mR:((Rows.topStepListsRow.wideKeys==(Tryz.f9.params.toList++Rows.topStepListsSpec.plain.varTypes Tryz.pinned.checked.prog++Tryz.f9.resultTypes.toList).any (Tryz.pinned.checked.prog.wideKeysFrom ·)))=true:=by kernel_rfl
theorem mU:(Rows.topStepListsSpec.vars.all (Tryz.pinned.checked.prog.varReadable ·))=true:=by kernel_rfl
theorem mV:(Tryz.f9.resultTypes.all (fun t=>Tryz.pinned.checked.prog.readableRec t&&decide (t<Tryz.pinned.checked.prog.types.size)))=true:=by kernel_rfl
theorem mW:((Rows.topStepListsRow.ifacesOut==Tryz.f9.resultTypes.toList.any (Tryz.pinned.checked.prog.ifacesRec ·)))=true:=by kernel_rfl
theorem mX:((Rows.topStepListsRow.loopsOut==Tryz.f9.resultTypes.toList.any (Tryz.pinned.checked.prog.loopsFrom ·)))=true:=by kernel_rfl
theorem mY:((Rows.topStepListsRow.plainKeys==Tryz.pinned.checked.prog.plainKeys))=true:=by kernel_rfl
theorem mZ:(Rows.topStepListsRow.shortTexts.isNone)=true:=by kernel_rfl
theorem mg:(Tryz.pinned.checked.prog.stopsHeard)=true:=by kernel_rfl
theorem mh:(Tryz.pinned.checked.prog.mayEnter)=true:=by kernel_rfl
theorem mo:((Rows.topStepListsRow.lifted==Tryz.pinned.checked.prog.liftsFinal))=true:=by kernel_rfl
theorem mq:((Tryz.pinned.checked.prog.make==some Rows.topStepListsRow.make))=true:=by kernel_rfl
theorem mr:((Rows.topStepListsRow.kinds==(if Rows.topStepListsRow.domain.isEmpty then[]else Tryz.f9.params.toList.map fun t=>match Tryz.pinned.checked.prog.underlying t with|some (.int k)=>some k|_=>none)))=true:=by kernel_rfl
theorem nA:((Rows.topStepListsRow.pinned==Rows.topStepListsRow.pinnedBy))=true:=by kernel_rfl
theorem nC:((Rows.topStepListsRow.veiled==(Tryz.f9.params.toList++Rows.topStepListsSpec.plain.varTypes Tryz.pinned.checked.prog++Tryz.f9.resultTypes.toList).any (Tryz.pinned.checked.prog.veiledRec ·)))=true:=by kernel_rfl
theorem nD:(Rows.topStepListsRow.veiledFits Tryz.pinned.checked.prog Tryz.f9.params.toList (Tryz.f9.params.toList++Rows.topStepListsSpec.plain.varTypes Tryz.pinned.checked.prog++Tryz.f9.resultTypes.toList))=true:=by kernel_rfl
theorem named:Tryz.pinned.checked.prog.funcNamed Rows.topStepListsRow.func=some 9:=by kernel_rfl
end TopStepListsP
end Go.Proofs.YtfmelbioccbdoaaGreat
end
