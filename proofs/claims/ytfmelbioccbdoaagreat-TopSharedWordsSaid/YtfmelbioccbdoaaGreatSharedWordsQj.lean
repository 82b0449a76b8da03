/-
  Part 10 of 11 of what the last text stands on: lemmas about the model, pure functions, walks, laws in plain Lean; each part's own head says its condition. Merged by a program of our own.
-/
import Derived.Test.YtfmelbioccbdoaaGreatSharedWordsQi
set_option maxHeartbeats 0
set_option linter.all false
section
namespace Go.Proofs.YtfmelbioccbdoaaGreat
open Go Go.Md Go.RowKit
namespace Jn
section
def en(X:Em)(i k:Nat):Option Int:=(X.l[i]?).bind fun r=>r.l[k]?
theorem en_get{X:Em}{i k:Nat}(hi:i<16)(hk:k<16):∃r v,X.l[i]?=some r/\r.l[k]?=some v/\en X i k=some v:=by
 have h1:i<X.l.length:=by rw[X.h];exact hi
 have h2:k<(X.l[i]).l.length:=by rw[(X.l[i]).h];exact hk
 exact⟨X.l[i],(X.l[i]).l[k],List.getElem?_eq_getElem h1,List.getElem?_eq_getElem h2,by unfold en;rw[List.getElem?_eq_getElem h1,AJ,List.getElem?_eq_getElem h2]⟩
theorem pE{X:Em}{i k:Nat}{r:Ar 16 Int}(hr:X.l[i]?=some r)(hk:k<16)(i' k':Nat):en (Ei X (i:Int) (Ei r (k:Int) 1)) i' k'=if i'=i/\k'=k then some 1 else en X i' k':=by
 have hi:i<X.l.length:=(List.getElem?_eq_some_iff.1 hr).1;have hkl:k<r.l.length:=by rw[r.h];exact hk
 unfold en;show((X.l.set (i:Int).toNat (Ei r (k:Int) 1))[i']?).bind _=_;rw[Int.toNat_natCast];by_cases h1:i'=i
 ·subst h1
  rw[List.getElem?_set_self hi,AJ,hr,AJ];show(r.l.set (k:Int).toNat 1)[k']?=_;rw[Int.toNat_natCast];by_cases h2:k'=k
  ·subst h2;rw[List.getElem?_set_self hkl,if_pos ⟨rfl,rfl⟩]
  ·rw[List.getElem?_set_ne (fun h=>h2 h.symm),if_neg (fun h=>h2 h.2)]
 ·rw[List.getElem?_set_ne (fun h=>h1 h.symm),if_neg (fun h=>h1 h.1)]
theorem Xn{c:BJ}(hv:VC c){st:List Ap}(hst:∀s∈st,IsStep c s)(h16:st.length<=16){i:Nat}(hi:i<16){p:Ap}(hp:IsStep c p):∀(m k:Nat)(X:Em),k<=st.length->st.length-k<m->
  ∃Z,MO c st (i:Int) p m (k:Int) X=some Z/\∀i' k',en Z i' k'=if i'=i/\k<=k'/\(∃q,st[k']?=some q/\fit c p q=true)then some 1 else en X i' k'
 |0,k,_,_,h=>by omega
 |m+1,k,X,hk,h=>by
  unfold MO;by_cases hlt:k<st.length
  ·have hq:=hst _ (List.getElem_mem hlt)
   have hw:AZ ((k:Int)+1)=((k+1:Nat):Int):=by rw[BK (by omega)];rfl
   rw[if_pos (by simpa using hlt),Az hlt];simp only[Ah,AJ];rw[oz hv hp hq];simp only[AJ];cases hf:fit c p st[k]with
   |true=>
    obtain⟨r,v,h1,h2,-⟩:=en_get (X:=X) hi (show k<16 by omega);have hil:i<X.l.length:=(List.getElem?_eq_some_iff.1 h1).1;have hrl:k<r.l.length:=(List.getElem?_eq_some_iff.1 h2).1;rw[if_pos rfl,Az hil,show X.l[i]=r from(List.getElem?_eq_some_iff.1 h1).2];simp only[AJ];rw[Az hrl];simp only[AJ];rw[hw];obtain⟨Z,e1,e2⟩:=Xn hv hst h16 hi hp m (k+1) (Ei X (i:Int) (Ei r (k:Int) 1)) (by omega) (by omega);refine⟨Z,e1,fun i' k'=>?_⟩;rw[e2,pE h1 (by omega)];by_cases c1:i'=i/\k<=k'/\(∃q,st[k']?=some q/\fit c p q=true)
    ·rw[if_pos c1]
     by_cases c2:k'=k
     ·rw[if_neg (by omega),if_pos ⟨c1.1,c2⟩]
     ·rw[if_pos ⟨c1.1,by omega,c1.2.2⟩]
    ·rw[if_neg c1,if_neg (fun h=>c1 ⟨h.1,by omega,h.2.2⟩),if_neg]
     rintro⟨h3,rfl⟩;exact c1 ⟨h3,Nat.le_refl _,_,List.getElem?_eq_getElem hlt,hf⟩
   |false=>
    rw[if_neg (by simp),hw];obtain⟨Z,e1,e2⟩:=Xn hv hst h16 hi hp m (k+1) X (by omega) (by omega);refine⟨Z,e1,fun i' k'=>?_⟩;rw[e2];by_cases c1:i'=i/\k<=k'/\(∃q,st[k']?=some q/\fit c p q=true)
    ·rw[if_pos c1,if_pos]
     refine⟨c1.1,?_,c1.2.2⟩;obtain⟨q,h3,h4⟩:=c1.2.2;rcases Nat.lt_or_ge k k' with h5|h5
     ·exact h5
     ·have:k'=k:=by omega
      subst this;rw[List.getElem?_eq_getElem hlt]at h3;cases h3;rw[hf]at h4;cases h4
    ·rw[if_neg c1,if_neg (fun h=>c1 ⟨h.1,by omega,h.2.2⟩)]
  ·rw[if_neg (by simpa using hlt)]
   refine⟨X,rfl,fun i' k'=>?_⟩;rw[if_neg];rintro⟨-,h1,q,h2,-⟩;have:=(List.getElem?_eq_some_iff.1 h2).1;omega
open Classical in
theorem uU{F:Nat}(hF:1000<F){c:BJ}(hv:VC c){st:List Ap}(hst:∀s∈st,IsStep c s)(h16:st.length<=16):∀(m k:Nat)(X:Em),k<=st.length->st.length-k<m->
  ∃Z,Nl F c st m (k:Int) X=some Z/\∀i' k',en Z i' k'=if k<=i'/\(∃p q,st[i']?=some p/\st[k']?=some q/\fit c p q=true)then some 1 else en X i' k'
 |0,k,_,_,h=>by omega
 |m+1,k,X,hk,h=>by
  unfold Nl;by_cases hlt:k<st.length
  ·have hp:=hst _ (List.getElem_mem hlt)
   rw[if_pos (by simpa using hlt),Az hlt];simp only[Ah,AJ];obtain⟨Y,e1,e2⟩:=Xn hv hst h16 (show k<16 by omega) hp F 0 X (by omega) (by omega);rw[show MO c st (k:Int) st[k] F 0 X=some Y from e1];simp only[AJ];rw[show AZ ((k:Int)+1)=((k+1:Nat):Int) by rw[BK (by omega)];rfl];obtain⟨Z,f1,f2⟩:=uU hF hv hst h16 m (k+1) Y (by omega) (by omega);refine⟨Z,f1,fun i' k'=>?_⟩;rw[f2,e2];by_cases c1:k<=i'/\(∃p q,st[i']?=some p/\st[k']?=some q/\fit c p q=true)
   ·rw[if_pos c1]
    obtain⟨h1,p,q,h2,h3,h4⟩:=c1;by_cases c2:i'=k
    ·subst c2
     rw[List.getElem?_eq_getElem hlt]at h2;cases h2;rw[if_neg (by omega),if_pos ⟨rfl,Nat.zero_le _,q,h3,h4⟩]
    ·rw[if_pos ⟨by omega,p,q,h2,h3,h4⟩]
   ·rw[if_neg c1,if_neg (fun h=>c1 ⟨by omega,h.2⟩),if_neg]
    rintro⟨rfl,-,q,h3,h4⟩;exact c1 ⟨Nat.le_refl _,_,q,List.getElem?_eq_getElem hlt,h3,h4⟩
  ·rw[if_neg (by simpa using hlt)]
   refine⟨X,rfl,fun i' k'=>?_⟩;rw[if_neg];rintro⟨h1,p,q,h2,-⟩;have:=(List.getElem?_eq_some_iff.1 h2).1;omega
def NK(c:BJ)(X:Em):Prop:=∀(i k:Nat)(p q:Ap),(Ev 0 c.1)[i]?=some p->(Ev 0 c.1)[k]?=some q->∃r,ix X.l (i:Int)=some r/\ix r.l (k:Int)=some (if fit c p q=true then 1 else 0)
theorem XL{F:Nat}(hF:1000<F){c:BJ}(hv:VC c):∃X,H6 F c=some ⟨some (c,Ev 0 c.1,X,.mk,.mk)⟩/\NK c X:=by
 have h8:=hv.n8;have hl:=O0 c.1 0;have e1:=ow (P:=c.1) (by omega) F 0 [] (by omega) (by omega) (Nat.le_refl _);rw[List.drop_zero,List.nil_append]at e1;obtain⟨X,e2,e3⟩:=uU hF hv (st:=Ev 0 c.1) (fun s hs=>KE.1 hs) (by omega) F 0 (Ar.fill 16 (Ar.fill 16 0)) (by omega) (by omega);refine⟨X,?_,?_⟩
 ·unfold H6
  rw[show MN c.1 F 0 []=some (Ev 0 c.1)from e1];simp only[Ah,AJ];rw[show Nl F c (Ev 0 c.1) F 0 (Ar.fill 16 (Ar.fill 16 0))=some X from e2]
  rfl
 ·intro i k p q hp hq
  have hi:=(List.getElem?_eq_some_iff.1 hp).1;have hk:=(List.getElem?_eq_some_iff.1 hq).1;obtain⟨r,v,h1,h2,h3⟩:=en_get (X:=X) (show i<16 by omega) (show k<16 by omega);have hil:i<X.l.length:=(List.getElem?_eq_some_iff.1 h1).1;have hrl:k<r.l.length:=(List.getElem?_eq_some_iff.1 h2).1;refine⟨r,by rw[Az hil];exact congrArg some (List.getElem?_eq_some_iff.1 h1).2,?_⟩;rw[Az hrl,show r.l[k]=v from(List.getElem?_eq_some_iff.1 h2).2];have h4:=e3 i k;rw[h3]at h4;have e0:en (Ar.fill 16 (Ar.fill 16 0)) i k=some 0:=by
   unfold en;show((List.replicate 16 (Ar.fill 16 (0:Int)))[i]?).bind _=_;rw[List.getElem?_replicate,if_pos (by omega),AJ];show(List.replicate 16 (0:Int))[k]?=_;rw[List.getElem?_replicate,if_pos (by omega)]
  by_cases hf:fit c p q=true
  ·rw[if_pos hf]
   rw[if_pos ⟨Nat.zero_le _,p,q,hp,hq,hf⟩]at h4;exact h4
  ·rw[if_neg hf]
   rw[if_neg,e0]at h4
   ·exact h4
   ·rintro⟨-,p',q',h5,h6,h7⟩
    rw[hp]at h5;rw[hq]at h6;cases h5;cases h6;exact hf h7
theorem UK{α:Type}{l:List α}{f:α->Option Bool}{p:α->Bool}(hf:∀x∈l,f x=some (p x))(hl:l.length<4611686018427387904):
  ∀(m k:Nat),k<=l.length->l.length-k<m->(∃j:Nat,Jq l f m (k:Int)=some (.inl (j:Int))/\∃x,l[j]?=some x/\p x=true)\/(Jq l f m (k:Int)=some (.inr ())/\∀x∈l.drop k,p x=false)
 |0,k,_,h=>by omega
 |m+1,k,hk,h=>by
  unfold Jq;by_cases hlt:k<l.length
  ·rw[if_pos (by simpa using hlt),Az hlt]
   have hd:l.drop k=l[k]::l.drop (k+1):=List.drop_eq_getElem_cons hlt;simp only[Ah,AJ,hf l[k] (List.getElem_mem hlt)];cases hp:p l[k]with
   |true=>left;exact⟨k,if_pos rfl,l[k],List.getElem?_eq_getElem hlt,hp⟩
   |false=>
    rw[if_neg (by simp),show AZ ((k:Int)+1)=((k+1:Nat):Int) by rw[BK (by omega)];rfl];rcases UK hf hl m (k+1) (by omega) (by omega)with h1|⟨h1,h2⟩
    ·exact .inl h1
    ·refine .inr ⟨h1,fun x hx=>?_⟩
     rw[hd]at hx;rcases List.mem_cons.1 hx with rfl|hx
     ·exact hp
     ·exact h2 x hx
  ·right
   rw[if_neg (by simpa using hlt),List.drop_of_length_le (by omega)];exact⟨rfl,by simp⟩
theorem UL{l:List Ap}{f:Ap->Option Bool}(F:Nat):∀m k,CR F l f m k=Jq l f m k
 |0,_=>rfl
 |m+1,k=>by unfold CR Jq;simp only[UL F m]
theorem iC{F:Nat}(hF:1000<F){c:BJ}(hv:VC c){X:Em}{s:Ap}(hs:IsStep c s):∃j:Nat,GN F (c,Ev 0 c.1,X,Opq.mk,Opq.mk) s=some (j:Int)/\(Ev 0 c.1)[j]?=some s:=by
 have h8:=hv.n8;have hl:=O0 c.1 0;unfold GN Fx;rw[UL];rcases UK (l:=Ev 0 c.1) (f:=fun y=>Ga y (s.1,s.2)) (p:=fun y=>decide (y=s)) (fun x _=>rfl) (by omega) F 0 (by omega) (by omega)with⟨j,h1,x,h2,h3⟩|⟨h1,h2⟩
 ·refine⟨j,?_,?_⟩
  ·rw[show Jq (Ev 0 c.1) (fun y=>Ga y (s.1,s.2)) F 0=some (.inl (j:Int))from h1];rfl
  ·rw[h2,of_decide_eq_true h3]
 ·rw[List.drop_zero]at h2
  have:=h2 s (KE.2 hs);simp at this
theorem WC{l:List Ap}{f:Ap->Option Bool}(F:Nat):∀m k,Bp F l f m k=Jq l f m k
 |0,_=>rfl
 |m+1,k=>by unfold Bp Jq;simp only[WC F m]
theorem iD{l:List Ap}{f:Ap->Option Bool}{p:Ap->Bool}{F:Nat}(hf:∀x∈l,f x=some (p x))(hF:l.length<F)(hl:l.length<4611686018427387904):Ci F l f=some (l.any p):=by
 obtain⟨r,h1,h2,h3⟩:=NJ hf hl F 0 (Nat.zero_le _) (by omega);unfold Ci EI;rw[WC];simp only[Int.natCast_zero,List.drop_zero]at h1 h2 h3;rw[h1];cases hp:l.any p with
 |true=>obtain⟨j,rfl⟩:=h2 hp;simp
 |false=>rw[h3 hp];simp
theorem TB{F:Nat}(hF:1000<F){c:BJ}(hv:VC c){l:List Ap}(hl:∀s∈l,IsStep c s)(hn:l.length<1000):∃X,Jo F c l=some (⟨some (c,Ev 0 c.1,X,.mk,.mk)⟩,0)/\NK c X:=by
 obtain⟨X,e1,e2⟩:=XL hF hv;refine⟨X,?_,e2⟩;unfold Jo;have ex:(c.1,c.2.1,(c.2.2.1,c.2.2.2))=c:=rfl;rw[ex,lJ hF hv];simp only[Ah,AJ];rw[if_neg (by simp),e1];simp only[AJ];rw[iD (p:=fun _=>false) (fun s hs=>by
  obtain⟨j,h1,-⟩:=iC hF hv (X:=X) (hl s hs);unfold Ld;simp only[Ah,AJ];rw[show GN F ((c.1,c.2.1,(c.2.2.1,c.2.2.2)),Ev 0 c.1,X,Opq.mk,Opq.mk) (s.1,s.2)=some (j:Int)from h1];simp only[AJ];show some (decide ((j:Int)<0))=some false;rw[decide_eq_false (by omega)]) (by omega) (by omega)]
 simp only[AJ];have:(l.any fun _=>false)=false:=by simp
 rw[this,if_neg (by simp)]
end
structure Ord(c:BJ)(l:List Ap):Prop where
 steps:∀s∈l,IsStep c s
 nodup:(l.map (·.1)).Nodup
 len:l.length=c.1.length
def MR(c:BJ):List Ap->Bool
 |a::b::l=>fit c a b&&MR c (b::l)
 |_=>true
theorem Ze{c:BJ}{l:List Ap}{k:Nat}(hk:1<=k)(hlt:k<l.length):MR c (l.drop (k-1))=(fit c l[k-1] l[k]&&MR c (l.drop k)):=by
 have e1:l.drop (k-1)=l[k-1]::l.drop k:=by
  have:=List.drop_eq_getElem_cons (show k-1<l.length by omega);rw[this];congr 2;omega
 have e2:l.drop k=l[k]::l.drop (k+1):=List.drop_eq_getElem_cons hlt;rw[e1,e2];rfl
theorem Nq{α:Type}[DecidableEq α]:∀{l k:List α},l.Nodup->(∀a∈l,a∈k)->l.length<=k.length
 |[],_,_,_=>Nat.zero_le _
 |a::l,k,hn,hs=>by
  rw[List.nodup_cons]at hn;have ha:=hs a (List.mem_cons_self ..);have:=Nq (k:=k.erase a) hn.2 fun b hb=>by
   have hne:b≠a:=fun e=>hn.1 (e▸hb);exact(List.mem_erase_of_ne hne).2 (hs b (List.mem_cons_of_mem _ hb))
  rw[List.length_erase_of_mem ha]at this;have:=List.length_pos_of_mem ha;simp only[List.length_cons];omega
theorem Zh{α:Type}{p:α->Bool}{l:List α}(h:l.length<=(l.filter p).length):∀a∈l,p a=true:=by
 have:=List.length_filter_le p l;exact List.length_filter_eq_length_iff.1 (by omega)
theorem JF{α β:Type}{L:List α}{f:α->List β}(h:L.Nodup)(h1:∀a∈L,(f a).Nodup)(h2:∀a∈L,∀b∈L,∀x,x∈f a->x∈f b->a=b):(L.flatMap f).Nodup:=by
 induction L with
 |nil=>simp
 |cons a L ih=>
  rw[List.nodup_cons]at h;rw[List.flatMap_cons,List.nodup_append];refine⟨h1 a (List.mem_cons_self ..),ih h.2 (fun b hb=>h1 b (List.mem_cons_of_mem _ hb)) (fun b hb c hc=>h2 b (List.mem_cons_of_mem _ hb) c (List.mem_cons_of_mem _ hc)),fun x hx y hy e=>?_⟩;subst e;obtain⟨b,hb,hy⟩:=List.mem_flatMap.1 hy;have:=h2 a (List.mem_cons_self ..) b (List.mem_cons_of_mem _ hb) x hx hy;subst this;exact h.1 hb
theorem Lx{α β:Type}{L:List α}{f:α->β}(h:L.Nodup)(hf:∀a∈L,∀b∈L,f a=f b->a=b):(L.map f).Nodup:=by
 rw[List.Nodup,List.pairwise_map];exact List.Pairwise.imp_of_mem (fun{a b} ha hb hab e=>hab (hf a ha b hb e)) h
theorem PD{α:Type}{k:α}:∀{p p' t t':List α},p++k::t=p'++k::t'->k∉p->k∉p'->p=p'/\t=t'
 |[],[],t,t',h,_,_=>⟨rfl,by simpa using h⟩
 |[],b::p',t,t',h,_,h2=>by simp at h;exact absurd (by rw[h.1];exact List.mem_cons_self ..) h2
 |a::p,[],t,t',h,h1,_=>by simp at h;exact absurd (by rw[<-h.1];exact List.mem_cons_self ..) h1
 |a::p,b::p',t,t',h,h1,h2=>by
  simp only[List.cons_append,List.cons.injEq]at h;obtain⟨rfl,h⟩:=h;obtain⟨e,e'⟩:=PD h (fun hh=>h1 (List.mem_cons_of_mem _ hh)) (fun hh=>h2 (List.mem_cons_of_mem _ hh));exact⟨by rw[e],e'⟩
def put(U p:Nat):Nat:=U|||1<<<p
def out(U p:Nat):Nat:=U&&&(255-1<<<p)
def fr(n U:Nat):Nat:=((List.range n).filter fun p=>!U.testBit p).length
def us(n U:Nat):Nat:=((List.range n).filter fun p=>U.testBit p).length
theorem TD(U p q:Nat):(put U p).testBit q=(U.testBit q||decide (q=p)):=by
 unfold put;rw[Nat.testBit_or,Nat.one_shiftLeft,Nat.testBit_two_pow]
 congr 1
 exact decide_eq_decide.2 ⟨fun h=>h.symm,fun h=>h.symm⟩
theorem WE:∀(n:Fin 9)(p:Fin 8)(U:Fin 256),(p.val<n.val->U.val<2^n.val->(put U.val p.val<2^n.val/\out U.val p.val<2^n.val/\(U.val.testBit p.val=false->fr n.val (put U.val p.val)+1=fr n.val U.val)/\(U.val.testBit p.val=true->us n.val (out U.val p.val)+1=us n.val U.val))):=by decide+kernel
theorem iE:∀(p q:Fin 8)(U:Fin 256),(out U.val p.val).testBit q.val=(U.val.testBit q.val&& !decide (q=p)):=by decide+kernel
theorem Nr:∀(n:Fin 9)(U:Fin 256),U.val<2^n.val->((U.val=2^n.val-1↔fr n.val U.val=0)/\(U.val=0↔us n.val U.val=0)/\fr n.val U.val+us n.val U.val=n.val):=by decide+kernel
section
section
variable (n m:Nat)(pc:Nat->Nat)(ft:Nat->Nat->Bool)
def okn(o:Option Nat)(k:Nat):Bool:=match o with|none=>true|some i=>ft i k
def F8(U:Nat)(o:Option Nat):List Nat:=(List.range m).filter fun k=>!U.testBit (pc k)&&okn ft o k
def ext:Nat->Nat->Option Nat->List (List Nat)
 |0,_,_=>[[]]
 |d+1,U,o=>(F8 m pc ft U o).flatMap fun k=>(ext d (put U (pc k)) (some k)).map (k::·)
def SB(U i:Nat):List Nat:=(List.range m).filter fun k=>(out U (pc i)).testBit (pc k)&&ft k i
def Cm:Nat->Nat->Nat->List (List Nat)
 |0,_,i=>[[i]]
 |d+1,U,i=>(SB m pc ft U i).flatMap fun k=>(Cm d (out U (pc i)) k).map (·++[i])
def KQ(o:Option Nat):List Nat->Bool
 |[]=>true
 |k::t=>okn ft o k&&KQ (some k) t
end
section
variable {n m:Nat}{pc:Nat->Nat}{ft:Nat->Nat->Bool}
theorem IQ{U k:Nat}{o:Option Nat}:k∈F8 m pc ft U o↔k<m/\U.testBit (pc k)=false/\okn ft o k=true:=by
 unfold F8;simp[and_assoc]
theorem bn{U i k:Nat}:k∈SB m pc ft U i↔k<m/\(out U (pc i)).testBit (pc k)=true/\ft k i=true:=by
 unfold SB;simp[and_assoc]
structure Go'(m:Nat)(pc:Nat->Nat)(ft:Nat->Nat->Bool)(d U:Nat)(o:Option Nat)(t:List Nat):Prop where
 len:t.length=d
 mem:∀k∈t,k<m/\U.testBit (pc k)=false
 nod:(t.map pc).Nodup
 seq:KQ ft o t=true
theorem KF:∀{d U:Nat}{o:Option Nat}{t:List Nat},t∈ext m pc ft d U o↔Go' m pc ft d U o t
 |0,U,o,t=>by
  unfold ext;rw[List.mem_singleton];constructor
  ·rintro rfl;exact⟨rfl,(fun k hk=>by cases hk),List.nodup_nil,rfl⟩
  ·intro h;exact List.eq_nil_of_length_eq_zero h.len
 |d+1,U,o,t=>by
  unfold ext;rw[List.mem_flatMap];constructor
  ·rintro⟨k,hk,ht⟩
   obtain⟨s,hs,rfl⟩:=List.mem_map.1 ht;obtain⟨k1,k2,k3⟩:=IQ.1 hk;have g:=KF.1 hs;have hb:∀x∈s,U.testBit (pc x)=false/\pc x≠pc k:=fun x hx=>by
    have:=(g.mem x hx).2;rw[TD]at this;simpa using this
   refine⟨by simp[g.len],fun x hx=>?_,?_,by unfold KQ;rw[k3,g.seq];rfl⟩
   ·rcases List.mem_cons.1 hx with rfl|hx
    ·exact⟨k1,k2⟩
    ·exact⟨(g.mem x hx).1,(hb x hx).1⟩
   ·rw[List.map_cons,List.nodup_cons]
    refine⟨fun hh=>?_,g.nod⟩;obtain⟨x,hx,e⟩:=List.mem_map.1 hh;exact(hb x hx).2 e
  ·intro h
   cases t with
   |nil=>have:=h.len;simp at this
   |cons k s=>
    have hn:=h.nod;rw[List.map_cons,List.nodup_cons]at hn;have hs:=h.seq;unfold KQ at hs;rw[Bool.and_eq_true]at hs;have hk:=h.mem k (List.mem_cons_self ..);refine⟨k,IQ.2 ⟨hk.1,hk.2,hs.1⟩,List.mem_map.2 ⟨s,KF.2 ⟨by have:=h.len;simpa using this,fun x hx=>?_,hn.2,hs.2⟩,rfl⟩⟩;have hx':=h.mem x (List.mem_cons_of_mem _ hx);refine⟨hx'.1,?_⟩;rw[TD,hx'.2,decide_eq_false]
    ·rfl
    ·exact fun e=>hn.1 (List.mem_map.2 ⟨x,hx,e⟩)
theorem Qk{U:Nat}{o:Option Nat}:(F8 m pc ft U o).Nodup:=List.Nodup.sublist List.filter_sublist List.nodup_range
theorem UM:∀{d U:Nat}{o:Option Nat},(ext m pc ft d U o).Nodup
 |0,U,o=>by unfold ext;simp
 |d+1,U,o=>by
  unfold ext;refine JF Qk (fun k _=>Lx UM fun a _ b _ e=>by simpa using e) fun a _ b _ x hx hy=>?_;obtain⟨s,_,rfl⟩:=List.mem_map.1 hx;obtain⟨s',_,e⟩:=List.mem_map.1 hy;simp at e;exact e.1.symm
theorem TF:∀{d U:Nat}{o:Option Nat},(ext m pc ft d U o).length<=m^d
 |0,U,o=>by unfold ext;simp
 |d+1,U,o=>by
  unfold ext;rw[List.length_flatMap];have:∀L:List Nat,(L.map fun k=>((ext m pc ft d (put U (pc k)) (some k)).map (k::·)).length).sum<=L.length*m^d:=by
   intro L
   induction L with
   |nil=>simp
   |cons a L ih=>
    have:=TF (d:=d) (U:=put U (pc a)) (o:=some a);simp only[List.map_cons,List.sum_cons,List.length_map,List.length_cons,Nat.succ_mul]at*;omega
  have h2:(F8 m pc ft U o).length<=m:=Nat.le_trans (List.length_filter_le ..) (by simp);rw[Nat.pow_succ,Nat.mul_comm (m^d)];exact Nat.le_trans (this _) (Nat.mul_le_mul_right _ h2)
theorem WG{i:Nat}:∀{q:List Nat}{o:Option Nat},KQ ft o (q++[i])=(KQ ft o q&&okn ft (match q.getLast? with|some k=>some k|none=>o) i)
 |[],o=>by simp[KQ]
 |a::q,o=>by
  rw[List.cons_append,KQ,KQ,WG (q:=q) (o:=some a),Bool.and_assoc];cases q with
  |nil=>rfl
  |cons b q=>rw[List.getLast?_cons_cons];cases h:(b::q).getLast?<;>simp_all
theorem Xo{t:List Nat}:∀{q:List Nat}{o:Option Nat},KQ ft o (q++t)=(KQ ft o q&&KQ ft (match q.getLast? with|some k=>some k|none=>o) t)
 |[],o=>by simp[KQ]
 |a::q,o=>by
  rw[List.cons_append,KQ,KQ,Xo (q:=q) (o:=some a),Bool.and_assoc];cases q with
  |nil=>rfl
  |cons b q=>rw[List.getLast?_cons_cons];cases h:(b::q).getLast?<;>simp_all
structure Co(m:Nat)(pc:Nat->Nat)(ft:Nat->Nat->Bool)(d U i:Nat)(t:List Nat):Prop where
 last:∃q,t=q++[i]
 len:t.length=d+1
 mem:∀k∈t,k<m
 set:∀p,p<8->(U.testBit p=true↔p∈t.map pc)
 nod:(t.map pc).Nodup
 seq:KQ ft none t=true
theorem Xp{U p q:Nat}(hU:U<256)(hp:p<8)(hq:q<8):(out U p).testBit q=(U.testBit q&& !decide (q=p)):=by
 have:=iE ⟨p,hp⟩ ⟨q,hq⟩ ⟨U,hU⟩;rw[this]
 congr 2
 exact decide_eq_decide.2 ⟨fun h=>by simpa using congrArg Fin.val h,fun h=>Fin.ext h⟩
theorem XM{U:Nat}(hn:n<=8)(hU:U<2^n)(h:us n U=0):U=0:=by
 have h2:2^n<=2^8:=Nat.pow_le_pow_right (by omega) hn;exact(Nr ⟨n,by omega⟩ ⟨U,by omega⟩ hU).2.1.2 h
theorem SC{U p:Nat}(hn:n<=8)(hp:p<n)(hU:U<2^n):out U p<2^n/\(U.testBit p=true->us n (out U p)+1=us n U):=by
 have h2:2^n<=2^8:=Nat.pow_le_pow_right (by omega) hn;have:=WE ⟨n,by omega⟩ ⟨p,by omega⟩ ⟨U,by omega⟩ hp hU;exact⟨this.2.1,this.2.2.2⟩
theorem OM{U p:Nat}(hn:n<=8)(hp:p<n)(hU:U<2^n):put U p<2^n/\(U.testBit p=false->fr n (put U p)+1=fr n U):=by
 have h2:2^n<=2^8:=Nat.pow_le_pow_right (by omega) hn;have:=WE ⟨n,by omega⟩ ⟨p,by omega⟩ ⟨U,by omega⟩ hp hU;exact⟨this.1,this.2.2.1⟩
theorem Zi{U:Nat}(hn:n<=8)(hU:U<2^n):fr n U+us n U=n:=by
 have h2:2^n<=2^8:=Nat.pow_le_pow_right (by omega) hn;exact(Nr ⟨n,by omega⟩ ⟨U,by omega⟩ hU).2.2
theorem lK{U:Nat}(hn:n<=8)(hU:U<2^n):U=2^n-1↔fr n U=0:=by
 have h2:2^n<=2^8:=Nat.pow_le_pow_right (by omega) hn;exact(Nr ⟨n,by omega⟩ ⟨U,by omega⟩ hU).1
theorem WH(hn:n<=8)(hpc:∀k,k<m->pc k<n):∀{d U i:Nat}{t:List Nat},U<2^n->i<m->U.testBit (pc i)=true->us n U=d+1->t∈Cm m pc ft d U i->Co m pc ft d U i t
 |0,U,i,t,hU,hi,hb,hd,h=>by
  have h2:2^n<=2^8:=Nat.pow_le_pow_right (by omega) hn;have hp:=hpc i hi;unfold Cm at h;rw[List.mem_singleton]at h;subst h;obtain⟨o1,o2⟩:=SC hn hp hU;have hz:=XM hn o1 (by have:=o2 hb;omega);refine⟨⟨[],rfl⟩,rfl,fun k hk=>by rw[List.mem_singleton]at hk;subst hk;exact hi,fun p hp8=>?_,by simp,by simp[KQ,okn]⟩;have:=Xp (U:=U) (p:=pc i) (q:=p) (by omega) (by omega) hp8;rw[hz,Nat.zero_testBit]at this;simp only[List.map_cons,List.map_nil,List.mem_singleton];constructor
  ·intro hh;rw[hh]at this;simpa using this
  ·rintro rfl;exact hb
 |d+1,U,i,t,hU,hi,hb,hd,h=>by
  have h2:2^n<=2^8:=Nat.pow_le_pow_right (by omega) hn;have hp:=hpc i hi;unfold Cm at h;obtain⟨k,hk,ht⟩:=List.mem_flatMap.1 h;obtain⟨q,hq,rfl⟩:=List.mem_map.1 ht;obtain⟨k1,k2,k3⟩:=bn.1 hk;obtain⟨o1,o2⟩:=SC hn hp hU;have g:=WH hn hpc o1 k1 k2 (by have:=o2 hb;omega) hq;have hob:∀p,p<8->(out U (pc i)).testBit p=(U.testBit p&& !decide (p=pc i)):=fun p hp8=>Xp (by omega) (by omega) hp8;refine⟨⟨q,rfl⟩,by simp[g.len],fun x hx=>?_,fun p hp8=>?_,?_,?_⟩
  ·rcases List.mem_append.1 hx with hx|hx
   ·exact g.mem x hx
   ·rw[List.mem_singleton]at hx;subst hx;exact hi
  ·have:=g.set p hp8
   rw[hob p hp8]at this;rw[List.map_append,List.mem_append,<-this];simp only[List.map_cons,List.map_nil,List.mem_singleton];by_cases e:p=pc i
   ·subst e;simp[hb]
   ·simp[e]
  ·rw[List.map_append,List.nodup_append]
   refine⟨g.nod,by simp,fun x hx y hy e=>?_⟩;simp only[List.map_cons,List.map_nil,List.mem_singleton]at hy;subst hy;subst e;have:=(g.set (pc i) (by omega)).2 hx;rw[hob _ (by omega)]at this;simp at this
  ·rw[WG,g.seq]
   obtain⟨r,rfl⟩:=g.last;rw[List.getLast?_concat];simp[okn,k3]
theorem XO{U i:Nat}:(SB m pc ft U i).Nodup:=List.Nodup.sublist List.filter_sublist List.nodup_range
theorem WI:∀{d U i:Nat}{t:List Nat},t∈Cm m pc ft d U i->t.getLast?=some i
 |0,U,i,t,h=>by unfold Cm at h;rw[List.mem_singleton]at h;subst h;rfl
 |d+1,U,i,t,h=>by
  unfold Cm at h;obtain⟨k,hk,ht⟩:=List.mem_flatMap.1 h;obtain⟨q,hq,rfl⟩:=List.mem_map.1 ht;rw[List.getLast?_concat]
theorem UN:∀{d U i:Nat},(Cm m pc ft d U i).Nodup
 |0,U,i=>by unfold Cm;simp
 |d+1,U,i=>by
  unfold Cm;refine JF XO (fun k _=>Lx UN fun a _ b _ e=>by simpa using e) fun a _ b _ x hx hy=>?_;obtain⟨s,hs,rfl⟩:=List.mem_map.1 hx;obtain⟨s',hs',e⟩:=List.mem_map.1 hy;have e:s'=s:=by simpa using e
  subst e;have h1:=WI hs;rw[WI hs']at h1;cases h1;rfl
theorem TJ:∀{d U i:Nat},(Cm m pc ft d U i).length<=m^d
 |0,U,i=>by unfold Cm;simp
 |d+1,U,i=>by
  unfold Cm;rw[List.length_flatMap];have:∀L:List Nat,(L.map fun k=>((Cm m pc ft d (out U (pc i)) k).map (·++[i])).length).sum<=L.length*m^d:=by
   intro L
   induction L with
   |nil=>simp
   |cons a L ih=>
    have:=TJ (d:=d) (U:=out U (pc i)) (i:=a);simp only[List.map_cons,List.sum_cons,List.length_map,List.length_cons,Nat.succ_mul]at*;omega
  have h2:(SB m pc ft U i).length<=m:=Nat.le_trans (List.length_filter_le ..) (by simp);rw[Nat.pow_succ,Nat.mul_comm (m^d)];exact Nat.le_trans (this _) (Nat.mul_le_mul_right _ h2)
def Js(n m:Nat)(pc:Nat->Nat)(ft:Nat->Nat->Bool):List (List Nat):=ext m pc ft n 0 none
def P6(i k:Nat):List Nat->Bool
 |a::b::t=>(decide (a=i)&&decide (b=k))||P6 i k (b::t)
 |_=>false
theorem TK{i k:Nat}:∀{t:List Nat},P6 i k t=true↔∃q r,t=q++i::k::r
 |[]=>by simp[P6]
 |[a]=>by
  simp only[P6,Bool.false_eq_true,false_iff];rintro⟨q,r,h⟩;have:=congrArg List.length h;simp at this;omega
 |a::b::t=>by
  rw[P6,Bool.or_eq_true,TK (t:=b::t)];constructor
  ·rintro(h|⟨q,r,h⟩)
   ·simp at h;exact⟨[],t,by rw[h.1,h.2];rfl⟩
   ·exact⟨a::q,r,by rw[h];rfl⟩
  ·rintro⟨q,r,h⟩
   cases q with
   |nil=>simp at h;exact .inl (by simp[h.1,h.2.1])
   |cons c q=>simp at h;exact .inr ⟨q,r,h.2⟩
def wy(n m:Nat)(pc:Nat->Nat)(ft:Nat->Nat->Bool)(i k U:Nat):Nat:=
 if U.testBit (pc i)=true/\k∈F8 m pc ft U (some i)then(Cm m pc ft (us n U-1) U i).length*(ext m pc ft (fr n (put U (pc k))) (put U (pc k)) (some k)).length else 0
def th(n m:Nat)(pc:Nat->Nat)(ft:Nat->Nat->Bool)(i k U:Nat):List (List Nat):=
 if U.testBit (pc i)=true/\k∈F8 m pc ft U (some i)then(Cm m pc ft (us n U-1) U i).flatMap fun p=>(ext m pc ft (fr n (put U (pc k))) (put U (pc k)) (some k)).map fun t=>p++k::t else[]
theorem pF(i k U:Nat):(th n m pc ft i k U).length=wy n m pc ft i k U:=by
 unfold th wy;split
 ·rw[List.length_flatMap]
  simp[List.map_const',List.sum_replicate_nat]
 ·rfl
theorem WJ{U p:Nat}(hn:n<=8)(hp:p<n)(hU:U<2^n)(hb:U.testBit p=true):1<=us n U:=by
 have:=(SC hn hp hU).2 hb;omega
theorem iG{U V:Nat}(hU:U<256)(hV:V<256)(h:∀p,p<8->(U.testBit p=true↔V.testBit p=true)):U=V:=by
 apply Nat.eq_of_testBit_eq;intro p;by_cases hp:p<8
 ·rw[Bool.eq_iff_iff];exact h p hp
 ·have e:2^8<=2^p:=Nat.pow_le_pow_right (by omega) (by omega)
  rw[Nat.testBit_lt_two_pow (by omega),Nat.testBit_lt_two_pow (by omega)]
theorem WK(hn:n<=8)(hpc:∀k,k<m->pc k<n){i k U:Nat}(hi:i<m)(hU:U<2^n){t:List Nat}(h:t∈th n m pc ft i k U):
  t∈Js n m pc ft/\P6 i k t=true/\∃p r,t=p++k::r/\k∉p/\(∀x,x<8->(U.testBit x=true↔x∈p.map pc)):=by
 have h2:2^n<=2^8:=Nat.pow_le_pow_right (by omega) hn;unfold th at h;split at h
 ·rename_i hc
  obtain⟨hb,hk⟩:=hc;obtain⟨k1,k2,k3⟩:=IQ.1 hk;obtain⟨p,hp,ht⟩:=List.mem_flatMap.1 h;obtain⟨r,hr,rfl⟩:=List.mem_map.1 ht;have hpos:=WJ hn (hpc i hi) hU hb;have g:=WH hn hpc hU hi hb (by omega) hp;have e:=KF.1 hr;obtain⟨p1,p2⟩:=OM hn (hpc k k1) hU;have hfu:=Zi hn hU;have hf:=p2 k2;have her:∀x∈r,U.testBit (pc x)=false/\pc x≠pc k:=fun x hx=>by
   have:=(e.mem x hx).2;rw[TD]at this;simpa using this
  have hpU:∀x∈p,U.testBit (pc x)=true:=fun x hx=>(g.set (pc x) (by have:=hpc x (g.mem x hx);omega)).2 (List.mem_map.2 ⟨x,hx,rfl⟩);have hkp:k∉p:=fun hh=>by rw[hpU k hh]at k2;cases k2
  refine⟨?_,?_,p,r,rfl,hkp,g.set⟩
  ·refine KF.2 ⟨?_,fun x hx=>⟨?_,Nat.zero_testBit _⟩,?_,?_⟩
   ·rw[List.length_append,List.length_cons,g.len,e.len];omega
   ·rcases List.mem_append.1 hx with hx|hx
    ·exact g.mem x hx
    ·rcases List.mem_cons.1 hx with rfl|hx
     ·exact k1
     ·exact(e.mem x hx).1
   ·rw[List.map_append,List.map_cons,List.nodup_append]
    refine⟨g.nod,List.nodup_cons.2 ⟨fun hh=>?_,e.nod⟩,fun a ha b hb' eab=>?_⟩
    ·obtain⟨x,hx,ex⟩:=List.mem_map.1 hh
     exact(her x hx).2 ex
    ·obtain⟨x,hx,rfl⟩:=List.mem_map.1 ha
     have hxU:=hpU x hx;rcases List.mem_cons.1 hb' with hb'|hb'
     ·rw[eab,hb',k2]at hxU;cases hxU
     ·obtain⟨y,hy,rfl⟩:=List.mem_map.1 hb'
      rw[eab,(her y hy).1]at hxU;cases hxU
   ·rw[Xo,g.seq]
    obtain⟨q,rfl⟩:=g.last;rw[List.getLast?_concat];simp only[Bool.true_and];rw[KQ,k3,e.seq];rfl
  ·obtain⟨q,rfl⟩:=g.last
   exact TK.2 ⟨q,r,by simp⟩
 ·cases h
theorem iH(hn:n<=8)(hpc:∀k,k<m->pc k<n){i k U:Nat}(hi:i<m)(hU:U<2^n):(th n m pc ft i k U).Nodup:=by
 have h2:2^n<=2^8:=Nat.pow_le_pow_right (by omega) hn;unfold th;split
 ·rename_i hc
  obtain⟨hb,hk⟩:=hc;obtain⟨k1,k2,k3⟩:=IQ.1 hk;have hpos:=WJ hn (hpc i hi) hU hb;have hkp:∀p∈Cm m pc ft (us n U-1) U i,k∉p:=fun p hp hh=>by
   have g:=WH hn hpc hU hi hb (by omega) hp;have:=(g.set (pc k) (by have:=hpc k k1;omega)).2 (List.mem_map.2 ⟨k,hh,rfl⟩);rw[this]at k2;cases k2
  refine JF UN (fun p _=>Lx UM fun a _ b _ e=>by simpa using e) fun p hp q hq x hx hy=>?_;obtain⟨r,_,rfl⟩:=List.mem_map.1 hx;obtain⟨s,_,e⟩:=List.mem_map.1 hy;exact(PD e (hkp q hq) (hkp p hp)).1.symm
 ·simp
def cB(n m:Nat)(pc:Nat->Nat)(ft:Nat->Nat->Bool)(i k:Nat):Nat:=((List.range (2^n)).map (wy n m pc ft i k)).sum
theorem lQ(hn:n<=8)(hpc:∀k,k<m->pc k<n){i k:Nat}(hi:i<m)(h:(Js n m pc ft).length<=cB n m pc ft i k):∀t∈Js n m pc ft,P6 i k t=true:=by
 have h2:2^n<=2^8:=Nat.pow_le_pow_right (by omega) hn;have e1:((List.range (2^n)).flatMap (th n m pc ft i k)).length=cB n m pc ft i k:=by
  rw[List.length_flatMap];unfold cB
  congr 1
  exact List.map_congr_left fun U _=>pF i k U
 have e2:((List.range (2^n)).flatMap (th n m pc ft i k)).Nodup:=by
  refine JF List.nodup_range (fun U hU=>iH hn hpc hi (List.mem_range.1 hU)) fun U hU V hV x hx hy=>?_;have hU:=List.mem_range.1 hU;have hV:=List.mem_range.1 hV;obtain⟨_,_,p,r,rfl,h3,h4⟩:=WK hn hpc hi hU hx;obtain⟨_,_,q,s,e,h5,h6⟩:=WK hn hpc hi hV hy;have:=(PD e h3 h5).1;subst this;exact iG (by omega) (by omega) fun b hb=>(h4 b hb).trans (h6 b hb).symm
 have e3:=Nq (k:=(Js n m pc ft).filter (P6 i k)) e2 fun t ht=>by
  obtain⟨U,hU,ht⟩:=List.mem_flatMap.1 ht;obtain⟨a,b,_⟩:=WK hn hpc hi (List.mem_range.1 hU) ht;exact List.mem_filter.2 ⟨a,b⟩
 exact Zh (by omega)
end
end
section
theorem b1:∀(y:Fin 256)(p:Fin 8),∃s,shr .i64 (y.val:Int) (p.val:Int)=some s/\decide (band .i64 s 1=1)=y.val.testBit p.val/\decide (band .i64 s 1=0)=!y.val.testBit p.val:=by
 have h:∀(y:Fin 256)(p:Fin 8),((shr .i64 (y.val:Int) (p.val:Int)).map fun s=>(decide (band .i64 s 1=1),decide (band .i64 s 1=0)))=some (y.val.testBit p.val,!y.val.testBit p.val):=by decide+kernel
 intro y p;obtain⟨s,h1,h2⟩:=Option.map_eq_some_iff.1 (h y p);simp only[Prod.mk.injEq]at h2;exact⟨s,h1,h2.1,h2.2⟩
theorem b2:∀(y:Fin 256)(p:Fin 8),∃t,shl .i64 1 (p.val:Int)=some t/\Pg .i64 (y.val:Int) t=((put y.val p.val:Nat):Int)/\NY .i64 (y.val:Int) t=((out y.val p.val:Nat):Int)/\decide (band .i64 (y.val:Int) t=0)=!y.val.testBit p.val:=by
 have h:∀(y:Fin 256)(p:Fin 8),((shl .i64 1 (p.val:Int)).map fun t=>(Pg .i64 (y.val:Int) t,NY .i64 (y.val:Int) t,decide (band .i64 (y.val:Int) t=0)))=some (((put y.val p.val:Nat):Int),((out y.val p.val:Nat):Int),!y.val.testBit p.val):=by decide+kernel
 intro y p;obtain⟨s,h1,h2⟩:=Option.map_eq_some_iff.1 (h y p);simp only[Prod.mk.injEq]at h2;exact⟨s,h1,h2.1,h2.2.1,h2.2.2⟩
theorem b3:∀n:Fin 9,shl .i64 1 (n.val:Int)=some (((2^n.val:Nat)):Int):=by decide+kernel
abbrev A7(c:BJ):List Ap:=Ev 0 c.1
def BG(c:BJ)(k:Nat):Nat:=((A7 c).getD k default).1.toNat
def GI(c:BJ)(i k:Nat):Bool:=fit c ((A7 c).getD i default) ((A7 c).getD k default)
abbrev Xs(c:BJ)(X:Em):Ba:=(c,A7 c,X,.mk,.mk)
def F9(o:Option Nat):Int:=match o with|none=>-1|some i=>(i:Int)
section
variable {c:BJ}{X:Em}
theorem JQ(hv:VC c):(A7 c).length<=16:=by
 have:=O0 c.1 0;have:=hv.n8;show(Ev 0 c.1).length<=16;omega
theorem KR(hv:VC c){k:Nat}(hk:k<(A7 c).length):ix (A7 c) (k:Int)=some (A7 c)[k]/\((A7 c)[k]).1=((BG c k:Nat):Int)/\BG c k<c.1.length/\(A7 c)[k]?=some (A7 c)[k]:=by
 have hm:(A7 c)[k]∈Ev 0 c.1:=List.getElem_mem hk;obtain⟨i,h1,p,h2,_⟩:=KE.1 hm;have hi:=(List.getElem?_eq_some_iff.1 h2).1;have e:BG c k=i:=by unfold BG;rw[List.getD_eq_getElem?_getD,List.getElem?_eq_getElem hk,Option.getD_some,h1];simp
 exact⟨Az hk,by rw[h1,e],by omega,List.getElem?_eq_getElem hk⟩
theorem SE(hX:NK c X){i k:Nat}(hi:i<(A7 c).length)(hk:k<(A7 c).length):∃r,ix X.l (i:Int)=some r/\ix r.l (k:Int)=some (if GI c i k=true then 1 else 0):=by
 obtain⟨r,h1,h2⟩:=hX i k _ _ (List.getElem?_eq_getElem hi) (List.getElem?_eq_getElem hk);refine⟨r,h1,?_⟩;rw[h2];unfold GI;simp[hi,hk]
def NM(c:BJ)(U:Nat)(o:Option Nat):Prop:=U<2^c.1.length/\∀i,o=some i->i<(A7 c).length
theorem TL(hv:VC c){U:Nat}(hU:U<2^c.1.length):U<256:=by
 have h2:2^c.1.length<=2^8:=Nat.pow_le_pow_right (by omega) hv.n8;omega
theorem lS(hv:VC c)(hX:NK c X){U:Nat}{o:Option Nat}(hs:NM c U o){k:Nat}(hk:k<(A7 c).length):Ux (Xs c X) ((U:Int),F9 o) (k:Int)=some (!U.testBit (BG c k)&&okn (GI c) o k):=by
 obtain⟨e1,e2,e3,_⟩:=KR hv hk;have h8:=hv.n8;obtain⟨s,f1,f2,f3⟩:=b1 ⟨U,TL hv hs.1⟩ ⟨BG c k,by omega⟩;unfold Ux Hl;simp only[Ah,AJ];rw[e1];simp only[AJ];rw[e2,f1];simp only[AJ];rw[f3];cases hb:U.testBit (BG c k)with
 |true=>rfl
 |false=>
  simp only[Bool.not_false,if_true,Bool.true_and];cases o with
  |none=>rfl
  |some i=>
   obtain⟨r,g1,g2⟩:=SE hX (hs.2 i rfl) hk;rw[if_neg (by unfold F9;simp)];show((ix X.l (i:Int)).bind fun r=>_)=_;rw[g1];simp only[AJ];rw[g2];simp only[AJ,okn];cases GI c i k<;>rfl
theorem tX(hv:VC c){U:Nat}{o:Option Nat}(hs:NM c U o){k:Nat}(hk:k<(A7 c).length):JD (Xs c X) ((U:Int),F9 o) (k:Int)=some (((put U (BG c k):Nat):Int),(k:Int)):=by
 obtain⟨e1,e2,e3,_⟩:=KR hv hk;have h8:=hv.n8;obtain⟨t,f1,f2,_⟩:=b2 ⟨U,TL hv hs.1⟩ ⟨BG c k,by omega⟩;unfold JD;rw[e1];simp only[Ah,AJ];rw[e2,f1];simp only[AJ];rw[show Pg .i64 (U:Int) t=_ from f2]
def PV(c:BJ)(U k:Nat):BB:=(((put U (BG c k):Nat):Int),(k:Int))
theorem cK(hv:VC c)(hX:NK c X){U:Nat}{o:Option Nat}(hs:NM c U o):∀(d k:Nat),k+d=(A7 c).length->Iw (Xs c X) ((U:Int),F9 o) d k=some (((List.range' k d).filter fun k=>!U.testBit (BG c k)&&okn (GI c) o k).map (PV c U))
 |0,k,_=>rfl
 |d+1,k,h=>by
  unfold Iw;rw[lS hv hX hs (show k<_ by omega)];simp only[Ah,AJ];rw[cK hv hX hs d (k+1) (by omega),List.range'_succ,List.filter_cons];simp only[AJ];cases hb:!U.testBit (BG c k)&&okn (GI c) o k with
  |true=>
   rw[if_pos rfl,tX hv hs (by omega)];simp[PV]
  |false=>rw[if_neg (by simp)];simp
theorem P7(hv:VC c)(hX:NK c X){U:Nat}{o:Option Nat}(hs:NM c U o):GX (Xs c X) ((U:Int),F9 o)=some ((F8 (A7 c).length (BG c) (GI c) U o).map (PV c U)):=by
 have e:=cK hv hX hs (A7 c).length 0 (by omega);rw[<-List.range_eq_range']at e;unfold GX;show(if(!decide (F9 o=-1))=true then _ else Iw (Xs c X) ((U:Int),F9 o) (A7 c).length 0)=_;cases o with
 |none=>rw[if_neg (by simp[F9])];exact e
 |some i=>
  have hi:=hs.2 i rfl;rw[if_pos (by simp[F9])];obtain⟨r,g1,_⟩:=SE hX hi hi;show((ix X.l (i:Int)).bind fun r=>_)=_;rw[g1];simp only[AJ];by_cases hz:r=Ar.fill 16 0
  ·rw[if_pos (by simp[hz])]
   have hnil:F8 (A7 c).length (BG c) (GI c) U (some i)=[]:=by
    refine List.filter_eq_nil_iff.2 fun k hk=>?_;have hk:=List.mem_range.1 hk;obtain⟨r',g3,g4⟩:=SE hX hi hk;rw[g1]at g3;cases g3;have:ix (Ar.fill 16 (0:Int)).l (k:Int)=some 0:=by
     have:=JQ hv;rw[Az (by rw[(Ar.fill 16 (0:Int)).h];omega)]
     congr 1
     exact List.getElem_replicate ..
    rw[hz,this]at g4;cases hf:GI c i k with
    |true=>rw[hf]at g4;simp at g4
    |false=>simp[okn,hf]
   rw[hnil];rfl
  ·rw[if_neg (by simpa using hz)];exact e
abbrev G7(c:BJ)(U:Nat)(o:Option Nat):List (List Nat):=ext (A7 c).length (BG c) (GI c) (fr c.1.length U) U o
def Ho(c:BJ)(A:Be):Prop:=∀p∈A,∃(U:Nat)(o:Option Nat),p.1=((U:Int),F9 o)/\p.2=(((G7 c U o).length:Nat):Int)
theorem cO{o o':Option Nat}(h:F9 o=F9 o'):o=o':=by
 cases o<;>cases o'<;>simp[F9]at h⊢<;>omega
theorem Zj{a b:Int}(ha:-1000<=a/\a<=1000)(hb:-1000<=b/\b<=1000):MB ((a,b):Int×Int)=some ():=by
 unfold MB;rw[if_pos];show((Lit.int .i64 a).wf&&(Lit.int .i64 b).wf)=true;have h1:IntKind.i64.min=-9223372036854775808:=rfl;have h2:IntKind.i64.max=9223372036854775807:=rfl;simp[Lit.wf,h1,h2];omega
theorem PE(hv:VC c):∀k,k<(A7 c).length->BG c k<c.1.length:=fun k hk=>(KR hv hk).2.2.1
theorem WM(hv:VC c)(U:Nat)(o:Option Nat):(G7 c U o).length<=16^8:=by
 have h1:=JQ hv;have h2:=hv.n8;have h3:fr c.1.length U<=8:=by
  unfold fr;have:=List.length_filter_le (fun p=>!U.testBit p) (List.range c.1.length);rw[List.length_range]at this;omega
 refine Nat.le_trans TF ?_;exact Nat.le_trans (Nat.pow_le_pow_left h1 _) (Nat.pow_le_pow_right (by omega) h3)
theorem Zk{κ ν:Type}[DecidableEq κ]{k:κ}{v:ν}{p:κ×ν}:∀{m:List (κ×ν)},p∈BO m k v->p=(k,v)\/p∈m
 |[],h=>by rw[BO,List.mem_singleton]at h;exact .inl h
 |(a,b)::m,h=>by
  unfold BO at h;by_cases e:a=k
  ·rw[if_pos e]at h
   rcases List.mem_cons.1 h with h|h
   ·exact .inl h
   ·exact .inr (List.mem_cons_of_mem _ h)
  ·rw[if_neg e]at h
   rcases List.mem_cons.1 h with h|h
   ·exact .inr (by rw[h];exact List.mem_cons_self ..)
   ·exact(Zk h).imp id (List.mem_cons_of_mem _)
theorem Zl{κ ν:Type}[DecidableEq κ]{d:ν}{k:κ}:∀{m:List (κ×ν)},IV m k=true->(k,BD d m k)∈m
 |[],h=>by cases h
 |(a,b)::m,h=>by
  unfold IV at h;unfold BD;by_cases e:a=k
  ·rw[if_pos e];subst e;exact List.mem_cons_self ..
  ·rw[if_neg e]at h⊢
   exact List.mem_cons_of_mem _ (Zl h)
theorem UO{f:Be->BB->Option (Int×Be)}{v:Nat->Nat}{st:Nat->BB}(hv:VC c)(hb:∀k,v k<=16^8):∀(L:List Nat)(a:Nat)(A:Be),(∀k∈L,∀A,Ho c A->∃A',f A (st k)=some (((v k:Nat):Int),A')/\Ho c A')->Ho c A->a+L.length*16^8<=16^10->
  ∃A',Lr f (L.map st) (a:Int) A=some ((((a+(L.map v).sum:Nat)):Int),A')/\Ho c A'
 |[],a,A,_,hA,_=>⟨A,by simp[Lr],hA⟩
 |k::L,a,A,hf,hA,hl=>by
  obtain⟨A1,e1,e2⟩:=hf k (List.mem_cons_self ..) A hA;have hbk:=hb k;have h16:(16:Nat)^8=4294967296:=rfl;have h17:(16:Nat)^10=1099511627776:=rfl;simp only[List.length_cons,Nat.succ_mul]at hl;obtain⟨A2,e3,e4⟩:=UO hv hb L (a+v k) A1 (fun j hj=>hf j (List.mem_cons_of_mem _ hj)) e2 (by omega);refine⟨A2,?_,e4⟩;rw[List.map_cons,Lr,e1];simp only[Ah,AJ];rw[BK (by omega),show(a:Int)+(v k:Int)=((a+v k:Nat):Int) by omega,e3,List.map_cons,List.sum_cons,Nat.add_assoc]
theorem QS(hv:VC c)(hX:NK c X):∀(mf U:Nat)(o:Option Nat)(A:Be),NM c U o->fr c.1.length U<mf->Ho c A->∃A',Ck (Xs c X) mf A ((U:Int),F9 o)=some ((((G7 c U o).length:Nat):Int),A')/\Ho c A'
 |0,U,o,A,_,h,_=>by omega
 |mf+1,U,o,A,hs,hf,hA=>by
  have h8:=hv.n8;have hU:=TL hv hs.1;have hz:=lK hv.n8 hs.1;have h16:(16:Nat)^8=4294967296:=rfl;have h17:(16:Nat)^10=1099511627776:=rfl;have hm:=JQ hv;unfold Ck;rw[show shl .i64 1 ((Xs c X).1.1.length:Int)=some (((2^c.1.length:Nat)):Int)from b3 ⟨c.1.length,by omega⟩];simp only[Ah,AJ];have h2:2^c.1.length<=2^8:=Nat.pow_le_pow_right (by omega) h8;have h3:1<=2^c.1.length:=Nat.one_le_two_pow;rw[BK (by omega)];by_cases hfull:fr c.1.length U=0
  ·rw[if_pos (by have:=hz.2 hfull;simp only[decide_eq_true_eq];omega)]
   refine⟨A,?_,hA⟩;unfold G7;rw[hfull];rfl
  ·rw[if_neg (by simp only[decide_eq_true_eq];intro e;exact hfull (hz.1 (by omega)))]
   have hlast:-1<=F9 o/\F9 o<=16:=by
    cases o with
    |none=>simp[F9]
    |some i=>have:=hs.2 i rfl;simp[F9];omega
   rw[Zj (by omega) (by omega)];simp only[AJ];by_cases hh:IV A ((U:Int),F9 o)=true
   ·rw[if_pos hh]
    obtain⟨V,o',e1,e2⟩:=hA _ (Zl (d:=(0:Int)) hh);simp only[Prod.mk.injEq]at e1;have hV:U=V:=by omega
    have ho:=cO e1.2;subst hV;subst ho;exact⟨A,by rw[show BD 0 A ((U:Int),F9 o)=_ from e2],hA⟩
   ·rw[if_neg hh,P7 hv hX hs]
    simp only[AJ];obtain⟨d,hd⟩:∃d,fr c.1.length U=d+1:=⟨fr c.1.length U-1,by omega⟩;have hnx:∀k∈F8 (A7 c).length (BG c) (GI c) U o,NM c (put U (BG c k)) (some k)/\fr c.1.length (put U (BG c k))=d:=fun k hk=>by
     obtain⟨k1,k2,_⟩:=IQ.1 hk;obtain⟨p1,p2⟩:=OM hv.n8 (PE hv k k1) hs.1;exact⟨⟨p1,fun i hi=>by cases hi;exact k1⟩,by have:=p2 k2;omega⟩
    have hnl:(F8 (A7 c).length (BG c) (GI c) U o).length<=16:=Nat.le_trans (List.length_filter_le ..) (by simpa using hm);obtain⟨A',e1,e2⟩:=UO (f:=fun A u=>Ck (Xs c X) mf A u) (v:=fun k=>(G7 c (put U (BG c k)) (some k)).length) (st:=PV c U) hv (fun k=>WM hv _ _) (F8 (A7 c).length (BG c) (GI c) U o) 0 A
     (fun k hk A hA=>QS hv hX mf (put U (BG c k)) (some k) A (hnx k hk).1 (by have:=(hnx k hk).2;omega) hA) hA (by omega)
    rw[show((0:Nat):Int)=0 from rfl]at e1;rw[e1];simp only[AJ];have hlen:(G7 c U o).length=0+((F8 (A7 c).length (BG c) (GI c) U o).map fun k=>(G7 c (put U (BG c k)) (some k)).length).sum:=by
     unfold G7;rw[hd,ext,List.length_flatMap,Nat.zero_add]
     congr 1
     refine List.map_congr_left fun k hk=>?_;rw[List.length_map,(hnx k hk).2]
    rw[<-hlen];refine⟨_,rfl,fun p hp=>?_⟩;rcases Zk hp with rfl|hp
    ·exact⟨U,o,rfl,rfl⟩
    ·exact e2 p hp
abbrev Jc(c:BJ):List (List Nat):=Js c.1.length (A7 c).length (BG c) (GI c)
theorem jX(c:BJ):fr c.1.length 0=c.1.length:=by unfold fr;rw[List.filter_eq_self.2 (fun p _=>by simp),List.length_range]
theorem jY(c:BJ):NM c 0 none:=⟨Nat.two_pow_pos _,fun i h=>by cases h⟩
theorem all_eq{F:Nat}(hF:1000<F)(hv:VC c)(hX:NK c X){A:Be}(hA:Ho c A):∃A',Ck (Xs c X) F A (0,-1)=some ((((Jc c).length:Nat):Int),A')/\Ho c A':=by
 have h8:=hv.n8;obtain⟨A',h1,h2⟩:=QS hv hX F 0 none A (jY c) (by rw[jX];omega) hA;refine⟨A',?_,h2⟩;have e:G7 c 0 none=Jc c:=by unfold G7 Jc Js;rw[jX]
 rw[e]at h1;exact h1
theorem P8:Ho c []:=fun p hp=>by cases hp
theorem count_eq{F:Nat}(hF:1000<F)(hv:VC c):KC F c=some ((((Jc c).length:Nat):Int),0):=by
 obtain⟨X,h1,hX⟩:=TB hF hv (l:=[]) (fun s hs=>by cases hs) (by simp);obtain⟨A',h2,_⟩:=all_eq hF hv hX P8;unfold KC;rw[h1];simp only[Ah,AJ];rw[if_neg (by simp)];rw[show Ck (c,Ev 0 c.1,X,Opq.mk,Opq.mk) F [] (0,-1)=_ from h2]
 rfl
theorem jZ(hv:VC c):(Jc c).length<=16^8:=by
 have:=WM hv 0 none;unfold G7 at this;rw[jX]at this;exact this
def LF(c:BJ)(t:List Nat):List Ap:=t.map fun k=>(A7 c).getD k default
theorem Xq(hv:VC c)(hX:NK c X){mf U d:Nat}{o:Option Nat}(hs:NM c U o)(hd:fr c.1.length U=d+1)(hmf:d<mf):∀(L:List Nat)(num:Nat)(A:Be)(t:List Nat),(∀k∈L,k∈F8 (A7 c).length (BG c) (GI c) U o)->Ho c A->num<=16^8->
  (L.flatMap fun k=>(ext (A7 c).length (BG c) (GI c) d (put U (BG c k)) (some k)).map (k::·))[num]?=some t->
  ∃(k num':Nat)(A':Be)(t':List Nat),LX (Xs c X) mf (L.map (PV c U)) (num:Int) A=some (some (PV c U k),(num':Int),A')/\Ho c A'/\k∈L/\t=k::t'/\num'<=16^8/\(ext (A7 c).length (BG c) (GI c) d (put U (BG c k)) (some k))[num']?=some t'
 |[],num,A,t,_,_,_,h=>by simp at h
 |k::L,num,A,t,hL,hA,hnum,h=>by
  have h16:(16:Nat)^8=4294967296:=rfl;obtain⟨k1,k2,_⟩:=IQ.1 (hL k (List.mem_cons_self ..));obtain⟨p1,p2⟩:=OM hv.n8 (PE hv k k1) hs.1;have hfr:fr c.1.length (put U (BG c k))=d:=by have:=p2 k2;omega
  obtain⟨A1,e1,e2⟩:=QS hv hX mf (put U (BG c k)) (some k) A ⟨p1,fun i hi=>by cases hi;exact k1⟩ (by omega) hA;have hle:=WM hv (put U (BG c k)) (some k);unfold G7 at e1 hle;rw[hfr]at e1 hle;rw[List.flatMap_cons]at h;rw[List.map_cons,LX,show Ck (Xs c X) mf A (PV c U k)=_ from e1];simp only[Ah,AJ];by_cases hlt:num<(ext (A7 c).length (BG c) (GI c) d (put U (BG c k)) (some k)).length
  ·rw[if_pos (by simpa using hlt)]
   rw[List.getElem?_append_left (by simpa using hlt),List.getElem?_map,List.getElem?_eq_getElem hlt]at h;simp only[Option.map_some,Option.some.injEq]at h;exact⟨k,num,A1,_,rfl,e2,List.mem_cons_self ..,h.symm,hnum,List.getElem?_eq_getElem hlt⟩
  ·rw[if_neg (by simp only[decide_eq_true_eq];omega)]
   rw[List.getElem?_append_right (by simp;omega),List.length_map]at h;rw[BK (by omega),show(num:Int)-((ext (A7 c).length (BG c) (GI c) d (put U (BG c k)) (some k)).length:Int)=((num-(ext (A7 c).length (BG c) (GI c) d (put U (BG c k)) (some k)).length:Nat):Int) by omega];obtain⟨k',num',A',t',g1,g2,g3,g4,g5,g6⟩:=Xq hv hX hs hd hmf L _ A1 t (fun j hj=>hL j (List.mem_cons_of_mem _ hj)) e2 (by omega) h;exact⟨k',num',A',t',g1,g2,List.mem_cons_of_mem _ g3,g4,g5,g6⟩
theorem cZ(hv:VC c)(hX:NK c X){mf:Nat}:∀(d U:Nat)(o:Option Nat)(num:Nat)(q:List Ap)(A:Be)(t:List Nat),NM c U o->fr c.1.length U=d->d<=mf->Ho c A->num<=16^8->q.length+d<=100->(ext (A7 c).length (BG c) (GI c) d U o)[num]?=some t->
  ∃A',LD (Xs c X) mf d ((U:Int),F9 o) (num:Int) q A=some (q++LF c t,A')/\Ho c A'
 |0,U,o,num,q,A,t,hs,hd,_,hA,_,_,h=>by
  unfold ext at h;have:t=[]:=by
   cases num with
   |zero=>simpa using h.symm
   |succ n=>simp at h
  subst this;exact⟨A,by simp[LD,LF],hA⟩
 |d+1,U,o,num,q,A,t,hs,hd,hmf,hA,hnum,hq,h=>by
  unfold ext at h;obtain⟨k,num',A',t',g1,g2,g3,g4,g5,g6⟩:=Xq hv hX hs hd (mf:=mf) (by omega) _ num A t (fun _ h=>h) hA hnum h;subst g4;obtain⟨k1,k2,_⟩:=IQ.1 g3;obtain⟨p1,p2⟩:=OM hv.n8 (PE hv k k1) hs.1;have hfr:fr c.1.length (put U (BG c k))=d:=by have:=p2 k2;omega
  obtain⟨e1,_,_,e4⟩:=KR hv k1;unfold LD;rw[P7 hv hX hs];simp only[Ah,AJ];rw[g1];simp only[AJ,Option.getD_some];rw[show ix (Xs c X).2.1 (PV c U k).2=some (A7 c)[k]from e1];simp only[AJ];rw[GQ (by simp;omega)];simp only[AJ];obtain⟨A2,f1,f2⟩:=cZ hv hX (mf:=mf) d (put U (BG c k)) (some k) num' (q++[(A7 c)[k]]) A' t' ⟨p1,fun i hi=>by cases hi;exact k1⟩ hfr (by omega) g2 g5 (by rw[List.length_append,List.length_singleton];omega) g6;refine⟨A2,?_,f2⟩;rw[show PV c U k=(((put U (BG c k):Nat):Int),F9 (some k))from rfl,f1];simp[LF,k1]
theorem pG{F:Nat}(hF:1000<F)(hv:VC c){num:Nat}{t:List Nat}(ht:(Jc c)[num]?=some t):LY F c (num:Int)=some (LF c t,0):=by
 have h16:(16:Nat)^8=4294967296:=rfl;have h8:=hv.n8;have hlt:num<(Jc c).length:=(List.getElem?_eq_some_iff.1 ht).1;have hle:=jZ hv;have htm:=KF.1 (List.mem_of_getElem? ht);obtain⟨X,h1,hX⟩:=TB hF hv (l:=[]) (fun s hs=>by cases hs) (by simp);obtain⟨A',h2,hA⟩:=all_eq hF hv hX P8;unfold LY;rw[h1];simp only[Ah,AJ];rw[if_neg (by simp),if_neg (by simp)];rw[show Ck (c,Ev 0 c.1,X,Opq.mk,Opq.mk) F [] (0,-1)=_ from h2];simp only[AJ];rw[if_neg (by simp only[decide_eq_true_eq];omega)];obtain⟨A2,f1,_⟩:=cZ hv hX (mf:=F) c.1.length 0 none num [] A' t (jY c) (jX c) (by omega) hA (by omega) (by simp;omega) ht;unfold Oz;rw[show LD (c,Ev 0 c.1,X,Opq.mk,Opq.mk) F (c,Ev 0 c.1,X,Opq.mk,Opq.mk).1.1.length (0,-1) (num:Int) [] A'=some ([]++LF c t,A2)from f1];simp only[Ah,AJ,List.nil_append];have hsl:(LF c t).length=c.1.length:=by unfold LF;rw[List.length_map,htm.len]
 have e5:mks 16 ((LF c t).length:Int) ((0,false):Ap)=some (List.replicate (LF c t).length (0,false)):=by
  unfold mks;rw[if_pos (by simp;omega)];rfl
 rw[e5];simp only[AJ]
 congr 2
 unfold J4;rw[List.length_replicate,List.take_length,List.drop_of_length_le (by simp),List.append_nil]
end
end
section
section
variable {c:BJ}{X:Em}
abbrev NN(c:BJ)(U i:Nat):List (List Nat):=Cm (A7 c).length (BG c) (GI c) (us c.1.length U-1) U i
def ja(c:BJ)(U i:Nat):Prop:=U<2^c.1.length/\i<(A7 c).length/\U.testBit (BG c i)=true
def Lf(c:BJ)(A:Be):Prop:=∀p∈A,∃(U i:Nat),p.1=((U:Int),(i:Int))/\p.2=(((NN c U i).length:Nat):Int)
theorem us_le(hv:VC c)(U:Nat):us c.1.length U<=8:=by
 have:=List.length_filter_le (fun p=>U.testBit p) (List.range c.1.length);rw[List.length_range]at this;have:=hv.n8;unfold us;omega
theorem pI(hv:VC c)(U i:Nat):(NN c U i).length<=268435456:=by
 show _<=16^7;have h1:=JQ hv;have h3:=us_le hv U;refine Nat.le_trans TJ ?_;exact Nat.le_trans (Nat.pow_le_pow_left h1 _) (Nat.pow_le_pow_right (by omega) (by omega))
theorem jb(hv:VC c)(hX:NK c X){f:Be->BB->Option (Int×Be)}{O i:Nat}(hO:O<256)(hi:i<(A7 c).length){v:Nat->Nat}{B C:Nat}(hC:C<=4611686018427387904)(hb:∀k,v k<=B)
  (hf:∀k,k<(A7 c).length->O.testBit (BG c k)=true->∀A,Lf c A->∃A',f A ((O:Int),(k:Int))=some (((v k:Nat):Int),A')/\Lf c A'):∀(m k a:Nat)(A:Be),k+m=(A7 c).length->Lf c A->a+m*B<=C->
  ∃A',Jp (Xs c X) f (O:Int) (i:Int) m k (a:Int) A=some (((a+(((List.range' k m).filter fun k=>O.testBit (BG c k)&&GI c k i).map v).sum:Nat):Int),A')/\Lf c A'
 |0,k,a,A,_,hA,_=>⟨A,by simp[Jp],hA⟩
 |m+1,k,a,A,hk,hA,hl=>by
  have hlt:k<(A7 c).length:=by omega
  have hbk:=hb k;rw[Nat.succ_mul]at hl;obtain⟨e1,e2,e3,_⟩:=KR hv hlt;have h8:=hv.n8;obtain⟨s,f1,f2,_⟩:=b1 ⟨O,hO⟩ ⟨BG c k,by omega⟩;unfold Jp;rw[show ix (Xs c X).2.1 (k:Int)=some (A7 c)[k]from e1];simp only[Ah,AJ];rw[e2,f1];simp only[AJ];rw[f2,List.range'_succ,List.filter_cons];have ih:=fun a' A' h1 h2=>jb hv hX hO hi hC hb hf m (k+1) a' A' (by omega) h1 h2;cases hbit:O.testBit (BG c k)with
  |false=>
   rw[if_neg (by simp)];simp only[Bool.false_and,Bool.false_eq_true,if_false];exact ih a A hA (by omega)
  |true=>
   rw[if_pos rfl];obtain⟨r,g1,g2⟩:=SE hX hlt hi;show∃A',((ix X.l (k:Int)).bind _)=_/\_;rw[g1];simp only[AJ];rw[g2];simp only[AJ,Bool.true_and];cases hft:GI c k i with
   |false=>
    simp only[Bool.false_eq_true,if_false];rw[if_neg (by simp)];exact ih a A hA (by omega)
   |true=>
    simp only[if_true];rw[if_pos (by simp)];obtain⟨A1,f3,f4⟩:=hf k hlt hbit A hA;rw[f3];simp only[AJ];obtain⟨A2,f5,f6⟩:=ih (a+v k) A1 f4 (by omega);refine⟨A2,?_,f6⟩;rw[BK (by omega),show(a:Int)+(v k:Int)=((a+v k:Nat):Int) by omega,f5,List.map_cons,List.sum_cons,Nat.add_assoc]
theorem Xr(hv:VC c)(hX:NK c X):∀(mf U i:Nat)(A:Be),ja c U i->us c.1.length U<mf->Lf c A->∃A',G6 (Xs c X) mf A ((U:Int),(i:Int))=some ((((NN c U i).length:Nat):Int),A')/\Lf c A'
 |0,U,i,A,_,h,_=>by omega
 |mf+1,U,i,A,hs,hf,hA=>by
  have h8:=hv.n8;have hU:=TL hv hs.1;have hm:=JQ hv;obtain⟨e1,e2,e3,_⟩:=KR hv hs.2.1;obtain⟨t,f1,_,f3,_⟩:=b2 ⟨U,hU⟩ ⟨BG c i,by omega⟩;obtain⟨o1,o2⟩:=SC hv.n8 e3 hs.1;have ho:=o2 hs.2.2;have hz:=(Nr ⟨c.1.length,by omega⟩ ⟨out U (BG c i),TL hv o1⟩ o1).2.1;unfold G6;have hi:=hs.2.1;rw[show ix (Xs c X).2.1 (i:Int)=some (A7 c)[i]from e1];simp only[Ah,AJ];rw[show((A7 c)[i]).1=((BG c i:Nat):Int)from e2,f1];simp only[AJ];rw[show NY .i64 (U:Int) t=((out U (BG c i):Nat):Int)from f3];by_cases h0:out U (BG c i)=0
  ·rw[if_pos (by simp[h0])]
   refine⟨A,?_,hA⟩;have:us c.1.length (out U (BG c i))=0:=hz.1 h0;unfold NN;rw[show us c.1.length U-1=0 by omega];rfl
  ·rw[if_neg (by simpa using h0)]
   have hne:us c.1.length (out U (BG c i))≠0:=fun e=>h0 (hz.2 e);have hi16:i<16:=by have:=hs.2.1;omega
   rw[Zj (by omega) (by omega)];simp only[AJ];by_cases hh:IV A ((U:Int),(i:Int))=true
   ·rw[if_pos hh]
    obtain⟨V,j,g1,g2⟩:=hA _ (Zl (d:=(0:Int)) hh);simp only[Prod.mk.injEq]at g1;have hV:U=V:=by omega
    have hj:i=j:=by omega
    subst hV;subst hj;exact⟨A,by rw[show BD 0 A ((U:Int),(i:Int))=_ from g2],hA⟩
   ·rw[if_neg hh]
    obtain⟨dd,hd⟩:∃dd,us c.1.length U-1=dd+1:=⟨us c.1.length U-2,by omega⟩;obtain⟨A',g1,g2⟩:=jb hv hX (f:=fun U u=>G6 (Xs c X) mf U u) (O:=out U (BG c i)) (i:=i) (TL hv o1) hs.2.1 (v:=fun k=>(NN c (out U (BG c i)) k).length) (B:=268435456) (C:=4611686018427387904) (Nat.le_refl _) (fun k=>pI hv _ _)
     (fun k hk hb A hA=>Xr hv hX mf (out U (BG c i)) k A ⟨o1,hk,hb⟩ (by omega) hA) (A7 c).length 0 0 A (by omega) hA (by omega)
    rw[show((0:Nat):Int)=0 from rfl]at g1;rw[show Jp (Xs c X) (fun U u=>G6 (Xs c X) mf U u) ((out U (BG c i):Nat):Int) (i:Int) (Xs c X).2.1.length 0 0 A=_ from g1];simp only[AJ];have hlen:(NN c U i).length=0+(((List.range' 0 (A7 c).length).filter fun k=>(out U (BG c i)).testBit (BG c k)&&GI c k i).map fun k=>(NN c (out U (BG c i)) k).length).sum:=by
     unfold NN;rw[hd,Cm,List.length_flatMap,Nat.zero_add,<-List.range_eq_range']
     congr 1
     refine List.map_congr_left fun k _=>?_;rw[List.length_map,show us c.1.length (out U (BG c i))-1=dd by omega]
    rw[<-hlen];refine⟨_,rfl,fun p hp=>?_⟩;rcases Zk hp with rfl|hp
    ·exact⟨U,i,rfl,rfl⟩
    ·exact g2 p hp
theorem dA:Lf c []:=fun p hp=>by cases hp
structure Cn(O:IZ)(f:Nat->Nat->Nat):Prop where
 nod:(O.map (·.1)).Nodup
 get:∀i k:Nat,BD 0 O ((i:Int),(k:Int))=((f i k:Nat):Int)
theorem mput_keys{κ ν:Type}[DecidableEq κ]{k:κ}{v:ν}:∀{l:List (κ×ν)},∀a,a∈(BO l k v).map (·.1)->a=k\/a∈l.map (·.1)
 |l,a,h=>by
  obtain⟨p,hp,rfl⟩:=List.mem_map.1 h;rcases Zk hp with rfl|hp
  ·exact .inl rfl
  ·exact .inr (List.mem_map.2 ⟨p,hp,rfl⟩)
theorem WN{κ ν:Type}[DecidableEq κ]{k:κ}{v:ν}:∀{l:List (κ×ν)},(l.map (·.1)).Nodup->((BO l k v).map (·.1)).Nodup
 |[],_=>by simp[BO]
 |(a,b)::l,h=>by
  simp only[List.map_cons,List.nodup_cons]at h;unfold BO;by_cases e:a=k
  ·rw[if_pos e];subst e;simpa using h
  ·rw[if_neg e]
   simp only[List.map_cons,List.nodup_cons];refine⟨fun hh=>?_,WN h.2⟩;rcases mput_keys a hh with hh|hh
   ·exact e hh
   ·exact h.1 hh
theorem uV{κ ν:Type}[DecidableEq κ]{d:ν}{k k':κ}{v:ν}:∀{l:List (κ×ν)},BD d (BO l k v) k'=if k'=k then v else BD d l k'
 |[]=>by
  by_cases h:k'=k
  ·subst h;simp[BO,BD]
  ·simp[BO,BD,h,Ne.symm h]
 |(a,u)::l=>by
  have ih:=uV (d:=d) (k:=k) (k':=k') (v:=v) (l:=l);unfold BO;by_cases e:a=k
  ·rw[if_pos e];subst e
   by_cases h:k'=a
   ·subst h;simp[BD]
   ·simp[BD,h,Ne.symm h]
  ·rw[if_neg e,BD,BD,ih]
   by_cases h:a=k'
   ·subst h;simp[e]
   ·simp[h]
theorem Cn.add{O:IZ}{f:Nat->Nat->Nat}(h:Cn O f)(i k n:Nat):Cn (BO O ((i:Int),(k:Int)) (((f i k+n:Nat)):Int)) fun i' k'=>if i'=i/\k'=k then f i k+n else f i' k':=by
 refine⟨WN h.nod,fun i' k'=>?_⟩;rw[uV];by_cases e:i'=i/\k'=k
 ·rw[if_pos (by rw[e.1,e.2]),if_pos e]
 ·rw[if_neg (by simp only[Prod.mk.injEq];intro hh;exact e ⟨by omega,by omega⟩),if_neg e,h.get]
theorem jc(hv:VC c){U i k:Nat}(hs:ja c U i)(hk:k∈F8 (A7 c).length (BG c) (GI c) U (some i)):(NN c U i).length*(G7 c (put U (BG c k)) (some k)).length<=16777216:=by
 obtain⟨k1,k2,_⟩:=IQ.1 hk;obtain⟨p1,p2⟩:=OM hv.n8 (PE hv k k1) hs.1;have hf:=p2 k2;have hfu:=Zi hv.n8 hs.1;have hpos:=WJ hv.n8 (PE hv i hs.2.1) hs.1 hs.2.2;have h8:=hv.n8;have h1:=JQ hv;have a:(NN c U i).length<=16^(us c.1.length U-1):=Nat.le_trans TJ (Nat.pow_le_pow_left h1 _);have b:(G7 c (put U (BG c k)) (some k)).length<=16^fr c.1.length (put U (BG c k)):=Nat.le_trans TF (Nat.pow_le_pow_left h1 _);refine Nat.le_trans (Nat.mul_le_mul a b) ?_;rw[<-Nat.pow_add];show _<=16^6;exact Nat.pow_le_pow_right (by omega) (by omega)
theorem Qy(hv:VC c)(hX:NK c X){mf U i ways B D:Nat}(hs:NM c U (some i))(hmf:8<mf)(hD:D+B<=4611686018427387904):∀(L:List Nat)(A:Be)(O:IZ)(f:Nat->Nat->Nat),(∀k∈L,k∈F8 (A7 c).length (BG c) (GI c) U (some i)/\ways*(G7 c (put U (BG c k)) (some k)).length<=B)->L.Nodup->Ho c A->Cn O f->(∀k∈L,f i k<=D)->
  ∃A' O',Nn (Xs c X) mf (ways:Int) (i:Int) (L.map (PV c U)) A O=some (A',O')/\Ho c A'/\Cn O' fun i' k'=>f i' k'+if i'=i/\k'∈L then ways*(G7 c (put U (BG c k')) (some k')).length else 0
 |[],A,O,f,_,_,hA,hO,_=>⟨A,O,rfl,hA,by simpa using hO⟩
 |k::L,A,O,f,hL,hn,hA,hO,hb=>by
  have h8:=hv.n8;have hm:=JQ hv;rw[List.nodup_cons]at hn;obtain⟨hk,hprod⟩:=hL k (List.mem_cons_self ..);obtain⟨k1,k2,_⟩:=IQ.1 hk;obtain⟨p1,p2⟩:=OM hv.n8 (PE hv k k1) hs.1;have hfu:=Zi hv.n8 p1;obtain⟨A1,e1,e2⟩:=QS hv hX mf (put U (BG c k)) (some k) A ⟨p1,fun i hi=>by cases hi;exact k1⟩ (by omega) hA;have hfk:=hb k (List.mem_cons_self ..);have hi16:i<16:=by have:=hs.2 i rfl;omega
  rw[List.map_cons,Nn,show Ck (Xs c X) mf A (PV c U k)=_ from e1];simp only[Ah,AJ];rw[show(ways:Int)*((G7 c (put U (BG c k)) (some k)).length:Int)=((ways*(G7 c (put U (BG c k)) (some k)).length:Nat):Int) by simp,BK (n:=((ways*(G7 c (put U (BG c k)) (some k)).length:Nat):Int)) (by omega)];have fin:∀f':Nat->Nat->Nat,(∀i' k',f' i' k'=f i' k'+if i'=i/\k'=k then ways*(G7 c (put U (BG c k)) (some k)).length else 0)->∀i' k':Nat,(f' i' k'+if i'=i/\k'∈L then ways*(G7 c (put U (BG c k')) (some k')).length else 0)=f i' k'+if i'=i/\k'∈k::L then ways*(G7 c (put U (BG c k')) (some k')).length else 0:=by
   intro f' hf' i' k';rw[hf'];by_cases e:i'=i/\k'=k
   ·obtain⟨rfl,rfl⟩:=e
    rw[if_pos ⟨rfl,rfl⟩,if_neg (fun h=>hn.1 h.2),if_pos ⟨rfl,List.mem_cons_self ..⟩];omega
   ·rw[if_neg e]
    by_cases e2:i'=i/\k'∈L
    ·rw[if_pos e2,if_pos ⟨e2.1,List.mem_cons_of_mem _ e2.2⟩];omega
    ·rw[if_neg e2,if_neg]
     rintro⟨h1,h2⟩;rcases List.mem_cons.1 h2 with h2|h2
     ·exact e ⟨h1,h2⟩
     ·exact e2 ⟨h1,h2⟩
  by_cases h0:0<ways*(G7 c (put U (BG c k)) (some k)).length
  ·rw[if_pos (by simp only[decide_eq_true_eq];omega)]
   rw[show((i:Int),(PV c U k).2)=((i:Int),(k:Int))from rfl,Zj (by omega) (by omega)];simp only[AJ];rw[hO.get,BK (by omega),show((f i k:Nat):Int)+((ways*(G7 c (put U (BG c k)) (some k)).length:Nat):Int)=((f i k+ways*(G7 c (put U (BG c k)) (some k)).length:Nat):Int) by omega];obtain⟨A2,O2,g1,g2,g3⟩:=Qy hv hX hs hmf hD L A1 _ _ (fun j hj=>hL j (List.mem_cons_of_mem _ hj)) hn.2 e2 (hO.add i k (ways*(G7 c (put U (BG c k)) (some k)).length)) (fun k' hk'=>by
    have:k'≠k:=fun e=>hn.1 (e▸hk');rw[if_neg (fun h=>this h.2)];exact hb k' (List.mem_cons_of_mem _ hk'))
   refine⟨A2,O2,g1,g2,g3.nod,fun i' k'=>?_⟩;rw[g3.get]
   congr 1
   refine fin (fun i' k'=>if i'=i/\k'=k then f i k+ways*(G7 c (put U (BG c k)) (some k)).length else f i' k') (fun i' k'=>?_) i' k';show(if i'=i/\k'=k then f i k+ways*(G7 c (put U (BG c k)) (some k)).length else f i' k')=_;by_cases e:i'=i/\k'=k
   ·obtain⟨rfl,rfl⟩:=e
    rw[if_pos ⟨rfl,rfl⟩,if_pos ⟨rfl,rfl⟩]
   ·rw[if_neg e,if_neg e];rfl
  ·rw[if_neg (by simp only[decide_eq_true_eq];omega)]
   obtain⟨A2,O2,g1,g2,g3⟩:=Qy hv hX hs hmf hD L A1 O f (fun j hj=>hL j (List.mem_cons_of_mem _ hj)) hn.2 e2 hO (fun j hj=>hb j (List.mem_cons_of_mem _ hj));refine⟨A2,O2,g1,g2,g3.nod,fun i' k'=>?_⟩;rw[g3.get]
   congr 1
   refine fin f (fun i' k'=>?_) i' k';split<;>omega
abbrev Xt(c:BJ)(i k U:Nat):Nat:=wy c.1.length (A7 c).length (BG c) (GI c) i k U
theorem dB{U i:Nat}(hb:U.testBit (BG c i)=true)(k:Nat):(if k∈F8 (A7 c).length (BG c) (GI c) U (some i)then(NN c U i).length*(G7 c (put U (BG c k)) (some k)).length else 0)=Xt c i k U:=by
 unfold Xt wy;by_cases h:k∈F8 (A7 c).length (BG c) (GI c) U (some i)
 ·rw[if_pos h,if_pos ⟨hb,h⟩]
 ·rw[if_neg h,if_neg fun e=>h e.2]
theorem pJ(hv:VC c){U i:Nat}(hs:ja c U i)(k:Nat):Xt c i k U<=16777216:=by
 rw[<-dB hs.2.2];split
 ·rename_i h;exact jc hv hs h
 ·omega
theorem UQ(hv:VC c)(hX:NK c X){mf i D:Nat}(hmf:8<mf)(hi:i<(A7 c).length)(hD:D<=4611686018427387904):∀(L:List Nat)(A U':Be)(O:IZ)(f:Nat->Nat->Nat),(∀U∈L,ja c U i)->Ho c A->Lf c U'->Cn O f->(∀k,f i k+L.length*16777216+16777216<=D)->
  ∃A1 U1 O1,NH (Xs c X) mf (i:Int) (L.map fun(U:Nat)=>((U:Int),(i:Int))) A U' O=some (O1,A1,U1)/\Ho c A1/\Lf c U1/\Cn O1 fun i' k'=>f i' k'+if i'=i then(L.map (Xt c i k')).sum else 0
 |[],A,U',O,f,_,hA,hU,hO,_=>⟨A,U',O,rfl,hA,hU,by simpa using hO⟩
 |U::L,A,U',O,f,hL,hA,hU,hO,hb=>by
  have h8:=hv.n8;have hs:=hL U (List.mem_cons_self ..);have hus:=us_le hv U;obtain⟨U1,e1,e2⟩:=Xr hv hX mf U i U' hs (by omega) hU;have hok:NM c U (some i):=⟨hs.1,fun j hj=>by cases hj;exact hi⟩;rw[List.map_cons,NH,e1];simp only[Ah,AJ];rw[show GX (Xs c X) ((U:Int),(i:Int))=_ from P7 hv hX hok];simp only[AJ];obtain⟨A1,O1,g1,g2,g3⟩:=Qy hv hX (ways:=(NN c U i).length) (B:=16777216) (D:=D-16777216) hok hmf (by have:=hb 0;omega) (F8 (A7 c).length (BG c) (GI c) U (some i)) A O f (fun k hk=>⟨hk,jc hv hs hk⟩) Qk hA hO (fun k _=>by have:=hb k;omega);rw[g1];simp only[AJ];have hf1:∀k,(f i k+if i=i/\k∈F8 (A7 c).length (BG c) (GI c) U (some i)then(NN c U i).length*(G7 c (put U (BG c k)) (some k)).length else 0)=f i k+Xt c i k U:=fun k=>by
   rw[<-dB hs.2.2];simp
  obtain⟨A2,U2,O2,h1,h2,h3,h4⟩:=UQ hv hX hmf hi hD L A1 U1 O1 _ (fun V hV=>hL V (List.mem_cons_of_mem _ hV)) g2 e2 g3 (fun k=>by
   have a:=hb k;have b:=pJ hv hs k;rw[List.length_cons,Nat.succ_mul]at a;show(f i k+if i=i/\k∈F8 (A7 c).length (BG c) (GI c) U (some i)then(NN c U i).length*(G7 c (put U (BG c k)) (some k)).length else 0)+_+_<=D;rw[hf1];omega)
  refine⟨A2,U2,O2,h1,h2,h3,h4.nod,fun i' k'=>?_⟩;rw[h4.get]
  congr 1
  show(f i' k'+if i'=i/\k'∈F8 (A7 c).length (BG c) (GI c) U (some i)then(NN c U i).length*(G7 c (put U (BG c k')) (some k')).length else 0)+_=_;by_cases e:i'=i
  ·subst e
   rw[hf1,if_pos rfl,if_pos rfl,List.map_cons,List.sum_cons,Nat.add_assoc]
  ·rw[if_neg (fun h=>e h.1),if_neg e,if_neg e]
theorem jd(hv:VC c){p:Nat}(hp:p<c.1.length){t:Int}(ht:shl .i64 1 (p:Int)=some t){i:Int}:∀(d k:Nat),k+d<=256->JO t i d k=((List.range' k d).filter fun U=>U.testBit p).map fun(U:Nat)=>((U:Int),i)
 |0,k,_=>rfl
 |d+1,k,h=>by
  have h8:=hv.n8;obtain⟨t',f1,_,_,f4⟩:=b2 ⟨k,by omega⟩ ⟨p,by omega⟩;rw[show shl .i64 1 ((⟨p,by omega⟩:Fin 8).val:Int)=some t from ht]at f1;cases f1;unfold JO;rw[show decide (band .i64 (k:Int) t=0)=!k.testBit p from f4,jd hv hp ht d (k+1) (by omega),List.range'_succ,List.filter_cons,Bool.not_not];cases k.testBit p with
  |true=>rw[if_pos rfl,if_pos rfl];rfl
  |false=>rw[if_neg (by simp),if_neg (by simp)]
theorem dD(hv:VC c){i:Nat}(hi:i<(A7 c).length):JP (Xs c X) (i:Int)=some (((List.range (2^c.1.length)).filter fun U=>U.testBit (BG c i)).map fun(U:Nat)=>((U:Int),(i:Int))):=by
 have h8:=hv.n8;obtain⟨e1,e2,e3,_⟩:=KR hv hi;obtain⟨t,f1,_⟩:=b2 ⟨0,by omega⟩ ⟨BG c i,by omega⟩;have h2:2^c.1.length<=2^8:=Nat.pow_le_pow_right (by omega) h8;unfold JP;rw[show ix (Xs c X).2.1 (i:Int)=some (A7 c)[i]from e1];simp only[Ah,AJ];rw[show((A7 c)[i]).1=((BG c i:Nat):Int)from e2,f1];simp only[AJ];rw[show shl .i64 1 ((Xs c X).1.1.length:Int)=some (((2^c.1.length:Nat)):Int)from b3 ⟨c.1.length,by omega⟩];simp only[AJ];have h3:((2^c.1.length:Nat):Int)<=256:=by omega
 rw[if_pos (by simp only[decide_eq_true_eq];exact⟨Int.natCast_nonneg _,Int.le_trans h3 (by decide)⟩),Int.toNat_natCast,jd hv e3 f1 _ 0 (by omega),List.range_eq_range']
theorem SG{w:Nat->Nat}{p:Nat->Bool}(h:∀U,p U=false->w U=0):∀L:List Nat,((L.filter p).map w).sum=(L.map w).sum
 |[]=>rfl
 |U::L=>by
  rw[List.filter_cons,List.map_cons,List.sum_cons,<-SG h L];cases hp:p U with
  |true=>rw[if_pos rfl,List.map_cons,List.sum_cons]
  |false=>rw[if_neg (by simp),h U hp];omega
abbrev iI(c:BJ)(i k:Nat):Nat:=cB c.1.length (A7 c).length (BG c) (GI c) i k
theorem UR(hv:VC c)(hX:NK c X){mf:Nat}(hmf:8<mf):∀(d k:Nat)(A U':Be)(O:IZ),k+d=(A7 c).length->Ho c A->Lf c U'->Cn O (fun i' k'=>if i'<k then iI c i' k' else 0)->
  ∃A1 U1 O1,NI (Xs c X) mf d k A U' O=some (O1,A1,U1)/\Cn O1 fun i' k'=>if i'<(A7 c).length then iI c i' k' else 0
 |0,k,A,U',O,hk,_,_,hO=>⟨A,U',O,rfl,by rw[show(A7 c).length=k by omega];exact hO⟩
 |d+1,k,A,U',O,hk,hA,hU,hO=>by
  have h8:=hv.n8;have hlt:k<(A7 c).length:=by omega
  have h2:2^c.1.length<=2^8:=Nat.pow_le_pow_right (by omega) h8;have hfl:=List.length_filter_le (fun U:Nat=>U.testBit (BG c k)) (List.range (2^c.1.length));rw[List.length_range]at hfl;unfold NI;rw[dD hv hlt];simp only[Ah,AJ];obtain⟨A1,U1,O1,g1,g2,g3,g4⟩:=UQ hv hX (mf:=mf) (i:=k) (D:=4611686018427387904) hmf hlt (Nat.le_refl _) _ A U' O _ (fun U hU=>by
   obtain⟨a,b⟩:=List.mem_filter.1 hU;exact⟨List.mem_range.1 a,hlt,b⟩) hA hU hO (fun k'=>by
   rw[if_neg (by omega)];have:(List.filter (fun U:Nat=>U.testBit (BG c k)) (List.range (2^c.1.length))).length<=256:=by omega
   omega)
  rw[g1];simp only[AJ];refine UR hv hX hmf d (k+1) A1 U1 O1 (by omega) g2 g3 ⟨g4.nod,fun i' k'=>?_⟩;rw[g4.get]
  congr 1
  by_cases e:i'=k
  ·subst e
   rw[if_neg (by omega),if_pos rfl,if_pos (by omega),Nat.zero_add];unfold iI cB;refine SG (fun U hU=>?_) _;unfold Xt wy;rw[if_neg fun h=>by rw[hU]at h;cases h.1]
  ·rw[if_neg e]
   by_cases e2:i'<k
   ·rw[if_pos e2,if_pos (by omega)];rfl
   ·rw[if_neg e2,if_neg (by omega)]
theorem WO{all:Int}(hall:0<all){z:Int×Int}:∀(O:IZ),(O.map (·.1)).Nodup->0<BD 0 (O.filter fun z=>decide (all<=z.2)) z->all<=BD 0 O z
 |[],_,h=>by simp[BD]at h
 |(a,b)::O,hn,h=>by
  simp only[List.map_cons,List.nodup_cons]at hn;rw[List.filter_cons]at h;unfold BD;by_cases e:a=z
  ·rw[if_pos e]
   by_cases hb:all<=b
   ·exact hb
   ·rw[if_neg (by simpa using hb)]at h
    have:∀(Q:IZ),(∀p∈Q,p.1≠z)->BD 0 Q z=0:=fun Q hQ=>(JH hQ).1;rw[this _ fun p hp hpe=>hn.1 (by
     have:=(List.mem_filter.1 hp).1;exact List.mem_map.2 ⟨p,this,by rw[hpe,e]⟩)]at h
    omega
  ·rw[if_neg e]
   refine WO hall O hn.2 ?_;by_cases hb:all<=b
   ·rw[if_pos (by simpa using hb)]at h
    unfold BD at h;rwa [if_neg e]at h
   ·rwa [if_neg (by simpa using hb)]at h
theorem Qz(hv:VC c){O:IZ}{i:Nat}(hi:i<(A7 c).length){p:Ap}:∀(d k:Nat)(o:List Jb),k+d=(A7 c).length->o.length+d<=1000->
  ∃o',MQ (Xs c X) O (i:Int) p d k o=some o'/\o'.length<=o.length+d/\∀z∈o',z∈o\/∃(k':Nat)(s:Ap),(A7 c)[k']?=some s/\z=(p,s)/\0<BD 0 O ((i:Int),(k':Int))
 |0,k,o,_,_=>⟨o,rfl,by omega,fun z h=>.inl h⟩
 |d+1,k,o,hk,hl=>by
  have hm:=JQ hv;have hlt:k<(A7 c).length:=by omega
  obtain⟨e1,_,_,e4⟩:=KR hv hlt;unfold MQ;rw[show ix (Xs c X).2.1 (k:Int)=some (A7 c)[k]from e1];simp only[Ah,AJ];rw[Zj (by omega) (by omega)];simp only[AJ];by_cases h0:0<BD 0 O ((i:Int),(k:Int))
  ·rw[if_pos (by simpa using h0),GQ (by simp;omega)]
   simp only[AJ];obtain⟨o',g1,g2,g3⟩:=Qz hv (O:=O) hi (p:=p) d (k+1) (o++[(p,(A7 c)[k])]) (by omega) (by simp;omega);refine⟨o',g1,by simp at g2;omega,fun z hz=>?_⟩;rcases g3 z hz with h|h
   ·rcases List.mem_append.1 h with h|h
    ·exact .inl h
    ·rw[List.mem_singleton]at h
     exact .inr ⟨k,_,e4,h,h0⟩
   ·exact .inr h
  ·rw[if_neg (by simpa using h0)]
   obtain⟨o',g1,g2,g3⟩:=Qz hv (O:=O) hi (p:=p) d (k+1) o (by omega) (by omega);exact⟨o',g1,by omega,g3⟩
theorem UU(hv:VC c){O:IZ}:∀(d k:Nat)(o:List Jb),k+d=(A7 c).length->o.length+16*d<=500->
  ∃o',Lu (Xs c X) O d k o=some o'/\o'.length<=o.length+16*d/\∀z∈o',z∈o\/∃(i k':Nat)(p s:Ap),(A7 c)[i]?=some p/\(A7 c)[k']?=some s/\z=(p,s)/\0<BD 0 O ((i:Int),(k':Int))
 |0,k,o,_,_=>⟨o,rfl,by omega,fun z h=>.inl h⟩
 |d+1,k,o,hk,hl=>by
  have hm:=JQ hv;have hlt:k<(A7 c).length:=by omega
  obtain⟨e1,_,_,e4⟩:=KR hv hlt;unfold Lu;rw[show ix (Xs c X).2.1 (k:Int)=some (A7 c)[k]from e1];simp only[Ah,AJ];obtain⟨o1,g1,g2,g3⟩:=Qz hv (X:=X) (O:=O) hlt (p:=(A7 c)[k]) (A7 c).length 0 o (by omega) (by omega);rw[show MQ (Xs c X) O (k:Int) (A7 c)[k] (Xs c X).2.1.length 0 o=some o1 from g1];simp only[AJ];obtain⟨o2,h1,h2,h3⟩:=UU hv (O:=O) d (k+1) o1 (by omega) (by omega);refine⟨o2,h1,by omega,fun z hz=>?_⟩;rcases h3 z hz with h|h
  ·rcases g3 z h with h|⟨k',s,a,b,e⟩
   ·exact .inl h
   ·exact .inr ⟨k,k',_,s,e4,a,b,e⟩
  ·exact .inr h
theorem XP{F:Nat}(hF:1000<F)(hv:VC c)(hJ:0<(Jc c).length):∃P,H7 F c=some (P,0)/\P.length<=1000/\∀z∈P,∃(i k:Nat)(p s:Ap),(A7 c)[i]?=some p/\(A7 c)[k]?=some s/\z=(p,s)/\∀t∈Jc c,P6 i k t=true:=by
 have hm:=JQ hv;obtain⟨X,h1,hX⟩:=TB hF hv (l:=[]) (fun s hs=>by cases hs) (by simp);obtain⟨A',h2,hA⟩:=all_eq hF hv hX P8;obtain⟨A1,U1,O1,g1,g2⟩:=UR hv hX (mf:=F) (by omega) (A7 c).length 0 A' [] [] (by omega) hA dA ⟨by simp,fun i k=>by simp[BD]⟩;obtain⟨o,f1,f2,f3⟩:=UU hv (X:=X) (O:=O1.filter fun z=>decide ((((Jc c).length:Nat):Int)<=z.2)) (A7 c).length 0 [] (by omega) (by simp;omega);refine⟨o,?_,by simp at f2;omega,fun z hz=>?_⟩
 ·unfold H7
  rw[h1];simp only[Ah,AJ];rw[if_neg (by simp)];rw[show Ck (c,Ev 0 c.1,X,Opq.mk,Opq.mk) F [] (0,-1)=_ from h2];simp only[AJ];rw[if_neg (by simp only[decide_eq_true_eq];omega)];rw[show MP (c,Ev 0 c.1,X,Opq.mk,Opq.mk) F A' []=some (O1,A1,U1)from g1];simp only[AJ];rw[show Lu (c,Ev 0 c.1,X,Opq.mk,Opq.mk) (O1.filter fun z=>decide ((((Jc c).length:Nat):Int)<=z.2)) (Ev 0 c.1).length 0 []=some o from f1]
  rfl
 ·rcases f3 z hz with h|⟨i,k,p,s,a,b,e,h⟩
  ·cases h
  ·have hi:=(List.getElem?_eq_some_iff.1 a).1
   have:=WO (by omega) O1 g2.nod h;rw[g2.get,if_pos hi]at this;exact⟨i,k,p,s,a,b,e,lQ hv.n8 (PE hv) hi (Int.ofNat_le.1 this)⟩
end
end
end Jn
end Go.Proofs.YtfmelbioccbdoaaGreat
end
section
namespace Go.Proofs.YtfmelbioccbdoaaGreat
open Go Go.Md Go.RowKit
namespace Wo
section
theorem Aq{k:Nat}(h:k<4611686018427387904):AZ ((k:Int)+1)=((k+1:Nat):Int):=by rw[BK (by omega)];rfl
theorem rset_nat{α:Type}{l:List α}{k:Nat}{x:α}:EM l (k:Int) x=l.set k x:=by simp[EM]
def tl(f:Nat->Nat):List Int:=(List.range 101).map fun i=>(f i:Int)
theorem SH(f:Nat->Nat):(tl f).length=101:=by simp[tl]
theorem dF{f:Nat->Nat}{i:Nat}(h:i<101):(tl f)[i]?=some (f i:Int):=by simp[tl,h]
theorem MS{f:Nat->Nat}{i:Nat}(h:i<101):ix (tl f) (i:Int)=some (f i:Int):=by
 rw[Az (by rw[SH];exact h)];simp[tl]
theorem dG{f:Nat->Nat}{i v:Nat}(h:i<101):EM (tl f) (i:Int) (v:Int)=tl fun j=>if j=i then v else f j:=by
 rw[rset_nat];apply List.ext_getElem?;intro j;by_cases hj:j<101
 ·rw[dF hj,List.getElem?_set]
  by_cases e:i=j
  ·subst e;rw[if_pos rfl,if_pos (by rw[SH];exact h),if_pos rfl]
  ·rw[if_neg e,dF hj,if_neg (fun h=>e h.symm)]
 ·rw[List.getElem?_eq_none (by rw[List.length_set,SH];omega),List.getElem?_eq_none (by rw[SH];omega)]
theorem lT{f g:Nat->Nat}(h:∀i,i<101->f i=g i):tl f=tl g:=by
 unfold tl;exact List.map_congr_left fun i hi=>by rw[h i (List.mem_range.1 hi)]
abbrev Bk:=Uno (List (Ar 2 Int))
def wd(x:Int):Bool:=decide (1<=x)&&decide (x<=100)
def fs(p:Ar 2 Int):Int:=p.l.getD 0 0
def sn(p:Ar 2 Int):Int:=p.l.getD 1 0
theorem Uz(p:Ar 2 Int):ix p.l 0=some (fs p):=by
 have:=p.h;rw[show(0:Int)=((0:Nat):Int)from rfl,Az (by omega)];simp[fs,List.getElem?_eq_getElem (show 0<p.l.length by omega)]
theorem U0(p:Ar 2 Int):ix p.l 1=some (sn p):=by
 have:=p.h;rw[show(1:Int)=((1:Nat):Int)from rfl,Az (by omega)];simp[sn,List.getElem?_eq_getElem (show 1<p.l.length by omega)]
structure VB(x:Bk):Prop where
 len:x.v.length<=40
 ws:∀p∈x.v,wd (fs p)=true/\wd (sn p)=true
theorem P9{x:Int}(h:wd x=true):∃n:Nat,x=(n:Int)/\1<=n/\n<101:=by
 simp[wd]at h;exact⟨x.toNat,by omega,by omega,by omega⟩
def Ed(x:Bk)(i j:Nat):Prop:=∃p∈x.v,fs p=(i:Int)/\sn p=(j:Int)
inductive Con(E:Nat->Nat->Prop):Nat->Nat->Prop
 |refl (i:Nat):Con E i i
 |step {i j k:Nat}:Con E i j->(E j k\/E k j)->Con E i k
theorem Con.trans{E:Nat->Nat->Prop}{i j k:Nat}(h:Con E i j)(g:Con E j k):Con E i k:=by
 induction g with
 |refl=>exact h
 |step _ e ih=>exact .step ih e
theorem Con.symm{E:Nat->Nat->Prop}{i j:Nat}(h:Con E i j):Con E j i:=by
 induction h with
 |refl=>exact .refl _
 |step _ e ih=>exact(Con.step (.refl _) e.symm).trans ih
theorem lU{c:HV}{f:Nat->Nat}(h:c.l=tl f)(a b:Nat):(K7 (a:Int) (b:Int) c).l=tl fun i=>if f i=b then a else f i:=by
 show c.l.map _=_;rw[h];unfold tl;rw[List.map_map];refine List.map_congr_left fun i _=>?_;simp only[Function.comp];by_cases e:f i=b
 ·rw[if_pos (by rw[e]),if_pos e]
 ·rw[if_neg (by omega),if_neg e]
theorem je{x:Bk}(hv:VB x):∀(l:List (Ar 2 Int))(c:HV)(f:Nat->Nat),(∀p∈l,p∈x.v)->c.l=tl f->(∀i,i<101->f i<101)->(∀i j,i<101->j<101->f i=f j->Con (Ed x) i j)->
  ∃c' g,Na l c=some c'/\c'.l=tl g/\(∀i j,i<101->j<101->g i=g j->Con (Ed x) i j)/\(∀i j,f i=f j->g i=g j)/\∀p∈l,∀i j:Nat,fs p=(i:Int)->sn p=(j:Int)->g i=g j
 |[],c,f,_,hc,_,hI=>⟨c,f,rfl,hc,hI,fun _ _ h=>h,fun p hp=>by cases hp⟩
 |p::l,c,f,hl,hc,hb,hI=>by
  obtain⟨h1,h2⟩:=hv.ws p (hl p (List.mem_cons_self ..));obtain⟨i,hi,_,hi1⟩:=P9 h1;obtain⟨j,hj,_,hj1⟩:=P9 h2;have key:∀n:Nat,n<101->MB ((n:Nat):Int)=some ():=fun n h=>by unfold MB;rw[if_pos (Xa h)]
  have hE:Ed x i j:=⟨p,hl p (List.mem_cons_self ..),hi,hj⟩;obtain⟨c',g,e1,e2,e3,e4,e5⟩:=je hv l (if(f i:Int)=(f j:Int)then c else K7 (f i:Int) (f j:Int) c) (fun n=>if f n=f j then f i else f n) (fun q hq=>hl q (List.mem_cons_of_mem _ hq)) (by
    by_cases e:f i=f j
    ·rw[if_pos (by rw[e]),hc]
     refine lT fun n _=>?_;by_cases e':f n=f j
     ·rw[if_pos e',e',e]
     ·rw[if_neg e']
    ·rw[if_neg (by omega),lU hc])
   (fun n hn=>by
    by_cases e:f n=f j
    ·simp only[e,if_true];exact hb i hi1
    ·simp only[if_neg e];exact hb n hn)
   (fun a b ha hb' h=>by
    by_cases ea:f a=f j<;>by_cases eb:f b=f j
    ·exact hI a b ha hb' (ea.trans eb.symm)
    ·simp only[if_pos ea,if_neg eb]at h
     exact(Con.step (hI a j ha hj1 ea) (.inr hE)).trans (hI i b hi1 hb' h)
    ·simp only[if_neg ea,if_pos eb]at h
     exact(Con.step (hI a i ha hi1 h) (.inl hE)).trans (hI j b hj1 hb' eb.symm)
    ·simp only[if_neg ea,if_neg eb]at h
     exact hI a b ha hb' h)
  refine⟨c',g,?_,e2,e3,fun a b h=>e4 a b (by simp only[h]),?_⟩
  ·unfold Na
   rw[Uz,U0,hi,hj];simp only[Ah,AJ];rw[hc,MS hi1,MS hj1];simp only[AJ];rw[key _ (hb i hi1),key _ (hb j hj1)];simp only[AJ];exact e1
  ·intro q hq a b ha hb'
   rcases List.mem_cons.1 hq with rfl|hq
   ·have:a=i:=by omega
    have:b=j:=by omega
    subst a b;exact e4 i j (by by_cases e:f i=f j<;>simp[e])
   ·exact e5 q hq a b ha hb'
theorem lV:Kh.l=tl fun i=>i:=by rfl
theorem pK{x:Bk}(hv:VB x):∃c g,Na x.v Kh=some c/\c.l=tl g/\∀i j,i<101->j<101->(g i=g j↔Con (Ed x) i j):=by
 obtain⟨c,g,h1,h2,h3,h4,h5⟩:=je hv x.v Kh (fun i=>i) (fun _ h=>h) lV (fun i h=>h) (fun i j _ _ h=>by subst h;exact .refl _);refine⟨c,g,h1,h2,fun i j hi hj=>⟨h3 i j hi hj,fun h=>?_⟩⟩;clear hi hj
 induction h with
 |refl=>rfl
 |step _ e ih=>
  rw[ih];rcases e with⟨p,hp,e1,e2⟩|⟨p,hp,e1,e2⟩
  ·exact h5 p hp _ _ e1 e2
  ·exact(h5 p hp _ _ e1 e2).symm
theorem iJ{P:Nat->Prop}:∀n,P n->∃m,P m/\∀k,P k->m<=k:=by
 intro n
 induction n using Nat.strongRecOn with
 |ind n ih=>
  intro h;by_cases g:∃k,k<n/\P k
  ·obtain⟨k,h1,h2⟩:=g;exact ih k h1 h2
  ·exact⟨n,h,fun k hk=>by
    by_cases e:n<=k
    ·exact e
    ·exact absurd ⟨k,by omega,hk⟩ g⟩
theorem pM(E:Nat->Nat->Prop):∃low:Nat->Nat,(∀i,Con E i (low i))/\(∀i j,Con E i j->low i<=j)/\∀i j,Con E i j->low i=low j:=by
 have h:∀i,∃m,Con E i m/\∀k,Con E i k->m<=k:=fun i=>iJ i (.refl i);refine⟨fun i=>Classical.choose (h i),fun i=>(Classical.choose_spec (h i)).1,fun i j=>(Classical.choose_spec (h i)).2 j,fun i j hij=>?_⟩;have a:=Classical.choose_spec (h i);have b:=Classical.choose_spec (h j);exact Nat.le_antisymm (a.2 _ (hij.trans b.1)) (b.2 _ (hij.symm.trans a.1))
def SI(f:Nat->Nat)(a b:Nat):Nat:=if f b<f a then f b else f a
def Kl(f:Nat->Nat)(a b:Nat):Nat->Nat:=fun n=>if n=b then SI f a b else if n=a then SI f a b else f n
def KG:List (Ar 2 Int)->(Nat->Nat)->(Nat->Nat)
 |[],f=>f
 |p::l,f=>KG l (Kl f (fs p).toNat (sn p).toNat)
def WQ(l:List (Ar 2 Int)):Nat->(Nat->Nat)->(Nat->Nat)
 |0,f=>f
 |n+1,f=>WQ l n (KG l f)
theorem Zo(f:Nat->Nat)(a b:Nat):(SI f a b=f a/\f a<=f b)\/(SI f a b=f b/\f b<=f a):=by
 unfold SI;split<;>omega
section
variable {x:Bk}{low:Nat->Nat}
def WR(x:Bk)(f:Nat->Nat):Prop:=∀i,i<101->Con (Ed x) i (f i)
theorem QT(hv:VB x){p:Ar 2 Int}(hp:p∈x.v):∃i j:Nat,fs p=(i:Int)/\sn p=(j:Int)/\(fs p).toNat=i/\(sn p).toNat=j/\i<101/\j<101/\Ed x i j:=by
 obtain⟨h1,h2⟩:=hv.ws p hp;obtain⟨i,hi,_,hi1⟩:=P9 h1;obtain⟨j,hj,_,hj1⟩:=P9 h2;exact⟨i,j,hi,hj,by omega,by omega,hi1,hj1,p,hp,hi,hj⟩
theorem iK{f:Nat->Nat}(h:WR x f){i j:Nat}(hi:i<101)(hj:j<101)(hE:Ed x i j):WR x (Kl f i j):=by
 have hij:Con (Ed x) i j:=.step (.refl _) (.inl hE);intro n hn;unfold Kl;rcases Zo f i j with⟨e,_⟩|⟨e,_⟩<;>rw[e]
 ·by_cases e1:n=j
  ·rw[if_pos e1];subst e1;exact hij.symm.trans (h i hi)
  ·rw[if_neg e1]
   by_cases e2:n=i
   ·rw[if_pos e2];subst e2;exact h _ hi
   ·rw[if_neg e2];exact h n hn
 ·by_cases e1:n=j
  ·rw[if_pos e1];subst e1;exact h _ hj
  ·rw[if_neg e1]
   by_cases e2:n=i
   ·rw[if_pos e2];subst e2;exact hij.trans (h j hj)
   ·rw[if_neg e2];exact h n hn
theorem Q0(hl:∀i j,Con (Ed x) i j->low i<=j)(he:∀i j,Con (Ed x) i j->low i=low j){f:Nat->Nat}(h:WR x f){i j:Nat}(hi:i<101)(hj:j<101)(hE:Ed x i j)(hd:f i=low i\/f j=low j):SI f i j=low i/\SI f i j=low j:=by
 have hij:Con (Ed x) i j:=.step (.refl _) (.inl hE);have a:=hl i (f i) (h i hi);have b:=hl j (f j) (h j hj);have c:=he i j hij;rcases Zo f i j with⟨e,_⟩|⟨e,_⟩<;>omega
theorem dH(hv:VB x)(hl:∀i j,Con (Ed x) i j->low i<=j)(he:∀i j,Con (Ed x) i j->low i=low j):∀(l:List (Ar 2 Int))(f:Nat->Nat),(∀p∈l,p∈x.v)->WR x f->
  WR x (KG l f)/\(∀i,i<101->f i=low i->KG l f i=low i)/\∀p∈l,∀i j:Nat,fs p=(i:Int)->sn p=(j:Int)->(f i=low i\/f j=low j)->KG l f i=low i/\KG l f j=low j
 |[],f,_,h=>⟨h,fun _ _ h=>h,fun p hp=>by cases hp⟩
 |p::l,f,hm,h=>by
  obtain⟨i,j,e1,e2,e3,e4,hi,hj,hE⟩:=QT hv (hm p (List.mem_cons_self ..));have h':=iK h hi hj hE;have keep:∀n,n<101->f n=low n->Kl f i j n=low n:=fun n hn e=>by
   unfold Kl;by_cases c1:n=j
   ·rw[if_pos c1];subst c1;exact(Q0 hl he h hi hj hE (.inr e)).2
   ·rw[if_neg c1]
    by_cases c2:n=i
    ·rw[if_pos c2];subst c2;exact(Q0 hl he h hi hj hE (.inl e)).1
    ·rw[if_neg c2];exact e
  obtain⟨g1,g2,g3⟩:=dH hv hl he l (Kl f i j) (fun q hq=>hm q (List.mem_cons_of_mem _ hq)) h';have er:KG (p::l) f=KG l (Kl f i j):=by unfold KG;rw[e3,e4];cases l<;>rfl
  rw[er];refine⟨g1,fun n hn e=>g2 n hn (keep n hn e),fun q hq a b ha hb hd=>?_⟩;rcases List.mem_cons.1 hq with rfl|hq
  ·have:a=i:=by omega
   have:b=j:=by omega
   subst a b;have d:=Q0 hl he h hi hj hE hd;refine⟨g2 i hi ?_,g2 j hj ?_⟩
   ·unfold Kl
    by_cases c1:i=j
    ·rw[if_pos c1];exact d.1
    ·rw[if_neg c1,if_pos rfl];exact d.1
   ·unfold Kl;rw[if_pos rfl];exact d.2
  ·obtain⟨i',j',f1,f2,_,_,hi',hj',_⟩:=QT hv (hm q (List.mem_cons_of_mem _ hq))
   have:a=i':=by omega
   have:b=j':=by omega
   subst a b;exact g3 q hq _ _ f1 f2 (hd.imp (keep _ hi') (keep _ hj'))
def nd(x:Bk)(low f:Nat->Nat):List (Ar 2 Int):=x.v.filter fun p=>!(decide (f (fs p).toNat=low (fs p).toNat)&&decide (f (sn p).toNat=low (sn p).toNat))
theorem dI{α:Type}{l:List α}{p q:α->Bool}(h:∀a∈l,q a=true->p a=true){b:α}(hb:b∈l)(h1:p b=true)(h2:q b=false):(l.filter q).length<(l.filter p).length:=by
 induction l with
 |nil=>cases hb
 |cons a l ih=>
  have hle:∀(l:List α),(∀a∈l,q a=true->p a=true)->(l.filter q).length<=(l.filter p).length:=by
   intro l
   induction l with
   |nil=>intro _;exact Nat.le_refl _
   |cons a l ih=>
    intro h;have:=ih fun c hc=>h c (List.mem_cons_of_mem _ hc);have h':=h a (List.mem_cons_self ..);cases hq:q a<;>cases hp:p a<;>simp_all;omega
  rcases List.mem_cons.1 hb with rfl|hb
  ·have:=hle l fun c hc=>h c (List.mem_cons_of_mem _ hc)
   simp[h1,h2];omega
  ·have:=ih (fun c hc=>h c (List.mem_cons_of_mem _ hc)) hb
   have h':=h a (List.mem_cons_self ..);cases hq:q a<;>cases hp:p a<;>simp_all;omega
def Zt(low f:Nat->Nat):Prop:=∀i,i<101->f i=low i
theorem pO(hv:VB x){i j:Nat}(h:Con (Ed x) i j)(hi:i<101):j<101:=by
 cases h with
 |refl=>exact hi
 |step _ e=>
  rcases e with⟨p,hp,e1,e2⟩|⟨p,hp,e1,e2⟩<;>obtain⟨a,b,f1,f2,_,_,h1,h2,_⟩:=QT hv hp<;>omega
theorem Xu(hv:VB x)(hc:∀i,Con (Ed x) i (low i))(hl:∀i j,Con (Ed x) i j->low i<=j)(he:∀i j,Con (Ed x) i j->low i=low j){f:Nat->Nat}(h:WR x f)
  (hf:∀i,i<101->f i<=i)
  (hs:∀p∈x.v,∀i j:Nat,fs p=(i:Int)->sn p=(j:Int)->(f i=low i\/f j=low j)->f i=low i/\f j=low j):Zt low f:=by
 intro i hi;have hb:low i<101:=pO hv (hc i) hi;have h0:f (low i)=low (low i):=by
  have a:=hf _ hb;have b:=hl (low i) _ (h _ hb);have c:=he i _ (hc i);omega
 have key:∀j,Con (Ed x) (low i) j->f j=low j:=by
  intro j hj
  induction hj with
  |refl=>exact h0
  |step _ e ih=>
   rcases e with⟨p,hp,e1,e2⟩|⟨p,hp,e1,e2⟩
   ·exact(hs p hp _ _ e1 e2 (.inl ih)).2
   ·exact(hs p hp _ _ e1 e2 (.inr ih)).1
 exact key i (hc i).symm
theorem lW{f:Nat->Nat}(i j:Nat):∀n,Kl f i j n<=f n:=by
 intro n;unfold Kl;rcases Zo f i j with⟨e,_⟩|⟨e,_⟩<;>rw[e]<;>split<;>(try split)<;>subst_vars<;>omega
theorem dJ:∀(l:List (Ar 2 Int))(f:Nat->Nat)(n:Nat),KG l f n<=f n
 |[],f,n=>Nat.le_refl _
 |p::l,f,n=>by
  have:=dJ l (Kl f (fs p).toNat (sn p).toNat) n;have:=lW (f:=f) (fs p).toNat (sn p).toNat n;have e:KG (p::l) f=KG l (Kl f (fs p).toNat (sn p).toNat):=by unfold KG;cases l<;>rfl
  rw[e];omega
theorem QA(hv:VB x)(hc:∀i,Con (Ed x) i (low i))(hl:∀i j,Con (Ed x) i j->low i<=j)(he:∀i j,Con (Ed x) i j->low i=low j):∀(n:Nat)(f:Nat->Nat),WR x f->(∀i,i<101->f i<=i)->(nd x low f).length<=n->Zt low (WQ x.v n f)
 |0,f,h,hf,hn=>by
  show Zt low f;refine Xu hv hc hl he h hf fun p hp i j e1 e2 _=>?_;have h0:nd x low f=[]:=List.eq_nil_of_length_eq_zero (by omega);have:=List.filter_eq_nil_iff.1 h0 p hp;rw[e1,e2]at this;simpa using this
 |n+1,f,h,hf,hn=>by
  show Zt low (WQ x.v n (KG x.v f));obtain⟨g1,g2,g3⟩:=dH hv hl he x.v f (fun _ h=>h) h;have hf':∀i,i<101->KG x.v f i<=i:=fun i hi=>Nat.le_trans (dJ _ _ _) (hf i hi);by_cases hs:∀p∈x.v,∀i j:Nat,fs p=(i:Int)->sn p=(j:Int)->(f i=low i\/f j=low j)->f i=low i/\f j=low j
  ·have hd:=Xu hv hc hl he h hf hs
   have hz:nd x low (KG x.v f)=[]:=by
    refine List.filter_eq_nil_iff.2 fun p hp=>?_;obtain⟨i,j,e1,e2,e3,e4,hi,hj,_⟩:=QT hv hp;rw[e3,e4,g2 i hi (hd i hi),g2 j hj (hd j hj)];simp
   exact QA hv hc hl he n _ g1 hf' (by rw[hz];simp)
  ·refine QA hv hc hl he n _ g1 hf' ?_
   have:∃p∈x.v,∃i j:Nat,fs p=(i:Int)/\sn p=(j:Int)/\(f i=low i\/f j=low j)/\¬(f i=low i/\f j=low j):=by
    refine Classical.byContradiction fun hno=>hs fun p hp i j e1 e2 e3=>Classical.byContradiction fun e4=>hno ⟨p,hp,i,j,e1,e2,e3,e4⟩
   obtain⟨p,hp,i,j,e1,e2,e3,e4⟩:=this;have:=dI (l:=x.v) (p:=fun p=>!(decide (f (fs p).toNat=low (fs p).toNat)&&decide (f (sn p).toNat=low (sn p).toNat))) (q:=fun p=>!(decide (KG x.v f (fs p).toNat=low (fs p).toNat)&&decide (KG x.v f (sn p).toNat=low (sn p).toNat)))
    (fun q hq hh=>by
     obtain⟨a,b,f1,f2,f3,f4,ha,hb,_⟩:=QT hv hq;rw[f3,f4]at hh⊢;by_cases d:f a=low a/\f b=low b
     ·rw[g2 a ha d.1,g2 b hb d.2]at hh;simp at hh
     ·simp only[Bool.not_eq_true',Bool.and_eq_false_iff,decide_eq_false_iff_not]
      by_cases d1:f a=low a
      ·exact .inr fun d2=>d ⟨d1,d2⟩
      ·exact .inl d1) hp (by
     rw[e1,e2];simp only[Int.toNat_natCast,Bool.not_eq_true',Bool.and_eq_false_iff,decide_eq_false_iff_not];by_cases d1:f i=low i
     ·exact .inr fun d2=>e4 ⟨d1,d2⟩
     ·exact .inl d1) (by
     have:=g3 p hp i j e1 e2 e3;rw[e1,e2];simp[this.1,this.2])
   show(x.v.filter _).length<=n;have hn':(x.v.filter _).length<=n+1:=hn;omega
end
theorem uW{F:Nat}:∀(m k:Nat),k<=101->101-k<m->EO F m ((List.range k).map fun i=>((i:Nat):Int)) (k:Int)=some (tl fun i=>i)
 |0,k,_,h=>by omega
 |m+1,k,hk,h=>by
  unfold EO;by_cases hlt:k<101
  ·rw[if_pos (by simp;omega),GQ (by simp;omega)]
   simp only[Ah,AJ];rw[Aq (by omega),<-uW (F:=F) m (k+1) (by omega) (by omega)];simp[List.range_succ]
  ·rw[if_neg (by simp;omega),show k=101 by omega];rfl
theorem uX{F:Nat}{x:Bk}(hv:VB x):∀(m k:Nat)(f:Nat->Nat),k<=x.v.length->x.v.length-k<m->FT F x m (tl f) (k:Int)=some (tl (KG (x.v.drop k) f))
 |0,k,_,_,h=>by omega
 |m+1,k,f,hk,h=>by
  have hlen:=hv.len;unfold FT;by_cases hlt:k<x.v.length
  ·obtain⟨i,j,e1,e2,e3,e4,hi,hj,_⟩:=QT hv (List.getElem_mem hlt)
   rw[if_pos (by simpa using hlt),Az hlt];simp only[Ah,AJ];rw[Uz,U0,e1,e2];simp only[AJ];rw[MS hi,MS hj];simp only[AJ];have el:(if(f j:Int)<(f i:Int)then(f j:Int)else(f i:Int))=((SI f i j:Nat):Int):=by
    unfold SI;by_cases c:f j<f i
    ·rw[if_pos c,if_pos (by omega)]
    ·rw[if_neg c,if_neg (by omega)]
   rw[el,dG hi,MS hj];simp only[AJ];rw[dG hj,Aq (by omega),List.drop_eq_getElem_cons hlt];have er:KG (x.v[k]::x.v.drop (k+1)) f=KG (x.v.drop (k+1)) (Kl f i j):=by unfold KG;rw[e3,e4];cases x.v.drop (k+1)<;>rfl
   rw[er,<-uX hv m (k+1) (Kl f i j) (by omega) (by omega)]
   rfl
  ·rw[if_neg (by simpa using hlt),List.drop_of_length_le (by omega)];rfl
theorem uY{F:Nat}(hF:1000<F){x:Bk}(hv:VB x):∀(m k:Nat)(f:Nat->Nat),k<=x.v.length->x.v.length-k<m->FU F x m (tl f) (k:Int)=some (tl (WQ x.v (x.v.length-k) f))
 |0,k,_,_,h=>by omega
 |m+1,k,f,hk,h=>by
  have hlen:=hv.len;unfold FU;by_cases hlt:k<x.v.length
  ·rw[if_pos (by simpa using hlt)]
   have:=uX (F:=F) hv F 0 f (by omega) (by omega);rw[show((0:Nat):Int)=0 from rfl,List.drop_zero]at this;rw[this];simp only[Ah,AJ];rw[Aq (by omega),uY hF hv m (k+1) _ (by omega) (by omega),show x.v.length-k=(x.v.length-(k+1))+1 by omega]
   rfl
  ·rw[if_neg (by simpa using hlt),show x.v.length-k=0 by omega];rfl
theorem Xv{F:Nat}(hF:1000<F){x:Bk}(hv:VB x):∃g,JC F x=some (tl g)/\∀i j,i<101->j<101->(g i=g j↔Con (Ed x) i j):=by
 obtain⟨low,hc,hl,he⟩:=pM (Ed x);have hlen:=hv.len;refine⟨WQ x.v x.v.length fun i=>i,?_,?_⟩
 ·unfold JC
  have h1:=uW (F:=F) F 0 (by omega) (by omega);have h2:=uY hF hv F 0 (fun i=>i) (by omega) (by omega);rw[show((0:Nat):Int)=0 from rfl]at h1 h2;rw[show EO F F [] 0=_ from h1];simp only[Ah,AJ];rw[h2];rfl
 ·have hd:=QA hv hc hl he x.v.length (fun i=>i) (fun i _=>.refl i) (fun i _=>Nat.le_refl i) (List.length_filter_le ..)
  intro i j hi hj;rw[hd i hi,hd j hj];refine⟨fun h=>?_,he i j⟩;have:=hc j;rw[<-h]at this;exact(hc i).trans this.symm
end
structure VL(l:List (List Int)):Prop where
 two:2<=l.length
 four:l.length<=4
 len:∀r∈l,r.length<=8
 ws:∀r∈l,∀n∈r,wd n=true
theorem pQ(n:Int):Im n=some (wd n):=rfl
theorem uZ{F:Nat}(hF:1000<F){l:List Int}(hl:l.length<=100):JI F l=some (l.all wd):=by
 unfold JI;rw[lG (f:=fun y=>KX y) (p:=fun n=>decide (n<1)||decide (100<n)) (fun x _=>rfl) (by omega) (by omega)];simp only[Ah,AJ];exact congrArg some (lH l)
theorem uf{F:Nat}{x:Bk}(hl:x.v.length<=1000):∀(m k:Nat),k<=x.v.length->x.v.length-k<m->
  EN F x m (k:Int)=some (if((x.v.drop k).all fun p=>wd (fs p)&&wd (sn p))=true then .inr ()else .inl 2)
 |0,k,_,h=>by omega
 |m+1,k,hk,h=>by
  unfold EN;by_cases hlt:k<x.v.length
  ·rw[if_pos (by simpa using hlt),Az hlt,List.drop_eq_getElem_cons hlt,List.all_cons]
   simp only[Ah,AJ];rw[Uz,U0];simp only[AJ,pQ];cases h1:wd (fs x.v[k])with
   |false=>simp
   |true=>
    cases h2:wd (sn x.v[k])with
    |false=>simp
    |true=>
     simp only[Bool.not_true,Bool.false_eq_true,if_false,AJ,Bool.true_and];rw[Aq (by omega),uf hl m (k+1) (by omega) (by omega)]
  ·rw[if_neg (by simpa using hlt),List.drop_of_length_le (by omega)];rfl
def Ql(x:Bk):Int:=if 40<x.v.length then 6 else if(x.v.all fun p=>wd (fs p)&&wd (sn p))=true then 0 else 2
theorem dK{x:Bk}:Ql x=0↔VB x:=by
 unfold Ql;by_cases h:40<x.v.length
 ·rw[if_pos h];exact⟨fun h=>by(cases h),fun g=>by(have:=g.len;omega)⟩
 ·rw[if_neg h]
  cases h1:x.v.all fun p=>wd (fs p)&&wd (sn p)with
  |true=>
   refine⟨fun _=>⟨by omega,fun p hp=>?_⟩,fun _=>rfl⟩;have:=List.all_eq_true.1 h1 p hp;simpa using this
  |false=>
   refine⟨fun h=>by(cases h),fun g=>?_⟩;have:(x.v.all fun p=>wd (fs p)&&wd (sn p))=true:=List.all_eq_true.2 fun p hp=>by rw[(g.ws p hp).1,(g.ws p hp).2];rfl
   rw[this]at h1;cases h1
theorem pR{F:Nat}(hF:1000<F)(x:Bk):Gg F x=some (Ql x):=by
 unfold Gg Ql;by_cases h:40<x.v.length
 ·rw[if_pos h,if_pos (by simp;omega)]
 ·rw[if_neg h,if_neg (by simp;omega)]
  have:=uf (F:=F) (x:=x) (by omega) F 0 (by omega) (by omega);rw[show((0:Nat):Int)=0 from rfl,List.drop_zero]at this;rw[this];cases x.v.all fun p=>wd (fs p)&&wd (sn p)<;>rfl
theorem ug{F:Nat}(hF:1000<F){x:Bk}(hv:VB x):∀(m k:Nat),k<=x.v.length->x.v.length-k<m->Du F x m (k:Int)=some (.inr ())
 |0,k,_,h=>by omega
 |m+1,k,hk,h=>by
  have hlen:=hv.len;unfold Du;by_cases hlt:k<x.v.length
  ·obtain⟨h1,h2⟩:=hv.ws _ (List.getElem_mem hlt)
   rw[if_pos (by simpa using hlt),Az hlt];simp only[Ah,AJ];rw[Uz,U0];simp only[AJ];rw[uZ hF (by simp)];simp only[AJ,List.all_cons,h1,h2,List.all_nil,Bool.and_self,Bool.not_true,Bool.false_eq_true,if_false];rw[Aq (by omega),ug hF hv m (k+1) (by omega) (by omega)]
  ·rw[if_neg (by simpa using hlt)]
theorem pU{F:Nat}(hF:1000<F){x:Bk}(hv:VB x):Il F x=some 0:=by
 have hlen:=hv.len;unfold Il;rw[if_neg (by simp;omega)];have:=ug hF hv F 0 (by omega) (by omega);rw[show Du F x F 0=_ from this]
 rfl
theorem UW{l:List (List Int)}{f:List Int->Option Bool}(F:Nat):∀m k,Ch F l f m k=Jq l f m k
 |0,_=>rfl
 |m+1,k=>by unfold Ch Jq;simp only[UW F m]
theorem UX{l:List (List Int)}{f:List Int->Option Bool}(hf:∀x∈l,f x=some false){F:Nat}(hF:l.length<F)(hl:l.length<4611686018427387904):DR F l f=some false:=by
 obtain⟨r,h1,_,h3⟩:=NJ (p:=fun _=>false) hf hl F 0 (by omega) (by omega);have e:r=.inr ():=h3 (by simp);subst e;unfold DR Gf;rw[UW,show(0:Int)=((0:Nat):Int)from rfl,h1]
 rfl
theorem pW{F:Nat}(hF:1000<F){x:Bk}(hv:VB x){l:List (List Int)}(h:VL l):H9 F x l=some 0:=by
 have h2:=h.two;have h4:=h.four;unfold H9;rw[show(⟨x.v⟩:Bk)=x from rfl,pU hF hv];simp only[Ah,AJ];rw[if_neg (by simp),if_neg (by simp only[Bool.or_eq_true,decide_eq_true_eq];omega),UX (fun r hr=>by
  have:=h.len r hr;unfold Ia;rw[decide_eq_false (by omega)]) (by omega) (by omega)]
 simp only[AJ,Bool.false_eq_true,if_false];rw[UX (fun r hr=>by
  have:=h.len r hr;unfold Ib;rw[uZ hF (by omega),List.all_eq_true.2 (h.ws r hr)];rfl) (by omega) (by omega)]
 rfl
theorem rl1{F:Nat}{l:List (List Int)}(hl:l.length<=1000):∀(m k:Nat),k<=l.length->l.length-k<m->
  Dy F l m (k:Int)=some (if((l.drop k).all fun r=>decide (r.length<=8))=true then .inr ()else .inl 6)
 |0,k,_,h=>by omega
 |m+1,k,hk,h=>by
  unfold Dy;by_cases hlt:k<l.length
  ·rw[if_pos (by simpa using hlt),Az hlt,List.drop_eq_getElem_cons hlt,List.all_cons]
   simp only[Ah,AJ];by_cases h8:8<l[k].length
   ·rw[if_pos (by simp;omega),decide_eq_false (by omega)];rfl
   ·rw[if_neg (by simp;omega),decide_eq_true (by omega),Aq (by omega),rl1 hl m (k+1) (by omega) (by omega),Bool.true_and]
  ·rw[if_neg (by simpa using hlt),List.drop_of_length_le (by omega)];rfl
theorem uh{F:Nat}{l:List (List Int)}{y:Nat}(hy:y<l.length)(hl:l[y].length<=1000):∀(m k:Nat),k<=l[y].length->l[y].length-k<m->
  Dz F l (y:Int) m (k:Int)=some (if(l[y].drop k).all wd=true then .inr ()else .inl 2)
 |0,k,_,h=>by omega
 |m+1,k,hk,h=>by
  unfold Dz;rw[Az hy];simp only[Ah,AJ];by_cases hlt:k<l[y].length
  ·rw[if_pos (by simpa using hlt),Az hlt,List.drop_eq_getElem_cons hlt,List.all_cons]
   simp only[AJ,pQ];cases h1:wd l[y][k]with
   |false=>rfl
   |true=>
    simp only[Bool.not_true,Bool.false_eq_true,if_false,Bool.true_and];rw[Aq (by omega),uh hy hl m (k+1) (by omega) (by omega)]
  ·rw[if_neg (by simpa using hlt),List.drop_of_length_le (by omega)];rfl
theorem rl2{F:Nat}(hF:1000<F){l:List (List Int)}(hl:l.length<=1000)(h8:∀r∈l,r.length<=8):∀(m k:Nat),k<=l.length->l.length-k<m->
  D5 F l m (k:Int)=some (if((l.drop k).all fun r=>r.all wd)=true then .inr ()else .inl 2)
 |0,k,_,h=>by omega
 |m+1,k,hk,h=>by
  unfold D5;by_cases hlt:k<l.length
  ·have h8':=h8 _ (List.getElem_mem hlt)
   rw[if_pos (by simpa using hlt)];have:=uh (F:=F) hlt (by omega) F 0 (by omega) (by omega);rw[show((0:Nat):Int)=0 from rfl,List.drop_zero]at this;rw[this,List.drop_eq_getElem_cons hlt,List.all_cons];simp only[Ah,AJ];cases h1:l[k].all wd with
   |false=>rfl
   |true=>
    simp only[if_true,Bool.true_and];rw[Aq (by omega),rl2 hF hl h8 m (k+1) (by omega) (by omega)]
  ·rw[if_neg (by simpa using hlt),List.drop_of_length_le (by omega)];rfl
def cln(x:Bk)(l:List (List Int)):Int:=
 if Ql x≠0 then Ql x else if l.length<2\/4<l.length then 6 else if(l.all fun r=>decide (r.length<=8))=true then(if(l.all fun r=>r.all wd)=true then 0 else 2)else 6
theorem pX{x:Bk}{l:List (List Int)}:cln x l=0↔VB x/\VL l:=by
 unfold cln;by_cases h0:Ql x=0
 ·rw[if_neg (by simpa using h0)]
  by_cases h1:l.length<2\/4<l.length
  ·rw[if_pos h1];exact⟨fun h=>by(cases h),fun g=>by(have:=g.2.two;have:=g.2.four;omega)⟩
  ·rw[if_neg h1]
   cases h2:l.all fun r=>decide (r.length<=8)with
   |false=>
    rw[if_neg (by simp)];refine⟨fun h=>by(cases h),fun g=>?_⟩;have:(l.all fun r=>decide (r.length<=8))=true:=List.all_eq_true.2 fun r hr=>by simpa using g.2.len r hr
    rw[this]at h2;cases h2
   |true=>
    rw[if_pos rfl];cases h3:l.all fun r=>r.all wd with
    |false=>
     rw[if_neg (by simp)];refine⟨fun h=>by(cases h),fun g=>?_⟩;have:(l.all fun r=>r.all wd)=true:=List.all_eq_true.2 fun r hr=>List.all_eq_true.2 (g.2.ws r hr);rw[this]at h3;cases h3
    |true=>
     rw[if_pos rfl];refine⟨fun _=>⟨dK.1 h0,by omega,by omega,fun r hr=>by simpa using List.all_eq_true.1 h2 r hr,fun r hr=>List.all_eq_true.1 (List.all_eq_true.1 h3 r hr)⟩,fun _=>rfl⟩
 ·rw[if_pos h0];exact⟨fun h=>absurd h h0,fun g=>absurd (dK.2 g.1) h0⟩
theorem pY{F:Nat}(hF:1000<F)(x:Bk)(l:List (List Int)):GJ F x l=some (cln x l):=by
 unfold GJ cln;rw[show(⟨x.v⟩:Bk)=x from rfl,pR hF];simp only[Ah,AJ];by_cases h0:Ql x=0
 ·have e:(!decide (Ql x=0))=false:=by simp[h0]
  rw[e,if_neg (show¬Ql x≠0 from fun h=>h h0)];simp only[Bool.false_eq_true,if_false];by_cases h1:l.length<2\/4<l.length
  ·rw[if_pos h1,if_pos (by simp only[Bool.or_eq_true,decide_eq_true_eq];omega)]
  ·rw[if_neg h1,if_neg (by simp only[Bool.or_eq_true,decide_eq_true_eq];omega)]
   have:=rl1 (F:=F) (l:=l) (by omega) F 0 (by omega) (by omega);rw[show((0:Nat):Int)=0 from rfl,List.drop_zero]at this;rw[this];cases h2:l.all fun r=>decide (r.length<=8)with
   |false=>rfl
   |true=>
    simp only[if_true,AJ];have:=rl2 hF (l:=l) (by omega) (fun r hr=>by simpa using List.all_eq_true.1 h2 r hr) F 0 (by omega) (by omega);rw[show((0:Nat):Int)=0 from rfl,List.drop_zero]at this;rw[this];cases l.all fun r=>r.all wd<;>rfl
 ·rw[if_pos (by simpa using h0),if_pos h0]
abbrev Tp:=Nat->Nat
def upd(f:Tp)(j i:Nat):Tp:=fun n=>if n=j then i else f n
def ln(l:List (List Int))(j:Nat):Nat:=(l.getD j []).length
def Hf(l:List (List Int)):Nat->List Tp
 |0=>[fun _=>0]
 |j+1=>(Hf l j).flatMap fun t=>(List.range (ln l j)).map (upd t j)
theorem Kv{l:List (List Int)}:∀(j:Nat)(f:Tp),f∈Hf l j->(∀i,i<j->f i<ln l i)/\∀i,j<=i->f i=0
 |0,f,h=>by
  rw[Hf,List.mem_singleton]at h;subst h;exact⟨fun i h=>by omega,fun _ _=>rfl⟩
 |j+1,f,h=>by
  rw[Hf,List.mem_flatMap]at h;obtain⟨t,ht,h⟩:=h;obtain⟨i,hi,rfl⟩:=List.mem_map.1 h;obtain⟨a,b⟩:=Kv j t ht;rw[List.mem_range]at hi;refine⟨fun n hn=>?_,fun n hn=>?_⟩
  ·unfold upd;by_cases e:n=j
   ·rw[if_pos e];subst e;exact hi
   ·rw[if_neg e];exact a n (by omega)
  ·unfold upd;rw[if_neg (by omega)];exact b n (by omega)
theorem Xw{l:List (List Int)}:∀(j i:Nat),i<j->ln l i=0->Hf l j=[]
 |0,i,h,_=>by omega
 |j+1,i,h,h0=>by
  rw[Hf];by_cases e:i=j
  ·subst e;rw[h0];simp
  ·rw[Xw j i (by omega) h0];rfl
theorem Xx{l:List (List Int)}{q:Nat}(hq:∀i,ln l i<=q):∀j,(Hf l j).length<=q^j
 |0=>by simp[Hf]
 |j+1=>by
  rw[Hf,List.length_flatMap];have:∀(L:List Tp),(L.map fun t=>((List.range (ln l j)).map (upd t j)).length).sum<=L.length*q:=by
   intro L
   induction L with
   |nil=>simp
   |cons a L ih=>simp only[List.map_cons,List.sum_cons,List.length_map,List.length_range,List.length_cons,Nat.succ_mul]at*;have:=hq j;omega
  exact Nat.le_trans (this _) (by rw[Nat.pow_succ];exact Nat.mul_le_mul_right _ (Xx hq j))
theorem UY{l:List (List Int)}:∀j,(Hf l (j+1)).Pairwise fun f g=>f 0<=g 0
 |0=>by
  rw[Hf,Hf];simp only[List.flatMap_cons,List.flatMap_nil,List.append_nil];rw[List.pairwise_map];exact List.pairwise_lt_range.imp fun{a b} h=>by simp[upd];omega
 |j+1=>by
  rw[Hf];have ih:=UY (l:=l) j;rw[List.pairwise_flatMap];refine⟨fun t _=>?_,ih.imp fun{f g} h a ha b hb=>?_⟩
  ·rw[List.pairwise_map]
   exact List.pairwise_lt_range.imp fun{a b} _=>by simp[upd]
  ·obtain⟨x,_,rfl⟩:=List.mem_map.1 ha
   obtain⟨y,_,rfl⟩:=List.mem_map.1 hb;simpa[upd]using h
def nx(l:List (List Int)):Nat->Tp->Option Tp
 |0,_=>none
 |j+1,f=>if f j+1<ln l j then some (upd f j (f j+1))else nx l j (upd f j 0)
theorem TM(l:List (List Int))(j:Nat)(f:Tp):nx l (j+1) f=if f j+1<ln l j then some (upd f j (f j+1))else nx l j (upd f j 0):=rfl
inductive Run{α:Type}(nx:α->Option α):α->List α->Prop
 |last {u:α}:nx u=none->Run nx u [u]
 |more {u v:α} {l:List α}:nx u=some v->Run nx v l->Run nx u (u::l)
theorem OO(f:Tp)(j a b:Nat):upd (upd f j a) j b=upd f j b:=by funext n;unfold upd;by_cases e:n=j<;>simp[e]
theorem IY{f:Tp}{j a:Nat}(h:f j=a):upd f j a=f:=by funext n;unfold upd;by_cases e:n=j<;>simp[e,h]
theorem jf{l:List (List Int)}{j:Nat}{t:Tp}(ht:t j=0){T:List Tp}(h0:nx l j t=none->T=[])(h1:∀v,nx l j t=some v->Run (nx l (j+1)) v T):
  ∀(d i:Nat),i+d+1=ln l j->Run (nx l (j+1)) (upd t j i) ((List.range' i (d+1)).map (upd t j)++T)
 |0,i,hd=>by
  have e:nx l (j+1) (upd t j i)=nx l j t:=by
   rw[TM,if_neg (by simp[upd];omega),OO,IY ht]
  rw[List.range'_one];cases hn:nx l j t with
  |none=>rw[h0 hn];exact .last (e.trans hn)
  |some v=>exact .more (e.trans hn) (h1 v hn)
 |d+1,i,hd=>by
  rw[List.range'_succ];refine .more (v:=upd t j (i+1)) ?_ (jf ht h0 h1 d (i+1) (by omega));rw[TM,if_pos (by simp[upd];omega),OO];simp[upd]
theorem pq{l:List (List Int)}{j:Nat}(hj:0<ln l j){t:Tp}{L:List Tp}(h:Run (nx l j) t L)(hz:∀u∈L,u j=0):Run (nx l (j+1)) t (L.flatMap fun t=>(List.range (ln l j)).map (upd t j)):=by
 have fl:∀(t:Tp)(T:List Tp),t j=0->(nx l j t=none->T=[])->(∀v,nx l j t=some v->Run (nx l (j+1)) v T)->Run (nx l (j+1)) t ((List.range (ln l j)).map (upd t j)++T):=by
  intro t T ht h0 h1;have:=jf ht h0 h1 (ln l j-1) 0 (by omega);rw[IY ht,show ln l j-1+1=ln l j by omega,<-List.range_eq_range']at this;exact this
 induction h with
 |last hn=>
  have:=fl _ [] (hz _ (List.mem_singleton_self _)) (fun _=>rfl) (fun v hv=>by rw[hn]at hv;cases hv);simpa using this
 |more hn hr ih=>
  rw[List.flatMap_cons];exact fl _ _ (hz _ (List.mem_cons_self ..)) (fun h=>by rw[hn]at h;cases h) (fun v hv=>by
   rw[hn]at hv;cases hv;exact ih fun u hu=>hz u (List.mem_cons_of_mem _ hu))
theorem Xy{l:List (List Int)}:∀j,(∀i,i<j->0<ln l i)->Run (nx l j) (fun _=>0) (Hf l j)
 |0,_=>.last rfl
 |j+1,h=>pq (h j (by omega)) (Xy j fun i hi=>h i (by omega)) fun u hu=>(Kv j u hu).2 j (by omega)
def pl(f:Tp):Pl:=⟨(List.range 4).map fun i=>(f i:Int),by simp⟩
theorem KZ{f:Tp}{i:Nat}(h:i<4):ix (pl f).l (i:Int)=some (f i:Int):=by
 rw[Az (by simpa[pl]using h)];simp[pl]
theorem SK{f:Tp}{i v:Nat}(h:i<4):Ei (pl f) (i:Int) (v:Int)=pl (upd f i v):=Mr (by
 show(pl f).l.set _ _=_;apply List.ext_getElem?;intro j;rw[List.getElem?_set];simp only[pl,List.length_map,List.length_range,List.getElem?_map,Int.toNat_natCast];by_cases hj:j<4
 ·rw[List.getElem?_range hj]
  by_cases e:i=j
  ·subst e;simp[upd,h]
  ·rw[if_neg e];simp[upd,Ne.symm e]
 ·rw[List.getElem?_eq_none (by simp;omega)]
  rw[if_neg (by omega)];rfl)
theorem Xz:pl (fun _=>0)=Ar.fill 4 0:=Mr rfl
theorem TN{l:List (List Int)}(hl:l.length<=4)(h8:∀i,ln l i<=1000):∀(j m:Nat)(f:Tp),j<=l.length->j<m->(∀i,i<j->f i<ln l i)->
  ∃r,Kr l m ((j:Int)-1) (pl f)=some r/\(nx l j f=none->r.1<0)/\∀g,nx l j f=some g->∃q x:Nat,r.1=(q:Int)/\ix r.2.l r.1=some (x:Int)/\Ei r.2 r.1 (AZ ((x:Int)+1))=pl g
 |_,0,_,_,h,_=>by omega
 |0,m+1,f,_,_,_=>by
  unfold Kr;rw[if_neg (by simp)];exact⟨_,rfl,fun _=>by simp,fun g h=>by cases h⟩
 |j+1,m+1,f,hj,hm,hf=>by
  have hfj:=hf j (by omega);have h8j:=h8 j;have hjl:j<l.length:=by omega
  have eln:ln l j=l[j].length:=by unfold ln;simp[hjl]
  unfold Kr;rw[show((j+1:Nat):Int)-1=(j:Int) by omega,if_pos (by simp),KZ (by omega),Az hjl];simp only[Ah,AJ];rw[TM];by_cases c:f j+1<ln l j
  ·rw[if_pos c]
   rw[show decide ((f j:Int)=AZ ((l[j].length:Int)-1))=false by rw[BK (by omega)];simp;omega];simp only[Bool.false_eq_true,if_false];refine⟨_,rfl,(fun h=>by cases h),fun g hg=>?_⟩;cases hg;refine⟨j,f j,rfl,KZ (by omega),?_⟩;rw[Aq (by omega),SK (by omega)]
  ·rw[if_neg c]
   rw[show decide ((f j:Int)=AZ ((l[j].length:Int)-1))=true by rw[BK (by omega)];simp;omega];simp only[if_true];have:=TN hl h8 j m (upd f j 0) (by omega) (by omega) fun i hi=>by unfold upd;rw[if_neg (by omega)];exact hf i (by omega)
   rw[BK (by omega),show(0:Int)=((0:Nat):Int)from rfl,SK (by omega)];exact this
theorem all_eq{F:Nat}(hF:100000<F){l:List (List Int)}(hl:l.length<=4)(h8:∀i,ln l i<=1000){f:Tp}{L:List Tp}(h:Run (nx l l.length) f L):∀m,(∀u∈L,∀i,i<l.length->u i<ln l i)->L.length<=m->Li F l m (pl f)=some (L.map pl):=by
 induction h with
 |last hn=>
  intro m hv hm;obtain⟨m,rfl⟩:∃k,m=k+1:=⟨m-1,by simp at hm;omega⟩;obtain⟨r,h1,h2,_⟩:=TN hl h8 l.length F _ (Nat.le_refl _) (by omega) (hv _ (List.mem_singleton_self _));unfold Li;rw[BK (by omega),h1];simp only[Ah,AJ];rw[if_pos (by simpa using h2 hn)];rfl
 |more hn hr ih=>
  intro m hv hm;obtain⟨m,rfl⟩:∃k,m=k+1:=⟨m-1,by simp at hm;omega⟩;obtain⟨r,h1,_,h3⟩:=TN hl h8 l.length F _ (Nat.le_refl _) (by omega) (hv _ (List.mem_cons_self ..));obtain⟨q,y,e1,e2,e3⟩:=h3 _ hn;unfold Li;rw[BK (by omega),h1];simp only[Ah,AJ];rw[if_neg (by rw[e1];simp),e2];simp only[AJ];rw[e3,ih m (fun u hu=>hv u (List.mem_cons_of_mem _ hu)) (by simpa using hm)]
  rfl
theorem SL{l:List (List Int)}(h:VL l)(i:Nat):ln l i<=8:=by
 unfold ln;by_cases hi:i<l.length
 ·simp only[List.getD_eq_getElem?_getD,List.getElem?_eq_getElem hi,Option.getD_some];exact h.len _ (List.getElem_mem hi)
 ·simp only[List.getD_eq_getElem?_getD,List.getElem?_eq_none (by omega:l.length<=i),Option.getD_none];simp
theorem Q5{l:List (List Int)}(h:VL l):(Hf l l.length).length<=4096:=by
 have:=Xx (SL h) l.length;have h2:8^l.length<=8^4:=Nat.pow_le_pow_right (by omega) h.four;have:(8:Nat)^4=4096:=rfl;omega
theorem dL{F:Nat}(hF:100000<F){l:List (List Int)}(h:VL l):JJ F l=some ((Hf l l.length).map pl):=by
 have h4:=h.four;unfold JJ;cases h0:l.any fun r=>r.length==0 with
 |true=>
  rw[if_pos rfl];obtain⟨r,hr,e⟩:=List.any_eq_true.1 h0;obtain⟨i,hi,rfl⟩:=List.mem_iff_getElem.1 hr;rw[Xw l.length i hi (by unfold ln;simp[hi];simpa using e)];rfl
 |false=>
  rw[if_neg (by simp)];have hp:∀i,i<l.length->0<ln l i:=fun i hi=>by
   have:=List.any_eq_false.1 h0 l[i] (List.getElem_mem hi);unfold ln;simp[hi]at this⊢;exact List.length_pos_iff.2 this
  rw[<-Xz];have hl:=Q5 h;exact all_eq hF h4 (fun i=>Nat.le_trans (SL h i) (by omega)) (Xy l.length hp) F (fun u hu=>(Kv _ u hu).1) (by omega)
def Iy(l:List (List Int))(h i:Nat):Nat:=((l.getD h []).getD i 0).toNat
def mt(g:Tp)(l:List (List Int))(k:Nat)(f:Tp):Bool:=(List.range k).all fun h=>decide (g (Iy l h (f h))=g (Iy l 0 (f 0)))
theorem L6{l:List (List Int)}(h:VL l){j i:Nat}(hj:j<l.length)(hi:i<ln l j):ix l[j] (i:Int)=some ((Iy l j i:Nat):Int)/\Iy l j i<101:=by
 have eln:ln l j=l[j].length:=by unfold ln;simp[hj]
 have hi':i<l[j].length:=by omega
 have hw:=h.ws _ (List.getElem_mem hj) _ (List.getElem_mem hi');obtain⟨n,e,_,hn⟩:=P9 hw;have:Iy l j i=n:=by unfold Iy;simp[hj,hi',e]
 rw[Az hi',this,e];exact⟨rfl,hn⟩
theorem lX(g:Tp)(l:List (List Int))(k:Nat)(f:Tp):mt g l (k+1) f=(mt g l k f&&decide (g (Iy l k (f k))=g (Iy l 0 (f 0)))):=by
 unfold mt;rw[List.range_succ,List.all_append];simp
theorem SN{F:Nat}(hF:1000<F){x:Bk}{l:List (List Int)}(h:VL l){c:HV}{g:Tp}(hc:c.l=tl g){acc:List Pl}{f:Tp}(hf:∀i,i<l.length->f i<ln l i):
  F3 F ((⟨some (x,c)⟩:Ob ((Uno (List (Ar 2 Int)))×(Ar 101 Int))),l,acc) (pl f)=some (mt g l l.length f):=by
 have h2:=h.two;have h4:=h.four;have key:∀(m k:Nat),k<=l.length->l.length-k<m->mt g l k f=true->Dn F ((⟨some (x,c)⟩:Ob ((Uno (List (Ar 2 Int)))×(Ar 101 Int))),l,acc) (pl f) m (k:Int)=some (if mt g l l.length f=true then .inr ()else .inl false):=by
  intro m
  induction m with
  |zero=>intro k _ h;omega
  |succ m ih=>
   intro k hk hm hmt;unfold Dn;by_cases hlt:k<l.length
   ·have a:=L6 h hlt (hf k hlt)
    have b:=L6 h (j:=0) (by omega) (hf 0 (by omega));rw[if_pos (by simpa using hlt)];simp only;rw[Az hlt,KZ (by omega)];simp only[Ah,AJ];rw[a.1];simp only[AJ];rw[show(0:Int)=((0:Nat):Int)from rfl,Az (show 0<l.length by omega),KZ (by omega)];simp only[AJ];rw[b.1];simp only[AJ,Gh];rw[hc,MS a.2,MS b.2];simp only[Ah,AJ];by_cases e:g (Iy l k (f k))=g (Iy l 0 (f 0))
    ·rw[show(!decide ((g (Iy l k (f k)):Int)=(g (Iy l 0 (f 0)):Int)))=false by simp[e]]
     simp only[Bool.false_eq_true,if_false];rw[Aq (by omega),ih (k+1) (by omega) (by omega) (by rw[lX,hmt,decide_eq_true e];rfl)]
    ·rw[show(!decide ((g (Iy l k (f k)):Int)=(g (Iy l 0 (f 0)):Int)))=true by simp;omega]
     simp only[if_true];rw[if_neg];intro hh;have:=List.all_eq_true.1 hh k (List.mem_range.2 hlt);exact e (by simpa using this)
   ·have:k=l.length:=by omega
    subst this;rw[if_neg (by simp),hmt];rfl
 unfold F3;have:=key F 0 (by omega) (by omega) rfl;rw[show((0:Nat):Int)=0 from rfl]at this;rw[this];cases mt g l l.length f<;>rfl
theorem Q6{F:Nat}(hF:1000<F){x:Bk}{l:List (List Int)}(h:VL l){c:HV}{g:Tp}(hc:c.l=tl g):∀(L:List Tp)(acc:List Pl),(∀f∈L,∀i,i<l.length->f i<ln l i)->L.length+acc.length<=100000->
  K9 F ⟨some (x,c)⟩ l (L.map pl) acc=some (acc++(L.filter (mt g l l.length)).map pl)
 |[],acc,_,_=>by simp[K9]
 |f::L,acc,hf,hn=>by
  simp only[List.length_cons]at hn;rw[List.map_cons,K9,SN hF h hc (hf f (List.mem_cons_self ..))];simp only[Ah,AJ];cases hm:mt g l l.length f with
  |true=>
   rw[if_pos rfl,GQ (by simp;omega)];simp only[AJ];rw[Q6 hF h hc L _ (fun u hu=>hf u (List.mem_cons_of_mem _ hu)) (by simp;omega),List.filter_cons,if_pos hm];simp
  |false=>
   rw[if_neg (by simp),Q6 hF h hc L _ (fun u hu=>hf u (List.mem_cons_of_mem _ hu)) (by omega),List.filter_cons,if_neg (by simp[hm])]
def Mt(g:Tp)(l:List (List Int)):List Tp:=(Hf l l.length).filter (mt g l l.length)
def Gc(k:Nat)(f:Tp):List Int:=(List.range k).map fun i=>(f i:Int)
theorem TS(k:Nat)(f:Tp):(Gc k f).length=k:=by simp[Gc]
theorem OP{k:Nat}{f:Tp}{i:Nat}(h:i<k):ix (Gc k f) (i:Int)=some (f i:Int):=by
 rw[Az (by rw[TS];exact h)];simp[Gc]
def cnd(g:Tp)(l:List (List Int))(j:Nat)(f:Tp)(i:Nat):Bool:=decide (g (Iy l j i)=g (Iy l 0 (if j=0 then i else f 0)))
def I4(k:Nat)(f f':Tp):Bool:=(List.range k).all fun h=>decide (f h<f' h)
theorem Dg{k:Nat}{f f':Tp}:I4 k f f'=true↔∀h,h<k->f h<f' h:=by
 unfold I4;simp
theorem dM{k:Nat}{f g h:Tp}(a:I4 k f g=true)(b:I4 k g h=true):I4 k f h=true:=by
 rw[Dg]at*
 intro i hi;have:=a i hi;have:=b i hi;omega
theorem lY{F:Nat}(hF:1000<F){k:Nat}(hk:k<=1000)(f f':Tp):Jj F (Gc k f) (Gc k f')=some (I4 k f f'):=by
 have key:∀(m i:Nat),i<=k->k-i<m->(∀h,h<i->f h<f' h)->Fs F (Gc k f) (Gc k f') m (i:Int)=some (if I4 k f f'=true then .inr ()else .inl false):=by
  intro m
  induction m with
  |zero=>intro i _ h;omega
  |succ m ih=>
   intro i hi hm hb;unfold Fs;rw[TS];by_cases hlt:i<k
   ·rw[if_pos (by simpa using hlt),OP hlt,OP hlt]
    simp only[Ah,AJ];by_cases e:f i<f' i
    ·rw[if_neg (by simp;omega),Aq (by omega),ih (i+1) (by omega) (by omega) fun h hh=>by
      by_cases e':h=i
      ·subst e';exact e
      ·exact hb h (by omega)]
    ·rw[if_pos (by simp;omega),if_neg (fun h=>e (Dg.1 h i hlt))]
   ·rw[if_neg (by simpa using hlt),if_pos (Dg.2 fun h hh=>hb h (by omega))]
 unfold Jj;have:=key F 0 (by omega) (by omega) (fun h hh=>by omega);rw[show((0:Nat):Int)=0 from rfl]at this;rw[this];cases I4 k f f'<;>rfl
theorem TU{F:Nat}(hF:1000<F){d:Ob ((Uno (List (Ar 2 Int)))×(Ar 101 Int))}{l:List (List Int)}{acc:List Pl}(hk:l.length<=4)(f f':Tp):Bo F (d,l,acc) (pl f) (pl f')=some (I4 l.length f f'):=by
 have key:∀(m i:Nat),i<=l.length->l.length-i<m->(∀h,h<i->f h<f' h)->D6 F (d,l,acc) (pl f) (pl f') m (i:Int)=some (if I4 l.length f f'=true then .inr ()else .inl false):=by
  intro m
  induction m with
  |zero=>intro i _ h;omega
  |succ m ih=>
   intro i hi hm hb;unfold D6;by_cases hlt:i<l.length
   ·rw[if_pos (by simpa using hlt),KZ (by omega),KZ (by omega)]
    simp only[Ah,AJ];by_cases e:f i<f' i
    ·rw[if_neg (by simp;omega),Aq (by omega),ih (i+1) (by omega) (by omega) fun h hh=>by
      by_cases e':h=i
      ·subst e';exact e
      ·exact hb h (by omega)]
    ·rw[if_pos (by simp;omega),if_neg (fun h=>e (Dg.1 h i hlt))]
   ·rw[if_neg (by simpa using hlt),if_pos (Dg.2 fun h hh=>hb h (by omega))]
 unfold Bo;have:=key F 0 (by omega) (by omega) (fun h hh=>by omega);rw[show((0:Nat):Int)=0 from rfl]at this;rw[this];cases I4 l.length f f'<;>rfl
theorem Iz{g:Tp}{l:List (List Int)}{f:Tp}(h:f∈Mt g l):(∀i,i<l.length->f i<ln l i)/\(∀i,l.length<=i->f i=0)/\mt g l l.length f=true:=by
 obtain⟨a,b⟩:=List.mem_filter.1 h;exact⟨(Kv _ f a).1,(Kv _ f a).2,b⟩
theorem dN{g:Tp}{l:List (List Int)}(h:VL l):(Mt g l).Pairwise fun a b=>a 0<=b 0:=by
 have h2:=h.two;unfold Mt;obtain⟨k,e⟩:∃k,l.length=k+1:=⟨l.length-1,by omega⟩;have:=UY (l:=l) k;rw[<-e]at this;exact this.sublist List.filter_sublist
section
theorem dP{l:List (List Int)}:∀(j:Nat)(f:Tp),(∀i,i<j->f i<ln l i)->(∀i,j<=i->f i=0)->f∈Hf l j
 |0,f,_,h=>by rw[Hf,List.mem_singleton];funext i;exact h i (by omega)
 |j+1,f,h,h0=>by
  rw[Hf,List.mem_flatMap];refine⟨upd f j 0,dP j _ (fun i hi=>?_) (fun i hi=>?_),List.mem_map.2 ⟨f j,List.mem_range.2 (h j (by omega)),?_⟩⟩
  ·unfold upd;rw[if_neg (by omega)];exact h i (by omega)
  ·unfold upd;by_cases e:i=j
   ·rw[if_pos e]
   ·rw[if_neg e];exact h0 i (by omega)
  ·rw[OO,IY rfl]
theorem jg{g:Tp}{l:List (List Int)}{f:Tp}(h:∀i,i<l.length->f i<ln l i)(h0:∀i,l.length<=i->f i=0)(hm:mt g l l.length f=true):f∈Mt g l:=
 List.mem_filter.2 ⟨dP _ f h h0,hm⟩
section
variable {g:Tp}{l:List (List Int)}
def Chn(g:Tp)(l:List (List Int))(c:List Tp)(u:Tp):Prop:=c.Pairwise (fun a b=>I4 l.length a b=true)/\∀f∈c,f∈Mt g l/\I4 l.length f u=true
def Mx(g:Tp)(l:List (List Int))(u:Tp)(n:Nat):Prop:=(∃c,Chn g l c u/\c.length=n)/\∀c,Chn g l c u->c.length<=n
theorem Chn.mono{u v:Tp}{c:List Tp}(h:Chn g l c u)(huv:∀f,I4 l.length f u=true->I4 l.length f v=true):Chn g l c v:=⟨h.1,fun f hf=>⟨(h.2 f hf).1,huv f (h.2 f hf).2⟩⟩
theorem Mx.zero{u:Tp}{h:Nat}(hh:h<l.length)(h0:u h=0):Mx g l u 0:=by
 refine⟨⟨[],⟨List.Pairwise.nil,fun f hf=>by cases hf⟩,rfl⟩,fun c hc=>?_⟩;cases c with
 |nil=>exact Nat.le_refl _
 |cons f c=>
  have:=Dg.1 (hc.2 f (List.mem_cons_self ..)).2 h hh;omega
theorem OQ{α:Type}(c:List α):c=[]\/∃d x,c=d++[x]:=by
 rcases List.eq_nil_or_concat c with h|⟨d,x,h⟩
 ·exact .inl h
 ·exact .inr ⟨d,x,by simpa using h⟩
theorem Chn.snoc{c:List Tp}{x u:Tp}(h:Chn g l (c++[x]) u):Chn g l c x/\x∈Mt g l/\I4 l.length x u=true:=by
 obtain⟨h1,h2⟩:=h;rw[List.pairwise_append]at h1;refine⟨⟨h1.1,fun f hf=>⟨(h2 f (by simp[hf])).1,h1.2.2 f hf x (by simp)⟩⟩,h2 x (by simp)⟩
theorem Chn.add{c:List Tp}{x u:Tp}(h:Chn g l c x)(hx:x∈Mt g l)(hu:I4 l.length x u=true):Chn g l (c++[x]) u:=by
 refine⟨List.pairwise_append.2 ⟨h.1,List.pairwise_singleton ..,fun f hf y hy=>?_⟩,fun f hf=>?_⟩
 ·rw[List.mem_singleton]at hy;subst hy;exact(h.2 f hf).2
 ·rcases List.mem_append.1 hf with hf|hf
  ·exact⟨(h.2 f hf).1,dM (h.2 f hf).2 hu⟩
  ·rw[List.mem_singleton]at hf;subst hf;exact⟨hx,hu⟩
def G8(j:Nat)(u:Tp):Tp:=fun i=>if i<j then u i-1 else u i
theorem Mx.hit{u:Tp}{n:Nat}(hp:∀h,h<l.length->0<u h)(hv:G8 l.length u∈Mt g l)(h:Mx g l (G8 l.length u) n):Mx g l u (n+1):=by
 have hvu:I4 l.length (G8 l.length u) u=true:=Dg.2 fun h hh=>by unfold G8;rw[if_pos hh];have:=hp h hh;omega
 refine⟨?_,fun c hc=>?_⟩
 ·obtain⟨⟨c,c1,c2⟩,_⟩:=h
  exact⟨c++[G8 l.length u],c1.add hv hvu,by simp[c2]⟩
 ·rcases OQ c with rfl|⟨d,x,rfl⟩
  ·simp
  ·obtain⟨a,b,e⟩:=hc.snoc
   have:=h.2 d (a.mono fun f hf=>Dg.2 fun i hi=>by
    have a1:=Dg.1 hf i hi;have a2:=Dg.1 e i hi;unfold G8;rw[if_pos hi];omega)
   simp;omega
theorem Mx.miss{u:Tp}{n:Nat}(hp:∀h,h<l.length->0<u h)(h0:∀i,l.length<=i->u i=0)(hv:G8 l.length u∉Mt g l)(h2:0<l.length)
  (hx:∃h,h<l.length/\Mx g l (upd u h (u h-1)) n) (hle:∀h,h<l.length->∃m,Mx g l (upd u h (u h-1)) m/\m<=n):Mx g l u n:=by
 refine⟨?_,fun c hc=>?_⟩
 ·obtain⟨h,hh,⟨c,c1,c2⟩,_⟩:=hx
  exact⟨c,c1.mono fun f hf=>Dg.2 fun i hi=>by
   have:=Dg.1 hf i hi;unfold upd at this;by_cases e:i=h
   ·rw[if_pos e]at this;subst e;omega
   ·rw[if_neg e]at this;exact this,c2⟩
 ·rcases OQ c with rfl|⟨d,x,rfl⟩
  ·simp
  ·obtain⟨a,b,e⟩:=hc.snoc
   have:∃h,h<l.length/\x h<u h-1:=by
    refine Classical.byContradiction fun hno=>hv ?_;have:G8 l.length u=x:=by
     funext i
     unfold G8;by_cases hi:i<l.length
     ·rw[if_pos hi]
      have a2:=Dg.1 e i hi;have a3:¬x i<u i-1:=fun hh=>hno ⟨i,hi,hh⟩;omega
     ·rw[if_neg hi,h0 i (by omega),(Iz b).2.1 i (by omega)]
    rw[this];exact b
   obtain⟨h,hh,hlt⟩:=this;obtain⟨m,hm,hmn⟩:=hle h hh;have hxu:I4 l.length x (upd u h (u h-1))=true:=Dg.2 fun i hi=>by
    unfold upd;by_cases ei:i=h
    ·rw[if_pos ei];subst ei;exact hlt
    ·rw[if_neg ei];exact Dg.1 e i hi
   have:=hm.2 _ (a.add b hxu);omega
end
theorem mput_mem{κ ν:Type}[DecidableEq κ]{k:κ}{v:ν}{p:κ×ν}:∀{m:List (κ×ν)},p∈BO m k v->p=(k,v)\/p∈m
 |[],h=>by rw[BO,List.mem_singleton]at h;exact .inl h
 |(a,b)::m,h=>by
  unfold BO at h;by_cases e:a=k
  ·rw[if_pos e]at h
   rcases List.mem_cons.1 h with h|h
   ·exact .inl h
   ·exact .inr (List.mem_cons_of_mem _ h)
  ·rw[if_neg e]at h
   rcases List.mem_cons.1 h with h|h
   ·exact .inr (by rw[h];exact List.mem_cons_self ..)
   ·exact(mput_mem h).imp id (List.mem_cons_of_mem _)
theorem WS{κ ν:Type}[DecidableEq κ]{d:ν}{k:κ}:∀{m:List (κ×ν)},IV m k=true->(k,BD d m k)∈m
 |[],h=>by cases h
 |(a,b)::m,h=>by
  unfold IV at h;unfold BD;by_cases e:a=k
  ·rw[if_pos e];subst e;exact List.mem_cons_self ..
  ·rw[if_neg e]at h⊢
   exact List.mem_cons_of_mem _ (WS h)
theorem dQ{k:Nat}(hk:k<=4){f f':Tp}(h:pl f=pl f')(h0:∀i,k<=i->f i=0)(h1:∀i,k<=i->f' i=0):f=f':=by
 funext i
 by_cases hi:i<4
 ·have a:=KZ (f:=f) hi
  have b:=KZ (f:=f') hi;rw[h,b]at a;simp only[Option.some.injEq]at a;omega
 ·rw[h0 i (by omega),h1 i (by omega)]
def Memo(g:Tp)(l:List (List Int))(m:List (Pl×Int)):Prop:=∀p∈m,∃w n,p.1=pl w/\(∀i,l.length<=i->w i=0)/\p.2=((n:Nat):Int)/\Mx g l w n
theorem Memo.nil{g:Tp}{l:List (List Int)}:Memo g l []:=fun p hp=>by cases hp
theorem pu{f:Tp}(h:∀i,f i<1000):MB (pl f)=some ():=by
 unfold MB;rw[if_pos];show((pl f).l.all fun n=>(Lit.int .i64 n).wf)=true;refine List.all_eq_true.2 fun n hn=>?_;simp only[pl,List.mem_map]at hn;obtain⟨i,_,rfl⟩:=hn;have:=h i;have h1:IntKind.i64.min=-9223372036854775808:=rfl;have h2:IntKind.i64.max=9223372036854775807:=rfl;simp[Lit.wf,h1,h2];omega
theorem Chn.len{g:Tp}{l:List (List Int)}(h:0<l.length):∀(n:Nat)(c:List Tp)(u:Tp),c.length=n->Chn g l c u->n<=u 0
 |0,_,_,_,_=>Nat.zero_le _
 |n+1,c,u,e,hc=>by
  rcases OQ c with rfl|⟨d,x,rfl⟩
  ·cases e
  ·obtain⟨a,b,hu⟩:=hc.snoc
   have:=Chn.len h n d x (by simpa using e) a;have:=Dg.1 hu 0 h;omega
theorem Mx.le{g:Tp}{l:List (List Int)}(h:0<l.length){u:Tp}{n:Nat}(hm:Mx g l u n):n<=u 0:=by
 obtain⟨⟨c,c1,c2⟩,_⟩:=hm;exact Chn.len h n c u c2 c1
abbrev uj:=(Ob ((Uno (List (Ar 2 Int)))×(Ar 101 Int)))×(List (List Int))×(List (Ar 4 Int))
theorem pz{u:Tp}{j:Nat}:upd (G8 j u) j (u j-1)=G8 (j+1) u:=by
 funext i
 unfold upd G8;by_cases e:i=j
 ·subst e;simp
 ·rw[if_neg e]
  by_cases hi:i<j
  ·rw[if_pos hi,if_pos (by omega)]
  ·rw[if_neg hi,if_neg (by omega)]
theorem ul{F:Nat}{d:Ob ((Uno (List (Ar 2 Int)))×(Ar 101 Int))}{l:List (List Int)}{acc:List Pl}(h4:l.length<=4){u:Tp}{mm:List (Pl×Int)}(hu:∀i,u i<1000):∀(m j:Nat),j<=l.length->l.length-j<m->
  ((∀i,j<=i->i<l.length->0<u i)->DK F (d,l,acc) (pl u) mm m (j:Int) (pl (G8 j u))=some (.inr (pl (G8 l.length u))))/\
  ((∃i,j<=i/\i<l.length/\u i=0)->DK F (d,l,acc) (pl u) mm m (j:Int) (pl (G8 j u))=some (.inl (0,mm)))
 |0,j,_,h=>by omega
 |m+1,j,hj,hm=>by
  unfold DK;by_cases hlt:j<l.length
  ·have hd:G8 j u j=u j:=by unfold G8;rw[if_neg (by omega)]
   have huj:=hu j;rw[if_pos (by simpa using hlt),KZ (by omega)];simp only[Ah,AJ];by_cases e:u j=0
   ·rw[if_pos (by simpa using e)]
    exact⟨fun h=>by have:=h j (Nat.le_refl _) hlt;omega,fun _=>rfl⟩
   ·rw[if_neg (by simpa using e),KZ (by omega),hd]
    simp only[AJ];rw[show AZ ((u j:Int)-1)=((u j-1:Nat):Int) by rw[BK (by omega)];omega,SK (by omega),pz,Aq (by omega)];have:=ul (F:=F) (d:=d) (acc:=acc) (mm:=mm) h4 hu m (j+1) (by omega) (by omega);refine⟨fun h=>this.1 fun i hi=>h i (by omega),fun⟨i,h1,h2,h3⟩=>this.2 ⟨i,?_,h2,h3⟩⟩;by_cases ei:i=j
    ·subst ei;exact absurd h3 e
    ·omega
  ·rw[if_neg (by simpa using hlt),show j=l.length by omega]
   exact⟨fun _=>rfl,fun⟨i,h1,h2,_⟩=>by omega⟩
def Okp(l:List (List Int))(u:Tp):Prop:=(∀i,i<l.length->u i<=ln l i)/\∀i,l.length<=i->u i=0
def sm(u:Tp):Nat:=u 0+u 1+u 2+u 3
theorem Okp.lt{l:List (List Int)}(h:VL l){u:Tp}(hu:Okp l u)(i:Nat):u i<1000:=by
 by_cases hi:i<l.length
 ·have:=hu.1 i hi;have:=SL h i;omega
 ·rw[hu.2 i (by omega)];omega
theorem qA{u:Tp}{i:Nat}(hi:i<4)(h:0<u i):sm (upd u i (u i-1))<sm u:=by
 rcases(by omega:i=0\/i=1\/i=2\/i=3)with rfl|rfl|rfl|rfl<;>simp[sm,upd]<;>omega
theorem qB{u:Tp}{j:Nat}(hj:0<j)(h:0<u 0):sm (G8 j u)<sm u:=by
 have h0:G8 j u 0=u 0-1:=by unfold G8;rw[if_pos hj]
 have hd:∀i,G8 j u i<=u i:=fun i=>by unfold G8;split<;>omega
 have:=hd 1;have:=hd 2;have:=hd 3;unfold sm;omega
def um(g:Tp)(l:List (List Int))(u:Tp)(r:Option (Int×List (Pl×Int))):Prop:=∃n m',r=some (((n:Nat):Int),m')/\Mx g l u n/\Memo g l m'
theorem qC{F:Nat}{rc:uj->Pl->List (Pl×Int)->Option (Int×List (Pl×Int))}{d:Ob ((Uno (List (Ar 2 Int)))×(Ar 101 Int))}{l:List (List Int)}{acc:List Pl}{g:Tp}(h:VL l){u:Tp}(hu:Okp l u)(hp:∀i,i<l.length->0<u i)
  (hrc:∀i,i<l.length->∀m,Memo g l m->um g l (upd u i (u i-1)) (rc (d,l,acc) (pl (upd u i (u i-1))) m)):∀(m j a:Nat)(mm:List (Pl×Int)),j<=l.length->l.length-j<m->Memo g l mm->
  (∀i,i<j->∃q,Mx g l (upd u i (u i-1)) q/\q<=a)->((j=0/\a=0)\/∃i,i<j/\Mx g l (upd u i (u i-1)) a)->
  ∃n m',D7 F rc (d,l,acc) (pl u) m (a:Int) (j:Int) mm=some (((n:Nat):Int),m')/\Memo g l m'/\(∀i,i<l.length->∃q,Mx g l (upd u i (u i-1)) q/\q<=n)/\∃i,i<l.length/\Mx g l (upd u i (u i-1)) n
 |0,j,_,_,_,h,_,_,_=>by omega
 |m+1,j,a,mm,hj,hm,hmm,ha,hx=>by
  have h4:=h.four;have h2:=h.two;unfold D7;by_cases hlt:j<l.length
  ·have huj:=hu.lt h j
   have hpj:=hp j hlt;rw[if_pos (by simpa using hlt),KZ (by omega)];simp only[Ah,AJ];rw[show AZ ((u j:Int)-1)=((u j-1:Nat):Int) by rw[BK (by omega)];omega,SK (by omega)];obtain⟨n,m',e1,e2,e3⟩:=hrc j hlt mm hmm;rw[e1];simp only[AJ,Fa];by_cases c:n<a
   ·rw[if_pos (by simpa using c)]
    simp only[AJ];rw[Aq (by omega)];refine qC h hu hp hrc m (j+1) a m' (by omega) (by omega) e3 (fun i hi=>?_) (.inr ?_)
    ·by_cases ei:i=j
     ·subst ei;exact⟨n,e2,by omega⟩
     ·exact ha i (by omega)
    ·rcases hx with⟨_,e⟩|⟨i,hi,e⟩
     ·omega
     ·exact⟨i,by omega,e⟩
   ·rw[if_neg (by simpa using c)]
    simp only[AJ];rw[Aq (by omega)];refine qC h hu hp hrc m (j+1) n m' (by omega) (by omega) e3 (fun i hi=>?_) (.inr ⟨j,by omega,e2⟩);by_cases ei:i=j
    ·subst ei;exact⟨n,e2,by omega⟩
    ·obtain⟨q,hq,hqa⟩:=ha i (by omega);exact⟨q,hq,by omega⟩
  ·have:j=l.length:=by omega
   subst this;rw[if_neg (by simp)];refine⟨a,mm,rfl,hmm,ha,?_⟩;rcases hx with⟨e,_⟩|e
   ·omega
   ·exact e
theorem Q7{F:Nat}(hF:1000<F){x:Bk}{l:List (List Int)}{acc:List Pl}{g:Tp}{c:HV}(h:VL l)(hc:c.l=tl g):∀(mr:Nat)(u:Tp)(m:List (Pl×Int)),Okp l u->sm u<mr->Memo g l m->
  um g l u (Ca F mr ((⟨some (x,c)⟩:Ob ((Uno (List (Ar 2 Int)))×(Ar 101 Int))),l,acc) (pl u) m)
 |0,u,_,_,h,_=>by omega
 |mr+1,u,m,hu,hs,hm=>by
  have h4:=h.four;have h2:=h.two;have hlt:=hu.lt h;unfold Ca;by_cases h0:pl u=Ar.fill 4 0
  ·rw[if_pos (by simpa using h0)]
   have:u=fun _=>0:=dQ h4 (h0.trans Xz.symm) hu.2 (fun _ _=>rfl);exact⟨0,m,rfl,Mx.zero (h:=0) (by omega) (by rw[this]),hm⟩
  rw[if_neg (by simpa using h0),pu hlt];simp only[Ah,AJ];by_cases hh:IV m (pl u)=true
  ·rw[if_pos hh]
   obtain⟨w,n,e1,e2,e3,e4⟩:=hm _ (WS (d:=(0:Int)) hh);have:u=w:=dQ h4 e1 hu.2 e2;subst this;exact⟨n,m,by rw[show BD 0 m (pl u)=(n:Int)from e3],e4,hm⟩
  rw[if_neg hh];have hl1:=ul (F:=F) (d:=⟨some (x,c)⟩) (acc:=acc) (mm:=m) h4 hlt F 0 (by omega) (by omega);have hd0:G8 0 u=u:=by funext i;unfold G8;rw[if_neg (by omega)]
  rw[hd0,show((0:Nat):Int)=0 from rfl]at hl1;by_cases hz:∃i,i<l.length/\u i=0
  ·obtain⟨i,hi,hi0⟩:=hz
   rw[hl1.2 ⟨i,by omega,hi,hi0⟩];exact⟨0,m,rfl,Mx.zero hi hi0,hm⟩
  have hp:∀i,i<l.length->0<u i:=fun i hi=>by
   by_cases e:u i=0
   ·exact absurd ⟨i,hi,e⟩ hz
   ·omega
  rw[hl1.1 fun i _ hi=>hp i hi];simp only[AJ];have hdl:∀i,i<l.length->G8 l.length u i<ln l i:=fun i hi=>by
   have:=hp i hi;have:=hu.1 i hi;unfold G8;rw[if_pos hi];omega
  have hdz:∀i,l.length<=i->G8 l.length u i=0:=fun i hi=>by unfold G8;rw[if_neg (by omega)];exact hu.2 i hi
  rw[SN hF h hc hdl];simp only[AJ];have put:∀(n:Nat)(m':List (Pl×Int)),Mx g l u n->Memo g l m'->Memo g l (BO m' (pl u) (n:Int)):=fun n m' hn hm' p hpm=>by
   rcases mput_mem hpm with rfl|hpm
   ·exact⟨u,n,rfl,hu.2,rfl,hn⟩
   ·exact hm' p hpm
  cases hmt:mt g l l.length (G8 l.length u)with
  |true=>
   rw[if_pos rfl];obtain⟨n,m',e1,e2,e3⟩:=Q7 hF h hc (acc:=acc) mr (G8 l.length u) m ⟨fun i hi=>by have:=hdl i hi;omega,hdz⟩ (by have:=qB (u:=u) (j:=l.length) (by omega) (hp 0 (by omega));omega) hm;have hn:=e2.le (by omega);have:=hu.lt h 0;have hd0:G8 l.length u 0<=u 0:=by unfold G8;split<;>omega
   rw[e1];simp only[AJ];have hx:=Mx.hit hp (jg hdl hdz hmt) e2;rw[show AZ (1+(n:Int))=((n+1:Nat):Int) by rw[BK (by omega)];omega];exact⟨n+1,_,rfl,hx,put _ _ hx e3⟩
  |false=>
   rw[if_neg (by simp)];obtain⟨n,m',e1,e2,e3,e4⟩:=qC (F:=F) (rc:=Ca F mr) (d:=⟨some (x,c)⟩) (acc:=acc) (g:=g) h hu hp (fun i hi m hm=>Q7 hF h hc (acc:=acc) mr _ m
    ⟨fun n hn=>by
     unfold upd;by_cases e:n=i
     ·rw[if_pos e];subst e;have:=hu.1 n hn;omega
     ·rw[if_neg e];exact hu.1 n hn,fun n hn=>by
     unfold upd;rw[if_neg (by omega)];exact hu.2 n hn⟩ (by have:=qA (u:=u) (i:=i) (by omega) (hp i hi);omega) hm) F 0 0 m (by omega) (by omega) hm (fun i hi=>by omega) (.inl ⟨rfl,rfl⟩)
   rw[show((0:Nat):Int)=0 from rfl]at e1;rw[e1];simp only[AJ];have hx:=Mx.miss hp hu.2 (fun hh=>by rw[(Iz hh).2.2]at hmt;cases hmt) (by omega) e4 e3;exact⟨n,_,rfl,hx,put _ _ hx e2⟩
def Lv(g:Tp)(l:List (List Int))(L:List Tp)(v:List Int):Prop:=v.length=L.length/\∀(i:Nat)(f:Tp),L[i]?=some f->∃n:Nat,v[i]?=some ((n:Int)+1)/\Mx g l f n
theorem qD{g:Tp}{l:List (List Int)}(h:VL l):(Mt g l).length<=4096:=Nat.le_trans (List.length_filter_le ..) (Q5 h)
theorem dR{F:Nat}(hF:100000<F){x:Bk}{l:List (List Int)}{g:Tp}{c:HV}(h:VL l)(hc:c.l=tl g):∃v,BI F ((⟨some (x,c)⟩:Ob ((Uno (List (Ar 2 Int)))×(Ar 101 Int))),l,(Mt g l).map pl)=some v/\Lv g l (Mt g l) v:=by
 have h2:=h.two;have h4:=h.four;have hn:=qD (g:=g) h;have key:∀(m k:Nat)(v:List Int)(mm:List (Pl×Int)),k<=(Mt g l).length->(Mt g l).length-k<m->Memo g l mm->Lv g l ((Mt g l).take k) v->
   ∃v' mm',D8 F ((⟨some (x,c)⟩:Ob ((Uno (List (Ar 2 Int)))×(Ar 101 Int))),l,(Mt g l).map pl) m v (k:Int) mm=some (v',mm')/\Lv g l (Mt g l) v':=by
  intro m
  induction m with
  |zero=>intro k _ _ _ h;omega
  |succ m ih=>
   intro k v mm hk hm hmm hv;unfold D8;by_cases hlt:k<(Mt g l).length
   ·have hf:=Iz (List.getElem_mem hlt)
    have hok:Okp l (Mt g l)[k]:=⟨fun i hi=>by have:=hf.1 i hi;omega,hf.2.1⟩;rw[if_pos (by simpa using hlt),Az (by simpa using hlt),List.getElem_map];simp only[Ah,AJ];have hs:sm (Mt g l)[k]<F:=by
     have a:=hok.lt h 0;have b:=hok.lt h 1;have c:=hok.lt h 2;have d:=hok.lt h 3;unfold sm;omega
    obtain⟨n,m',e1,e2,e3⟩:=Q7 (F:=F) (by omega) (x:=x) (acc:=(Mt g l).map pl) h hc F _ mm hok hs hmm;rw[show Kg F ((⟨some (x,c)⟩:Ob ((Uno (List (Ar 2 Int)))×(Ar 101 Int))),l,(Mt g l).map pl) (pl (Mt g l)[k]) mm=some ((n:Int),m')from e1];have hvl:=hv.1;rw[List.length_take,Nat.min_eq_left (by omega)]at hvl;have hnn:=e2.le (by omega);have:=hok.lt h 0;simp only[AJ];rw[GQ (by simp;omega)];simp only[AJ];rw[Aq (by omega),show AZ (1+(n:Int))=(n:Int)+1 by rw[BK (by omega)];omega];refine ih (k+1) _ m' (by omega) (by omega) e3 ⟨by simp;omega,fun i f hif=>?_⟩;rw[List.getElem?_take]at hif;by_cases hi:i<k
    ·obtain⟨q,q1,q2⟩:=hv.2 i f (by rw[List.getElem?_take,if_pos hi];rw[if_pos (by omega)]at hif;exact hif)
     exact⟨q,by rw[List.getElem?_append_left (by omega)];exact q1,q2⟩
    ·by_cases hi':i<k+1
     ·have:i=k:=by omega
      subst this;rw[if_pos hi',List.getElem?_eq_getElem hlt]at hif;cases hif;exact⟨n,by rw[List.getElem?_append_right (by omega),hvl];simp,e2⟩
     ·rw[if_neg hi']at hif;cases hif
   ·have:k=(Mt g l).length:=by omega
    subst this;rw[if_neg (by simp)];rw[List.take_length]at hv;exact⟨v,mm,rfl,hv⟩
 obtain⟨v,mm,e,hv⟩:=key F 0 [] [] (by omega) (by omega) Memo.nil ⟨by simp,fun i f hif=>by simp at hif⟩;refine⟨v,?_,hv⟩;unfold BI;rw[show((0:Nat):Int)=0 from rfl]at e;rw[e];rfl
end
section
def Uc(b:Nat->Nat)(c:Nat->Nat->Bool)(i:Nat):Nat:=
 b i+((List.range i).attach.map fun j=>if c j.1 i=true then Uc b c j.1 else 0).sum
termination_by i
decreasing_by exact List.mem_range.1 j.2
def Dc(n:Nat)(b:Nat->Nat)(c:Nat->Nat->Bool)(i:Nat):Nat:=
 b i+((List.range' (i+1) (n-1-i)).attach.map fun j=>if c i j.1=true then Dc n b c j.1 else 0).sum
termination_by n-i
decreasing_by have:=List.mem_range'_1.1 j.2;omega
theorem U3(b:Nat->Nat)(c:Nat->Nat->Bool)(i:Nat):Uc b c i=b i+((List.range i).map fun j=>if c j i=true then Uc b c j else 0).sum:=by
 rw[Uc]
 congr 2
 exact List.attach_map_val (f:=fun j=>if c j i=true then Uc b c j else 0)
theorem PG(n:Nat)(b:Nat->Nat)(c:Nat->Nat->Bool)(i:Nat):Dc n b c i=b i+((List.range' (i+1) (n-1-i)).map fun j=>if c i j=true then Dc n b c j else 0).sum:=by
 rw[Dc]
 congr 2
 exact List.attach_map_val (f:=fun j=>if c i j=true then Dc n b c j else 0)
theorem X3:∀i,((List.range i).map fun j=>2^j).sum+1=2^i
 |0=>rfl
 |i+1=>by rw[List.range_succ,List.map_append,List.sum_append];have:=X3 i;simp;rw[Nat.pow_succ];omega
theorem WU{f g:Nat->Nat}:∀(L:List Nat),(∀j∈L,f j<=g j)->(L.map f).sum<=(L.map g).sum
 |[],_=>Nat.le_refl _
 |a::L,h=>by
  have:=WU L fun j hj=>h j (List.mem_cons_of_mem _ hj);have:=h a (List.mem_cons_self ..);simp only[List.map_cons,List.sum_cons];omega
theorem jh{b:Nat->Nat}{c:Nat->Nat->Bool}(hb:∀i,b i<=1):∀i,Uc b c i<=2^i:=by
 intro i
 induction i using Nat.strongRecOn with
 |ind i ih=>
  rw[U3];have:=WU (f:=fun j=>if c j i=true then Uc b c j else 0) (g:=fun j=>2^j) (List.range i) fun j hj=>by
   have:=ih j (List.mem_range.1 hj);show(if c j i=true then Uc b c j else 0)<=_;split<;>omega
  have:=X3 i;have:=hb i;omega
theorem WV(n:Nat):∀(d i:Nat),i+d+1=n->((List.range' (i+1) d).map fun j=>2^(n-1-j)).sum+1=2^d
 |0,i,_=>rfl
 |d+1,i,h=>by
  rw[List.range'_succ,List.map_cons,List.sum_cons];have:=WV n d (i+1) (by omega);rw[show n-1-(i+1)=d by omega,Nat.pow_succ];omega
theorem ji{n:Nat}{b:Nat->Nat}{c:Nat->Nat->Bool}(hb:∀i,b i<=1):∀(d i:Nat),i+d+1=n->Dc n b c i<=2^d:=by
 intro d
 induction d using Nat.strongRecOn with
 |ind d ih=>
  intro i hi;rw[PG];have:=WU (f:=fun j=>if c i j=true then Dc n b c j else 0) (g:=fun j=>2^(n-1-j)) (List.range' (i+1) (n-1-i)) fun j hj=>by
   have hj:=List.mem_range'_1.1 hj;have:=ih (n-1-j) (by omega) j (by omega);show(if c i j=true then Dc n b c j else 0)<=_;split<;>omega
  have e:=WV n d i hi;rw[show n-1-i=d by omega]at*
  have:=hb i;omega
theorem QU{f:Nat->Nat}:∀(L:List Nat),0<(L.map f).sum↔∃j∈L,0<f j
 |[]=>by simp
 |a::L=>by
  rw[List.map_cons,List.sum_cons];constructor
  ·intro h
   by_cases e:0<f a
   ·exact⟨a,List.mem_cons_self ..,e⟩
   ·obtain⟨j,hj,h⟩:=(QU (f:=f) L).1 (by omega);exact⟨j,List.mem_cons_of_mem _ hj,h⟩
  ·rintro⟨j,hj,h⟩
   rcases List.mem_cons.1 hj with rfl|hj
   ·omega
   ·have:=(QU (f:=f) L).2 ⟨j,hj,h⟩;omega
structure Dag(n:Nat)(lev:Nat->Nat)(B:Nat->Nat->Bool):Prop where
 lt:∀i j,i<n->j<n->B i j=true->i<j
 one:∀i,i<n->1<=lev i
 up:∀i j,i<n->j<n->B i j=true->lev i<lev j
 dn:∀i,i<n->2<=lev i->∃j,j<n/\B j i=true/\lev j+1=lev i
def ML(M:List Tp)(i:Nat):Tp:=M.getD i fun _=>0
def LV(v:List Int)(i:Nat):Nat:=(v.getD i 0).toNat
section
variable {g:Tp}{l:List (List Int)}{v:List Int}
theorem Dl{M:List Tp}{i:Nat}(h:i<M.length):ML M i=M[i]:=by simp[ML,h]
theorem Lv.get(hv:Lv g l (Mt g l) v){i:Nat}(hi:i<(Mt g l).length):1<=LV v i/\v[i]?=some ((LV v i:Nat):Int)/\Mx g l (ML (Mt g l) i) (LV v i-1):=by
 obtain⟨n,h1,h2⟩:=hv.2 i _ (List.getElem?_eq_getElem hi);have e:LV v i=n+1:=by unfold LV;rw[List.getD_eq_getElem?_getD,h1];simp
 rw[e,h1,Dl hi];exact⟨by omega,by congr 1,h2⟩
theorem qE(h:VL l){i j:Nat}(hi:i<(Mt g l).length)(hj:j<(Mt g l).length)(hb:I4 l.length (ML (Mt g l) i) (ML (Mt g l) j)=true):i<j:=by
 have h2:=h.two;have h0:=Dg.1 hb 0 (by omega);rw[Dl hi,Dl hj]at h0;refine Classical.byContradiction fun hno=>?_;by_cases e:i=j
 ·subst e;omega
 ·have:=List.pairwise_iff_getElem.1 (dN (g:=g) h) j i hj hi (by omega)
  omega
theorem QB(h:VL l)(hv:Lv g l (Mt g l) v):Dag (Mt g l).length (LV v) (fun i j=>I4 l.length (ML (Mt g l) i) (ML (Mt g l) j)):=by
 have up:∀i j,i<(Mt g l).length->j<(Mt g l).length->I4 l.length (ML (Mt g l) i) (ML (Mt g l) j)=true->LV v i<LV v j:=by
  intro i j hi hj hb;obtain⟨a1,_,⟨c,c1,c2⟩,_⟩:=hv.get hi;obtain⟨b1,_,b3⟩:=hv.get hj;have:=b3.2 _ (c1.add (by rw[Dl hi];exact List.getElem_mem hi) hb);rw[List.length_append]at this;simp at this;omega
 refine⟨fun i j hi hj hb=>qE h hi hj hb,fun i hi=>(hv.get hi).1,up,fun i hi h2=>?_⟩;obtain⟨a1,_,⟨c,c1,c2⟩,_⟩:=hv.get hi;rcases OQ c with rfl|⟨d,x,rfl⟩
 ·simp at c2;omega
 ·obtain⟨e1,e2,e3⟩:=c1.snoc
  obtain⟨j,hj,e⟩:=List.mem_iff_getElem.1 e2;have ex:ML (Mt g l) j=x:=by rw[Dl hj];exact e
  obtain⟨b1,_,b3⟩:=hv.get hj;rw[ex]at b3;have b4:=b3.2 d e1;have b5:=up j i hj hi (by rw[ex];exact e3);rw[List.length_append]at c2;simp at c2;exact⟨j,hj,by show I4 l.length (ML (Mt g l) j) _=true;rw[ex];exact e3,by omega⟩
end
section
variable {n:Nat}{lev:Nat->Nat}{B:Nat->Nat->Bool}
def FV(lev:Nat->Nat)(B:Nat->Nat->Bool)(i j:Nat):Bool:=decide (lev i+1=lev j)&&B i j
def Hw(top:Nat)(lev:Nat->Nat)(i:Nat):Nat:=if lev i=top then 1 else 0
theorem QV(top:Nat)(lev:Nat->Nat)(i:Nat):Hw top lev i<=1:=by unfold Hw;split<;>omega
def Dw(n top:Nat)(lev:Nat->Nat)(B:Nat->Nat->Bool):Nat->Nat:=Dc n (Hw top lev) (FV lev B)
def Uw(lev:Nat->Nat)(B:Nat->Nat->Bool):Nat->Nat:=Uc (Hw 1 lev) (FV lev B)
theorem qF{top i:Nat}(h:lev i=top):0<Dw n top lev B i:=by
 unfold Dw;rw[PG];have:Hw top lev i=1:=by unfold Hw;rw[if_pos h]
 omega
theorem lZ(hd:Dag n lev B){top i j:Nat}(hi:i<n)(hj:j<n)(hc:FV lev B i j=true)(h:0<Dw n top lev B j):0<Dw n top lev B i:=by
 unfold Dw at h⊢;rw[PG];have hb:B i j=true:=by unfold FV at hc;simp at hc;exact hc.2
 have:=hd.lt i j hi hj hb;have:=(QU (f:=fun j=>if FV lev B i j=true then Dc n (Hw top lev) (FV lev B) j else 0) (List.range' (i+1) (n-1-i))).2 ⟨j,List.mem_range'_1.2 (by omega),by
  show 0<if FV lev B i j=true then _ else _
  rw[if_pos hc];exact h⟩
 omega
theorem tY{top i:Nat}(h:0<Dw n top lev B i):lev i=top\/∃j,i<j/\j<n/\FV lev B i j=true/\0<Dw n top lev B j:=by
 unfold Dw at h;rw[PG]at h;by_cases e:lev i=top
 ·exact .inl e
 ·have:Hw top lev i=0:=by unfold Hw;rw[if_neg e]
  obtain⟨j,hj,hp⟩:=(QU (f:=fun j=>if FV lev B i j=true then Dc n (Hw top lev) (FV lev B) j else 0) (List.range' (i+1) (n-1-i))).1 (by omega);have hj:=List.mem_range'_1.1 hj;by_cases hc:FV lev B i j=true
  ·simp only[if_pos hc]at hp;exact .inr ⟨j,by omega,by omega,hc,hp⟩
  ·simp only[if_neg hc]at hp;omega
theorem WW(hd:Dag n lev B){top:Nat}:∀(q i:Nat),lev i=q+1->i<n->0<Dw n top lev B i->∃j,j<n/\lev j=1/\0<Dw n top lev B j
 |0,i,e,hi,h=>⟨i,hi,by omega,h⟩
 |q+1,i,e,hi,h=>by
  obtain⟨j,hj,hb,hl⟩:=hd.dn i hi (by omega);exact WW hd q j (by omega) hj (lZ hd hj hi (by unfold FV;simp[hl,hb]) h)
end
end
section
def TT(n:Nat)(p q:Nat->Nat):List (Int×Int):=(List.range n).map fun i=>(((p i:Nat):Int),((q i:Nat):Int))
theorem SQ(n:Nat)(p q:Nat->Nat):(TT n p q).length=n:=by simp[TT]
theorem MU{n:Nat}{p q:Nat->Nat}{i:Nat}(h:i<n):ix (TT n p q) (i:Int)=some (((p i:Nat):Int),((q i:Nat):Int)):=by
 rw[Az (by rw[SQ];exact h)];simp[TT]
theorem SS{n:Nat}{p q:Nat->Nat}{i a b:Nat}(h:i<n):EM (TT n p q) (i:Int) ((a:Int),(b:Int))=TT n (upd p i a) (upd q i b):=by
 rw[rset_nat];apply List.ext_getElem?;intro j;rw[List.getElem?_set,SQ];unfold TT;by_cases hj:j<n
 ·by_cases e:i=j
  ·subst e;simp[h,upd]
  ·simp[hj,e,upd,Ne.symm e]
 ·rw[if_neg (by omega)];simp[hj]
theorem QW{n:Nat}{p q p' q':Nat->Nat}(h:∀i,i<n->p i=p' i/\q i=q' i):TT n p q=TT n p' q':=by
 unfold TT;exact List.map_congr_left fun i hi=>by have:=h i (List.mem_range.1 hi);rw[this.1,this.2]
section
variable {F:Nat}{d:Ob ((Uno (List (Ar 2 Int)))×(Ar 101 Int))}{l:List (List Int)}{g:Tp}{v:List Int}
abbrev Eg(d:Ob ((Uno (List (Ar 2 Int)))×(Ar 101 Int)))(g:Tp)(l:List (List Int)):uj:=(d,l,(Mt g l).map pl)
abbrev Bf(g:Tp)(l:List (List Int))(i j:Nat):Bool:=I4 l.length (ML (Mt g l) i) (ML (Mt g l) j)
theorem QC{i:Nat}(h:i<(Mt g l).length):ix ((Mt g l).map pl) (i:Int)=some (pl (ML (Mt g l) i)):=by
 rw[Az (by simpa using h),Dl h];simp
theorem Lv.ix(hv:Lv g l (Mt g l) v){i:Nat}(hi:i<(Mt g l).length):Md.ix v (i:Int)=some ((LV v i:Nat):Int):=by
 have:=(hv.get hi).2.1;have hl:=hv.1;rw[Az (by omega)];rw[List.getElem?_eq_getElem (by omega)]at this;exact this
theorem Lv.le(hv:Lv g l (Mt g l) v)(h:VL l){i:Nat}(hi:i<(Mt g l).length):LV v i<=1001:=by
 have h2:=h.two;obtain⟨_,_,hm⟩:=hv.get hi;have:=hm.le (by omega);have hf:=Iz (List.getElem_mem hi);rw[Dl hi]at this;have:=hf.1 0 (by omega);have:=SL h 0;omega
theorem Zx(hv:Lv g l (Mt g l) v):∀(m k a:Nat),k<=(Mt g l).length->(Mt g l).length-k<m->(Mt g l).length<=4096->(∀i,i<k->LV v i<=a)->((k=0/\a=0)\/∃i,i<k/\LV v i=a)->
  ∃top:Nat,FE F v m (a:Int) (k:Int)=some (top:Int)/\(∀i,i<(Mt g l).length->LV v i<=top)/\(((Mt g l).length=0/\top=0)\/∃i,i<(Mt g l).length/\LV v i=top)
 |0,k,_,_,h,_,_,_=>by omega
 |m+1,k,a,hk,hm,h40,ha,hx=>by
  have hl:=hv.1;unfold FE;by_cases hlt:k<(Mt g l).length
  ·rw[if_pos (by simp;omega),hv.ix hlt]
   simp only[Ah,AJ,Fa];by_cases c:LV v k<a
   ·rw[if_pos (by simpa using c)]
    simp only[AJ];rw[Aq (by omega)];refine Zx hv m (k+1) a (by omega) (by omega) h40 (fun i hi=>?_) (.inr ?_)
    ·by_cases e:i=k
     ·subst e;omega
     ·exact ha i (by omega)
    ·rcases hx with⟨_,e⟩|⟨i,hi,e⟩
     ·omega
     ·exact⟨i,by omega,e⟩
   ·rw[if_neg (by simpa using c)]
    simp only[AJ];rw[Aq (by omega)];refine Zx hv m (k+1) (LV v k) (by omega) (by omega) h40 (fun i hi=>?_) (.inr ⟨k,by omega,rfl⟩);by_cases e:i=k
    ·subst e;omega
    ·have:=ha i (by omega);omega
  ·have:k=(Mt g l).length:=by omega
   subst this;rw[if_neg (by simp;omega)];exact⟨a,rfl,ha,hx⟩
theorem lg(hF:1000<F)(h:VL l)(hv:Lv g l (Mt g l) v){i j:Nat}(hi:i<(Mt g l).length)(hj:j<(Mt g l).length):
  (gd (decide ((AZ ((LV v i:Int)+1))=(LV v j:Int))) (Bo F (Eg d g l) (pl (ML (Mt g l) i)) (pl (ML (Mt g l) j))) false)=some (Bf g l i j&&decide (LV v i+1=LV v j)||(decide (LV v i+1=LV v j)&&Bf g l i j)):=by
 have:=hv.le h hi;rw[Aq (by omega),TU hF h.four];by_cases e:LV v i+1=LV v j
 ·rw[decide_eq_true (by omega),decide_eq_true e];simp[gd]
 ·rw[decide_eq_false (by omega),decide_eq_false e];simp[gd]
def pk(U:Nat->Nat)(k:Nat):Nat->Nat:=fun i=>if i<k then U i else 0
def qk(D:Nat->Nat)(k:Nat):Nat->Nat:=fun i=>if k<=i then D i else 0
def us(lev:Nat->Nat)(B:Nat->Nat->Bool)(k t:Nat):Nat:=Hw 1 lev k+((List.range t).map fun j=>if FV lev B j k=true then Uw lev B j else 0).sum
theorem X4(lev:Nat->Nat)(B:Nat->Nat->Bool)(k t:Nat):us lev B k (t+1)=us lev B k t+if FV lev B t k=true then Uw lev B t else 0:=by
 unfold us;rw[List.range_succ,List.map_append,List.sum_append];simp;omega
theorem dS(lev:Nat->Nat)(B:Nat->Nat->Bool)(k:Nat):us lev B k k=Uw lev B k:=by
 unfold us Uw;rw[U3]
theorem X5(lev:Nat->Nat)(B:Nat->Nat->Bool)(k:Nat):∀s t,us lev B k t<=us lev B k (t+s)
 |0,_=>Nat.le_refl _
 |s+1,t=>by have:=X5 lev B k s t;rw[<-Nat.add_assoc,X4];omega
theorem us_le{lev:Nat->Nat}{B:Nat->Nat->Bool}{k t:Nat}(hk:k<=40)(ht:t<=k):us lev B k t<=2^40:=by
 have:=X5 lev B k (k-t) t;rw[show t+(k-t)=k by omega,dS]at this;have h1:Uw lev B k<=2^k:=jh (QV 1 lev) k;have h2:2^k<=2^40:=Nat.pow_le_pow_right (by omega) hk;omega
theorem Zy(hF:1000<F)(h:VL l)(hv:Lv g l (Mt g l) v)(h40:(Mt g l).length<=40){k:Nat}(hk:k<(Mt g l).length){q:Nat->Nat}:∀(m t:Nat),t<=k->k-t<m->
  FH F (Eg d g l) v (pl (ML (Mt g l) k)) (((Mt g l).map pl).take k) (k:Int) m (TT (Mt g l).length (upd (pk (Uw (LV v) (Bf g l)) k) k (us (LV v) (Bf g l) k t)) q) (t:Int)=some (TT (Mt g l).length (pk (Uw (LV v) (Bf g l)) (k+1)) q)
 |0,t,_,h=>by omega
 |m+1,t,ht,hm=>by
  unfold FH;have hpt:(((Mt g l).map pl).take k).length=k:=by simp;omega
  by_cases hlt:t<k
  ·have e9:ix (((Mt g l).map pl).take k) (t:Int)=some (pl (ML (Mt g l) t)):=by
    rw[Az (by rw[hpt];exact hlt),Dl (show t<(Mt g l).length by omega)];simp
   rw[if_pos (by rw[hpt];simpa using hlt),e9,hv.ix (show t<_ by omega),hv.ix hk];simp only[Ah,AJ];rw[show Bo F ((Eg d g l).1,(Eg d g l).2.1,(Eg d g l).2.2) (pl (ML (Mt g l) t)) (pl (ML (Mt g l) k))=Bo F (Eg d g l) (pl (ML (Mt g l) t)) (pl (ML (Mt g l) k))from rfl,lg hF h hv (by omega) hk];simp only[AJ];have hle:=hv.le h (show t<(Mt g l).length by omega);have hs:=X4 (LV v) (Bf g l) k t;have hsl:=us_le (lev:=LV v) (B:=Bf g l) (k:=k) (t:=t+1) (by omega) (by omega);have hut:upd (pk (Uw (LV v) (Bf g l)) k) k (us (LV v) (Bf g l) k t) t=Uw (LV v) (Bf g l) t:=by unfold upd pk;rw[if_neg (by omega),if_pos hlt]
   have huk:upd (pk (Uw (LV v) (Bf g l)) k) k (us (LV v) (Bf g l) k t) k=us (LV v) (Bf g l) k t:=by simp[upd]
   have ec:(decide (AZ ((LV v t:Int)+1)=(LV v k:Int))&&(Bf g l t k&&decide (LV v t+1=LV v k)||(decide (LV v t+1=LV v k)&&Bf g l t k)))=FV (LV v) (Bf g l) t k:=by
    rw[Aq (by omega)];unfold FV;by_cases e:LV v t+1=LV v k
    ·rw[decide_eq_true (by omega),decide_eq_true e];simp
    ·rw[decide_eq_false (by omega),decide_eq_false e];simp
   rw[ec];cases hc:FV (LV v) (Bf g l) t k with
   |true=>
    rw[if_pos rfl,MU hk,MU (show t<(Mt g l).length by omega),hut,huk];simp only[AJ];rw[hc,if_pos rfl]at hs;rw[show AZ ((us (LV v) (Bf g l) k t:Int)+(Uw (LV v) (Bf g l) t:Int))=((us (LV v) (Bf g l) k (t+1):Nat):Int) by rw[BK (by omega)];omega,SS hk,OO,IY rfl,Aq (by omega)];exact Zy hF h hv h40 hk m (t+1) (by omega) (by omega)
   |false=>
    rw[if_neg (by simp)];simp only[AJ];rw[hc,if_neg (by simp)]at hs;rw[Aq (by omega),show us (LV v) (Bf g l) k t=us (LV v) (Bf g l) k (t+1) by omega];exact Zy hF h hv h40 hk m (t+1) (by omega) (by omega)
  ·have:t=k:=by omega
   subst this;rw[if_neg (by rw[hpt];simp),dS]
   congr 1
   refine QW fun i _=>⟨?_,rfl⟩;unfold upd pk;by_cases e:i=t
   ·subst e;rw[if_pos rfl,if_pos (by omega)]
   ·rw[if_neg e]
    by_cases hi:i<t
    ·rw[if_pos hi,if_pos (by omega)]
    ·rw[if_neg hi,if_neg (by omega)]
theorem jk(hF:1000<F)(h:VL l)(hv:Lv g l (Mt g l) v)(h40:(Mt g l).length<=40){q:Nat->Nat}:∀(m k:Nat),k<=(Mt g l).length->(Mt g l).length-k<m->
  FI F (Eg d g l) v m (TT (Mt g l).length (pk (Uw (LV v) (Bf g l)) k) q) (k:Int)=some (TT (Mt g l).length (pk (Uw (LV v) (Bf g l)) (Mt g l).length) q)
 |0,k,_,h=>by omega
 |m+1,k,hk,hm=>by
  unfold FI;by_cases hlt:k<(Mt g l).length
  ·rw[if_pos (by simpa using hlt)]
   show((ix ((Mt g l).map pl) (k:Int))>>=_)=_;rw[QC hlt];simp only[Ah,AJ];rw[hv.ix hlt];simp only[AJ];have e5:(if decide ((LV v k:Int)=1)=true then(ix (TT (Mt g l).length (pk (Uw (LV v) (Bf g l)) k) q) (k:Int)).bind fun x8=>some (EM (TT (Mt g l).length (pk (Uw (LV v) (Bf g l)) k) q) (k:Int) ((1:Int),x8.2))else some (TT (Mt g l).length (pk (Uw (LV v) (Bf g l)) k) q))=some (TT (Mt g l).length (upd (pk (Uw (LV v) (Bf g l)) k) k (us (LV v) (Bf g l) k 0)) q):=by
    unfold us Hw;by_cases e:LV v k=1
    ·rw[if_pos (by simp[e]),MU hlt]
     simp only[AJ];rw[show(1:Int)=((1:Nat):Int)from rfl,SS hlt,IY (f:=q) rfl,if_pos e]
     rfl
    ·rw[if_neg (by simp;omega),if_neg e]
     congr 2
     rw[IY];unfold pk;rw[if_neg (by omega)];rfl
   rw[e5];simp only[AJ];have e9:Og ((Mt g l).map pl) (k:Int)=some (((Mt g l).map pl).take k):=by
    unfold Og;rw[if_pos (by simp;omega)];rfl
   rw[show Og (Eg d g l).2.2 (k:Int)=_ from e9];simp only[AJ];have:=Zy (d:=d) hF h hv h40 hlt (q:=q) F 0 (by omega) (by omega);rw[show((0:Nat):Int)=0 from rfl]at this;rw[this];simp only[AJ];rw[Aq (by omega)];exact jk hF h hv h40 m (k+1) (by omega) (by omega)
  ·rw[if_neg (by simpa using hlt),show k=(Mt g l).length by omega]
def Hy(n top:Nat)(lev:Nat->Nat)(B:Nat->Nat->Bool)(k t:Nat):Nat:=Hw top lev k+((List.range' (k+1) (t-(k+1))).map fun j=>if FV lev B k j=true then Dw n top lev B j else 0).sum
theorem UZ(n top:Nat)(lev:Nat->Nat)(B:Nat->Nat->Bool)(k t:Nat)(h:k+1<=t):Hy n top lev B k (t+1)=Hy n top lev B k t+if FV lev B k t=true then Dw n top lev B t else 0:=by
 unfold Hy;rw[show t+1-(k+1)=(t-(k+1))+1 by omega,List.range'_concat,List.map_append,List.sum_append];simp only[Nat.one_mul,List.map_cons,List.map_nil,List.sum_cons,List.sum_nil];rw[show k+1+(t-(k+1))=t by omega];omega
theorem WX(n top:Nat)(lev:Nat->Nat)(B:Nat->Nat->Bool)(k:Nat):Hy n top lev B k n=Dw n top lev B k:=by
 unfold Hy Dw;rw[PG,show n-1-k=n-(k+1) by omega]
theorem Ua(n top:Nat)(lev:Nat->Nat)(B:Nat->Nat->Bool)(k:Nat):∀s t,k+1<=t->Hy n top lev B k t<=Hy n top lev B k (t+s)
 |0,_,_=>Nat.le_refl _
 |s+1,t,h=>by have:=Ua n top lev B k s t h;rw[<-Nat.add_assoc,UZ _ _ _ _ _ _ (by omega)];omega
theorem mD{n top:Nat}{lev:Nat->Nat}{B:Nat->Nat->Bool}{k t:Nat}(hn:n<=40)(hk:k<n)(h1:k+1<=t)(ht:t<=n):Hy n top lev B k t<=2^40:=by
 have:=Ua n top lev B k (n-t) t h1;rw[show t+(n-t)=n by omega,WX]at this;have h1:Dw n top lev B k<=2^(n-1-k):=ji (QV top lev) (n-1-k) k (by omega);have h2:2^(n-1-k)<=2^40:=Nat.pow_le_pow_right (by omega) (by omega);omega
theorem SX(hF:1000<F)(h:VL l)(hv:Lv g l (Mt g l) v)(h40:(Mt g l).length<=40){k top:Nat}(hk:k<(Mt g l).length){p:Nat->Nat}:∀(m t:Nat),k+1<=t->t<=(Mt g l).length->(Mt g l).length-t<m->
  FJ F (Eg d g l) v (k:Int) m (TT (Mt g l).length p (upd (qk (Dw (Mt g l).length top (LV v) (Bf g l)) (k+1)) k (Hy (Mt g l).length top (LV v) (Bf g l) k t))) (t:Int)=some (TT (Mt g l).length p (qk (Dw (Mt g l).length top (LV v) (Bf g l)) k))
 |0,t,_,_,h=>by omega
 |m+1,t,h1,ht,hm=>by
  unfold FJ;by_cases hlt:t<(Mt g l).length
  ·have hle:=hv.le h hk
   have hs:=UZ (Mt g l).length top (LV v) (Bf g l) k t h1;have hsl:=mD (top:=top) (lev:=LV v) (B:=Bf g l) (k:=k) (t:=t+1) h40 hk (by omega) (by omega);have hut:upd (qk (Dw (Mt g l).length top (LV v) (Bf g l)) (k+1)) k (Hy (Mt g l).length top (LV v) (Bf g l) k t) t=Dw (Mt g l).length top (LV v) (Bf g l) t:=by unfold upd qk;rw[if_neg (by omega),if_pos h1]
   have huk:upd (qk (Dw (Mt g l).length top (LV v) (Bf g l)) (k+1)) k (Hy (Mt g l).length top (LV v) (Bf g l) k t) k=Hy (Mt g l).length top (LV v) (Bf g l) k t:=by simp[upd]
   rw[if_pos (by simpa using hlt),MU hlt,hut];simp only[Ah,AJ];by_cases hz:Dw (Mt g l).length top (LV v) (Bf g l) t=0
   ·rw[if_neg (by simp[hz])]
    simp only[Bool.false_eq_true,if_false,AJ];have:(if FV (LV v) (Bf g l) k t=true then Dw (Mt g l).length top (LV v) (Bf g l) t else 0)=0:=by rw[hz];simp
    rw[Aq (by omega),show Hy (Mt g l).length top (LV v) (Bf g l) k t=Hy (Mt g l).length top (LV v) (Bf g l) k (t+1) by omega];exact SX hF h hv h40 hk m (t+1) (by omega) (by omega) (by omega)
   ·rw[if_pos (by simp;omega),hv.ix hk,hv.ix hlt]
    simp only[AJ];by_cases e:LV v k+1=LV v t
    ·rw[if_pos (by rw[Aq (by omega)];simp;omega)]
     show((((ix ((Mt g l).map pl) (k:Int)).bind _).bind _).bind _)=_;rw[QC hk];simp only[AJ];rw[QC hlt];simp only[AJ];rw[show Bo F (d,l,(Mt g l).map pl) (pl (ML (Mt g l) k)) (pl (ML (Mt g l) t))=some (Bf g l k t)from TU hF h.four _ _];simp only[AJ];cases hb:Bf g l k t with
     |true=>
      have hc:FV (LV v) (Bf g l) k t=true:=by unfold FV;rw[hb,decide_eq_true e];rfl
      rw[if_pos rfl,MU hk,huk];simp only[AJ];rw[hc,if_pos rfl]at hs;rw[show AZ ((Hy (Mt g l).length top (LV v) (Bf g l) k t:Int)+(Dw (Mt g l).length top (LV v) (Bf g l) t:Int))=((Hy (Mt g l).length top (LV v) (Bf g l) k (t+1):Nat):Int) by rw[BK (by omega)];omega,SS hk,OO,IY (f:=p) rfl,Aq (by omega)];exact SX hF h hv h40 hk m (t+1) (by omega) (by omega) (by omega)
     |false=>
      have hc:FV (LV v) (Bf g l) k t=false:=by unfold FV;rw[hb];simp
      rw[if_neg (by simp)];simp only[AJ];rw[hc,if_neg (by simp)]at hs;rw[Aq (by omega),show Hy (Mt g l).length top (LV v) (Bf g l) k t=Hy (Mt g l).length top (LV v) (Bf g l) k (t+1) by omega];exact SX hF h hv h40 hk m (t+1) (by omega) (by omega) (by omega)
    ·have hc:FV (LV v) (Bf g l) k t=false:=by unfold FV;rw[decide_eq_false e];rfl
     rw[if_neg (by rw[Aq (by omega)];simp;omega)];simp only[AJ,Bool.false_eq_true,if_false];rw[hc,if_neg (by simp)]at hs;rw[Aq (by omega),show Hy (Mt g l).length top (LV v) (Bf g l) k t=Hy (Mt g l).length top (LV v) (Bf g l) k (t+1) by omega];exact SX hF h hv h40 hk m (t+1) (by omega) (by omega) (by omega)
  ·have:t=(Mt g l).length:=by omega
   subst this;rw[if_neg (by simp),WX]
   congr 1
   refine QW fun i _=>⟨rfl,?_⟩;unfold upd qk;by_cases e:i=k
   ·subst e;rw[if_pos rfl,if_pos (by omega)]
   ·rw[if_neg e]
    by_cases hi:k+1<=i
    ·rw[if_pos hi,if_pos (by omega)]
    ·rw[if_neg hi,if_neg (by omega)]
theorem jl(hF:1000<F)(h:VL l)(hv:Lv g l (Mt g l) v)(h40:(Mt g l).length<=40){top:Nat}{p:Nat->Nat}:∀(m k:Nat),k<=(Mt g l).length->k<m->
  Dv F (Eg d g l) v (top:Int) m (TT (Mt g l).length p (qk (Dw (Mt g l).length top (LV v) (Bf g l)) k)) ((k:Int)-1)=some (TT (Mt g l).length p (qk (Dw (Mt g l).length top (LV v) (Bf g l)) 0))
 |0,k,_,h=>by omega
 |m+1,0,hk,hm=>by
  unfold Dv;rw[if_neg (by simp)]
 |m+1,k+1,hk,hm=>by
  have hlt:k<(Mt g l).length:=by omega
  unfold Dv;rw[show((k+1:Nat):Int)-1=(k:Int) by omega,if_pos (by simp),hv.ix hlt];simp only[Ah,AJ];have e5:(if decide ((LV v k:Int)=(top:Int))=true then(ix (TT (Mt g l).length p (qk (Dw (Mt g l).length top (LV v) (Bf g l)) (k+1))) (k:Int)).bind fun x18=>some (EM (TT (Mt g l).length p (qk (Dw (Mt g l).length top (LV v) (Bf g l)) (k+1))) (k:Int) (x18.1,(1:Int)))else some (TT (Mt g l).length p (qk (Dw (Mt g l).length top (LV v) (Bf g l)) (k+1))))=some (TT (Mt g l).length p (upd (qk (Dw (Mt g l).length top (LV v) (Bf g l)) (k+1)) k (Hy (Mt g l).length top (LV v) (Bf g l) k (k+1)))):=by
   unfold Hy Hw;by_cases e:LV v k=top
   ·rw[if_pos (by simp[e]),MU hlt]
    simp only[AJ];rw[show(1:Int)=((1:Nat):Int)from rfl,SS hlt,IY (f:=p) rfl,if_pos e];simp
   ·rw[if_neg (by simp;omega),if_neg e]
    congr 2
    rw[IY];unfold qk;rw[if_neg (by omega)];simp
  rw[e5];simp only[AJ];rw[Aq (by omega),SX (d:=d) hF h hv h40 hlt F (k+1) (by omega) (by omega) (by omega)];simp only[AJ];rw[BK (by omega)];exact jl hF h hv h40 m k (by omega) (by omega)
theorem mE(hF:100000<F){x:Bk}{c:HV}(h:VL l)(hc:c.l=tl g)(h40:(Mt g l).length<=40):∃v top,Lv g l (Mt g l) v/\BI F (Eg ⟨some (x,c)⟩ g l)=some v/\(∀i,i<(Mt g l).length->LV v i<=top)/\(((Mt g l).length=0/\top=0)\/∃i,i<(Mt g l).length/\LV v i=top)/\
  CW F (Eg ⟨some (x,c)⟩ g l)=some (TT (Mt g l).length (Uw (LV v) (Bf g l)) (Dw (Mt g l).length top (LV v) (Bf g l))):=by
 obtain⟨v,h1,hv⟩:=dR hF (x:=x) h hc;obtain⟨top,e1,e2,e3⟩:=Zx (F:=F) hv F 0 0 (by omega) (by omega) (by omega) (fun i hi=>by omega) (.inl ⟨rfl,rfl⟩);refine⟨v,top,hv,h1,e2,e3,?_⟩;unfold CW;rw[show BI F ((Eg ⟨some (x,c)⟩ g l).1,(Eg ⟨some (x,c)⟩ g l).2.1,(Eg ⟨some (x,c)⟩ g l).2.2)=some v from h1];simp only[Ah,AJ];rw[show((0:Nat):Int)=0 from rfl]at e1;rw[e1];simp only[AJ];have e5:mks 16 ((((Mt g l).map pl).length:Nat):Int) ((0,0):Int×Int)=some (TT (Mt g l).length (pk (Uw (LV v) (Bf g l)) 0) fun _=>0):=by
  unfold mks;rw[if_pos (by simp;omega)]
  congr 1
  unfold TT pk;simp[List.map_const']
 rw[show mks 16 ((Eg (⟨some (x,c)⟩:Ob ((Uno (List (Ar 2 Int)))×(Ar 101 Int))) g l).2.2.length:Int) ((0,0):Int×Int)=_ from e5];simp only[AJ];have e6:=jk (F:=F) (d:=⟨some (x,c)⟩) (by omega) h hv h40 (q:=fun _=>0) F 0 (by omega) (by omega);rw[show((0:Nat):Int)=0 from rfl]at e6;rw[e6];simp only[AJ];have e7:=jl (F:=F) (d:=⟨some (x,c)⟩) (by omega) h hv h40 (top:=top) (p:=pk (Uw (LV v) (Bf g l)) (Mt g l).length) F (Mt g l).length (Nat.le_refl _) (by omega);have e8:TT (Mt g l).length (pk (Uw (LV v) (Bf g l)) (Mt g l).length) (fun _=>0)=TT (Mt g l).length (pk (Uw (LV v) (Bf g l)) (Mt g l).length) (qk (Dw (Mt g l).length top (LV v) (Bf g l)) (Mt g l).length):=QW fun i hi=>⟨rfl,by unfold qk;rw[if_neg (by omega)]⟩;rw[e8,show AZ (((Eg (⟨some (x,c)⟩:Ob ((Uno (List (Ar 2 Int)))×(Ar 101 Int))) g l).2.2.length:Int)-1)=((Mt g l).length:Int)-1 by rw[show(Eg (⟨some (x,c)⟩:Ob ((Uno (List (Ar 2 Int)))×(Ar 101 Int))) g l).2.2.length=(Mt g l).length by simp,BK (by omega)],e7];simp only[AJ]
 congr 1
 exact QW fun i hi=>⟨by unfold pk;rw[if_pos hi],by unfold qk;rw[if_pos (by omega)]⟩
end
end
section
structure Gr(n top:Nat)(lev:Nat->Nat)(B:Nat->Nat->Bool)(k:Nat)(c:List Nat):Prop where
 mem:∀i∈c,i<k/\i<n/\0<Dw n top lev B i
 lv:∀(t i:Nat),c[t]?=some i->lev i=t+1
 seq:∀(t i j:Nat),c[t]?=some i->c[t+1]?=some j->B i j=true
 more:c.length<top->∃j,k<=j/\j<n/\0<Dw n top lev B j/\lev j=c.length+1/\∀i,c.getLast?=some i->B i j=true
 le:c.length<=top
def PL(n top:Nat)(lev:Nat->Nat)(B:Nat->Nat->Bool)(k:Nat)(c:List Nat):Bool:=decide (0<Dw n top lev B k)&&decide (lev k=c.length+1)&&(match c.getLast? with|none=>true|some i=>B i k)
theorem Gr.add{n top:Nat}{lev:Nat->Nat}{B:Nat->Nat->Bool}(hd:Dag n lev B)(ht:∀i,i<n->lev i<=top){k:Nat}(hk:k<n){c:List Nat}(h:Gr n top lev B k c)(hc:PL n top lev B k c=true):Gr n top lev B (k+1) (c++[k]):=by
 unfold PL at hc;rw[Bool.and_eq_true,Bool.and_eq_true]at hc;obtain⟨⟨h1,h2⟩,h3⟩:=hc;have h1:0<Dw n top lev B k:=by simpa using h1
 have h2:lev k=c.length+1:=by simpa using h2
 have hkt:=ht k hk;refine⟨fun i hi=>?_,fun t i e=>?_,fun t i j e1 e2=>?_,fun hl=>?_,by simp;omega⟩
 ·rcases List.mem_append.1 hi with hi|hi
  ·have:=h.mem i hi;exact⟨by omega,this.2⟩
  ·rw[List.mem_singleton]at hi;subst hi;exact⟨by omega,hk,h1⟩
 ·by_cases e':t<c.length
  ·rw[List.getElem?_append_left e']at e;exact h.lv t i e
  ·rw[List.getElem?_append_right (by omega)]at e
   by_cases e2:t-c.length=0
   ·rw[e2]at e;cases e;omega
   ·rw[List.getElem?_eq_none (by simp;omega)]at e;cases e
 ·by_cases e':t+1<c.length
  ·rw[List.getElem?_append_left (by omega)]at e1 e2;exact h.seq t i j e1 e2
  ·by_cases e3:t+1=c.length
   ·rw[List.getElem?_append_left (by omega)]at e1
    rw[List.getElem?_append_right (by omega),e3,Nat.sub_self]at e2;cases e2;have:c.getLast?=some i:=by rw[List.getLast?_eq_getElem?,<-e3];exact e1
    rw[this]at h3;exact h3
   ·rw[List.getElem?_append_right (by omega),List.getElem?_eq_none (by simp;omega)]at e2;cases e2
 ·rw[List.length_append]at hl⊢
  simp only[List.length_singleton]at hl⊢;rcases tY h1 with e|⟨j,j1,j2,j3,j4⟩
  ·omega
  ·unfold FV at j3
   rw[Bool.and_eq_true]at j3;have e:lev k+1=lev j:=by simpa using j3.1
   exact⟨j,by omega,j2,j4,by omega,fun i hi=>by rw[List.getLast?_concat]at hi;cases hi;exact j3.2⟩
theorem Gr.skip{n top:Nat}{lev:Nat->Nat}{B:Nat->Nat->Bool}{k:Nat}{c:List Nat}(h:Gr n top lev B k c)(hc:PL n top lev B k c=false):Gr n top lev B (k+1) c:=by
 refine⟨fun i hi=>by have:=h.mem i hi;exact⟨by omega,this.2⟩,h.lv,h.seq,fun hl=>?_,h.le⟩;obtain⟨j,j1,j2,j3,j4,j5⟩:=h.more hl;refine⟨j,?_,j2,j3,j4,j5⟩;by_cases e:j=k
 ·subst e
  unfold PL at hc;rw[decide_eq_true j3,decide_eq_true j4]at hc;cases hg:c.getLast? with
  |none=>rw[hg]at hc;cases hc
  |some i=>rw[hg]at hc;have:=j5 i hg;simp[this]at hc
 ·omega
section
variable {F:Nat}{d:Ob ((Uno (List (Ar 2 Int)))×(Ar 101 Int))}{l:List (List Int)}{g:Tp}{v:List Int}
def Kw(g:Tp)(l:List (List Int))(c:List Nat):List Pl:=c.map fun i=>pl (ML (Mt g l) i)
theorem TV(hF:1000<F)(h:VL l)(hv:Lv g l (Mt g l) v)(h40:(Mt g l).length<=40){top:Nat}(ht:∀i,i<(Mt g l).length->LV v i<=top){p:Nat->Nat}:∀(m k:Nat)(c:List Nat),k<=(Mt g l).length->(Mt g l).length-k<m->Gr (Mt g l).length top (LV v) (Bf g l) k c->c.length<=k->
  ∃c',Dp F (Eg d g l) (TT (Mt g l).length p (Dw (Mt g l).length top (LV v) (Bf g l))) v m (Kw g l c) (k:Int)=some (Kw g l c')/\Gr (Mt g l).length top (LV v) (Bf g l) (Mt g l).length c'
 |0,k,_,_,h,_,_=>by omega
 |m+1,k,c,hk,hm,hG,hck=>by
  have hd:=QB h hv;unfold Dp;by_cases hlt:k<(Mt g l).length
  ·have hpl:(Kw g l c).length=c.length:=by simp[Kw]
   rw[if_pos (by simpa using hlt)];rw[show ix (Eg d g l).2.2 (k:Int)=some (pl (ML (Mt g l) k))from QC hlt,MU hlt];simp only[Ah,AJ];have ec:(if decide ((0:Int)<((Dw (Mt g l).length top (LV v) (Bf g l) k:Nat):Int))=true then
     (Md.ix v (k:Int)).bind fun x7=>if decide (x7=AZ (((Kw g l c).length:Int)+1))=true then(if decide (((Kw g l c).length:Int)=0)=true then some true else(ix (Kw g l c) (AZ (((Kw g l c).length:Int)-1))).bind fun x8=>(Bo F (d,l,(Mt g l).map pl) x8 (pl (ML (Mt g l) k))).bind fun x9=>some x9)else some false
    else(if false=true then(if decide (((Kw g l c).length:Int)=0)=true then some true else(ix (Kw g l c) (AZ (((Kw g l c).length:Int)-1))).bind fun x8=>(Bo F (d,l,(Mt g l).map pl) x8 (pl (ML (Mt g l) k))).bind fun x9=>some x9)else some false))=some (PL (Mt g l).length top (LV v) (Bf g l) k c):=by
    unfold PL;by_cases c1:0<Dw (Mt g l).length top (LV v) (Bf g l) k
    ·rw[if_pos (by simpa using c1),hv.ix hlt,decide_eq_true c1]
     simp only[AJ];rw[hpl,Aq (by omega)];by_cases c2:LV v k=c.length+1
     ·rw[if_pos (by simp;omega),decide_eq_true c2]
      rcases OQ c with rfl|⟨e,i,rfl⟩
      ·simp
      ·have hck':e.length+1<=k:=by simpa using hck
       rw[List.length_append,if_neg (by simp;omega),List.getLast?_concat];rw[show AZ (((e.length+ [i].length:Nat):Int)-1)=(e.length:Int) by simp only[List.length_singleton];rw[BK (by omega)];omega];have:Md.ix (Kw g l (e++[i])) (e.length:Int)=some (pl (ML (Mt g l) i)):=by
        rw[Az (by simp[Kw])];simp[Kw]
       rw[this];simp only[AJ];rw[TU hF h.four]
       rfl
     ·rw[if_neg (by simp;omega),decide_eq_false c2];simp
    ·rw[if_neg (by simpa using c1),decide_eq_false c1];simp
   rw[ec];simp only[AJ];cases hc:PL (Mt g l).length top (LV v) (Bf g l) k c with
   |true=>
    rw[if_pos rfl,GQ (by rw[hpl];simp;omega)];simp only[AJ];rw[Aq (by omega)];have:=TV hF h hv h40 ht (p:=p) m (k+1) (c++[k]) (by omega) (by omega) (hG.add hd ht hlt hc) (by simp;omega);rw[show Kw g l (c++[k])=Kw g l c++[pl (ML (Mt g l) k)] by simp[Kw]]at this;exact this
   |false=>
    rw[if_neg (by simp)];simp only[AJ];rw[Aq (by omega)];exact TV hF h hv h40 ht m (k+1) c (by omega) (by omega) (hG.skip hc) (by omega)
  ·have:k=(Mt g l).length:=by omega
   subst this;rw[if_neg (by simp)];exact⟨c,rfl,hG⟩
structure Ps(n top:Nat)(lev:Nat->Nat)(B:Nat->Nat->Bool)(c:List Nat):Prop where
 len:c.length=top
 mem:∀i∈c,i<n/\0<Dw n top lev B i
 lv:∀(t i:Nat),c[t]?=some i->lev i=t+1
 seq:∀(t i j:Nat),c[t]?=some i->c[t+1]?=some j->B i j=true
theorem iL{n top:Nat}{lev:Nat->Nat}{B:Nat->Nat->Bool}(hd:Dag n lev B)(hx:(n=0/\top=0)\/∃i,i<n/\lev i=top):Gr n top lev B 0 []:=by
 refine⟨(fun i hi=>by cases hi),(fun t i e=>by simp at e),(fun t i j e=>by simp at e),fun hl=>?_,Nat.zero_le _⟩;rcases hx with⟨_,e⟩|⟨i,hi,e⟩
 ·simp at hl;omega
 ·have:=hd.one i hi
  obtain⟨j,j1,j2,j3⟩:=WW hd (lev i-1) i (by omega) hi (qF e);exact⟨j,by omega,j1,j3,j2,fun i hi=>by simp at hi⟩
theorem Zz(hF:100000<F){x:Bk}{c:HV}(h:VL l)(hc:c.l=tl g)(h40:(Mt g l).length<=40):∃v top q,Lv g l (Mt g l) v/\BI F (Eg ⟨some (x,c)⟩ g l)=some v/\(∀i,i<(Mt g l).length->LV v i<=top)/\(((Mt g l).length=0/\top=0)\/∃i,i<(Mt g l).length/\LV v i=top)/\
  CW F (Eg ⟨some (x,c)⟩ g l)=some (TT (Mt g l).length (Uw (LV v) (Bf g l)) (Dw (Mt g l).length top (LV v) (Bf g l)))/\
  F4 F (Eg ⟨some (x,c)⟩ g l)=some (Kw g l q)/\Ps (Mt g l).length top (LV v) (Bf g l) q:=by
 obtain⟨v,top,hv,e1,e2,e3,e4⟩:=mE hF (x:=x) h hc h40;have hd:=QB h hv;obtain⟨q,e5,hq⟩:=TV (F:=F) (d:=⟨some (x,c)⟩) (by omega) h hv h40 e2 (p:=Uw (LV v) (Bf g l)) F 0 [] (by omega) (by omega) (iL hd e3) (Nat.zero_le _);refine⟨v,top,q,hv,e1,e2,e3,e4,?_,?_⟩
 ·unfold F4
  rw[show CW F ((Eg ⟨some (x,c)⟩ g l).1,(Eg ⟨some (x,c)⟩ g l).2.1,(Eg ⟨some (x,c)⟩ g l).2.2)=_ from e4];simp only[Ah,AJ];rw[show BI F ((Eg ⟨some (x,c)⟩ g l).1,(Eg ⟨some (x,c)⟩ g l).2.1,(Eg ⟨some (x,c)⟩ g l).2.2)=_ from e1];simp only[AJ];rw[show((0:Nat):Int)=0 from rfl,show Kw g l []=[]from rfl]at e5;rw[e5];rfl
 ·refine⟨?_,fun i hi=>(hq.mem i hi).2,hq.lv,hq.seq⟩
  by_cases e:q.length<top
  ·obtain⟨j,j1,j2,_⟩:=hq.more e;omega
  ·have:=hq.le;omega
theorem mF(hF:100000<F)(h4:l.length<=4){acc:List Pl}:∀(L:List Tp),L.length<=10000->Ip F (d,l,acc) (L.map pl)=some (L.map (Gc l.length)):=by
 intro L hL;have key:∀(m k:Nat),k<=L.length->L.length-k<m->FD F (d,l,acc) (L.map pl) m ((L.take k).map (Gc l.length)) (k:Int)=some (L.map (Gc l.length)):=by
  intro m
  induction m with
  |zero=>intro k _ h;omega
  |succ m ih=>
   intro k hk hm;unfold FD;by_cases hlt:k<L.length
   ·rw[if_pos (by simpa using hlt),Az (by simpa using hlt),List.getElem_map]
    simp only[Ah,AJ];have e5:mks 8 (l.length:Int) (0:Int)=some (List.replicate l.length 0):=by unfold mks;rw[if_pos (by simp;omega)];rfl
    rw[e5];simp only[AJ];have er:J4 (List.replicate l.length (0:Int)) (pl L[k]).l=Gc l.length L[k]:=by
     unfold J4;rw[List.length_replicate,(pl L[k]).h,List.drop_of_length_le (by simp;omega),List.append_nil];unfold pl Gc;rw[<-List.map_take,List.take_range,Nat.min_eq_left h4]
    rw[er,GQ (by simp;omega)];simp only[AJ];rw[Aq (by omega),<-ih (k+1) (by omega) (by omega),List.take_succ_eq_append_getElem hlt,List.map_append]
    rfl
   ·rw[if_neg (by simpa using hlt),List.take_of_length_le (by omega)]
 unfold Ip;have:=key F 0 (by omega) (by omega);rw[show((0:Nat):Int)=0 from rfl,List.take_zero,List.map_nil]at this;rw[this];rfl
end
theorem mG{F:Nat}(hF:100000<F){x:Bk}{l:List (List Int)}(hv:VB x)(h:VL l):∃g,(∀i j,i<101->j<101->(g i=g j↔Con (Ed x) i j))/\((Mt g l).length<=40->∃d v top q,Lv g l (Mt g l) v/\ET F x l=some (⟨some (Eg d g l)⟩,0)/\
  (∀i,i<(Mt g l).length->LV v i<=top)/\(((Mt g l).length=0/\top=0)\/∃i,i<(Mt g l).length/\LV v i=top)/\Qc F x l=some (v,0)/\
  BI F (Eg d g l)=some v/\CW F (Eg d g l)=some (TT (Mt g l).length (Uw (LV v) (Bf g l)) (Dw (Mt g l).length top (LV v) (Bf g l)))/\
  Jk F x l=some (q.map fun i=>Gc l.length (ML (Mt g l) i),0)/\Ps (Mt g l).length top (LV v) (Bf g l) q):=by
 obtain⟨c,g,h1,h2,h3⟩:=pK hv;refine⟨g,h3,fun h40=>?_⟩;have hl:=Q5 h;have es:ET F x l=some (⟨some (Eg ⟨some (x,c)⟩ g l)⟩,0):=by
  unfold ET;rw[show(⟨x.v⟩:Bk)=x from rfl,pW (by omega) hv h];simp only[Ah,AJ];rw[if_neg (by simp)];unfold IA;rw[h1];simp only[Ah,AJ];rw[dL hF h];simp only[AJ];rw[show(⟨x.v⟩:Bk)=x from rfl,Q6 (by omega) h h2 _ [] (fun f hf=>(Kv _ f hf).1) (by simp;omega)]
  rfl
 obtain⟨v,top,q,hv',e1,e2,e3,e4,e5,e6⟩:=Zz hF (x:=x) h h2 h40;refine⟨_,v,top,q,hv',es,e2,e3,?_,e1,e4,?_,e6⟩
 ·unfold Qc
  rw[show(⟨x.v⟩:Bk)=x from rfl,es];simp only[Ah,AJ];rw[if_neg (by simp),show BI F (_,_,_)=some v from e1];rfl
 ·unfold Jk
  rw[show(⟨x.v⟩:Bk)=x from rfl,es];simp only[Ah,AJ];rw[if_neg (by simp),show F4 F (_,_,_)=_ from e5];simp only[AJ];have hq:(q.map (ML (Mt g l))).length<=10000:=by
   rw[List.length_map,e6.len];rcases e3 with⟨_,e⟩|⟨i,hi,e⟩
   ·omega
   ·have:=hv'.le h hi;omega
  have:=mF (F:=F) (d:=⟨some (x,c)⟩) hF h.four (acc:=(Mt g l).map pl) (q.map (ML (Mt g l))) hq;rw[List.map_map,List.map_map]at this;rw[show Kw g l q=q.map (pl∘ML (Mt g l))from rfl,this]
  rfl
end
section
section
variable {F:Nat}{d:Ob ((Uno (List (Ar 2 Int)))×(Ar 101 Int))}{l:List (List Int)}{g:Tp}{v:List Int}
end
end
section
theorem OT{f:Nat->Nat}{m:Nat}:∀{L:List Nat},L.Nodup->m∈L->(∀j∈L,j≠m->f j=0)->(L.map f).sum=f m
 |[],_,h,_=>by cases h
 |a::L,hn,h,h0=>by
  rw[List.nodup_cons]at hn;rw[List.map_cons,List.sum_cons];rcases List.mem_cons.1 h with rfl|h
  ·have:(L.map f).sum=0:=by
    have:∀{K:List Nat},(∀j∈K,f j=0)->(K.map f).sum=0:=by
     intro K
     induction K with
     |nil=>intro _;rfl
     |cons b K ih=>intro hK;rw[List.map_cons,List.sum_cons,hK b (List.mem_cons_self ..),ih fun j hj=>hK j (List.mem_cons_of_mem _ hj)]
    exact this fun j hj=>h0 j (List.mem_cons_of_mem _ hj) fun e=>hn.1 (e▸hj)
   omega
  ·rw[h0 a (List.mem_cons_self ..) fun e=>hn.1 (e▸h),OT hn.2 h fun j hj=>h0 j (List.mem_cons_of_mem _ hj)];omega
section
variable {n top:Nat}{lev:Nat->Nat}{B:Nat->Nat->Bool}{m m':Nat}
structure Jst(n:Nat)(B:Nat->Nat->Bool)(m m':Nat):Prop where
 h1:m<n
 h2:m'<n
 b:B m m'=true
 on:∀j,j<n->B m j=true->j=m'\/B m' j=true
 bk:∀j,j<n->B j m'=true->j=m\/B j m=true
theorem Jst.lv(hd:Dag n lev B)(h:Jst n B m m'):lev m'=lev m+1:=by
 have a:=hd.up m m' h.h1 h.h2 h.b;have b:=hd.one m h.h1;obtain⟨j,hj,hb,hl⟩:=hd.dn m' h.h2 (by omega);rcases h.bk j hj hb with rfl|hb'
 ·omega
 ·have:=hd.up j m hj h.h1 hb';omega
theorem Jst.dw(hd:Dag n lev B)(ht:∀i,i<n->lev i<=top)(h:Jst n B m m'):Dw n top lev B m=Dw n top lev B m':=by
 have hl:=h.lv hd;have hm:=ht m' h.h2;have hlt:=hd.lt m m' h.h1 h.h2 h.b;have hm':=h.h2;unfold Dw;rw[PG];have e0:Hw top lev m=0:=by unfold Hw;rw[if_neg (by omega)]
 rw[e0,Nat.zero_add,OT (m:=m') List.nodup_range' (List.mem_range'_1.2 (by omega))]
 ·rw[if_pos (by unfold FV;rw[h.b,decide_eq_true hl.symm];rfl)]
 ·intro j hj hne
  have hj:=List.mem_range'_1.1 hj;rw[if_neg];intro hc;unfold FV at hc;rw[Bool.and_eq_true]at hc;have e:lev m+1=lev j:=by simpa using hc.1
  rcases h.on j (by omega) hc.2 with e'|hb
  ·exact hne e'
  ·have:=hd.up m' j h.h2 (by omega) hb;omega
theorem Jst.uw(hd:Dag n lev B)(h:Jst n B m m'):Uw lev B m'=Uw lev B m:=by
 have hl:=h.lv hd;have b1:=hd.one m h.h1;have hlt:=hd.lt m m' h.h1 h.h2 h.b;have hm':=h.h2;unfold Uw;rw[U3];have e0:Hw 1 lev m'=0:=by unfold Hw;rw[if_neg (by omega)]
 rw[e0,Nat.zero_add,OT (m:=m) List.nodup_range (List.mem_range.2 hlt)]
 ·rw[if_pos (by unfold FV;rw[h.b,decide_eq_true hl.symm];rfl)]
 ·intro j hj hne
  have hj:=List.mem_range.1 hj;rw[if_neg];intro hc;unfold FV at hc;rw[Bool.and_eq_true]at hc;have e:lev j+1=lev m':=by simpa using hc.1
  rcases h.bk j (by omega) hc.2 with e'|hb
  ·exact hne e'
  ·have:=hd.up j m (by omega) h.h1 hb;omega
theorem Jst.ps(hd:Dag n lev B)(ht:∀i,i<n->lev i<=top)(h:Jst n B m m'){q:List Nat}(hq:Ps n top lev B q):m∈q↔m'∈q:=by
 have hl:=h.lv hd;have hm:=ht m' h.h2;have b1:=hd.one m h.h1;constructor
 ·intro hh
  obtain⟨t,htl,e⟩:=List.mem_iff_getElem.1 hh;have e1:q[t]?=some m:=by rw[List.getElem?_eq_getElem htl,e]
  have l1:=hq.lv t m e1;have hlen:=hq.len;have hlt:t+1<q.length:=by omega
  have e2:q[t+1]?=some q[t+1]:=List.getElem?_eq_getElem hlt;have l2:=hq.lv (t+1) _ e2;have hb:=hq.seq t m _ e1 e2;have hj:=(hq.mem _ (List.getElem_mem hlt)).1;rcases h.on _ hj hb with e'|hb'
  ·rw[<-e'];exact List.getElem_mem hlt
  ·have:=hd.up m' _ h.h2 hj hb';omega
 ·intro hh
  obtain⟨t,htl,e⟩:=List.mem_iff_getElem.1 hh;have e1:q[t]?=some m':=by rw[List.getElem?_eq_getElem htl,e]
  have l1:=hq.lv t m' e1;obtain⟨s,rfl⟩:∃s,t=s+1:=⟨t-1,by omega⟩;have hlt:s<q.length:=by omega
  have e2:q[s]?=some q[s]:=List.getElem?_eq_getElem hlt;have l2:=hq.lv s _ e2;have hb:=hq.seq s _ m' e2 e1;have hj:=(hq.mem _ (List.getElem_mem hlt)).1;rcases h.bk _ hj hb with e'|hb'
  ·rw[<-e'];exact List.getElem_mem hlt
  ·have:=hd.up _ m hj h.h1 hb';omega
end
section
variable {l:List (List Int)}{g:Tp}
theorem Ub:∀j,(Hf l j).Nodup
 |0=>by simp[Hf]
 |j+1=>by
  rw[Hf];refine Jn.JF (Ub j) (fun t _=>?_) fun a ha b hb x hx hy=>?_
  ·rw[List.Nodup,List.pairwise_map]
   refine List.nodup_range.imp fun{a b} hab e=>hab ?_;have:=congrFun e j;simpa[upd]using this
  ·obtain⟨i,_,rfl⟩:=List.mem_map.1 hx
   obtain⟨i',_,e⟩:=List.mem_map.1 hy;have za:=(Kv j a ha).2 j (Nat.le_refl _);have zb:=(Kv j b hb).2 j (Nat.le_refl _)
   funext n
   have:=congrFun e n;unfold upd at this;by_cases hn:n=j
   ·subst hn;rw[za,zb]
   ·rw[if_neg hn,if_neg hn]at this;exact this.symm
theorem WY:(Mt g l).Nodup:=List.Nodup.sublist List.filter_sublist (Ub _)
theorem QD{i j:Nat}(hi:i<(Mt g l).length)(hj:j<(Mt g l).length)(h:ML (Mt g l) i=ML (Mt g l) j):i=j:=by
 rw[Dl hi,Dl hj]at h;exact(List.getElem_inj WY).1 h
structure Uq(g:Tp)(l:List (List Int)):Prop where
 vl:VL l
 nod:∀r∈l,r.Nodup
 inj:∀i j,i<101->j<101->g i=g j->i=j
theorem Uq.pos(h:Uq g l){j a b:Nat}(hj:j<l.length)(ha:a<ln l j)(hb:b<ln l j)(e:Iy l j a=Iy l j b):a=b:=by
 have eln:ln l j=l[j].length:=by unfold ln;simp[hj]
 have h1:=(L6 h.vl hj ha).1;have h2:=(L6 h.vl hj hb).1;rw[e]at h1;rw[Az (by omega)]at h1 h2;have:l[j][a]=l[j][b]:=by rw[Option.some.injEq]at h1 h2;rw[h1,h2]
 exact(List.getElem_inj (h.nod _ (List.getElem_mem hj))).1 this
theorem Uq.same(h:Uq g l){f:Tp}(hf:f∈Mt g l){j:Nat}(hj:j<l.length):Wo.Iy l j (f j)=Wo.Iy l 0 (f 0):=by
 have h2:=h.vl.two;obtain⟨a,_,b⟩:=Iz hf;have:=List.all_eq_true.1 b j (List.mem_range.2 hj);exact h.inj _ _ (L6 h.vl hj (a j hj)).2 (L6 h.vl (by omega) (a 0 (by omega))).2 (by simpa using this)
theorem Uq.one(h:Uq g l){f f':Tp}(hf:f∈Mt g l)(hf':f'∈Mt g l){j:Nat}(hj:j<l.length)(e:f j=f' j):f=f':=by
 obtain⟨a,a0,_⟩:=Iz hf;obtain⟨b,b0,_⟩:=Iz hf'
 funext i
 by_cases hi:i<l.length
 ·refine h.pos hi (a i hi) (b i hi) ?_
  rw[h.same hf hi,h.same hf' hi,<-h.same hf hj,<-h.same hf' hj,e]
 ·rw[a0 i (by omega),b0 i (by omega)]
theorem Uq.mem(h:Uq g l){f:Tp}(hf:∀i,i<l.length->f i<ln l i)(h0:∀i,l.length<=i->f i=0)(he:∀i,i<l.length->Wo.Iy l i (f i)=Wo.Iy l 0 (f 0)):f∈Mt g l:=
 jg hf h0 (List.all_eq_true.2 fun i hi=>by rw[he i (List.mem_range.1 hi)];simp)
theorem Uq.len(h:Uq g l):(Mt g l).length<=ln l 0:=by
 have h2:=h.vl.two;have hn:((Mt g l).map fun f=>f 0).Nodup:=by
  rw[List.Nodup,List.pairwise_map];refine List.Pairwise.imp_of_mem (fun{a b} ha hb hab e=>hab (h.one ha hb (show 0<l.length by omega) e)) (WY (g:=g) (l:=l))
 have:=Jn.Nq (k:=List.range (ln l 0)) hn fun a ha=>by
  obtain⟨f,hf,rfl⟩:=List.mem_map.1 ha;exact List.mem_range.2 ((Iz hf).1 0 (by omega))
 simpa using this
theorem Uq.jst(h:Uq g l){i i':Nat}(hi:i<(Mt g l).length)(hi':i'<(Mt g l).length)(he:∀j,j<l.length->ML (Mt g l) i' j=ML (Mt g l) i j+1):Jst (Mt g l).length (Bf g l) i i':=by
 have hm:=List.getElem_mem hi;have hm':=List.getElem_mem hi';rw[<-Dl hi]at hm;rw[<-Dl hi']at hm';refine⟨hi,hi',Dg.2 fun j hj=>by rw[he j hj];omega,fun u hu hb=>?_,fun u hu hb=>?_⟩
 ·have hmu:=List.getElem_mem hu
  rw[<-Dl hu]at hmu;by_cases e:∃j,j<l.length/\ML (Mt g l) u j=ML (Mt g l) i' j
  ·obtain⟨j,hj,e⟩:=e
   exact .inl (QD hu hi' (h.one hmu hm' hj e))
  ·refine .inr (Dg.2 fun j hj=>?_)
   have a:=Dg.1 hb j hj;have b:=he j hj;have c:ML (Mt g l) u j≠ML (Mt g l) i' j:=fun hh=>e ⟨j,hj,hh⟩;omega
 ·have hmu:=List.getElem_mem hu
  rw[<-Dl hu]at hmu;by_cases e:∃j,j<l.length/\ML (Mt g l) u j=ML (Mt g l) i j
  ·obtain⟨j,hj,e⟩:=e
   exact .inl (QD hu hi (h.one hmu hm hj e))
  ·refine .inr (Dg.2 fun j hj=>?_)
   have a:=Dg.1 hb j hj;have b:=he j hj;have c:ML (Mt g l) u j≠ML (Mt g l) i j:=fun hh=>e ⟨j,hj,hh⟩;omega
end
end
section
section
variable {F:Nat}{l:List (List Int)}{g:Tp}
theorem uo(h4:l.length<=4){Q:List Tp}(hQ:Q.length<=8):∀(m k:Nat),k<=Q.length->Q.length-k<m->DU F l (Q.map (Gc l.length)) m (k:Int)=some (.inr ())
 |0,k,_,h=>by omega
 |m+1,k,hk,h=>by
  unfold DU;by_cases hlt:k<Q.length
  ·rw[if_pos (by simpa using hlt),Az (by simpa using hlt),List.getElem_map]
   simp only[Ah,AJ,TS];rw[if_neg (by simp),Aq (by omega),uo h4 hQ m (k+1) (by omega) (by omega)]
  ·rw[if_neg (by simpa using hlt)]
theorem WZ{Q:List Tp}{i:Nat}(h:i<Q.length):Md.ix (Q.map (Gc l.length)) (i:Int)=some (Gc l.length Q[i]):=by
 rw[Az (by simpa using h),List.getElem_map]
theorem uq(h4:l.length<=4){Q:List Tp}{y:Nat}(hy:y<Q.length)(hm:Q[y]∈Mt g l):∀(m k:Nat),k<=l.length->l.length-k<m->DV F l (Q.map (Gc l.length)) (y:Int) m (k:Int)=some (.inr ())
 |0,k,_,h=>by omega
 |m+1,k,hk,h=>by
  unfold DV;by_cases hlt:k<l.length
  ·have hf:=(Iz hm).1 k hlt
   have eln:ln l k=l[k].length:=by unfold ln;simp[hlt]
   rw[if_pos (by simpa using hlt),WZ hy];simp only[Ah,AJ];rw[OP hlt];simp only[AJ];rw[if_neg (by simp),Az hlt];simp only[AJ];rw[if_neg (by simp;omega),Aq (by omega),uq h4 hy hm m (k+1) (by omega) (by omega)]
  ·rw[if_neg (by simpa using hlt)]
theorem uy(hF:1000<F)(h4:l.length<=4){Q:List Tp}(hQ:Q.length<=8)(hm:∀f∈Q,f∈Mt g l):∀(m k:Nat),k<=Q.length->Q.length-k<m->DW F l (Q.map (Gc l.length)) m (k:Int)=some (.inr ())
 |0,k,_,h=>by omega
 |m+1,k,hk,h=>by
  unfold DW;by_cases hlt:k<Q.length
  ·have:=uq (F:=F) h4 hlt (hm _ (List.getElem_mem hlt)) F 0 (by omega) (by omega)
   rw[show((0:Nat):Int)=0 from rfl]at this;rw[if_pos (by simpa using hlt),this];simp only[Ah,AJ];rw[Aq (by omega),uy hF h4 hQ hm m (k+1) (by omega) (by omega)]
  ·rw[if_neg (by simpa using hlt)]
theorem uz(h:VL l){g':Tp}(hg:∀i j,i<101->j<101->(g i=g j↔g' i=g' j)){Q:List Tp}{y:Nat}(hy:y<Q.length)(hm:Q[y]∈Mt g l):∀(m k:Nat),k<=l.length->l.length-k<m->DX F l (Q.map (Gc l.length)) (tl g') (y:Int) m (k:Int)=some (.inr ())
 |0,k,_,h=>by omega
 |m+1,k,hk,hh=>by
  have h2:=h.two;have h4:=h.four;unfold DX;by_cases hlt:k<l.length
  ·obtain⟨hf,_,hmt⟩:=Iz hm
   have a:=L6 h hlt (hf k hlt);have b:=L6 h (j:=0) (by omega) (hf 0 (by omega));have e:g (Iy l k (Q[y] k))=g (Iy l 0 (Q[y] 0)):=by simpa using List.all_eq_true.1 hmt k (List.mem_range.2 hlt)
   have e':=(hg _ _ a.2 b.2).1 e;rw[if_pos (by simpa using hlt),Az hlt,WZ hy];simp only[Ah,AJ];rw[OP hlt];simp only[AJ];rw[a.1];simp only[AJ];rw[MS a.2,show(0:Int)=((0:Nat):Int)from rfl,Az (show 0<l.length by omega)];simp only[AJ];rw[OP (show 0<l.length by omega)];simp only[AJ];rw[b.1];simp only[AJ];rw[MS b.2,e'];simp only[AJ];rw[if_neg (by simp),Aq (by omega),uz h hg hy hm m (k+1) (by omega) (by omega)]
  ·rw[if_neg (by simpa using hlt)]
theorem vB(hF:1000<F)(h:VL l){g':Tp}(hg:∀i j,i<101->j<101->(g i=g j↔g' i=g' j)){Q:List Tp}(hQ:Q.length<=8)(hm:∀f∈Q,f∈Mt g l):∀(m k:Nat),k<=Q.length->Q.length-k<m->DY F l (Q.map (Gc l.length)) (tl g') m (k:Int)=some (.inr ())
 |0,k,_,h=>by omega
 |m+1,k,hk,hh=>by
  have h4:=h.four;have h2:=h.two;unfold DY;by_cases hlt:k<Q.length
  ·have:=uz (F:=F) h hg hlt (hm _ (List.getElem_mem hlt)) F 1 (by omega) (by omega)
   rw[show((1:Nat):Int)=1 from rfl]at this;rw[if_pos (by simpa using hlt),this];simp only[Ah,AJ];rw[Aq (by omega),vB hF h hg hQ hm m (k+1) (by omega) (by omega)]
  ·rw[if_neg (by simpa using hlt)]
theorem vC(hF:1000<F)(h4:l.length<=4){Q:List Tp}(hQ:Q.length<=8)(hs:∀(t:Nat)a b,Q[t]?=some a->Q[t+1]?=some b->I4 l.length a b=true):∀(m k:Nat),1<=k->k<=Q.length\/k=1->Q.length-k<m->DZ F (Q.map (Gc l.length)) m (k:Int)=some (.inr ())
 |0,k,_,_,h=>by omega
 |m+1,k,h1,hk,hh=>by
  unfold DZ;by_cases hlt:k<Q.length
  ·have hb:=hs (k-1) Q[k-1] Q[k] (List.getElem?_eq_getElem (by omega)) (by rw[show k-1+1=k by omega];exact List.getElem?_eq_getElem hlt)
   rw[if_pos (by simpa using hlt),show AZ ((k:Int)-1)=((k-1:Nat):Int) by rw[BK (by omega)];omega,WZ (show k-1<Q.length by omega),WZ hlt];simp only[Ah,AJ];rw[lY hF (by omega),hb];simp only[AJ];rw[if_neg (by simp),Aq (by omega),vC hF h4 hQ hs m (k+1) (by omega) (by omega) (by omega)]
  ·rw[if_neg (by simpa using hlt)]
theorem mH(hF:1000<F){x:Bk}(hv:VB x)(h:VL l)(hg:∀i j,i<101->j<101->(g i=g j↔Con (Ed x) i j)){Q:List Tp}(hQ:Q.length<=8)(hm:∀f∈Q,f∈Mt g l)(hs:∀(t:Nat)a b,Q[t]?=some a->Q[t+1]?=some b->I4 l.length a b=true):
  Dk F x l (Q.map (Gc l.length))=some 0:=by
 have h4:=h.four;obtain⟨g',e1,e2⟩:=Xv hF hv;unfold Dk;rw[show(⟨x.v⟩:Bk)=x from rfl,pY hF,pX.2 ⟨hv,h⟩];simp only[Ah,AJ];rw[if_neg (by simp),if_neg (by simp;omega)];have a1:=uo (F:=F) h4 hQ F 0 (by omega) (by omega);have a2:=uy hF h4 hQ hm F 0 (by omega) (by omega);have a4:=vB hF h (fun i j hi hj=>(hg i j hi hj).trans (e2 i j hi hj).symm) hQ hm F 0 (by omega) (by omega);have a6:=vC hF h4 hQ hs F 1 (by omega) (by omega) (by omega);rw[show((0:Nat):Int)=0 from rfl]at a1 a2 a4;rw[show((1:Nat):Int)=1 from rfl]at a6;rw[a1];simp only[AJ];rw[a2];simp only[AJ];rw[e1];simp only[AJ];rw[a4];simp only[AJ];rw[a6]
 rfl
end
end
section
def rl(n:Nat)(f:Nat->Nat):List Int:=(List.range n).map fun i=>((f i:Nat):Int)
theorem OU(n:Nat)(f:Nat->Nat):(rl n f).length=n:=by simp[rl]
theorem QX{n:Nat}{f:Nat->Nat}{i:Nat}(h:i<n):ix (rl n f) (i:Int)=some ((f i:Nat):Int):=by
 rw[Az (by rw[OU];exact h)];simp[rl]
theorem Wh{n:Nat}{f:Nat->Nat}{i a:Nat}(h:i<n):EM (rl n f) (i:Int) (a:Int)=rl n (upd f i a):=by
 rw[rset_nat];apply List.ext_getElem?;intro j;rw[List.getElem?_set,OU];unfold rl;by_cases hj:j<n
 ·by_cases e:i=j
  ·subst e;simp[h,upd]
  ·simp[hj,e,upd,Ne.symm e]
 ·rw[if_neg (by omega)];simp[hj]
theorem QY{n:Nat}{f f':Nat->Nat}(h:∀i,i<n->f i=f' i):rl n f=rl n f':=by
 unfold rl;exact List.map_congr_left fun i hi=>by rw[h i (List.mem_range.1 hi)]
theorem dU(n:Nat)(h:n<=1000):mks 8 (n:Int) (0:Int)=some (rl n fun _=>0):=by
 unfold mks;rw[if_pos (by simp;omega)]
 congr 1
 unfold rl;simp[List.map_const']
section
variable {n top:Nat}{lev:Nat->Nat}{B:Nat->Nat->Bool}
def LG(n top:Nat)(lev:Nat->Nat)(B:Nat->Nat->Bool)(i:Nat):Nat:=Uw lev B i*Dw n top lev B i
theorem SY(hn:n<=40){i:Nat}(hi:i<n):LG n top lev B i<=549755813888:=by
 have a:Uw lev B i<=2^i:=jh (QV 1 lev) i;have b:Dw n top lev B i<=2^(n-1-i):=ji (QV top lev) (n-1-i) i (by omega);refine Nat.le_trans (Nat.mul_le_mul a b) ?_;rw[<-Nat.pow_add];show _<=2^39;exact Nat.pow_le_pow_right (by omega) (by omega)
def OW(w:Nat->Nat)(p:Nat->Bool)(k:Nat):Nat:=((List.range k).map fun i=>if p i=true then w i else 0).sum
theorem PN(w:Nat->Nat)(p:Nat->Bool)(k:Nat):OW w p (k+1)=OW w p k+if p k=true then w k else 0:=by
 unfold OW;rw[List.range_succ,List.map_append,List.sum_append];simp
theorem Wi{w:Nat->Nat}{p:Nat->Bool}{W:Nat}(h:∀i,i<n->w i<=W):∀k,k<=n->OW w p k<=k*W
 |0,_=>by simp[OW]
 |k+1,hk=>by
  rw[PN,Nat.succ_mul];have:=Wi h k (by omega) (p:=p);have:=h k (by omega);split<;>omega
end
section
variable {F:Nat}{d:Ob ((Uno (List (Ar 2 Int)))×(Ar 101 Int))}{l:List (List Int)}{g:Tp}{v:List Int}
def cnt(g:Tp)(l:List (List Int))(top:Nat)(v:List Int):Nat:=if(Mt g l).length=0 then 1 else OW (LG (Mt g l).length top (LV v) (Bf g l)) (fun i=>decide (LV v i=1)) (Mt g l).length
theorem jo(hv:Lv g l (Mt g l) v)(h40:(Mt g l).length<=40){top:Nat}:∀(m k:Nat),k<=(Mt g l).length->(Mt g l).length-k<m->
  EP F (TT (Mt g l).length (Uw (LV v) (Bf g l)) (Dw (Mt g l).length top (LV v) (Bf g l))) v m ((OW (LG (Mt g l).length top (LV v) (Bf g l)) (fun i=>decide (LV v i=1)) k:Nat):Int) (k:Int)
   =some ((OW (LG (Mt g l).length top (LV v) (Bf g l)) (fun i=>decide (LV v i=1)) (Mt g l).length:Nat):Int)
 |0,k,_,h=>by omega
 |m+1,k,hk,hm=>by
  have hl:=hv.1;unfold EP;by_cases hlt:k<(Mt g l).length
  ·have hw:=SY (top:=top) (lev:=LV v) (B:=Bf g l) h40 hlt
   have hs:=Wi (w:=LG (Mt g l).length top (LV v) (Bf g l)) (p:=fun i=>decide (LV v i=1)) (W:=549755813888) (n:=(Mt g l).length) (fun i hi=>SY h40 hi) k (by omega);rw[if_pos (by simp;omega),hv.ix hlt];simp only[Ah,AJ];have ih:=jo hv h40 (top:=top) m (k+1) (by omega) (by omega);rw[PN]at ih;by_cases e:LV v k=1
   ·rw[if_pos (by simp[e]),MU hlt]
    simp only[AJ,Fz];rw[show((Uw (LV v) (Bf g l) k:Nat):Int)*((Dw (Mt g l).length top (LV v) (Bf g l) k:Nat):Int)=((LG (Mt g l).length top (LV v) (Bf g l) k:Nat):Int) by unfold LG;simp,BK (n:=((LG (Mt g l).length top (LV v) (Bf g l) k:Nat):Int)) (by omega),BK (by omega),Aq (by omega)];rw[if_pos (by simp[e])]at ih;rw[<-ih];rfl
   ·rw[if_neg (by simp;omega)]
    simp only[AJ];rw[Aq (by omega)];rw[if_neg (by simp[e])]at ih;exact ih
  ·rw[if_neg (by simp;omega),show k=(Mt g l).length by omega]
theorem count_eq(hF:1000<F)(hv:Lv g l (Mt g l) v)(h40:(Mt g l).length<=40){top:Nat}(hl:BI F (Eg d g l)=some v):
  FL F (Eg d g l) (TT (Mt g l).length (Uw (LV v) (Bf g l)) (Dw (Mt g l).length top (LV v) (Bf g l)))=some ((cnt g l top v:Nat):Int):=by
 unfold FL cnt;by_cases h0:(Mt g l).length=0
 ·rw[if_pos (by simp[SQ,h0]),if_pos h0];rfl
 ·have h0':((Mt g l).length:Int)≠0:=by omega
  rw[if_neg (by rw[SQ];simp only[decide_eq_true_eq];exact h0'),if_neg h0];rw[show BI F ((Eg d g l).1,(Eg d g l).2.1,(Eg d g l).2.2)=some v from hl];simp only[Ah,AJ];have:=jo (F:=F) hv h40 (top:=top) F 0 (by omega) (by omega);rw[show((0:Nat):Int)=0 from rfl,show((OW (LG (Mt g l).length top (LV v) (Bf g l)) (fun i=>decide (LV v i=1)) 0:Nat):Int)=0 from rfl]at this;rw[this];rfl
theorem iM(hF:1000<F){x:Bk}(hv:Lv g l (Mt g l) v)(h40:(Mt g l).length<=40){top:Nat}(es:ET F x l=some (⟨some (Eg d g l)⟩,0))(hl:BI F (Eg d g l)=some v)
  (hw:CW F (Eg d g l)=some (TT (Mt g l).length (Uw (LV v) (Bf g l)) (Dw (Mt g l).length top (LV v) (Bf g l)))):LA F x l=some (((cnt g l top v:Nat):Int),0):=by
 unfold LA;rw[show(⟨x.v⟩:Bk)=x from rfl,es];simp only[Ah,AJ];rw[if_neg (by simp),show CW F (_,_,_)=_ from hw];simp only[AJ];rw[show FL F (_,_,_) _=_ from count_eq hF hv h40 hl]
 rfl
def MC(g:Tp)(l:List (List Int))(top:Nat)(v:List Int)(h k p:Nat):Nat:=OW (LG (Mt g l).length top (LV v) (Bf g l)) (fun i=>decide (ML (Mt g l) i h=p)) k
def PW(c s:Nat):Nat:=if s=0 then 0 else if s=c then 2 else 1
theorem jq(hvl:VL l)(h40:(Mt g l).length<=40){top h:Nat}(hh:h<l.length):∀(m k:Nat),k<=(Mt g l).length->(Mt g l).length-k<m->
  Fb F (h:Int) (Eg d g l) (TT (Mt g l).length (Uw (LV v) (Bf g l)) (Dw (Mt g l).length top (LV v) (Bf g l))) m (rl (ln l h) (MC g l top v h k)) (k:Int)=some (rl (ln l h) (MC g l top v h (Mt g l).length))
 |0,k,_,h=>by omega
 |m+1,k,hk,hm=>by
  have h4:=hvl.four;unfold Fb;by_cases hlt:k<(Mt g l).length
  ·have hf:=(Iz (List.getElem_mem hlt)).1 h hh
   rw[<-Dl hlt]at hf;have hw:=SY (top:=top) (lev:=LV v) (B:=Bf g l) h40 hlt;have hs:=Wi (w:=LG (Mt g l).length top (LV v) (Bf g l)) (p:=fun i=>decide (ML (Mt g l) i h=ML (Mt g l) k h)) (W:=549755813888) (n:=(Mt g l).length) (fun i hi=>SY h40 hi) k (by omega);rw[if_pos (by simpa using hlt),show Md.ix (Eg d g l).2.2 (k:Int)=some (pl (ML (Mt g l) k))from QC hlt];simp only[Ah,AJ];rw[KZ (show h<4 by omega)];simp only[AJ];rw[QX hf,MU hlt];simp only[AJ,Fz];rw[show((Uw (LV v) (Bf g l) k:Nat):Int)*((Dw (Mt g l).length top (LV v) (Bf g l) k:Nat):Int)=((LG (Mt g l).length top (LV v) (Bf g l) k:Nat):Int) by unfold LG;simp,BK (n:=((LG (Mt g l).length top (LV v) (Bf g l) k:Nat):Int)) (by omega)];have e:((MC g l top v h k (ML (Mt g l) k h):Nat):Int)+((LG (Mt g l).length top (LV v) (Bf g l) k:Nat):Int)=((MC g l top v h (k+1) (ML (Mt g l) k h):Nat):Int):=by
    unfold MC;rw[PN,if_pos (by simp)];simp
   have hs':MC g l top v h k (ML (Mt g l) k h)<=k*549755813888:=hs;rw[BK (by omega),e,Wh hf,Aq (by omega)];rw[<-jq hvl h40 hh m (k+1) (by omega) (by omega)]
   congr 1
   refine QY fun p _=>?_;unfold upd;by_cases ep:p=ML (Mt g l) k h
   ·rw[if_pos ep,ep]
   ·rw[if_neg ep];unfold MC;rw[PN,if_neg (by simp only[decide_eq_true_eq];exact fun h=>ep h.symm)];rfl
  ·rw[if_neg (by simpa using hlt),show k=(Mt g l).length by omega]
theorem jr{q:Nat}(hq:q<=1000){c:Nat}{s:Nat->Nat}:∀(m k:Nat),k<=q->q-k<m->GL F (c:Int) (rl q s) m (rl q fun i=>if i<k then PW c (s i)else 0) (k:Int)=some (rl q fun i=>PW c (s i))
 |0,k,_,h=>by omega
 |m+1,k,hk,hm=>by
  unfold GL;by_cases hlt:k<q
  ·rw[if_pos (by rw[OU];simpa using hlt),QX hlt]
   simp only[Ah,AJ];have ih:=jr hq (c:=c) (s:=s) m (k+1) (by omega) (by omega);have ec:∀a:Nat,a=PW c (s k)->rl q (upd (fun i=>if i<k then PW c (s i)else 0) k a)=rl q fun i=>if i<k+1 then PW c (s i)else 0:=by
    intro a ha;refine QY fun i _=>?_;unfold upd;by_cases e:i=k
    ·subst e;rw[if_pos rfl,if_pos (by omega),ha]
    ·rw[if_neg e]
     show(if i<k then PW c (s i)else 0)=_;by_cases h2:i<k
     ·rw[if_pos h2,if_pos (by omega)]
     ·rw[if_neg h2,if_neg (by omega)]
   by_cases h0:s k=0
   ·rw[if_pos (by simp[h0])]
    simp only[AJ];rw[Aq (by omega),<-ih]
    congr 1
    rw[<-ec 0 (by unfold PW;rw[if_pos h0]),IY];rw[if_neg (by omega)]
   ·rw[if_neg (by simpa using h0)]
    by_cases h1:s k=c
    ·rw[if_pos (by simp[h1]),QX hlt]
     simp only[AJ];rw[Aq (by omega),show(2:Int)=((2:Nat):Int)from rfl,Wh hlt,ec 2 (by unfold PW;rw[if_neg h0,if_pos h1])];exact ih
    ·rw[if_neg (by simp;omega),QX hlt]
     simp only[AJ];rw[Aq (by omega),show(1:Int)=((1:Nat):Int)from rfl,Wh hlt,ec 1 (by unfold PW;rw[if_neg h0,if_neg h1])];exact ih
  ·rw[if_neg (by rw[OU];simpa using hlt),show k=q by omega]
   congr 1
   exact QY fun i hi=>by rw[if_pos hi]
theorem dV(hF:1000<F){x:Bk}(hvl:VL l)(hv:Lv g l (Mt g l) v)(h40:(Mt g l).length<=40){top h:Nat}(hh:h<l.length)(es:ET F x l=some (⟨some (Eg d g l)⟩,0))(hl:BI F (Eg d g l)=some v)
  (hw:CW F (Eg d g l)=some (TT (Mt g l).length (Uw (LV v) (Bf g l)) (Dw (Mt g l).length top (LV v) (Bf g l)))):
  KP F x l (h:Int)=some (rl (ln l h) (fun p=>PW (cnt g l top v) (MC g l top v h (Mt g l).length p)),0):=by
 have h8:=SL hvl h;have eln:ln l h=l[h].length:=by unfold ln;simp[hh]
 unfold KP;rw[show(⟨x.v⟩:Bk)=x from rfl,es];simp only[Ah,AJ];rw[if_neg (by simp),if_neg (by simp;omega),show CW F (_,_,_)=_ from hw];simp only[AJ];rw[show FL F (_,_,_) _=_ from count_eq hF hv h40 hl];simp only[AJ];rw[Az hh];simp only[AJ];rw[<-eln,dU _ (by omega)];simp only[AJ];have e1:=jq (F:=F) (d:=d) (v:=v) hvl h40 (top:=top) hh F 0 (by omega) (by omega);rw[show((0:Nat):Int)=0 from rfl,show MC g l top v h 0=fun _=>0 from rfl]at e1;rw[show Fb F (h:Int) (Eg d g l) _ F _ 0=_ from e1];simp only[AJ];rw[OU,dU _ (by omega)];simp only[AJ];have e2:=jr (F:=F) (q:=ln l h) (by omega) (c:=cnt g l top v) (s:=MC g l top v h (Mt g l).length) F 0 (by omega) (by omega);rw[show((0:Nat):Int)=0 from rfl]at e2;have e3:(rl (ln l h) fun i=>if i<0 then PW (cnt g l top v) (MC g l top v h (Mt g l).length i)else 0)=rl (ln l h) fun _=>0:=QY fun i _=>by rw[if_neg (by omega)]
 rw[e3]at e2;rw[e2];rfl
end
end
end Wo
end Go.Proofs.YtfmelbioccbdoaaGreat
end
section
namespace Go.Proofs.YtfmelbioccbdoaaGreat
open Go Go.Md Go.RowKit
namespace Jn
section
section
variable {c:BJ}
theorem mI{s:Ap}(h:IsStep c s):Ir (c.1,c.2.1,(c.2.2.1,c.2.2.2)) (s.1,s.2)=some true:=by
 obtain⟨i,h1,p,h2,h3⟩:=h;have hi:=(List.getElem?_eq_some_iff.1 h2).1;unfold Ir;simp only[h1];rw[if_pos (by simp),if_pos (by simpa using hi)];cases hs:s.2 with
 |false=>rfl
 |true=>
  rw[if_neg (by simp),show ix c.1 (i:Int)=some p by simp[ix,h2]];simp only[Ah,AJ];rw[h3 hs]
theorem jw{s:Ap}(hs:IsStep c s):IL (c.1,c.2.1,(c.2.2.1,c.2.2.2)) (s.1,s.2)=some (UJ c s,fin c s):=by
 obtain⟨p,h1,-,-⟩:=hs.ix;unfold IL UJ fin;simp only[h1];cases s.2<;>rfl
theorem tZ(hv:VC c){p q:Ap}(hp:IsStep c p)(hq:IsStep c q):KA (c.1,c.2.1,(c.2.2.1,c.2.2.2)) (p.1,p.2) (q.1,q.2)=some (fit c p q):=by
 have a:=Mg.1 (hp.ok hv).2;have b:=Mg.1 (hq.ok hv).1;unfold KA;simp only;rw[show IL (c.1,c.2.1,c.2.2.1,c.2.2.2) (p.1,p.2)=_ from jw hp,show IL (c.1,c.2.1,c.2.2.1,c.2.2.2) (q.1,q.2)=_ from jw hq];simp only[Ah,AJ];rw[BK (by omega),BK (by omega),BK (by omega)];unfold fit iB;simp only[Bool.and_assoc]
theorem vD{F:Nat}{l:List Ap}(hl:∀s∈l,IsStep c s)(hn:l.length<=8):∀(m k:Nat),k<=l.length->l.length-k<m->EW F c l m (k:Int)=some (.inr ())
 |0,k,_,h=>by omega
 |m+1,k,hk,h=>by
  unfold EW;by_cases hlt:k<l.length
  ·rw[if_pos (by simpa using hlt),Az hlt]
   simp only[Ah,AJ];rw[show Ir (c.1,c.2.1,c.2.2.1,c.2.2.2) (l[k].1,l[k].2)=some true from mI (hl _ (List.getElem_mem hlt))];simp only[AJ];rw[if_neg (by simp),Wo.Aq (by omega),vD hl hn m (k+1) (by omega) (by omega)]
  ·rw[if_neg (by simpa using hlt)]
theorem vE{F:Nat}{l:List Ap}(hd:(l.map (·.1)).Nodup)(hn:l.length<=8){y:Nat}(hy:y<l.length):∀(m k:Nat),k<=y->y-k<m->EX F l (y:Int) m (k:Int)=some (.inr ())
 |0,k,_,h=>by omega
 |m+1,k,hk,h=>by
  unfold EX;by_cases hlt:k<y
  ·rw[if_pos (by simpa using hlt),Az hy,Az (show k<l.length by omega)]
   simp only[Ah,AJ];have hne:l[y].1≠l[k].1:=by
    rw[List.Nodup,List.pairwise_map,List.pairwise_iff_getElem]at hd;exact fun e=>hd k y (by omega) hy hlt e.symm
   rw[if_neg (by simpa using hne),Wo.Aq (by omega),vE hd hn hy m (k+1) (by omega) (by omega)]
  ·rw[if_neg (by simpa using hlt)]
theorem vG{F:Nat}(hF:1000<F){l:List Ap}(hd:(l.map (·.1)).Nodup)(hn:l.length<=8):∀(m k:Nat),k<=l.length->l.length-k<m->EY F l m (k:Int)=some (.inr ())
 |0,k,_,h=>by omega
 |m+1,k,hk,h=>by
  unfold EY;by_cases hlt:k<l.length
  ·have:=vE (F:=F) hd hn hlt F 0 (by omega) (by omega)
   rw[show((0:Nat):Int)=0 from rfl]at this;rw[if_pos (by simpa using hlt),this];simp only[Ah,AJ];rw[Wo.Aq (by omega),vG hF hd hn m (k+1) (by omega) (by omega)]
  ·rw[if_neg (by simpa using hlt)]
theorem vH{F:Nat}(hv:VC c){l:List Ap}(hl:∀s∈l,IsStep c s)(hn:l.length<=8):∀(m k:Nat),1<=k->l.length-k<m->MR c (l.drop (k-1))=true->EZ F c l m (k:Int)=some (.inr ())
 |0,k,_,h,_=>by omega
 |m+1,k,h1,h,hj=>by
  unfold EZ;by_cases hlt:k<l.length
  ·rw[Ze h1 hlt,Bool.and_eq_true]at hj
   rw[if_pos (by simpa using hlt),show AZ ((k:Int)-1)=((k-1:Nat):Int) by rw[BK (by omega)];omega,Az (show k-1<l.length by omega),Az hlt];simp only[Ah,AJ];rw[show KA (c.1,c.2.1,c.2.2.1,c.2.2.2) (l[k-1].1,l[k-1].2) (l[k].1,l[k].2)=_ from tZ hv (hl _ (List.getElem_mem (by omega))) (hl _ (List.getElem_mem hlt)),hj.1];simp only[AJ];rw[if_neg (by simp),Wo.Aq (by omega),vH hv hl hn m (k+1) (by omega) (by omega) (by rw[show k+1-1=k by omega];exact hj.2)]
  ·rw[if_neg (by simpa using hlt)]
theorem iP{F:Nat}(hF:1000<F)(hv:VC c){l:List Ap}(hl:Ord c l)(hj:MR c l=true):Gj F c l=some 0:=by
 have h8:=hv.n8;have hn:=hl.len;unfold Gj;rw[show DL F (c.1,c.2.1,c.2.2.1,c.2.2.2)=_ from Xm hF c,TA.2 hv];simp only[Ah,AJ];rw[if_neg (by simp),if_neg (by simp[hn])];have a1:=vD (F:=F) hl.steps (by omega) F 0 (by omega) (by omega);have a2:=vG hF hl.nodup (by omega) F 0 (by omega) (by omega);have a4:=vH (F:=F) hv hl.steps (by omega) F 1 (by omega) (by omega) (by simpa using hj);rw[show((0:Nat):Int)=0 from rfl]at a1 a2;rw[show((1:Nat):Int)=1 from rfl]at a4;rw[a1];simp only[AJ];rw[a2];simp only[AJ];rw[a4]
 rfl
theorem dW(hv:VC c){t:List Nat}(ht:t∈Jc c):Ord c (LF c t)/\MR c (LF c t)=true:=by
 have g:=KF.1 ht;have hst:∀k∈t,∃h:k<(A7 c).length,(A7 c).getD k default=(A7 c)[k]:=fun k hk=>⟨(g.mem k hk).1,by simp[(g.mem k hk).1]⟩;refine⟨⟨fun s hs=>?_,?_,by unfold LF;rw[List.length_map,g.len]⟩,?_⟩
 ·obtain⟨k,hk,rfl⟩:=List.mem_map.1 hs
  obtain⟨h,e⟩:=hst k hk;rw[e];exact KE.1 (List.getElem_mem h)
 ·have:(LF c t).map (·.1)=(t.map (BG c)).map fun p:Nat=>(p:Int):=by
   unfold LF;rw[List.map_map,List.map_map];refine List.map_congr_left fun k hk=>?_;obtain⟨h,e⟩:=hst k hk;simp only[Function.comp,e];exact(KR hv h).2.1
  rw[this];exact Lx g.nod fun a _ b _ e=>by omega
 ·have key:∀(t:List Nat)(o:Option Nat),KQ (GI c) o t=true->MR c (LF c t)=true:=by
   intro t
   induction t with
   |nil=>intro _ _;rfl
   |cons a t ih=>
    intro o h;unfold KQ at h;rw[Bool.and_eq_true]at h;cases t with
    |nil=>rfl
    |cons b t=>
     have h2:=h.2;unfold KQ at h2;rw[Bool.and_eq_true]at h2;show(fit c _ _&&MR c (LF c (b::t)))=true;rw[ih (some a) h.2,Bool.and_true];exact h2.1
  exact key t none g.seq
end
end
end Jn
end Go.Proofs.YtfmelbioccbdoaaGreat
end
section
namespace Go.Proofs.YtfmelbioccbdoaaGreat
namespace BF
abbrev Rl:=Int×Int×Int×Int
def Jd:Int:=1125899906842624
structure St where
 f:Int->Int
 b:Int->Option Rl
 r:Int->Nat
def up{α:Type}(g:Int->α)(i:Int)(v:α):Int->α:=fun t=>if t=i then v else g t
theorem Dh{α:Type}{g:Int->α}{i:Int}{v:α}:up g i v i=v:=by simp[up]
theorem EJ{α:Type}{g:Int->α}{i t:Int}{v:α}(h:t≠i):up g i v t=g t:=by simp[up,h]
def cnd(f:Int->Int)(p:Rl):Prop:=f p.2.1≠Jd/\f p.2.1+p.2.2.2<f p.2.2.1
instance {f:Int->Int}{p:Rl}:Decidable (cnd f p):=by unfold cnd;infer_instance
def rel(K:Nat)(s:St)(p:Rl):St:=if cnd s.f p then⟨up s.f p.2.2.1 (s.f p.2.1+p.2.2.2),up s.b p.2.2.1 (some p),up s.r p.2.2.1 K⟩else s
def pass(R:List Rl)(K:Nat)(s:St):St:=R.foldl (rel K) s
def start:St:=⟨fun _=>0,fun _=>none,fun _=>0⟩
inductive Back(b:Int->Option Rl):Int->Int->Int->Nat->Prop
 |one {v:Int} {p:Rl} (h:b v=some p):Back b v p.2.1 p.2.2.2 1
 |more {v u c:Int} {n:Nat} {p:Rl} (h:b v=some p) (k:Back b p.2.1 u c n):Back b v u (p.2.2.2+c) (n+1)
theorem Back.snoc{b:Int->Option Rl}{v u c:Int}{n:Nat}(h:Back b v u c n){p:Rl}(hp:b u=some p):Back b v p.2.1 (c+p.2.2.2) (n+1):=by
 induction h with
 |one h=>exact .more h (.one hp)
 |more h k ih=>
  have:=ih hp;rw[Int.add_assoc];exact .more h this
theorem Back.pos{b:Int->Option Rl}{v u c:Int}{n:Nat}(h:Back b v u c n):1<=n:=by cases h<;>omega
theorem Back.start{b:Int->Option Rl}{v u c:Int}{n:Nat}(h:Back b v u c n):∃p,b v=some p:=by cases h<;>exact⟨_,by assumption⟩
structure Inv(N:Int->Prop)(K:Nat)(done left:List Rl)(s:St):Prop where
 i1:∀v,s.b v=none↔s.r v=0
 i2:∀v p,s.b v=some p->p∈done++left/\p.2.2.1=v/\s.f p.2.1+p.2.2.2<=s.f v
 i3:∀v p,s.b v=some p->s.r v<=s.r p.2.1+1
 i4d:∀q∈done,s.r q.2.1+1<=K->s.f q.2.2.1<=s.f q.2.1+q.2.2.2
 i4l:∀q∈left,s.r q.2.1+2<=K->s.f q.2.2.1<=s.f q.2.1+q.2.2.2
 i5:∀v c n,Back s.b v v c n->c<0
 i6:∀v,s.r v<=K
 i7:∀v,s.f v<=0
theorem vI{s:St}{p:Rl}(h:∀v q,s.b v=some q->s.f q.2.1+q.2.2.2<=s.f v)(hne:p.2.1≠p.2.2.1)(hc:cnd s.f p):
  ∀{v u c n},Back (up s.b p.2.2.1 (some p)) v u c n->
   up s.f p.2.2.1 (s.f p.2.1+p.2.2.2) u+c<up s.f p.2.2.1 (s.f p.2.1+p.2.2.2) v\/
   (up s.f p.2.2.1 (s.f p.2.1+p.2.2.2) u+c<=up s.f p.2.2.1 (s.f p.2.1+p.2.2.2) v/\u≠p.2.2.1/\(v≠p.2.2.1->Back s.b v u c n)):=by
 obtain⟨_,hlt⟩:=hc;intro v u c n hb
 induction hb with
 | @one v q hq=>
  by_cases hv:v=p.2.2.1
  ·subst hv
   rw[Dh]at hq;cases hq;refine .inr ⟨?_,hne,fun h=>(h rfl).elim⟩;rw[Dh,EJ hne];exact Int.le_refl _
  ·rw[EJ hv]at hq
   have h2:=h v q hq;rw[EJ hv];by_cases hu:q.2.1=p.2.2.1
   ·left
    rw[hu,Dh];rw[hu]at h2;omega
   ·right
    rw[EJ hu];exact⟨h2,hu,fun _=>.one hq⟩
 | @more v u c n q hq k ih=>
  have step:up s.f p.2.2.1 (s.f p.2.1+p.2.2.2) q.2.1+q.2.2.2<up s.f p.2.2.1 (s.f p.2.1+p.2.2.2) v\/
    (up s.f p.2.2.1 (s.f p.2.1+p.2.2.2) q.2.1+q.2.2.2<=up s.f p.2.2.1 (s.f p.2.1+p.2.2.2) v/\q.2.1≠p.2.2.1):=by
   by_cases hv:v=p.2.2.1
   ·subst hv
    rw[Dh]at hq;cases hq;right;rw[Dh,EJ hne];exact⟨Int.le_refl _,hne⟩
   ·rw[EJ hv]at hq
    have h2:=h v q hq;rw[EJ hv];by_cases hu:q.2.1=p.2.2.1
    ·left
     rw[hu,Dh];rw[hu]at h2;omega
    ·right
     rw[EJ hu];exact⟨h2,hu⟩
  rcases ih with ih|⟨ih1,ih2,ih3⟩
  ·left
   rcases step with h1|⟨h1,_⟩<;>omega
  ·rcases step with h1|⟨h1,h2⟩
   ·left;omega
   ·right
    refine⟨by omega,ih2,fun hv=>?_⟩;rw[EJ hv]at hq;exact .more hq (ih3 h2)
theorem Inv.rel{N:Int->Prop}{K:Nat}{done left:List Rl}{s:St}{p:Rl}(hK:1<=K)(h:Inv N K done (p::left) s)(hne:p.2.1≠p.2.2.1):Inv N K (done++[p]) left (rel K s p):=by
 unfold BF.rel;by_cases hc:cnd s.f p
 ·rw[if_pos hc]
  have hc':=hc;obtain⟨_,hlt⟩:=hc';have hmono:∀v,up s.f p.2.2.1 (s.f p.2.1+p.2.2.2) v<=s.f v:=fun v=>by
   by_cases hv:v=p.2.2.1
   ·subst hv;rw[Dh];omega
   ·rw[EJ hv];exact Int.le_refl _
  have hr:K<=s.r p.2.1+1:=by
   rcases Nat.lt_or_ge (s.r p.2.1+1) K with h'|h'
   ·have:=h.i4l p (by simp) (by omega)
    omega
   ·exact h'
  refine⟨?_,?_,?_,?_,?_,?_,?_,?_⟩
  ·intro v
   by_cases hv:v=p.2.2.1
   ·subst hv;simp only[Dh];constructor
    ·intro h;cases h
    ·intro h;omega
   ·simp only[EJ hv];exact h.i1 v
  ·intro v q hq
   dsimp only at hq⊢;by_cases hv:v=p.2.2.1
   ·subst hv
    rw[Dh]at hq;cases hq;refine⟨by simp,rfl,?_⟩;simp only[Dh,EJ hne];exact Int.le_refl _
   ·rw[EJ hv]at hq
    obtain⟨h1,h2,h3⟩:=h.i2 v q hq;refine⟨by simp only[List.mem_append,List.mem_cons,List.not_mem_nil,or_false]at h1⊢;rcases h1 with h1|h1|h1<;>simp[h1],h2,?_⟩;simp only[EJ hv];have:=hmono q.2.1;omega
  ·intro v q hq
   dsimp only at hq⊢;by_cases hv:v=p.2.2.1
   ·subst hv
    rw[Dh]at hq;cases hq;simp only[Dh,EJ hne];exact hr
   ·rw[EJ hv]at hq
    have h3:=h.i3 v q hq;simp only[EJ hv];by_cases hu:q.2.1=p.2.2.1
    ·rw[hu,Dh]
     have:=h.i6 v;omega
    ·rw[EJ hu];exact h3
  ·intro q hq hrq
   dsimp only at hrq⊢;have hu:q.2.1≠p.2.2.1:=fun e=>by rw[e,Dh]at hrq;omega
   simp only[EJ hu]at hrq⊢;have:=hmono q.2.2.1;rcases List.mem_append.1 hq with hq|hq
   ·have:=h.i4d q hq hrq
    omega
   ·simp only[List.mem_singleton]at hq
    subst hq;rw[Dh];exact Int.le_refl _
  ·intro q hq hrq
   dsimp only at hrq⊢;have hu:q.2.1≠p.2.2.1:=fun e=>by rw[e,Dh]at hrq;omega
   simp only[EJ hu]at hrq⊢;have:=hmono q.2.2.1;have:=h.i4l q (by simp[hq]) hrq;omega
  ·intro v c n hb
   dsimp only at hb;rcases vI (fun v q hq=>(h.i2 v q hq).2.2) hne hc hb with h1|⟨h1,h2,h3⟩
   ·omega
   ·by_cases hv:v=p.2.2.1
    ·exact(h2 hv).elim
    ·exact h.i5 v c n (h3 hv)
  ·intro v
   by_cases hv:v=p.2.2.1
   ·subst hv;simp only[Dh];exact Nat.le_refl _
   ·simp only[EJ hv];exact h.i6 v
  ·intro v
   exact Int.le_trans (hmono v) (h.i7 v)
 ·rw[if_neg hc]
  have hle:s.f p.2.2.1<=s.f p.2.1+p.2.2.2:=by
   have h7:=h.i7 p.2.1;unfold cnd at hc;have:s.f p.2.1≠Jd:=by unfold Jd;omega
   simp only[not_and,Int.not_lt]at hc;exact hc this
  refine⟨h.i1,fun v q hq=>?_,h.i3,fun q hq hrq=>?_,fun q hq=>h.i4l q (by simp[hq]),h.i5,h.i6,h.i7⟩
  ·obtain⟨h1,h2,h3⟩:=h.i2 v q hq
   exact⟨by simp only[List.mem_append,List.mem_cons,List.not_mem_nil,or_false]at h1⊢;rcases h1 with h1|h1|h1<;>simp[h1],h2,h3⟩
  ·rcases List.mem_append.1 hq with hq|hq
   ·exact h.i4d q hq hrq
   ·simp only[List.mem_singleton]at hq
    subst hq;exact hle
theorem Inv.go{N:Int->Prop}{K:Nat}(hK:1<=K):∀(left done:List Rl)(s:St),(∀p∈left,p.2.1≠p.2.2.1)->Inv N K done left s->Inv N K (done++left) [] (left.foldl (BF.rel K) s)
 |[],done,s,_,h=>by simpa using h
 |p::left,done,s,hne,h=>by
  have h1:=h.rel hK (hne p (by simp));have:=Inv.go hK left (done++[p]) _ (fun q hq=>hne q (by simp[hq])) h1;simpa using this
theorem Inv.pass{N:Int->Prop}{K:Nat}{R:List Rl}{s:St}(hne:∀p∈R,p.2.1≠p.2.2.1)(h:Inv N K R [] s):Inv N (K+1) R [] (pass R (K+1) s):=by
 have h0:Inv N (K+1) [] R s:=⟨h.i1,by simpa using h.i2,h.i3,by simp,fun q hq hr=>h.i4d q hq (by omega),h.i5,fun v=>Nat.le_succ_of_le (h.i6 v),h.i7⟩;have:=Inv.go (by omega) R [] s hne h0;simpa[BF.pass]using this
theorem Inv.zero{N:Int->Prop}{R:List Rl}:Inv N 0 R [] start:=by
 refine⟨fun v=>by simp[start],fun v p h=>by simp[start]at h,fun v p h=>by simp[start]at h,fun q _ h=>by omega,by simp,fun v c n h=>?_,fun v=>by simp[start],fun v=>by simp[start]⟩;obtain⟨p,hp⟩:=h.start;simp[start]at hp
def passes(R:List Rl):Nat->St
 |0=>start
 |K+1=>pass R (K+1) (passes R K)
theorem Inv.passes{N:Int->Prop}{R:List Rl}(hne:∀p∈R,p.2.1≠p.2.2.1):∀K,Inv N K R [] (passes R K)
 |0=>Inv.zero
 |K+1=>(Inv.passes hne K).pass hne
end BF
end Go.Proofs.YtfmelbioccbdoaaGreat
end
section
namespace Go.Proofs.YtfmelbioccbdoaaGreat
open Go Go.Md Go.RowKit
open BF (Rl St Back Inv rel pass passes Jd)
def gA(X:Ar 21 Int)(t:Int):Int:=(ix X.l t).getD 0
theorem qG{X:Ar 21 Int}{i v t:Int}(i0:0<=i)(i1:i<=20)(t0:0<=t)(t1:t<=20):gA (Ei X i v) t=if t=i then v else gA X t:=by
 have hX:=X.h;unfold gA ix Ei;simp only[if_pos t0,List.getElem?_set];by_cases h:t=i
 ·subst h
  rw[if_pos rfl,if_pos (by omega),if_pos rfl]
  rfl
 ·rw[if_neg (by omega),if_neg h]
theorem iQ{l:List (Int×Int)}{k v t:Int}:BD 0 (BO l k v) t=if t=k then v else BD 0 l t:=by
 induction l with
 |nil=>
  simp only[BO,BD];by_cases h:t=k
  ·rw[if_pos h,if_pos h.symm]
  ·rw[if_neg h,if_neg (Ne.symm h)]
 |cons p l ih=>
  obtain⟨a,b⟩:=p;simp only[BO];by_cases h:a=k
  ·subst h
   simp only[if_true,BD];by_cases h2:t=a
   ·rw[if_pos h2,if_pos h2.symm]
   ·rw[if_neg h2,if_neg (Ne.symm h2),if_neg (Ne.symm h2)]
  ·simp only[if_neg h,BD,ih]
   by_cases h2:a=t
   ·subst h2;rw[if_pos rfl,if_pos rfl,if_neg h]
   ·rw[if_neg h2,if_neg h2]
structure Rep(X:Ar 21 Int)(l:List (Int×Int))(s:St):Prop where
 f:∀t,0<=t->t<=20->gA X t=s.f t
 b:∀t p,s.b t=some p->BD 0 l t=p.1
def Bd(c:Int)(s:St):Prop:=∀v,-c<=s.f v/\s.f v<=Jd
def dX(T:Int)(r:Int×Int×Int):Prop:=0<=r.1/\r.1<=T/\0<=r.2.1/\r.2.1<=T/\r.1≠r.2.1/\-100000<=r.2.2/\r.2.2<=100000
theorem Rep.step{X:Ar 21 Int}{l:List (Int×Int)}{s:St}{K:Nat}{c T:Int}{p:Rl}(h:Rep X l s)(hb:Bd c s)(hc:c<=1152921504606846976)(hT:T<=20)(hp:dX T p.2):
  Rep (YX (X,l) p).1 (YX (X,l) p).2 (rel K s p):=by
 obtain⟨h1,h2,h3,h4,h5,h6,h7⟩:=hp;have ea:(ix X.l p.2.1).getD 0=s.f p.2.1:=h.f _ h1 (by omega);have eb:(ix X.l p.2.2.1).getD 0=s.f p.2.2.1:=h.f _ h3 (by omega);have hf:=hb p.2.1;have hw:AZ (s.f p.2.1+p.2.2.2)=s.f p.2.1+p.2.2.2:=BK (by unfold Jd at hf;omega);unfold YX rel;simp only[ea,eb,hw];by_cases hcn:BF.cnd s.f p
 ·have hcn':=hcn
  obtain⟨c1,c2⟩:=hcn';rw[if_pos hcn,if_pos (by unfold Jd at c1;simp[c1];omega)];refine⟨fun t t0 t1=>?_,fun t q hq=>?_⟩
  ·rw[qG h3 (by omega) t0 t1]
   simp only[BF.up];split
   ·rfl
   ·exact h.f t t0 t1
  ·simp only[BF.up]at hq
   rw[iQ];split
   ·rename_i e
    rw[if_pos e]at hq;cases hq
    rfl
   ·rename_i e
    rw[if_neg e]at hq;exact h.b t q hq
 ·rw[if_neg hcn,if_neg]
  ·exact h
  ·unfold BF.cnd Jd at hcn
   simp only[Bool.and_eq_true,Bool.not_eq_true',decide_eq_false_iff_not,not_and];intro a1 a2;exact hcn ⟨a1,by omega⟩
theorem Bd.rel{c:Int}{s:St}{K:Nat}{p:Rl}(h:Bd c s)(hc:0<=c)(hm:-100000<=p.2.2.2):Bd (c+100000) (rel K s p):=by
 intro v;have h1:=h v;have h2:=h p.2.1;have h3:=h p.2.2.1;unfold BF.rel;by_cases hcn:BF.cnd s.f p
 ·rw[if_pos hcn]
  simp only[BF.up];have:=hcn.2;split<;>omega
 ·rw[if_neg hcn]
  omega
theorem Q8{x:Int×List (Int×Int×Int)}(h:JE x=0):∀r∈Gl x,dX x.1 r:=by
 obtain⟨_,h2,h3,h4⟩:=bW h;intro r hr;rcases List.mem_append.1 hr with hr|hr
 ·have:=h4 r hr
  simp only[V9,UH,Bool.and_eq_true,decide_eq_true_eq,Bool.not_eq_true',decide_eq_false_iff_not]at this;obtain⟨⟨⟨⟨a,b⟩,c,d⟩,e⟩,f,g⟩:=this;exact⟨a,b,c,d,e,f,g⟩
 ·obtain⟨t,ht,hr⟩:=List.mem_flatMap.1 hr
  have ht:=List.mem_range.1 ht;simp only[List.mem_cons,List.not_mem_nil,or_false]at hr;rcases hr with rfl|rfl
  ·unfold dX;simp only;omega
  ·unfold dX;simp only;omega
theorem dY{l:List (Int×Int×Int)}{p:Rl}(h:p∈en l):p.2∈l/\ix l p.1=some p.2/\0<=p.1/\p.1<l.length:=by
 obtain⟨i,hi,e⟩:=List.getElem_of_mem h;rw[nK]at hi;have h1:(en l)[i]?=some p:=by rw[<-e];exact List.getElem?_eq_getElem _
 rw[en_get,List.getElem?_eq_getElem hi]at h1;simp only[Option.map_some,Option.some.injEq]at h1;subst h1;exact⟨List.getElem_mem hi,Az hi,by simp,by simpa using hi⟩
def Rs(x:Int×List (Int×Int×Int)):List Rl:=en (Gl x)
theorem tu{x:Int×List (Int×Int×Int)}(h:JE x=0):∀p∈Rs x,dX x.1 p.2:=fun p hp=>Q8 h _ (dY hp).1
theorem uD{x:Int×List (Int×Int×Int)}(h:JE x=0):∀p∈Rs x,p.2.1≠p.2.2.1:=fun p hp=>(tu h p hp).2.2.2.2.1
def jy(x:Int×List (Int×Int×Int)):Prop:=∃p:Int->Int,∀r∈Gl x,p r.2.1<=p r.1+r.2.2

end Go.Proofs.YtfmelbioccbdoaaGreat
end
section
namespace Go.Proofs.YtfmelbioccbdoaaGreat
open Go Go.Md Go.RowKit
section
abbrev RR:=Int×Int×Int
section
variable {F:Nat}{all:List RR}{Dx:List Int}
section
variable {x:Int×List RR}
end
end
end
end Go.Proofs.YtfmelbioccbdoaaGreat
end
section
namespace Go.Proofs.YtfmelbioccbdoaaGreat
open Go Go.Md Go.RowKit
open BF (Rl St Back rel pass Jd)
inductive PC(R:List RR)(a:Int):Int->Int->Prop
 |nil:PC R a a 0
 |snoc {u c:Int} {r:RR} (h:PC R a u c) (hr:r∈R) (hu:r.1=u):PC R a r.2.1 (c+r.2.2)
theorem PC.trans{R:List RR}{a b t c d:Int}(h:PC R a b c)(k:PC R b t d):PC R a t (c+d):=by
 induction k with
 |nil=>simpa using h
 |snoc _ hr hu ih=>rw[<-Int.add_assoc];exact .snoc ih hr hu
theorem PC.one{R:List RR}{r:RR}(hr:r∈R):PC R r.1 r.2.1 r.2.2:=by
 have:=PC.snoc (PC.nil (R:=R) (a:=r.1)) hr rfl;simpa using this
theorem PC.pot{R:List RR}{p:Int->Int}(hp:∀r∈R,p r.2.1<=p r.1+r.2.2){a t c:Int}(h:PC R a t c):p t<=p a+c:=by
 induction h with
 |nil=>omega
 |snoc _ hr hu ih=>
  have:=hp _ hr;rw[hu]at this;omega
theorem PC.node{x:Int×List RR}(h:JE x=0){a t c:Int}(a0:0<=a)(a1:a<=x.1)(hp:PC (Gl x) a t c):0<=t/\t<=x.1:=by
 cases hp with
 |nil=>exact⟨a0,a1⟩
 |snoc _ hr _=>exact⟨(Q8 h _ hr).2.2.1,(Q8 h _ hr).2.2.2.1⟩
theorem PO{x:Int×List RR}{t:Int}(t0:1<=t)(t1:t<=x.1):(0,t,100000)∈Gl x/\(t,0,0)∈Gl x:=by
 have h:∀r,r=(0,t,(100000:Int))\/r=(t,0,0)->r∈Gl x:=fun r hr=>by
  refine List.mem_append.2 (.inr (List.mem_flatMap.2 ⟨(t-1).toNat,List.mem_range.2 (by omega),?_⟩));have:(((t-1).toNat:Nat):Int)+1=t:=by omega
  simp only[this,List.mem_cons,List.not_mem_nil,or_false];exact hr
 exact⟨h _ (.inl rfl),h _ (.inr rfl)⟩
theorem PC.any{x:Int×List RR}{a t:Int}(a0:0<=a)(a1:a<=x.1)(t0:0<=t)(t1:t<=x.1):∃c,PC (Gl x) a t c/\c<=100000:=by
 have h1:∃c,PC (Gl x) a 0 c/\c<=0:=by
  by_cases h:a=0
  ·subst h;exact⟨0,.nil,by omega⟩
  ·exact⟨0,PC.one (r:=(a,0,0)) (PO (by omega) a1).2,by omega⟩
 obtain⟨c,h2,h3⟩:=h1;by_cases h:t=0
 ·subst h;exact⟨c,h2,by omega⟩
 ·exact⟨c+100000,h2.trans (PC.one (r:=(0,t,100000)) (PO (by omega) t1).1),by omega⟩
theorem PC.low{x:Int×List RR}(h:JE x=0)(hP:jy x){a t c:Int}(a0:0<=a)(a1:a<=x.1)(hp:PC (Gl x) a t c):-100000<=c:=by
 obtain⟨p,hpp⟩:=hP;obtain⟨t0,t1⟩:=hp.node h a0 a1;obtain⟨d,h1,h2⟩:=PC.any (x:=x) t0 t1 a0 a1;have:=(hp.trans h1).pot hpp;omega
structure Jv(x:Int×List RR)(a:Int)(s:St):Prop where
 j1:∀v,s.f v=Jd\/PC (Gl x) a v (s.f v)
 j2:∀v q,s.b v=some q->q∈Rs x/\q.2.2.1=v/\s.f q.2.1+q.2.2.2<=s.f v/\s.f q.2.1≠Jd
 j3:∀v c n,Back s.b v v c n->c<0
 j4:∀v,v≠a->s.f v≠Jd->s.b v≠none
 j5:s.f a<=0
 j6:∀v,s.f v<=Jd
theorem Jv.bd{x:Int×List RR}(h:JE x=0)(hP:jy x){a:Int}(a0:0<=a)(a1:a<=x.1){s:St}(hj:Jv x a s):Bd 100000 s:=by
 intro v;rcases hj.j1 v with h1|h1
 ·rw[h1];unfold Jd;omega
 ·exact⟨h1.low h hP a0 a1,hj.j6 v⟩
theorem Jv.rel{x:Int×List RR}(h:JE x=0){a:Int}{s:St}{K:Nat}{p:Rl}(hp:p∈Rs x)(hj:Jv x a s):Jv x a (BF.rel K s p):=by
 unfold BF.rel;by_cases hc:BF.cnd s.f p
 ·rw[if_pos hc]
  have hne:=uD h p hp;obtain⟨c1,c2⟩:=hc;have hpc:PC (Gl x) a p.2.2.1 (s.f p.2.1+p.2.2.2):=by
   rcases hj.j1 p.2.1 with h1|h1
   ·exact(c1 h1).elim
   ·exact .snoc h1 (dY hp).1 rfl
  have hmono:∀v,BF.up s.f p.2.2.1 (s.f p.2.1+p.2.2.2) v<=s.f v:=fun v=>by
   by_cases hv:v=p.2.2.1
   ·subst hv;rw[BF.Dh];omega
   ·rw[BF.EJ hv];exact Int.le_refl _
  refine⟨fun v=>?_,fun v q hq=>?_,fun v c n hb=>?_,fun v hv hf=>?_,?_,fun v=>?_⟩
  ·dsimp only
   by_cases hv:v=p.2.2.1
   ·subst hv;rw[BF.Dh];exact .inr hpc
   ·rw[BF.EJ hv];exact hj.j1 v
  ·dsimp only at hq⊢
   by_cases hv:v=p.2.2.1
   ·subst hv
    rw[BF.Dh]at hq;cases hq;rw[BF.Dh,BF.EJ hne];exact⟨hp,rfl,Int.le_refl _,c1⟩
   ·rw[BF.EJ hv]at hq
    obtain⟨h1,h2,h3,h4⟩:=hj.j2 v q hq;rw[BF.EJ hv];refine⟨h1,h2,by have:=hmono q.2.1;omega,?_⟩;by_cases hu:q.2.1=p.2.2.1
    ·rw[hu,BF.Dh]
     have:=hj.j6 p.2.2.1;omega
    ·rw[BF.EJ hu];exact h4
  ·dsimp only at hb
   rcases BF.vI (fun v q hq=>(hj.j2 v q hq).2.2.1) hne ⟨c1,c2⟩ hb with h1|⟨_,h2,h3⟩
   ·omega
   ·by_cases hv:v=p.2.2.1
    ·exact(h2 hv).elim
    ·exact hj.j3 v c n (h3 hv)
  ·dsimp only at hf⊢
   by_cases hv2:v=p.2.2.1
   ·subst hv2;rw[BF.Dh];simp
   ·rw[BF.EJ hv2]at hf⊢
    exact hj.j4 v hv hf
  ·have:=hmono a
   have:=hj.j5;dsimp only;omega
  ·have:=hmono v
   have:=hj.j6 v;dsimp only;omega
 ·rw[if_neg hc]
  exact hj
structure FinS(x:Int×List RR)(a:Int)(X:Ar 21 Int)(l:List (Int×Int))(s:St):Prop where
 rep:Rep X l s
 jv:Jv x a s
 fix:∀p∈Rs x,¬BF.cnd s.f p
theorem FinS.le{x:Int×List RR}(h:JE x=0){a:Int}{X:Ar 21 Int}{l:List (Int×Int)}{s:St}(hf:FinS x a X l s)(a0:0<=a)(a1:a<=x.1){t c:Int}(hp:PC (Gl x) a t c):s.f t<=c/\s.f t<Jd:=by
 have key:∀{u c:Int},PC (Gl x) a u c->s.f u<Jd->∀r∈Gl x,r.1=u->s.f r.2.1<=s.f u+r.2.2:=by
  intro u c _ hlt r hr hu;obtain⟨i,hi,e⟩:=List.getElem_of_mem hr;have hm:((i:Int),r)∈Rs x:=by
   have:(en (Gl x))[i]?=some ((i:Int),r):=by rw[en_get,List.getElem?_eq_getElem hi,e];rfl
   exact List.mem_of_getElem? this
  have:=hf.fix _ hm;unfold BF.cnd at this;simp only[not_and,Int.not_lt]at this;rw[<-hu]at hlt⊢;exact this (by omega)
 have h5:=hf.jv.j5;have fin0:s.f 0<=0:=by
  by_cases e:a=0
  ·rw[e]at h5;exact h5
  ·have:=key (PC.nil) (by unfold Jd;omega) (a,0,0) (PO (by omega) a1).2 rfl
   simp only at this;omega
 have fin:∀u,0<=u->u<=x.1->s.f u<Jd:=fun u u0 u1=>by
  by_cases e:u=0
  ·subst e;unfold Jd;omega
  ·obtain⟨c0,hc0,_⟩:=PC.any (x:=x) (a:=a) (t:=0) a0 a1 (by omega) (by omega)
   have:=key hc0 (by unfold Jd;omega) (0,u,100000) (PO (by omega) u1).1 rfl;simp only at this;unfold Jd;omega
 have hn:=hp.node h a0 a1;refine⟨?_,fin t hn.1 hn.2⟩;clear hn
 induction hp with
 |nil=>exact h5
 | @snoc u c r hpu hr hu ih=>
  have hnu:=hpu.node h a0 a1;have:=key hpu (fin u hnu.1 hnu.2) r hr hu;omega
section
section
variable {x:Int×List RR}{a t u:Int}{F:Nat}
end
end
end Go.Proofs.YtfmelbioccbdoaaGreat
end
section
namespace Go.Proofs.YtfmelbioccbdoaaGreat
open Go Go.Md Go.RowKit
abbrev FF:Nat:=100000000000000000
end Go.Proofs.YtfmelbioccbdoaaGreat
end
section
namespace Go.Proofs.YtfmelbioccbdoaaGreat
namespace FW
section
def NV:Int:=1099511627776
abbrev Mx:=Int->Int->Int
def mm(c s:Int):Int:=if(if s<c then s else c)> -NV then(if s<c then s else c)else-NV
def nw(g:Mx)(h i k:Int):Int:=if g i h<NV/\g h k<NV then mm (g i k) (g i h+g h k)else g i k
def up1(h i k:Int)(g:Mx):Mx:=fun i' k'=>if i'=i/\k'=k then nw g h i k else g i' k'
def Z4(h i:Int)(ks:List Int)(g:Mx):Mx:=ks.foldl (fun g k=>up1 h i k g) g
def vJ(h:Int)(ns is:List Int)(g:Mx):Mx:=is.foldl (fun g i=>Z4 h i ns g) g
def vK(ns hs:List Int)(g:Mx):Mx:=hs.foldl (fun g h=>vJ h ns ns g) g
def Rg(g:Mx):Prop:=∀i k,-NV<=g i k/\g i k<=NV
section
variable {g:Mx}{h:Int}
theorem qH(hg:Rg g)(h0:g h h=0)(i:Int):nw g h i h=g i h:=by
 unfold nw mm;have:=hg i h;rw[h0];split
 ·split<;>split<;>omega
 ·rfl
theorem qI(hg:Rg g)(h0:g h h=0)(k:Int):nw g h h k=g h k:=by
 unfold nw mm;have:=hg h k;rw[h0];split
 ·split<;>split<;>omega
 ·rfl
def Part(g:Mx)(h:Int)(P:Int->Int->Prop)(g':Mx):Prop:=∀i k,(P i k->g' i k=nw g h i k)/\(¬P i k->g' i k=g i k)
theorem Part.fix(hg:Rg g)(h0:g h h=0){P:Int->Int->Prop}{g':Mx}(hp:Part g h P g'):(∀i,g' i h=g i h)/\∀k,g' h k=g h k:=by
 refine⟨fun i=>?_,fun k=>?_⟩
 ·by_cases hc:P i h
  ·rw[(hp i h).1 hc,qH hg h0]
  ·exact(hp i h).2 hc
 ·by_cases hc:P h k
  ·rw[(hp h k).1 hc,qI hg h0]
  ·exact(hp h k).2 hc
theorem Part.up1(hg:Rg g)(h0:g h h=0){P:Int->Int->Prop}{g':Mx}(hp:Part g h P g'){i k:Int}(hn:¬P i k):Part g h (fun a b=>P a b\/(a=i/\b=k)) (up1 h i k g'):=by
 obtain⟨h1,h2⟩:=hp.fix hg h0;have e:nw g' h i k=nw g h i k:=by
  unfold nw;rw[h1 i,h2 k,(hp i k).2 hn]
 intro a b;unfold FW.up1;by_cases hab:a=i/\b=k
 ·rw[if_pos hab]
  refine⟨fun _=>by rw[e,hab.1,hab.2],fun hno=>(hno (.inr hab)).elim⟩
 ·rw[if_neg hab]
  refine⟨fun hc=>?_,fun hc=>(hp a b).2 fun hc2=>hc (.inl hc2)⟩;rcases hc with hc|hc
  ·exact(hp a b).1 hc
  ·exact(hab hc).elim
theorem Part.row(hg:Rg g)(h0:g h h=0){i:Int}:∀(ks:List Int)(P:Int->Int->Prop)(g':Mx),ks.Nodup->(∀k∈ks,¬P i k)->Part g h P g'->Part g h (fun a b=>P a b\/(a=i/\b∈ks)) (Z4 h i ks g')
 |[],P,g',_,_,hp=>by simpa[Z4]using hp
 |k::ks,P,g',hn,hk,hp=>by
  simp only[List.nodup_cons]at hn;have h1:=hp.up1 hg h0 (hk k (by simp));have h2:=Part.row hg h0 ks _ _ hn.2 (fun q hq hc=>by
   rcases hc with hc|⟨_,hc⟩
   ·exact hk q (by simp[hq]) hc
   ·exact hn.1 (hc▸hq)) h1
  have e:(fun a b=>(P a b\/(a=i/\b=k))\/(a=i/\b∈ks))=fun a b=>P a b\/(a=i/\b∈k::ks):=by
   funext a b
   simp only[List.mem_cons,eq_iff_iff];constructor
   ·rintro((h|⟨h1,h2⟩)|⟨h1,h2⟩)
    ·exact .inl h
    ·exact .inr ⟨h1,.inl h2⟩
    ·exact .inr ⟨h1,.inr h2⟩
   ·rintro(h|⟨h1,h2|h2⟩)
    ·exact .inl (.inl h)
    ·exact .inl (.inr ⟨h1,h2⟩)
    ·exact .inr ⟨h1,h2⟩
  rw[e]at h2;exact h2
end
inductive PI(R:List RR)(m a:Int):Int->Int->Prop
 |one {r:RR} (hr:r∈R) (ha:r.1=a):PI R m a r.2.1 r.2.2
 |snoc {u c:Int} {r:RR} (h:PI R m a u c) (hu:u<m) (hr:r∈R) (he:r.1=u):PI R m a r.2.1 (c+r.2.2)
theorem PI.split{R:List RR}{m a:Int}(hloop:∀c,PI R m m m c->0<=c){t c:Int}(h:PI R (m+1) a t c):PI R m a t c\/∃c1 c2,PI R m a m c1/\PI R m m t c2/\c1+c2<=c:=by
 induction h with
 |one hr ha=>exact .inl (.one hr ha)
 | @snoc u c r h hu hr he ih=>
  by_cases hum:u=m
  ·subst hum
   rcases ih with ih|⟨c1,c2,h1,h2,h3⟩
   ·exact .inr ⟨c,r.2.2,ih,.one hr he,Int.le_refl _⟩
   ·have:=hloop c2 h2
    exact .inr ⟨c1,r.2.2,h1,.one hr he,by omega⟩
  ·have hum:u<m:=by omega
   rcases ih with ih|⟨c1,c2,h1,h2,h3⟩
   ·exact .inl (.snoc ih hum hr he)
   ·exact .inr ⟨c1,c2+r.2.2,h1,.snoc h2 hum hr he,by omega⟩
def In(n:Int)(i:Int):Prop:=0<=i/\i<n
structure Ok(R:List RR)(n m b:Int)(g:Mx):Prop where
 rg:Rg g
 dg:∀i,In n i->g i i=0
 bd:∀i k,In n i->In n k->g i k=NV\/(-b<=g i k/\g i k<=b)
 un:∀a t c,In n a->In n t->PI R m a t c->g a t<=c/\g a t<NV
 so:∀i k,In n i->In n k->g i k=NV\/PC R i k (g i k)
def So(x:Int×List RR)(g:Mx):Prop:=∀i k,(0<=i/\i<=x.1)->(0<=k/\k<=x.1)->g i k=NV\/PC (Gl x) i k (g i k)
theorem So.up1{x:Int×List RR}(hx:JE x=0)(hP:jy x){g:Mx}(h:So x g){q i k:Int}(hq:0<=q/\q<=x.1)(hi:0<=i/\i<=x.1)(hk:0<=k/\k<=x.1):So x (up1 q i k g):=by
 intro a b ha hb;unfold FW.up1;split
 ·rename_i e
  rw[e.1,e.2];unfold nw;split
  ·rename_i hlt
   have s1:PC (Gl x) i q (g i q):=by
    rcases h i q hi hq with s|s
    ·omega
    ·exact s
   have s2:PC (Gl x) q k (g q k):=by
    rcases h q k hq hk with s|s
    ·omega
    ·exact s
   have s3:=s1.trans s2;have l3:=s3.low hx hP hi.1 hi.2;unfold mm;by_cases hc:g i q+g q k<g i k
   ·rw[if_pos hc,if_pos (by unfold NV;omega)]
    exact .inr s3
   ·rw[if_neg hc]
    rcases h i k hi hk with s|s
    ·rw[s,if_pos (by unfold NV;omega)]
     exact .inl rfl
    ·have:=s.low hx hP hi.1 hi.2
     rw[if_pos (by unfold NV;omega)];exact .inr s
  ·exact h i k hi hk
 ·exact h a b ha hb
theorem So.all{x:Int×List RR}(hx:JE x=0)(hP:jy x){ns:List Int}(hm:∀i∈ns,0<=i/\i<=x.1){g:Mx}(h:So x g):So x (vK ns ns g):=by
 have key:∀{β:Type}{step:Mx->β->Mx}(l:List β),(∀g,∀b∈l,So x g->So x (step g b))->∀g,So x g->So x (l.foldl step g):=by
  intro β step l
  induction l with
  |nil=>intro _ g hg;exact hg
  |cons b l ih=>
   intro hs g hg;exact ih (fun g c hc=>hs g c (by simp[hc])) _ (hs g b (by simp) hg)
 refine key ns (fun g q hq hg=>?_) g h;refine key ns (fun g i hi hg=>?_) g hg;exact key ns (fun g k hk hg=>hg.up1 hx hP (hm q hq) (hm i hi) (hm k hk)) g hg
end
end FW
end Go.Proofs.YtfmelbioccbdoaaGreat
end
section
namespace Go.Proofs.YtfmelbioccbdoaaGreat
open Go Go.Md Go.RowKit
open FW (Mx up1 Z4 vJ vK nw Rg In Ok So)
section
structure RepM(n:Nat)(M:List (List Int))(g:Mx):Prop where
 len:M.length=n
 row:∀i:Nat,i<n->∃r,M[i]?=some r/\r.length=n/\∀k:Nat,k<n->r[k]?=some (g i k)
theorem RepM.at{n:Nat}{M:List (List Int)}{g:Mx}(h:RepM n M g){i:Int}(i0:0<=i)(i1:i<n):∃r,ix M i=some r/\r.length=n/\∀k:Int,0<=k->k<n->ix r k=some (g i k):=by
 obtain⟨r,h1,h2,h3⟩:=h.row i.toNat (by omega);refine⟨r,by unfold ix;rw[if_pos i0];exact h1,h2,fun k k0 k1=>?_⟩;unfold ix;rw[if_pos k0,h3 k.toNat (by omega)];have e1:((i.toNat:Nat):Int)=i:=by omega
 have e2:((k.toNat:Nat):Int)=k:=by omega
 rw[e1,e2]
section
variable {n:Nat}{F:Nat}
def g0:Mx:=fun i k=>if i=k then 0 else FW.NV
end
section
variable {x:Int×List RR}{F:Nat}
end
end
end Go.Proofs.YtfmelbioccbdoaaGreat
end
section
namespace Go.Proofs.YtfmelbioccbdoaaGreat
open Go Go.Md Go.RowKit
open BF (Rl St Back rel pass Jd)
section
section
variable {x:Int×List RR}{F:Nat}{a b t:Int}
end
end
end Go.Proofs.YtfmelbioccbdoaaGreat
end
section
namespace Go.Proofs.YtfmelbioccbdoaaGreat
open Go Go.Md Go.RowKit
open BF (Rl St Back)
section
section
variable {x:Int×List RR}{a b t:Int}{Dx:List Int}{F:Nat}
end
end
end Go.Proofs.YtfmelbioccbdoaaGreat
end
section
namespace Go.Proofs.YtfmelbioccbdoaaGreat
open Go Go.Md Go.RowKit
section
section
variable {x:Int×List RR}{F:Nat}{a b t:Int}
end
end
section
section
variable {x:Int×List RR}{F:Nat}{a b t:Int}
theorem TY{u n:Int}(hu:0<=u)(hn:0<n):0<=u.tmod n/\u.tmod n<n:=⟨Int.tmod_nonneg _ hu,Int.tmod_lt_of_pos _ hn⟩
theorem dh{u n:Int}(hn:0<n):rem u n=some (u.tmod n):=by unfold rem;rw[if_neg (by omega)]
end
end
end Go.Proofs.YtfmelbioccbdoaaGreat
end
section
namespace Go.Proofs.YtfmelbioccbdoaaGreat
open Go Go.Md Go.RowKit
namespace L4
open Wo
section
theorem mK:JM FF=some true:=rfl
section
variable {l:List (List Int)}{g:Tp}
end
end
end L4
end Go.Proofs.YtfmelbioccbdoaaGreat
end
section
namespace Go.Proofs.YtfmelbioccbdoaaGreat
open Go Go.Md Go.RowKit
namespace L4
open Wo Jn
section
theorem di(c:BJ):(Ff FF c=some true/\VC c)\/Ff FF c=some false:=by
 unfold Ff;have ex:(c.1,c.2.1,(c.2.2.1,c.2.2.2))=c:=rfl;rw[ex,Xm (by decide)];by_cases h:VC c
 ·left
  have h8:=h.n8;have e:decide ((c.1.length:Int)<=20)=true:=by simp;omega
  rw[e,TA.2 h];exact⟨rfl,h⟩
 ·right
  have e2:decide (WA c=0)=false:=decide_eq_false fun e=>h (TA.1 e);cases decide ((c.1.length:Int)<=20)with
  |false=>rfl
  |true=>
   simp only[gd,cond_true,Ah,AJ,e2];rfl
def wo(s:Ap):Int:=2*s.1+1+if s.2=true then 1 else 0
theorem qJ{s t:Ap}(h:wo s=wo t):s=t:=by
 unfold wo at h;obtain⟨a,b⟩:=s;obtain⟨a',b'⟩:=t;cases b<;>cases b'<;>simp at h⊢<;>omega
theorem X6{l:List Ap}(hl:l.length<=100)(hb:∀s∈l,0<=s.1/\s.1<=1000):KD FF l=some (l.map wo):=by
 have key:∀(m k:Nat),k<=l.length->l.length-k<m->Gp FF l m ((l.take k).map wo) (k:Int)=some (l.map wo):=by
  intro m
  induction m with
  |zero=>intro k _ h;omega
  |succ m ih=>
   intro k hk h;unfold Gp;by_cases hlt:k<l.length
   ·have b:=hb _ (List.getElem_mem hlt)
    rw[if_pos (by simpa using hlt),Az hlt];simp only[Ah,AJ];have e:(if l[k].2=true then some (AZ (AZ (AZ (2*l[k].1)+1)+1))else some (AZ (AZ (2*l[k].1)+1)))=some (wo l[k]):=by
     unfold wo;rw[BK (n:=2*l[k].1) (by omega),BK (n:=2*l[k].1+1) (by omega)];cases l[k].2 with
     |true=>rw[if_pos rfl,if_pos rfl,BK (by omega)]
     |false=>rw[if_neg (by simp),if_neg (by simp)];simp
    rw[e];simp only[AJ];rw[GQ (by simp;omega)];simp only[AJ];rw[Aq (by omega),<-ih (k+1) (by omega) (by omega),List.take_succ_eq_append_getElem hlt,List.map_append]
    rfl
   ·rw[if_neg (by simpa using hlt),List.take_of_length_le (by omega)]
 unfold KD;have:=key FF 0 (by omega) (Nat.lt_of_le_of_lt (show _<=100 by omega) (by decide));rw[show((0:Nat):Int)=0 from rfl,List.take_zero,List.map_nil]at this;rw[this];rfl
section
variable {c:BJ}
def lin(c:BJ)(t:List Nat):List Int:=(LF c t).map wo
theorem Jt(hv:VC c){t:List Nat}(ht:t∈Jc c):(lin c t).length=c.1.length/\(lin c t).Nodup/\∀n∈lin c t,wd n=true:=by
 obtain⟨ho,_⟩:=dW hv ht;refine⟨by unfold lin;rw[List.length_map,ho.len],?_,fun n hn=>?_⟩
 ·unfold lin
  refine Lx ?_ fun a _ b _ e=>qJ e;have:=ho.nodup;rw[List.Nodup,List.pairwise_map]at this;exact this.imp fun h e=>h (by rw[e])
 ·obtain⟨s,hs,rfl⟩:=List.mem_map.1 hn
  obtain⟨i,h1,p,h2,_⟩:=ho.steps s hs;have hi:=(List.getElem?_eq_some_iff.1 h2).1;have:=hv.n8;unfold wd wo;cases s.2<;>simp<;>omega
theorem Wl(hv:VC c){s:Ap}(hs:IsStep c s):0<=s.1/\s.1<=1000:=by
 obtain⟨i,h1,p,h2,_⟩:=hs;have hi:=(List.getElem?_eq_some_iff.1 h2).1;have:=hv.n8;omega
def nm(c:BJ)(x:Ar 4 (KI .u32))(i:Nat):Nat:=(((x.l.getD i ⟨0⟩).v).tmod ((Jc c).length:Int)).toNat
def tj(c:BJ)(x:Ar 4 (KI .u32))(i:Nat):List Nat:=(Jc c).getD (nm c x i) []
theorem Z5(hJ:0<(Jc c).length){x:Ar 4 (KI .u32)}(hx:∀y∈x.l,0<=y.v/\y.v<=4294967295){i:Nat}(hi:i<4):∃y,ix x.l (i:Int)=some y/\rem (AZ y.v) ((Jc c).length:Int)=some ((nm c x i:Nat):Int)/\(Jc c)[nm c x i]?=some (tj c x i):=by
 have hlen:=x.h;have hil:i<x.l.length:=by omega
 have hy:=hx _ (List.getElem_mem hil);have t:=TY (u:=x.l[i].v) (n:=((Jc c).length:Int)) hy.1 (by omega);have e:((nm c x i:Nat):Int)=(x.l[i].v).tmod ((Jc c).length:Int):=by unfold nm;simp[hil];omega
 have hlt:nm c x i<(Jc c).length:=by omega
 refine⟨_,Az hil,?_,?_⟩
 ·rw[BK (by omega),dh (by omega),e]
 ·unfold tj;rw[List.getElem?_eq_getElem hlt];simp[hlt]
theorem dm(hv:VC c)(hJ:0<(Jc c).length){x:Ar 4 (KI .u32)}(hx:∀y∈x.l,0<=y.v/\y.v<=4294967295){many:Int}{k:Nat}(hk:AZ (2+Int.tmod (AZ many) 3)=(k:Int))(hk4:k<=4):∀(m i:Nat)(b:Bool),i<=k->k-i<m->(b=true↔∀j,j<i->nm c x j=nm c x 0)->
  ∃b',Da FF c x many (((Jc c).length:Int),0) m ((List.range i).map fun j=>lin c (tj c x j)) b (i:Int)=some (.inr ((List.range k).map fun j=>lin c (tj c x j),b'))/\(b'=true↔∀j,j<k->nm c x j=nm c x 0)
 |0,i,_,_,h,_=>by omega
 |m+1,i,b,hi,h,hb=>by
  unfold Da;rw[hk];by_cases hlt:i<k
  ·obtain⟨y,e1,e2,e3⟩:=Z5 hJ hx (show i<4 by omega)
   obtain⟨y0,f1,f2,_⟩:=Z5 hJ hx (show 0<4 by omega);obtain⟨ho,hj⟩:=dW hv (List.mem_of_getElem? e3);have h8:=hv.n8;have hle:=jZ hv;rw[if_pos (by simpa using hlt),e1];simp only[Ah,AJ];rw[e2];simp only[AJ];rw[show LY FF (c.1,c.2.1,(c.2.2.1,c.2.2.2)) ((nm c x i:Nat):Int)=_ from pG (by decide) hv e3];simp only[AJ,decide_true,Bool.not_true,Bool.not_false,gd,cond_true];rw[show Gj FF (c.1,c.2.1,(c.2.2.1,c.2.2.2)) (LF c (tj c x i))=some 0 from iP (by decide) hv ho hj];simp only[AJ];rw[if_neg (by simp),X6 (by rw[ho.len];omega) (fun s hs=>Wl hv (ho.steps s hs))];simp only[AJ];rw[GQ (by simp;omega)];simp only[AJ];have eb:∃b',(if b=true then some (decide (((nm c x i:Nat):Int)=((nm c x 0:Nat):Int)))else some false)=some b'/\(b'=true↔∀j,j<i+1->nm c x j=nm c x 0):=by
    cases hbv:b with
    |true=>
     refine⟨_,rfl,?_⟩;rw[decide_eq_true_eq];have:=hb.1 hbv;constructor
     ·intro e j hj
      by_cases ej:j=i
      ·subst ej;omega
      ·exact this j (by omega)
     ·intro e;rw[e i (by omega)]
    |false=>
     refine⟨false,rfl,(fun h=>by cases h),fun e=>?_⟩;have:b=true:=hb.2 fun j hj=>e j (by omega);rw[hbv]at this;cases this
   obtain⟨b',g1,g2⟩:=eb;rw[show(0:Int)=((0:Nat):Int)from rfl,f1];simp only[AJ];rw[f2];simp only[AJ];rw[g1];simp only[AJ];rw[Aq (by omega)];obtain⟨b2,r1,r2⟩:=dm hv hJ hx hk hk4 m (i+1) b' (by omega) (by omega) g2;refine⟨b2,?_,r2⟩;rw[<-r1,List.range_succ,List.map_append]
   rfl
  ·have:i=k:=by omega
   subst this;rw[if_neg (by simp)];exact⟨b,rfl,hb⟩
end
end
section
section
variable {F:Nat}{l:List (List Int)}{g:Tp}
theorem Wm{Q:List Tp}(hQ:Q.length<=1000){h a:Nat}(hh:h<l.length)(hF:1000<F):G5 F (Q.map (Gc l.length)) (h:Int) (a:Int)=some (Q.any fun f=>decide (f h=a)):=by
 have key:∀(m k:Nat),k<=Q.length->Q.length-k<m->GK F (Q.map (Gc l.length)) (h:Int) (a:Int) m (k:Int)=some (if((Q.drop k).any fun f=>decide (f h=a))=true then .inl true else .inr ()):=by
  intro m
  induction m with
  |zero=>intro k _ h;omega
  |succ m ih=>
   intro k hk hm;unfold GK;by_cases hlt:k<Q.length
   ·rw[if_pos (by simpa using hlt),WZ hlt,List.drop_eq_getElem_cons hlt,List.any_cons]
    simp only[Ah,AJ];rw[OP hh];simp only[AJ];by_cases e:Q[k] h=a
    ·rw[if_pos (by simp[e]),decide_eq_true e];rfl
    ·rw[if_neg (by simp;omega),decide_eq_false e,Aq (by omega),ih (k+1) (by omega) (by omega),Bool.false_or]
   ·rw[if_neg (by simpa using hlt),List.drop_of_length_le (by omega)];rfl
 unfold G5;have:=key F 0 (by omega) (by omega);rw[show((0:Nat):Int)=0 from rfl,List.drop_zero]at this;rw[this];cases Q.any fun f=>decide (f h=a)<;>rfl
theorem X7{n:Nat}{lev:Nat->Nat}{B:Nat->Nat->Bool}(hd:Dag n lev B)(hB:∀i j,i<j->j<n->B i j=true):∀i,i<n->lev i=i+1:=by
 have lo:∀i,i<n->i+1<=lev i:=by
  intro i
  induction i with
  |zero=>intro h;exact hd.one 0 h
  |succ i ih=>intro h;have:=ih (by omega);have:=hd.up i (i+1) (by omega) h (hB i (i+1) (by omega) h);omega
 intro i
 induction i using Nat.strongRecOn with
 |ind i ih=>
  intro hi;have:=lo i hi;by_cases h2:2<=lev i
  ·obtain⟨j,hj,hb,hl⟩:=hd.dn i hi h2
   have hji:=hd.lt j i hj hi hb;have:=ih j hji hj;omega
  ·omega
theorem mM{n:Nat}{lev:Nat->Nat}{B:Nat->Nat->Bool}(hd:Dag n lev B)(hB:∀i j,i<j->j<n->B i j=true){i:Nat}(hi:i+1<n):Jst n B i (i+1):=by
 refine⟨by omega,hi,hB i (i+1) (by omega) hi,fun j hj hb=>?_,fun j hj hb=>?_⟩
 ·have:=hd.lt i j (by omega) hj hb
  by_cases e:j=i+1
  ·exact .inl e
  ·exact .inr (hB _ _ (by omega) hj)
 ·have:=hd.lt j (i+1) hj hi hb
  by_cases e:j=i
  ·exact .inl e
  ·exact .inr (hB _ _ (by omega) (by omega))
theorem mO{n:Nat}{lev:Nat->Nat}{B:Nat->Nat->Bool}(hd:Dag n lev B)(hB:∀i j,i<j->j<n->B i j=true)(hn:0<n):OW (LG n n lev B) (fun i=>decide (lev i=1)) n=1:=by
 have hl:=X7 hd hB;have hD:∀d i,i+d+1=n->Dw n n lev B i=1:=by
  intro d
  induction d with
  |zero=>
   intro i hi;unfold Dw;rw[PG];have e0:Hw n lev i=1:=by unfold Hw;rw[if_pos (by rw[hl i (by omega)];omega)]
   rw[e0,show n-1-i=0 by omega];rfl
  |succ d ih=>
   intro i hi;rw[(mM hd hB (show i+1<n by omega)).dw hd (fun j hj=>by rw[hl j hj];omega)];exact ih (i+1) (by omega)
 have hU:Uw lev B 0=1:=by
  unfold Uw;rw[U3];have e0:Hw 1 lev 0=1:=by unfold Hw;rw[if_pos (hl 0 hn)]
  rw[e0];rfl
 unfold OW;rw[OT (m:=0) List.nodup_range (List.mem_range.2 hn)]
 ·rw[if_pos (show decide (lev 0=1)=true by rw[hl 0 hn];rfl)]
  unfold LG;rw[hU,hD (n-1) 0 (by omega)]
 ·intro j hj hne
  have:=List.mem_range.1 hj;rw[if_neg (show¬decide (lev j=1)=true by rw[hl j this];simp;omega)]
end
section
variable {c:BJ}{x:Ar 4 (KI .u32)}{k:Nat}
def zl(c:BJ)(x:Ar 4 (KI .u32))(k:Nat):List (List Int):=(List.range k).map fun j=>lin c (tj c x j)
theorem Cw:(zl c x k).length=k:=by simp[zl]
theorem OX{j:Nat}(hj:j<k):(zl c x k)[j]'(by rw[Cw];exact hj)=lin c (tj c x j):=by simp[zl]
theorem MV(hv:VC c)(hT:∀j,j<k->tj c x j∈Jc c){j:Nat}(hj:j<k):ln (zl c x k) j=c.1.length:=by
 unfold ln;rw[List.getD_eq_getElem?_getD,List.getElem?_eq_getElem (by rw[Cw];exact hj),Option.getD_some,OX hj];exact(Jt hv (hT j hj)).1
theorem kC(hv:VC c)(h2:2<=k)(h4:k<=4)(hT:∀j,j<k->tj c x j∈Jc c){g:Tp}(hg:∀i j,i<101->j<101->(g i=g j↔Con (Ed (⟨[]⟩:Bk)) i j)):Uq g (zl c x k):=by
 have h8:=hv.n8;have hmem:∀r∈zl c x k,∃t∈Jc c,r=lin c t:=fun r hr=>by
  obtain⟨j,hj,rfl⟩:=List.mem_map.1 hr;exact⟨_,hT j (List.mem_range.1 hj),rfl⟩
 refine⟨⟨by rw[Cw];exact h2,by rw[Cw];exact h4,fun r hr=>?_,fun r hr=>?_⟩,fun r hr=>?_,fun i j hi hj e=>?_⟩
 ·obtain⟨t,ht,rfl⟩:=hmem r hr
  rw[(Jt hv ht).1];exact h8
 ·obtain⟨t,ht,rfl⟩:=hmem r hr
  exact(Jt hv ht).2.2
 ·obtain⟨t,ht,rfl⟩:=hmem r hr
  exact(Jt hv ht).2.1
 ·have:=(hg i j hi hj).1 e
  cases this with
  |refl=>rfl
  |step _ e=>rcases e with⟨p,hp,_⟩|⟨p,hp,_⟩<;>cases hp
theorem Mh(hT:∀j,j<k->tj c x j∈Jc c){j a i:Nat}(hj:j<k)(ha:(tj c x j)[a]?=some i):(lin c (tj c x j))[a]?=some (wo ((A7 c).getD i default))/\Iy (zl c x k) j a=(wo ((A7 c).getD i default)).toNat:=by
 have e:(lin c (tj c x j))[a]?=some (wo ((A7 c).getD i default)):=by unfold lin LF;rw[List.map_map,List.getElem?_map,ha];rfl
 refine⟨e,?_⟩;unfold Iy;rw[List.getD_eq_getElem?_getD (l:=zl c x k),List.getElem?_eq_getElem (by rw[Cw];exact hj),Option.getD_some,OX hj,List.getD_eq_getElem?_getD,e,Option.getD_some]
theorem X8(hv:VC c)(h2:2<=k)(h4:k<=4)(hT:∀j,j<k->tj c x j∈Jc c){g:Tp}(hU:Uq g (zl c x k)){i i':Nat}(hadj:∀t∈Jc c,P6 i i' t=true):
  ∃(a:Nat->Nat)(m m':Nat),(∀j,j<k->(tj c x j)[a j]?=some i/\(tj c x j)[a j+1]?=some i')/\m<(Mt g (zl c x k)).length/\m'<(Mt g (zl c x k)).length/\
   (∀j,j<k->ML (Mt g (zl c x k)) m j=a j)/\(∀j,j<k->ML (Mt g (zl c x k)) m' j=a j+1):=by
 have hex:∀j,∃a,j<k->(tj c x j)[a]?=some i/\(tj c x j)[a+1]?=some i':=fun j=>by
  by_cases hj:j<k
  ·obtain⟨q,r,e⟩:=TK.1 (hadj _ (hT j hj))
   refine⟨q.length,fun _=>?_⟩;rw[e];refine⟨by simp,?_⟩;rw[List.getElem?_append_right (by omega)];simp
  ·exact⟨0,fun h=>absurd h hj⟩
 obtain⟨a,ha⟩:=Classical.axiomOfChoice hex;have hlen:∀j,j<k->(tj c x j).length=c.1.length:=fun j hj=>(KF.1 (hT j hj)).len;have mk:∀(d i:Nat),(∀j,j<k->(tj c x j)[a j+d]?=some i)->∃m,m<(Mt g (zl c x k)).length/\∀j,j<k->ML (Mt g (zl c x k)) m j=a j+d:=by
  intro d i hd;have hm:(fun j=>if j<k then a j+d else 0)∈Mt g (zl c x k):=by
   refine hU.mem (fun j hj=>?_) (fun j hj=>?_) (fun j hj=>?_)
   ·rw[Cw]at hj
    rw[if_pos hj,MV hv hT hj,<-hlen j hj];exact(List.getElem?_eq_some_iff.1 (hd j hj)).1
   ·rw[Cw]at hj;rw[if_neg (by omega)]
   ·rw[Cw]at hj
    rw[if_pos hj,if_pos (by omega),(Mh hT hj (hd j hj)).2,(Mh hT (show 0<k by omega) (hd 0 (by omega))).2]
  obtain⟨m,hm1,e⟩:=List.mem_iff_getElem.1 hm;refine⟨m,hm1,fun j hj=>?_⟩;rw[Dl hm1,e];show(if j<k then a j+d else 0)=_;rw[if_pos hj]
 obtain⟨m,m1,m2⟩:=mk 0 i fun j hj=>(ha j hj).1
 obtain⟨m',n1,n2⟩:=mk 1 i' fun j hj=>(ha j hj).2
 exact⟨a,m,m',ha,m1,n1,m2,n2⟩
theorem dx(hv:VC c)(hT:∀j,j<k->tj c x j∈Jc c){h:Nat}(hh:h<k){a i i':Nat}(ha:(tj c x h)[a]?=some i)(ha':(tj c x h)[a+1]?=some i'):∀(m q:Nat),q<=c.1.length->c.1.length-q<m->
  Db FF (h:Int) [wo ((A7 c).getD i default),wo ((A7 c).getD i' default)] (zl c x k) m (if a<q then(a:Int)else-1) (q:Int)=some (a:Int)
 |0,q,_,hm=>by omega
 |m+1,q,hq,hm=>by
  have h8:=hv.n8;obtain⟨p1,p2,_⟩:=Jt hv (hT h hh);have ez:ix (zl c x k) (h:Int)=some (lin c (tj c x h)):=by rw[Az (by rw[Cw];exact hh),OX hh]
  have w1:=(Mh hT hh ha).1;have w2:=(Mh hT hh ha').1;have ha1:=(List.getElem?_eq_some_iff.1 w2).1;unfold Db;rw[ez];simp only[Ah,AJ];rw[Aq (by omega)];by_cases hlt:q+1<(lin c (tj c x h)).length
  ·rw[if_pos (by simp only[decide_eq_true_eq];omega),Az (show q<(lin c (tj c x h)).length by omega),Az hlt]
   simp only[AJ];have e0:ix [wo ((A7 c).getD i default),wo ((A7 c).getD i' default)] 0=some (wo ((A7 c).getD i default)):=rfl;have e1:ix [wo ((A7 c).getD i default),wo ((A7 c).getD i' default)] 1=some (wo ((A7 c).getD i' default)):=rfl;rw[e0,e1];simp only[AJ];have hva:(lin c (tj c x h))[a]'(by omega)=wo ((A7 c).getD i default):=(List.getElem?_eq_some_iff.1 w1).2;have hva':(lin c (tj c x h))[a+1]'ha1=wo ((A7 c).getD i' default):=(List.getElem?_eq_some_iff.1 w2).2;have step:(if decide ((lin c (tj c x h))[q]'(by omega)=wo ((A7 c).getD i default))=true then some (decide ((lin c (tj c x h))[q+1]'hlt=wo ((A7 c).getD i' default)))else some false)=some (decide (q=a)):=by
    by_cases e:q=a
    ·subst e;rw[if_pos (by simp only[decide_eq_true_eq];exact hva),hva'];simp
    ·rw[if_neg]
     ·rw[decide_eq_false e]
     ·simp only[decide_eq_true_eq]
      intro hh';rw[<-hva]at hh';exact e ((List.getElem_inj p2).1 hh')
   rw[step];simp only[AJ];have ih:=dx hv hT hh ha ha' m (q+1) (by omega) (by omega);by_cases e:q=a
   ·subst e
    rw[if_pos (by simp)];simp only[AJ];rw[if_pos (by omega)]at ih;exact ih
   ·rw[if_neg (by simpa using e)]
    simp only[AJ];rw[<-ih]
    congr 1
    by_cases e2:a<q
    ·rw[if_pos e2,if_pos (by omega)]
    ·rw[if_neg e2,if_neg (by omega)]
  ·rw[if_neg (by simp;omega),if_pos (by omega)]
end
end
end L4
end Go.Proofs.YtfmelbioccbdoaaGreat
end
