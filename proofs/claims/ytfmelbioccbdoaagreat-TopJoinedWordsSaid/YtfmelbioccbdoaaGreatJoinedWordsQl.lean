/-
  Part 12 of 12 of what the last text stands on: lemmas about the model, pure functions, walks, laws in plain Lean; each part's own head says its condition. Merged by a program of our own.
-/
import Derived.Test.YtfmelbioccbdoaaGreatJoinedWordsQk
import Derived.Test.YtfmelbioccbdoaaGreatRows
import Derived.JoinedOf
set_option maxHeartbeats 0
set_option linter.all false
section
namespace Go.Proofs.YtfmelbioccbdoaaGreat
open Go Go.Md Go.RowKit
namespace Wo
section
def TT(n:Nat)(p q:Nat->Nat):List (Int×Int):=(List.range n).map fun i=>(((p i:Nat):Int),((q i:Nat):Int))
theorem R3(n:Nat)(p q:Nat->Nat):(TT n p q).length=n:=by simp[TT]
theorem MO{n:Nat}{p q:Nat->Nat}{i:Nat}(h:i<n):ix (TT n p q) (i:Int)=some (((p i:Nat):Int),((q i:Nat):Int)):=by
 rw[A7 (by rw[R3];exact h)];simp[TT]
theorem R4{n:Nat}{p q:Nat->Nat}{i a b:Nat}(h:i<n):Fe (TT n p q) (i:Int) ((a:Int),(b:Int))=TT n (upd p i a) (upd q i b):=by
 rw[Vy];apply List.ext_getElem?;intro j;rw[List.getElem?_set,R3];unfold TT;by_cases hj:j<n
 ·by_cases e:i=j
  ·subst e;simp[h,upd]
  ·simp[hj,e,upd,Ne.symm e]
 ·rw[if_neg (by omega)];simp[hj]
theorem QH{n:Nat}{p q p' q':Nat->Nat}(h:∀i,i<n->p i=p' i/\q i=q' i):TT n p q=TT n p' q':=by
 unfold TT;exact List.map_congr_left fun i hi=>by have:=h i (List.mem_range.1 hi);rw[this.1,this.2]
section
variable {F:Nat}{d:Ob ((Uno (List (Ar 2 Int)))×(Ar 101 Int))}{l:List (List Int)}{g:Tp}{v:List Int}
abbrev EJ(d:Ob ((Uno (List (Ar 2 Int)))×(Ar 101 Int)))(g:Tp)(l:List (List Int)):uf:=(d,l,(Mt g l).map pl)
abbrev Bf(g:Tp)(l:List (List Int))(i j:Nat):Bool:=I5 l.length (ML (Mt g l) i) (ML (Mt g l) j)
theorem Pn{i:Nat}(h:i<(Mt g l).length):ix ((Mt g l).map pl) (i:Int)=some (pl (ML (Mt g l) i)):=by
 rw[A7 (by simpa using h),Fv h];simp
theorem Lv.ix(hv:Lv g l (Mt g l) v){i:Nat}(hi:i<(Mt g l).length):Md.ix v (i:Int)=some ((LV v i:Nat):Int):=by
 have:=(hv.get hi).2.1;have hl:=hv.1;rw[A7 (by omega)];rw[List.getElem?_eq_getElem (by omega)]at this;exact this
theorem Lv.le(hv:Lv g l (Mt g l) v)(h:VL l){i:Nat}(hi:i<(Mt g l).length):LV v i<=1001:=by
 have h2:=h.two;obtain⟨_,_,hm⟩:=hv.get hi;have:=hm.le (by omega);have hf:=JJ (List.getElem_mem hi);rw[Fv hi]at this;have:=hf.1 0 (by omega);have:=Ur h 0;omega
theorem ZT(hv:Lv g l (Mt g l) v):∀(m k a:Nat),k<=(Mt g l).length->(Mt g l).length-k<m->(Mt g l).length<=4096->(∀i,i<k->LV v i<=a)->((k=0/\a=0)\/∃i,i<k/\LV v i=a)->
  ∃top:Nat,Eg F v m (a:Int) (k:Int)=some (top:Int)/\(∀i,i<(Mt g l).length->LV v i<=top)/\(((Mt g l).length=0/\top=0)\/∃i,i<(Mt g l).length/\LV v i=top)
 |0,k,_,_,h,_,_,_=>by omega
 |m+1,k,a,hk,hm,h40,ha,hx=>by
  have hl:=hv.1;unfold Eg;by_cases hlt:k<(Mt g l).length
  ·rw[if_pos (by simp;omega),hv.ix hlt]
   simp only[Ab,AJ,FP];by_cases c:LV v k<a
   ·rw[if_pos (by simpa using c)]
    simp only[AJ];rw[Ap (by omega)];refine ZT hv m (k+1) a (by omega) (by omega) h40 (fun i hi=>?_) (.inr ?_)
    ·by_cases e:i=k
     ·subst e;omega
     ·exact ha i (by omega)
    ·rcases hx with⟨_,e⟩|⟨i,hi,e⟩
     ·omega
     ·exact⟨i,by omega,e⟩
   ·rw[if_neg (by simpa using c)]
    simp only[AJ];rw[Ap (by omega)];refine ZT hv m (k+1) (LV v k) (by omega) (by omega) h40 (fun i hi=>?_) (.inr ⟨k,by omega,rfl⟩);by_cases e:i=k
    ·subst e;omega
    ·have:=ha i (by omega);omega
  ·have:k=(Mt g l).length:=by omega
   subst this;rw[if_neg (by simp;omega)];exact⟨a,rfl,ha,hx⟩
theorem lC(hF:1000<F)(h:VL l)(hv:Lv g l (Mt g l) v){i j:Nat}(hi:i<(Mt g l).length)(hj:j<(Mt g l).length):
  (gd (decide ((AZ ((LV v i:Int)+1))=(LV v j:Int))) (Bg F (EJ d g l) (pl (ML (Mt g l) i)) (pl (ML (Mt g l) j))) false)=some (Bf g l i j&&decide (LV v i+1=LV v j)||(decide (LV v i+1=LV v j)&&Bf g l i j)):=by
 have:=hv.le h hi;rw[Ap (by omega),Sn hF h.four];by_cases e:LV v i+1=LV v j
 ·rw[decide_eq_true (by omega),decide_eq_true e];simp[gd]
 ·rw[decide_eq_false (by omega),decide_eq_false e];simp[gd]
def pk(U:Nat->Nat)(k:Nat):Nat->Nat:=fun i=>if i<k then U i else 0
def qk(D:Nat->Nat)(k:Nat):Nat->Nat:=fun i=>if k<=i then D i else 0
def us(lev:Nat->Nat)(B:Nat->Nat->Bool)(k t:Nat):Nat:=Ga 1 lev k+((List.range t).map fun j=>if FM lev B j k=true then Uw lev B j else 0).sum
theorem Xk(lev:Nat->Nat)(B:Nat->Nat->Bool)(k t:Nat):us lev B k (t+1)=us lev B k t+if FM lev B t k=true then Uw lev B t else 0:=by
 unfold us;rw[List.range_succ,List.map_append,List.sum_append];simp;omega
theorem dB(lev:Nat->Nat)(B:Nat->Nat->Bool)(k:Nat):us lev B k k=Uw lev B k:=by
 unfold us Uw;rw[Ry]
theorem Xl(lev:Nat->Nat)(B:Nat->Nat->Bool)(k:Nat):∀s t,us lev B k t<=us lev B k (t+s)
 |0,_=>Nat.le_refl _
 |s+1,t=>by have:=Xl lev B k s t;rw[<-Nat.add_assoc,Xk];omega
theorem us_le{lev:Nat->Nat}{B:Nat->Nat->Bool}{k t:Nat}(hk:k<=40)(ht:t<=k):us lev B k t<=2^40:=by
 have:=Xl lev B k (k-t) t;rw[show t+(k-t)=k by omega,dB]at this;have h1:Uw lev B k<=2^k:=jR (QG 1 lev) k;have h2:2^k<=2^40:=Nat.pow_le_pow_right (by omega) hk;omega
theorem ZU(hF:1000<F)(h:VL l)(hv:Lv g l (Mt g l) v)(h40:(Mt g l).length<=40){k:Nat}(hk:k<(Mt g l).length){q:Nat->Nat}:∀(m t:Nat),t<=k->k-t<m->
  Eh F (EJ d g l) v (pl (ML (Mt g l) k)) (((Mt g l).map pl).take k) (k:Int) m (TT (Mt g l).length (upd (pk (Uw (LV v) (Bf g l)) k) k (us (LV v) (Bf g l) k t)) q) (t:Int)=some (TT (Mt g l).length (pk (Uw (LV v) (Bf g l)) (k+1)) q)
 |0,t,_,h=>by omega
 |m+1,t,ht,hm=>by
  unfold Eh;have hpt:(((Mt g l).map pl).take k).length=k:=by simp;omega
  by_cases hlt:t<k
  ·have e9:ix (((Mt g l).map pl).take k) (t:Int)=some (pl (ML (Mt g l) t)):=by
    rw[A7 (by rw[hpt];exact hlt),Fv (show t<(Mt g l).length by omega)];simp
   rw[if_pos (by rw[hpt];simpa using hlt),e9,hv.ix (show t<_ by omega),hv.ix hk];simp only[Ab,AJ];rw[show Bg F ((EJ d g l).1,(EJ d g l).2.1,(EJ d g l).2.2) (pl (ML (Mt g l) t)) (pl (ML (Mt g l) k))=Bg F (EJ d g l) (pl (ML (Mt g l) t)) (pl (ML (Mt g l) k))from rfl,lC hF h hv (by omega) hk];simp only[AJ];have hle:=hv.le h (show t<(Mt g l).length by omega);have hs:=Xk (LV v) (Bf g l) k t;have hsl:=us_le (lev:=LV v) (B:=Bf g l) (k:=k) (t:=t+1) (by omega) (by omega);have hut:upd (pk (Uw (LV v) (Bf g l)) k) k (us (LV v) (Bf g l) k t) t=Uw (LV v) (Bf g l) t:=by unfold upd pk;rw[if_neg (by omega),if_pos hlt]
   have huk:upd (pk (Uw (LV v) (Bf g l)) k) k (us (LV v) (Bf g l) k t) k=us (LV v) (Bf g l) k t:=by simp[upd]
   have ec:(decide (AZ ((LV v t:Int)+1)=(LV v k:Int))&&(Bf g l t k&&decide (LV v t+1=LV v k)||(decide (LV v t+1=LV v k)&&Bf g l t k)))=FM (LV v) (Bf g l) t k:=by
    rw[Ap (by omega)];unfold FM;by_cases e:LV v t+1=LV v k
    ·rw[decide_eq_true (by omega),decide_eq_true e];simp
    ·rw[decide_eq_false (by omega),decide_eq_false e];simp
   rw[ec];cases hc:FM (LV v) (Bf g l) t k with
   |true=>
    rw[if_pos rfl,MO hk,MO (show t<(Mt g l).length by omega),hut,huk];simp only[AJ];rw[hc,if_pos rfl]at hs;rw[show AZ ((us (LV v) (Bf g l) k t:Int)+(Uw (LV v) (Bf g l) t:Int))=((us (LV v) (Bf g l) k (t+1):Nat):Int) by rw[BO (by omega)];omega,R4 hk,OC,JD rfl,Ap (by omega)];exact ZU hF h hv h40 hk m (t+1) (by omega) (by omega)
   |false=>
    rw[if_neg (by simp)];simp only[AJ];rw[hc,if_neg (by simp)]at hs;rw[Ap (by omega),show us (LV v) (Bf g l) k t=us (LV v) (Bf g l) k (t+1) by omega];exact ZU hF h hv h40 hk m (t+1) (by omega) (by omega)
  ·have:t=k:=by omega
   subst this;rw[if_neg (by rw[hpt];simp),dB]
   congr 1
   refine QH fun i _=>⟨?_,rfl⟩;unfold upd pk;by_cases e:i=t
   ·subst e;rw[if_pos rfl,if_pos (by omega)]
   ·rw[if_neg e]
    by_cases hi:i<t
    ·rw[if_pos hi,if_pos (by omega)]
    ·rw[if_neg hi,if_neg (by omega)]
theorem jT(hF:1000<F)(h:VL l)(hv:Lv g l (Mt g l) v)(h40:(Mt g l).length<=40){q:Nat->Nat}:∀(m k:Nat),k<=(Mt g l).length->(Mt g l).length-k<m->
  Ei F (EJ d g l) v m (TT (Mt g l).length (pk (Uw (LV v) (Bf g l)) k) q) (k:Int)=some (TT (Mt g l).length (pk (Uw (LV v) (Bf g l)) (Mt g l).length) q)
 |0,k,_,h=>by omega
 |m+1,k,hk,hm=>by
  unfold Ei;by_cases hlt:k<(Mt g l).length
  ·rw[if_pos (by simpa using hlt)]
   show((ix ((Mt g l).map pl) (k:Int))>>=_)=_;rw[Pn hlt];simp only[Ab,AJ];rw[hv.ix hlt];simp only[AJ];have e5:(if decide ((LV v k:Int)=1)=true then(ix (TT (Mt g l).length (pk (Uw (LV v) (Bf g l)) k) q) (k:Int)).bind fun x8=>some (Fe (TT (Mt g l).length (pk (Uw (LV v) (Bf g l)) k) q) (k:Int) ((1:Int),x8.2))else some (TT (Mt g l).length (pk (Uw (LV v) (Bf g l)) k) q))=some (TT (Mt g l).length (upd (pk (Uw (LV v) (Bf g l)) k) k (us (LV v) (Bf g l) k 0)) q):=by
    unfold us Ga;by_cases e:LV v k=1
    ·rw[if_pos (by simp[e]),MO hlt]
     simp only[AJ];rw[show(1:Int)=((1:Nat):Int)from rfl,R4 hlt,JD (f:=q) rfl,if_pos e]
     rfl
    ·rw[if_neg (by simp;omega),if_neg e]
     congr 2
     rw[JD];unfold pk;rw[if_neg (by omega)];rfl
   rw[e5];simp only[AJ];have e9:OP ((Mt g l).map pl) (k:Int)=some (((Mt g l).map pl).take k):=by
    unfold OP;rw[if_pos (by simp;omega)];rfl
   rw[show OP (EJ d g l).2.2 (k:Int)=_ from e9];simp only[AJ];have:=ZU (d:=d) hF h hv h40 hlt (q:=q) F 0 (by omega) (by omega);rw[show((0:Nat):Int)=0 from rfl]at this;rw[this];simp only[AJ];rw[Ap (by omega)];exact jT hF h hv h40 m (k+1) (by omega) (by omega)
  ·rw[if_neg (by simpa using hlt),show k=(Mt g l).length by omega]
def Hw(n top:Nat)(lev:Nat->Nat)(B:Nat->Nat->Bool)(k t:Nat):Nat:=Ga top lev k+((List.range' (k+1) (t-(k+1))).map fun j=>if FM lev B k j=true then Dw n top lev B j else 0).sum
theorem UB(n top:Nat)(lev:Nat->Nat)(B:Nat->Nat->Bool)(k t:Nat)(h:k+1<=t):Hw n top lev B k (t+1)=Hw n top lev B k t+if FM lev B k t=true then Dw n top lev B t else 0:=by
 unfold Hw;rw[show t+1-(k+1)=(t-(k+1))+1 by omega,List.range'_concat,List.map_append,List.sum_append];simp only[Nat.one_mul,List.map_cons,List.map_nil,List.sum_cons,List.sum_nil];rw[show k+1+(t-(k+1))=t by omega];omega
theorem V9(n top:Nat)(lev:Nat->Nat)(B:Nat->Nat->Bool)(k:Nat):Hw n top lev B k n=Dw n top lev B k:=by
 unfold Hw Dw;rw[Ni,show n-1-k=n-(k+1) by omega]
theorem UC(n top:Nat)(lev:Nat->Nat)(B:Nat->Nat->Bool)(k:Nat):∀s t,k+1<=t->Hw n top lev B k t<=Hw n top lev B k (t+s)
 |0,_,_=>Nat.le_refl _
 |s+1,t,h=>by have:=UC n top lev B k s t h;rw[<-Nat.add_assoc,UB _ _ _ _ _ _ (by omega)];omega
theorem lD{n top:Nat}{lev:Nat->Nat}{B:Nat->Nat->Bool}{k t:Nat}(hn:n<=40)(hk:k<n)(h1:k+1<=t)(ht:t<=n):Hw n top lev B k t<=2^40:=by
 have:=UC n top lev B k (n-t) t h1;rw[show t+(n-t)=n by omega,V9]at this;have h1:Dw n top lev B k<=2^(n-1-k):=jS (QG top lev) (n-1-k) k (by omega);have h2:2^(n-1-k)<=2^40:=Nat.pow_le_pow_right (by omega) (by omega);omega
theorem R5(hF:1000<F)(h:VL l)(hv:Lv g l (Mt g l) v)(h40:(Mt g l).length<=40){k top:Nat}(hk:k<(Mt g l).length){p:Nat->Nat}:∀(m t:Nat),k+1<=t->t<=(Mt g l).length->(Mt g l).length-t<m->
  Ej F (EJ d g l) v (k:Int) m (TT (Mt g l).length p (upd (qk (Dw (Mt g l).length top (LV v) (Bf g l)) (k+1)) k (Hw (Mt g l).length top (LV v) (Bf g l) k t))) (t:Int)=some (TT (Mt g l).length p (qk (Dw (Mt g l).length top (LV v) (Bf g l)) k))
 |0,t,_,_,h=>by omega
 |m+1,t,h1,ht,hm=>by
  unfold Ej;by_cases hlt:t<(Mt g l).length
  ·have hle:=hv.le h hk
   have hs:=UB (Mt g l).length top (LV v) (Bf g l) k t h1;have hsl:=lD (top:=top) (lev:=LV v) (B:=Bf g l) (k:=k) (t:=t+1) h40 hk (by omega) (by omega);have hut:upd (qk (Dw (Mt g l).length top (LV v) (Bf g l)) (k+1)) k (Hw (Mt g l).length top (LV v) (Bf g l) k t) t=Dw (Mt g l).length top (LV v) (Bf g l) t:=by unfold upd qk;rw[if_neg (by omega),if_pos h1]
   have huk:upd (qk (Dw (Mt g l).length top (LV v) (Bf g l)) (k+1)) k (Hw (Mt g l).length top (LV v) (Bf g l) k t) k=Hw (Mt g l).length top (LV v) (Bf g l) k t:=by simp[upd]
   rw[if_pos (by simpa using hlt),MO hlt,hut];simp only[Ab,AJ];by_cases hz:Dw (Mt g l).length top (LV v) (Bf g l) t=0
   ·rw[if_neg (by simp[hz])]
    simp only[Bool.false_eq_true,if_false,AJ];have:(if FM (LV v) (Bf g l) k t=true then Dw (Mt g l).length top (LV v) (Bf g l) t else 0)=0:=by rw[hz];simp
    rw[Ap (by omega),show Hw (Mt g l).length top (LV v) (Bf g l) k t=Hw (Mt g l).length top (LV v) (Bf g l) k (t+1) by omega];exact R5 hF h hv h40 hk m (t+1) (by omega) (by omega) (by omega)
   ·rw[if_pos (by simp;omega),hv.ix hk,hv.ix hlt]
    simp only[AJ];by_cases e:LV v k+1=LV v t
    ·rw[if_pos (by rw[Ap (by omega)];simp;omega)]
     show((((ix ((Mt g l).map pl) (k:Int)).bind _).bind _).bind _)=_;rw[Pn hk];simp only[AJ];rw[Pn hlt];simp only[AJ];rw[show Bg F (d,l,(Mt g l).map pl) (pl (ML (Mt g l) k)) (pl (ML (Mt g l) t))=some (Bf g l k t)from Sn hF h.four _ _];simp only[AJ];cases hb:Bf g l k t with
     |true=>
      have hc:FM (LV v) (Bf g l) k t=true:=by unfold FM;rw[hb,decide_eq_true e];rfl
      rw[if_pos rfl,MO hk,huk];simp only[AJ];rw[hc,if_pos rfl]at hs;rw[show AZ ((Hw (Mt g l).length top (LV v) (Bf g l) k t:Int)+(Dw (Mt g l).length top (LV v) (Bf g l) t:Int))=((Hw (Mt g l).length top (LV v) (Bf g l) k (t+1):Nat):Int) by rw[BO (by omega)];omega,R4 hk,OC,JD (f:=p) rfl,Ap (by omega)];exact R5 hF h hv h40 hk m (t+1) (by omega) (by omega) (by omega)
     |false=>
      have hc:FM (LV v) (Bf g l) k t=false:=by unfold FM;rw[hb];simp
      rw[if_neg (by simp)];simp only[AJ];rw[hc,if_neg (by simp)]at hs;rw[Ap (by omega),show Hw (Mt g l).length top (LV v) (Bf g l) k t=Hw (Mt g l).length top (LV v) (Bf g l) k (t+1) by omega];exact R5 hF h hv h40 hk m (t+1) (by omega) (by omega) (by omega)
    ·have hc:FM (LV v) (Bf g l) k t=false:=by unfold FM;rw[decide_eq_false e];rfl
     rw[if_neg (by rw[Ap (by omega)];simp;omega)];simp only[AJ,Bool.false_eq_true,if_false];rw[hc,if_neg (by simp)]at hs;rw[Ap (by omega),show Hw (Mt g l).length top (LV v) (Bf g l) k t=Hw (Mt g l).length top (LV v) (Bf g l) k (t+1) by omega];exact R5 hF h hv h40 hk m (t+1) (by omega) (by omega) (by omega)
  ·have:t=(Mt g l).length:=by omega
   subst this;rw[if_neg (by simp),V9]
   congr 1
   refine QH fun i _=>⟨rfl,?_⟩;unfold upd qk;by_cases e:i=k
   ·subst e;rw[if_pos rfl,if_pos (by omega)]
   ·rw[if_neg e]
    by_cases hi:k+1<=i
    ·rw[if_pos hi,if_pos (by omega)]
    ·rw[if_neg hi,if_neg (by omega)]
theorem jU(hF:1000<F)(h:VL l)(hv:Lv g l (Mt g l) v)(h40:(Mt g l).length<=40){top:Nat}{p:Nat->Nat}:∀(m k:Nat),k<=(Mt g l).length->k<m->
  Dl F (EJ d g l) v (top:Int) m (TT (Mt g l).length p (qk (Dw (Mt g l).length top (LV v) (Bf g l)) k)) ((k:Int)-1)=some (TT (Mt g l).length p (qk (Dw (Mt g l).length top (LV v) (Bf g l)) 0))
 |0,k,_,h=>by omega
 |m+1,0,hk,hm=>by
  unfold Dl;rw[if_neg (by simp)]
 |m+1,k+1,hk,hm=>by
  have hlt:k<(Mt g l).length:=by omega
  unfold Dl;rw[show((k+1:Nat):Int)-1=(k:Int) by omega,if_pos (by simp),hv.ix hlt];simp only[Ab,AJ];have e5:(if decide ((LV v k:Int)=(top:Int))=true then(ix (TT (Mt g l).length p (qk (Dw (Mt g l).length top (LV v) (Bf g l)) (k+1))) (k:Int)).bind fun x18=>some (Fe (TT (Mt g l).length p (qk (Dw (Mt g l).length top (LV v) (Bf g l)) (k+1))) (k:Int) (x18.1,(1:Int)))else some (TT (Mt g l).length p (qk (Dw (Mt g l).length top (LV v) (Bf g l)) (k+1))))=some (TT (Mt g l).length p (upd (qk (Dw (Mt g l).length top (LV v) (Bf g l)) (k+1)) k (Hw (Mt g l).length top (LV v) (Bf g l) k (k+1)))):=by
   unfold Hw Ga;by_cases e:LV v k=top
   ·rw[if_pos (by simp[e]),MO hlt]
    simp only[AJ];rw[show(1:Int)=((1:Nat):Int)from rfl,R4 hlt,JD (f:=p) rfl,if_pos e];simp
   ·rw[if_neg (by simp;omega),if_neg e]
    congr 2
    rw[JD];unfold qk;rw[if_neg (by omega)];simp
  rw[e5];simp only[AJ];rw[Ap (by omega),R5 (d:=d) hF h hv h40 hlt F (k+1) (by omega) (by omega) (by omega)];simp only[AJ];rw[BO (by omega)];exact jU hF h hv h40 m k (by omega) (by omega)
theorem lF(hF:100000<F){x:Bk}{c:G9}(h:VL l)(hc:c.l=tl g)(h40:(Mt g l).length<=40):∃v top,Lv g l (Mt g l) v/\BA F (EJ ⟨some (x,c)⟩ g l)=some v/\(∀i,i<(Mt g l).length->LV v i<=top)/\(((Mt g l).length=0/\top=0)\/∃i,i<(Mt g l).length/\LV v i=top)/\
  CO F (EJ ⟨some (x,c)⟩ g l)=some (TT (Mt g l).length (Uw (LV v) (Bf g l)) (Dw (Mt g l).length top (LV v) (Bf g l))):=by
 obtain⟨v,h1,hv⟩:=dA hF (x:=x) h hc;obtain⟨top,e1,e2,e3⟩:=ZT (F:=F) hv F 0 0 (by omega) (by omega) (by omega) (fun i hi=>by omega) (.inl ⟨rfl,rfl⟩);refine⟨v,top,hv,h1,e2,e3,?_⟩;unfold CO;rw[show BA F ((EJ ⟨some (x,c)⟩ g l).1,(EJ ⟨some (x,c)⟩ g l).2.1,(EJ ⟨some (x,c)⟩ g l).2.2)=some v from h1];simp only[Ab,AJ];rw[show((0:Nat):Int)=0 from rfl]at e1;rw[e1];simp only[AJ];have e5:mks 16 ((((Mt g l).map pl).length:Nat):Int) ((0,0):Int×Int)=some (TT (Mt g l).length (pk (Uw (LV v) (Bf g l)) 0) fun _=>0):=by
  unfold mks;rw[if_pos (by simp;omega)]
  congr 1
  unfold TT pk;simp[List.map_const']
 rw[show mks 16 ((EJ (⟨some (x,c)⟩:Ob ((Uno (List (Ar 2 Int)))×(Ar 101 Int))) g l).2.2.length:Int) ((0,0):Int×Int)=_ from e5];simp only[AJ];have e6:=jT (F:=F) (d:=⟨some (x,c)⟩) (by omega) h hv h40 (q:=fun _=>0) F 0 (by omega) (by omega);rw[show((0:Nat):Int)=0 from rfl]at e6;rw[e6];simp only[AJ];have e7:=jU (F:=F) (d:=⟨some (x,c)⟩) (by omega) h hv h40 (top:=top) (p:=pk (Uw (LV v) (Bf g l)) (Mt g l).length) F (Mt g l).length (Nat.le_refl _) (by omega);have e8:TT (Mt g l).length (pk (Uw (LV v) (Bf g l)) (Mt g l).length) (fun _=>0)=TT (Mt g l).length (pk (Uw (LV v) (Bf g l)) (Mt g l).length) (qk (Dw (Mt g l).length top (LV v) (Bf g l)) (Mt g l).length):=QH fun i hi=>⟨rfl,by unfold qk;rw[if_neg (by omega)]⟩;rw[e8,show AZ (((EJ (⟨some (x,c)⟩:Ob ((Uno (List (Ar 2 Int)))×(Ar 101 Int))) g l).2.2.length:Int)-1)=((Mt g l).length:Int)-1 by rw[show(EJ (⟨some (x,c)⟩:Ob ((Uno (List (Ar 2 Int)))×(Ar 101 Int))) g l).2.2.length=(Mt g l).length by simp,BO (by omega)],e7];simp only[AJ]
 congr 1
 exact QH fun i hi=>⟨by unfold pk;rw[if_pos hi],by unfold qk;rw[if_pos (by omega)]⟩
end
end
section
structure Gr(n top:Nat)(lev:Nat->Nat)(B:Nat->Nat->Bool)(k:Nat)(c:List Nat):Prop where
 mem:∀i∈c,i<k/\i<n/\0<Dw n top lev B i
 lv:∀(t i:Nat),c[t]?=some i->lev i=t+1
 seq:∀(t i j:Nat),c[t]?=some i->c[t+1]?=some j->B i j=true
 more:c.length<top->∃j,k<=j/\j<n/\0<Dw n top lev B j/\lev j=c.length+1/\∀i,c.getLast?=some i->B i j=true
 le:c.length<=top
def Oj(n top:Nat)(lev:Nat->Nat)(B:Nat->Nat->Bool)(k:Nat)(c:List Nat):Bool:=decide (0<Dw n top lev B k)&&decide (lev k=c.length+1)&&(match c.getLast? with|none=>true|some i=>B i k)
theorem Gr.add{n top:Nat}{lev:Nat->Nat}{B:Nat->Nat->Bool}(hd:Dag n lev B)(ht:∀i,i<n->lev i<=top){k:Nat}(hk:k<n){c:List Nat}(h:Gr n top lev B k c)(hc:Oj n top lev B k c=true):Gr n top lev B (k+1) (c++[k]):=by
 unfold Oj at hc;rw[Bool.and_eq_true,Bool.and_eq_true]at hc;obtain⟨⟨h1,h2⟩,h3⟩:=hc;have h1:0<Dw n top lev B k:=by simpa using h1
 have h2:lev k=c.length+1:=by simpa using h2
 have hkt:=ht k hk;refine⟨fun i hi=>?_,fun t i e=>?_,fun t i j e1 e2=>?_,fun hl=>?_,by simp;omega⟩
 ·rcases List.mem_append.1 hi with hi|hi
  ·have:=h.mem i hi;exact⟨by omega,this.2⟩
  ·rw[List.mem_singleton]at hi;subst hi;exact⟨by omega,hk,h1⟩
 ·by_cases e':t<c.length
  ·rw[List.getElem?_append_left e']at e;exact h.lv t i e
  ·rw[List.getElem?_append_right (by omega)]at e
   by_cases e2:t-c.length=0
   ·rw[e2]at e;cases e;omega
   ·rw[List.getElem?_eq_none (by simp;omega)]at e;cases e
 ·by_cases e':t+1<c.length
  ·rw[List.getElem?_append_left (by omega)]at e1 e2;exact h.seq t i j e1 e2
  ·by_cases e3:t+1=c.length
   ·rw[List.getElem?_append_left (by omega)]at e1
    rw[List.getElem?_append_right (by omega),e3,Nat.sub_self]at e2;cases e2;have:c.getLast?=some i:=by rw[List.getLast?_eq_getElem?,<-e3];exact e1
    rw[this]at h3;exact h3
   ·rw[List.getElem?_append_right (by omega),List.getElem?_eq_none (by simp;omega)]at e2;cases e2
 ·rw[List.length_append]at hl⊢
  simp only[List.length_singleton]at hl⊢;rcases tT h1 with e|⟨j,j1,j2,j3,j4⟩
  ·omega
  ·unfold FM at j3
   rw[Bool.and_eq_true]at j3;have e:lev k+1=lev j:=by simpa using j3.1
   exact⟨j,by omega,j2,j4,by omega,fun i hi=>by rw[List.getLast?_concat]at hi;cases hi;exact j3.2⟩
theorem Gr.skip{n top:Nat}{lev:Nat->Nat}{B:Nat->Nat->Bool}{k:Nat}{c:List Nat}(h:Gr n top lev B k c)(hc:Oj n top lev B k c=false):Gr n top lev B (k+1) c:=by
 refine⟨fun i hi=>by have:=h.mem i hi;exact⟨by omega,this.2⟩,h.lv,h.seq,fun hl=>?_,h.le⟩;obtain⟨j,j1,j2,j3,j4,j5⟩:=h.more hl;refine⟨j,?_,j2,j3,j4,j5⟩;by_cases e:j=k
 ·subst e
  unfold Oj at hc;rw[decide_eq_true j3,decide_eq_true j4]at hc;cases hg:c.getLast? with
  |none=>rw[hg]at hc;cases hc
  |some i=>rw[hg]at hc;have:=j5 i hg;simp[this]at hc
 ·omega
section
variable {F:Nat}{d:Ob ((Uno (List (Ar 2 Int)))×(Ar 101 Int))}{l:List (List Int)}{g:Tp}{v:List Int}
def Kt(g:Tp)(l:List (List Int))(c:List Nat):List Pl:=c.map fun i=>pl (ML (Mt g l) i)
theorem Sq(hF:1000<F)(h:VL l)(hv:Lv g l (Mt g l) v)(h40:(Mt g l).length<=40){top:Nat}(ht:∀i,i<(Mt g l).length->LV v i<=top){p:Nat->Nat}:∀(m k:Nat)(c:List Nat),k<=(Mt g l).length->(Mt g l).length-k<m->Gr (Mt g l).length top (LV v) (Bf g l) k c->c.length<=k->
  ∃c',Dg F (EJ d g l) (TT (Mt g l).length p (Dw (Mt g l).length top (LV v) (Bf g l))) v m (Kt g l c) (k:Int)=some (Kt g l c')/\Gr (Mt g l).length top (LV v) (Bf g l) (Mt g l).length c'
 |0,k,_,_,h,_,_=>by omega
 |m+1,k,c,hk,hm,hG,hck=>by
  have hd:=Rz h hv;unfold Dg;by_cases hlt:k<(Mt g l).length
  ·have hpl:(Kt g l c).length=c.length:=by simp[Kt]
   rw[if_pos (by simpa using hlt)];rw[show ix (EJ d g l).2.2 (k:Int)=some (pl (ML (Mt g l) k))from Pn hlt,MO hlt];simp only[Ab,AJ];have ec:(if decide ((0:Int)<((Dw (Mt g l).length top (LV v) (Bf g l) k:Nat):Int))=true then
     (Md.ix v (k:Int)).bind fun x7=>if decide (x7=AZ (((Kt g l c).length:Int)+1))=true then(if decide (((Kt g l c).length:Int)=0)=true then some true else(ix (Kt g l c) (AZ (((Kt g l c).length:Int)-1))).bind fun x8=>(Bg F (d,l,(Mt g l).map pl) x8 (pl (ML (Mt g l) k))).bind fun x9=>some x9)else some false
    else(if false=true then(if decide (((Kt g l c).length:Int)=0)=true then some true else(ix (Kt g l c) (AZ (((Kt g l c).length:Int)-1))).bind fun x8=>(Bg F (d,l,(Mt g l).map pl) x8 (pl (ML (Mt g l) k))).bind fun x9=>some x9)else some false))=some (Oj (Mt g l).length top (LV v) (Bf g l) k c):=by
    unfold Oj;by_cases c1:0<Dw (Mt g l).length top (LV v) (Bf g l) k
    ·rw[if_pos (by simpa using c1),hv.ix hlt,decide_eq_true c1]
     simp only[AJ];rw[hpl,Ap (by omega)];by_cases c2:LV v k=c.length+1
     ·rw[if_pos (by simp;omega),decide_eq_true c2]
      rcases OD c with rfl|⟨e,i,rfl⟩
      ·simp
      ·have hck':e.length+1<=k:=by simpa using hck
       rw[List.length_append,if_neg (by simp;omega),List.getLast?_concat];rw[show AZ (((e.length+ [i].length:Nat):Int)-1)=(e.length:Int) by simp only[List.length_singleton];rw[BO (by omega)];omega];have:Md.ix (Kt g l (e++[i])) (e.length:Int)=some (pl (ML (Mt g l) i)):=by
        rw[A7 (by simp[Kt])];simp[Kt]
       rw[this];simp only[AJ];rw[Sn hF h.four]
       rfl
     ·rw[if_neg (by simp;omega),decide_eq_false c2];simp
    ·rw[if_neg (by simpa using c1),decide_eq_false c1];simp
   rw[ec];simp only[AJ];cases hc:Oj (Mt g l).length top (LV v) (Bf g l) k c with
   |true=>
    rw[if_pos rfl,Fu (by rw[hpl];simp;omega)];simp only[AJ];rw[Ap (by omega)];have:=Sq hF h hv h40 ht (p:=p) m (k+1) (c++[k]) (by omega) (by omega) (hG.add hd ht hlt hc) (by simp;omega);rw[show Kt g l (c++[k])=Kt g l c++[pl (ML (Mt g l) k)] by simp[Kt]]at this;exact this
   |false=>
    rw[if_neg (by simp)];simp only[AJ];rw[Ap (by omega)];exact Sq hF h hv h40 ht m (k+1) c (by omega) (by omega) (hG.skip hc) (by omega)
  ·have:k=(Mt g l).length:=by omega
   subst this;rw[if_neg (by simp)];exact⟨c,rfl,hG⟩
structure Ps(n top:Nat)(lev:Nat->Nat)(B:Nat->Nat->Bool)(c:List Nat):Prop where
 len:c.length=top
 mem:∀i∈c,i<n/\0<Dw n top lev B i
 lv:∀(t i:Nat),c[t]?=some i->lev i=t+1
 seq:∀(t i j:Nat),c[t]?=some i->c[t+1]?=some j->B i j=true
theorem gY{n top:Nat}{lev:Nat->Nat}{B:Nat->Nat->Bool}(hd:Dag n lev B)(hx:(n=0/\top=0)\/∃i,i<n/\lev i=top):Gr n top lev B 0 []:=by
 refine⟨(fun i hi=>by cases hi),(fun t i e=>by simp at e),(fun t i j e=>by simp at e),fun hl=>?_,Nat.zero_le _⟩;rcases hx with⟨_,e⟩|⟨i,hi,e⟩
 ·simp at hl;omega
 ·have:=hd.one i hi
  obtain⟨j,j1,j2,j3⟩:=V8 hd (lev i-1) i (by omega) hi (pU e);exact⟨j,by omega,j1,j3,j2,fun i hi=>by simp at hi⟩
theorem ZV(hF:100000<F){x:Bk}{c:G9}(h:VL l)(hc:c.l=tl g)(h40:(Mt g l).length<=40):∃v top q,Lv g l (Mt g l) v/\BA F (EJ ⟨some (x,c)⟩ g l)=some v/\(∀i,i<(Mt g l).length->LV v i<=top)/\(((Mt g l).length=0/\top=0)\/∃i,i<(Mt g l).length/\LV v i=top)/\
  CO F (EJ ⟨some (x,c)⟩ g l)=some (TT (Mt g l).length (Uw (LV v) (Bf g l)) (Dw (Mt g l).length top (LV v) (Bf g l)))/\
  F3 F (EJ ⟨some (x,c)⟩ g l)=some (Kt g l q)/\Ps (Mt g l).length top (LV v) (Bf g l) q:=by
 obtain⟨v,top,hv,e1,e2,e3,e4⟩:=lF hF (x:=x) h hc h40;have hd:=Rz h hv;obtain⟨q,e5,hq⟩:=Sq (F:=F) (d:=⟨some (x,c)⟩) (by omega) h hv h40 e2 (p:=Uw (LV v) (Bf g l)) F 0 [] (by omega) (by omega) (gY hd e3) (Nat.zero_le _);refine⟨v,top,q,hv,e1,e2,e3,e4,?_,?_⟩
 ·unfold F3
  rw[show CO F ((EJ ⟨some (x,c)⟩ g l).1,(EJ ⟨some (x,c)⟩ g l).2.1,(EJ ⟨some (x,c)⟩ g l).2.2)=_ from e4];simp only[Ab,AJ];rw[show BA F ((EJ ⟨some (x,c)⟩ g l).1,(EJ ⟨some (x,c)⟩ g l).2.1,(EJ ⟨some (x,c)⟩ g l).2.2)=_ from e1];simp only[AJ];rw[show((0:Nat):Int)=0 from rfl,show Kt g l []=[]from rfl]at e5;rw[e5];rfl
 ·refine⟨?_,fun i hi=>(hq.mem i hi).2,hq.lv,hq.seq⟩
  by_cases e:q.length<top
  ·obtain⟨j,j1,j2,_⟩:=hq.more e;omega
  ·have:=hq.le;omega
theorem Sr(hF:100000<F)(h4:l.length<=4){acc:List Pl}:∀(L:List Tp),L.length<=10000->EP F (d,l,acc) (L.map pl)=some (L.map (Gp l.length)):=by
 intro L hL;have key:∀(m k:Nat),k<=L.length->L.length-k<m->EZ F (d,l,acc) (L.map pl) m ((L.take k).map (Gp l.length)) (k:Int)=some (L.map (Gp l.length)):=by
  intro m
  induction m with
  |zero=>intro k _ h;omega
  |succ m ih=>
   intro k hk hm;unfold EZ;by_cases hlt:k<L.length
   ·rw[if_pos (by simpa using hlt),A7 (by simpa using hlt),List.getElem_map]
    simp only[Ab,AJ];have e5:mks 8 (l.length:Int) (0:Int)=some (List.replicate l.length 0):=by unfold mks;rw[if_pos (by simp;omega)];rfl
    rw[e5];simp only[AJ];have er:J4 (List.replicate l.length (0:Int)) (pl L[k]).l=Gp l.length L[k]:=by
     unfold J4;rw[List.length_replicate,(pl L[k]).h,List.drop_of_length_le (by simp;omega),List.append_nil];unfold pl Gp;rw[<-List.map_take,List.take_range,Nat.min_eq_left h4]
    rw[er,Fu (by simp;omega)];simp only[AJ];rw[Ap (by omega),<-ih (k+1) (by omega) (by omega),List.take_succ_eq_append_getElem hlt,List.map_append]
    rfl
   ·rw[if_neg (by simpa using hlt),List.take_of_length_le (by omega)]
 unfold EP;have:=key F 0 (by omega) (by omega);rw[show((0:Nat):Int)=0 from rfl,List.take_zero,List.map_nil]at this;rw[this];rfl
end
theorem lG{F:Nat}(hF:100000<F){x:Bk}{l:List (List Int)}(hv:VB x)(h:VL l):∃g,(∀i j,i<101->j<101->(g i=g j↔Con (Ed x) i j))/\((Mt g l).length<=40->∃d v top q,Lv g l (Mt g l) v/\DL F x l=some (⟨some (EJ d g l)⟩,0)/\
  (∀i,i<(Mt g l).length->LV v i<=top)/\(((Mt g l).length=0/\top=0)\/∃i,i<(Mt g l).length/\LV v i=top)/\QN F x l=some (v,0)/\
  BA F (EJ d g l)=some v/\CO F (EJ d g l)=some (TT (Mt g l).length (Uw (LV v) (Bf g l)) (Dw (Mt g l).length top (LV v) (Bf g l)))/\
  Jk F x l=some (q.map fun i=>Gp l.length (ML (Mt g l) i),0)/\Ps (Mt g l).length top (LV v) (Bf g l) q):=by
 obtain⟨c,g,h1,h2,h3⟩:=ol hv;refine⟨g,h3,fun h40=>?_⟩;have hl:=Qm h;have es:DL F x l=some (⟨some (EJ ⟨some (x,c)⟩ g l)⟩,0):=by
  unfold DL;rw[show(⟨x.v⟩:Bk)=x from rfl,oz (by omega) hv h];simp only[Ab,AJ];rw[if_neg (by simp)];unfold IA;rw[h1];simp only[Ab,AJ];rw[bq hF h];simp only[AJ];rw[show(⟨x.v⟩:Bk)=x from rfl,Qn (by omega) h h2 _ [] (fun f hf=>(Kr _ f hf).1) (by simp;omega)]
  rfl
 obtain⟨v,top,q,hv',e1,e2,e3,e4,e5,e6⟩:=ZV hF (x:=x) h h2 h40;refine⟨_,v,top,q,hv',es,e2,e3,?_,e1,e4,?_,e6⟩
 ·unfold QN
  rw[show(⟨x.v⟩:Bk)=x from rfl,es];simp only[Ab,AJ];rw[if_neg (by simp),show BA F (_,_,_)=some v from e1];rfl
 ·unfold Jk
  rw[show(⟨x.v⟩:Bk)=x from rfl,es];simp only[Ab,AJ];rw[if_neg (by simp),show F3 F (_,_,_)=_ from e5];simp only[AJ];have hq:(q.map (ML (Mt g l))).length<=10000:=by
   rw[List.length_map,e6.len];rcases e3 with⟨_,e⟩|⟨i,hi,e⟩
   ·omega
   ·have:=hv'.le h hi;omega
  have:=Sr (F:=F) (d:=⟨some (x,c)⟩) hF h.four (acc:=(Mt g l).map pl) (q.map (ML (Mt g l))) hq;rw[List.map_map,List.map_map]at this;rw[show Kt g l q=q.map (pl∘ML (Mt g l))from rfl,this]
  rfl
end
section
section
variable {F:Nat}{d:Ob ((Uno (List (Ar 2 Int)))×(Ar 101 Int))}{l:List (List Int)}{g:Tp}{v:List Int}
end
end
end Wo
end Go.Proofs.YtfmelbioccbdoaaGreat
end
section
namespace Go.Proofs.YtfmelbioccbdoaaGreat
open Go Go.Md Go.RowKit

end Go.Proofs.YtfmelbioccbdoaaGreat
end
section
namespace Go.Proofs.YtfmelbioccbdoaaGreat
open Go Go.Md Go.RowKit
namespace Sg
abbrev To:=(Int×Int)×Int
def hi(l:List To)(p:Nat):Int:=(l[p]?.getD default).1.2
def Bd(l:List To):Prop:=∀x∈l,0<=x.1.2/\x.1.2<=10000
theorem pW{l:List To}{p:Nat}(h:p<l.length):hi l p=l[p].1.2:=by simp[hi,List.getElem?_eq_getElem h]
theorem Bd.hi{l:List To}(h:Bd l){p:Nat}(hp:p<l.length):0<=hi l p/\hi l p<=10000:=by rw[pW hp];exact h _ (List.getElem_mem hp)
def Sd(X:List To):Prop:=X.Pairwise fun x y=>x.1.2<=y.1.2
theorem Sd.get{X:List To}(h:Sd X){p q:Nat}(hpq:p<=q)(hq:q<X.length):X[p].1.2<=X[q].1.2:=by
 rcases Nat.lt_or_eq_of_le hpq with h1|rfl
 ·exact List.pairwise_iff_getElem.1 h p q (by omega) hq h1
 ·exact Int.le_refl _
theorem UD{l:List (Int×Int)}{f:(Int×Int)->Option Bool}(F:Nat):∀m k,Bv F l f m k=Jt l f m k
 |0,_=>rfl
 |m+1,k=>by unfold Bv Jt;simp only[UD F m]
theorem dD{l:List (Int×Int)}{f:(Int×Int)->Option Bool}{p:(Int×Int)->Bool}{F:Nat}(hf:∀x∈l,f x=some (p x))(hF:l.length<F)(hl:l.length<4611686018427387904):C8 F l f=some (l.any p):=by
 obtain⟨r,h1,h2,h3⟩:=NE hf hl F 0 (Nat.zero_le _) (by omega);unfold C8 FJ;rw[UD];simp only[Int.natCast_zero,List.drop_zero]at h1 h2 h3;rw[h1];cases hp:l.any p with
 |true=>obtain⟨j,rfl⟩:=h2 hp;simp
 |false=>rw[h3 hp];simp
end Sg
end Go.Proofs.YtfmelbioccbdoaaGreat
end
section
namespace Go.Proofs.YtfmelbioccbdoaaGreat
open Go Go.Md Go.RowKit
namespace Jn
def Ht(e:Pg):Bool:=(decide (0<=e.1.1)&&decide (e.1.1<=e.1.2)&&decide (e.1.2<=1000))&&(decide (0<=e.2)&&decide (e.2<=100000))
theorem Ma{e:Pg}:Ht e=true↔(0<=e.1.1/\e.1.1<=e.1.2/\e.1.2<=1000)/\0<=e.2/\e.2<=100000:=by
 unfold Ht;simp[and_assoc]
structure VC(c:BB):Prop where
 n1:1<=c.1.length
 n8:c.1.length<=8
 ends:∀p∈c.1,Ht p.1.1=true/\Ht p.1.2=true
 off:0<=c.2.1/\c.2.1<=1000
 step:-100000<=c.2.2.1/\c.2.2.1<=c.2.2.2/\c.2.2.2<=100000
def WA(c:BB):Int:=
 if c.1.length<1\/8<c.1.length then 6 else if(c.1.all fun p=>Ht p.1.1&&Ht p.1.2)=false then 2 else
 if 0<=c.2.1/\c.2.1<=1000/\-100000<=c.2.2.1/\c.2.2.1<=c.2.2.2/\c.2.2.2<=100000 then 0 else 2
theorem Sv{c:BB}:WA c=0↔VC c:=by
 unfold WA;by_cases h0:c.1.length<1\/8<c.1.length
 ·rw[if_pos h0];exact⟨fun h=>by(cases h),fun h=>by(have:=h.n1;have:=h.n8;omega)⟩
 rw[if_neg h0];by_cases h1:(c.1.all fun p=>Ht p.1.1&&Ht p.1.2)=false
 ·rw[if_pos h1]
  refine⟨fun h=>by(cases h),fun h=>?_⟩;have:(c.1.all fun p=>Ht p.1.1&&Ht p.1.2)=true:=List.all_eq_true.2 fun p hp=>by have:=h.ends p hp;rw[this.1,this.2];rfl
  rw[this]at h1;cases h1
 rw[if_neg h1];by_cases h2:0<=c.2.1/\c.2.1<=1000/\-100000<=c.2.2.1/\c.2.2.1<=c.2.2.2/\c.2.2.2<=100000
 ·rw[if_pos h2]
  refine⟨fun _=>⟨by omega,by omega,fun p hp=>?_,⟨h2.1,h2.2.1⟩,h2.2.2⟩,fun _=>rfl⟩;have:=List.all_eq_true.1 (show(c.1.all fun p=>Ht p.1.1&&Ht p.1.2)=true by revert h1;cases(c.1.all fun p=>Ht p.1.1&&Ht p.1.2)<;>simp) p hp;simpa using this
 ·rw[if_neg h2];exact⟨fun h=>by(cases h),fun h=>absurd ⟨h.off.1,h.off.2,h.step⟩ h2⟩
theorem rl2{F:Nat}{c:BB}{k:Nat}(hk:k<c.1.length)(m:Nat):Bp F c (k:Int) (m+3) 0=some (if(Ht (c.1[k]).1.1&&Ht (c.1[k]).1.2)=true then .inr ()else .inl 2):=by
 have step:∀(e:Pg)(y:Int)(n:Nat),ix [(c.1[k]).1.1,(c.1[k]).1.2] y=some e->y<2->Bp F c (k:Int) (n+1) y=if Ht e=true then Bp F c (k:Int) n (AZ (y+1))else some (.inl 2):=by
  intro e y n he hy
  conv=>lhs;unfold Bp
  rw[if_pos (by simpa using hy),A7 hk];simp only[Ab,AJ];rw[he];simp only[AJ,JR];unfold Ht;by_cases c1:0<=e.1.1/\e.1.1<=e.1.2/\e.1.2<=1000/\0<=e.2/\e.2<=100000
  ·rw[if_neg (by simp;omega),if_pos (by simp;omega)]
  ·rw[if_pos (by simp;omega),if_neg (by simp;omega)]
 rw[step _ 0 (m+2) rfl (by omega)];cases h0:Ht (c.1[k]).1.1 with
 |false=>rfl
 |true=>
  rw[if_pos rfl,show AZ (0+1)=1 from rfl,step _ 1 (m+1) rfl (by omega)];cases h1:Ht (c.1[k]).1.2 with
  |false=>rfl
  |true=>
   rw[if_pos rfl,show AZ (1+1)=2 from rfl];unfold Bp;rw[if_neg (by decide)];rfl
theorem rl1{F:Nat}(hF:1000<F){c:BB}(hl:c.1.length<=1000):∀(m k:Nat),k<=c.1.length->c.1.length-k<m->
  Cy F c m (k:Int)=some (if((c.1.drop k).all fun p=>Ht p.1.1&&Ht p.1.2)=true then .inr ()else .inl 2)
 |0,k,_,h=>by omega
 |m+1,k,hk,h=>by
  unfold Cy;by_cases hlt:k<c.1.length
  ·obtain⟨G,rfl⟩:∃G,F=G+3:=⟨F-3,by omega⟩
   have hd:c.1.drop k=c.1[k]::c.1.drop (k+1):=List.drop_eq_getElem_cons hlt;rw[if_pos (by simpa using hlt),rl2 hlt G,hd,List.all_cons];cases Ht (c.1[k]).1.1&&Ht (c.1[k]).1.2 with
   |false=>rfl
   |true=>
    rw[if_pos rfl,Bool.true_and];simp only[Ab,AJ];rw[show AZ ((k:Int)+1)=((k+1:Nat):Int) by rw[BO (by omega)];rfl,rl1 hF hl m (k+1) (by omega) (by omega)]
  ·rw[if_neg (by simpa using hlt),List.drop_of_length_le (by omega)];rfl
theorem Xm{F:Nat}(hF:1000<F)(c:BB):DF F c=some (WA c):=by
 unfold DF WA;by_cases h0:c.1.length<1\/8<c.1.length
 ·rw[if_pos h0,if_pos (by simp;omega)]
 ·rw[if_neg h0,if_neg (by simp;omega)]
  have:=rl1 hF (c:=c) (by omega) F 0 (by omega) (by omega);rw[show((0:Nat):Int)=0 from rfl,List.drop_zero]at this;rw[this];cases h1:c.1.all fun p=>Ht p.1.1&&Ht p.1.2 with
  |false=>rfl
  |true=>
   rw[if_pos rfl,if_neg (by simp)];simp only[Ab,AJ];by_cases h2:0<=c.2.1/\c.2.1<=1000
   ·have e1:(!((decide (c.2.1<0))||(decide (1000<c.2.1))))=true:=by simp;omega
    rw[e1];simp only[gd,cond_true,JR,AJ];by_cases h3:-100000<=c.2.2.1/\c.2.2.1<=c.2.2.2/\c.2.2.2<=100000
    ·rw[if_neg (by simp;omega),if_pos ⟨h2.1,h2.2,h3⟩]
    ·rw[if_pos (by simp;omega),if_neg (fun h=>h3 h.2.2)]
   ·have e1:(!((decide (c.2.1<0))||(decide (1000<c.2.1))))=false:=by simp;omega
    rw[e1];simp only[gd,cond_false,AJ];rw[if_pos (by simp),if_neg (fun h=>h2 ⟨h.1,h.2.1⟩)]
theorem Us{F:Nat}{lo hi:Int}{l:List (Int×Int)}(hF:l.length<F)(hl:l.length<4611686018427387904):GQ F lo hi l=some (l.all fun r=>decide (lo<=r.1)&&decide (r.1<=r.2)&&decide (r.2<=hi)):=by
 unfold GQ;rw[Sg.dD (p:=fun r=>!(decide (lo<=r.1)&&decide (r.1<=r.2)&&decide (r.2<=hi))) (fun x _=>by
  unfold KX;congr 1;rw[Bool.eq_iff_iff];simp<;>omega) hF hl]
 simp only[Ab,AJ];rw[kX,Bool.not_not]
theorem uj{F:Nat}(hF:1000<F){c:BB}(hl:c.1.length<=1000)(hv:∀p∈c.1,Ht p.1.1=true/\Ht p.1.2=true):∀(m k:Nat),k<=c.1.length->c.1.length-k<m->
  Cg F c m true (k:Int)=some true
 |0,k,_,h=>by omega
 |m+1,k,hk,h=>by
  unfold Cg;by_cases hlt:k<c.1.length
  ·have h1:=hv _ (List.getElem_mem hlt)
   have a:=Ma.1 h1.1;have b:=Ma.1 h1.2;rw[if_pos (by simpa using hlt),A7 hlt];simp only[Ab,AJ,if_true];rw[Us (by simp;omega) (by simp)];simp only[AJ,List.all_cons,List.all_nil,Bool.and_true];rw[if_pos (by simp;omega)];simp only[CU,AJ];rw[Us (by simp;omega) (by simp)];simp only[AJ,List.all_cons,List.all_nil,Bool.and_true];have e:((decide (0<=(c.1[k]).1.1.2)&&decide ((c.1[k]).1.1.2<=(c.1[k]).1.1.2)&&decide ((c.1[k]).1.1.2<=100000))&&(decide (0<=(c.1[k]).1.2.2)&&decide ((c.1[k]).1.2.2<=(c.1[k]).1.2.2)&&decide ((c.1[k]).1.2.2<=100000)))=true:=by simp;omega
   rw[e,show AZ ((k:Int)+1)=((k+1:Nat):Int) by rw[BO (by omega)];rfl,uj hF hl hv m (k+1) (by omega) (by omega)]
  ·rw[if_neg (by simpa using hlt)]
theorem lI{F:Nat}(hF:1000<F){c:BB}(h:VC c):GX F c=some 0:=by
 unfold GX;have h1:=h.n1;have h2:=h.n8;have h3:=h.off;have h4:=h.step;rw[if_neg (by simp only[Bool.or_eq_true,decide_eq_true_eq];omega)];simp only[CU,Ab,AJ];rw[Us (by simp;omega) (by simp)];simp only[AJ,List.all_cons,List.all_nil,Bool.and_true];have e:(decide (0<=c.2.1)&&decide (c.2.1<=c.2.1)&&decide (c.2.1<=1000))=true:=by simp;omega
 rw[e];simp only[gd,cond_true];rw[Us (by simp;omega) (by simp)];simp only[AJ,List.all_cons,List.all_nil,Bool.and_true];have e:(decide (-100000<=c.2.2.1)&&decide (c.2.2.1<=c.2.2.2)&&decide (c.2.2.2<=100000))=true:=by simp;omega
 rw[e,Bool.true_and];have:=uj hF (c:=c) (by omega) h.ends F 0 (by omega) (by omega);rw[show Cg F c F true 0=some true from this]
 rfl
def EW:Nat->List OB->List Am
 |_,[]=>[]
 |k,p::P=>((k:Int),false)::((if p.2=true then[((k:Int),true)]else[])++EW (k+1) P)
theorem Ol:∀(P:List OB)(k:Nat),(EW k P).length<=2*P.length
 |[],_=>by simp[EW]
 |p::P,k=>by
  have:=Ol P (k+1);unfold EW;cases p.2<;>simp<;>omega
theorem WB{s:Am}:∀(P:List OB)(k:Nat),s∈EW k P↔∃i:Nat,s.1=((k+i:Nat):Int)/\∃p,P[i]?=some p/\(s.2=true->p.2=true)
 |[],k=>by simp[EW]
 |p::P,k=>by
  unfold EW;rw[List.mem_cons,List.mem_append,WB P (k+1)];constructor
  ·rintro(rfl|h|⟨i,h1,q,h2,h3⟩)
   ·exact⟨0,rfl,p,rfl,fun h=>by cases h⟩
   ·cases hp:p.2 with
    |false=>rw[hp]at h;simp at h
    |true=>
     rw[hp]at h;have:s=((k:Int),true):=by simpa using h
     subst this;exact⟨0,rfl,p,rfl,fun _=>hp⟩
   ·exact⟨i+1,by rw[h1];congr 1;omega,q,by simpa using h2,h3⟩
  ·rintro⟨i,h1,q,h2,h3⟩
   cases i with
   |zero=>
    have:p=q:=by simpa using h2
    subst this;cases hs:s.2 with
    |false=>left;exact Prod.ext h1 hs
    |true=>right;left;rw[h3 hs];simp;exact Prod.ext h1 hs
   |succ i=>right;right;exact⟨i,by rw[h1];congr 1;omega,q,by simpa using h2,h3⟩
theorem pX{P:List OB}(hP:P.length<=1000):∀(m k:Nat)(st:List Am),k<=P.length->P.length-k<m->st.length<=2*k->MH P m (k:Int) st=some (st++EW k (P.drop k))
 |0,k,_,_,h,_=>by omega
 |m+1,k,st,hk,h,hs=>by
  unfold MH;by_cases hlt:k<P.length
  ·have hd:P.drop k=P[k]::P.drop (k+1):=List.drop_eq_getElem_cons hlt
   rw[if_pos (by simpa using hlt),A7 hlt];simp only[Ab,AJ];rw[Fu (by simp;omega)];simp only[AJ];rw[show AZ ((k:Int)+1)=((k+1:Nat):Int) by rw[BO (by omega)];rfl,hd,EW];cases(P[k]).2 with
   |true=>
    rw[if_pos rfl,Fu (by simp;omega)];simp only[AJ];rw[pX hP m (k+1) _ (by omega) (by omega) (by simp;omega)];simp
   |false=>rw[if_neg (by simp),pX hP m (k+1) _ (by omega) (by omega) (by simp;omega)];simp
  ·rw[if_neg (by simpa using hlt),List.drop_of_length_le (by omega)];simp[EW]
def IsStep(c:BB)(s:Am):Prop:=∃i:Nat,s.1=(i:Int)/\∃p,c.1[i]?=some p/\(s.2=true->p.2=true)
theorem MP{c:BB}{s:Am}:s∈EW 0 c.1↔IsStep c s:=by
 rw[WB];simp only[Nat.zero_add];rfl
def UE(c:BB)(s:Am):Pg:=if s.2=true then((ix c.1 s.1).getD default).1.2 else((ix c.1 s.1).getD default).1.1
def fin(c:BB)(s:Am):Pg:=if s.2=true then((ix c.1 s.1).getD default).1.1 else((ix c.1 s.1).getD default).1.2
theorem IsStep.ix{c:BB}{s:Am}(h:IsStep c s):∃p,Md.ix c.1 s.1=some p/\p∈c.1/\(s.2=true->p.2=true):=by
 obtain⟨i,h1,p,h2,h3⟩:=h;exact⟨p,by rw[h1];simpa[Md.ix]using h2,List.mem_of_getElem? h2,h3⟩
theorem IsStep.ok{c:BB}(hv:VC c){s:Am}(h:IsStep c s):Ht (UE c s)=true/\Ht (fin c s)=true:=by
 obtain⟨p,h1,h2,-⟩:=h.ix;have:=hv.ends p h2;unfold UE fin;rw[h1];cases s.2
 ·exact this
 ·exact⟨this.2,this.1⟩
def gZ(c:BB)(e d:Pg):Bool:=decide (e.1.1-d.1.2<=c.2.1)&&decide (d.1.1-e.1.2<=c.2.1)&&(decide (c.2.2.1<=d.2-e.2)&&decide (d.2-e.2<=c.2.2.2))
def fit(c:BB)(p q:Am):Bool:=!decide (p.1=q.1)&&gZ c (fin c p) (UE c q)
theorem pY{c:BB}(hv:VC c){st:List Am}{X:ET}{p q:Am}(hp:IsStep c p)(hq:IsStep c q):Vv (c,st,X,.mk,.mk) p q=some (fit c p q):=by
 unfold Vv fit;by_cases h:p.1=q.1
 ·rw[if_neg (by simpa using h),decide_eq_true h];rfl
 ·rw[if_pos (by simpa using h),decide_eq_false h,Bool.not_false,Bool.true_and]
  obtain⟨x,hx,-,-⟩:=hp.ix;obtain⟨y,hy,-,-⟩:=hq.ix;have e1:Dj (c,st,X,.mk,.mk) p 1=some (fin c p):=by
   unfold Dj fin;rw[hx];cases p.2
   ·rfl
   ·rfl
  have e2:Dj (c,st,X,.mk,.mk) q 0=some (UE c q):=by
   unfold Dj UE;rw[hy];cases q.2
   ·rfl
   ·rfl
  rw[e1,e2];have a:=Ma.1 (hp.ok hv).2;have b:=Ma.1 (hq.ok hv).1;simp only[Ab,AJ];unfold HY gZ;generalize fin c p=e at a⊢;generalize UE c q=d at b⊢;rw[BO (n:=e.1.1-d.1.2) (by omega),BO (n:=d.1.1-e.1.2) (by omega),BO (n:=d.2-e.2) (by omega)]
  congr 1
  rw[Bool.eq_iff_iff];split<;>simp<;>omega
section
def en(X:ET)(i k:Nat):Option Int:=(X.l[i]?).bind fun r=>r.l[k]?
theorem en_get{X:ET}{i k:Nat}(hi:i<16)(hk:k<16):∃r v,X.l[i]?=some r/\r.l[k]?=some v/\en X i k=some v:=by
 have h1:i<X.l.length:=by rw[X.h];exact hi
 have h2:k<(X.l[i]).l.length:=by rw[(X.l[i]).h];exact hk
 exact⟨X.l[i],(X.l[i]).l[k],List.getElem?_eq_getElem h1,List.getElem?_eq_getElem h2,by unfold en;rw[List.getElem?_eq_getElem h1,AJ,List.getElem?_eq_getElem h2]⟩
theorem pq{X:ET}{i k:Nat}{r:Ar 16 Int}(hr:X.l[i]?=some r)(hk:k<16)(i' k':Nat):en (EN X (i:Int) (EN r (k:Int) 1)) i' k'=if i'=i/\k'=k then some 1 else en X i' k':=by
 have hi:i<X.l.length:=(List.getElem?_eq_some_iff.1 hr).1;have hkl:k<r.l.length:=by rw[r.h];exact hk
 unfold en;show((X.l.set (i:Int).toNat (EN r (k:Int) 1))[i']?).bind _=_;rw[Int.toNat_natCast];by_cases h1:i'=i
 ·subst h1
  rw[List.getElem?_set_self hi,AJ,hr,AJ];show(r.l.set (k:Int).toNat 1)[k']?=_;rw[Int.toNat_natCast];by_cases h2:k'=k
  ·subst h2;rw[List.getElem?_set_self hkl,if_pos ⟨rfl,rfl⟩]
  ·rw[List.getElem?_set_ne (fun h=>h2 h.symm),if_neg (fun h=>h2 h.2)]
 ·rw[List.getElem?_set_ne (fun h=>h1 h.symm),if_neg (fun h=>h1 h.1)]
theorem Xn{c:BB}(hv:VC c){st:List Am}(hst:∀s∈st,IsStep c s)(h16:st.length<=16){i:Nat}(hi:i<16){p:Am}(hp:IsStep c p):∀(m k:Nat)(X:ET),k<=st.length->st.length-k<m->
  ∃Z,MI c st (i:Int) p m (k:Int) X=some Z/\∀i' k',en Z i' k'=if i'=i/\k<=k'/\(∃q,st[k']?=some q/\fit c p q=true)then some 1 else en X i' k'
 |0,k,_,_,h=>by omega
 |m+1,k,X,hk,h=>by
  unfold MI;by_cases hlt:k<st.length
  ·have hq:=hst _ (List.getElem_mem hlt)
   have hw:AZ ((k:Int)+1)=((k+1:Nat):Int):=by rw[BO (by omega)];rfl
   rw[if_pos (by simpa using hlt),A7 hlt];simp only[Ab,AJ];rw[pY hv hp hq];simp only[AJ];cases hf:fit c p st[k]with
   |true=>
    obtain⟨r,v,h1,h2,-⟩:=en_get (X:=X) hi (show k<16 by omega);have hil:i<X.l.length:=(List.getElem?_eq_some_iff.1 h1).1;have hrl:k<r.l.length:=(List.getElem?_eq_some_iff.1 h2).1;rw[if_pos rfl,A7 hil,show X.l[i]=r from(List.getElem?_eq_some_iff.1 h1).2];simp only[AJ];rw[A7 hrl];simp only[AJ];rw[hw];obtain⟨Z,e1,e2⟩:=Xn hv hst h16 hi hp m (k+1) (EN X (i:Int) (EN r (k:Int) 1)) (by omega) (by omega);refine⟨Z,e1,fun i' k'=>?_⟩;rw[e2,pq h1 (by omega)];by_cases c1:i'=i/\k<=k'/\(∃q,st[k']?=some q/\fit c p q=true)
    ·rw[if_pos c1]
     by_cases c2:k'=k
     ·rw[if_neg (by omega),if_pos ⟨c1.1,c2⟩]
     ·rw[if_pos ⟨c1.1,by omega,c1.2.2⟩]
    ·rw[if_neg c1,if_neg (fun h=>c1 ⟨h.1,by omega,h.2.2⟩),if_neg]
     rintro⟨h3,rfl⟩;exact c1 ⟨h3,Nat.le_refl _,_,List.getElem?_eq_getElem hlt,hf⟩
   |false=>
    rw[if_neg (by simp),hw];obtain⟨Z,e1,e2⟩:=Xn hv hst h16 hi hp m (k+1) X (by omega) (by omega);refine⟨Z,e1,fun i' k'=>?_⟩;rw[e2];by_cases c1:i'=i/\k<=k'/\(∃q,st[k']?=some q/\fit c p q=true)
    ·rw[if_pos c1,if_pos]
     refine⟨c1.1,?_,c1.2.2⟩;obtain⟨q,h3,h4⟩:=c1.2.2;rcases Nat.lt_or_ge k k' with h5|h5
     ·exact h5
     ·have:k'=k:=by omega
      subst this;rw[List.getElem?_eq_getElem hlt]at h3;cases h3;rw[hf]at h4;cases h4
    ·rw[if_neg c1,if_neg (fun h=>c1 ⟨h.1,by omega,h.2.2⟩)]
  ·rw[if_neg (by simpa using hlt)]
   refine⟨X,rfl,fun i' k'=>?_⟩;rw[if_neg];rintro⟨-,h1,q,h2,-⟩;have:=(List.getElem?_eq_some_iff.1 h2).1;omega
open Classical in
theorem ul{F:Nat}(hF:1000<F){c:BB}(hv:VC c){st:List Am}(hst:∀s∈st,IsStep c s)(h16:st.length<=16):∀(m k:Nat)(X:ET),k<=st.length->st.length-k<m->
  ∃Z,Nf F c st m (k:Int) X=some Z/\∀i' k',en Z i' k'=if k<=i'/\(∃p q,st[i']?=some p/\st[k']?=some q/\fit c p q=true)then some 1 else en X i' k'
 |0,k,_,_,h=>by omega
 |m+1,k,X,hk,h=>by
  unfold Nf;by_cases hlt:k<st.length
  ·have hp:=hst _ (List.getElem_mem hlt)
   rw[if_pos (by simpa using hlt),A7 hlt];simp only[Ab,AJ];obtain⟨Y,e1,e2⟩:=Xn hv hst h16 (show k<16 by omega) hp F 0 X (by omega) (by omega);rw[show MI c st (k:Int) st[k] F 0 X=some Y from e1];simp only[AJ];rw[show AZ ((k:Int)+1)=((k+1:Nat):Int) by rw[BO (by omega)];rfl];obtain⟨Z,f1,f2⟩:=ul hF hv hst h16 m (k+1) Y (by omega) (by omega);refine⟨Z,f1,fun i' k'=>?_⟩;rw[f2,e2];by_cases c1:k<=i'/\(∃p q,st[i']?=some p/\st[k']?=some q/\fit c p q=true)
   ·rw[if_pos c1]
    obtain⟨h1,p,q,h2,h3,h4⟩:=c1;by_cases c2:i'=k
    ·subst c2
     rw[List.getElem?_eq_getElem hlt]at h2;cases h2;rw[if_neg (by omega),if_pos ⟨rfl,Nat.zero_le _,q,h3,h4⟩]
    ·rw[if_pos ⟨by omega,p,q,h2,h3,h4⟩]
   ·rw[if_neg c1,if_neg (fun h=>c1 ⟨by omega,h.2⟩),if_neg]
    rintro⟨rfl,-,q,h3,h4⟩;exact c1 ⟨Nat.le_refl _,_,q,List.getElem?_eq_getElem hlt,h3,h4⟩
  ·rw[if_neg (by simpa using hlt)]
   refine⟨X,rfl,fun i' k'=>?_⟩;rw[if_neg];rintro⟨h1,p,q,h2,-⟩;have:=(List.getElem?_eq_some_iff.1 h2).1;omega
def NF(c:BB)(X:ET):Prop:=∀(i k:Nat)(p q:Am),(EW 0 c.1)[i]?=some p->(EW 0 c.1)[k]?=some q->∃r,ix X.l (i:Int)=some r/\ix r.l (k:Int)=some (if fit c p q=true then 1 else 0)
theorem XB{F:Nat}(hF:1000<F){c:BB}(hv:VC c):∃X,Hz F c=some ⟨some (c,EW 0 c.1,X,.mk,.mk)⟩/\NF c X:=by
 have h8:=hv.n8;have hl:=Ol c.1 0;have e1:=pX (P:=c.1) (by omega) F 0 [] (by omega) (by omega) (Nat.le_refl _);rw[List.drop_zero,List.nil_append]at e1;obtain⟨X,e2,e3⟩:=ul hF hv (st:=EW 0 c.1) (fun s hs=>MP.1 hs) (by omega) F 0 (Ar.fill 16 (Ar.fill 16 0)) (by omega) (by omega);refine⟨X,?_,?_⟩
 ·unfold Hz
  rw[show MH c.1 F 0 []=some (EW 0 c.1)from e1];simp only[Ab,AJ];rw[show Nf F c (EW 0 c.1) F 0 (Ar.fill 16 (Ar.fill 16 0))=some X from e2]
  rfl
 ·intro i k p q hp hq
  have hi:=(List.getElem?_eq_some_iff.1 hp).1;have hk:=(List.getElem?_eq_some_iff.1 hq).1;obtain⟨r,v,h1,h2,h3⟩:=en_get (X:=X) (show i<16 by omega) (show k<16 by omega);have hil:i<X.l.length:=(List.getElem?_eq_some_iff.1 h1).1;have hrl:k<r.l.length:=(List.getElem?_eq_some_iff.1 h2).1;refine⟨r,by rw[A7 hil];exact congrArg some (List.getElem?_eq_some_iff.1 h1).2,?_⟩;rw[A7 hrl,show r.l[k]=v from(List.getElem?_eq_some_iff.1 h2).2];have h4:=e3 i k;rw[h3]at h4;have e0:en (Ar.fill 16 (Ar.fill 16 0)) i k=some 0:=by
   unfold en;show((List.replicate 16 (Ar.fill 16 (0:Int)))[i]?).bind _=_;rw[List.getElem?_replicate,if_pos (by omega),AJ];show(List.replicate 16 (0:Int))[k]?=_;rw[List.getElem?_replicate,if_pos (by omega)]
  by_cases hf:fit c p q=true
  ·rw[if_pos hf]
   rw[if_pos ⟨Nat.zero_le _,p,q,hp,hq,hf⟩]at h4;exact h4
  ·rw[if_neg hf]
   rw[if_neg,e0]at h4
   ·exact h4
   ·rintro⟨-,p',q',h5,h6,h7⟩
    rw[hp]at h5;rw[hq]at h6;cases h5;cases h6;exact hf h7
theorem UF{α:Type}{l:List α}{f:α->Option Bool}{p:α->Bool}(hf:∀x∈l,f x=some (p x))(hl:l.length<4611686018427387904):
  ∀(m k:Nat),k<=l.length->l.length-k<m->(∃j:Nat,Jt l f m (k:Int)=some (.inl (j:Int))/\∃x,l[j]?=some x/\p x=true)\/(Jt l f m (k:Int)=some (.inr ())/\∀x∈l.drop k,p x=false)
 |0,k,_,h=>by omega
 |m+1,k,hk,h=>by
  unfold Jt;by_cases hlt:k<l.length
  ·rw[if_pos (by simpa using hlt),A7 hlt]
   have hd:l.drop k=l[k]::l.drop (k+1):=List.drop_eq_getElem_cons hlt;simp only[Ab,AJ,hf l[k] (List.getElem_mem hlt)];cases hp:p l[k]with
   |true=>left;exact⟨k,if_pos rfl,l[k],List.getElem?_eq_getElem hlt,hp⟩
   |false=>
    rw[if_neg (by simp),show AZ ((k:Int)+1)=((k+1:Nat):Int) by rw[BO (by omega)];rfl];rcases UF hf hl m (k+1) (by omega) (by omega)with h1|⟨h1,h2⟩
    ·exact .inl h1
    ·refine .inr ⟨h1,fun x hx=>?_⟩
     rw[hd]at hx;rcases List.mem_cons.1 hx with rfl|hx
     ·exact hp
     ·exact h2 x hx
  ·right
   rw[if_neg (by simpa using hlt),List.drop_of_length_le (by omega)];exact⟨rfl,by simp⟩
theorem UG{l:List Am}{f:Am->Option Bool}(F:Nat):∀m k,CG F l f m k=Jt l f m k
 |0,_=>rfl
 |m+1,k=>by unfold CG Jt;simp only[UG F m]
theorem gq{F:Nat}(hF:1000<F){c:BB}(hv:VC c){X:ET}{s:Am}(hs:IsStep c s):∃j:Nat,GL F (c,EW 0 c.1,X,Opq.mk,Opq.mk) s=some (j:Int)/\(EW 0 c.1)[j]?=some s:=by
 have h8:=hv.n8;have hl:=Ol c.1 0;unfold GL Fs;rw[UG];rcases UF (l:=EW 0 c.1) (f:=fun y=>GY y (s.1,s.2)) (p:=fun y=>decide (y=s)) (fun x _=>rfl) (by omega) F 0 (by omega) (by omega)with⟨j,h1,x,h2,h3⟩|⟨h1,h2⟩
 ·refine⟨j,?_,?_⟩
  ·rw[show Jt (EW 0 c.1) (fun y=>GY y (s.1,s.2)) F 0=some (.inl (j:Int))from h1];rfl
  ·rw[h2,of_decide_eq_true h3]
 ·rw[List.drop_zero]at h2
  have:=h2 s (MP.2 hs);simp at this
theorem WC{l:List Am}{f:Am->Option Bool}(F:Nat):∀m k,Bh F l f m k=Jt l f m k
 |0,_=>rfl
 |m+1,k=>by unfold Bh Jt;simp only[WC F m]
theorem gy{l:List Am}{f:Am->Option Bool}{p:Am->Bool}{F:Nat}(hf:∀x∈l,f x=some (p x))(hF:l.length<F)(hl:l.length<4611686018427387904):Ce F l f=some (l.any p):=by
 obtain⟨r,h1,h2,h3⟩:=NE hf hl F 0 (Nat.zero_le _) (by omega);unfold Ce D6;rw[WC];simp only[Int.natCast_zero,List.drop_zero]at h1 h2 h3;rw[h1];cases hp:l.any p with
 |true=>obtain⟨j,rfl⟩:=h2 hp;simp
 |false=>rw[h3 hp];simp
theorem Sw{F:Nat}(hF:1000<F){c:BB}(hv:VC c){l:List Am}(hl:∀s∈l,IsStep c s)(hn:l.length<1000):∃X,Jp F c l=some (⟨some (c,EW 0 c.1,X,.mk,.mk)⟩,0)/\NF c X:=by
 obtain⟨X,e1,e2⟩:=XB hF hv;refine⟨X,?_,e2⟩;unfold Jp;have ex:(c.1,c.2.1,(c.2.2.1,c.2.2.2))=c:=rfl;rw[ex,lI hF hv];simp only[Ab,AJ];rw[if_neg (by simp),e1];simp only[AJ];rw[gy (p:=fun _=>false) (fun s hs=>by
  obtain⟨j,h1,-⟩:=gq hF hv (X:=X) (hl s hs);unfold LZ;simp only[Ab,AJ];rw[show GL F ((c.1,c.2.1,(c.2.2.1,c.2.2.2)),EW 0 c.1,X,Opq.mk,Opq.mk) (s.1,s.2)=some (j:Int)from h1];simp only[AJ];show some (decide ((j:Int)<0))=some false;rw[decide_eq_false (by omega)]) (by omega) (by omega)]
 simp only[AJ];have:(l.any fun _=>false)=false:=by simp
 rw[this,if_neg (by simp)]
end
structure Ord(c:BB)(l:List Am):Prop where
 steps:∀s∈l,IsStep c s
 nodup:(l.map (·.1)).Nodup
 len:l.length=c.1.length
def MQ(c:BB):List Am->Bool
 |a::b::l=>fit c a b&&MQ c (b::l)
 |_=>true
theorem ZW{c:BB}{l:List Am}{k:Nat}(hk:1<=k)(hlt:k<l.length):MQ c (l.drop (k-1))=(fit c l[k-1] l[k]&&MQ c (l.drop k)):=by
 have e1:l.drop (k-1)=l[k-1]::l.drop k:=by
  have:=List.drop_eq_getElem_cons (show k-1<l.length by omega);rw[this];congr 2;omega
 have e2:l.drop k=l[k]::l.drop (k+1):=List.drop_eq_getElem_cons hlt;rw[e1,e2];rfl
theorem Lr{α:Type}[DecidableEq α]:∀{l k:List α},l.Nodup->(∀a∈l,a∈k)->l.length<=k.length
 |[],_,_,_=>Nat.zero_le _
 |a::l,k,hn,hs=>by
  rw[List.nodup_cons]at hn;have ha:=hs a (List.mem_cons_self ..);have:=Lr (k:=k.erase a) hn.2 fun b hb=>by
   have hne:b≠a:=fun e=>hn.1 (e▸hb);exact(List.mem_erase_of_ne hne).2 (hs b (List.mem_cons_of_mem _ hb))
  rw[List.length_erase_of_mem ha]at this;have:=List.length_pos_of_mem ha;simp only[List.length_cons];omega
theorem ZX{α:Type}{p:α->Bool}{l:List α}(h:l.length<=(l.filter p).length):∀a∈l,p a=true:=by
 have:=List.length_filter_le p l;exact List.length_filter_eq_length_iff.1 (by omega)
theorem JK{α β:Type}{L:List α}{f:α->List β}(h:L.Nodup)(h1:∀a∈L,(f a).Nodup)(h2:∀a∈L,∀b∈L,∀x,x∈f a->x∈f b->a=b):(L.flatMap f).Nodup:=by
 induction L with
 |nil=>simp
 |cons a L ih=>
  rw[List.nodup_cons]at h;rw[List.flatMap_cons,List.nodup_append];refine⟨h1 a (List.mem_cons_self ..),ih h.2 (fun b hb=>h1 b (List.mem_cons_of_mem _ hb)) (fun b hb c hc=>h2 b (List.mem_cons_of_mem _ hb) c (List.mem_cons_of_mem _ hc)),fun x hx y hy e=>?_⟩;subst e;obtain⟨b,hb,hy⟩:=List.mem_flatMap.1 hy;have:=h2 a (List.mem_cons_self ..) b (List.mem_cons_of_mem _ hb) x hx hy;subst this;exact h.1 hb
theorem Lu{α β:Type}{L:List α}{f:α->β}(h:L.Nodup)(hf:∀a∈L,∀b∈L,f a=f b->a=b):(L.map f).Nodup:=by
 rw[List.Nodup,List.pairwise_map];exact List.Pairwise.imp_of_mem (fun{a b} ha hb hab e=>hab (hf a ha b hb e)) h
theorem Om{α:Type}{k:α}:∀{p p' t t':List α},p++k::t=p'++k::t'->k∉p->k∉p'->p=p'/\t=t'
 |[],[],t,t',h,_,_=>⟨rfl,by simpa using h⟩
 |[],b::p',t,t',h,_,h2=>by simp at h;exact absurd (by rw[h.1];exact List.mem_cons_self ..) h2
 |a::p,[],t,t',h,h1,_=>by simp at h;exact absurd (by rw[<-h.1];exact List.mem_cons_self ..) h1
 |a::p,b::p',t,t',h,h1,h2=>by
  simp only[List.cons_append,List.cons.injEq]at h;obtain⟨rfl,h⟩:=h;obtain⟨e,e'⟩:=Om h (fun hh=>h1 (List.mem_cons_of_mem _ hh)) (fun hh=>h2 (List.mem_cons_of_mem _ hh));exact⟨by rw[e],e'⟩
def put(U p:Nat):Nat:=U|||1<<<p
def out(U p:Nat):Nat:=U&&&(255-1<<<p)
def fr(n U:Nat):Nat:=((List.range n).filter fun p=>!U.testBit p).length
def us(n U:Nat):Nat:=((List.range n).filter fun p=>U.testBit p).length
theorem Sy(U p q:Nat):(put U p).testBit q=(U.testBit q||decide (q=p)):=by
 unfold put;rw[Nat.testBit_or,Nat.one_shiftLeft,Nat.testBit_two_pow]
 congr 1
 exact decide_eq_decide.2 ⟨fun h=>h.symm,fun h=>h.symm⟩
theorem WE:∀(n:Fin 9)(p:Fin 8)(U:Fin 256),(p.val<n.val->U.val<2^n.val->(put U.val p.val<2^n.val/\out U.val p.val<2^n.val/\(U.val.testBit p.val=false->fr n.val (put U.val p.val)+1=fr n.val U.val)/\(U.val.testBit p.val=true->us n.val (out U.val p.val)+1=us n.val U.val))):=by decide+kernel
theorem iA:∀(p q:Fin 8)(U:Fin 256),(out U.val p.val).testBit q.val=(U.val.testBit q.val&& !decide (q=p)):=by decide+kernel
theorem Nj:∀(n:Fin 9)(U:Fin 256),U.val<2^n.val->((U.val=2^n.val-1↔fr n.val U.val=0)/\(U.val=0↔us n.val U.val=0)/\fr n.val U.val+us n.val U.val=n.val):=by decide+kernel
end Jn
end Go.Proofs.YtfmelbioccbdoaaGreat
end
section
namespace Go.Proofs.YtfmelbioccbdoaaGreat
open Go Go.Md Go.RowKit
namespace Wo
section
theorem QI{f:Nat->Nat}{m:Nat}:∀{L:List Nat},L.Nodup->m∈L->(∀j∈L,j≠m->f j=0)->(L.map f).sum=f m
 |[],_,h,_=>by cases h
 |a::L,hn,h,h0=>by
  rw[List.nodup_cons]at hn;rw[List.map_cons,List.sum_cons];rcases List.mem_cons.1 h with rfl|h
  ·have:(L.map f).sum=0:=by
    have:∀{K:List Nat},(∀j∈K,f j=0)->(K.map f).sum=0:=by
     intro K
     induction K with
     |nil=>intro _;rfl
     |cons b K ih=>intro hK;rw[List.map_cons,List.sum_cons,hK b (List.mem_cons_self ..),ih fun j hj=>hK j (List.mem_cons_of_mem _ hj)]
    exact this fun j hj=>h0 j (List.mem_cons_of_mem _ hj) fun e=>hn.1 (e▸hj)
   omega
  ·rw[h0 a (List.mem_cons_self ..) fun e=>hn.1 (e▸h),QI hn.2 h fun j hj=>h0 j (List.mem_cons_of_mem _ hj)];omega
section
variable {n top:Nat}{lev:Nat->Nat}{B:Nat->Nat->Bool}{m m':Nat}
structure Jst(n:Nat)(B:Nat->Nat->Bool)(m m':Nat):Prop where
 h1:m<n
 h2:m'<n
 b:B m m'=true
 on:∀j,j<n->B m j=true->j=m'\/B m' j=true
 bk:∀j,j<n->B j m'=true->j=m\/B j m=true
theorem Jst.lv(hd:Dag n lev B)(h:Jst n B m m'):lev m'=lev m+1:=by
 have a:=hd.up m m' h.h1 h.h2 h.b;have b:=hd.one m h.h1;obtain⟨j,hj,hb,hl⟩:=hd.dn m' h.h2 (by omega);rcases h.bk j hj hb with rfl|hb'
 ·omega
 ·have:=hd.up j m hj h.h1 hb';omega
theorem Jst.dw(hd:Dag n lev B)(ht:∀i,i<n->lev i<=top)(h:Jst n B m m'):Dw n top lev B m=Dw n top lev B m':=by
 have hl:=h.lv hd;have hm:=ht m' h.h2;have hlt:=hd.lt m m' h.h1 h.h2 h.b;have hm':=h.h2;unfold Dw;rw[Ni];have e0:Ga top lev m=0:=by unfold Ga;rw[if_neg (by omega)]
 rw[e0,Nat.zero_add,QI (m:=m') List.nodup_range' (List.mem_range'_1.2 (by omega))]
 ·rw[if_pos (by unfold FM;rw[h.b,decide_eq_true hl.symm];rfl)]
 ·intro j hj hne
  have hj:=List.mem_range'_1.1 hj;rw[if_neg];intro hc;unfold FM at hc;rw[Bool.and_eq_true]at hc;have e:lev m+1=lev j:=by simpa using hc.1
  rcases h.on j (by omega) hc.2 with e'|hb
  ·exact hne e'
  ·have:=hd.up m' j h.h2 (by omega) hb;omega
theorem Jst.uw(hd:Dag n lev B)(h:Jst n B m m'):Uw lev B m'=Uw lev B m:=by
 have hl:=h.lv hd;have b1:=hd.one m h.h1;have hlt:=hd.lt m m' h.h1 h.h2 h.b;have hm':=h.h2;unfold Uw;rw[Ry];have e0:Ga 1 lev m'=0:=by unfold Ga;rw[if_neg (by omega)]
 rw[e0,Nat.zero_add,QI (m:=m) List.nodup_range (List.mem_range.2 hlt)]
 ·rw[if_pos (by unfold FM;rw[h.b,decide_eq_true hl.symm];rfl)]
 ·intro j hj hne
  have hj:=List.mem_range.1 hj;rw[if_neg];intro hc;unfold FM at hc;rw[Bool.and_eq_true]at hc;have e:lev j+1=lev m':=by simpa using hc.1
  rcases h.bk j (by omega) hc.2 with e'|hb
  ·exact hne e'
  ·have:=hd.up j m (by omega) h.h1 hb;omega
end
section
variable {l:List (List Int)}{g:Tp}
theorem UH:∀j,(He l j).Nodup
 |0=>by simp[He]
 |j+1=>by
  rw[He];refine Jn.JK (UH j) (fun t _=>?_) fun a ha b hb x hx hy=>?_
  ·rw[List.Nodup,List.pairwise_map]
   refine List.nodup_range.imp fun{a b} hab e=>hab ?_;have:=congrFun e j;simpa[upd]using this
  ·obtain⟨i,_,rfl⟩:=List.mem_map.1 hx
   obtain⟨i',_,e⟩:=List.mem_map.1 hy;have za:=(Kr j a ha).2 j (Nat.le_refl _);have zb:=(Kr j b hb).2 j (Nat.le_refl _)
   funext n
   have:=congrFun e n;unfold upd at this;by_cases hn:n=j
   ·subst hn;rw[za,zb]
   ·rw[if_neg hn,if_neg hn]at this;exact this.symm
theorem WG:(Mt g l).Nodup:=List.Nodup.sublist List.filter_sublist (UH _)
theorem pu{i j:Nat}(hi:i<(Mt g l).length)(hj:j<(Mt g l).length)(h:ML (Mt g l) i=ML (Mt g l) j):i=j:=by
 rw[Fv hi,Fv hj]at h;exact(List.getElem_inj WG).1 h
structure Uq(g:Tp)(l:List (List Int)):Prop where
 vl:VL l
 nod:∀r∈l,r.Nodup
 inj:∀i j,i<101->j<101->g i=g j->i=j
theorem Uq.pos(h:Uq g l){j a b:Nat}(hj:j<l.length)(ha:a<ln l j)(hb:b<ln l j)(e:I4 l j a=I4 l j b):a=b:=by
 have eln:ln l j=l[j].length:=by unfold ln;simp[hj]
 have h1:=(Lp h.vl hj ha).1;have h2:=(Lp h.vl hj hb).1;rw[e]at h1;rw[A7 (by omega)]at h1 h2;have:l[j][a]=l[j][b]:=by rw[Option.some.injEq]at h1 h2;rw[h1,h2]
 exact(List.getElem_inj (h.nod _ (List.getElem_mem hj))).1 this
theorem Uq.same(h:Uq g l){f:Tp}(hf:f∈Mt g l){j:Nat}(hj:j<l.length):Wo.I4 l j (f j)=Wo.I4 l 0 (f 0):=by
 have h2:=h.vl.two;obtain⟨a,_,b⟩:=JJ hf;have:=List.all_eq_true.1 b j (List.mem_range.2 hj);exact h.inj _ _ (Lp h.vl hj (a j hj)).2 (Lp h.vl (by omega) (a 0 (by omega))).2 (by simpa using this)
theorem Uq.one(h:Uq g l){f f':Tp}(hf:f∈Mt g l)(hf':f'∈Mt g l){j:Nat}(hj:j<l.length)(e:f j=f' j):f=f':=by
 obtain⟨a,a0,_⟩:=JJ hf;obtain⟨b,b0,_⟩:=JJ hf'
 funext i
 by_cases hi:i<l.length
 ·refine h.pos hi (a i hi) (b i hi) ?_
  rw[h.same hf hi,h.same hf' hi,<-h.same hf hj,<-h.same hf' hj,e]
 ·rw[a0 i (by omega),b0 i (by omega)]
theorem Uq.mem(h:Uq g l){f:Tp}(hf:∀i,i<l.length->f i<ln l i)(h0:∀i,l.length<=i->f i=0)(he:∀i,i<l.length->Wo.I4 l i (f i)=Wo.I4 l 0 (f 0)):f∈Mt g l:=
 jQ hf h0 (List.all_eq_true.2 fun i hi=>by rw[he i (List.mem_range.1 hi)];simp)
theorem Uq.len(h:Uq g l):(Mt g l).length<=ln l 0:=by
 have h2:=h.vl.two;have hn:((Mt g l).map fun f=>f 0).Nodup:=by
  rw[List.Nodup,List.pairwise_map];refine List.Pairwise.imp_of_mem (fun{a b} ha hb hab e=>hab (h.one ha hb (show 0<l.length by omega) e)) (WG (g:=g) (l:=l))
 have:=Jn.Lr (k:=List.range (ln l 0)) hn fun a ha=>by
  obtain⟨f,hf,rfl⟩:=List.mem_map.1 ha;exact List.mem_range.2 ((JJ hf).1 0 (by omega))
 simpa using this
end
end
section
section
variable {F:Nat}{l:List (List Int)}{g:Tp}
theorem um(h4:l.length<=4){Q:List Tp}(hQ:Q.length<=8):∀(m k:Nat),k<=Q.length->Q.length-k<m->DR F l (Q.map (Gp l.length)) m (k:Int)=some (.inr ())
 |0,k,_,h=>by omega
 |m+1,k,hk,h=>by
  unfold DR;by_cases hlt:k<Q.length
  ·rw[if_pos (by simpa using hlt),A7 (by simpa using hlt),List.getElem_map]
   simp only[Ab,AJ,Sm];rw[if_neg (by simp),Ap (by omega),um h4 hQ m (k+1) (by omega) (by omega)]
  ·rw[if_neg (by simpa using hlt)]
theorem ZY{Q:List Tp}{i:Nat}(h:i<Q.length):Md.ix (Q.map (Gp l.length)) (i:Int)=some (Gp l.length Q[i]):=by
 rw[A7 (by simpa using h),List.getElem_map]
theorem uo(h4:l.length<=4){Q:List Tp}{y:Nat}(hy:y<Q.length)(hm:Q[y]∈Mt g l):∀(m k:Nat),k<=l.length->l.length-k<m->DT F l (Q.map (Gp l.length)) (y:Int) m (k:Int)=some (.inr ())
 |0,k,_,h=>by omega
 |m+1,k,hk,h=>by
  unfold DT;by_cases hlt:k<l.length
  ·have hf:=(JJ hm).1 k hlt
   have eln:ln l k=l[k].length:=by unfold ln;simp[hlt]
   rw[if_pos (by simpa using hlt),ZY hy];simp only[Ab,AJ];rw[Pm hlt];simp only[AJ];rw[if_neg (by simp),A7 hlt];simp only[AJ];rw[if_neg (by simp;omega),Ap (by omega),uo h4 hy hm m (k+1) (by omega) (by omega)]
  ·rw[if_neg (by simpa using hlt)]
theorem uq(hF:1000<F)(h4:l.length<=4){Q:List Tp}(hQ:Q.length<=8)(hm:∀f∈Q,f∈Mt g l):∀(m k:Nat),k<=Q.length->Q.length-k<m->DU F l (Q.map (Gp l.length)) m (k:Int)=some (.inr ())
 |0,k,_,h=>by omega
 |m+1,k,hk,h=>by
  unfold DU;by_cases hlt:k<Q.length
  ·have:=uo (F:=F) h4 hlt (hm _ (List.getElem_mem hlt)) F 0 (by omega) (by omega)
   rw[show((0:Nat):Int)=0 from rfl]at this;rw[if_pos (by simpa using hlt),this];simp only[Ab,AJ];rw[Ap (by omega),uq hF h4 hQ hm m (k+1) (by omega) (by omega)]
  ·rw[if_neg (by simpa using hlt)]
theorem uy(h:VL l){g':Tp}(hg:∀i j,i<101->j<101->(g i=g j↔g' i=g' j)){Q:List Tp}{y:Nat}(hy:y<Q.length)(hm:Q[y]∈Mt g l):∀(m k:Nat),k<=l.length->l.length-k<m->DV F l (Q.map (Gp l.length)) (tl g') (y:Int) m (k:Int)=some (.inr ())
 |0,k,_,h=>by omega
 |m+1,k,hk,hh=>by
  have h2:=h.two;have h4:=h.four;unfold DV;by_cases hlt:k<l.length
  ·obtain⟨hf,_,hmt⟩:=JJ hm
   have a:=Lp h hlt (hf k hlt);have b:=Lp h (j:=0) (by omega) (hf 0 (by omega));have e:g (I4 l k (Q[y] k))=g (I4 l 0 (Q[y] 0)):=by simpa using List.all_eq_true.1 hmt k (List.mem_range.2 hlt)
   have e':=(hg _ _ a.2 b.2).1 e;rw[if_pos (by simpa using hlt),A7 hlt,ZY hy];simp only[Ab,AJ];rw[Pm hlt];simp only[AJ];rw[a.1];simp only[AJ];rw[MN a.2,show(0:Int)=((0:Nat):Int)from rfl,A7 (show 0<l.length by omega)];simp only[AJ];rw[Pm (show 0<l.length by omega)];simp only[AJ];rw[b.1];simp only[AJ];rw[MN b.2,e'];simp only[AJ];rw[if_neg (by simp),Ap (by omega),uy h hg hy hm m (k+1) (by omega) (by omega)]
  ·rw[if_neg (by simpa using hlt)]
theorem uz(hF:1000<F)(h:VL l){g':Tp}(hg:∀i j,i<101->j<101->(g i=g j↔g' i=g' j)){Q:List Tp}(hQ:Q.length<=8)(hm:∀f∈Q,f∈Mt g l):∀(m k:Nat),k<=Q.length->Q.length-k<m->DW F l (Q.map (Gp l.length)) (tl g') m (k:Int)=some (.inr ())
 |0,k,_,h=>by omega
 |m+1,k,hk,hh=>by
  have h4:=h.four;have h2:=h.two;unfold DW;by_cases hlt:k<Q.length
  ·have:=uy (F:=F) h hg hlt (hm _ (List.getElem_mem hlt)) F 1 (by omega) (by omega)
   rw[show((1:Nat):Int)=1 from rfl]at this;rw[if_pos (by simpa using hlt),this];simp only[Ab,AJ];rw[Ap (by omega),uz hF h hg hQ hm m (k+1) (by omega) (by omega)]
  ·rw[if_neg (by simpa using hlt)]
theorem vB(hF:1000<F)(h4:l.length<=4){Q:List Tp}(hQ:Q.length<=8)(hs:∀(t:Nat)a b,Q[t]?=some a->Q[t+1]?=some b->I5 l.length a b=true):∀(m k:Nat),1<=k->k<=Q.length\/k=1->Q.length-k<m->DX F (Q.map (Gp l.length)) m (k:Int)=some (.inr ())
 |0,k,_,_,h=>by omega
 |m+1,k,h1,hk,hh=>by
  unfold DX;by_cases hlt:k<Q.length
  ·have hb:=hs (k-1) Q[k-1] Q[k] (List.getElem?_eq_getElem (by omega)) (by rw[show k-1+1=k by omega];exact List.getElem?_eq_getElem hlt)
   rw[if_pos (by simpa using hlt),show AZ ((k:Int)-1)=((k-1:Nat):Int) by rw[BO (by omega)];omega,ZY (show k-1<Q.length by omega),ZY hlt];simp only[Ab,AJ];rw[ku hF (by omega),hb];simp only[AJ];rw[if_neg (by simp),Ap (by omega),vB hF h4 hQ hs m (k+1) (by omega) (by omega) (by omega)]
  ·rw[if_neg (by simpa using hlt)]
theorem lJ(hF:1000<F){x:Bk}(hv:VB x)(h:VL l)(hg:∀i j,i<101->j<101->(g i=g j↔Con (Ed x) i j)){Q:List Tp}(hQ:Q.length<=8)(hm:∀f∈Q,f∈Mt g l)(hs:∀(t:Nat)a b,Q[t]?=some a->Q[t+1]?=some b->I5 l.length a b=true):
  FU F x l (Q.map (Gp l.length))=some 0:=by
 have h4:=h.four;obtain⟨g',e1,e2⟩:=Xe hF hv;unfold FU;rw[show(⟨x.v⟩:Bk)=x from rfl,pF hF,pE.2 ⟨hv,h⟩];simp only[Ab,AJ];rw[if_neg (by simp),if_neg (by simp;omega)];have a1:=um (F:=F) h4 hQ F 0 (by omega) (by omega);have a2:=uq hF h4 hQ hm F 0 (by omega) (by omega);have a4:=uz hF h (fun i j hi hj=>(hg i j hi hj).trans (e2 i j hi hj).symm) hQ hm F 0 (by omega) (by omega);have a6:=vB hF h4 hQ hs F 1 (by omega) (by omega) (by omega);rw[show((0:Nat):Int)=0 from rfl]at a1 a2 a4;rw[show((1:Nat):Int)=1 from rfl]at a6;rw[a1];simp only[AJ];rw[a2];simp only[AJ];rw[e1];simp only[AJ];rw[a4];simp only[AJ];rw[a6]
 rfl
end
end
section
section
variable {n top:Nat}{lev:Nat->Nat}{B:Nat->Nat->Bool}
def LD(n top:Nat)(lev:Nat->Nat)(B:Nat->Nat->Bool)(i:Nat):Nat:=Uw lev B i*Dw n top lev B i
theorem WH(hn:n<=40){i:Nat}(hi:i<n):LD n top lev B i<=549755813888:=by
 have a:Uw lev B i<=2^i:=jR (QG 1 lev) i;have b:Dw n top lev B i<=2^(n-1-i):=jS (QG top lev) (n-1-i) i (by omega);refine Nat.le_trans (Nat.mul_le_mul a b) ?_;rw[<-Nat.pow_add];show _<=2^39;exact Nat.pow_le_pow_right (by omega) (by omega)
def Po(w:Nat->Nat)(p:Nat->Bool)(k:Nat):Nat:=((List.range k).map fun i=>if p i=true then w i else 0).sum
theorem WI(w:Nat->Nat)(p:Nat->Bool)(k:Nat):Po w p (k+1)=Po w p k+if p k=true then w k else 0:=by
 unfold Po;rw[List.range_succ,List.map_append,List.sum_append];simp
theorem dF{w:Nat->Nat}{p:Nat->Bool}{W:Nat}(h:∀i,i<n->w i<=W):∀k,k<=n->Po w p k<=k*W
 |0,_=>by simp[Po]
 |k+1,hk=>by
  rw[WI,Nat.succ_mul];have:=dF h k (by omega) (p:=p);have:=h k (by omega);split<;>omega
end
section
variable {F:Nat}{d:Ob ((Uno (List (Ar 2 Int)))×(Ar 101 Int))}{l:List (List Int)}{g:Tp}{v:List Int}
def cnt(g:Tp)(l:List (List Int))(top:Nat)(v:List Int):Nat:=if(Mt g l).length=0 then 1 else Po (LD (Mt g l).length top (LV v) (Bf g l)) (fun i=>decide (LV v i=1)) (Mt g l).length
theorem jV(hv:Lv g l (Mt g l) v)(h40:(Mt g l).length<=40){top:Nat}:∀(m k:Nat),k<=(Mt g l).length->(Mt g l).length-k<m->
  EB F (TT (Mt g l).length (Uw (LV v) (Bf g l)) (Dw (Mt g l).length top (LV v) (Bf g l))) v m ((Po (LD (Mt g l).length top (LV v) (Bf g l)) (fun i=>decide (LV v i=1)) k:Nat):Int) (k:Int)
   =some ((Po (LD (Mt g l).length top (LV v) (Bf g l)) (fun i=>decide (LV v i=1)) (Mt g l).length:Nat):Int)
 |0,k,_,h=>by omega
 |m+1,k,hk,hm=>by
  have hl:=hv.1;unfold EB;by_cases hlt:k<(Mt g l).length
  ·have hw:=WH (top:=top) (lev:=LV v) (B:=Bf g l) h40 hlt
   have hs:=dF (w:=LD (Mt g l).length top (LV v) (Bf g l)) (p:=fun i=>decide (LV v i=1)) (W:=549755813888) (n:=(Mt g l).length) (fun i hi=>WH h40 hi) k (by omega);rw[if_pos (by simp;omega),hv.ix hlt];simp only[Ab,AJ];have ih:=jV hv h40 (top:=top) m (k+1) (by omega) (by omega);rw[WI]at ih;by_cases e:LV v k=1
   ·rw[if_pos (by simp[e]),MO hlt]
    simp only[AJ,Fy];rw[show((Uw (LV v) (Bf g l) k:Nat):Int)*((Dw (Mt g l).length top (LV v) (Bf g l) k:Nat):Int)=((LD (Mt g l).length top (LV v) (Bf g l) k:Nat):Int) by unfold LD;simp,BO (n:=((LD (Mt g l).length top (LV v) (Bf g l) k:Nat):Int)) (by omega),BO (by omega),Ap (by omega)];rw[if_pos (by simp[e])]at ih;rw[<-ih];rfl
   ·rw[if_neg (by simp;omega)]
    simp only[AJ];rw[Ap (by omega)];rw[if_neg (by simp[e])]at ih;exact ih
  ·rw[if_neg (by simp;omega),show k=(Mt g l).length by omega]
theorem count_eq(hF:1000<F)(hv:Lv g l (Mt g l) v)(h40:(Mt g l).length<=40){top:Nat}(hl:BA F (EJ d g l)=some v):
  Ev F (EJ d g l) (TT (Mt g l).length (Uw (LV v) (Bf g l)) (Dw (Mt g l).length top (LV v) (Bf g l)))=some ((cnt g l top v:Nat):Int):=by
 unfold Ev cnt;by_cases h0:(Mt g l).length=0
 ·rw[if_pos (by simp[R3,h0]),if_pos h0];rfl
 ·have h0':((Mt g l).length:Int)≠0:=by omega
  rw[if_neg (by rw[R3];simp only[decide_eq_true_eq];exact h0'),if_neg h0];rw[show BA F ((EJ d g l).1,(EJ d g l).2.1,(EJ d g l).2.2)=some v from hl];simp only[Ab,AJ];have:=jV (F:=F) hv h40 (top:=top) F 0 (by omega) (by omega);rw[show((0:Nat):Int)=0 from rfl,show((Po (LD (Mt g l).length top (LV v) (Bf g l)) (fun i=>decide (LV v i=1)) 0:Nat):Int)=0 from rfl]at this;rw[this];rfl
theorem iB(hF:1000<F){x:Bk}(hv:Lv g l (Mt g l) v)(h40:(Mt g l).length<=40){top:Nat}(es:DL F x l=some (⟨some (EJ d g l)⟩,0))(hl:BA F (EJ d g l)=some v)
  (hw:CO F (EJ d g l)=some (TT (Mt g l).length (Uw (LV v) (Bf g l)) (Dw (Mt g l).length top (LV v) (Bf g l)))):K8 F x l=some (((cnt g l top v:Nat):Int),0):=by
 unfold K8;rw[show(⟨x.v⟩:Bk)=x from rfl,es];simp only[Ab,AJ];rw[if_neg (by simp),show CO F (_,_,_)=_ from hw];simp only[AJ];rw[show Ev F (_,_,_) _=_ from count_eq hF hv h40 hl]
 rfl
end
end
section
section
variable {F:Nat}{d:Ob ((Uno (List (Ar 2 Int)))×(Ar 101 Int))}{l:List (List Int)}{g:Tp}{v:List Int}
def Pp(g:Tp)(l:List (List Int))(top:Nat)(v:List Int)(k d:Nat):List Nat:=(List.range' k d).filter fun i=>decide (LD (Mt g l).length top (LV v) (Bf g l) i=cnt g l top v)
theorem Zb(h40:(Mt g l).length<=40){top:Nat}:∀(m k:Nat)(o:List Pl),k<=(Mt g l).length->(Mt g l).length-k<m->o.length<=k->
  Ew F (EJ d g l) (TT (Mt g l).length (Uw (LV v) (Bf g l)) (Dw (Mt g l).length top (LV v) (Bf g l))) ((cnt g l top v:Nat):Int) m o (k:Int)=some (o++(Pp g l top v k ((Mt g l).length-k)).map fun i=>pl (ML (Mt g l) i))
 |0,k,_,_,h,_=>by omega
 |m+1,k,o,hk,h,ho=>by
  unfold Ew;by_cases hlt:k<(Mt g l).length
  ·have ht:=WH (top:=top) (lev:=LV v) (B:=Bf g l) h40 hlt
   have hr:List.range' k ((Mt g l).length-k)=k::List.range' (k+1) ((Mt g l).length-(k+1)):=by
    rw[show(Mt g l).length-k=(Mt g l).length-(k+1)+1 by omega];rfl
   rw[if_pos (by simp;omega),show ix (EJ d g l).2.2 (k:Int)=some (pl (ML (Mt g l) k))from Pn hlt,MO hlt];unfold Fy;have e:(((Uw (LV v) (Bf g l) k:Nat):Int)*((Dw (Mt g l).length top (LV v) (Bf g l) k:Nat):Int))=((LD (Mt g l).length top (LV v) (Bf g l) k:Nat):Int):=by unfold LD;rw[Int.natCast_mul]
   simp only[Ab,AJ,e];rw[BO (n:=((LD (Mt g l).length top (LV v) (Bf g l) k:Nat):Int)) (by omega)];by_cases c:LD (Mt g l).length top (LV v) (Bf g l) k=cnt g l top v
   ·rw[if_pos (by simp[c]),Fu (by simp;omega)]
    simp only[AJ];rw[Ap (by omega),Zb h40 m (k+1) _ (by omega) (by omega) (by simp;omega)];unfold Pp;rw[hr,List.filter_cons_of_pos (by simpa using c)];simp
   ·rw[if_neg (by simp;omega)]
    simp only[AJ];rw[Ap (by omega),Zb h40 m (k+1) _ (by omega) (by omega) (by omega)];unfold Pp;rw[hr,List.filter_cons_of_neg (by simpa using c)]
  ·have:k=(Mt g l).length:=by omega
   subst this;rw[if_neg (by simp)];unfold Pp;simp
theorem Zd(hF:100000<F)(h4:l.length<=4){x:Bk}(hv:Lv g l (Mt g l) v)(h40:(Mt g l).length<=40){top:Nat}(es:DL F x l=some (⟨some (EJ d g l)⟩,0))(hl:BA F (EJ d g l)=some v)
  (hw:CO F (EJ d g l)=some (TT (Mt g l).length (Uw (LV v) (Bf g l)) (Dw (Mt g l).length top (LV v) (Bf g l)))):Jm F x l=some (((Pp g l top v 0 (Mt g l).length).map (ML (Mt g l))).map (Gp l.length),0):=by
 unfold Jm;rw[show(⟨x.v⟩:Bk)=x from rfl,es];simp only[Ab,AJ];rw[if_neg (by simp),show CO F (_,_,_)=_ from hw];simp only[AJ];rw[show Ev F (_,_,_) _=_ from count_eq (by omega) hv h40 hl];simp only[AJ];have e:=Zb (F:=F) (d:=d) (v:=v) h40 (top:=top) F 0 [] (by omega) (by omega) (by simp);rw[show((0:Nat):Int)=0 from rfl,List.nil_append,Nat.sub_zero]at e;rw[show Ew F _ _ _ F [] 0=_ from e];simp only[AJ];have hlen:((Pp g l top v 0 (Mt g l).length).map (ML (Mt g l))).length<=10000:=by
  unfold Pp;rw[List.length_map];have:=List.length_filter_le (fun i=>decide (LD (Mt g l).length top (LV v) (Bf g l) i=cnt g l top v)) (List.range' 0 (Mt g l).length);rw[List.length_range']at this;omega
 have et:=Sr (F:=F) (d:=d) (acc:=(Mt g l).map pl) hF h4 _ hlen;rw[List.map_map]at et;rw[show EP F (_,_,_) ((Pp g l top v 0 (Mt g l).length).map fun i=>pl (ML (Mt g l) i))=_ from et]
 rfl
theorem Ze(hF:100000<F)(h4:l.length<=4){x:Bk}(h40:(Mt g l).length<=40)(es:DL F x l=some (⟨some (EJ d g l)⟩,0)):Jl F x l=some ((Mt g l).map (Gp l.length),0):=by
 unfold Jl;rw[show(⟨x.v⟩:Bk)=x from rfl,es];simp only[Ab,AJ];rw[if_neg (by simp),show EP F (_,_,_) _=_ from Sr (d:=d) (acc:=(Mt g l).map pl) hF h4 (Mt g l) (by omega)]
 rfl
end
end
end Wo
end Go.Proofs.YtfmelbioccbdoaaGreat
end
section
namespace Go.Proofs.YtfmelbioccbdoaaGreat
open Go Go.Md Go.RowKit
namespace Jn
section
section
variable (n m:Nat)(pc:Nat->Nat)(ft:Nat->Nat->Bool)
def okn(o:Option Nat)(k:Nat):Bool:=match o with|none=>true|some i=>ft i k
def F9(U:Nat)(o:Option Nat):List Nat:=(List.range m).filter fun k=>!U.testBit (pc k)&&okn ft o k
def ext:Nat->Nat->Option Nat->List (List Nat)
 |0,_,_=>[[]]
 |d+1,U,o=>(F9 m pc ft U o).flatMap fun k=>(ext d (put U (pc k)) (some k)).map (k::·)
def R6(U i:Nat):List Nat:=(List.range m).filter fun k=>(out U (pc i)).testBit (pc k)&&ft k i
def Cj:Nat->Nat->Nat->List (List Nat)
 |0,_,i=>[[i]]
 |d+1,U,i=>(R6 m pc ft U i).flatMap fun k=>(Cj d (out U (pc i)) k).map (·++[i])
def KP(o:Option Nat):List Nat->Bool
 |[]=>true
 |k::t=>okn ft o k&&KP (some k) t
end
section
variable {n m:Nat}{pc:Nat->Nat}{ft:Nat->Nat->Bool}
theorem IU{U k:Nat}{o:Option Nat}:k∈F9 m pc ft U o↔k<m/\U.testBit (pc k)=false/\okn ft o k=true:=by
 unfold F9;simp[and_assoc]
theorem dG{U i k:Nat}:k∈R6 m pc ft U i↔k<m/\(out U (pc i)).testBit (pc k)=true/\ft k i=true:=by
 unfold R6;simp[and_assoc]
structure Go'(m:Nat)(pc:Nat->Nat)(ft:Nat->Nat->Bool)(d U:Nat)(o:Option Nat)(t:List Nat):Prop where
 len:t.length=d
 mem:∀k∈t,k<m/\U.testBit (pc k)=false
 nod:(t.map pc).Nodup
 seq:KP ft o t=true
theorem Mc:∀{d U:Nat}{o:Option Nat}{t:List Nat},t∈ext m pc ft d U o↔Go' m pc ft d U o t
 |0,U,o,t=>by
  unfold ext;rw[List.mem_singleton];constructor
  ·rintro rfl;exact⟨rfl,(fun k hk=>by cases hk),List.nodup_nil,rfl⟩
  ·intro h;exact List.eq_nil_of_length_eq_zero h.len
 |d+1,U,o,t=>by
  unfold ext;rw[List.mem_flatMap];constructor
  ·rintro⟨k,hk,ht⟩
   obtain⟨s,hs,rfl⟩:=List.mem_map.1 ht;obtain⟨k1,k2,k3⟩:=IU.1 hk;have g:=Mc.1 hs;have hb:∀x∈s,U.testBit (pc x)=false/\pc x≠pc k:=fun x hx=>by
    have:=(g.mem x hx).2;rw[Sy]at this;simpa using this
   refine⟨by simp[g.len],fun x hx=>?_,?_,by unfold KP;rw[k3,g.seq];rfl⟩
   ·rcases List.mem_cons.1 hx with rfl|hx
    ·exact⟨k1,k2⟩
    ·exact⟨(g.mem x hx).1,(hb x hx).1⟩
   ·rw[List.map_cons,List.nodup_cons]
    refine⟨fun hh=>?_,g.nod⟩;obtain⟨x,hx,e⟩:=List.mem_map.1 hh;exact(hb x hx).2 e
  ·intro h
   cases t with
   |nil=>have:=h.len;simp at this
   |cons k s=>
    have hn:=h.nod;rw[List.map_cons,List.nodup_cons]at hn;have hs:=h.seq;unfold KP at hs;rw[Bool.and_eq_true]at hs;have hk:=h.mem k (List.mem_cons_self ..);refine⟨k,IU.2 ⟨hk.1,hk.2,hs.1⟩,List.mem_map.2 ⟨s,Mc.2 ⟨by have:=h.len;simpa using this,fun x hx=>?_,hn.2,hs.2⟩,rfl⟩⟩;have hx':=h.mem x (List.mem_cons_of_mem _ hx);refine⟨hx'.1,?_⟩;rw[Sy,hx'.2,decide_eq_false]
    ·rfl
    ·exact fun e=>hn.1 (List.mem_map.2 ⟨x,hx,e⟩)
theorem QY{U:Nat}{o:Option Nat}:(F9 m pc ft U o).Nodup:=List.Nodup.sublist List.filter_sublist List.nodup_range
theorem UI:∀{d U:Nat}{o:Option Nat},(ext m pc ft d U o).Nodup
 |0,U,o=>by unfold ext;simp
 |d+1,U,o=>by
  unfold ext;refine JK QY (fun k _=>Lu UI fun a _ b _ e=>by simpa using e) fun a _ b _ x hx hy=>?_;obtain⟨s,_,rfl⟩:=List.mem_map.1 hx;obtain⟨s',_,e⟩:=List.mem_map.1 hy;simp at e;exact e.1.symm
theorem Sz:∀{d U:Nat}{o:Option Nat},(ext m pc ft d U o).length<=m^d
 |0,U,o=>by unfold ext;simp
 |d+1,U,o=>by
  unfold ext;rw[List.length_flatMap];have:∀L:List Nat,(L.map fun k=>((ext m pc ft d (put U (pc k)) (some k)).map (k::·)).length).sum<=L.length*m^d:=by
   intro L
   induction L with
   |nil=>simp
   |cons a L ih=>
    have:=Sz (d:=d) (U:=put U (pc a)) (o:=some a);simp only[List.map_cons,List.sum_cons,List.length_map,List.length_cons,Nat.succ_mul]at*;omega
  have h2:(F9 m pc ft U o).length<=m:=Nat.le_trans (List.length_filter_le ..) (by simp);rw[Nat.pow_succ,Nat.mul_comm (m^d)];exact Nat.le_trans (this _) (Nat.mul_le_mul_right _ h2)
theorem WJ{i:Nat}:∀{q:List Nat}{o:Option Nat},KP ft o (q++[i])=(KP ft o q&&okn ft (match q.getLast? with|some k=>some k|none=>o) i)
 |[],o=>by simp[KP]
 |a::q,o=>by
  rw[List.cons_append,KP,KP,WJ (q:=q) (o:=some a),Bool.and_assoc];cases q with
  |nil=>rfl
  |cons b q=>rw[List.getLast?_cons_cons];cases h:(b::q).getLast?<;>simp_all
theorem Xo{t:List Nat}:∀{q:List Nat}{o:Option Nat},KP ft o (q++t)=(KP ft o q&&KP ft (match q.getLast? with|some k=>some k|none=>o) t)
 |[],o=>by simp[KP]
 |a::q,o=>by
  rw[List.cons_append,KP,KP,Xo (q:=q) (o:=some a),Bool.and_assoc];cases q with
  |nil=>rfl
  |cons b q=>rw[List.getLast?_cons_cons];cases h:(b::q).getLast?<;>simp_all
structure Co(m:Nat)(pc:Nat->Nat)(ft:Nat->Nat->Bool)(d U i:Nat)(t:List Nat):Prop where
 last:∃q,t=q++[i]
 len:t.length=d+1
 mem:∀k∈t,k<m
 set:∀p,p<8->(U.testBit p=true↔p∈t.map pc)
 nod:(t.map pc).Nodup
 seq:KP ft none t=true
theorem Xp{U p q:Nat}(hU:U<256)(hp:p<8)(hq:q<8):(out U p).testBit q=(U.testBit q&& !decide (q=p)):=by
 have:=iA ⟨p,hp⟩ ⟨q,hq⟩ ⟨U,hU⟩;rw[this]
 congr 2
 exact decide_eq_decide.2 ⟨fun h=>by simpa using congrArg Fin.val h,fun h=>Fin.ext h⟩
theorem XC{U:Nat}(hn:n<=8)(hU:U<2^n)(h:us n U=0):U=0:=by
 have h2:2^n<=2^8:=Nat.pow_le_pow_right (by omega) hn;exact(Nj ⟨n,by omega⟩ ⟨U,by omega⟩ hU).2.1.2 h
theorem R7{U p:Nat}(hn:n<=8)(hp:p<n)(hU:U<2^n):out U p<2^n/\(U.testBit p=true->us n (out U p)+1=us n U):=by
 have h2:2^n<=2^8:=Nat.pow_le_pow_right (by omega) hn;have:=WE ⟨n,by omega⟩ ⟨p,by omega⟩ ⟨U,by omega⟩ hp hU;exact⟨this.2.1,this.2.2.2⟩
theorem OE{U p:Nat}(hn:n<=8)(hp:p<n)(hU:U<2^n):put U p<2^n/\(U.testBit p=false->fr n (put U p)+1=fr n U):=by
 have h2:2^n<=2^8:=Nat.pow_le_pow_right (by omega) hn;have:=WE ⟨n,by omega⟩ ⟨p,by omega⟩ ⟨U,by omega⟩ hp hU;exact⟨this.1,this.2.2.1⟩
theorem Zh{U:Nat}(hn:n<=8)(hU:U<2^n):fr n U+us n U=n:=by
 have h2:2^n<=2^8:=Nat.pow_le_pow_right (by omega) hn;exact(Nj ⟨n,by omega⟩ ⟨U,by omega⟩ hU).2.2
theorem lK{U:Nat}(hn:n<=8)(hU:U<2^n):U=2^n-1↔fr n U=0:=by
 have h2:2^n<=2^8:=Nat.pow_le_pow_right (by omega) hn;exact(Nj ⟨n,by omega⟩ ⟨U,by omega⟩ hU).1
theorem WK(hn:n<=8)(hpc:∀k,k<m->pc k<n):∀{d U i:Nat}{t:List Nat},U<2^n->i<m->U.testBit (pc i)=true->us n U=d+1->t∈Cj m pc ft d U i->Co m pc ft d U i t
 |0,U,i,t,hU,hi,hb,hd,h=>by
  have h2:2^n<=2^8:=Nat.pow_le_pow_right (by omega) hn;have hp:=hpc i hi;unfold Cj at h;rw[List.mem_singleton]at h;subst h;obtain⟨o1,o2⟩:=R7 hn hp hU;have hz:=XC hn o1 (by have:=o2 hb;omega);refine⟨⟨[],rfl⟩,rfl,fun k hk=>by rw[List.mem_singleton]at hk;subst hk;exact hi,fun p hp8=>?_,by simp,by simp[KP,okn]⟩;have:=Xp (U:=U) (p:=pc i) (q:=p) (by omega) (by omega) hp8;rw[hz,Nat.zero_testBit]at this;simp only[List.map_cons,List.map_nil,List.mem_singleton];constructor
  ·intro hh;rw[hh]at this;simpa using this
  ·rintro rfl;exact hb
 |d+1,U,i,t,hU,hi,hb,hd,h=>by
  have h2:2^n<=2^8:=Nat.pow_le_pow_right (by omega) hn;have hp:=hpc i hi;unfold Cj at h;obtain⟨k,hk,ht⟩:=List.mem_flatMap.1 h;obtain⟨q,hq,rfl⟩:=List.mem_map.1 ht;obtain⟨k1,k2,k3⟩:=dG.1 hk;obtain⟨o1,o2⟩:=R7 hn hp hU;have g:=WK hn hpc o1 k1 k2 (by have:=o2 hb;omega) hq;have hob:∀p,p<8->(out U (pc i)).testBit p=(U.testBit p&& !decide (p=pc i)):=fun p hp8=>Xp (by omega) (by omega) hp8;refine⟨⟨q,rfl⟩,by simp[g.len],fun x hx=>?_,fun p hp8=>?_,?_,?_⟩
  ·rcases List.mem_append.1 hx with hx|hx
   ·exact g.mem x hx
   ·rw[List.mem_singleton]at hx;subst hx;exact hi
  ·have:=g.set p hp8
   rw[hob p hp8]at this;rw[List.map_append,List.mem_append,<-this];simp only[List.map_cons,List.map_nil,List.mem_singleton];by_cases e:p=pc i
   ·subst e;simp[hb]
   ·simp[e]
  ·rw[List.map_append,List.nodup_append]
   refine⟨g.nod,by simp,fun x hx y hy e=>?_⟩;simp only[List.map_cons,List.map_nil,List.mem_singleton]at hy;subst hy;subst e;have:=(g.set (pc i) (by omega)).2 hx;rw[hob _ (by omega)]at this;simp at this
  ·rw[WJ,g.seq]
   obtain⟨r,rfl⟩:=g.last;rw[List.getLast?_concat];simp[okn,k3]
theorem XD{U i:Nat}:(R6 m pc ft U i).Nodup:=List.Nodup.sublist List.filter_sublist List.nodup_range
theorem WM:∀{d U i:Nat}{t:List Nat},t∈Cj m pc ft d U i->t.getLast?=some i
 |0,U,i,t,h=>by unfold Cj at h;rw[List.mem_singleton]at h;subst h;rfl
 |d+1,U,i,t,h=>by
  unfold Cj at h;obtain⟨k,hk,ht⟩:=List.mem_flatMap.1 h;obtain⟨q,hq,rfl⟩:=List.mem_map.1 ht;rw[List.getLast?_concat]
theorem UJ:∀{d U i:Nat},(Cj m pc ft d U i).Nodup
 |0,U,i=>by unfold Cj;simp
 |d+1,U,i=>by
  unfold Cj;refine JK XD (fun k _=>Lu UJ fun a _ b _ e=>by simpa using e) fun a _ b _ x hx hy=>?_;obtain⟨s,hs,rfl⟩:=List.mem_map.1 hx;obtain⟨s',hs',e⟩:=List.mem_map.1 hy;have e:s'=s:=by simpa using e
  subst e;have h1:=WM hs;rw[WM hs']at h1;cases h1;rfl
theorem S9:∀{d U i:Nat},(Cj m pc ft d U i).length<=m^d
 |0,U,i=>by unfold Cj;simp
 |d+1,U,i=>by
  unfold Cj;rw[List.length_flatMap];have:∀L:List Nat,(L.map fun k=>((Cj m pc ft d (out U (pc i)) k).map (·++[i])).length).sum<=L.length*m^d:=by
   intro L
   induction L with
   |nil=>simp
   |cons a L ih=>
    have:=S9 (d:=d) (U:=out U (pc i)) (i:=a);simp only[List.map_cons,List.sum_cons,List.length_map,List.length_cons,Nat.succ_mul]at*;omega
  have h2:(R6 m pc ft U i).length<=m:=Nat.le_trans (List.length_filter_le ..) (by simp);rw[Nat.pow_succ,Nat.mul_comm (m^d)];exact Nat.le_trans (this _) (Nat.mul_le_mul_right _ h2)
def Js(n m:Nat)(pc:Nat->Nat)(ft:Nat->Nat->Bool):List (List Nat):=ext m pc ft n 0 none
def Pq(i k:Nat):List Nat->Bool
 |a::b::t=>(decide (a=i)&&decide (b=k))||Pq i k (b::t)
 |_=>false
theorem TA{i k:Nat}:∀{t:List Nat},Pq i k t=true↔∃q r,t=q++i::k::r
 |[]=>by simp[Pq]
 |[a]=>by
  simp only[Pq,Bool.false_eq_true,false_iff];rintro⟨q,r,h⟩;have:=congrArg List.length h;simp at this;omega
 |a::b::t=>by
  rw[Pq,Bool.or_eq_true,TA (t:=b::t)];constructor
  ·rintro(h|⟨q,r,h⟩)
   ·simp at h;exact⟨[],t,by rw[h.1,h.2];rfl⟩
   ·exact⟨a::q,r,by rw[h];rfl⟩
  ·rintro⟨q,r,h⟩
   cases q with
   |nil=>simp at h;exact .inl (by simp[h.1,h.2.1])
   |cons c q=>simp at h;exact .inr ⟨q,r,h.2⟩
def wy(n m:Nat)(pc:Nat->Nat)(ft:Nat->Nat->Bool)(i k U:Nat):Nat:=
 if U.testBit (pc i)=true/\k∈F9 m pc ft U (some i)then(Cj m pc ft (us n U-1) U i).length*(ext m pc ft (fr n (put U (pc k))) (put U (pc k)) (some k)).length else 0
def th(n m:Nat)(pc:Nat->Nat)(ft:Nat->Nat->Bool)(i k U:Nat):List (List Nat):=
 if U.testBit (pc i)=true/\k∈F9 m pc ft U (some i)then(Cj m pc ft (us n U-1) U i).flatMap fun p=>(ext m pc ft (fr n (put U (pc k))) (put U (pc k)) (some k)).map fun t=>p++k::t else[]
theorem pz(i k U:Nat):(th n m pc ft i k U).length=wy n m pc ft i k U:=by
 unfold th wy;split
 ·rw[List.length_flatMap]
  simp[List.map_const',List.sum_replicate_nat]
 ·rfl
theorem WN{U p:Nat}(hn:n<=8)(hp:p<n)(hU:U<2^n)(hb:U.testBit p=true):1<=us n U:=by
 have:=(R7 hn hp hU).2 hb;omega
theorem iC{U V:Nat}(hU:U<256)(hV:V<256)(h:∀p,p<8->(U.testBit p=true↔V.testBit p=true)):U=V:=by
 apply Nat.eq_of_testBit_eq;intro p;by_cases hp:p<8
 ·rw[Bool.eq_iff_iff];exact h p hp
 ·have e:2^8<=2^p:=Nat.pow_le_pow_right (by omega) (by omega)
  rw[Nat.testBit_lt_two_pow (by omega),Nat.testBit_lt_two_pow (by omega)]
theorem WO(hn:n<=8)(hpc:∀k,k<m->pc k<n){i k U:Nat}(hi:i<m)(hU:U<2^n){t:List Nat}(h:t∈th n m pc ft i k U):
  t∈Js n m pc ft/\Pq i k t=true/\∃p r,t=p++k::r/\k∉p/\(∀x,x<8->(U.testBit x=true↔x∈p.map pc)):=by
 have h2:2^n<=2^8:=Nat.pow_le_pow_right (by omega) hn;unfold th at h;split at h
 ·rename_i hc
  obtain⟨hb,hk⟩:=hc;obtain⟨k1,k2,k3⟩:=IU.1 hk;obtain⟨p,hp,ht⟩:=List.mem_flatMap.1 h;obtain⟨r,hr,rfl⟩:=List.mem_map.1 ht;have hpos:=WN hn (hpc i hi) hU hb;have g:=WK hn hpc hU hi hb (by omega) hp;have e:=Mc.1 hr;obtain⟨p1,p2⟩:=OE hn (hpc k k1) hU;have hfu:=Zh hn hU;have hf:=p2 k2;have her:∀x∈r,U.testBit (pc x)=false/\pc x≠pc k:=fun x hx=>by
   have:=(e.mem x hx).2;rw[Sy]at this;simpa using this
  have hpU:∀x∈p,U.testBit (pc x)=true:=fun x hx=>(g.set (pc x) (by have:=hpc x (g.mem x hx);omega)).2 (List.mem_map.2 ⟨x,hx,rfl⟩);have hkp:k∉p:=fun hh=>by rw[hpU k hh]at k2;cases k2
  refine⟨?_,?_,p,r,rfl,hkp,g.set⟩
  ·refine Mc.2 ⟨?_,fun x hx=>⟨?_,Nat.zero_testBit _⟩,?_,?_⟩
   ·rw[List.length_append,List.length_cons,g.len,e.len];omega
   ·rcases List.mem_append.1 hx with hx|hx
    ·exact g.mem x hx
    ·rcases List.mem_cons.1 hx with rfl|hx
     ·exact k1
     ·exact(e.mem x hx).1
   ·rw[List.map_append,List.map_cons,List.nodup_append]
    refine⟨g.nod,List.nodup_cons.2 ⟨fun hh=>?_,e.nod⟩,fun a ha b hb' eab=>?_⟩
    ·obtain⟨x,hx,ex⟩:=List.mem_map.1 hh
     exact(her x hx).2 ex
    ·obtain⟨x,hx,rfl⟩:=List.mem_map.1 ha
     have hxU:=hpU x hx;rcases List.mem_cons.1 hb' with hb'|hb'
     ·rw[eab,hb',k2]at hxU;cases hxU
     ·obtain⟨y,hy,rfl⟩:=List.mem_map.1 hb'
      rw[eab,(her y hy).1]at hxU;cases hxU
   ·rw[Xo,g.seq]
    obtain⟨q,rfl⟩:=g.last;rw[List.getLast?_concat];simp only[Bool.true_and];rw[KP,k3,e.seq];rfl
  ·obtain⟨q,rfl⟩:=g.last
   exact TA.2 ⟨q,r,by simp⟩
 ·cases h
theorem iD(hn:n<=8)(hpc:∀k,k<m->pc k<n){i k U:Nat}(hi:i<m)(hU:U<2^n):(th n m pc ft i k U).Nodup:=by
 have h2:2^n<=2^8:=Nat.pow_le_pow_right (by omega) hn;unfold th;split
 ·rename_i hc
  obtain⟨hb,hk⟩:=hc;obtain⟨k1,k2,k3⟩:=IU.1 hk;have hpos:=WN hn (hpc i hi) hU hb;have hkp:∀p∈Cj m pc ft (us n U-1) U i,k∉p:=fun p hp hh=>by
   have g:=WK hn hpc hU hi hb (by omega) hp;have:=(g.set (pc k) (by have:=hpc k k1;omega)).2 (List.mem_map.2 ⟨k,hh,rfl⟩);rw[this]at k2;cases k2
  refine JK UJ (fun p _=>Lu UI fun a _ b _ e=>by simpa using e) fun p hp q hq x hx hy=>?_;obtain⟨r,_,rfl⟩:=List.mem_map.1 hx;obtain⟨s,_,e⟩:=List.mem_map.1 hy;exact(Om e (hkp q hq) (hkp p hp)).1.symm
 ·simp
def dI(n m:Nat)(pc:Nat->Nat)(ft:Nat->Nat->Bool)(i k:Nat):Nat:=((List.range (2^n)).map (wy n m pc ft i k)).sum
theorem lQ(hn:n<=8)(hpc:∀k,k<m->pc k<n){i k:Nat}(hi:i<m)(h:(Js n m pc ft).length<=dI n m pc ft i k):∀t∈Js n m pc ft,Pq i k t=true:=by
 have h2:2^n<=2^8:=Nat.pow_le_pow_right (by omega) hn;have e1:((List.range (2^n)).flatMap (th n m pc ft i k)).length=dI n m pc ft i k:=by
  rw[List.length_flatMap];unfold dI
  congr 1
  exact List.map_congr_left fun U _=>pz i k U
 have e2:((List.range (2^n)).flatMap (th n m pc ft i k)).Nodup:=by
  refine JK List.nodup_range (fun U hU=>iD hn hpc hi (List.mem_range.1 hU)) fun U hU V hV x hx hy=>?_;have hU:=List.mem_range.1 hU;have hV:=List.mem_range.1 hV;obtain⟨_,_,p,r,rfl,h3,h4⟩:=WO hn hpc hi hU hx;obtain⟨_,_,q,s,e,h5,h6⟩:=WO hn hpc hi hV hy;have:=(Om e h3 h5).1;subst this;exact iC (by omega) (by omega) fun b hb=>(h4 b hb).trans (h6 b hb).symm
 have e3:=Lr (k:=(Js n m pc ft).filter (Pq i k)) e2 fun t ht=>by
  obtain⟨U,hU,ht⟩:=List.mem_flatMap.1 ht;obtain⟨a,b,_⟩:=WO hn hpc hi (List.mem_range.1 hU) ht;exact List.mem_filter.2 ⟨a,b⟩
 exact ZX (by omega)
end
end
section
theorem b1:∀(y:Fin 256)(p:Fin 8),∃s,shr .i64 (y.val:Int) (p.val:Int)=some s/\decide (band .i64 s 1=1)=y.val.testBit p.val/\decide (band .i64 s 1=0)=!y.val.testBit p.val:=by
 have h:∀(y:Fin 256)(p:Fin 8),((shr .i64 (y.val:Int) (p.val:Int)).map fun s=>(decide (band .i64 s 1=1),decide (band .i64 s 1=0)))=some (y.val.testBit p.val,!y.val.testBit p.val):=by decide+kernel
 intro y p;obtain⟨s,h1,h2⟩:=Option.map_eq_some_iff.1 (h y p);simp only[Prod.mk.injEq]at h2;exact⟨s,h1,h2.1,h2.2⟩
theorem b2:∀(y:Fin 256)(p:Fin 8),∃t,shl .i64 1 (p.val:Int)=some t/\PK .i64 (y.val:Int) t=((put y.val p.val:Nat):Int)/\NM .i64 (y.val:Int) t=((out y.val p.val:Nat):Int)/\decide (band .i64 (y.val:Int) t=0)=!y.val.testBit p.val:=by
 have h:∀(y:Fin 256)(p:Fin 8),((shl .i64 1 (p.val:Int)).map fun t=>(PK .i64 (y.val:Int) t,NM .i64 (y.val:Int) t,decide (band .i64 (y.val:Int) t=0)))=some (((put y.val p.val:Nat):Int),((out y.val p.val:Nat):Int),!y.val.testBit p.val):=by decide+kernel
 intro y p;obtain⟨s,h1,h2⟩:=Option.map_eq_some_iff.1 (h y p);simp only[Prod.mk.injEq]at h2;exact⟨s,h1,h2.1,h2.2.1,h2.2.2⟩
theorem b3:∀n:Fin 9,shl .i64 1 (n.val:Int)=some (((2^n.val:Nat)):Int):=by decide+kernel
abbrev BI(c:BB):List Am:=EW 0 c.1
def A9(c:BB)(k:Nat):Nat:=((BI c).getD k default).1.toNat
def GI(c:BB)(i k:Nat):Bool:=fit c ((BI c).getD i default) ((BI c).getD k default)
abbrev Xs(c:BB)(X:ET):BV:=(c,BI c,X,.mk,.mk)
def GA(o:Option Nat):Int:=match o with|none=>-1|some i=>(i:Int)
section
variable {c:BB}{X:ET}
theorem JW(hv:VC c):(BI c).length<=16:=by
 have:=Ol c.1 0;have:=hv.n8;show(EW 0 c.1).length<=16;omega
theorem KQ(hv:VC c){k:Nat}(hk:k<(BI c).length):ix (BI c) (k:Int)=some (BI c)[k]/\((BI c)[k]).1=((A9 c k:Nat):Int)/\A9 c k<c.1.length/\(BI c)[k]?=some (BI c)[k]:=by
 have hm:(BI c)[k]∈EW 0 c.1:=List.getElem_mem hk;obtain⟨i,h1,p,h2,_⟩:=MP.1 hm;have hi:=(List.getElem?_eq_some_iff.1 h2).1;have e:A9 c k=i:=by unfold A9;rw[List.getD_eq_getElem?_getD,List.getElem?_eq_getElem hk,Option.getD_some,h1];simp
 exact⟨A7 hk,by rw[h1,e],by omega,List.getElem?_eq_getElem hk⟩
theorem R8(hX:NF c X){i k:Nat}(hi:i<(BI c).length)(hk:k<(BI c).length):∃r,ix X.l (i:Int)=some r/\ix r.l (k:Int)=some (if GI c i k=true then 1 else 0):=by
 obtain⟨r,h1,h2⟩:=hX i k _ _ (List.getElem?_eq_getElem hi) (List.getElem?_eq_getElem hk);refine⟨r,h1,?_⟩;rw[h2];unfold GI;simp[hi,hk]
def NG(c:BB)(U:Nat)(o:Option Nat):Prop:=U<2^c.1.length/\∀i,o=some i->i<(BI c).length
theorem TB(hv:VC c){U:Nat}(hU:U<2^c.1.length):U<256:=by
 have h2:2^c.1.length<=2^8:=Nat.pow_le_pow_right (by omega) hv.n8;omega
theorem lS(hv:VC c)(hX:NF c X){U:Nat}{o:Option Nat}(hs:NG c U o){k:Nat}(hk:k<(BI c).length):Um (Xs c X) ((U:Int),GA o) (k:Int)=some (!U.testBit (A9 c k)&&okn (GI c) o k):=by
 obtain⟨e1,e2,e3,_⟩:=KQ hv hk;have h8:=hv.n8;obtain⟨s,f1,f2,f3⟩:=b1 ⟨U,TB hv hs.1⟩ ⟨A9 c k,by omega⟩;unfold Um Hl;simp only[Ab,AJ];rw[e1];simp only[AJ];rw[e2,f1];simp only[AJ];rw[f3];cases hb:U.testBit (A9 c k)with
 |true=>rfl
 |false=>
  simp only[Bool.not_false,if_true,Bool.true_and];cases o with
  |none=>rfl
  |some i=>
   obtain⟨r,g1,g2⟩:=R8 hX (hs.2 i rfl) hk;rw[if_neg (by unfold GA;simp)];show((ix X.l (i:Int)).bind fun r=>_)=_;rw[g1];simp only[AJ];rw[g2];simp only[AJ,okn];cases GI c i k<;>rfl
theorem tV(hv:VC c){U:Nat}{o:Option Nat}(hs:NG c U o){k:Nat}(hk:k<(BI c).length):JH (Xs c X) ((U:Int),GA o) (k:Int)=some (((put U (A9 c k):Nat):Int),(k:Int)):=by
 obtain⟨e1,e2,e3,_⟩:=KQ hv hk;have h8:=hv.n8;obtain⟨t,f1,f2,_⟩:=b2 ⟨U,TB hv hs.1⟩ ⟨A9 c k,by omega⟩;unfold JH;rw[e1];simp only[Ab,AJ];rw[e2,f1];simp only[AJ];rw[show PK .i64 (U:Int) t=_ from f2]
def Ox(c:BB)(U k:Nat):Az:=(((put U (A9 c k):Nat):Int),(k:Int))
theorem dJ(hv:VC c)(hX:NF c X){U:Nat}{o:Option Nat}(hs:NG c U o):∀(d k:Nat),k+d=(BI c).length->Iu (Xs c X) ((U:Int),GA o) d k=some (((List.range' k d).filter fun k=>!U.testBit (A9 c k)&&okn (GI c) o k).map (Ox c U))
 |0,k,_=>rfl
 |d+1,k,h=>by
  unfold Iu;rw[lS hv hX hs (show k<_ by omega)];simp only[Ab,AJ];rw[dJ hv hX hs d (k+1) (by omega),List.range'_succ,List.filter_cons];simp only[AJ];cases hb:!U.testBit (A9 c k)&&okn (GI c) o k with
  |true=>
   rw[if_pos rfl,tV hv hs (by omega)];simp[Ox]
  |false=>rw[if_neg (by simp)];simp
theorem Pt(hv:VC c)(hX:NF c X){U:Nat}{o:Option Nat}(hs:NG c U o):GR (Xs c X) ((U:Int),GA o)=some ((F9 (BI c).length (A9 c) (GI c) U o).map (Ox c U)):=by
 have e:=dJ hv hX hs (BI c).length 0 (by omega);rw[<-List.range_eq_range']at e;unfold GR;show(if(!decide (GA o=-1))=true then _ else Iu (Xs c X) ((U:Int),GA o) (BI c).length 0)=_;cases o with
 |none=>rw[if_neg (by simp[GA])];exact e
 |some i=>
  have hi:=hs.2 i rfl;rw[if_pos (by simp[GA])];obtain⟨r,g1,_⟩:=R8 hX hi hi;show((ix X.l (i:Int)).bind fun r=>_)=_;rw[g1];simp only[AJ];by_cases hz:r=Ar.fill 16 0
  ·rw[if_pos (by simp[hz])]
   have hnil:F9 (BI c).length (A9 c) (GI c) U (some i)=[]:=by
    refine List.filter_eq_nil_iff.2 fun k hk=>?_;have hk:=List.mem_range.1 hk;obtain⟨r',g3,g4⟩:=R8 hX hi hk;rw[g1]at g3;cases g3;have:ix (Ar.fill 16 (0:Int)).l (k:Int)=some 0:=by
     have:=JW hv;rw[A7 (by rw[(Ar.fill 16 (0:Int)).h];omega)]
     congr 1
     exact List.getElem_replicate ..
    rw[hz,this]at g4;cases hf:GI c i k with
    |true=>rw[hf]at g4;simp at g4
    |false=>simp[okn,hf]
   rw[hnil];rfl
  ·rw[if_neg (by simpa using hz)];exact e
abbrev G6(c:BB)(U:Nat)(o:Option Nat):List (List Nat):=ext (BI c).length (A9 c) (GI c) (fr c.1.length U) U o
def Ho(c:BB)(A:Ba):Prop:=∀p∈A,∃(U:Nat)(o:Option Nat),p.1=((U:Int),GA o)/\p.2=(((G6 c U o).length:Nat):Int)
theorem dK{o o':Option Nat}(h:GA o=GA o'):o=o':=by
 cases o<;>cases o'<;>simp[GA]at h⊢<;>omega
theorem Zi{a b:Int}(ha:-1000<=a/\a<=1000)(hb:-1000<=b/\b<=1000):L6 ((a,b):Int×Int)=some ():=by
 unfold L6;rw[if_pos];show((Lit.int .i64 a).wf&&(Lit.int .i64 b).wf)=true;have h1:IntKind.i64.min=-9223372036854775808:=rfl;have h2:IntKind.i64.max=9223372036854775807:=rfl;simp[Lit.wf,h1,h2];omega
theorem Oo(hv:VC c):∀k,k<(BI c).length->A9 c k<c.1.length:=fun k hk=>(KQ hv hk).2.2.1
theorem WQ(hv:VC c)(U:Nat)(o:Option Nat):(G6 c U o).length<=16^8:=by
 have h1:=JW hv;have h2:=hv.n8;have h3:fr c.1.length U<=8:=by
  unfold fr;have:=List.length_filter_le (fun p=>!U.testBit p) (List.range c.1.length);rw[List.length_range]at this;omega
 refine Nat.le_trans Sz ?_;exact Nat.le_trans (Nat.pow_le_pow_left h1 _) (Nat.pow_le_pow_right (by omega) h3)
theorem Zj{κ ν:Type}[DecidableEq κ]{k:κ}{v:ν}{p:κ×ν}:∀{m:List (κ×ν)},p∈BM m k v->p=(k,v)\/p∈m
 |[],h=>by rw[BM,List.mem_singleton]at h;exact .inl h
 |(a,b)::m,h=>by
  unfold BM at h;by_cases e:a=k
  ·rw[if_pos e]at h
   rcases List.mem_cons.1 h with h|h
   ·exact .inl h
   ·exact .inr (List.mem_cons_of_mem _ h)
  ·rw[if_neg e]at h
   rcases List.mem_cons.1 h with h|h
   ·exact .inr (by rw[h];exact List.mem_cons_self ..)
   ·exact(Zj h).imp id (List.mem_cons_of_mem _)
theorem Zk{κ ν:Type}[DecidableEq κ]{d:ν}{k:κ}:∀{m:List (κ×ν)},IY m k=true->(k,A8 d m k)∈m
 |[],h=>by cases h
 |(a,b)::m,h=>by
  unfold IY at h;unfold A8;by_cases e:a=k
  ·rw[if_pos e];subst e;exact List.mem_cons_self ..
  ·rw[if_neg e]at h⊢
   exact List.mem_cons_of_mem _ (Zk h)
theorem UK{f:Ba->Az->Option (Int×Ba)}{v:Nat->Nat}{st:Nat->Az}(hv:VC c)(hb:∀k,v k<=16^8):∀(L:List Nat)(a:Nat)(A:Ba),(∀k∈L,∀A,Ho c A->∃A',f A (st k)=some (((v k:Nat):Int),A')/\Ho c A')->Ho c A->a+L.length*16^8<=16^10->
  ∃A',Ll f (L.map st) (a:Int) A=some ((((a+(L.map v).sum:Nat)):Int),A')/\Ho c A'
 |[],a,A,_,hA,_=>⟨A,by simp[Ll],hA⟩
 |k::L,a,A,hf,hA,hl=>by
  obtain⟨A1,e1,e2⟩:=hf k (List.mem_cons_self ..) A hA;have hbk:=hb k;have h16:(16:Nat)^8=4294967296:=rfl;have h17:(16:Nat)^10=1099511627776:=rfl;simp only[List.length_cons,Nat.succ_mul]at hl;obtain⟨A2,e3,e4⟩:=UK hv hb L (a+v k) A1 (fun j hj=>hf j (List.mem_cons_of_mem _ hj)) e2 (by omega);refine⟨A2,?_,e4⟩;rw[List.map_cons,Ll,e1];simp only[Ab,AJ];rw[BO (by omega),show(a:Int)+(v k:Int)=((a+v k:Nat):Int) by omega,e3,List.map_cons,List.sum_cons,Nat.add_assoc]
theorem QJ(hv:VC c)(hX:NF c X):∀(mf U:Nat)(o:Option Nat)(A:Ba),NG c U o->fr c.1.length U<mf->Ho c A->∃A',Ch (Xs c X) mf A ((U:Int),GA o)=some ((((G6 c U o).length:Nat):Int),A')/\Ho c A'
 |0,U,o,A,_,h,_=>by omega
 |mf+1,U,o,A,hs,hf,hA=>by
  have h8:=hv.n8;have hU:=TB hv hs.1;have hz:=lK hv.n8 hs.1;have h16:(16:Nat)^8=4294967296:=rfl;have h17:(16:Nat)^10=1099511627776:=rfl;have hm:=JW hv;unfold Ch;rw[show shl .i64 1 ((Xs c X).1.1.length:Int)=some (((2^c.1.length:Nat)):Int)from b3 ⟨c.1.length,by omega⟩];simp only[Ab,AJ];have h2:2^c.1.length<=2^8:=Nat.pow_le_pow_right (by omega) h8;have h3:1<=2^c.1.length:=Nat.one_le_two_pow;rw[BO (by omega)];by_cases hfull:fr c.1.length U=0
  ·rw[if_pos (by have:=hz.2 hfull;simp only[decide_eq_true_eq];omega)]
   refine⟨A,?_,hA⟩;unfold G6;rw[hfull];rfl
  ·rw[if_neg (by simp only[decide_eq_true_eq];intro e;exact hfull (hz.1 (by omega)))]
   have hlast:-1<=GA o/\GA o<=16:=by
    cases o with
    |none=>simp[GA]
    |some i=>have:=hs.2 i rfl;simp[GA];omega
   rw[Zi (by omega) (by omega)];simp only[AJ];by_cases hh:IY A ((U:Int),GA o)=true
   ·rw[if_pos hh]
    obtain⟨V,o',e1,e2⟩:=hA _ (Zk (d:=(0:Int)) hh);simp only[Prod.mk.injEq]at e1;have hV:U=V:=by omega
    have ho:=dK e1.2;subst hV;subst ho;exact⟨A,by rw[show A8 0 A ((U:Int),GA o)=_ from e2],hA⟩
   ·rw[if_neg hh,Pt hv hX hs]
    simp only[AJ];obtain⟨d,hd⟩:∃d,fr c.1.length U=d+1:=⟨fr c.1.length U-1,by omega⟩;have hnx:∀k∈F9 (BI c).length (A9 c) (GI c) U o,NG c (put U (A9 c k)) (some k)/\fr c.1.length (put U (A9 c k))=d:=fun k hk=>by
     obtain⟨k1,k2,_⟩:=IU.1 hk;obtain⟨p1,p2⟩:=OE hv.n8 (Oo hv k k1) hs.1;exact⟨⟨p1,fun i hi=>by cases hi;exact k1⟩,by have:=p2 k2;omega⟩
    have hnl:(F9 (BI c).length (A9 c) (GI c) U o).length<=16:=Nat.le_trans (List.length_filter_le ..) (by simpa using hm);obtain⟨A',e1,e2⟩:=UK (f:=fun A u=>Ch (Xs c X) mf A u) (v:=fun k=>(G6 c (put U (A9 c k)) (some k)).length) (st:=Ox c U) hv (fun k=>WQ hv _ _) (F9 (BI c).length (A9 c) (GI c) U o) 0 A
     (fun k hk A hA=>QJ hv hX mf (put U (A9 c k)) (some k) A (hnx k hk).1 (by have:=(hnx k hk).2;omega) hA) hA (by omega)
    rw[show((0:Nat):Int)=0 from rfl]at e1;rw[e1];simp only[AJ];have hlen:(G6 c U o).length=0+((F9 (BI c).length (A9 c) (GI c) U o).map fun k=>(G6 c (put U (A9 c k)) (some k)).length).sum:=by
     unfold G6;rw[hd,ext,List.length_flatMap,Nat.zero_add]
     congr 1
     refine List.map_congr_left fun k hk=>?_;rw[List.length_map,(hnx k hk).2]
    rw[<-hlen];refine⟨_,rfl,fun p hp=>?_⟩;rcases Zj hp with rfl|hp
    ·exact⟨U,o,rfl,rfl⟩
    ·exact e2 p hp
abbrev Jc(c:BB):List (List Nat):=Js c.1.length (BI c).length (A9 c) (GI c)
theorem jW(c:BB):fr c.1.length 0=c.1.length:=by unfold fr;rw[List.filter_eq_self.2 (fun p _=>by simp),List.length_range]
theorem jX(c:BB):NG c 0 none:=⟨Nat.two_pow_pos _,fun i h=>by cases h⟩
theorem all_eq{F:Nat}(hF:1000<F)(hv:VC c)(hX:NF c X){A:Ba}(hA:Ho c A):∃A',Ch (Xs c X) F A (0,-1)=some ((((Jc c).length:Nat):Int),A')/\Ho c A':=by
 have h8:=hv.n8;obtain⟨A',h1,h2⟩:=QJ hv hX F 0 none A (jX c) (by rw[jW];omega) hA;refine⟨A',?_,h2⟩;have e:G6 c 0 none=Jc c:=by unfold G6 Jc Js;rw[jW]
 rw[e]at h1;exact h1
theorem Pv:Ho c []:=fun p hp=>by cases hp
theorem count_eq{F:Nat}(hF:1000<F)(hv:VC c):KC F c=some ((((Jc c).length:Nat):Int),0):=by
 obtain⟨X,h1,hX⟩:=Sw hF hv (l:=[]) (fun s hs=>by cases hs) (by simp);obtain⟨A',h2,_⟩:=all_eq hF hv hX Pv;unfold KC;rw[h1];simp only[Ab,AJ];rw[if_neg (by simp)];rw[show Ch (c,EW 0 c.1,X,Opq.mk,Opq.mk) F [] (0,-1)=_ from h2]
 rfl
theorem tX(hv:VC c):(Jc c).length<=16^8:=by
 have:=WQ hv 0 none;unfold G6 at this;rw[jW]at this;exact this
def FX(c:BB)(t:List Nat):List Am:=t.map fun k=>(BI c).getD k default
theorem Xq(hv:VC c)(hX:NF c X){mf U d:Nat}{o:Option Nat}(hs:NG c U o)(hd:fr c.1.length U=d+1)(hmf:d<mf):∀(L:List Nat)(num:Nat)(A:Ba)(t:List Nat),(∀k∈L,k∈F9 (BI c).length (A9 c) (GI c) U o)->Ho c A->num<=16^8->
  (L.flatMap fun k=>(ext (BI c).length (A9 c) (GI c) d (put U (A9 c k)) (some k)).map (k::·))[num]?=some t->
  ∃(k num':Nat)(A':Ba)(t':List Nat),LP (Xs c X) mf (L.map (Ox c U)) (num:Int) A=some (some (Ox c U k),(num':Int),A')/\Ho c A'/\k∈L/\t=k::t'/\num'<=16^8/\(ext (BI c).length (A9 c) (GI c) d (put U (A9 c k)) (some k))[num']?=some t'
 |[],num,A,t,_,_,_,h=>by simp at h
 |k::L,num,A,t,hL,hA,hnum,h=>by
  have h16:(16:Nat)^8=4294967296:=rfl;obtain⟨k1,k2,_⟩:=IU.1 (hL k (List.mem_cons_self ..));obtain⟨p1,p2⟩:=OE hv.n8 (Oo hv k k1) hs.1;have hfr:fr c.1.length (put U (A9 c k))=d:=by have:=p2 k2;omega
  obtain⟨A1,e1,e2⟩:=QJ hv hX mf (put U (A9 c k)) (some k) A ⟨p1,fun i hi=>by cases hi;exact k1⟩ (by omega) hA;have hle:=WQ hv (put U (A9 c k)) (some k);unfold G6 at e1 hle;rw[hfr]at e1 hle;rw[List.flatMap_cons]at h;rw[List.map_cons,LP,show Ch (Xs c X) mf A (Ox c U k)=_ from e1];simp only[Ab,AJ];by_cases hlt:num<(ext (BI c).length (A9 c) (GI c) d (put U (A9 c k)) (some k)).length
  ·rw[if_pos (by simpa using hlt)]
   rw[List.getElem?_append_left (by simpa using hlt),List.getElem?_map,List.getElem?_eq_getElem hlt]at h;simp only[Option.map_some,Option.some.injEq]at h;exact⟨k,num,A1,_,rfl,e2,List.mem_cons_self ..,h.symm,hnum,List.getElem?_eq_getElem hlt⟩
  ·rw[if_neg (by simp only[decide_eq_true_eq];omega)]
   rw[List.getElem?_append_right (by simp;omega),List.length_map]at h;rw[BO (by omega),show(num:Int)-((ext (BI c).length (A9 c) (GI c) d (put U (A9 c k)) (some k)).length:Int)=((num-(ext (BI c).length (A9 c) (GI c) d (put U (A9 c k)) (some k)).length:Nat):Int) by omega];obtain⟨k',num',A',t',g1,g2,g3,g4,g5,g6⟩:=Xq hv hX hs hd hmf L _ A1 t (fun j hj=>hL j (List.mem_cons_of_mem _ hj)) e2 (by omega) h;exact⟨k',num',A',t',g1,g2,List.mem_cons_of_mem _ g3,g4,g5,g6⟩
theorem dL(hv:VC c)(hX:NF c X){mf:Nat}:∀(d U:Nat)(o:Option Nat)(num:Nat)(q:List Am)(A:Ba)(t:List Nat),NG c U o->fr c.1.length U=d->d<=mf->Ho c A->num<=16^8->q.length+d<=100->(ext (BI c).length (A9 c) (GI c) d U o)[num]?=some t->
  ∃A',LB (Xs c X) mf d ((U:Int),GA o) (num:Int) q A=some (q++FX c t,A')/\Ho c A'
 |0,U,o,num,q,A,t,hs,hd,_,hA,_,_,h=>by
  unfold ext at h;have:t=[]:=by
   cases num with
   |zero=>simpa using h.symm
   |succ n=>simp at h
  subst this;exact⟨A,by simp[LB,FX],hA⟩
 |d+1,U,o,num,q,A,t,hs,hd,hmf,hA,hnum,hq,h=>by
  unfold ext at h;obtain⟨k,num',A',t',g1,g2,g3,g4,g5,g6⟩:=Xq hv hX hs hd (mf:=mf) (by omega) _ num A t (fun _ h=>h) hA hnum h;subst g4;obtain⟨k1,k2,_⟩:=IU.1 g3;obtain⟨p1,p2⟩:=OE hv.n8 (Oo hv k k1) hs.1;have hfr:fr c.1.length (put U (A9 c k))=d:=by have:=p2 k2;omega
  obtain⟨e1,_,_,e4⟩:=KQ hv k1;unfold LB;rw[Pt hv hX hs];simp only[Ab,AJ];rw[g1];simp only[AJ,Option.getD_some];rw[show ix (Xs c X).2.1 (Ox c U k).2=some (BI c)[k]from e1];simp only[AJ];rw[Fu (by simp;omega)];simp only[AJ];obtain⟨A2,f1,f2⟩:=dL hv hX (mf:=mf) d (put U (A9 c k)) (some k) num' (q++[(BI c)[k]]) A' t' ⟨p1,fun i hi=>by cases hi;exact k1⟩ hfr (by omega) g2 g5 (by rw[List.length_append,List.length_singleton];omega) g6;refine⟨A2,?_,f2⟩;rw[show Ox c U k=(((put U (A9 c k):Nat):Int),GA (some k))from rfl,f1];simp[FX,k1]
theorem dM{F:Nat}(hF:1000<F)(hv:VC c){num:Nat}{t:List Nat}(ht:(Jc c)[num]?=some t):Jr F c (num:Int)=some (FX c t,0):=by
 have h16:(16:Nat)^8=4294967296:=rfl;have h8:=hv.n8;have hlt:num<(Jc c).length:=(List.getElem?_eq_some_iff.1 ht).1;have hle:=tX hv;have htm:=Mc.1 (List.mem_of_getElem? ht);obtain⟨X,h1,hX⟩:=Sw hF hv (l:=[]) (fun s hs=>by cases hs) (by simp);obtain⟨A',h2,hA⟩:=all_eq hF hv hX Pv;unfold Jr;rw[h1];simp only[Ab,AJ];rw[if_neg (by simp),if_neg (by simp)];rw[show Ch (c,EW 0 c.1,X,Opq.mk,Opq.mk) F [] (0,-1)=_ from h2];simp only[AJ];rw[if_neg (by simp only[decide_eq_true_eq];omega)];obtain⟨A2,f1,_⟩:=dL hv hX (mf:=F) c.1.length 0 none num [] A' t (jX c) (jW c) (by omega) hA (by omega) (by simp;omega) ht;unfold Oh;rw[show LB (c,EW 0 c.1,X,Opq.mk,Opq.mk) F (c,EW 0 c.1,X,Opq.mk,Opq.mk).1.1.length (0,-1) (num:Int) [] A'=some ([]++FX c t,A2)from f1];simp only[Ab,AJ,List.nil_append];have hsl:(FX c t).length=c.1.length:=by unfold FX;rw[List.length_map,htm.len]
 have e5:mks 16 ((FX c t).length:Int) ((0,false):Am)=some (List.replicate (FX c t).length (0,false)):=by
  unfold mks;rw[if_pos (by simp;omega)];rfl
 rw[e5];simp only[AJ]
 congr 2
 unfold J4;rw[List.length_replicate,List.take_length,List.drop_of_length_le (by simp),List.append_nil]
end
end
section
section
variable {c:BB}{X:ET}
abbrev NH(c:BB)(U i:Nat):List (List Nat):=Cj (BI c).length (A9 c) (GI c) (us c.1.length U-1) U i
def jY(c:BB)(U i:Nat):Prop:=U<2^c.1.length/\i<(BI c).length/\U.testBit (A9 c i)=true
def Lb(c:BB)(A:Ba):Prop:=∀p∈A,∃(U i:Nat),p.1=((U:Int),(i:Int))/\p.2=(((NH c U i).length:Nat):Int)
theorem us_le(hv:VC c)(U:Nat):us c.1.length U<=8:=by
 have:=List.length_filter_le (fun p=>U.testBit p) (List.range c.1.length);rw[List.length_range]at this;have:=hv.n8;unfold us;omega
theorem qA(hv:VC c)(U i:Nat):(NH c U i).length<=268435456:=by
 show _<=16^7;have h1:=JW hv;have h3:=us_le hv U;refine Nat.le_trans S9 ?_;exact Nat.le_trans (Nat.pow_le_pow_left h1 _) (Nat.pow_le_pow_right (by omega) (by omega))
theorem jZ(hv:VC c)(hX:NF c X){f:Ba->Az->Option (Int×Ba)}{O i:Nat}(hO:O<256)(hi:i<(BI c).length){v:Nat->Nat}{B C:Nat}(hC:C<=4611686018427387904)(hb:∀k,v k<=B)
  (hf:∀k,k<(BI c).length->O.testBit (A9 c k)=true->∀A,Lb c A->∃A',f A ((O:Int),(k:Int))=some (((v k:Nat):Int),A')/\Lb c A'):∀(m k a:Nat)(A:Ba),k+m=(BI c).length->Lb c A->a+m*B<=C->
  ∃A',Jq (Xs c X) f (O:Int) (i:Int) m k (a:Int) A=some (((a+(((List.range' k m).filter fun k=>O.testBit (A9 c k)&&GI c k i).map v).sum:Nat):Int),A')/\Lb c A'
 |0,k,a,A,_,hA,_=>⟨A,by simp[Jq],hA⟩
 |m+1,k,a,A,hk,hA,hl=>by
  have hlt:k<(BI c).length:=by omega
  have hbk:=hb k;rw[Nat.succ_mul]at hl;obtain⟨e1,e2,e3,_⟩:=KQ hv hlt;have h8:=hv.n8;obtain⟨s,f1,f2,_⟩:=b1 ⟨O,hO⟩ ⟨A9 c k,by omega⟩;unfold Jq;rw[show ix (Xs c X).2.1 (k:Int)=some (BI c)[k]from e1];simp only[Ab,AJ];rw[e2,f1];simp only[AJ];rw[f2,List.range'_succ,List.filter_cons];have ih:=fun a' A' h1 h2=>jZ hv hX hO hi hC hb hf m (k+1) a' A' (by omega) h1 h2;cases hbit:O.testBit (A9 c k)with
  |false=>
   rw[if_neg (by simp)];simp only[Bool.false_and,Bool.false_eq_true,if_false];exact ih a A hA (by omega)
  |true=>
   rw[if_pos rfl];obtain⟨r,g1,g2⟩:=R8 hX hlt hi;show∃A',((ix X.l (k:Int)).bind _)=_/\_;rw[g1];simp only[AJ];rw[g2];simp only[AJ,Bool.true_and];cases hft:GI c k i with
   |false=>
    simp only[Bool.false_eq_true,if_false];rw[if_neg (by simp)];exact ih a A hA (by omega)
   |true=>
    simp only[if_true];rw[if_pos (by simp)];obtain⟨A1,f3,f4⟩:=hf k hlt hbit A hA;rw[f3];simp only[AJ];obtain⟨A2,f5,f6⟩:=ih (a+v k) A1 f4 (by omega);refine⟨A2,?_,f6⟩;rw[BO (by omega),show(a:Int)+(v k:Int)=((a+v k:Nat):Int) by omega,f5,List.map_cons,List.sum_cons,Nat.add_assoc]
theorem Xr(hv:VC c)(hX:NF c X):∀(mf U i:Nat)(A:Ba),jY c U i->us c.1.length U<mf->Lb c A->∃A',Gz (Xs c X) mf A ((U:Int),(i:Int))=some ((((NH c U i).length:Nat):Int),A')/\Lb c A'
 |0,U,i,A,_,h,_=>by omega
 |mf+1,U,i,A,hs,hf,hA=>by
  have h8:=hv.n8;have hU:=TB hv hs.1;have hm:=JW hv;obtain⟨e1,e2,e3,_⟩:=KQ hv hs.2.1;obtain⟨t,f1,_,f3,_⟩:=b2 ⟨U,hU⟩ ⟨A9 c i,by omega⟩;obtain⟨o1,o2⟩:=R7 hv.n8 e3 hs.1;have ho:=o2 hs.2.2;have hz:=(Nj ⟨c.1.length,by omega⟩ ⟨out U (A9 c i),TB hv o1⟩ o1).2.1;unfold Gz;have hi:=hs.2.1;rw[show ix (Xs c X).2.1 (i:Int)=some (BI c)[i]from e1];simp only[Ab,AJ];rw[show((BI c)[i]).1=((A9 c i:Nat):Int)from e2,f1];simp only[AJ];rw[show NM .i64 (U:Int) t=((out U (A9 c i):Nat):Int)from f3];by_cases h0:out U (A9 c i)=0
  ·rw[if_pos (by simp[h0])]
   refine⟨A,?_,hA⟩;have:us c.1.length (out U (A9 c i))=0:=hz.1 h0;unfold NH;rw[show us c.1.length U-1=0 by omega];rfl
  ·rw[if_neg (by simpa using h0)]
   have hne:us c.1.length (out U (A9 c i))≠0:=fun e=>h0 (hz.2 e);have hi16:i<16:=by have:=hs.2.1;omega
   rw[Zi (by omega) (by omega)];simp only[AJ];by_cases hh:IY A ((U:Int),(i:Int))=true
   ·rw[if_pos hh]
    obtain⟨V,j,g1,g2⟩:=hA _ (Zk (d:=(0:Int)) hh);simp only[Prod.mk.injEq]at g1;have hV:U=V:=by omega
    have hj:i=j:=by omega
    subst hV;subst hj;exact⟨A,by rw[show A8 0 A ((U:Int),(i:Int))=_ from g2],hA⟩
   ·rw[if_neg hh]
    obtain⟨dd,hd⟩:∃dd,us c.1.length U-1=dd+1:=⟨us c.1.length U-2,by omega⟩;obtain⟨A',g1,g2⟩:=jZ hv hX (f:=fun U u=>Gz (Xs c X) mf U u) (O:=out U (A9 c i)) (i:=i) (TB hv o1) hs.2.1 (v:=fun k=>(NH c (out U (A9 c i)) k).length) (B:=268435456) (C:=4611686018427387904) (Nat.le_refl _) (fun k=>qA hv _ _)
     (fun k hk hb A hA=>Xr hv hX mf (out U (A9 c i)) k A ⟨o1,hk,hb⟩ (by omega) hA) (BI c).length 0 0 A (by omega) hA (by omega)
    rw[show((0:Nat):Int)=0 from rfl]at g1;rw[show Jq (Xs c X) (fun U u=>Gz (Xs c X) mf U u) ((out U (A9 c i):Nat):Int) (i:Int) (Xs c X).2.1.length 0 0 A=_ from g1];simp only[AJ];have hlen:(NH c U i).length=0+(((List.range' 0 (BI c).length).filter fun k=>(out U (A9 c i)).testBit (A9 c k)&&GI c k i).map fun k=>(NH c (out U (A9 c i)) k).length).sum:=by
     unfold NH;rw[hd,Cj,List.length_flatMap,Nat.zero_add,<-List.range_eq_range']
     congr 1
     refine List.map_congr_left fun k _=>?_;rw[List.length_map,show us c.1.length (out U (A9 c i))-1=dd by omega]
    rw[<-hlen];refine⟨_,rfl,fun p hp=>?_⟩;rcases Zj hp with rfl|hp
    ·exact⟨U,i,rfl,rfl⟩
    ·exact g2 p hp
theorem dN:Lb c []:=fun p hp=>by cases hp
structure Cn(O:Ia)(f:Nat->Nat->Nat):Prop where
 nod:(O.map (·.1)).Nodup
 get:∀i k:Nat,A8 0 O ((i:Int),(k:Int))=((f i k:Nat):Int)
theorem mput_keys{κ ν:Type}[DecidableEq κ]{k:κ}{v:ν}:∀{l:List (κ×ν)},∀a,a∈(BM l k v).map (·.1)->a=k\/a∈l.map (·.1)
 |l,a,h=>by
  obtain⟨p,hp,rfl⟩:=List.mem_map.1 h;rcases Zj hp with rfl|hp
  ·exact .inl rfl
  ·exact .inr (List.mem_map.2 ⟨p,hp,rfl⟩)
theorem WR{κ ν:Type}[DecidableEq κ]{k:κ}{v:ν}:∀{l:List (κ×ν)},(l.map (·.1)).Nodup->((BM l k v).map (·.1)).Nodup
 |[],_=>by simp[BM]
 |(a,b)::l,h=>by
  simp only[List.map_cons,List.nodup_cons]at h;unfold BM;by_cases e:a=k
  ·rw[if_pos e];subst e;simpa using h
  ·rw[if_neg e]
   simp only[List.map_cons,List.nodup_cons];refine⟨fun hh=>?_,WR h.2⟩;rcases mput_keys a hh with hh|hh
   ·exact e hh
   ·exact h.1 hh
theorem vC{κ ν:Type}[DecidableEq κ]{d:ν}{k k':κ}{v:ν}:∀{l:List (κ×ν)},A8 d (BM l k v) k'=if k'=k then v else A8 d l k'
 |[]=>by
  by_cases h:k'=k
  ·subst h;simp[BM,A8]
  ·simp[BM,A8,h,Ne.symm h]
 |(a,u)::l=>by
  have ih:=vC (d:=d) (k:=k) (k':=k') (v:=v) (l:=l);unfold BM;by_cases e:a=k
  ·rw[if_pos e];subst e
   by_cases h:k'=a
   ·subst h;simp[A8]
   ·simp[A8,h,Ne.symm h]
  ·rw[if_neg e,A8,A8,ih]
   by_cases h:a=k'
   ·subst h;simp[e]
   ·simp[h]
theorem Cn.add{O:Ia}{f:Nat->Nat->Nat}(h:Cn O f)(i k n:Nat):Cn (BM O ((i:Int),(k:Int)) (((f i k+n:Nat)):Int)) fun i' k'=>if i'=i/\k'=k then f i k+n else f i' k':=by
 refine⟨WR h.nod,fun i' k'=>?_⟩;rw[vC];by_cases e:i'=i/\k'=k
 ·rw[if_pos (by rw[e.1,e.2]),if_pos e]
 ·rw[if_neg (by simp only[Prod.mk.injEq];intro hh;exact e ⟨by omega,by omega⟩),if_neg e,h.get]
theorem ja(hv:VC c){U i k:Nat}(hs:jY c U i)(hk:k∈F9 (BI c).length (A9 c) (GI c) U (some i)):(NH c U i).length*(G6 c (put U (A9 c k)) (some k)).length<=16777216:=by
 obtain⟨k1,k2,_⟩:=IU.1 hk;obtain⟨p1,p2⟩:=OE hv.n8 (Oo hv k k1) hs.1;have hf:=p2 k2;have hfu:=Zh hv.n8 hs.1;have hpos:=WN hv.n8 (Oo hv i hs.2.1) hs.1 hs.2.2;have h8:=hv.n8;have h1:=JW hv;have a:(NH c U i).length<=16^(us c.1.length U-1):=Nat.le_trans S9 (Nat.pow_le_pow_left h1 _);have b:(G6 c (put U (A9 c k)) (some k)).length<=16^fr c.1.length (put U (A9 c k)):=Nat.le_trans Sz (Nat.pow_le_pow_left h1 _);refine Nat.le_trans (Nat.mul_le_mul a b) ?_;rw[<-Nat.pow_add];show _<=16^6;exact Nat.pow_le_pow_right (by omega) (by omega)
theorem Qp(hv:VC c)(hX:NF c X){mf U i ways B D:Nat}(hs:NG c U (some i))(hmf:8<mf)(hD:D+B<=4611686018427387904):∀(L:List Nat)(A:Ba)(O:Ia)(f:Nat->Nat->Nat),(∀k∈L,k∈F9 (BI c).length (A9 c) (GI c) U (some i)/\ways*(G6 c (put U (A9 c k)) (some k)).length<=B)->L.Nodup->Ho c A->Cn O f->(∀k∈L,f i k<=D)->
  ∃A' O',Ng (Xs c X) mf (ways:Int) (i:Int) (L.map (Ox c U)) A O=some (A',O')/\Ho c A'/\Cn O' fun i' k'=>f i' k'+if i'=i/\k'∈L then ways*(G6 c (put U (A9 c k')) (some k')).length else 0
 |[],A,O,f,_,_,hA,hO,_=>⟨A,O,rfl,hA,by simpa using hO⟩
 |k::L,A,O,f,hL,hn,hA,hO,hb=>by
  have h8:=hv.n8;have hm:=JW hv;rw[List.nodup_cons]at hn;obtain⟨hk,hprod⟩:=hL k (List.mem_cons_self ..);obtain⟨k1,k2,_⟩:=IU.1 hk;obtain⟨p1,p2⟩:=OE hv.n8 (Oo hv k k1) hs.1;have hfu:=Zh hv.n8 p1;obtain⟨A1,e1,e2⟩:=QJ hv hX mf (put U (A9 c k)) (some k) A ⟨p1,fun i hi=>by cases hi;exact k1⟩ (by omega) hA;have hfk:=hb k (List.mem_cons_self ..);have hi16:i<16:=by have:=hs.2 i rfl;omega
  rw[List.map_cons,Ng,show Ch (Xs c X) mf A (Ox c U k)=_ from e1];simp only[Ab,AJ];rw[show(ways:Int)*((G6 c (put U (A9 c k)) (some k)).length:Int)=((ways*(G6 c (put U (A9 c k)) (some k)).length:Nat):Int) by simp,BO (n:=((ways*(G6 c (put U (A9 c k)) (some k)).length:Nat):Int)) (by omega)];have fin:∀f':Nat->Nat->Nat,(∀i' k',f' i' k'=f i' k'+if i'=i/\k'=k then ways*(G6 c (put U (A9 c k)) (some k)).length else 0)->∀i' k':Nat,(f' i' k'+if i'=i/\k'∈L then ways*(G6 c (put U (A9 c k')) (some k')).length else 0)=f i' k'+if i'=i/\k'∈k::L then ways*(G6 c (put U (A9 c k')) (some k')).length else 0:=by
   intro f' hf' i' k';rw[hf'];by_cases e:i'=i/\k'=k
   ·obtain⟨rfl,rfl⟩:=e
    rw[if_pos ⟨rfl,rfl⟩,if_neg (fun h=>hn.1 h.2),if_pos ⟨rfl,List.mem_cons_self ..⟩];omega
   ·rw[if_neg e]
    by_cases e2:i'=i/\k'∈L
    ·rw[if_pos e2,if_pos ⟨e2.1,List.mem_cons_of_mem _ e2.2⟩];omega
    ·rw[if_neg e2,if_neg]
     rintro⟨h1,h2⟩;rcases List.mem_cons.1 h2 with h2|h2
     ·exact e ⟨h1,h2⟩
     ·exact e2 ⟨h1,h2⟩
  by_cases h0:0<ways*(G6 c (put U (A9 c k)) (some k)).length
  ·rw[if_pos (by simp only[decide_eq_true_eq];omega)]
   rw[show((i:Int),(Ox c U k).2)=((i:Int),(k:Int))from rfl,Zi (by omega) (by omega)];simp only[AJ];rw[hO.get,BO (by omega),show((f i k:Nat):Int)+((ways*(G6 c (put U (A9 c k)) (some k)).length:Nat):Int)=((f i k+ways*(G6 c (put U (A9 c k)) (some k)).length:Nat):Int) by omega];obtain⟨A2,O2,g1,g2,g3⟩:=Qp hv hX hs hmf hD L A1 _ _ (fun j hj=>hL j (List.mem_cons_of_mem _ hj)) hn.2 e2 (hO.add i k (ways*(G6 c (put U (A9 c k)) (some k)).length)) (fun k' hk'=>by
    have:k'≠k:=fun e=>hn.1 (e▸hk');rw[if_neg (fun h=>this h.2)];exact hb k' (List.mem_cons_of_mem _ hk'))
   refine⟨A2,O2,g1,g2,g3.nod,fun i' k'=>?_⟩;rw[g3.get]
   congr 1
   refine fin (fun i' k'=>if i'=i/\k'=k then f i k+ways*(G6 c (put U (A9 c k)) (some k)).length else f i' k') (fun i' k'=>?_) i' k';show(if i'=i/\k'=k then f i k+ways*(G6 c (put U (A9 c k)) (some k)).length else f i' k')=_;by_cases e:i'=i/\k'=k
   ·obtain⟨rfl,rfl⟩:=e
    rw[if_pos ⟨rfl,rfl⟩,if_pos ⟨rfl,rfl⟩]
   ·rw[if_neg e,if_neg e];rfl
  ·rw[if_neg (by simp only[decide_eq_true_eq];omega)]
   obtain⟨A2,O2,g1,g2,g3⟩:=Qp hv hX hs hmf hD L A1 O f (fun j hj=>hL j (List.mem_cons_of_mem _ hj)) hn.2 e2 hO (fun j hj=>hb j (List.mem_cons_of_mem _ hj));refine⟨A2,O2,g1,g2,g3.nod,fun i' k'=>?_⟩;rw[g3.get]
   congr 1
   refine fin f (fun i' k'=>?_) i' k';split<;>omega
abbrev Xt(c:BB)(i k U:Nat):Nat:=wy c.1.length (BI c).length (A9 c) (GI c) i k U
theorem dP{U i:Nat}(hb:U.testBit (A9 c i)=true)(k:Nat):(if k∈F9 (BI c).length (A9 c) (GI c) U (some i)then(NH c U i).length*(G6 c (put U (A9 c k)) (some k)).length else 0)=Xt c i k U:=by
 unfold Xt wy;by_cases h:k∈F9 (BI c).length (A9 c) (GI c) U (some i)
 ·rw[if_pos h,if_pos ⟨hb,h⟩]
 ·rw[if_neg h,if_neg fun e=>h e.2]
theorem qB(hv:VC c){U i:Nat}(hs:jY c U i)(k:Nat):Xt c i k U<=16777216:=by
 rw[<-dP hs.2.2];split
 ·rename_i h;exact ja hv hs h
 ·omega
theorem UL(hv:VC c)(hX:NF c X){mf i D:Nat}(hmf:8<mf)(hi:i<(BI c).length)(hD:D<=4611686018427387904):∀(L:List Nat)(A U':Ba)(O:Ia)(f:Nat->Nat->Nat),(∀U∈L,jY c U i)->Ho c A->Lb c U'->Cn O f->(∀k,f i k+L.length*16777216+16777216<=D)->
  ∃A1 U1 O1,NC (Xs c X) mf (i:Int) (L.map fun(U:Nat)=>((U:Int),(i:Int))) A U' O=some (O1,A1,U1)/\Ho c A1/\Lb c U1/\Cn O1 fun i' k'=>f i' k'+if i'=i then(L.map (Xt c i k')).sum else 0
 |[],A,U',O,f,_,hA,hU,hO,_=>⟨A,U',O,rfl,hA,hU,by simpa using hO⟩
 |U::L,A,U',O,f,hL,hA,hU,hO,hb=>by
  have h8:=hv.n8;have hs:=hL U (List.mem_cons_self ..);have hus:=us_le hv U;obtain⟨U1,e1,e2⟩:=Xr hv hX mf U i U' hs (by omega) hU;have hok:NG c U (some i):=⟨hs.1,fun j hj=>by cases hj;exact hi⟩;rw[List.map_cons,NC,e1];simp only[Ab,AJ];rw[show GR (Xs c X) ((U:Int),(i:Int))=_ from Pt hv hX hok];simp only[AJ];obtain⟨A1,O1,g1,g2,g3⟩:=Qp hv hX (ways:=(NH c U i).length) (B:=16777216) (D:=D-16777216) hok hmf (by have:=hb 0;omega) (F9 (BI c).length (A9 c) (GI c) U (some i)) A O f (fun k hk=>⟨hk,ja hv hs hk⟩) QY hA hO (fun k _=>by have:=hb k;omega);rw[g1];simp only[AJ];have hf1:∀k,(f i k+if i=i/\k∈F9 (BI c).length (A9 c) (GI c) U (some i)then(NH c U i).length*(G6 c (put U (A9 c k)) (some k)).length else 0)=f i k+Xt c i k U:=fun k=>by
   rw[<-dP hs.2.2];simp
  obtain⟨A2,U2,O2,h1,h2,h3,h4⟩:=UL hv hX hmf hi hD L A1 U1 O1 _ (fun V hV=>hL V (List.mem_cons_of_mem _ hV)) g2 e2 g3 (fun k=>by
   have a:=hb k;have b:=qB hv hs k;rw[List.length_cons,Nat.succ_mul]at a;show(f i k+if i=i/\k∈F9 (BI c).length (A9 c) (GI c) U (some i)then(NH c U i).length*(G6 c (put U (A9 c k)) (some k)).length else 0)+_+_<=D;rw[hf1];omega)
  refine⟨A2,U2,O2,h1,h2,h3,h4.nod,fun i' k'=>?_⟩;rw[h4.get]
  congr 1
  show(f i' k'+if i'=i/\k'∈F9 (BI c).length (A9 c) (GI c) U (some i)then(NH c U i).length*(G6 c (put U (A9 c k')) (some k')).length else 0)+_=_;by_cases e:i'=i
  ·subst e
   rw[hf1,if_pos rfl,if_pos rfl,List.map_cons,List.sum_cons,Nat.add_assoc]
  ·rw[if_neg (fun h=>e h.1),if_neg e,if_neg e]
theorem jb(hv:VC c){p:Nat}(hp:p<c.1.length){t:Int}(ht:shl .i64 1 (p:Int)=some t){i:Int}:∀(d k:Nat),k+d<=256->JS t i d k=((List.range' k d).filter fun U=>U.testBit p).map fun(U:Nat)=>((U:Int),i)
 |0,k,_=>rfl
 |d+1,k,h=>by
  have h8:=hv.n8;obtain⟨t',f1,_,_,f4⟩:=b2 ⟨k,by omega⟩ ⟨p,by omega⟩;rw[show shl .i64 1 ((⟨p,by omega⟩:Fin 8).val:Int)=some t from ht]at f1;cases f1;unfold JS;rw[show decide (band .i64 (k:Int) t=0)=!k.testBit p from f4,jb hv hp ht d (k+1) (by omega),List.range'_succ,List.filter_cons,Bool.not_not];cases k.testBit p with
  |true=>rw[if_pos rfl,if_pos rfl];rfl
  |false=>rw[if_neg (by simp),if_neg (by simp)]
theorem dQ(hv:VC c){i:Nat}(hi:i<(BI c).length):JU (Xs c X) (i:Int)=some (((List.range (2^c.1.length)).filter fun U=>U.testBit (A9 c i)).map fun(U:Nat)=>((U:Int),(i:Int))):=by
 have h8:=hv.n8;obtain⟨e1,e2,e3,_⟩:=KQ hv hi;obtain⟨t,f1,_⟩:=b2 ⟨0,by omega⟩ ⟨A9 c i,by omega⟩;have h2:2^c.1.length<=2^8:=Nat.pow_le_pow_right (by omega) h8;unfold JU;rw[show ix (Xs c X).2.1 (i:Int)=some (BI c)[i]from e1];simp only[Ab,AJ];rw[show((BI c)[i]).1=((A9 c i:Nat):Int)from e2,f1];simp only[AJ];rw[show shl .i64 1 ((Xs c X).1.1.length:Int)=some (((2^c.1.length:Nat)):Int)from b3 ⟨c.1.length,by omega⟩];simp only[AJ];have h3:((2^c.1.length:Nat):Int)<=256:=by omega
 rw[if_pos (by simp only[decide_eq_true_eq];exact⟨Int.natCast_nonneg _,Int.le_trans h3 (by decide)⟩),Int.toNat_natCast,jb hv e3 f1 _ 0 (by omega),List.range_eq_range']
theorem R9{w:Nat->Nat}{p:Nat->Bool}(h:∀U,p U=false->w U=0):∀L:List Nat,((L.filter p).map w).sum=(L.map w).sum
 |[]=>rfl
 |U::L=>by
  rw[List.filter_cons,List.map_cons,List.sum_cons,<-R9 h L];cases hp:p U with
  |true=>rw[if_pos rfl,List.map_cons,List.sum_cons]
  |false=>rw[if_neg (by simp),h U hp];omega
abbrev iE(c:BB)(i k:Nat):Nat:=dI c.1.length (BI c).length (A9 c) (GI c) i k
theorem UM(hv:VC c)(hX:NF c X){mf:Nat}(hmf:8<mf):∀(d k:Nat)(A U':Ba)(O:Ia),k+d=(BI c).length->Ho c A->Lb c U'->Cn O (fun i' k'=>if i'<k then iE c i' k' else 0)->
  ∃A1 U1 O1,ND (Xs c X) mf d k A U' O=some (O1,A1,U1)/\Cn O1 fun i' k'=>if i'<(BI c).length then iE c i' k' else 0
 |0,k,A,U',O,hk,_,_,hO=>⟨A,U',O,rfl,by rw[show(BI c).length=k by omega];exact hO⟩
 |d+1,k,A,U',O,hk,hA,hU,hO=>by
  have h8:=hv.n8;have hlt:k<(BI c).length:=by omega
  have h2:2^c.1.length<=2^8:=Nat.pow_le_pow_right (by omega) h8;have hfl:=List.length_filter_le (fun U:Nat=>U.testBit (A9 c k)) (List.range (2^c.1.length));rw[List.length_range]at hfl;unfold ND;rw[dQ hv hlt];simp only[Ab,AJ];obtain⟨A1,U1,O1,g1,g2,g3,g4⟩:=UL hv hX (mf:=mf) (i:=k) (D:=4611686018427387904) hmf hlt (Nat.le_refl _) _ A U' O _ (fun U hU=>by
   obtain⟨a,b⟩:=List.mem_filter.1 hU;exact⟨List.mem_range.1 a,hlt,b⟩) hA hU hO (fun k'=>by
   rw[if_neg (by omega)];have:(List.filter (fun U:Nat=>U.testBit (A9 c k)) (List.range (2^c.1.length))).length<=256:=by omega
   omega)
  rw[g1];simp only[AJ];refine UM hv hX hmf d (k+1) A1 U1 O1 (by omega) g2 g3 ⟨g4.nod,fun i' k'=>?_⟩;rw[g4.get]
  congr 1
  by_cases e:i'=k
  ·subst e
   rw[if_neg (by omega),if_pos rfl,if_pos (by omega),Nat.zero_add];unfold iE dI;refine R9 (fun U hU=>?_) _;unfold Xt wy;rw[if_neg fun h=>by rw[hU]at h;cases h.1]
  ·rw[if_neg e]
   by_cases e2:i'<k
   ·rw[if_pos e2,if_pos (by omega)];rfl
   ·rw[if_neg e2,if_neg (by omega)]
theorem WS{all:Int}(hall:0<all){z:Int×Int}:∀(O:Ia),(O.map (·.1)).Nodup->0<A8 0 (O.filter fun z=>decide (all<=z.2)) z->all<=A8 0 O z
 |[],_,h=>by simp[A8]at h
 |(a,b)::O,hn,h=>by
  simp only[List.map_cons,List.nodup_cons]at hn;rw[List.filter_cons]at h;unfold A8;by_cases e:a=z
  ·rw[if_pos e]
   by_cases hb:all<=b
   ·exact hb
   ·rw[if_neg (by simpa using hb)]at h
    have:∀(Q:Ia),(∀p∈Q,p.1≠z)->A8 0 Q z=0:=fun Q hQ=>(JM hQ).1;rw[this _ fun p hp hpe=>hn.1 (by
     have:=(List.mem_filter.1 hp).1;exact List.mem_map.2 ⟨p,this,by rw[hpe,e]⟩)]at h
    omega
  ·rw[if_neg e]
   refine WS hall O hn.2 ?_;by_cases hb:all<=b
   ·rw[if_pos (by simpa using hb)]at h
    unfold A8 at h;rwa [if_neg e]at h
   ·rwa [if_neg (by simpa using hb)]at h
theorem Qq(hv:VC c){O:Ia}{i:Nat}(hi:i<(BI c).length){p:Am}:∀(d k:Nat)(o:List JC),k+d=(BI c).length->o.length+d<=1000->
  ∃o',MK (Xs c X) O (i:Int) p d k o=some o'/\o'.length<=o.length+d/\∀z∈o',z∈o\/∃(k':Nat)(s:Am),(BI c)[k']?=some s/\z=(p,s)/\0<A8 0 O ((i:Int),(k':Int))
 |0,k,o,_,_=>⟨o,rfl,by omega,fun z h=>.inl h⟩
 |d+1,k,o,hk,hl=>by
  have hm:=JW hv;have hlt:k<(BI c).length:=by omega
  obtain⟨e1,_,_,e4⟩:=KQ hv hlt;unfold MK;rw[show ix (Xs c X).2.1 (k:Int)=some (BI c)[k]from e1];simp only[Ab,AJ];rw[Zi (by omega) (by omega)];simp only[AJ];by_cases h0:0<A8 0 O ((i:Int),(k:Int))
  ·rw[if_pos (by simpa using h0),Fu (by simp;omega)]
   simp only[AJ];obtain⟨o',g1,g2,g3⟩:=Qq hv (O:=O) hi (p:=p) d (k+1) (o++[(p,(BI c)[k])]) (by omega) (by simp;omega);refine⟨o',g1,by simp at g2;omega,fun z hz=>?_⟩;rcases g3 z hz with h|h
   ·rcases List.mem_append.1 h with h|h
    ·exact .inl h
    ·rw[List.mem_singleton]at h
     exact .inr ⟨k,_,e4,h,h0⟩
   ·exact .inr h
  ·rw[if_neg (by simpa using h0)]
   obtain⟨o',g1,g2,g3⟩:=Qq hv (O:=O) hi (p:=p) d (k+1) o (by omega) (by omega);exact⟨o',g1,by omega,g3⟩
theorem UN(hv:VC c){O:Ia}:∀(d k:Nat)(o:List JC),k+d=(BI c).length->o.length+16*d<=500->
  ∃o',Lm (Xs c X) O d k o=some o'/\o'.length<=o.length+16*d/\∀z∈o',z∈o\/∃(i k':Nat)(p s:Am),(BI c)[i]?=some p/\(BI c)[k']?=some s/\z=(p,s)/\0<A8 0 O ((i:Int),(k':Int))
 |0,k,o,_,_=>⟨o,rfl,by omega,fun z h=>.inl h⟩
 |d+1,k,o,hk,hl=>by
  have hm:=JW hv;have hlt:k<(BI c).length:=by omega
  obtain⟨e1,_,_,e4⟩:=KQ hv hlt;unfold Lm;rw[show ix (Xs c X).2.1 (k:Int)=some (BI c)[k]from e1];simp only[Ab,AJ];obtain⟨o1,g1,g2,g3⟩:=Qq hv (X:=X) (O:=O) hlt (p:=(BI c)[k]) (BI c).length 0 o (by omega) (by omega);rw[show MK (Xs c X) O (k:Int) (BI c)[k] (Xs c X).2.1.length 0 o=some o1 from g1];simp only[AJ];obtain⟨o2,h1,h2,h3⟩:=UN hv (O:=O) d (k+1) o1 (by omega) (by omega);refine⟨o2,h1,by omega,fun z hz=>?_⟩;rcases h3 z hz with h|h
  ·rcases g3 z h with h|⟨k',s,a,b,e⟩
   ·exact .inl h
   ·exact .inr ⟨k,k',_,s,e4,a,b,e⟩
  ·exact .inr h
theorem XE{F:Nat}(hF:1000<F)(hv:VC c)(hJ:0<(Jc c).length):∃P,H6 F c=some (P,0)/\P.length<=1000/\∀z∈P,∃(i k:Nat)(p s:Am),(BI c)[i]?=some p/\(BI c)[k]?=some s/\z=(p,s)/\∀t∈Jc c,Pq i k t=true:=by
 have hm:=JW hv;obtain⟨X,h1,hX⟩:=Sw hF hv (l:=[]) (fun s hs=>by cases hs) (by simp);obtain⟨A',h2,hA⟩:=all_eq hF hv hX Pv;obtain⟨A1,U1,O1,g1,g2⟩:=UM hv hX (mf:=F) (by omega) (BI c).length 0 A' [] [] (by omega) hA dN ⟨by simp,fun i k=>by simp[A8]⟩;obtain⟨o,f1,f2,f3⟩:=UN hv (X:=X) (O:=O1.filter fun z=>decide ((((Jc c).length:Nat):Int)<=z.2)) (BI c).length 0 [] (by omega) (by simp;omega);refine⟨o,?_,by simp at f2;omega,fun z hz=>?_⟩
 ·unfold H6
  rw[h1];simp only[Ab,AJ];rw[if_neg (by simp)];rw[show Ch (c,EW 0 c.1,X,Opq.mk,Opq.mk) F [] (0,-1)=_ from h2];simp only[AJ];rw[if_neg (by simp only[decide_eq_true_eq];omega)];rw[show MJ (c,EW 0 c.1,X,Opq.mk,Opq.mk) F A' []=some (O1,A1,U1)from g1];simp only[AJ];rw[show Lm (c,EW 0 c.1,X,Opq.mk,Opq.mk) (O1.filter fun z=>decide ((((Jc c).length:Nat):Int)<=z.2)) (EW 0 c.1).length 0 []=some o from f1]
  rfl
 ·rcases f3 z hz with h|⟨i,k,p,s,a,b,e,h⟩
  ·cases h
  ·have hi:=(List.getElem?_eq_some_iff.1 a).1
   have:=WS (by omega) O1 g2.nod h;rw[g2.get,if_pos hi]at this;exact⟨i,k,p,s,a,b,e,lQ hv.n8 (Oo hv) hi (Int.ofNat_le.1 this)⟩
end
end
section
section
variable {c:BB}
theorem lT{s:Am}(h:IsStep c s):Iq (c.1,c.2.1,(c.2.2.1,c.2.2.2)) (s.1,s.2)=some true:=by
 obtain⟨i,h1,p,h2,h3⟩:=h;have hi:=(List.getElem?_eq_some_iff.1 h2).1;unfold Iq;simp only[h1];rw[if_pos (by simp),if_pos (by simpa using hi)];cases hs:s.2 with
 |false=>rfl
 |true=>
  rw[if_neg (by simp),show ix c.1 (i:Int)=some p by simp[ix,h2]];simp only[Ab,AJ];rw[h3 hs]
theorem jc{s:Am}(hs:IsStep c s):IQ (c.1,c.2.1,(c.2.2.1,c.2.2.2)) (s.1,s.2)=some (UE c s,fin c s):=by
 obtain⟨p,h1,-,-⟩:=hs.ix;unfold IQ UE fin;simp only[h1];cases s.2<;>rfl
theorem tY(hv:VC c){p q:Am}(hp:IsStep c p)(hq:IsStep c q):KA (c.1,c.2.1,(c.2.2.1,c.2.2.2)) (p.1,p.2) (q.1,q.2)=some (fit c p q):=by
 have a:=Ma.1 (hp.ok hv).2;have b:=Ma.1 (hq.ok hv).1;unfold KA;simp only;rw[show IQ (c.1,c.2.1,c.2.2.1,c.2.2.2) (p.1,p.2)=_ from jc hp,show IQ (c.1,c.2.1,c.2.2.1,c.2.2.2) (q.1,q.2)=_ from jc hq];simp only[Ab,AJ];rw[BO (by omega),BO (by omega),BO (by omega)];unfold fit gZ;simp only[Bool.and_assoc]
theorem vD{F:Nat}{l:List Am}(hl:∀s∈l,IsStep c s)(hn:l.length<=8):∀(m k:Nat),k<=l.length->l.length-k<m->EF F c l m (k:Int)=some (.inr ())
 |0,k,_,h=>by omega
 |m+1,k,hk,h=>by
  unfold EF;by_cases hlt:k<l.length
  ·rw[if_pos (by simpa using hlt),A7 hlt]
   simp only[Ab,AJ];rw[show Iq (c.1,c.2.1,c.2.2.1,c.2.2.2) (l[k].1,l[k].2)=some true from lT (hl _ (List.getElem_mem hlt))];simp only[AJ];rw[if_neg (by simp),Wo.Ap (by omega),vD hl hn m (k+1) (by omega) (by omega)]
  ·rw[if_neg (by simpa using hlt)]
theorem vE{F:Nat}{l:List Am}(hd:(l.map (·.1)).Nodup)(hn:l.length<=8){y:Nat}(hy:y<l.length):∀(m k:Nat),k<=y->y-k<m->EG F l (y:Int) m (k:Int)=some (.inr ())
 |0,k,_,h=>by omega
 |m+1,k,hk,h=>by
  unfold EG;by_cases hlt:k<y
  ·rw[if_pos (by simpa using hlt),A7 hy,A7 (show k<l.length by omega)]
   simp only[Ab,AJ];have hne:l[y].1≠l[k].1:=by
    rw[List.Nodup,List.pairwise_map,List.pairwise_iff_getElem]at hd;exact fun e=>hd k y (by omega) hy hlt e.symm
   rw[if_neg (by simpa using hne),Wo.Ap (by omega),vE hd hn hy m (k+1) (by omega) (by omega)]
  ·rw[if_neg (by simpa using hlt)]
theorem vG{F:Nat}(hF:1000<F){l:List Am}(hd:(l.map (·.1)).Nodup)(hn:l.length<=8):∀(m k:Nat),k<=l.length->l.length-k<m->EH F l m (k:Int)=some (.inr ())
 |0,k,_,h=>by omega
 |m+1,k,hk,h=>by
  unfold EH;by_cases hlt:k<l.length
  ·have:=vE (F:=F) hd hn hlt F 0 (by omega) (by omega)
   rw[show((0:Nat):Int)=0 from rfl]at this;rw[if_pos (by simpa using hlt),this];simp only[Ab,AJ];rw[Wo.Ap (by omega),vG hF hd hn m (k+1) (by omega) (by omega)]
  ·rw[if_neg (by simpa using hlt)]
theorem vH{F:Nat}(hv:VC c){l:List Am}(hl:∀s∈l,IsStep c s)(hn:l.length<=8):∀(m k:Nat),1<=k->l.length-k<m->MQ c (l.drop (k-1))=true->EI F c l m (k:Int)=some (.inr ())
 |0,k,_,h,_=>by omega
 |m+1,k,h1,h,hj=>by
  unfold EI;by_cases hlt:k<l.length
  ·rw[ZW h1 hlt,Bool.and_eq_true]at hj
   rw[if_pos (by simpa using hlt),show AZ ((k:Int)-1)=((k-1:Nat):Int) by rw[BO (by omega)];omega,A7 (show k-1<l.length by omega),A7 hlt];simp only[Ab,AJ];rw[show KA (c.1,c.2.1,c.2.2.1,c.2.2.2) (l[k-1].1,l[k-1].2) (l[k].1,l[k].2)=_ from tY hv (hl _ (List.getElem_mem (by omega))) (hl _ (List.getElem_mem hlt)),hj.1];simp only[AJ];rw[if_neg (by simp),Wo.Ap (by omega),vH hv hl hn m (k+1) (by omega) (by omega) (by rw[show k+1-1=k by omega];exact hj.2)]
  ·rw[if_neg (by simpa using hlt)]
theorem WT{F:Nat}(hF:1000<F)(hv:VC c){l:List Am}(hl:Ord c l)(hj:MQ c l=true):FC F c l=some 0:=by
 have h8:=hv.n8;have hn:=hl.len;unfold FC;rw[show DF F (c.1,c.2.1,c.2.2.1,c.2.2.2)=_ from Xm hF c,Sv.2 hv];simp only[Ab,AJ];rw[if_neg (by simp),if_neg (by simp[hn])];have a1:=vD (F:=F) hl.steps (by omega) F 0 (by omega) (by omega);have a2:=vG hF hl.nodup (by omega) F 0 (by omega) (by omega);have a4:=vH (F:=F) hv hl.steps (by omega) F 1 (by omega) (by omega) (by simpa using hj);rw[show((0:Nat):Int)=0 from rfl]at a1 a2;rw[show((1:Nat):Int)=1 from rfl]at a4;rw[a1];simp only[AJ];rw[a2];simp only[AJ];rw[a4]
 rfl
theorem OG(hv:VC c){t:List Nat}(ht:t∈Jc c):Ord c (FX c t)/\MQ c (FX c t)=true:=by
 have g:=Mc.1 ht;have hst:∀k∈t,∃h:k<(BI c).length,(BI c).getD k default=(BI c)[k]:=fun k hk=>⟨(g.mem k hk).1,by simp[(g.mem k hk).1]⟩;refine⟨⟨fun s hs=>?_,?_,by unfold FX;rw[List.length_map,g.len]⟩,?_⟩
 ·obtain⟨k,hk,rfl⟩:=List.mem_map.1 hs
  obtain⟨h,e⟩:=hst k hk;rw[e];exact MP.1 (List.getElem_mem h)
 ·have:(FX c t).map (·.1)=(t.map (A9 c)).map fun p:Nat=>(p:Int):=by
   unfold FX;rw[List.map_map,List.map_map];refine List.map_congr_left fun k hk=>?_;obtain⟨h,e⟩:=hst k hk;simp only[Function.comp,e];exact(KQ hv h).2.1
  rw[this];exact Lu g.nod fun a _ b _ e=>by omega
 ·have key:∀(t:List Nat)(o:Option Nat),KP (GI c) o t=true->MQ c (FX c t)=true:=by
   intro t
   induction t with
   |nil=>intro _ _;rfl
   |cons a t ih=>
    intro o h;unfold KP at h;rw[Bool.and_eq_true]at h;cases t with
    |nil=>rfl
    |cons b t=>
     have h2:=h.2;unfold KP at h2;rw[Bool.and_eq_true]at h2;show(fit c _ _&&MQ c (FX c (b::t)))=true;rw[ih (some a) h.2,Bool.and_true];exact h2.1
  exact key t none g.seq
end
end
end Jn
end Go.Proofs.YtfmelbioccbdoaaGreat
end
section
namespace Go.Proofs.YtfmelbioccbdoaaGreat
namespace BF
abbrev Rl:=Int×Int×Int×Int
def Je:Int:=1125899906842624
structure St where
 f:Int->Int
 b:Int->Option Rl
 r:Int->Nat
def up{α:Type}(g:Int->α)(i:Int)(v:α):Int->α:=fun t=>if t=i then v else g t
theorem DZ{α:Type}{g:Int->α}{i:Int}{v:α}:up g i v i=v:=by simp[up]
theorem D7{α:Type}{g:Int->α}{i t:Int}{v:α}(h:t≠i):up g i v t=g t:=by simp[up,h]
def cnd(f:Int->Int)(p:Rl):Prop:=f p.2.1≠Je/\f p.2.1+p.2.2.2<f p.2.2.1
instance {f:Int->Int}{p:Rl}:Decidable (cnd f p):=by unfold cnd;infer_instance
def rel(K:Nat)(s:St)(p:Rl):St:=if cnd s.f p then⟨up s.f p.2.2.1 (s.f p.2.1+p.2.2.2),up s.b p.2.2.1 (some p),up s.r p.2.2.1 K⟩else s
def pass(R:List Rl)(K:Nat)(s:St):St:=R.foldl (rel K) s
def start:St:=⟨fun _=>0,fun _=>none,fun _=>0⟩
inductive Back(b:Int->Option Rl):Int->Int->Int->Nat->Prop
 |one {v:Int} {p:Rl} (h:b v=some p):Back b v p.2.1 p.2.2.2 1
 |more {v u c:Int} {n:Nat} {p:Rl} (h:b v=some p) (k:Back b p.2.1 u c n):Back b v u (p.2.2.2+c) (n+1)
theorem Back.snoc{b:Int->Option Rl}{v u c:Int}{n:Nat}(h:Back b v u c n){p:Rl}(hp:b u=some p):Back b v p.2.1 (c+p.2.2.2) (n+1):=by
 induction h with
 |one h=>exact .more h (.one hp)
 |more h k ih=>
  have:=ih hp;rw[Int.add_assoc];exact .more h this
theorem Back.pos{b:Int->Option Rl}{v u c:Int}{n:Nat}(h:Back b v u c n):1<=n:=by cases h<;>omega
theorem Back.start{b:Int->Option Rl}{v u c:Int}{n:Nat}(h:Back b v u c n):∃p,b v=some p:=by cases h<;>exact⟨_,by assumption⟩
structure Inv(N:Int->Prop)(K:Nat)(done left:List Rl)(s:St):Prop where
 i1:∀v,s.b v=none↔s.r v=0
 i2:∀v p,s.b v=some p->p∈done++left/\p.2.2.1=v/\s.f p.2.1+p.2.2.2<=s.f v
 i3:∀v p,s.b v=some p->s.r v<=s.r p.2.1+1
 i4d:∀q∈done,s.r q.2.1+1<=K->s.f q.2.2.1<=s.f q.2.1+q.2.2.2
 i4l:∀q∈left,s.r q.2.1+2<=K->s.f q.2.2.1<=s.f q.2.1+q.2.2.2
 i5:∀v c n,Back s.b v v c n->c<0
 i6:∀v,s.r v<=K
 i7:∀v,s.f v<=0
theorem vI{s:St}{p:Rl}(h:∀v q,s.b v=some q->s.f q.2.1+q.2.2.2<=s.f v)(hne:p.2.1≠p.2.2.1)(hc:cnd s.f p):
  ∀{v u c n},Back (up s.b p.2.2.1 (some p)) v u c n->
   up s.f p.2.2.1 (s.f p.2.1+p.2.2.2) u+c<up s.f p.2.2.1 (s.f p.2.1+p.2.2.2) v\/
   (up s.f p.2.2.1 (s.f p.2.1+p.2.2.2) u+c<=up s.f p.2.2.1 (s.f p.2.1+p.2.2.2) v/\u≠p.2.2.1/\(v≠p.2.2.1->Back s.b v u c n)):=by
 obtain⟨_,hlt⟩:=hc;intro v u c n hb
 induction hb with
 | @one v q hq=>
  by_cases hv:v=p.2.2.1
  ·subst hv
   rw[DZ]at hq;cases hq;refine .inr ⟨?_,hne,fun h=>(h rfl).elim⟩;rw[DZ,D7 hne];exact Int.le_refl _
  ·rw[D7 hv]at hq
   have h2:=h v q hq;rw[D7 hv];by_cases hu:q.2.1=p.2.2.1
   ·left
    rw[hu,DZ];rw[hu]at h2;omega
   ·right
    rw[D7 hu];exact⟨h2,hu,fun _=>.one hq⟩
 | @more v u c n q hq k ih=>
  have step:up s.f p.2.2.1 (s.f p.2.1+p.2.2.2) q.2.1+q.2.2.2<up s.f p.2.2.1 (s.f p.2.1+p.2.2.2) v\/
    (up s.f p.2.2.1 (s.f p.2.1+p.2.2.2) q.2.1+q.2.2.2<=up s.f p.2.2.1 (s.f p.2.1+p.2.2.2) v/\q.2.1≠p.2.2.1):=by
   by_cases hv:v=p.2.2.1
   ·subst hv
    rw[DZ]at hq;cases hq;right;rw[DZ,D7 hne];exact⟨Int.le_refl _,hne⟩
   ·rw[D7 hv]at hq
    have h2:=h v q hq;rw[D7 hv];by_cases hu:q.2.1=p.2.2.1
    ·left
     rw[hu,DZ];rw[hu]at h2;omega
    ·right
     rw[D7 hu];exact⟨h2,hu⟩
  rcases ih with ih|⟨ih1,ih2,ih3⟩
  ·left
   rcases step with h1|⟨h1,_⟩<;>omega
  ·rcases step with h1|⟨h1,h2⟩
   ·left;omega
   ·right
    refine⟨by omega,ih2,fun hv=>?_⟩;rw[D7 hv]at hq;exact .more hq (ih3 h2)
theorem Inv.rel{N:Int->Prop}{K:Nat}{done left:List Rl}{s:St}{p:Rl}(hK:1<=K)(h:Inv N K done (p::left) s)(hne:p.2.1≠p.2.2.1):Inv N K (done++[p]) left (rel K s p):=by
 unfold BF.rel;by_cases hc:cnd s.f p
 ·rw[if_pos hc]
  have hc':=hc;obtain⟨_,hlt⟩:=hc';have hmono:∀v,up s.f p.2.2.1 (s.f p.2.1+p.2.2.2) v<=s.f v:=fun v=>by
   by_cases hv:v=p.2.2.1
   ·subst hv;rw[DZ];omega
   ·rw[D7 hv];exact Int.le_refl _
  have hr:K<=s.r p.2.1+1:=by
   rcases Nat.lt_or_ge (s.r p.2.1+1) K with h'|h'
   ·have:=h.i4l p (by simp) (by omega)
    omega
   ·exact h'
  refine⟨?_,?_,?_,?_,?_,?_,?_,?_⟩
  ·intro v
   by_cases hv:v=p.2.2.1
   ·subst hv;simp only[DZ];constructor
    ·intro h;cases h
    ·intro h;omega
   ·simp only[D7 hv];exact h.i1 v
  ·intro v q hq
   dsimp only at hq⊢;by_cases hv:v=p.2.2.1
   ·subst hv
    rw[DZ]at hq;cases hq;refine⟨by simp,rfl,?_⟩;simp only[DZ,D7 hne];exact Int.le_refl _
   ·rw[D7 hv]at hq
    obtain⟨h1,h2,h3⟩:=h.i2 v q hq;refine⟨by simp only[List.mem_append,List.mem_cons,List.not_mem_nil,or_false]at h1⊢;rcases h1 with h1|h1|h1<;>simp[h1],h2,?_⟩;simp only[D7 hv];have:=hmono q.2.1;omega
  ·intro v q hq
   dsimp only at hq⊢;by_cases hv:v=p.2.2.1
   ·subst hv
    rw[DZ]at hq;cases hq;simp only[DZ,D7 hne];exact hr
   ·rw[D7 hv]at hq
    have h3:=h.i3 v q hq;simp only[D7 hv];by_cases hu:q.2.1=p.2.2.1
    ·rw[hu,DZ]
     have:=h.i6 v;omega
    ·rw[D7 hu];exact h3
  ·intro q hq hrq
   dsimp only at hrq⊢;have hu:q.2.1≠p.2.2.1:=fun e=>by rw[e,DZ]at hrq;omega
   simp only[D7 hu]at hrq⊢;have:=hmono q.2.2.1;rcases List.mem_append.1 hq with hq|hq
   ·have:=h.i4d q hq hrq
    omega
   ·simp only[List.mem_singleton]at hq
    subst hq;rw[DZ];exact Int.le_refl _
  ·intro q hq hrq
   dsimp only at hrq⊢;have hu:q.2.1≠p.2.2.1:=fun e=>by rw[e,DZ]at hrq;omega
   simp only[D7 hu]at hrq⊢;have:=hmono q.2.2.1;have:=h.i4l q (by simp[hq]) hrq;omega
  ·intro v c n hb
   dsimp only at hb;rcases vI (fun v q hq=>(h.i2 v q hq).2.2) hne hc hb with h1|⟨h1,h2,h3⟩
   ·omega
   ·by_cases hv:v=p.2.2.1
    ·exact(h2 hv).elim
    ·exact h.i5 v c n (h3 hv)
  ·intro v
   by_cases hv:v=p.2.2.1
   ·subst hv;simp only[DZ];exact Nat.le_refl _
   ·simp only[D7 hv];exact h.i6 v
  ·intro v
   exact Int.le_trans (hmono v) (h.i7 v)
 ·rw[if_neg hc]
  have hle:s.f p.2.2.1<=s.f p.2.1+p.2.2.2:=by
   have h7:=h.i7 p.2.1;unfold cnd at hc;have:s.f p.2.1≠Je:=by unfold Je;omega
   simp only[not_and,Int.not_lt]at hc;exact hc this
  refine⟨h.i1,fun v q hq=>?_,h.i3,fun q hq hrq=>?_,fun q hq=>h.i4l q (by simp[hq]),h.i5,h.i6,h.i7⟩
  ·obtain⟨h1,h2,h3⟩:=h.i2 v q hq
   exact⟨by simp only[List.mem_append,List.mem_cons,List.not_mem_nil,or_false]at h1⊢;rcases h1 with h1|h1|h1<;>simp[h1],h2,h3⟩
  ·rcases List.mem_append.1 hq with hq|hq
   ·exact h.i4d q hq hrq
   ·simp only[List.mem_singleton]at hq
    subst hq;exact hle
theorem Inv.go{N:Int->Prop}{K:Nat}(hK:1<=K):∀(left done:List Rl)(s:St),(∀p∈left,p.2.1≠p.2.2.1)->Inv N K done left s->Inv N K (done++left) [] (left.foldl (BF.rel K) s)
 |[],done,s,_,h=>by simpa using h
 |p::left,done,s,hne,h=>by
  have h1:=h.rel hK (hne p (by simp));have:=Inv.go hK left (done++[p]) _ (fun q hq=>hne q (by simp[hq])) h1;simpa using this
theorem Inv.pass{N:Int->Prop}{K:Nat}{R:List Rl}{s:St}(hne:∀p∈R,p.2.1≠p.2.2.1)(h:Inv N K R [] s):Inv N (K+1) R [] (pass R (K+1) s):=by
 have h0:Inv N (K+1) [] R s:=⟨h.i1,by simpa using h.i2,h.i3,by simp,fun q hq hr=>h.i4d q hq (by omega),h.i5,fun v=>Nat.le_succ_of_le (h.i6 v),h.i7⟩;have:=Inv.go (by omega) R [] s hne h0;simpa[BF.pass]using this
theorem Inv.zero{N:Int->Prop}{R:List Rl}:Inv N 0 R [] start:=by
 refine⟨fun v=>by simp[start],fun v p h=>by simp[start]at h,fun v p h=>by simp[start]at h,fun q _ h=>by omega,by simp,fun v c n h=>?_,fun v=>by simp[start],fun v=>by simp[start]⟩;obtain⟨p,hp⟩:=h.start;simp[start]at hp
def passes(R:List Rl):Nat->St
 |0=>start
 |K+1=>pass R (K+1) (passes R K)
theorem Inv.passes{N:Int->Prop}{R:List Rl}(hne:∀p∈R,p.2.1≠p.2.2.1):∀K,Inv N K R [] (passes R K)
 |0=>Inv.zero
 |K+1=>(Inv.passes hne K).pass hne
end BF
end Go.Proofs.YtfmelbioccbdoaaGreat
end
section
namespace Go.Proofs.YtfmelbioccbdoaaGreat
open Go Go.Md Go.RowKit
open BF (Rl St Back Inv rel pass passes Je)
def gA(X:Ar 21 Int)(t:Int):Int:=(ix X.l t).getD 0
theorem qC{X:Ar 21 Int}{i v t:Int}(i0:0<=i)(i1:i<=20)(t0:0<=t)(t1:t<=20):gA (EN X i v) t=if t=i then v else gA X t:=by
 have hX:=X.h;unfold gA ix EN;simp only[if_pos t0,List.getElem?_set];by_cases h:t=i
 ·subst h
  rw[if_pos rfl,if_pos (by omega),if_pos rfl]
  rfl
 ·rw[if_neg (by omega),if_neg h]
theorem iG{l:List (Int×Int)}{k v t:Int}:A8 0 (BM l k v) t=if t=k then v else A8 0 l t:=by
 induction l with
 |nil=>
  simp only[BM,A8];by_cases h:t=k
  ·rw[if_pos h,if_pos h.symm]
  ·rw[if_neg h,if_neg (Ne.symm h)]
 |cons p l ih=>
  obtain⟨a,b⟩:=p;simp only[BM];by_cases h:a=k
  ·subst h
   simp only[if_true,A8];by_cases h2:t=a
   ·rw[if_pos h2,if_pos h2.symm]
   ·rw[if_neg h2,if_neg (Ne.symm h2),if_neg (Ne.symm h2)]
  ·simp only[if_neg h,A8,ih]
   by_cases h2:a=t
   ·subst h2;rw[if_pos rfl,if_pos rfl,if_neg h]
   ·rw[if_neg h2,if_neg h2]
structure Rep(X:Ar 21 Int)(l:List (Int×Int))(s:St):Prop where
 f:∀t,0<=t->t<=20->gA X t=s.f t
 b:∀t p,s.b t=some p->A8 0 l t=p.1
def Bd(c:Int)(s:St):Prop:=∀v,-c<=s.f v/\s.f v<=Je
def dR(T:Int)(r:Int×Int×Int):Prop:=0<=r.1/\r.1<=T/\0<=r.2.1/\r.2.1<=T/\r.1≠r.2.1/\-100000<=r.2.2/\r.2.2<=100000
theorem Rep.step{X:Ar 21 Int}{l:List (Int×Int)}{s:St}{K:Nat}{c T:Int}{p:Rl}(h:Rep X l s)(hb:Bd c s)(hc:c<=1152921504606846976)(hT:T<=20)(hp:dR T p.2):
  Rep (YL (X,l) p).1 (YL (X,l) p).2 (rel K s p):=by
 obtain⟨h1,h2,h3,h4,h5,h6,h7⟩:=hp;have ea:(ix X.l p.2.1).getD 0=s.f p.2.1:=h.f _ h1 (by omega);have eb:(ix X.l p.2.2.1).getD 0=s.f p.2.2.1:=h.f _ h3 (by omega);have hf:=hb p.2.1;have hw:AZ (s.f p.2.1+p.2.2.2)=s.f p.2.1+p.2.2.2:=BO (by unfold Je at hf;omega);unfold YL rel;simp only[ea,eb,hw];by_cases hcn:BF.cnd s.f p
 ·have hcn':=hcn
  obtain⟨c1,c2⟩:=hcn';rw[if_pos hcn,if_pos (by unfold Je at c1;simp[c1];omega)];refine⟨fun t t0 t1=>?_,fun t q hq=>?_⟩
  ·rw[qC h3 (by omega) t0 t1]
   simp only[BF.up];split
   ·rfl
   ·exact h.f t t0 t1
  ·simp only[BF.up]at hq
   rw[iG];split
   ·rename_i e
    rw[if_pos e]at hq;cases hq
    rfl
   ·rename_i e
    rw[if_neg e]at hq;exact h.b t q hq
 ·rw[if_neg hcn,if_neg]
  ·exact h
  ·unfold BF.cnd Je at hcn
   simp only[Bool.and_eq_true,Bool.not_eq_true',decide_eq_false_iff_not,not_and];intro a1 a2;exact hcn ⟨a1,by omega⟩
theorem Bd.rel{c:Int}{s:St}{K:Nat}{p:Rl}(h:Bd c s)(hc:0<=c)(hm:-100000<=p.2.2.2):Bd (c+100000) (rel K s p):=by
 intro v;have h1:=h v;have h2:=h p.2.1;have h3:=h p.2.2.1;unfold BF.rel;by_cases hcn:BF.cnd s.f p
 ·rw[if_pos hcn]
  simp only[BF.up];have:=hcn.2;split<;>omega
 ·rw[if_neg hcn]
  omega
theorem Qr{x:Int×List (Int×Int×Int)}(h:JI x=0):∀r∈Gl x,dR x.1 r:=by
 obtain⟨_,h2,h3,h4⟩:=bR h;intro r hr;rcases List.mem_append.1 hr with hr|hr
 ·have:=h4 r hr
  simp only[Vx,Tx,Bool.and_eq_true,decide_eq_true_eq,Bool.not_eq_true',decide_eq_false_iff_not]at this;obtain⟨⟨⟨⟨a,b⟩,c,d⟩,e⟩,f,g⟩:=this;exact⟨a,b,c,d,e,f,g⟩
 ·obtain⟨t,ht,hr⟩:=List.mem_flatMap.1 hr
  have ht:=List.mem_range.1 ht;simp only[List.mem_cons,List.not_mem_nil,or_false]at hr;rcases hr with rfl|rfl
  ·unfold dR;simp only;omega
  ·unfold dR;simp only;omega
theorem dS{l:List (Int×Int×Int)}{p:Rl}(h:p∈en l):p.2∈l/\ix l p.1=some p.2/\0<=p.1/\p.1<l.length:=by
 obtain⟨i,hi,e⟩:=List.getElem_of_mem h;rw[nA]at hi;have h1:(en l)[i]?=some p:=by rw[<-e];exact List.getElem?_eq_getElem _
 rw[en_get,List.getElem?_eq_getElem hi]at h1;simp only[Option.map_some,Option.some.injEq]at h1;subst h1;exact⟨List.getElem_mem hi,A7 hi,by simp,by simpa using hi⟩
def Rs(x:Int×List (Int×Int×Int)):List Rl:=en (Gl x)
theorem tq{x:Int×List (Int×Int×Int)}(h:JI x=0):∀p∈Rs x,dR x.1 p.2:=fun p hp=>Qr h _ (dS hp).1
theorem tu{x:Int×List (Int×Int×Int)}(h:JI x=0):∀p∈Rs x,p.2.1≠p.2.2.1:=fun p hp=>(tq h p hp).2.2.2.2.1
def jd(x:Int×List (Int×Int×Int)):Prop:=∃p:Int->Int,∀r∈Gl x,p r.2.1<=p r.1+r.2.2

end Go.Proofs.YtfmelbioccbdoaaGreat
end
section
namespace Go.Proofs.YtfmelbioccbdoaaGreat
open Go Go.Md Go.RowKit
section
abbrev RR:=Int×Int×Int
section
variable {F:Nat}{all:List RR}{Dm:List Int}
section
variable {x:Int×List RR}
end
end
end
end Go.Proofs.YtfmelbioccbdoaaGreat
end
section
namespace Go.Proofs.YtfmelbioccbdoaaGreat
open Go Go.Md Go.RowKit
open BF (Rl St Back rel pass Je)
inductive PC(R:List RR)(a:Int):Int->Int->Prop
 |nil:PC R a a 0
 |snoc {u c:Int} {r:RR} (h:PC R a u c) (hr:r∈R) (hu:r.1=u):PC R a r.2.1 (c+r.2.2)
theorem PC.trans{R:List RR}{a b t c d:Int}(h:PC R a b c)(k:PC R b t d):PC R a t (c+d):=by
 induction k with
 |nil=>simpa using h
 |snoc _ hr hu ih=>rw[<-Int.add_assoc];exact .snoc ih hr hu
theorem PC.one{R:List RR}{r:RR}(hr:r∈R):PC R r.1 r.2.1 r.2.2:=by
 have:=PC.snoc (PC.nil (R:=R) (a:=r.1)) hr rfl;simpa using this
theorem PC.pot{R:List RR}{p:Int->Int}(hp:∀r∈R,p r.2.1<=p r.1+r.2.2){a t c:Int}(h:PC R a t c):p t<=p a+c:=by
 induction h with
 |nil=>omega
 |snoc _ hr hu ih=>
  have:=hp _ hr;rw[hu]at this;omega
theorem PC.node{x:Int×List RR}(h:JI x=0){a t c:Int}(a0:0<=a)(a1:a<=x.1)(hp:PC (Gl x) a t c):0<=t/\t<=x.1:=by
 cases hp with
 |nil=>exact⟨a0,a1⟩
 |snoc _ hr _=>exact⟨(Qr h _ hr).2.2.1,(Qr h _ hr).2.2.2.1⟩
theorem Oq{x:Int×List RR}{t:Int}(t0:1<=t)(t1:t<=x.1):(0,t,100000)∈Gl x/\(t,0,0)∈Gl x:=by
 have h:∀r,r=(0,t,(100000:Int))\/r=(t,0,0)->r∈Gl x:=fun r hr=>by
  refine List.mem_append.2 (.inr (List.mem_flatMap.2 ⟨(t-1).toNat,List.mem_range.2 (by omega),?_⟩));have:(((t-1).toNat:Nat):Int)+1=t:=by omega
  simp only[this,List.mem_cons,List.not_mem_nil,or_false];exact hr
 exact⟨h _ (.inl rfl),h _ (.inr rfl)⟩
theorem PC.any{x:Int×List RR}{a t:Int}(a0:0<=a)(a1:a<=x.1)(t0:0<=t)(t1:t<=x.1):∃c,PC (Gl x) a t c/\c<=100000:=by
 have h1:∃c,PC (Gl x) a 0 c/\c<=0:=by
  by_cases h:a=0
  ·subst h;exact⟨0,.nil,by omega⟩
  ·exact⟨0,PC.one (r:=(a,0,0)) (Oq (by omega) a1).2,by omega⟩
 obtain⟨c,h2,h3⟩:=h1;by_cases h:t=0
 ·subst h;exact⟨c,h2,by omega⟩
 ·exact⟨c+100000,h2.trans (PC.one (r:=(0,t,100000)) (Oq (by omega) t1).1),by omega⟩
theorem PC.low{x:Int×List RR}(h:JI x=0)(hP:jd x){a t c:Int}(a0:0<=a)(a1:a<=x.1)(hp:PC (Gl x) a t c):-100000<=c:=by
 obtain⟨p,hpp⟩:=hP;obtain⟨t0,t1⟩:=hp.node h a0 a1;obtain⟨d,h1,h2⟩:=PC.any (x:=x) t0 t1 a0 a1;have:=(hp.trans h1).pot hpp;omega
structure Jv(x:Int×List RR)(a:Int)(s:St):Prop where
 j1:∀v,s.f v=Je\/PC (Gl x) a v (s.f v)
 j2:∀v q,s.b v=some q->q∈Rs x/\q.2.2.1=v/\s.f q.2.1+q.2.2.2<=s.f v/\s.f q.2.1≠Je
 j3:∀v c n,Back s.b v v c n->c<0
 j4:∀v,v≠a->s.f v≠Je->s.b v≠none
 j5:s.f a<=0
 j6:∀v,s.f v<=Je
theorem Jv.bd{x:Int×List RR}(h:JI x=0)(hP:jd x){a:Int}(a0:0<=a)(a1:a<=x.1){s:St}(hj:Jv x a s):Bd 100000 s:=by
 intro v;rcases hj.j1 v with h1|h1
 ·rw[h1];unfold Je;omega
 ·exact⟨h1.low h hP a0 a1,hj.j6 v⟩
theorem Jv.rel{x:Int×List RR}(h:JI x=0){a:Int}{s:St}{K:Nat}{p:Rl}(hp:p∈Rs x)(hj:Jv x a s):Jv x a (BF.rel K s p):=by
 unfold BF.rel;by_cases hc:BF.cnd s.f p
 ·rw[if_pos hc]
  have hne:=tu h p hp;obtain⟨c1,c2⟩:=hc;have hpc:PC (Gl x) a p.2.2.1 (s.f p.2.1+p.2.2.2):=by
   rcases hj.j1 p.2.1 with h1|h1
   ·exact(c1 h1).elim
   ·exact .snoc h1 (dS hp).1 rfl
  have hmono:∀v,BF.up s.f p.2.2.1 (s.f p.2.1+p.2.2.2) v<=s.f v:=fun v=>by
   by_cases hv:v=p.2.2.1
   ·subst hv;rw[BF.DZ];omega
   ·rw[BF.D7 hv];exact Int.le_refl _
  refine⟨fun v=>?_,fun v q hq=>?_,fun v c n hb=>?_,fun v hv hf=>?_,?_,fun v=>?_⟩
  ·dsimp only
   by_cases hv:v=p.2.2.1
   ·subst hv;rw[BF.DZ];exact .inr hpc
   ·rw[BF.D7 hv];exact hj.j1 v
  ·dsimp only at hq⊢
   by_cases hv:v=p.2.2.1
   ·subst hv
    rw[BF.DZ]at hq;cases hq;rw[BF.DZ,BF.D7 hne];exact⟨hp,rfl,Int.le_refl _,c1⟩
   ·rw[BF.D7 hv]at hq
    obtain⟨h1,h2,h3,h4⟩:=hj.j2 v q hq;rw[BF.D7 hv];refine⟨h1,h2,by have:=hmono q.2.1;omega,?_⟩;by_cases hu:q.2.1=p.2.2.1
    ·rw[hu,BF.DZ]
     have:=hj.j6 p.2.2.1;omega
    ·rw[BF.D7 hu];exact h4
  ·dsimp only at hb
   rcases BF.vI (fun v q hq=>(hj.j2 v q hq).2.2.1) hne ⟨c1,c2⟩ hb with h1|⟨_,h2,h3⟩
   ·omega
   ·by_cases hv:v=p.2.2.1
    ·exact(h2 hv).elim
    ·exact hj.j3 v c n (h3 hv)
  ·dsimp only at hf⊢
   by_cases hv2:v=p.2.2.1
   ·subst hv2;rw[BF.DZ];simp
   ·rw[BF.D7 hv2]at hf⊢
    exact hj.j4 v hv hf
  ·have:=hmono a
   have:=hj.j5;dsimp only;omega
  ·have:=hmono v
   have:=hj.j6 v;dsimp only;omega
 ·rw[if_neg hc]
  exact hj
structure FinS(x:Int×List RR)(a:Int)(X:Ar 21 Int)(l:List (Int×Int))(s:St):Prop where
 rep:Rep X l s
 jv:Jv x a s
 fix:∀p∈Rs x,¬BF.cnd s.f p
theorem FinS.le{x:Int×List RR}(h:JI x=0){a:Int}{X:Ar 21 Int}{l:List (Int×Int)}{s:St}(hf:FinS x a X l s)(a0:0<=a)(a1:a<=x.1){t c:Int}(hp:PC (Gl x) a t c):s.f t<=c/\s.f t<Je:=by
 have key:∀{u c:Int},PC (Gl x) a u c->s.f u<Je->∀r∈Gl x,r.1=u->s.f r.2.1<=s.f u+r.2.2:=by
  intro u c _ hlt r hr hu;obtain⟨i,hi,e⟩:=List.getElem_of_mem hr;have hm:((i:Int),r)∈Rs x:=by
   have:(en (Gl x))[i]?=some ((i:Int),r):=by rw[en_get,List.getElem?_eq_getElem hi,e];rfl
   exact List.mem_of_getElem? this
  have:=hf.fix _ hm;unfold BF.cnd at this;simp only[not_and,Int.not_lt]at this;rw[<-hu]at hlt⊢;exact this (by omega)
 have h5:=hf.jv.j5;have fin0:s.f 0<=0:=by
  by_cases e:a=0
  ·rw[e]at h5;exact h5
  ·have:=key (PC.nil) (by unfold Je;omega) (a,0,0) (Oq (by omega) a1).2 rfl
   simp only at this;omega
 have fin:∀u,0<=u->u<=x.1->s.f u<Je:=fun u u0 u1=>by
  by_cases e:u=0
  ·subst e;unfold Je;omega
  ·obtain⟨c0,hc0,_⟩:=PC.any (x:=x) (a:=a) (t:=0) a0 a1 (by omega) (by omega)
   have:=key hc0 (by unfold Je;omega) (0,u,100000) (Oq (by omega) u1).1 rfl;simp only at this;unfold Je;omega
 have hn:=hp.node h a0 a1;refine⟨?_,fin t hn.1 hn.2⟩;clear hn
 induction hp with
 |nil=>exact h5
 | @snoc u c r hpu hr hu ih=>
  have hnu:=hpu.node h a0 a1;have:=key hpu (fin u hnu.1 hnu.2) r hr hu;omega
section
section
variable {x:Int×List RR}{a t u:Int}{F:Nat}
end
end
end Go.Proofs.YtfmelbioccbdoaaGreat
end
section
namespace Go.Proofs.YtfmelbioccbdoaaGreat
open Go Go.Md Go.RowKit
abbrev FF:Nat:=100000000000000000
end Go.Proofs.YtfmelbioccbdoaaGreat
end
section
namespace Go.Proofs.YtfmelbioccbdoaaGreat
namespace FW
section
def NV:Int:=1099511627776
abbrev Mx:=Int->Int->Int
def mm(c s:Int):Int:=if(if s<c then s else c)> -NV then(if s<c then s else c)else-NV
def nw(g:Mx)(h i k:Int):Int:=if g i h<NV/\g h k<NV then mm (g i k) (g i h+g h k)else g i k
def up1(h i k:Int)(g:Mx):Mx:=fun i' k'=>if i'=i/\k'=k then nw g h i k else g i' k'
def Zl(h i:Int)(ks:List Int)(g:Mx):Mx:=ks.foldl (fun g k=>up1 h i k g) g
def vJ(h:Int)(ns is:List Int)(g:Mx):Mx:=is.foldl (fun g i=>Zl h i ns g) g
def vK(ns hs:List Int)(g:Mx):Mx:=hs.foldl (fun g h=>vJ h ns ns g) g
def Rg(g:Mx):Prop:=∀i k,-NV<=g i k/\g i k<=NV
section
variable {g:Mx}{h:Int}
theorem qD(hg:Rg g)(h0:g h h=0)(i:Int):nw g h i h=g i h:=by
 unfold nw mm;have:=hg i h;rw[h0];split
 ·split<;>split<;>omega
 ·rfl
theorem qE(hg:Rg g)(h0:g h h=0)(k:Int):nw g h h k=g h k:=by
 unfold nw mm;have:=hg h k;rw[h0];split
 ·split<;>split<;>omega
 ·rfl
def Part(g:Mx)(h:Int)(P:Int->Int->Prop)(g':Mx):Prop:=∀i k,(P i k->g' i k=nw g h i k)/\(¬P i k->g' i k=g i k)
theorem Part.fix(hg:Rg g)(h0:g h h=0){P:Int->Int->Prop}{g':Mx}(hp:Part g h P g'):(∀i,g' i h=g i h)/\∀k,g' h k=g h k:=by
 refine⟨fun i=>?_,fun k=>?_⟩
 ·by_cases hc:P i h
  ·rw[(hp i h).1 hc,qD hg h0]
  ·exact(hp i h).2 hc
 ·by_cases hc:P h k
  ·rw[(hp h k).1 hc,qE hg h0]
  ·exact(hp h k).2 hc
theorem Part.up1(hg:Rg g)(h0:g h h=0){P:Int->Int->Prop}{g':Mx}(hp:Part g h P g'){i k:Int}(hn:¬P i k):Part g h (fun a b=>P a b\/(a=i/\b=k)) (up1 h i k g'):=by
 obtain⟨h1,h2⟩:=hp.fix hg h0;have e:nw g' h i k=nw g h i k:=by
  unfold nw;rw[h1 i,h2 k,(hp i k).2 hn]
 intro a b;unfold FW.up1;by_cases hab:a=i/\b=k
 ·rw[if_pos hab]
  refine⟨fun _=>by rw[e,hab.1,hab.2],fun hno=>(hno (.inr hab)).elim⟩
 ·rw[if_neg hab]
  refine⟨fun hc=>?_,fun hc=>(hp a b).2 fun hc2=>hc (.inl hc2)⟩;rcases hc with hc|hc
  ·exact(hp a b).1 hc
  ·exact(hab hc).elim
theorem Part.row(hg:Rg g)(h0:g h h=0){i:Int}:∀(ks:List Int)(P:Int->Int->Prop)(g':Mx),ks.Nodup->(∀k∈ks,¬P i k)->Part g h P g'->Part g h (fun a b=>P a b\/(a=i/\b∈ks)) (Zl h i ks g')
 |[],P,g',_,_,hp=>by simpa[Zl]using hp
 |k::ks,P,g',hn,hk,hp=>by
  simp only[List.nodup_cons]at hn;have h1:=hp.up1 hg h0 (hk k (by simp));have h2:=Part.row hg h0 ks _ _ hn.2 (fun q hq hc=>by
   rcases hc with hc|⟨_,hc⟩
   ·exact hk q (by simp[hq]) hc
   ·exact hn.1 (hc▸hq)) h1
  have e:(fun a b=>(P a b\/(a=i/\b=k))\/(a=i/\b∈ks))=fun a b=>P a b\/(a=i/\b∈k::ks):=by
   funext a b
   simp only[List.mem_cons,eq_iff_iff];constructor
   ·rintro((h|⟨h1,h2⟩)|⟨h1,h2⟩)
    ·exact .inl h
    ·exact .inr ⟨h1,.inl h2⟩
    ·exact .inr ⟨h1,.inr h2⟩
   ·rintro(h|⟨h1,h2|h2⟩)
    ·exact .inl (.inl h)
    ·exact .inl (.inr ⟨h1,h2⟩)
    ·exact .inr ⟨h1,h2⟩
  rw[e]at h2;exact h2
end
inductive PI(R:List RR)(m a:Int):Int->Int->Prop
 |one {r:RR} (hr:r∈R) (ha:r.1=a):PI R m a r.2.1 r.2.2
 |snoc {u c:Int} {r:RR} (h:PI R m a u c) (hu:u<m) (hr:r∈R) (he:r.1=u):PI R m a r.2.1 (c+r.2.2)
theorem PI.split{R:List RR}{m a:Int}(hloop:∀c,PI R m m m c->0<=c){t c:Int}(h:PI R (m+1) a t c):PI R m a t c\/∃c1 c2,PI R m a m c1/\PI R m m t c2/\c1+c2<=c:=by
 induction h with
 |one hr ha=>exact .inl (.one hr ha)
 | @snoc u c r h hu hr he ih=>
  by_cases hum:u=m
  ·subst hum
   rcases ih with ih|⟨c1,c2,h1,h2,h3⟩
   ·exact .inr ⟨c,r.2.2,ih,.one hr he,Int.le_refl _⟩
   ·have:=hloop c2 h2
    exact .inr ⟨c1,r.2.2,h1,.one hr he,by omega⟩
  ·have hum:u<m:=by omega
   rcases ih with ih|⟨c1,c2,h1,h2,h3⟩
   ·exact .inl (.snoc ih hum hr he)
   ·exact .inr ⟨c1,c2+r.2.2,h1,.snoc h2 hum hr he,by omega⟩
def In(n:Int)(i:Int):Prop:=0<=i/\i<n
structure Ok(R:List RR)(n m b:Int)(g:Mx):Prop where
 rg:Rg g
 dg:∀i,In n i->g i i=0
 bd:∀i k,In n i->In n k->g i k=NV\/(-b<=g i k/\g i k<=b)
 un:∀a t c,In n a->In n t->PI R m a t c->g a t<=c/\g a t<NV
 so:∀i k,In n i->In n k->g i k=NV\/PC R i k (g i k)
def So(x:Int×List RR)(g:Mx):Prop:=∀i k,(0<=i/\i<=x.1)->(0<=k/\k<=x.1)->g i k=NV\/PC (Gl x) i k (g i k)
theorem So.up1{x:Int×List RR}(hx:JI x=0)(hP:jd x){g:Mx}(h:So x g){q i k:Int}(hq:0<=q/\q<=x.1)(hi:0<=i/\i<=x.1)(hk:0<=k/\k<=x.1):So x (up1 q i k g):=by
 intro a b ha hb;unfold FW.up1;split
 ·rename_i e
  rw[e.1,e.2];unfold nw;split
  ·rename_i hlt
   have s1:PC (Gl x) i q (g i q):=by
    rcases h i q hi hq with s|s
    ·omega
    ·exact s
   have s2:PC (Gl x) q k (g q k):=by
    rcases h q k hq hk with s|s
    ·omega
    ·exact s
   have s3:=s1.trans s2;have l3:=s3.low hx hP hi.1 hi.2;unfold mm;by_cases hc:g i q+g q k<g i k
   ·rw[if_pos hc,if_pos (by unfold NV;omega)]
    exact .inr s3
   ·rw[if_neg hc]
    rcases h i k hi hk with s|s
    ·rw[s,if_pos (by unfold NV;omega)]
     exact .inl rfl
    ·have:=s.low hx hP hi.1 hi.2
     rw[if_pos (by unfold NV;omega)];exact .inr s
  ·exact h i k hi hk
 ·exact h a b ha hb
theorem So.all{x:Int×List RR}(hx:JI x=0)(hP:jd x){ns:List Int}(hm:∀i∈ns,0<=i/\i<=x.1){g:Mx}(h:So x g):So x (vK ns ns g):=by
 have key:∀{β:Type}{step:Mx->β->Mx}(l:List β),(∀g,∀b∈l,So x g->So x (step g b))->∀g,So x g->So x (l.foldl step g):=by
  intro β step l
  induction l with
  |nil=>intro _ g hg;exact hg
  |cons b l ih=>
   intro hs g hg;exact ih (fun g c hc=>hs g c (by simp[hc])) _ (hs g b (by simp) hg)
 refine key ns (fun g q hq hg=>?_) g h;refine key ns (fun g i hi hg=>?_) g hg;exact key ns (fun g k hk hg=>hg.up1 hx hP (hm q hq) (hm i hi) (hm k hk)) g hg
end
end FW
end Go.Proofs.YtfmelbioccbdoaaGreat
end
section
namespace Go.Proofs.YtfmelbioccbdoaaGreat
open Go Go.Md Go.RowKit
open FW (Mx up1 Zl vJ vK nw Rg In Ok So)
section
structure RepM(n:Nat)(M:List (List Int))(g:Mx):Prop where
 len:M.length=n
 row:∀i:Nat,i<n->∃r,M[i]?=some r/\r.length=n/\∀k:Nat,k<n->r[k]?=some (g i k)
theorem RepM.at{n:Nat}{M:List (List Int)}{g:Mx}(h:RepM n M g){i:Int}(i0:0<=i)(i1:i<n):∃r,ix M i=some r/\r.length=n/\∀k:Int,0<=k->k<n->ix r k=some (g i k):=by
 obtain⟨r,h1,h2,h3⟩:=h.row i.toNat (by omega);refine⟨r,by unfold ix;rw[if_pos i0];exact h1,h2,fun k k0 k1=>?_⟩;unfold ix;rw[if_pos k0,h3 k.toNat (by omega)];have e1:((i.toNat:Nat):Int)=i:=by omega
 have e2:((k.toNat:Nat):Int)=k:=by omega
 rw[e1,e2]
section
variable {n:Nat}{F:Nat}
def g0:Mx:=fun i k=>if i=k then 0 else FW.NV
end
section
variable {x:Int×List RR}{F:Nat}
end
end
end Go.Proofs.YtfmelbioccbdoaaGreat
end
section
namespace Go.Proofs.YtfmelbioccbdoaaGreat
open Go Go.Md Go.RowKit
open BF (Rl St Back rel pass Je)
section
section
variable {x:Int×List RR}{F:Nat}{a b t:Int}
end
end
end Go.Proofs.YtfmelbioccbdoaaGreat
end
section
namespace Go.Proofs.YtfmelbioccbdoaaGreat
open Go Go.Md Go.RowKit
open BF (Rl St Back)
section
section
variable {x:Int×List RR}{a b t:Int}{Dm:List Int}{F:Nat}
end
end
end Go.Proofs.YtfmelbioccbdoaaGreat
end
section
namespace Go.Proofs.YtfmelbioccbdoaaGreat
open Go Go.Md Go.RowKit
section
section
variable {x:Int×List RR}{F:Nat}{a b t:Int}
end
end
section
section
variable {x:Int×List RR}{F:Nat}{a b t:Int}
theorem lV{u n:Int}(hu:0<=u)(hn:0<n):0<=u.tmod n/\u.tmod n<n:=⟨Int.tmod_nonneg _ hu,Int.tmod_lt_of_pos _ hn⟩
theorem qG{u n:Int}(hn:0<n):rem u n=some (u.tmod n):=by unfold rem;rw[if_neg (by omega)]
end
end
end Go.Proofs.YtfmelbioccbdoaaGreat
end
section
namespace Go.Proofs.YtfmelbioccbdoaaGreat
open Go Go.Md Go.RowKit
namespace L4
open Wo
section
section
variable {l:List (List Int)}{g:Tp}
end
end
end L4
end Go.Proofs.YtfmelbioccbdoaaGreat
end
section
namespace Go.Proofs.YtfmelbioccbdoaaGreat
open Go Go.Md Go.RowKit
namespace L4
open Wo Jn
section
theorem dV(c:BB):(FT FF c=some true/\VC c)\/FT FF c=some false:=by
 unfold FT;have ex:(c.1,c.2.1,(c.2.2.1,c.2.2.2))=c:=rfl;rw[ex,Xm (by decide)];by_cases h:VC c
 ·left
  have h8:=h.n8;have e:decide ((c.1.length:Int)<=20)=true:=by simp;omega
  rw[e,Sv.2 h];exact⟨rfl,h⟩
 ·right
  have e2:decide (WA c=0)=false:=decide_eq_false fun e=>h (Sv.1 e);cases decide ((c.1.length:Int)<=20)with
  |false=>rfl
  |true=>
   simp only[gd,cond_true,Ab,AJ,e2];rfl
section
variable {c:BB}
theorem dW(hv:VC c){s:Am}(hs:IsStep c s):0<=s.1/\s.1<=1000:=by
 obtain⟨i,h1,p,h2,_⟩:=hs;have hi:=(List.getElem?_eq_some_iff.1 h2).1;have:=hv.n8;omega
end
end
section
section
variable {F:Nat}{l:List (List Int)}{g:Tp}
theorem TD{n:Nat}{lev:Nat->Nat}{B:Nat->Nat->Bool}(hd:Dag n lev B)(hB:∀i j,i<j->j<n->B i j=true):∀i,i<n->lev i=i+1:=by
 have lo:∀i,i<n->i+1<=lev i:=by
  intro i
  induction i with
  |zero=>intro h;exact hd.one 0 h
  |succ i ih=>intro h;have:=ih (by omega);have:=hd.up i (i+1) (by omega) h (hB i (i+1) (by omega) h);omega
 intro i
 induction i using Nat.strongRecOn with
 |ind i ih=>
  intro hi;have:=lo i hi;by_cases h2:2<=lev i
  ·obtain⟨j,hj,hb,hl⟩:=hd.dn i hi h2
   have hji:=hd.lt j i hj hi hb;have:=ih j hji hj;omega
  ·omega
theorem TF{n:Nat}{lev:Nat->Nat}{B:Nat->Nat->Bool}(hd:Dag n lev B)(hB:∀i j,i<j->j<n->B i j=true){i:Nat}(hi:i+1<n):Jst n B i (i+1):=by
 refine⟨by omega,hi,hB i (i+1) (by omega) hi,fun j hj hb=>?_,fun j hj hb=>?_⟩
 ·have:=hd.lt i j (by omega) hj hb
  by_cases e:j=i+1
  ·exact .inl e
  ·exact .inr (hB _ _ (by omega) hj)
 ·have:=hd.lt j (i+1) hj hi hb
  by_cases e:j=i
  ·exact .inl e
  ·exact .inr (hB _ _ (by omega) (by omega))
theorem lW{n:Nat}{lev:Nat->Nat}{B:Nat->Nat->Bool}(hd:Dag n lev B)(hB:∀i j,i<j->j<n->B i j=true)(hn:0<n):Po (LD n n lev B) (fun i=>decide (lev i=1)) n=1:=by
 have hl:=TD hd hB;have hD:∀d i,i+d+1=n->Dw n n lev B i=1:=by
  intro d
  induction d with
  |zero=>
   intro i hi;unfold Dw;rw[Ni];have e0:Ga n lev i=1:=by unfold Ga;rw[if_pos (by rw[hl i (by omega)];omega)]
   rw[e0,show n-1-i=0 by omega];rfl
  |succ d ih=>
   intro i hi;rw[(TF hd hB (show i+1<n by omega)).dw hd (fun j hj=>by rw[hl j hj];omega)];exact ih (i+1) (by omega)
 have hU:Uw lev B 0=1:=by
  unfold Uw;rw[Ry];have e0:Ga 1 lev 0=1:=by unfold Ga;rw[if_pos (hl 0 hn)]
  rw[e0];rfl
 unfold Po;rw[QI (m:=0) List.nodup_range (List.mem_range.2 hn)]
 ·rw[if_pos (show decide (lev 0=1)=true by rw[hl 0 hn];rfl)]
  unfold LD;rw[hU,hD (n-1) 0 (by omega)]
 ·intro j hj hne
  have:=List.mem_range.1 hj;rw[if_neg (show¬decide (lev j=1)=true by rw[hl j this];simp;omega)]
end
section
variable {c:BB}{x:Ar 4 (KI .u32)}{k:Nat}
end
end
end L4
end Go.Proofs.YtfmelbioccbdoaaGreat
end
section
namespace Go.Proofs.YtfmelbioccbdoaaGreat
open Go Go.Md Go.RowKit
namespace LW
open Wo Jn L4
section
section
variable {c:BB}
def pw(s:Am):Int:=s.1+1
def FY(c:BB)(t:List Nat):List Int:=(FX c t).map pw
theorem Gb(hv:VC c){t:List Nat}(ht:t∈Jc c):(FY c t).length=c.1.length/\(FY c t).Nodup/\∀n∈FY c t,∃i:Nat,n=(i:Int)+1/\i<c.1.length:=by
 obtain⟨ho,_⟩:=OG hv ht;refine⟨by unfold FY;rw[List.length_map,ho.len],?_,fun n hn=>?_⟩
 ·have e:FY c t=((FX c t).map (·.1)).map fun x=>x+1:=by unfold FY;rw[List.map_map];rfl
  rw[e];exact Lu ho.nodup fun a _ b _ e=>by omega
 ·obtain⟨s,hs,rfl⟩:=List.mem_map.1 hn
  obtain⟨i,h1,p,h2,_⟩:=ho.steps s hs;exact⟨i,by unfold pw;rw[h1],(List.getElem?_eq_some_iff.1 h2).1⟩
theorem lX(hv:VC c){t:List Nat}(ht:t∈Jc c){i:Nat}(hi:i<c.1.length):((i:Int)+1)∈FY c t:=by
 obtain⟨h1,h2,h3⟩:=Gb hv ht;refine Classical.byContradiction fun hn=>?_;have:=Lr (l:=((i:Int)+1)::FY c t) (k:=(List.range c.1.length).map fun k:Nat=>(k:Int)+1) (List.nodup_cons.2 ⟨hn,h2⟩) fun a ha=>by
  rcases List.mem_cons.1 ha with rfl|ha
  ·exact List.mem_map.2 ⟨i,List.mem_range.2 hi,rfl⟩
  ·obtain⟨k,rfl,hk⟩:=h3 a ha
   exact List.mem_map.2 ⟨k,List.mem_range.2 hk,rfl⟩
 rw[List.length_cons,List.length_map,List.length_range]at this;omega
def zp(c:BB)(t u:List Nat):List (List Int):=[FY c t,FY c u]
variable {t u:List Nat}{g:Tp}
theorem Hf:(zp c t u).length=2:=rfl
theorem SB(hv:VC c)(ht:t∈Jc c)(hu:u∈Jc c){j:Nat}(hj:j<2):ln (zp c t u) j=c.1.length:=by
 match j,hj with
 |0,_=>exact(Gb hv ht).1
 |1,_=>exact(Gb hv hu).1
theorem je(hv:VC c)(ht:t∈Jc c)(hu:u∈Jc c)(hg:∀i j,i<101->j<101->(g i=g j↔Con (Ed (⟨[]⟩:Bk)) i j)):Uq g (zp c t u):=by
 have h8:=hv.n8;have hmem:∀r∈zp c t u,∃t∈Jc c,r=FY c t:=fun r hr=>by
  rcases List.mem_cons.1 hr with rfl|hr
  ·exact⟨t,ht,rfl⟩
  ·rw[List.mem_singleton]at hr;exact⟨u,hu,hr⟩
 refine⟨⟨by rw[Hf];omega,by rw[Hf];omega,fun r hr=>?_,fun r hr n hn=>?_⟩,fun r hr=>?_,fun i j hi hj e=>?_⟩
 ·obtain⟨t,ht,rfl⟩:=hmem r hr
  rw[(Gb hv ht).1];exact h8
 ·obtain⟨t,ht,rfl⟩:=hmem r hr
  obtain⟨i,rfl,hi⟩:=(Gb hv ht).2.2 n hn;unfold wd;simp;omega
 ·obtain⟨t,ht,rfl⟩:=hmem r hr
  exact(Gb hv ht).2.1
 ·have:=(hg i j hi hj).1 e
  cases this with
  |refl=>rfl
  |step _ e=>rcases e with⟨p,hp,_⟩|⟨p,hp,_⟩<;>cases hp
theorem Zo(hv:VC c)(ht:t∈Jc c)(hu:u∈Jc c)(hU:Uq g (zp c t u)){a b:Nat}{x:Int}(ha:(FY c t)[a]?=some x)(hb:(FY c u)[b]?=some x):
  ∃m,m<(Mt g (zp c t u)).length/\ML (Mt g (zp c t u)) m 0=a/\ML (Mt g (zp c t u)) m 1=b:=by
 have ha1:=(List.getElem?_eq_some_iff.1 ha).1;have hb1:=(List.getElem?_eq_some_iff.1 hb).1;have l1:=(Gb hv ht).1;have l2:=(Gb hv hu).1;have w0:I4 (zp c t u) 0 a=x.toNat:=by
  show((FY c t).getD a 0).toNat=_;rw[List.getD_eq_getElem?_getD,ha];rfl
 have w1:I4 (zp c t u) 1 b=x.toNat:=by
  show((FY c u).getD b 0).toNat=_;rw[List.getD_eq_getElem?_getD,hb];rfl
 have hm:(fun j=>if j=0 then a else if j=1 then b else 0)∈Mt g (zp c t u):=by
  refine hU.mem (fun j hj=>?_) (fun j hj=>?_) (fun j hj=>?_)
  ·rw[Hf]at hj
   rw[SB hv ht hu hj]
   match j,hj with
   |0,_=>simp;omega
   |1,_=>simp;omega
  ·rw[Hf]at hj
   rw[if_neg (by omega),if_neg (by omega)]
  ·rw[Hf]at hj
   match j,hj with
   |0,_=>rfl
   |1,_=>simp only[if_true,if_neg (show¬(1:Nat)=0 by omega)];rw[w0,w1]
 obtain⟨m,hm1,e⟩:=List.mem_iff_getElem.1 hm;refine⟨m,hm1,?_,?_⟩<;>rw[Fv hm1,e]
 ·rfl
 ·rfl
theorem Qs(hv:VC c)(ht:t∈Jc c)(hu:u∈Jc c)(hU:Uq g (zp c t u)){a:Nat}(ha:a<c.1.length):∃m,m<(Mt g (zp c t u)).length/\ML (Mt g (zp c t u)) m 0=a:=by
 obtain⟨l1,_,l3⟩:=Gb hv ht;have ha':a<(FY c t).length:=by omega
 obtain⟨i,ei,hi⟩:=l3 _ (List.getElem_mem ha');obtain⟨b,hb,eb⟩:=List.mem_iff_getElem.1 (lX hv hu hi);obtain⟨m,m1,m2,-⟩:=Zo hv ht hu hU (List.getElem?_eq_getElem ha') (b:=b) (by rw[List.getElem?_eq_getElem hb,eb,ei]);exact⟨m,m1,m2⟩
theorem lY(hv:VC c)(ht:t∈Jc c)(hu:u∈Jc c)(hU:Uq g (zp c t u)):(Mt g (zp c t u)).length=c.1.length:=by
 have h1:=hU.len;rw[SB hv ht hu (by omega)]at h1;have:=Lr (l:=List.range c.1.length) (k:=(List.range (Mt g (zp c t u)).length).map fun m=>ML (Mt g (zp c t u)) m 0) List.nodup_range fun a ha=>by
  obtain⟨m,m1,m2⟩:=Qs hv ht hu hU (List.mem_range.1 ha);exact List.mem_map.2 ⟨m,List.mem_range.2 m1,m2⟩
 rw[List.length_range,List.length_map,List.length_range]at this;omega
theorem dY(hU:Uq g (zp c t u)){m m' j:Nat}(hm:m<(Mt g (zp c t u)).length)(hm':m'<(Mt g (zp c t u)).length)(hj:j<2)(e:ML (Mt g (zp c t u)) m j=ML (Mt g (zp c t u)) m' j):m=m':=by
 have h1:=List.getElem_mem hm;have h2:=List.getElem_mem hm';rw[<-Fv hm]at h1;rw[<-Fv hm']at h2;exact pu hm hm' (hU.one h1 h2 (show j<(zp c t u).length from hj) e)
theorem lZ(hv:VC c)(ht:t∈Jc c)(hu:u∈Jc c)(hU:Uq g (zp c t u)){i i' a:Nat}{p s:Am}(e1:(BI c)[i]?=some p)(e2:(BI c)[i']?=some s)(hadj:∀t∈Jc c,Pq i i' t=true)(ha:(FX c t)[a]?=some p)(ha':(FX c t)[a+1]?=some s):
  ∃m m',m<(Mt g (zp c t u)).length/\m'<(Mt g (zp c t u)).length/\ML (Mt g (zp c t u)) m 0=a/\ML (Mt g (zp c t u)) m' 0=a+1/\Bf g (zp c t u) m m'=true:=by
 obtain⟨q,r,e⟩:=TA.1 (hadj _ hu);have b1:(FY c u)[q.length]?=some (pw p):=by
  unfold FY FX;rw[e,List.map_map,List.getElem?_map,List.getElem?_append_right (Nat.le_refl _)];simp[e1]
 have b2:(FY c u)[q.length+1]?=some (pw s):=by
  unfold FY FX;rw[e,List.map_map,List.getElem?_map,List.getElem?_append_right (by omega)];simp[e2]
 have a1:(FY c t)[a]?=some (pw p):=by unfold FY;rw[List.getElem?_map,ha];rfl
 have a2:(FY c t)[a+1]?=some (pw s):=by unfold FY;rw[List.getElem?_map,ha'];rfl
 obtain⟨m,m1,m2,m3⟩:=Zo hv ht hu hU a1 b1;obtain⟨m',n1,n2,n3⟩:=Zo hv ht hu hU a2 b2;refine⟨m,m',m1,n1,m2,n2,EU.2 fun j hj=>?_⟩;rw[Hf]at hj
 match j,hj with
 |0,_=>rw[m2,n2];omega
 |1,_=>rw[m3,n3];omega
theorem qH(hv:VC c)(ht:t∈Jc c)(hU:Uq g (zp c t t)):∀i j,i<j->j<(Mt g (zp c t t)).length->Bf g (zp c t t) i j=true:=by
 intro i j hij hj;have hi:i<(Mt g (zp c t t)).length:=by omega
 have h1:=List.getElem_mem hi;have h2':=List.getElem_mem hj;have ho:=List.pairwise_iff_getElem.1 (cK (g:=g) hU.vl) i j hi hj hij;rw[<-Fv hi,<-Fv hj]at ho;rw[<-Fv hi]at h1;rw[<-Fv hj]at h2';have hne:ML (Mt g (zp c t t)) i 0≠ML (Mt g (zp c t t)) j 0:=fun e=>by
  have:=dY hU hi hj (by omega) e;omega
 have flat:∀f∈Mt g (zp c t t),f 1=f 0:=by
  intro f hf;have hfl:=(JJ hf).1;have e1:=hU.same hf (show 1<(zp c t t).length by rw[Hf];omega);exact hU.pos (j:=1) (show 1<(zp c t t).length by rw[Hf];omega) (hfl 1 (by rw[Hf];omega)) (by rw[SB hv ht ht (by omega)];have:=hfl 0 (by rw[Hf];omega);rw[SB hv ht ht (by omega)]at this;exact this) e1
 refine EU.2 fun b hb=>?_;rw[Hf]at hb
 match b,hb with
 |0,_=>omega
 |1,_=>rw[flat _ h1,flat _ h2'];omega
end
section
theorem lg{n:Nat}{lev:Nat->Nat}{B:Nat->Nat->Bool}(hd:Dag n lev B)(hB:∀i j,i<j->j<n->B i j=true){i:Nat}(hi:i<n):LD n n lev B i=1:=by
 have hl:=TD hd hB;have hD:∀d i,i+d+1=n->Dw n n lev B i=1:=by
  intro d
  induction d with
  |zero=>
   intro i hi;unfold Dw;rw[Ni];have e0:Ga n lev i=1:=by unfold Ga;rw[if_pos (by rw[hl i (by omega)];omega)]
   rw[e0,show n-1-i=0 by omega];rfl
  |succ d ih=>
   intro i hi;rw[(TF hd hB (show i+1<n by omega)).dw hd (fun j hj=>by rw[hl j hj];omega)];exact ih (i+1) (by omega)
 have hU:∀i,i<n->Uw lev B i=1:=by
  intro i
  induction i with
  |zero=>
   intro hn;unfold Uw;rw[Ry];have e0:Ga 1 lev 0=1:=by unfold Ga;rw[if_pos (hl 0 hn)]
   rw[e0];rfl
  |succ i ih=>
   intro hn;rw[(TF hd hB hn).uw hd];exact ih (by omega)
 unfold LD;rw[hU i hi,hD (n-1-i) i (by omega)]
end
section
variable {c:BB}{t u:List Nat}{g:Tp}{v:List Int}{top:Nat}
theorem mD:JV FF=some true:=rfl
theorem UO{F:Nat}{P:List JC}(hP:P.length<=1000){l:List Am}{i:Nat}(hi:i+1<l.length)(hl:l.length<=100){e e':Int}:∀(m k:Nat)(b:Bool),k<=P.length->P.length-k<m->
  DY F (l,e) (P,e') ((i+1:Nat):Int) m b (k:Int)=some (b||(P.drop k).any fun z=>decide (z=(l[i],l[i+1])))
 |0,k,_,_,h=>by omega
 |m+1,k,b,hk,h=>by
  unfold DY;by_cases hlt:k<P.length
  ·have ew:AZ (((i+1:Nat):Int)-1)=(i:Int):=by rw[BO (by omega)];omega
   rw[if_pos (by simpa using hlt),List.drop_eq_getElem_cons hlt,List.any_cons];simp only;rw[ew,A7 hlt,A7 (show i<l.length by omega),A7 hi];simp only[Ab,AJ];have step:(if b=true then some true else some (decide (((P[k].1.1,P[k].1.2),(P[k].2.1,P[k].2.2))=((l[i].1,l[i].2),(l[i+1].1,l[i+1].2)))))=some (b||decide (P[k]=(l[i],l[i+1]))):=by
    cases b with
    |true=>rfl
    |false=>rfl
   rw[step];simp only[AJ];rw[Ap (by omega),UO hP hi hl m (k+1) _ (by omega) (by omega),Bool.or_assoc]
  ·rw[if_neg (by simpa using hlt),List.drop_of_length_le (by omega)]
   simp
theorem TJ(hv:VC c)(ht:t∈Jc c):(FX c t).length=c.1.length:=(OG hv ht).1.len
theorem Pw(hv:VC c)(ht:t∈Jc c)(hu:u∈Jc c)(hU:Uq g (zp c t u))(hlv:Lv g (zp c t u) (Mt g (zp c t u)) v)(ht1:∀i,i<(Mt g (zp c t u)).length->LV v i<=top){P:List JC}(hPl:P.length<=1000)
  (hP:∀z∈P,∃(i i':Nat)(p s:Am),(BI c)[i]?=some p/\(BI c)[i']?=some s/\z=(p,s)/\∀t∈Jc c,Pq i i' t=true) {e e' e'':Int}:∀(m k r lo:Nat),k<=c.1.length->c.1.length-k<m->1<=r->1<=lo->lo<=top->
  (k=0->r=1)->(0<k->∃m,m<(Mt g (zp c t u)).length/\ML (Mt g (zp c t u)) m 0+1=k/\r<=LV v m)->
  ∃z:Nat,Ci FF (FX c t,e) (FX c u,e') (P,e'') m ((FY c t).take k) ((FY c u).take k) (r:Int) (lo:Int) (k:Int)=some (FY c t,FY c u,(z:Int))/\z<=top
 |0,k,_,_,_,h,_,_,_,_,_=>by omega
 |m+1,k,r,lo,hk,h,hr,hlo,hlt',hr0,hrk=>by
  have h8:=hv.n8;have lt1:=TJ hv ht;have lu1:=TJ hv hu;have lpt:=(Gb hv ht).1;have lpu:=(Gb hv hu).1;have hd:=Rz hU.vl hlv;have hrt:∀i,i<(Mt g (zp c t u)).length->LV v i<=1001:=fun i hi=>hlv.le hU.vl hi;unfold Ci;by_cases hlt:k<c.1.length
  ·have hkt:k<(FX c t).length:=by omega
   have hku:k<(FX c u).length:=by omega
   have bt:=dW hv ((OG hv ht).1.steps _ (List.getElem_mem hkt));have bu:=dW hv ((OG hv hu).1.steps _ (List.getElem_mem hku));have et:(FY c t).take k++[AZ ((FX c t)[k].1+1)]=(FY c t).take (k+1):=by
    rw[BO (by omega),List.take_succ_eq_append_getElem (by omega)]
    congr 2
    unfold FY;simp[pw]
   have eu:(FY c u).take k++[AZ ((FX c u)[k].1+1)]=(FY c u).take (k+1):=by
    rw[BO (by omega),List.take_succ_eq_append_getElem (by omega)]
    congr 2
    unfold FY;simp[pw]
   rw[if_pos (by simp only[decide_eq_true_eq];omega),A7 hkt];simp only[Ab,AJ];rw[Fu (by simp;omega),et];simp only[AJ];rw[A7 hku];simp only[AJ];rw[Fu (by simp;omega),eu];simp only[AJ];by_cases h0:k=0
   ·subst h0
    have:=hr0 rfl;rw[if_pos (by simp)];simp only[AJ];obtain⟨m0,m1,m2⟩:=Qs hv ht hu hU (show 0<c.1.length by omega);rw[Ap (by omega)];exact Pw hv ht hu hU hlv ht1 hPl hP m (0+1) r lo (by omega) (by omega) hr hlo hlt' (fun h=>by omega) fun _=>⟨m0,m1,by omega,by have:=hd.one m0 m1;omega⟩
   ·obtain⟨i,rfl⟩:∃i,k=i+1:=⟨k-1,by omega⟩
    rw[if_neg (by simp only[decide_eq_true_eq];omega)];have e2:=UO (F:=FF) hPl (l:=FX c t) (i:=i) hkt (by omega) (e:=e) (e':=e'') FF 0 false (Nat.zero_le _) (Nat.lt_of_le_of_lt (show _<=1000 by omega) (by decide));rw[show((0:Nat):Int)=0 from rfl,List.drop_zero,Bool.false_or]at e2;rw[e2];simp only[AJ];have fin:∀r':Nat,1<=r'->(∃m,m<(Mt g (zp c t u)).length/\ML (Mt g (zp c t u)) m 0+1=i+1+1/\r'<=LV v m)->
      ∃z:Nat,Ci FF (FX c t,e) (FX c u,e') (P,e'') m ((FY c t).take (i+1+1)) ((FY c u).take (i+1+1)) (r':Int) (if(lo:Int)<(r':Int)then(r':Int)else(lo:Int)) (AZ (((i+1:Nat):Int)+1))=some (FY c t,FY c u,(z:Int))/\z<=top:=by
     clear hrk;rintro r' hr'⟨m0,m1,m2,m3⟩;have:=ht1 m0 m1;rw[Ap (by omega)];have el:(if(lo:Int)<(r':Int)then(r':Int)else(lo:Int))=((if lo<r' then r' else lo:Nat):Int):=by
      by_cases c:lo<r'
      ·rw[if_pos c,if_pos (by omega)]
      ·rw[if_neg c,if_neg (by omega)]
     rw[el];refine Pw hv ht hu hU hlv ht1 hPl hP m (i+1+1) r' _ (by omega) (by omega) hr' (by split<;>omega) (by split<;>omega) (fun h=>by omega) fun _=>⟨m0,m1,m2,m3⟩
    cases hany:P.any fun z=>decide (z=((FX c t)[i],(FX c t)[i+1]))with
    |true=>
     obtain⟨z,hz,ez⟩:=List.any_eq_true.1 hany;obtain⟨i0,i1,p,s,a1,a2,ez2,hadj⟩:=hP z hz;have ez:=of_decide_eq_true ez;rw[ez2]at ez;cases ez;obtain⟨m0,m1,q1,q2,q3,q4,q5⟩:=lZ hv ht hu hU a1 a2 hadj (a:=i) (List.getElem?_eq_getElem (by omega)) (List.getElem?_eq_getElem hkt);obtain⟨m2,q6,q7,q8⟩:=hrk (by omega);have em:m2=m0:=dY hU q6 q1 (by omega) (j:=0) (by omega);subst em;have:=hd.up _ _ q1 q2 q5;have:=hrt m1 q2;rw[if_pos rfl,BO (n:=(r:Int)+1) (by omega)];simp only[AJ];exact fin (r+1) (by omega) ⟨m1,q2,by omega,by omega⟩
    |false=>
     rw[if_neg (by simp)];simp only[AJ];obtain⟨m0,m1,m2⟩:=Qs hv ht hu hU hlt;exact fin 1 (Nat.le_refl _) ⟨m0,m1,by omega,hd.one m0 m1⟩
  ·have ek:k=c.1.length:=by omega
   subst ek;rw[if_neg (by simp only[decide_eq_true_eq];omega),List.take_of_length_le (by omega),List.take_of_length_le (by omega)];exact⟨lo,rfl,hlt'⟩
end
end
theorem dZ{c:BB}(hJ:0<(Jc c).length){x:Int}(hx:0<=x/\x<=65535):∃(n:Nat)(t:List Nat),rem (AZ x) ((Jc c).length:Int)=some (n:Int)/\(Jc c)[n]?=some t:=by
 have t:=lV (u:=x) (n:=((Jc c).length:Int)) hx.1 (by omega);refine⟨(x.tmod ((Jc c).length:Int)).toNat,_,?_,List.getElem?_eq_getElem (by omega)⟩;rw[BO (by omega),qG (by omega),Int.toNat_of_nonneg t.1]
theorem qI(c:BB){one two:Int}(h1:0<=one/\one<=65535)(h2:0<=two/\two<=65535):GZ FF c one two=some true:=by
 have hF:100000<FF:=by decide
 unfold GZ;rw[mD];refine(dV c).elim ?_ fun e0=>by rw[show FT FF (c.1,c.2.1,c.2.2.1,c.2.2.2)=some false from e0];rfl
 rintro⟨e0,hv⟩;rw[show FT FF (c.1,c.2.1,c.2.2.1,c.2.2.2)=some true from e0];simp only[Ab,AJ];by_cases h6:6<c.1.length
 ·rw[if_pos (by simp;omega)]
 rw[if_neg (by simp;omega),show KC FF (c.1,c.2.1,c.2.2.1,c.2.2.2)=_ from count_eq (by decide) hv];simp only[AJ];rw[if_neg (by simp)];by_cases hJ:(Jc c).length=0
 ·rw[if_pos (by simp[hJ])]
 have hJ:0<(Jc c).length:=by omega
 rw[if_neg (by simp only[decide_eq_true_eq];intro hz;have hz:((Jc c).length:Int)=0:=hz;omega)];obtain⟨n1,t,r1,g1⟩:=dZ hJ h1;obtain⟨n2,u,r2,g2⟩:=dZ hJ h2;have ht:=List.mem_of_getElem? g1;have hu:=List.mem_of_getElem? g2;obtain⟨o1,j1⟩:=OG hv ht;obtain⟨o2,j2⟩:=OG hv hu;rw[r1,r2];simp only[AJ];rw[show Jr FF (c.1,c.2.1,c.2.2.1,c.2.2.2) (n1:Int)=_ from dM (by decide) hv g1];simp only[AJ];rw[show Jr FF (c.1,c.2.1,c.2.2.1,c.2.2.2) (n2:Int)=_ from dM (by decide) hv g2];simp only[AJ];obtain⟨P,e1,hPl,hP⟩:=XE (F:=FF) (by decide) hv hJ;rw[show H6 FF (c.1,c.2.1,c.2.2.1,c.2.2.2)=_ from e1];simp only[AJ,decide_true,Bool.not_true,Bool.or_false,Bool.not_false,gd,cond_true];rw[show FC FF (c.1,c.2.1,c.2.2.1,c.2.2.2) (FX c t)=_ from WT (by decide) hv o1 j1];simp only[AJ,decide_true,Bool.not_true,Bool.not_false,cond_true];rw[show FC FF (c.1,c.2.1,c.2.2.1,c.2.2.2) (FX c u)=_ from WT (by decide) hv o2 j2];rw[show(bif !(false||false)then some 0 else some (0:Int))=some 0 from rfl];simp only[AJ,decide_true,Bool.not_true];rw[if_neg (by simp)];have hVB:VB (⟨[]⟩:Bk):=⟨by simp,fun p hp=>by cases hp⟩;have hVL:VL (zp c t u):=by
  obtain⟨g0,hg0⟩:∃g:Tp,∀i j,i<101->j<101->(g i=g j↔Con (Ed (⟨[]⟩:Bk)) i j):=by
   obtain⟨g,_,h⟩:=Xe (F:=FF) (by decide) hVB;exact⟨g,h⟩
  exact(je hv ht hu hg0).vl
 obtain⟨g,hg,hW⟩:=lG hF hVB hVL;have hU:=je hv ht hu hg;have hN:=lY hv ht hu hU;have h8:=hv.n8;have hn1:=hv.n1;obtain⟨d,v,top,q,hlv,es,ht1,ht2,eL,el,ew,eG,hq⟩:=hW (by omega);have hd:=Rz hVL hlv;have htopn:top<=c.1.length:=by
  rcases ht2 with⟨_,e⟩|⟨i,hi,e⟩
  ·omega
  ·have a:=(hlv.get hi).2.2.le (by rw[Hf];omega)
   have b:=(JJ (List.getElem_mem hi)).1 0 (by rw[Hf];omega);rw[<-Fv hi,SB hv ht hu (by omega)]at b;omega
 have htop1:1<=top:=by
  have:=hd.one 0 (by omega);have:=ht1 0 (by omega);omega
 obtain⟨z,el1,hz⟩:=Pw hv ht hu hU hlv ht1 hPl hP (e:=0) (e':=0) (e'':=0) FF 0 1 1 (Nat.zero_le _) (Nat.lt_of_le_of_lt (show _<=8 by omega) (by decide)) (Nat.le_refl _) (Nat.le_refl _) htop1 (fun _=>rfl) (fun h=>by omega);rw[List.take_zero,List.take_zero,show((0:Nat):Int)=0 from rfl,show((1:Nat):Int)=1 from rfl]at el1;rw[el1];simp only[AJ];rw[show[FY c t,FY c u]=zp c t u from rfl];rw[Ze hF (by rw[Hf];omega) (by omega) es];simp only[AJ];rw[eG];simp only[AJ];rw[iB (by decide) hlv (by omega) es el ew];simp only[AJ];rw[Zd hF (by rw[Hf];omega) hlv (by omega) es el ew];simp only[AJ];have eq1:(q.map fun i=>Gp (zp c t u).length (ML (Mt g (zp c t u)) i))=(q.map (ML (Mt g (zp c t u)))).map (Gp (zp c t u).length):=by rw[List.map_map];rfl
 have hpass:FU FF (⟨[]⟩:Bk) (zp c t u) (q.map fun i=>Gp (zp c t u).length (ML (Mt g (zp c t u)) i))=some 0:=by
  rw[eq1];refine lJ (by decide) hVB hVL hg (by rw[List.length_map,hq.len];omega) (fun f hf=>?_) (fun t a b ha hb=>?_)
  ·obtain⟨i,hi,rfl⟩:=List.mem_map.1 hf
   have:=(hq.mem i hi).1;rw[Fv this];exact List.getElem_mem this
  ·rw[List.getElem?_map]at ha hb
   obtain⟨i,hi,rfl⟩:=Option.map_eq_some_iff.1 ha;obtain⟨j,hj,rfl⟩:=Option.map_eq_some_iff.1 hb;exact hq.seq t i j hi hj
 have lst1:=TJ hv ht;have d1:decide (((((Mt g (zp c t u)).map (Gp (zp c t u).length)).length:Nat):Int)=(((FX c t).length:Nat):Int))=true:=by rw[List.length_map];simp;omega
 have d2:decide ((((q.map fun i=>Gp (zp c t u).length (ML (Mt g (zp c t u)) i)).length:Nat):Int)<(z:Int))=false:=by rw[List.length_map,hq.len];simp;omega
 have d3:decide ((((FX c t).length:Nat):Int)<(((q.map fun i=>Gp (zp c t u).length (ML (Mt g (zp c t u)) i)).length:Nat):Int))=false:=by rw[List.length_map,hq.len];simp;omega
 simp only[d1,d2,d3,decide_true,Bool.not_true,Bool.or_false,Bool.not_false,cond_true,hpass,AJ];rw[if_neg (by simp)];by_cases same:n1=n2
 ·subst same
  rw[g1]at g2;cases g2;have hB:=qH hv ht hU;have hl:=TD hd hB;have htop:top=(Mt g (zp c t t)).length:=by
   rcases ht2 with⟨_,e⟩|⟨i,hi,e⟩
   ·omega
   ·have a:=hl i hi
    have b:=ht1 ((Mt g (zp c t t)).length-1) (by omega);have e:=hl ((Mt g (zp c t t)).length-1) (by omega);omega
  have hcnt:cnt g (zp c t t) top v=1:=by
   unfold cnt;rw[if_neg (by omega),htop];exact lW hd hB (by omega)
  have hcrt:(Pp g (zp c t t) top v 0 (Mt g (zp c t t)).length).length=(Mt g (zp c t t)).length:=by
   unfold Pp;rw[List.filter_eq_self.2,List.length_range'];intro i hi;have:=List.mem_range'_1.1 hi;rw[decide_eq_true_eq,hcnt];have:=lg hd hB (i:=i) (by omega);rw[htop];exact this
  have d4:decide ((((q.map fun i=>Gp (zp c t t).length (ML (Mt g (zp c t t)) i)).length:Nat):Int)=(((FX c t).length:Nat):Int))=true:=by rw[List.length_map,hq.len];simp;omega
  have d5:decide (((((((Pp g (zp c t t) top v 0 (Mt g (zp c t t)).length).map (ML (Mt g (zp c t t)))).map (Gp (zp c t t).length)).length):Nat):Int)=(((FX c t).length:Nat):Int))=true:=by rw[List.length_map,List.length_map,hcrt];simp;omega
  have d6:decide (((cnt g (zp c t t) top v:Nat):Int)=1)=true:=by rw[hcnt];rfl
  simp only[d4,d5,d6,decide_true,Bool.not_true,Bool.and_self,Bool.or_true,cond_true,AJ]
 ·have d7:decide ((n1:Int)=(n2:Int))=false:=by simp;omega
  simp only[d7,Bool.not_false,Bool.true_or,cond_true,AJ,Bool.and_self]
theorem Oy(c:BB){one two:Int}(h1:(Lit.int .u16 one).wf=true)(h2:(Lit.int .u16 two).wf=true):GZ FF c one two=some true:=by
 have hb:∀{v:Int},(Lit.int .u16 v).wf=true->0<=v/\v<=65535:=fun{v} h=>by simp[Lit.wf]at h;exact h
 exact qI c (hb h1) (hb h2)
end LW
end Go.Proofs.YtfmelbioccbdoaaGreat
end
section
namespace Go.Proofs.YtfmelbioccbdoaaGreat
namespace TopJoinedWordsP
open Go
theorem band{a b:Bool}(h:a=true)(k:b=true):(a&&b)=true:=by rw[h,k];rfl
theorem zS:(Rows.topJoinedWordsRow.wf (OpenSpec.ofChange Rows.topJoinedWordsSpec))=true:=by kernel_rfl
theorem zU:(laidOutB Tryz.pinned.checked.prog)=true:=by kernel_rfl
theorem zV:(mapsRowed Tryz.pinned.checked.prog)=true:=by kernel_rfl
theorem zW:(Tryz.f11.params.all (Tryz.pinned.checked.prog.readableRec ·))=true:=by kernel_rfl
theorem zX:(namedTie Tryz.pinned.checked.prog Rows.topJoinedWordsRow.named Rows.topJoinedWordsSpec.vars)=true:=by kernel_rfl
theorem zY:((Rows.topJoinedWordsRow.stops==[]))=true:=by kernel_rfl
theorem zZ:((Tryz.pinned.checked.prog.stops==[]))=true:=by kernel_rfl
theorem ze:((Rows.topJoinedWordsRow.knobs==[]))=true:=by kernel_rfl
theorem zf:((Tryz.pinned.checked.prog.stopKnobs==[]))=true:=by kernel_rfl
theorem zi:((Rows.topJoinedWordsRow.inPlace==Tryz.pinned.checked.prog.inPlace (11:FuncId)))=true:=by kernel_rfl
theorem yG:((Rows.topJoinedWordsRow.unfollowed==Tryz.pinned.checked.prog.unfollowed (11:FuncId)))=true:=by kernel_rfl
theorem yH:((Rows.topJoinedWordsRow.recurses==Tryz.pinned.checked.prog.recurses (11:FuncId)))=true:=by kernel_rfl
theorem yI:((Rows.topJoinedWordsRow.named==Tryz.pinned.checked.prog.varsNamed (11:FuncId)))=true:=by kernel_rfl
theorem yJ:((Rows.topJoinedWordsRow.maps==(Tryz.f11.params.toList++Rows.topJoinedWordsSpec.plain.varTypes Tryz.pinned.checked.prog).any (Tryz.pinned.checked.prog.mapsRec ·)))=true:=by kernel_rfl
theorem yK:((Rows.topJoinedWordsRow.ifaces==(Tryz.f11.params.toList++Rows.topJoinedWordsSpec.plain.varTypes Tryz.pinned.checked.prog).any (Tryz.pinned.checked.prog.ifacesRec ·)))=true:=by kernel_rfl
theorem yL:((Rows.topJoinedWordsRow.mapsOut==Tryz.pinned.checked.prog.mapsAmong Tryz.f11.resultTypes.toList))=true:=by kernel_rfl
theorem yM:((Rows.topJoinedWordsRow.loops==(Tryz.f11.params.toList++Rows.topJoinedWordsSpec.plain.varTypes Tryz.pinned.checked.prog).any (Tryz.pinned.checked.prog.loopsFrom ·)))=true:=by kernel_rfl
theorem yN:((Rows.topJoinedWordsRow.wideKeys==(Tryz.f11.params.toList++Rows.topJoinedWordsSpec.plain.varTypes Tryz.pinned.checked.prog++Tryz.f11.resultTypes.toList).any (Tryz.pinned.checked.prog.wideKeysFrom ·)))=true:=by kernel_rfl
theorem yO:(Rows.topJoinedWordsSpec.vars.all (Tryz.pinned.checked.prog.varReadable ·))=true:=by kernel_rfl
theorem yP:(Tryz.f11.resultTypes.all (fun t=>Tryz.pinned.checked.prog.readableRec t&&decide (t<Tryz.pinned.checked.prog.types.size)))=true:=by kernel_rfl
theorem yQ:((Rows.topJoinedWordsRow.ifacesOut==Tryz.f11.resultTypes.toList.any (Tryz.pinned.checked.prog.ifacesRec ·)))=true:=by kernel_rfl
theorem yR:((Rows.topJoinedWordsRow.loopsOut==Tryz.f11.resultTypes.toList.any (Tryz.pinned.checked.prog.loopsFrom ·)))=true:=by kernel_rfl
theorem yS:((Rows.topJoinedWordsRow.plainKeys==Tryz.pinned.checked.prog.plainKeys))=true:=by kernel_rfl
theorem yT:(Rows.topJoinedWordsRow.shortTexts.isNone)=true:=by kernel_rfl
theorem yU:(Tryz.pinned.checked.prog.stopsHeard)=true:=by kernel_rfl
theorem yV:(Tryz.pinned.checked.prog.mayEnter)=true:=by kernel_rfl
theorem yX:((Rows.topJoinedWordsRow.lifted==Tryz.pinned.checked.prog.liftsFinal))=true:=by kernel_rfl
theorem yY:((Tryz.pinned.checked.prog.make==some Rows.topJoinedWordsRow.make))=true:=by kernel_rfl
theorem yZ:((Rows.topJoinedWordsRow.kinds==(if Rows.topJoinedWordsRow.domain.isEmpty then[]else Tryz.f11.params.toList.map fun t=>match Tryz.pinned.checked.prog.underlying t with|some (.int k)=>some k|_=>none)))=true:=by kernel_rfl
theorem yc:((Rows.topJoinedWordsRow.pinned==Rows.topJoinedWordsRow.pinnedBy))=true:=by kernel_rfl
theorem yg:((Rows.topJoinedWordsRow.veiled==(Tryz.f11.params.toList++Rows.topJoinedWordsSpec.plain.varTypes Tryz.pinned.checked.prog++Tryz.f11.resultTypes.toList).any (Tryz.pinned.checked.prog.veiledRec ·)))=true:=by kernel_rfl
theorem yj:(Rows.topJoinedWordsRow.veiledFits Tryz.pinned.checked.prog Tryz.f11.params.toList (Tryz.f11.params.toList++Rows.topJoinedWordsSpec.plain.varTypes Tryz.pinned.checked.prog++Tryz.f11.resultTypes.toList))=true:=by kernel_rfl
theorem named:Tryz.pinned.checked.prog.funcNamed Rows.topJoinedWordsRow.func=some 11:=by kernel_rfl
end TopJoinedWordsP
end Go.Proofs.YtfmelbioccbdoaaGreat
end
