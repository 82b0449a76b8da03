/-
  Part 12 of 12 of what the last text stands on: lemmas about the model, pure functions, walks, laws in plain Lean; each part's own head says its condition. Merged by a program of our own.
-/
import Derived.Test.YtfmelbioccbdoaaGreatHeardListsQk
import Derived.Test.YtfmelbioccbdoaaGreatRows
import Derived.JoinedOf
set_option maxHeartbeats 0
set_option linter.all false
section
namespace Go.Proofs.YtfmelbioccbdoaaGreat
open Go Go.Md Go.RowKit
namespace Wo
abbrev Tp:=Nat->Nat
def upd(f:Tp)(j i:Nat):Tp:=fun n=>if n=j then i else f n
def ln(l:List (List Int))(j:Nat):Nat:=(l.getD j []).length
def AAT(l:List (List Int)):Nat->List Tp
 |0=>[fun _=>0]
 |j+1=>(AAT l j).flatMap fun t=>(List.range (ln l j)).map (upd t j)
theorem ABD{l:List (List Int)}:∀(j:Nat)(f:Tp),f∈AAT l j->(∀i,i<j->f i<ln l i)/\∀i,j<=i->f i=0
 |0,f,h=>by
  rw[AAT,List.mem_singleton]at h;subst h;exact⟨fun i h=>by omega,fun _ _=>rfl⟩
 |j+1,f,h=>by
  rw[AAT,List.mem_flatMap]at h;obtain⟨t,ht,h⟩:=h;obtain⟨i,hi,rfl⟩:=List.mem_map.1 h;obtain⟨a,b⟩:=ABD j t ht;rw[List.mem_range]at hi;refine⟨fun n hn=>?_,fun n hn=>?_⟩
  ·unfold upd;by_cases e:n=j
   ·rw[if_pos e];subst e;exact hi
   ·rw[if_neg e];exact a n (by omega)
  ·unfold upd;rw[if_neg (by omega)];exact b n (by omega)
theorem AMG{l:List (List Int)}:∀(j i:Nat),i<j->ln l i=0->AAT l j=[]
 |0,i,h,_=>by omega
 |j+1,i,h,h0=>by
  rw[AAT];by_cases e:i=j
  ·subst e;rw[h0];simp
  ·rw[AMG j i (by omega) h0];rfl
theorem AIy{l:List (List Int)}{q:Nat}(hq:∀i,ln l i<=q):∀j,(AAT l j).length<=q^j
 |0=>by simp[AAT]
 |j+1=>by
  rw[AAT,List.length_flatMap];have:∀(L:List Tp),(L.map fun t=>((List.range (ln l j)).map (upd t j)).length).sum<=L.length*q:=by
   intro L
   induction L with
   |nil=>simp
   |cons a L ih=>simp only[List.map_cons,List.sum_cons,List.length_map,List.length_range,List.length_cons,Nat.succ_mul]at*;have:=hq j;omega
  exact Nat.le_trans (this _) (by rw[Nat.pow_succ];exact Nat.mul_le_mul_right _ (AIy hq j))
theorem AJV{l:List (List Int)}:∀j,(AAT l (j+1)).Pairwise fun f g=>f 0<=g 0
 |0=>by
  rw[AAT,AAT];simp only[List.flatMap_cons,List.flatMap_nil,List.append_nil];rw[List.pairwise_map];exact List.pairwise_lt_range.imp fun{a b} h=>by simp[upd];omega
 |j+1=>by
  rw[AAT];have ih:=AJV (l:=l) j;rw[List.pairwise_flatMap];refine⟨fun t _=>?_,ih.imp fun{f g} h a ha b hb=>?_⟩
  ·rw[List.pairwise_map]
   exact List.pairwise_lt_range.imp fun{a b} _=>by simp[upd]
  ·obtain⟨x,_,rfl⟩:=List.mem_map.1 ha
   obtain⟨y,_,rfl⟩:=List.mem_map.1 hb;simpa[upd]using h
def nx(l:List (List Int)):Nat->Tp->Option Tp
 |0,_=>none
 |j+1,f=>if f j+1<ln l j then some (upd f j (f j+1))else nx l j (upd f j 0)
theorem AIz(l:List (List Int))(j:Nat)(f:Tp):nx l (j+1) f=if f j+1<ln l j then some (upd f j (f j+1))else nx l j (upd f j 0):=rfl
inductive Run{α:Type}(nx:α->Option α):α->List α->Prop
 |last {u:α}:nx u=none->Run nx u [u]
 |more {u v:α} {l:List α}:nx u=some v->Run nx v l->Run nx u (u::l)
theorem AFi(f:Tp)(j a b:Nat):upd (upd f j a) j b=upd f j b:=by funext n;unfold upd;by_cases e:n=j<;>simp[e]
theorem ABw{f:Tp}{j a:Nat}(h:f j=a):upd f j a=f:=by funext n;unfold upd;by_cases e:n=j<;>simp[e,h]
theorem ARF{l:List (List Int)}{j:Nat}{t:Tp}(ht:t j=0){T:List Tp}(h0:nx l j t=none->T=[])(h1:∀v,nx l j t=some v->Run (nx l (j+1)) v T):
  ∀(d i:Nat),i+d+1=ln l j->Run (nx l (j+1)) (upd t j i) ((List.range' i (d+1)).map (upd t j)++T)
 |0,i,hd=>by
  have e:nx l (j+1) (upd t j i)=nx l j t:=by
   rw[AIz,if_neg (by simp[upd];omega),AFi,ABw ht]
  rw[List.range'_one];cases hn:nx l j t with
  |none=>rw[h0 hn];exact .last (e.trans hn)
  |some v=>exact .more (e.trans hn) (h1 v hn)
 |d+1,i,hd=>by
  rw[List.range'_succ];refine .more (v:=upd t j (i+1)) ?_ (ARF ht h0 h1 d (i+1) (by omega));rw[AIz,if_pos (by simp[upd];omega),AFi];simp[upd]
theorem ATW{l:List (List Int)}{j:Nat}(hj:0<ln l j){t:Tp}{L:List Tp}(h:Run (nx l j) t L)(hz:∀u∈L,u j=0):Run (nx l (j+1)) t (L.flatMap fun t=>(List.range (ln l j)).map (upd t j)):=by
 have fl:∀(t:Tp)(T:List Tp),t j=0->(nx l j t=none->T=[])->(∀v,nx l j t=some v->Run (nx l (j+1)) v T)->Run (nx l (j+1)) t ((List.range (ln l j)).map (upd t j)++T):=by
  intro t T ht h0 h1;have:=ARF ht h0 h1 (ln l j-1) 0 (by omega);rw[ABw ht,show ln l j-1+1=ln l j by omega,<-List.range_eq_range']at this;exact this
 induction h with
 |last hn=>
  have:=fl _ [] (hz _ (List.mem_singleton_self _)) (fun _=>rfl) (fun v hv=>by rw[hn]at hv;cases hv);simpa using this
 |more hn hr ih=>
  rw[List.flatMap_cons];exact fl _ _ (hz _ (List.mem_cons_self ..)) (fun h=>by rw[hn]at h;cases h) (fun v hv=>by
   rw[hn]at hv;cases hv;exact ih fun u hu=>hz u (List.mem_cons_of_mem _ hu))
theorem AMH{l:List (List Int)}:∀j,(∀i,i<j->0<ln l i)->Run (nx l j) (fun _=>0) (AAT l j)
 |0,_=>.last rfl
 |j+1,h=>ATW (h j (by omega)) (AMH j fun i hi=>h i (by omega)) fun u hu=>(ABD j u hu).2 j (by omega)
def pl(f:Tp):Pl:=⟨(List.range 4).map fun i=>(f i:Int),by simp⟩
theorem ADc{f:Tp}{i:Nat}(h:i<4):ix (pl f).l (i:Int)=some (f i:Int):=by
 rw[NG (by simpa[pl]using h)];simp[pl]
theorem AIU{f:Tp}{i v:Nat}(h:i<4):xK (pl f) (i:Int) (v:Int)=pl (upd f i v):=AEl (by
 show(pl f).l.set _ _=_;apply List.ext_getElem?;intro j;rw[List.getElem?_set];simp only[pl,List.length_map,List.length_range,List.getElem?_map,Int.toNat_natCast];by_cases hj:j<4
 ·rw[List.getElem?_range hj]
  by_cases e:i=j
  ·subst e;simp[upd,h]
  ·rw[if_neg e];simp[upd,Ne.symm e]
 ·rw[List.getElem?_eq_none (by simp;omega)]
  rw[if_neg (by omega)];rfl)
theorem AMI:pl (fun _=>0)=Ar.fill 4 0:=AEl rfl
theorem AI0{l:List (List Int)}(hl:l.length<=4)(h8:∀i,ln l i<=1000):∀(j m:Nat)(f:Tp),j<=l.length->j<m->(∀i,i<j->f i<ln l i)->
  ∃r,AC9 l m ((j:Int)-1) (pl f)=some r/\(nx l j f=none->r.1<0)/\∀g,nx l j f=some g->∃q x:Nat,r.1=(q:Int)/\ix r.2.l r.1=some (x:Int)/\xK r.2 r.1 (BA ((x:Int)+1))=pl g
 |_,0,_,_,h,_=>by omega
 |0,m+1,f,_,_,_=>by
  unfold AC9;rw[if_neg (by simp)];exact⟨_,rfl,fun _=>by simp,fun g h=>by cases h⟩
 |j+1,m+1,f,hj,hm,hf=>by
  have hfj:=hf j (by omega);have h8j:=h8 j;have hjl:j<l.length:=by omega
  have eln:ln l j=l[j].length:=by unfold ln;simp[hjl]
  unfold AC9;rw[show((j+1:Nat):Int)-1=(j:Int) by omega,if_pos (by simp),ADc (by omega),NG hjl];simp only[CJ,AP];rw[AIz];by_cases c:f j+1<ln l j
  ·rw[if_pos c]
   rw[show decide ((f j:Int)=BA ((l[j].length:Int)-1))=false by rw[Gj (by omega)];simp;omega];simp only[Bool.false_eq_true,if_false];refine⟨_,rfl,(fun h=>by cases h),fun g hg=>?_⟩;cases hg;refine⟨j,f j,rfl,ADc (by omega),?_⟩;rw[G5 (by omega),AIU (by omega)]
  ·rw[if_neg c]
   rw[show decide ((f j:Int)=BA ((l[j].length:Int)-1))=true by rw[Gj (by omega)];simp;omega];simp only[if_true];have:=AI0 hl h8 j m (upd f j 0) (by omega) (by omega) fun i hi=>by unfold upd;rw[if_neg (by omega)];exact hf i (by omega)
   rw[Gj (by omega),show(0:Int)=((0:Nat):Int)from rfl,AIU (by omega)];exact this
theorem all_eq{F:Nat}(hF:100000<F){l:List (List Int)}(hl:l.length<=4)(h8:∀i,ln l i<=1000){f:Tp}{L:List Tp}(h:Run (nx l l.length) f L):∀m,(∀u∈L,∀i,i<l.length->u i<ln l i)->L.length<=m->AD5 F l m (pl f)=some (L.map pl):=by
 induction h with
 |last hn=>
  intro m hv hm;obtain⟨m,rfl⟩:∃k,m=k+1:=⟨m-1,by simp at hm;omega⟩;obtain⟨r,h1,h2,_⟩:=AI0 hl h8 l.length F _ (Nat.le_refl _) (by omega) (hv _ (List.mem_singleton_self _));unfold AD5;rw[Gj (by omega),h1];simp only[CJ,AP];rw[if_pos (by simpa using h2 hn)];rfl
 |more hn hr ih=>
  intro m hv hm;obtain⟨m,rfl⟩:∃k,m=k+1:=⟨m-1,by simp at hm;omega⟩;obtain⟨r,h1,_,h3⟩:=AI0 hl h8 l.length F _ (Nat.le_refl _) (by omega) (hv _ (List.mem_cons_self ..));obtain⟨q,y,e1,e2,e3⟩:=h3 _ hn;unfold AD5;rw[Gj (by omega),h1];simp only[CJ,AP];rw[if_neg (by rw[e1];simp),e2];simp only[AP];rw[e3,ih m (fun u hu=>hv u (List.mem_cons_of_mem _ hu)) (by simpa using hm)]
  rfl
theorem ADd{l:List (List Int)}(h:VL l)(i:Nat):ln l i<=8:=by
 unfold ln;by_cases hi:i<l.length
 ·simp only[List.getD_eq_getElem?_getD,List.getElem?_eq_getElem hi,Option.getD_some];exact h.len _ (List.getElem_mem hi)
 ·simp only[List.getD_eq_getElem?_getD,List.getElem?_eq_none (by omega:l.length<=i),Option.getD_none];simp
theorem AF6{l:List (List Int)}(h:VL l):(AAT l l.length).length<=4096:=by
 have:=AIy (ADd h) l.length;have h2:8^l.length<=8^4:=Nat.pow_le_pow_right (by omega) h.four;have:(8:Nat)^4=4096:=rfl;omega
theorem AJW{F:Nat}(hF:100000<F){l:List (List Int)}(h:VL l):AB4 F l=some ((AAT l l.length).map pl):=by
 have h4:=h.four;unfold AB4;cases h0:l.any fun r=>r.length==0 with
 |true=>
  rw[if_pos rfl];obtain⟨r,hr,e⟩:=List.any_eq_true.1 h0;obtain⟨i,hi,rfl⟩:=List.mem_iff_getElem.1 hr;rw[AMG l.length i hi (by unfold ln;simp[hi];simpa using e)];rfl
 |false=>
  rw[if_neg (by simp)];have hp:∀i,i<l.length->0<ln l i:=fun i hi=>by
   have:=List.any_eq_false.1 h0 l[i] (List.getElem_mem hi);unfold ln;simp[hi]at this⊢;exact List.length_pos_iff.2 this
  rw[<-AMI];have hl:=AF6 h;exact all_eq hF h4 (fun i=>Nat.le_trans (ADd h i) (by omega)) (AMH l.length hp) F (fun u hu=>(ABD _ u hu).1) (by omega)
def wrd(l:List (List Int))(h i:Nat):Nat:=((l.getD h []).getD i 0).toNat
def mt(g:Tp)(l:List (List Int))(k:Nat)(f:Tp):Bool:=(List.range k).all fun h=>decide (g (wrd l h (f h))=g (wrd l 0 (f 0)))
theorem ACp{l:List (List Int)}(h:VL l){j i:Nat}(hj:j<l.length)(hi:i<ln l j):ix l[j] (i:Int)=some ((wrd l j i:Nat):Int)/\wrd l j i<101:=by
 have eln:ln l j=l[j].length:=by unfold ln;simp[hj]
 have hi':i<l[j].length:=by omega
 have hw:=h.ws _ (List.getElem_mem hj) _ (List.getElem_mem hi');obtain⟨n,e,_,hn⟩:=AGj hw;have:wrd l j i=n:=by unfold wrd;simp[hj,hi',e]
 rw[NG hi',this,e];exact⟨rfl,hn⟩
theorem AG2(g:Tp)(l:List (List Int))(k:Nat)(f:Tp):mt g l (k+1) f=(mt g l k f&&decide (g (wrd l k (f k))=g (wrd l 0 (f 0)))):=by
 unfold mt;rw[List.range_succ,List.all_append];simp
theorem ANo{g g':Tp}(hg:∀i j,i<101->j<101->(g i=g j↔g' i=g' j)){l:List (List Int)}(h:VL l){f:Tp}(hf:∀i,i<l.length->f i<ln l i):∀k,k<=l.length->mt g l k f=mt g' l k f
 |0,_=>rfl
 |k+1,hk=>by
  rw[AG2,AG2,ANo hg h hf k (by omega)];have h2:=h.two;have a:=(ACp h (j:=k) (by omega) (hf k (by omega))).2;have b:=(ACp h (j:=0) (by omega) (hf 0 (by omega))).2
  congr 1
  exact decide_eq_decide.2 (hg _ _ a b)
theorem AIV{F:Nat}(hF:1000<F){x:Bk}{l:List (List Int)}(h:VL l){c:Cls}{g:Tp}(hc:c.l=tl g){acc:List Pl}{f:Tp}(hf:∀i,i<l.length->f i<ln l i):
  zu F ((⟨some (x,c)⟩:Ob ((Uno (List (Ar 2 Int)))×(Ar 101 Int))),l,acc) (pl f)=some (mt g l l.length f):=by
 have h2:=h.two;have h4:=h.four;have key:∀(m k:Nat),k<=l.length->l.length-k<m->mt g l k f=true->wU F ((⟨some (x,c)⟩:Ob ((Uno (List (Ar 2 Int)))×(Ar 101 Int))),l,acc) (pl f) m (k:Int)=some (if mt g l l.length f=true then .inr ()else .inl false):=by
  intro m
  induction m with
  |zero=>intro k _ h;omega
  |succ m ih=>
   intro k hk hm hmt;unfold wU;by_cases hlt:k<l.length
   ·have a:=ACp h hlt (hf k hlt)
    have b:=ACp h (j:=0) (by omega) (hf 0 (by omega));rw[if_pos (by simpa using hlt)];simp only;rw[NG hlt,ADc (by omega)];simp only[CJ,AP];rw[a.1];simp only[AP];rw[show(0:Int)=((0:Nat):Int)from rfl,NG (show 0<l.length by omega),ADc (by omega)];simp only[AP];rw[b.1];simp only[AP,AAd];rw[hc,AEW a.2,AEW b.2];simp only[CJ,AP];by_cases e:g (wrd l k (f k))=g (wrd l 0 (f 0))
    ·rw[show(!decide ((g (wrd l k (f k)):Int)=(g (wrd l 0 (f 0)):Int)))=false by simp[e]]
     simp only[Bool.false_eq_true,if_false];rw[G5 (by omega),ih (k+1) (by omega) (by omega) (by rw[AG2,hmt,decide_eq_true e];rfl)]
    ·rw[show(!decide ((g (wrd l k (f k)):Int)=(g (wrd l 0 (f 0)):Int)))=true by simp;omega]
     simp only[if_true];rw[if_neg];intro hh;have:=List.all_eq_true.1 hh k (List.mem_range.2 hlt);exact e (by simpa using this)
   ·have:k=l.length:=by omega
    subst this;rw[if_neg (by simp),hmt];rfl
 unfold zu;have:=key F 0 (by omega) (by omega) rfl;rw[show((0:Nat):Int)=0 from rfl]at this;rw[this];cases mt g l l.length f<;>rfl
theorem AF7{F:Nat}(hF:1000<F){x:Bk}{l:List (List Int)}(h:VL l){c:Cls}{g:Tp}(hc:c.l=tl g):∀(L:List Tp)(acc:List Pl),(∀f∈L,∀i,i<l.length->f i<ln l i)->L.length+acc.length<=100000->
  ADV F ⟨some (x,c)⟩ l (L.map pl) acc=some (acc++(L.filter (mt g l l.length)).map pl)
 |[],acc,_,_=>by simp[ADV]
 |f::L,acc,hf,hn=>by
  simp only[List.length_cons]at hn;rw[List.map_cons,ADV,AIV hF h hc (hf f (List.mem_cons_self ..))];simp only[CJ,AP];cases hm:mt g l l.length f with
  |true=>
   rw[if_pos rfl,yJ (by simp;omega)];simp only[AP];rw[AF7 hF h hc L _ (fun u hu=>hf u (List.mem_cons_of_mem _ hu)) (by simp;omega),List.filter_cons,if_pos hm];simp
  |false=>
   rw[if_neg (by simp),AF7 hF h hc L _ (fun u hu=>hf u (List.mem_cons_of_mem _ hu)) (by omega),List.filter_cons,if_neg (by simp[hm])]
def Mt(g:Tp)(l:List (List Int)):List Tp:=(AAT l l.length).filter (mt g l l.length)
theorem ARy{F:Nat}(hF:100000<F){x:Bk}{l:List (List Int)}(hv:VB x)(h:VL l):∃d g,wO F x l=some (⟨some (d,l,(Mt g l).map pl)⟩,0)/\∀i j,i<101->j<101->(g i=g j↔Con (Ed x) i j):=by
 obtain⟨c,g,h1,h2,h3⟩:=APB hv;refine⟨⟨some (x,c)⟩,g,?_,h3⟩;have hl:=AF6 h;unfold wO;rw[show(⟨x.v⟩:Bk)=x from rfl,APG (by omega) hv h];simp only[CJ,AP];rw[if_neg (by simp)];unfold AAZ;rw[h1];simp only[CJ,AP];rw[AJW hF h];simp only[AP];rw[show(⟨x.v⟩:Bk)=x from rfl,AF7 (by omega) h h2 _ [] (fun f hf=>(ABD _ f hf).1) (by simp;omega)]
 rfl
def zS(k:Nat)(f:Tp):List Int:=(List.range k).map fun i=>(f i:Int)
theorem AFj(k:Nat)(f:Tp):(zS k f).length=k:=by simp[zS]
theorem AK0{k:Nat}{f:Tp}{i:Nat}(h:i<k):ix (zS k f) (i:Int)=some (f i:Int):=by
 rw[NG (by rw[AFj];exact h)];simp[zS]
theorem AQV(k:Nat)(f:Tp)(i:Nat):zS k f++[(i:Int)]=zS (k+1) (upd f k i):=by
 unfold zS;rw[List.range_succ,List.map_append]
 congr 1
 ·exact List.map_congr_left fun n hn=>by rw[List.mem_range]at hn;unfold upd;rw[if_neg (by omega)]
 ·simp[upd]
def cnd(g:Tp)(l:List (List Int))(j:Nat)(f:Tp)(i:Nat):Bool:=decide (g (wrd l j i)=g (wrd l 0 (if j=0 then i else f 0)))
theorem ATX(g:Tp)(l:List (List Int))(j:Nat)(f:Tp)(i:Nat):mt g l (j+1) (upd f j i)=(mt g l j f&&cnd g l j f i):=by
 rw[AG2];unfold cnd;by_cases e:j=0
 ·subst e;simp[mt,upd]
 ·rw[if_neg e]
  have h0:upd f j i 0=f 0:=by unfold upd;rw[if_neg (fun h=>e h.symm)]
  rw[h0,show upd f j i j=i by simp[upd]]
  congr 1
  unfold mt;rw[h0];rw[Bool.eq_iff_iff,List.all_eq_true,List.all_eq_true];refine forall_congr' fun n=>imp_congr_right fun hn=>?_;rw[List.mem_range]at hn;rw[show upd f j i n=f n by unfold upd;rw[if_neg (by omega)]]
theorem AQW{F:Nat}{l:List (List Int)}(h:VL l){g:Tp}{y1:List (List Int)}{j:Nat}(hj:j<l.length){y4:Nat}{f:Tp}(h4:y4<y1.length)(e4:y1[y4]=zS j f)(hf:∀i,i<j->f i<ln l i):
  ∀(m k:Nat)(y5:List (List Int)),k<=ln l j->ln l j-k<m->y5.length+(ln l j-k)<=1000000->
   AA4 F l (tl g) y1 (j:Int) (y4:Int) m y5 (k:Int)=some (y5++((List.range' k (ln l j-k)).filter (cnd g l j f)).map fun i=>zS (j+1) (upd f j i))
 |0,k,_,_,h,_=>by omega
 |m+1,k,y5,hk,hm,hn=>by
  have h2:=h.two;have hlf:=h.four;have h8:=ADd h j;have eln:ln l j=l[j].length:=by unfold ln;simp[hj]
  unfold AA4;rw[NG hj];simp only[CJ,AP];by_cases hlt:k<ln l j
  ·rw[if_pos (by simp;omega),show ln l j-k=(ln l j-(k+1))+1 by omega,List.range'_succ,List.filter_cons]
   have ec:(if decide ((j:Int)=0)=true then some true else(ix l[j] (k:Int)).bind fun x6=>(ix (tl g) x6).bind fun x7=>(ix l 0).bind fun x8=>(ix y1 (y4:Int)).bind fun x9=>(ix x9 0).bind fun x10=>(ix x8 x10).bind fun x11=>(ix (tl g) x11).bind fun x12=>some (decide (x7=x12)))=some (cnd g l j f k):=by
    unfold cnd;by_cases e:j=0
    ·subst e;simp
    ·rw[if_neg (by simpa using e),if_neg e]
     have a:=ACp h hj hlt;have b:=ACp h (j:=0) (by omega) (hf 0 (by omega));rw[a.1];simp only[AP];rw[AEW a.2,show(0:Int)=((0:Nat):Int)from rfl,NG (show 0<l.length by omega),NG h4,e4];simp only[AP];rw[AK0 (by omega)];simp only[AP];rw[b.1];simp only[AP];rw[AEW b.2];simp only[AP,Option.some.injEq];exact decide_eq_decide.2 (by omega)
   rw[ec];simp only[AP];cases hc:cnd g l j f k with
   |true=>
    simp only[if_true];rw[NG h4,e4];simp only[AP];rw[yJ (by simp[AFj];omega)];simp only[AP];rw[yJ (by simp[AFj];omega)];simp only[AP];rw[yJ (by simp;omega)];simp only[AP,List.nil_append];rw[G5 (by omega),AQW h hj h4 e4 hf m (k+1) _ (by omega) (by omega) (by simp;omega),AQV];simp
   |false=>
    simp only[Bool.false_eq_true,if_false,AP];rw[G5 (by omega),AQW h hj h4 e4 hf m (k+1) _ (by omega) (by omega) (by omega)]
  ·rw[if_neg (by simp;omega),show ln l j-k=0 by omega];simp
def nxt(g:Tp)(l:List (List Int))(j:Nat)(f:Tp):List (List Int):=((List.range (ln l j)).filter (cnd g l j f)).map fun i=>zS (j+1) (upd f j i)
theorem ARz{l:List (List Int)}(h:VL l)(g:Tp)(j:Nat)(f:Tp):(nxt g l j f).length<=8:=by
 unfold nxt;rw[List.length_map];exact Nat.le_trans (List.length_filter_le ..) (by rw[List.length_range];exact ADd h j)
theorem ATY{F:Nat}(hF:1000<F){l:List (List Int)}(h:VL l){g:Tp}{L:List Tp}{j:Nat}(hj:j<l.length)(hf:∀f∈L,∀i,i<j->f i<ln l i)(hL:L.length<=10000):
  ∀(m k:Nat)(y3:List (List Int)),k<=L.length->L.length-k<m->y3.length+8*(L.length-k)<=100000->
   AA5 F l (tl g) (L.map (zS j)) (j:Int) m y3 (k:Int)=some (y3++(L.drop k).flatMap (nxt g l j))
 |0,k,_,_,h,_=>by omega
 |m+1,k,y3,hk,hm,hn=>by
  have h8:=ADd h j;unfold AA5;by_cases hlt:k<L.length
  ·rw[if_pos (by simpa using hlt)]
   have:=AQW (F:=F) h (g:=g) hj (y1:=L.map (zS j)) (y4:=k) (f:=L[k]) (by simpa using hlt) (by simp) (hf _ (List.getElem_mem hlt)) F 0 y3 (by omega) (by omega) (by omega);rw[show((0:Nat):Int)=0 from rfl,Nat.sub_zero,<-List.range_eq_range']at this;rw[this];simp only[CJ,AP];have e8:=ARz h g j L[k];have:y3++((List.range (ln l j)).filter (cnd g l j L[k])).map (fun i=>zS (j+1) (upd L[k] j i))=y3++nxt g l j L[k]:=rfl;rw[this,G5 (by omega),ATY hF h hj hf hL m (k+1) _ (by omega) (by omega) (by rw[List.length_append];omega),List.drop_eq_getElem_cons hlt,List.flatMap_cons,List.append_assoc]
  ·rw[if_neg (by simpa using hlt),List.drop_of_length_le (by omega)];simp
theorem AMJ(g:Tp)(l:List (List Int))(j:Nat):∀(L:List Tp),((L.filter (mt g l j)).flatMap (nxt g l j))=((L.flatMap fun t=>(List.range (ln l j)).map (upd t j)).filter (mt g l (j+1))).map (zS (j+1))
 |[]=>rfl
 |f::L=>by
  rw[List.flatMap_cons,List.filter_append,List.map_append,<-AMJ g l j L,List.filter_cons];have e:(((List.range (ln l j)).map (upd f j)).filter (mt g l (j+1))).map (zS (j+1))=if mt g l j f=true then nxt g l j f else[]:=by
   rw[List.filter_map];have:(mt g l (j+1))∘(upd f j)=fun i=>mt g l j f&&cnd g l j f i:=by funext i;exact ATX g l j f i
   rw[this];cases hm:mt g l j f with
   |true=>simp[nxt]
   |false=>simp
  rw[e];cases hm:mt g l j f with
  |true=>rw[if_pos rfl,if_pos rfl,List.flatMap_cons]
  |false=>rw[if_neg (by simp),if_neg (by simp)];rfl
theorem ATZ{F:Nat}(hF:100000<F){l:List (List Int)}(h:VL l){g:Tp}:∀(m j:Nat),j<=l.length->l.length-j<m->
  AAY F l (tl g) m (((AAT l j).filter (mt g l j)).map (zS j)) (j:Int)=some (((AAT l l.length).filter (mt g l l.length)).map (zS l.length))
 |0,k,_,h=>by omega
 |m+1,j,hk,hm=>by
  have h4:=h.four;unfold AAY;by_cases hlt:j<l.length
  ·have hn:((AAT l j).filter (mt g l j)).length<=4096:=by
    refine Nat.le_trans (List.length_filter_le ..) ?_;have:=AIy (ADd h) j;have h2:8^j<=8^4:=Nat.pow_le_pow_right (by omega) (by omega);have:(8:Nat)^4=4096:=rfl;omega
   rw[if_pos (by simpa using hlt)];have:=ATY (F:=F) (by omega) h (g:=g) (L:=(AAT l j).filter (mt g l j)) hlt (fun f hf=>(ABD _ f (List.mem_filter.1 hf).1).1) (by omega) F 0 [] (by omega) (by omega) (by simp;omega);rw[show((0:Nat):Int)=0 from rfl,List.drop_zero,List.nil_append]at this;rw[this];simp only[CJ,AP];rw[G5 (by omega),AMJ];exact ATZ hF h m (j+1) (by omega) (by omega)
  ·rw[if_neg (by simpa using hlt),show j=l.length by omega]
theorem AMK{F:Nat}(hF:100000<F){x:Bk}{l:List (List Int)}(hv:VB x)(h:VL l){g:Tp}(hg:∀i j,i<101->j<101->(g i=g j↔Con (Ed x) i j)):AC8 F x l=some ((Mt g l).map (zS l.length)):=by
 obtain⟨g',h1,h2⟩:=ARx (F:=F) (by omega) hv;unfold AC8;rw[show(⟨x.v⟩:Bk)=x from rfl,h1];simp only[CJ,AP];have:=ATZ hF h (g:=g') F 0 (by omega) (by have:=h.four;omega);rw[show AAY F l (tl g') F [([]:List Int)] 0=_ from this];simp only[AP]
 congr 2
 exact List.filter_congr fun f hf=>ANo (fun i j hi hj=>(h2 i j hi hj).trans (hg i j hi hj).symm) h (ABD _ f hf).1 _ (Nat.le_refl _)
def xg(k:Nat)(f f':Tp):Bool:=(List.range k).all fun h=>decide (f h<f' h)
theorem xq{k:Nat}{f f':Tp}:xg k f f'=true↔∀h,h<k->f h<f' h:=by
 unfold xg;simp
theorem AJX{k:Nat}{f g h:Tp}(a:xg k f g=true)(b:xg k g h=true):xg k f h=true:=by
 rw[xq]at*
 intro i hi;have:=a i hi;have:=b i hi;omega
theorem AR0{F:Nat}(hF:1000<F){k:Nat}(hk:k<=1000)(f f':Tp):ABn F (zS k f) (zS k f')=some (xg k f f'):=by
 have key:∀(m i:Nat),i<=k->k-i<m->(∀h,h<i->f h<f' h)->zn F (zS k f) (zS k f') m (i:Int)=some (if xg k f f'=true then .inr ()else .inl false):=by
  intro m
  induction m with
  |zero=>intro i _ h;omega
  |succ m ih=>
   intro i hi hm hb;unfold zn;rw[AFj];by_cases hlt:i<k
   ·rw[if_pos (by simpa using hlt),AK0 hlt,AK0 hlt]
    simp only[CJ,AP];by_cases e:f i<f' i
    ·rw[if_neg (by simp;omega),G5 (by omega),ih (i+1) (by omega) (by omega) fun h hh=>by
      by_cases e':h=i
      ·subst e';exact e
      ·exact hb h (by omega)]
    ·rw[if_pos (by simp;omega),if_neg (fun h=>e (xq.1 h i hlt))]
   ·rw[if_neg (by simpa using hlt),if_pos (xq.2 fun h hh=>hb h (by omega))]
 unfold ABn;have:=key F 0 (by omega) (by omega) (fun h hh=>by omega);rw[show((0:Nat):Int)=0 from rfl]at this;rw[this];cases xg k f f'<;>rfl
theorem AG3{F:Nat}(hF:1000<F){d:Ob ((Uno (List (Ar 2 Int)))×(Ar 101 Int))}{l:List (List Int)}{acc:List Pl}(hk:l.length<=4)(f f':Tp):Kz F (d,l,acc) (pl f) (pl f')=some (xg l.length f f'):=by
 have key:∀(m i:Nat),i<=l.length->l.length-i<m->(∀h,h<i->f h<f' h)->xU F (d,l,acc) (pl f) (pl f') m (i:Int)=some (if xg l.length f f'=true then .inr ()else .inl false):=by
  intro m
  induction m with
  |zero=>intro i _ h;omega
  |succ m ih=>
   intro i hi hm hb;unfold xU;by_cases hlt:i<l.length
   ·rw[if_pos (by simpa using hlt),ADc (by omega),ADc (by omega)]
    simp only[CJ,AP];by_cases e:f i<f' i
    ·rw[if_neg (by simp;omega),G5 (by omega),ih (i+1) (by omega) (by omega) fun h hh=>by
      by_cases e':h=i
      ·subst e';exact e
      ·exact hb h (by omega)]
    ·rw[if_pos (by simp;omega),if_neg (fun h=>e (xq.1 h i hlt))]
   ·rw[if_neg (by simpa using hlt),if_pos (xq.2 fun h hh=>hb h (by omega))]
 unfold Kz;have:=key F 0 (by omega) (by omega) (fun h hh=>by omega);rw[show((0:Nat):Int)=0 from rfl]at this;rw[this];cases xg l.length f f'<;>rfl
theorem AB2{g:Tp}{l:List (List Int)}{f:Tp}(h:f∈Mt g l):(∀i,i<l.length->f i<ln l i)/\(∀i,l.length<=i->f i=0)/\mt g l l.length f=true:=by
 obtain⟨a,b⟩:=List.mem_filter.1 h;exact⟨(ABD _ f a).1,(ABD _ f a).2,b⟩
theorem ATa{g:Tp}{l:List (List Int)}(h:VL l):(Mt g l).Pairwise fun a b=>a 0<=b 0:=by
 have h2:=h.two;unfold Mt;obtain⟨k,e⟩:∃k,l.length=k+1:=⟨l.length-1,by omega⟩;have:=AJV (l:=l) k;rw[<-e]at this;exact this.sublist List.filter_sublist
section
theorem APH{l:List (List Int)}:∀(j:Nat)(f:Tp),(∀i,i<j->f i<ln l i)->(∀i,j<=i->f i=0)->f∈AAT l j
 |0,f,_,h=>by rw[AAT,List.mem_singleton];funext i;exact h i (by omega)
 |j+1,f,h,h0=>by
  rw[AAT,List.mem_flatMap];refine⟨upd f j 0,APH j _ (fun i hi=>?_) (fun i hi=>?_),List.mem_map.2 ⟨f j,List.mem_range.2 (h j (by omega)),?_⟩⟩
  ·unfold upd;rw[if_neg (by omega)];exact h i (by omega)
  ·unfold upd;by_cases e:i=j
   ·rw[if_pos e]
   ·rw[if_neg e];exact h0 i (by omega)
  ·rw[AFi,ABw rfl]
theorem ARH{g:Tp}{l:List (List Int)}{f:Tp}(h:∀i,i<l.length->f i<ln l i)(h0:∀i,l.length<=i->f i=0)(hm:mt g l l.length f=true):f∈Mt g l:=
 List.mem_filter.2 ⟨APH _ f h h0,hm⟩
section
variable {g:Tp}{l:List (List Int)}
def Chn(g:Tp)(l:List (List Int))(c:List Tp)(u:Tp):Prop:=c.Pairwise (fun a b=>xg l.length a b=true)/\∀f∈c,f∈Mt g l/\xg l.length f u=true
def Mx(g:Tp)(l:List (List Int))(u:Tp)(n:Nat):Prop:=(∃c,Chn g l c u/\c.length=n)/\∀c,Chn g l c u->c.length<=n
theorem Chn.mono{u v:Tp}{c:List Tp}(h:Chn g l c u)(huv:∀f,xg l.length f u=true->xg l.length f v=true):Chn g l c v:=⟨h.1,fun f hf=>⟨(h.2 f hf).1,huv f (h.2 f hf).2⟩⟩
theorem Mx.zero{u:Tp}{h:Nat}(hh:h<l.length)(h0:u h=0):Mx g l u 0:=by
 refine⟨⟨[],⟨List.Pairwise.nil,fun f hf=>by cases hf⟩,rfl⟩,fun c hc=>?_⟩;cases c with
 |nil=>exact Nat.le_refl _
 |cons f c=>
  have:=xq.1 (hc.2 f (List.mem_cons_self ..)).2 h hh;omega
theorem ADu{α:Type}(c:List α):c=[]\/∃d x,c=d++[x]:=by
 rcases List.eq_nil_or_concat c with h|⟨d,x,h⟩
 ·exact .inl h
 ·exact .inr ⟨d,x,by simpa using h⟩
theorem Chn.snoc{c:List Tp}{x u:Tp}(h:Chn g l (c++[x]) u):Chn g l c x/\x∈Mt g l/\xg l.length x u=true:=by
 obtain⟨h1,h2⟩:=h;rw[List.pairwise_append]at h1;refine⟨⟨h1.1,fun f hf=>⟨(h2 f (by simp[hf])).1,h1.2.2 f hf x (by simp)⟩⟩,h2 x (by simp)⟩
theorem Chn.add{c:List Tp}{x u:Tp}(h:Chn g l c x)(hx:x∈Mt g l)(hu:xg l.length x u=true):Chn g l (c++[x]) u:=by
 refine⟨List.pairwise_append.2 ⟨h.1,List.pairwise_singleton ..,fun f hf y hy=>?_⟩,fun f hf=>?_⟩
 ·rw[List.mem_singleton]at hy;subst hy;exact(h.2 f hf).2
 ·rcases List.mem_append.1 hf with hf|hf
  ·exact⟨(h.2 f hf).1,AJX (h.2 f hf).2 hu⟩
  ·rw[List.mem_singleton]at hf;subst hf;exact⟨hx,hu⟩
def dec(j:Nat)(u:Tp):Tp:=fun i=>if i<j then u i-1 else u i
theorem Mx.hit{u:Tp}{n:Nat}(hp:∀h,h<l.length->0<u h)(hv:dec l.length u∈Mt g l)(h:Mx g l (dec l.length u) n):Mx g l u (n+1):=by
 have hvu:xg l.length (dec l.length u) u=true:=xq.2 fun h hh=>by unfold dec;rw[if_pos hh];have:=hp h hh;omega
 refine⟨?_,fun c hc=>?_⟩
 ·obtain⟨⟨c,c1,c2⟩,_⟩:=h
  exact⟨c++[dec l.length u],c1.add hv hvu,by simp[c2]⟩
 ·rcases ADu c with rfl|⟨d,x,rfl⟩
  ·simp
  ·obtain⟨a,b,e⟩:=hc.snoc
   have:=h.2 d (a.mono fun f hf=>xq.2 fun i hi=>by
    have a1:=xq.1 hf i hi;have a2:=xq.1 e i hi;unfold dec;rw[if_pos hi];omega)
   simp;omega
theorem Mx.miss{u:Tp}{n:Nat}(hp:∀h,h<l.length->0<u h)(h0:∀i,l.length<=i->u i=0)(hv:dec l.length u∉Mt g l)(h2:0<l.length)
  (hx:∃h,h<l.length/\Mx g l (upd u h (u h-1)) n) (hle:∀h,h<l.length->∃m,Mx g l (upd u h (u h-1)) m/\m<=n):Mx g l u n:=by
 refine⟨?_,fun c hc=>?_⟩
 ·obtain⟨h,hh,⟨c,c1,c2⟩,_⟩:=hx
  exact⟨c,c1.mono fun f hf=>xq.2 fun i hi=>by
   have:=xq.1 hf i hi;unfold upd at this;by_cases e:i=h
   ·rw[if_pos e]at this;subst e;omega
   ·rw[if_neg e]at this;exact this,c2⟩
 ·rcases ADu c with rfl|⟨d,x,rfl⟩
  ·simp
  ·obtain⟨a,b,e⟩:=hc.snoc
   have:∃h,h<l.length/\x h<u h-1:=by
    refine Classical.byContradiction fun hno=>hv ?_;have:dec l.length u=x:=by
     funext i
     unfold dec;by_cases hi:i<l.length
     ·rw[if_pos hi]
      have a2:=xq.1 e i hi;have a3:¬x i<u i-1:=fun hh=>hno ⟨i,hi,hh⟩;omega
     ·rw[if_neg hi,h0 i (by omega),(AB2 b).2.1 i (by omega)]
    rw[this];exact b
   obtain⟨h,hh,hlt⟩:=this;obtain⟨m,hm,hmn⟩:=hle h hh;have hxu:xg l.length x (upd u h (u h-1))=true:=xq.2 fun i hi=>by
    unfold upd;by_cases ei:i=h
    ·rw[if_pos ei];subst ei;exact hlt
    ·rw[if_neg ei];exact xq.1 e i hi
   have:=hm.2 _ (a.add b hxu);omega
end
theorem mput_mem{κ ν:Type}[DecidableEq κ]{k:κ}{v:ν}{p:κ×ν}:∀{m:List (κ×ν)},p∈Le m k v->p=(k,v)\/p∈m
 |[],h=>by rw[Le,List.mem_singleton]at h;exact .inl h
 |(a,b)::m,h=>by
  unfold Le at h;by_cases e:a=k
  ·rw[if_pos e]at h
   rcases List.mem_cons.1 h with h|h
   ·exact .inl h
   ·exact .inr (List.mem_cons_of_mem _ h)
  ·rw[if_neg e]at h
   rcases List.mem_cons.1 h with h|h
   ·exact .inr (by rw[h];exact List.mem_cons_self ..)
   ·exact(mput_mem h).imp id (List.mem_cons_of_mem _)
theorem AK2{κ ν:Type}[DecidableEq κ]{d:ν}{k:κ}:∀{m:List (κ×ν)},AEh m k=true->(k,IL d m k)∈m
 |[],h=>by cases h
 |(a,b)::m,h=>by
  unfold AEh at h;unfold IL;by_cases e:a=k
  ·rw[if_pos e];subst e;exact List.mem_cons_self ..
  ·rw[if_neg e]at h⊢
   exact List.mem_cons_of_mem _ (AK2 h)
theorem APJ{k:Nat}(hk:k<=4){f f':Tp}(h:pl f=pl f')(h0:∀i,k<=i->f i=0)(h1:∀i,k<=i->f' i=0):f=f':=by
 funext i
 by_cases hi:i<4
 ·have a:=ADc (f:=f) hi
  have b:=ADc (f:=f') hi;rw[h,b]at a;simp only[Option.some.injEq]at a;omega
 ·rw[h0 i (by omega),h1 i (by omega)]
def Memo(g:Tp)(l:List (List Int))(m:List (Pl×Int)):Prop:=∀p∈m,∃w n,p.1=pl w/\(∀i,l.length<=i->w i=0)/\p.2=((n:Nat):Int)/\Mx g l w n
theorem Memo.nil{g:Tp}{l:List (List Int)}:Memo g l []:=fun p hp=>by cases hp
theorem ATb{f:Tp}(h:∀i,f i<1000):kok (pl f)=some ():=by
 unfold kok;rw[if_pos];show((pl f).l.all fun n=>(Lit.int .i64 n).wf)=true;refine List.all_eq_true.2 fun n hn=>?_;simp only[pl,List.mem_map]at hn;obtain⟨i,_,rfl⟩:=hn;have:=h i;have h1:IntKind.i64.min=-9223372036854775808:=rfl;have h2:IntKind.i64.max=9223372036854775807:=rfl;simp[Lit.wf,h1,h2];omega
theorem Chn.len{g:Tp}{l:List (List Int)}(h:0<l.length):∀(n:Nat)(c:List Tp)(u:Tp),c.length=n->Chn g l c u->n<=u 0
 |0,_,_,_,_=>Nat.zero_le _
 |n+1,c,u,e,hc=>by
  rcases ADu c with rfl|⟨d,x,rfl⟩
  ·cases e
  ·obtain⟨a,b,hu⟩:=hc.snoc
   have:=Chn.len h n d x (by simpa using e) a;have:=xq.1 hu 0 h;omega
theorem Mx.le{g:Tp}{l:List (List Int)}(h:0<l.length){u:Tp}{n:Nat}(hm:Mx g l u n):n<=u 0:=by
 obtain⟨⟨c,c1,c2⟩,_⟩:=hm;exact Chn.len h n c u c2 c1
abbrev Sg0:=(Ob ((Uno (List (Ar 2 Int)))×(Ar 101 Int)))×(List (List Int))×(List (Ar 4 Int))
theorem ATc{u:Tp}{j:Nat}:upd (dec j u) j (u j-1)=dec (j+1) u:=by
 funext i
 unfold upd dec;by_cases e:i=j
 ·subst e;simp
 ·rw[if_neg e]
  by_cases hi:i<j
  ·rw[if_pos hi,if_pos (by omega)]
  ·rw[if_neg hi,if_neg (by omega)]
theorem wl1{F:Nat}{d:Ob ((Uno (List (Ar 2 Int)))×(Ar 101 Int))}{l:List (List Int)}{acc:List Pl}(h4:l.length<=4){u:Tp}{mm:List (Pl×Int)}(hu:∀i,u i<1000):∀(m j:Nat),j<=l.length->l.length-j<m->
  ((∀i,j<=i->i<l.length->0<u i)->wI F (d,l,acc) (pl u) mm m (j:Int) (pl (dec j u))=some (.inr (pl (dec l.length u))))/\
  ((∃i,j<=i/\i<l.length/\u i=0)->wI F (d,l,acc) (pl u) mm m (j:Int) (pl (dec j u))=some (.inl (0,mm)))
 |0,j,_,h=>by omega
 |m+1,j,hj,hm=>by
  unfold wI;by_cases hlt:j<l.length
  ·have hd:dec j u j=u j:=by unfold dec;rw[if_neg (by omega)]
   have huj:=hu j;rw[if_pos (by simpa using hlt),ADc (by omega)];simp only[CJ,AP];by_cases e:u j=0
   ·rw[if_pos (by simpa using e)]
    exact⟨fun h=>by have:=h j (Nat.le_refl _) hlt;omega,fun _=>rfl⟩
   ·rw[if_neg (by simpa using e),ADc (by omega),hd]
    simp only[AP];rw[show BA ((u j:Int)-1)=((u j-1:Nat):Int) by rw[Gj (by omega)];omega,AIU (by omega),ATc,G5 (by omega)];have:=wl1 (F:=F) (d:=d) (acc:=acc) (mm:=mm) h4 hu m (j+1) (by omega) (by omega);refine⟨fun h=>this.1 fun i hi=>h i (by omega),fun⟨i,h1,h2,h3⟩=>this.2 ⟨i,?_,h2,h3⟩⟩;by_cases ei:i=j
    ·subst ei;exact absurd h3 e
    ·omega
  ·rw[if_neg (by simpa using hlt),show j=l.length by omega]
   exact⟨fun _=>rfl,fun⟨i,h1,h2,_⟩=>by omega⟩
def Okp(l:List (List Int))(u:Tp):Prop:=(∀i,i<l.length->u i<=ln l i)/\∀i,l.length<=i->u i=0
def sm(u:Tp):Nat:=u 0+u 1+u 2+u 3
theorem Okp.lt{l:List (List Int)}(h:VL l){u:Tp}(hu:Okp l u)(i:Nat):u i<1000:=by
 by_cases hi:i<l.length
 ·have:=hu.1 i hi;have:=ADd h i;omega
 ·rw[hu.2 i (by omega)];omega
theorem ATd{u:Tp}{i:Nat}(hi:i<4)(h:0<u i):sm (upd u i (u i-1))<sm u:=by
 rcases(by omega:i=0\/i=1\/i=2\/i=3)with rfl|rfl|rfl|rfl<;>simp[sm,upd]<;>omega
theorem ATe{u:Tp}{j:Nat}(hj:0<j)(h:0<u 0):sm (dec j u)<sm u:=by
 have h0:dec j u 0=u 0-1:=by unfold dec;rw[if_pos hj]
 have hd:∀i,dec j u i<=u i:=fun i=>by unfold dec;split<;>omega
 have:=hd 1;have:=hd 2;have:=hd 3;unfold sm;omega
def Got(g:Tp)(l:List (List Int))(u:Tp)(r:Option (Int×List (Pl×Int))):Prop:=∃n m',r=some (((n:Nat):Int),m')/\Mx g l u n/\Memo g l m'
theorem wl2{F:Nat}{rc:Sg0->Pl->List (Pl×Int)->Option (Int×List (Pl×Int))}{d:Ob ((Uno (List (Ar 2 Int)))×(Ar 101 Int))}{l:List (List Int)}{acc:List Pl}{g:Tp}(h:VL l){u:Tp}(hu:Okp l u)(hp:∀i,i<l.length->0<u i)
  (hrc:∀i,i<l.length->∀m,Memo g l m->Got g l (upd u i (u i-1)) (rc (d,l,acc) (pl (upd u i (u i-1))) m)):∀(m j a:Nat)(mm:List (Pl×Int)),j<=l.length->l.length-j<m->Memo g l mm->
  (∀i,i<j->∃q,Mx g l (upd u i (u i-1)) q/\q<=a)->((j=0/\a=0)\/∃i,i<j/\Mx g l (upd u i (u i-1)) a)->
  ∃n m',xW F rc (d,l,acc) (pl u) m (a:Int) (j:Int) mm=some (((n:Nat):Int),m')/\Memo g l m'/\(∀i,i<l.length->∃q,Mx g l (upd u i (u i-1)) q/\q<=n)/\∃i,i<l.length/\Mx g l (upd u i (u i-1)) n
 |0,j,_,_,_,h,_,_,_=>by omega
 |m+1,j,a,mm,hj,hm,hmm,ha,hx=>by
  have h4:=h.four;have h2:=h.two;unfold xW;by_cases hlt:j<l.length
  ·have huj:=hu.lt h j
   have hpj:=hp j hlt;rw[if_pos (by simpa using hlt),ADc (by omega)];simp only[CJ,AP];rw[show BA ((u j:Int)-1)=((u j-1:Nat):Int) by rw[Gj (by omega)];omega,AIU (by omega)];obtain⟨n,m',e1,e2,e3⟩:=hrc j hlt mm hmm;rw[e1];simp only[AP,zL];by_cases c:n<a
   ·rw[if_pos (by simpa using c)]
    simp only[AP];rw[G5 (by omega)];refine wl2 h hu hp hrc m (j+1) a m' (by omega) (by omega) e3 (fun i hi=>?_) (.inr ?_)
    ·by_cases ei:i=j
     ·subst ei;exact⟨n,e2,by omega⟩
     ·exact ha i (by omega)
    ·rcases hx with⟨_,e⟩|⟨i,hi,e⟩
     ·omega
     ·exact⟨i,by omega,e⟩
   ·rw[if_neg (by simpa using c)]
    simp only[AP];rw[G5 (by omega)];refine wl2 h hu hp hrc m (j+1) n m' (by omega) (by omega) e3 (fun i hi=>?_) (.inr ⟨j,by omega,e2⟩);by_cases ei:i=j
    ·subst ei;exact⟨n,e2,by omega⟩
    ·obtain⟨q,hq,hqa⟩:=ha i (by omega);exact⟨q,hq,by omega⟩
  ·have:j=l.length:=by omega
   subst this;rw[if_neg (by simp)];refine⟨a,mm,rfl,hmm,ha,?_⟩;rcases hx with⟨e,_⟩|e
   ·omega
   ·exact e
theorem AHe{F:Nat}(hF:1000<F){x:Bk}{l:List (List Int)}{acc:List Pl}{g:Tp}{c:Cls}(h:VL l)(hc:c.l=tl g):∀(mr:Nat)(u:Tp)(m:List (Pl×Int)),Okp l u->sm u<mr->Memo g l m->
  Got g l u (vG F mr ((⟨some (x,c)⟩:Ob ((Uno (List (Ar 2 Int)))×(Ar 101 Int))),l,acc) (pl u) m)
 |0,u,_,_,h,_=>by omega
 |mr+1,u,m,hu,hs,hm=>by
  have h4:=h.four;have h2:=h.two;have hlt:=hu.lt h;unfold vG;by_cases h0:pl u=Ar.fill 4 0
  ·rw[if_pos (by simpa using h0)]
   have:u=fun _=>0:=APJ h4 (h0.trans AMI.symm) hu.2 (fun _ _=>rfl);exact⟨0,m,rfl,Mx.zero (h:=0) (by omega) (by rw[this]),hm⟩
  rw[if_neg (by simpa using h0),ATb hlt];simp only[CJ,AP];by_cases hh:AEh m (pl u)=true
  ·rw[if_pos hh]
   obtain⟨w,n,e1,e2,e3,e4⟩:=hm _ (AK2 (d:=(0:Int)) hh);have:u=w:=APJ h4 e1 hu.2 e2;subst this;exact⟨n,m,by rw[show IL 0 m (pl u)=(n:Int)from e3],e4,hm⟩
  rw[if_neg hh];have hl1:=wl1 (F:=F) (d:=⟨some (x,c)⟩) (acc:=acc) (mm:=m) h4 hlt F 0 (by omega) (by omega);have hd0:dec 0 u=u:=by funext i;unfold dec;rw[if_neg (by omega)]
  rw[hd0,show((0:Nat):Int)=0 from rfl]at hl1;by_cases hz:∃i,i<l.length/\u i=0
  ·obtain⟨i,hi,hi0⟩:=hz
   rw[hl1.2 ⟨i,by omega,hi,hi0⟩];exact⟨0,m,rfl,Mx.zero hi hi0,hm⟩
  have hp:∀i,i<l.length->0<u i:=fun i hi=>by
   by_cases e:u i=0
   ·exact absurd ⟨i,hi,e⟩ hz
   ·omega
  rw[hl1.1 fun i _ hi=>hp i hi];simp only[AP];have hdl:∀i,i<l.length->dec l.length u i<ln l i:=fun i hi=>by
   have:=hp i hi;have:=hu.1 i hi;unfold dec;rw[if_pos hi];omega
  have hdz:∀i,l.length<=i->dec l.length u i=0:=fun i hi=>by unfold dec;rw[if_neg (by omega)];exact hu.2 i hi
  rw[AIV hF h hc hdl];simp only[AP];have put:∀(n:Nat)(m':List (Pl×Int)),Mx g l u n->Memo g l m'->Memo g l (Le m' (pl u) (n:Int)):=fun n m' hn hm' p hpm=>by
   rcases mput_mem hpm with rfl|hpm
   ·exact⟨u,n,rfl,hu.2,rfl,hn⟩
   ·exact hm' p hpm
  cases hmt:mt g l l.length (dec l.length u)with
  |true=>
   rw[if_pos rfl];obtain⟨n,m',e1,e2,e3⟩:=AHe hF h hc (acc:=acc) mr (dec l.length u) m ⟨fun i hi=>by have:=hdl i hi;omega,hdz⟩ (by have:=ATe (u:=u) (j:=l.length) (by omega) (hp 0 (by omega));omega) hm;have hn:=e2.le (by omega);have:=hu.lt h 0;have hd0:dec l.length u 0<=u 0:=by unfold dec;split<;>omega
   rw[e1];simp only[AP];have hx:=Mx.hit hp (ARH hdl hdz hmt) e2;rw[show BA (1+(n:Int))=((n+1:Nat):Int) by rw[Gj (by omega)];omega];exact⟨n+1,_,rfl,hx,put _ _ hx e3⟩
  |false=>
   rw[if_neg (by simp)];obtain⟨n,m',e1,e2,e3,e4⟩:=wl2 (F:=F) (rc:=vG F mr) (d:=⟨some (x,c)⟩) (acc:=acc) (g:=g) h hu hp (fun i hi m hm=>AHe hF h hc (acc:=acc) mr _ m
    ⟨fun n hn=>by
     unfold upd;by_cases e:n=i
     ·rw[if_pos e];subst e;have:=hu.1 n hn;omega
     ·rw[if_neg e];exact hu.1 n hn,fun n hn=>by
     unfold upd;rw[if_neg (by omega)];exact hu.2 n hn⟩ (by have:=ATd (u:=u) (i:=i) (by omega) (hp i hi);omega) hm) F 0 0 m (by omega) (by omega) hm (fun i hi=>by omega) (.inl ⟨rfl,rfl⟩)
   rw[show((0:Nat):Int)=0 from rfl]at e1;rw[e1];simp only[AP];have hx:=Mx.miss hp hu.2 (fun hh=>by rw[(AB2 hh).2.2]at hmt;cases hmt) (by omega) e4 e3;exact⟨n,_,rfl,hx,put _ _ hx e2⟩
def Lv(g:Tp)(l:List (List Int))(L:List Tp)(v:List Int):Prop:=v.length=L.length/\∀(i:Nat)(f:Tp),L[i]?=some f->∃n:Nat,v[i]?=some ((n:Int)+1)/\Mx g l f n
theorem AIW{g:Tp}{l:List (List Int)}(h:VL l):(Mt g l).length<=4096:=Nat.le_trans (List.length_filter_le ..) (AF6 h)
theorem APK{F:Nat}(hF:100000<F){x:Bk}{l:List (List Int)}{g:Tp}{c:Cls}(h:VL l)(hc:c.l=tl g):∃v,kE F ((⟨some (x,c)⟩:Ob ((Uno (List (Ar 2 Int)))×(Ar 101 Int))),l,(Mt g l).map pl)=some v/\Lv g l (Mt g l) v:=by
 have h2:=h.two;have h4:=h.four;have hn:=AIW (g:=g) h;have key:∀(m k:Nat)(v:List Int)(mm:List (Pl×Int)),k<=(Mt g l).length->(Mt g l).length-k<m->Memo g l mm->Lv g l ((Mt g l).take k) v->
   ∃v' mm',xX F ((⟨some (x,c)⟩:Ob ((Uno (List (Ar 2 Int)))×(Ar 101 Int))),l,(Mt g l).map pl) m v (k:Int) mm=some (v',mm')/\Lv g l (Mt g l) v':=by
  intro m
  induction m with
  |zero=>intro k _ _ _ h;omega
  |succ m ih=>
   intro k v mm hk hm hmm hv;unfold xX;by_cases hlt:k<(Mt g l).length
   ·have hf:=AB2 (List.getElem_mem hlt)
    have hok:Okp l (Mt g l)[k]:=⟨fun i hi=>by have:=hf.1 i hi;omega,hf.2.1⟩;rw[if_pos (by simpa using hlt),NG (by simpa using hlt),List.getElem_map];simp only[CJ,AP];have hs:sm (Mt g l)[k]<F:=by
     have a:=hok.lt h 0;have b:=hok.lt h 1;have c:=hok.lt h 2;have d:=hok.lt h 3;unfold sm;omega
    obtain⟨n,m',e1,e2,e3⟩:=AHe (F:=F) (by omega) (x:=x) (acc:=(Mt g l).map pl) h hc F _ mm hok hs hmm;rw[show ACx F ((⟨some (x,c)⟩:Ob ((Uno (List (Ar 2 Int)))×(Ar 101 Int))),l,(Mt g l).map pl) (pl (Mt g l)[k]) mm=some ((n:Int),m')from e1];have hvl:=hv.1;rw[List.length_take,Nat.min_eq_left (by omega)]at hvl;have hnn:=e2.le (by omega);have:=hok.lt h 0;simp only[AP];rw[yJ (by simp;omega)];simp only[AP];rw[G5 (by omega),show BA (1+(n:Int))=(n:Int)+1 by rw[Gj (by omega)];omega];refine ih (k+1) _ m' (by omega) (by omega) e3 ⟨by simp;omega,fun i f hif=>?_⟩;rw[List.getElem?_take]at hif;by_cases hi:i<k
    ·obtain⟨q,q1,q2⟩:=hv.2 i f (by rw[List.getElem?_take,if_pos hi];rw[if_pos (by omega)]at hif;exact hif)
     exact⟨q,by rw[List.getElem?_append_left (by omega)];exact q1,q2⟩
    ·by_cases hi':i<k+1
     ·have:i=k:=by omega
      subst this;rw[if_pos hi',List.getElem?_eq_getElem hlt]at hif;cases hif;exact⟨n,by rw[List.getElem?_append_right (by omega),hvl];simp,e2⟩
     ·rw[if_neg hi']at hif;cases hif
   ·have:k=(Mt g l).length:=by omega
    subst this;rw[if_neg (by simp)];rw[List.take_length]at hv;exact⟨v,mm,rfl,hv⟩
 obtain⟨v,mm,e,hv⟩:=key F 0 [] [] (by omega) (by omega) Memo.nil ⟨by simp,fun i f hif=>by simp at hif⟩;refine⟨v,?_,hv⟩;unfold kE;rw[show((0:Nat):Int)=0 from rfl]at e;rw[e];rfl
end
section
def Uc(b:Nat->Nat)(c:Nat->Nat->Bool)(i:Nat):Nat:=
 b i+((List.range i).attach.map fun j=>if c j.1 i=true then Uc b c j.1 else 0).sum
termination_by i
decreasing_by exact List.mem_range.1 j.2
def Dc(n:Nat)(b:Nat->Nat)(c:Nat->Nat->Bool)(i:Nat):Nat:=
 b i+((List.range' (i+1) (n-1-i)).attach.map fun j=>if c i j.1=true then Dc n b c j.1 else 0).sum
termination_by n-i
decreasing_by have:=List.mem_range'_1.1 j.2;omega
theorem ARI(b:Nat->Nat)(c:Nat->Nat->Bool)(i:Nat):Uc b c i=b i+((List.range i).map fun j=>if c j i=true then Uc b c j else 0).sum:=by
 rw[Uc]
 congr 2
 exact List.attach_map_val (f:=fun j=>if c j i=true then Uc b c j else 0)
theorem AIX(n:Nat)(b:Nat->Nat)(c:Nat->Nat->Bool)(i:Nat):Dc n b c i=b i+((List.range' (i+1) (n-1-i)).map fun j=>if c i j=true then Dc n b c j else 0).sum:=by
 rw[Dc]
 congr 2
 exact List.attach_map_val (f:=fun j=>if c i j=true then Dc n b c j else 0)
theorem AML:∀i,((List.range i).map fun j=>2^j).sum+1=2^i
 |0=>rfl
 |i+1=>by rw[List.range_succ,List.map_append,List.sum_append];have:=AML i;simp;rw[Nat.pow_succ];omega
theorem AK4{f g:Nat->Nat}:∀(L:List Nat),(∀j∈L,f j<=g j)->(L.map f).sum<=(L.map g).sum
 |[],_=>Nat.le_refl _
 |a::L,h=>by
  have:=AK4 L fun j hj=>h j (List.mem_cons_of_mem _ hj);have:=h a (List.mem_cons_self ..);simp only[List.map_cons,List.sum_cons];omega
theorem AU6{b:Nat->Nat}{c:Nat->Nat->Bool}(hb:∀i,b i<=1):∀i,Uc b c i<=2^i:=by
 intro i
 induction i using Nat.strongRecOn with
 |ind i ih=>
  rw[ARI];have:=AK4 (f:=fun j=>if c j i=true then Uc b c j else 0) (g:=fun j=>2^j) (List.range i) fun j hj=>by
   have:=ih j (List.mem_range.1 hj);show(if c j i=true then Uc b c j else 0)<=_;split<;>omega
  have:=AML i;have:=hb i;omega
theorem AK5(n:Nat):∀(d i:Nat),i+d+1=n->((List.range' (i+1) d).map fun j=>2^(n-1-j)).sum+1=2^d
 |0,i,_=>rfl
 |d+1,i,h=>by
  rw[List.range'_succ,List.map_cons,List.sum_cons];have:=AK5 n d (i+1) (by omega);rw[show n-1-(i+1)=d by omega,Nat.pow_succ];omega
theorem AU7{n:Nat}{b:Nat->Nat}{c:Nat->Nat->Bool}(hb:∀i,b i<=1):∀(d i:Nat),i+d+1=n->Dc n b c i<=2^d:=by
 intro d
 induction d using Nat.strongRecOn with
 |ind d ih=>
  intro i hi;rw[AIX];have:=AK4 (f:=fun j=>if c i j=true then Dc n b c j else 0) (g:=fun j=>2^(n-1-j)) (List.range' (i+1) (n-1-i)) fun j hj=>by
   have hj:=List.mem_range'_1.1 hj;have:=ih (n-1-j) (by omega) j (by omega);show(if c i j=true then Dc n b c j else 0)<=_;split<;>omega
  have e:=AK5 n d i hi;rw[show n-1-i=d by omega]at*
  have:=hb i;omega
theorem AG4{f:Nat->Nat}:∀(L:List Nat),0<(L.map f).sum↔∃j∈L,0<f j
 |[]=>by simp
 |a::L=>by
  rw[List.map_cons,List.sum_cons];constructor
  ·intro h
   by_cases e:0<f a
   ·exact⟨a,List.mem_cons_self ..,e⟩
   ·obtain⟨j,hj,h⟩:=(AG4 (f:=f) L).1 (by omega);exact⟨j,List.mem_cons_of_mem _ hj,h⟩
  ·rintro⟨j,hj,h⟩
   rcases List.mem_cons.1 hj with rfl|hj
   ·omega
   ·have:=(AG4 (f:=f) L).2 ⟨j,hj,h⟩;omega
structure Dag(n:Nat)(lev:Nat->Nat)(B:Nat->Nat->Bool):Prop where
 lt:∀i j,i<n->j<n->B i j=true->i<j
 one:∀i,i<n->1<=lev i
 up:∀i j,i<n->j<n->B i j=true->lev i<lev j
 dn:∀i,i<n->2<=lev i->∃j,j<n/\B j i=true/\lev j+1=lev i
def ML(M:List Tp)(i:Nat):Tp:=M.getD i fun _=>0
def LV(v:List Int)(i:Nat):Nat:=(v.getD i 0).toNat
section
variable {g:Tp}{l:List (List Int)}{v:List Int}
theorem AAa{M:List Tp}{i:Nat}(h:i<M.length):ML M i=M[i]:=by simp[ML,h]
theorem Lv.get(hv:Lv g l (Mt g l) v){i:Nat}(hi:i<(Mt g l).length):1<=LV v i/\v[i]?=some ((LV v i:Nat):Int)/\Mx g l (ML (Mt g l) i) (LV v i-1):=by
 obtain⟨n,h1,h2⟩:=hv.2 i _ (List.getElem?_eq_getElem hi);have e:LV v i=n+1:=by unfold LV;rw[List.getD_eq_getElem?_getD,h1];simp
 rw[e,h1,AAa hi];exact⟨by omega,by congr 1,h2⟩
theorem APL(h:VL l){i j:Nat}(hi:i<(Mt g l).length)(hj:j<(Mt g l).length)(hb:xg l.length (ML (Mt g l) i) (ML (Mt g l) j)=true):i<j:=by
 have h2:=h.two;have h0:=xq.1 hb 0 (by omega);rw[AAa hi,AAa hj]at h0;refine Classical.byContradiction fun hno=>?_;by_cases e:i=j
 ·subst e;omega
 ·have:=List.pairwise_iff_getElem.1 (ATa (g:=g) h) j i hj hi (by omega)
  omega
theorem AK6(h:VL l)(hv:Lv g l (Mt g l) v):Dag (Mt g l).length (LV v) (fun i j=>xg l.length (ML (Mt g l) i) (ML (Mt g l) j)):=by
 have up:∀i j,i<(Mt g l).length->j<(Mt g l).length->xg l.length (ML (Mt g l) i) (ML (Mt g l) j)=true->LV v i<LV v j:=by
  intro i j hi hj hb;obtain⟨a1,_,⟨c,c1,c2⟩,_⟩:=hv.get hi;obtain⟨b1,_,b3⟩:=hv.get hj;have:=b3.2 _ (c1.add (by rw[AAa hi];exact List.getElem_mem hi) hb);rw[List.length_append]at this;simp at this;omega
 refine⟨fun i j hi hj hb=>APL h hi hj hb,fun i hi=>(hv.get hi).1,up,fun i hi h2=>?_⟩;obtain⟨a1,_,⟨c,c1,c2⟩,_⟩:=hv.get hi;rcases ADu c with rfl|⟨d,x,rfl⟩
 ·simp at c2;omega
 ·obtain⟨e1,e2,e3⟩:=c1.snoc
  obtain⟨j,hj,e⟩:=List.mem_iff_getElem.1 e2;have ex:ML (Mt g l) j=x:=by rw[AAa hj];exact e
  obtain⟨b1,_,b3⟩:=hv.get hj;rw[ex]at b3;have b4:=b3.2 d e1;have b5:=up j i hj hi (by rw[ex];exact e3);rw[List.length_append]at c2;simp at c2;exact⟨j,hj,by show xg l.length (ML (Mt g l) j) _=true;rw[ex];exact e3,by omega⟩
end
section
variable {n:Nat}{lev:Nat->Nat}{B:Nat->Nat->Bool}
def AAU(lev:Nat->Nat)(B:Nat->Nat->Bool)(i j:Nat):Bool:=decide (lev i+1=lev j)&&B i j
def ADe(top:Nat)(lev:Nat->Nat)(i:Nat):Nat:=if lev i=top then 1 else 0
theorem AMM(top:Nat)(lev:Nat->Nat)(i:Nat):ADe top lev i<=1:=by unfold ADe;split<;>omega
def Dw(n top:Nat)(lev:Nat->Nat)(B:Nat->Nat->Bool):Nat->Nat:=Dc n (ADe top lev) (AAU lev B)
def Uw(lev:Nat->Nat)(B:Nat->Nat->Bool):Nat->Nat:=Uc (ADe 1 lev) (AAU lev B)
theorem ATg{top i:Nat}(h:lev i=top):0<Dw n top lev B i:=by
 unfold Dw;rw[AIX];have:ADe top lev i=1:=by unfold ADe;rw[if_pos h]
 omega
theorem AR1(hd:Dag n lev B){top i j:Nat}(hi:i<n)(hj:j<n)(hc:AAU lev B i j=true)(h:0<Dw n top lev B j):0<Dw n top lev B i:=by
 unfold Dw at h⊢;rw[AIX];have hb:B i j=true:=by unfold AAU at hc;simp at hc;exact hc.2
 have:=hd.lt i j hi hj hb;have:=(AG4 (f:=fun j=>if AAU lev B i j=true then Dc n (ADe top lev) (AAU lev B) j else 0) (List.range' (i+1) (n-1-i))).2 ⟨j,List.mem_range'_1.2 (by omega),by
  show 0<if AAU lev B i j=true then _ else _
  rw[if_pos hc];exact h⟩
 omega
theorem AU8{top i:Nat}(h:0<Dw n top lev B i):lev i=top\/∃j,i<j/\j<n/\AAU lev B i j=true/\0<Dw n top lev B j:=by
 unfold Dw at h;rw[AIX]at h;by_cases e:lev i=top
 ·exact .inl e
 ·have:ADe top lev i=0:=by unfold ADe;rw[if_neg e]
  obtain⟨j,hj,hp⟩:=(AG4 (f:=fun j=>if AAU lev B i j=true then Dc n (ADe top lev) (AAU lev B) j else 0) (List.range' (i+1) (n-1-i))).1 (by omega);have hj:=List.mem_range'_1.1 hj;by_cases hc:AAU lev B i j=true
  ·simp only[if_pos hc]at hp;exact .inr ⟨j,by omega,by omega,hc,hp⟩
  ·simp only[if_neg hc]at hp;omega
theorem AK7(hd:Dag n lev B){top:Nat}:∀(q i:Nat),lev i=q+1->i<n->0<Dw n top lev B i->∃j,j<n/\lev j=1/\0<Dw n top lev B j
 |0,i,e,hi,h=>⟨i,hi,by omega,h⟩
 |q+1,i,e,hi,h=>by
  obtain⟨j,hj,hb,hl⟩:=hd.dn i hi (by omega);exact AK7 hd q j (by omega) hj (AR1 hd hj hi (by unfold AAU;simp[hl,hb]) h)
end
end
section
def TT(n:Nat)(p q:Nat->Nat):List (Int×Int):=(List.range n).map fun i=>(((p i:Nat):Int),((q i:Nat):Int))
theorem APM(n:Nat)(p q:Nat->Nat):(TT n p q).length=n:=by simp[TT]
theorem AF8{n:Nat}{p q:Nat->Nat}{i:Nat}(h:i<n):ix (TT n p q) (i:Int)=some (((p i:Nat):Int),((q i:Nat):Int)):=by
 rw[NG (by rw[APM];exact h)];simp[TT]
theorem AIY{n:Nat}{p q:Nat->Nat}{i a b:Nat}(h:i<n):vV (TT n p q) (i:Int) ((a:Int),(b:Int))=TT n (upd p i a) (upd q i b):=by
 rw[rset_nat];apply List.ext_getElem?;intro j;rw[List.getElem?_set,APM];unfold TT;by_cases hj:j<n
 ·by_cases e:i=j
  ·subst e;simp[h,upd]
  ·simp[hj,e,upd,Ne.symm e]
 ·rw[if_neg (by omega)];simp[hj]
theorem AG5{n:Nat}{p q p' q':Nat->Nat}(h:∀i,i<n->p i=p' i/\q i=q' i):TT n p q=TT n p' q':=by
 unfold TT;exact List.map_congr_left fun i hi=>by have:=h i (List.mem_range.1 hi);rw[this.1,this.2]
section
variable {F:Nat}{d:Ob ((Uno (List (Ar 2 Int)))×(Ar 101 Int))}{l:List (List Int)}{g:Tp}{v:List Int}
abbrev yx(d:Ob ((Uno (List (Ar 2 Int)))×(Ar 101 Int)))(g:Tp)(l:List (List Int)):Sg0:=(d,l,(Mt g l).map pl)
abbrev Bf(g:Tp)(l:List (List Int))(i j:Nat):Bool:=xg l.length (ML (Mt g l) i) (ML (Mt g l) j)
theorem AGl{i:Nat}(h:i<(Mt g l).length):ix ((Mt g l).map pl) (i:Int)=some (pl (ML (Mt g l) i)):=by
 rw[NG (by simpa using h),AAa h];simp
theorem Lv.ix(hv:Lv g l (Mt g l) v){i:Nat}(hi:i<(Mt g l).length):Md.ix v (i:Int)=some ((LV v i:Nat):Int):=by
 have:=(hv.get hi).2.1;have hl:=hv.1;rw[NG (by omega)];rw[List.getElem?_eq_getElem (by omega)]at this;exact this
theorem Lv.le(hv:Lv g l (Mt g l) v)(h:VL l){i:Nat}(hi:i<(Mt g l).length):LV v i<=1001:=by
 have h2:=h.two;obtain⟨_,_,hm⟩:=hv.get hi;have:=hm.le (by omega);have hf:=AB2 (List.getElem_mem hi);rw[AAa hi]at this;have:=hf.1 0 (by omega);have:=ADd h 0;omega
theorem ANr(hv:Lv g l (Mt g l) v):∀(m k a:Nat),k<=(Mt g l).length->(Mt g l).length-k<m->(Mt g l).length<=4096->(∀i,i<k->LV v i<=a)->((k=0/\a=0)\/∃i,i<k/\LV v i=a)->
  ∃top:Nat,yO F v m (a:Int) (k:Int)=some (top:Int)/\(∀i,i<(Mt g l).length->LV v i<=top)/\(((Mt g l).length=0/\top=0)\/∃i,i<(Mt g l).length/\LV v i=top)
 |0,k,_,_,h,_,_,_=>by omega
 |m+1,k,a,hk,hm,h40,ha,hx=>by
  have hl:=hv.1;unfold yO;by_cases hlt:k<(Mt g l).length
  ·rw[if_pos (by simp;omega),hv.ix hlt]
   simp only[CJ,AP,zL];by_cases c:LV v k<a
   ·rw[if_pos (by simpa using c)]
    simp only[AP];rw[G5 (by omega)];refine ANr hv m (k+1) a (by omega) (by omega) h40 (fun i hi=>?_) (.inr ?_)
    ·by_cases e:i=k
     ·subst e;omega
     ·exact ha i (by omega)
    ·rcases hx with⟨_,e⟩|⟨i,hi,e⟩
     ·omega
     ·exact⟨i,by omega,e⟩
   ·rw[if_neg (by simpa using c)]
    simp only[AP];rw[G5 (by omega)];refine ANr hv m (k+1) (LV v k) (by omega) (by omega) h40 (fun i hi=>?_) (.inr ⟨k,by omega,rfl⟩);by_cases e:i=k
    ·subst e;omega
    ·have:=ha i (by omega);omega
  ·have:k=(Mt g l).length:=by omega
   subst this;rw[if_neg (by simp;omega)];exact⟨a,rfl,ha,hx⟩
theorem AR2(hF:1000<F)(h:VL l)(hv:Lv g l (Mt g l) v){i j:Nat}(hi:i<(Mt g l).length)(hj:j<(Mt g l).length):
  (gd (decide ((BA ((LV v i:Int)+1))=(LV v j:Int))) (Kz F (yx d g l) (pl (ML (Mt g l) i)) (pl (ML (Mt g l) j))) false)=some (Bf g l i j&&decide (LV v i+1=LV v j)||(decide (LV v i+1=LV v j)&&Bf g l i j)):=by
 have:=hv.le h hi;rw[G5 (by omega),AG3 hF h.four];by_cases e:LV v i+1=LV v j
 ·rw[decide_eq_true (by omega),decide_eq_true e];simp[gd]
 ·rw[decide_eq_false (by omega),decide_eq_false e];simp[gd]
def pk(U:Nat->Nat)(k:Nat):Nat->Nat:=fun i=>if i<k then U i else 0
def qk(D:Nat->Nat)(k:Nat):Nat->Nat:=fun i=>if k<=i then D i else 0
def us(lev:Nat->Nat)(B:Nat->Nat->Bool)(k t:Nat):Nat:=ADe 1 lev k+((List.range t).map fun j=>if AAU lev B j k=true then Uw lev B j else 0).sum
theorem AMN(lev:Nat->Nat)(B:Nat->Nat->Bool)(k t:Nat):us lev B k (t+1)=us lev B k t+if AAU lev B t k=true then Uw lev B t else 0:=by
 unfold us;rw[List.range_succ,List.map_append,List.sum_append];simp;omega
theorem APN(lev:Nat->Nat)(B:Nat->Nat->Bool)(k:Nat):us lev B k k=Uw lev B k:=by
 unfold us Uw;rw[ARI]
theorem AMO(lev:Nat->Nat)(B:Nat->Nat->Bool)(k:Nat):∀s t,us lev B k t<=us lev B k (t+s)
 |0,_=>Nat.le_refl _
 |s+1,t=>by have:=AMO lev B k s t;rw[<-Nat.add_assoc,AMN];omega
theorem AU9{lev:Nat->Nat}{B:Nat->Nat->Bool}{k t:Nat}(hk:k<=40)(ht:t<=k):us lev B k t<=2^40:=by
 have:=AMO lev B k (k-t) t;rw[show t+(k-t)=k by omega,APN]at this;have h1:Uw lev B k<=2^k:=AU6 (AMM 1 lev) k;have h2:2^k<=2^40:=Nat.pow_le_pow_right (by omega) hk;omega
theorem ANs(hF:1000<F)(h:VL l)(hv:Lv g l (Mt g l) v)(h40:(Mt g l).length<=40){k:Nat}(hk:k<(Mt g l).length){q:Nat->Nat}:∀(m t:Nat),t<=k->k-t<m->
  yP F (yx d g l) v (pl (ML (Mt g l) k)) (((Mt g l).map pl).take k) (k:Int) m (TT (Mt g l).length (upd (pk (Uw (LV v) (Bf g l)) k) k (us (LV v) (Bf g l) k t)) q) (t:Int)=some (TT (Mt g l).length (pk (Uw (LV v) (Bf g l)) (k+1)) q)
 |0,t,_,h=>by omega
 |m+1,t,ht,hm=>by
  unfold yP;have hpt:(((Mt g l).map pl).take k).length=k:=by simp;omega
  by_cases hlt:t<k
  ·have e9:ix (((Mt g l).map pl).take k) (t:Int)=some (pl (ML (Mt g l) t)):=by
    rw[NG (by rw[hpt];exact hlt),AAa (show t<(Mt g l).length by omega)];simp
   rw[if_pos (by rw[hpt];simpa using hlt),e9,hv.ix (show t<_ by omega),hv.ix hk];simp only[CJ,AP];rw[show Kz F ((yx d g l).1,(yx d g l).2.1,(yx d g l).2.2) (pl (ML (Mt g l) t)) (pl (ML (Mt g l) k))=Kz F (yx d g l) (pl (ML (Mt g l) t)) (pl (ML (Mt g l) k))from rfl,AR2 hF h hv (by omega) hk];simp only[AP];have hle:=hv.le h (show t<(Mt g l).length by omega);have hs:=AMN (LV v) (Bf g l) k t;have hsl:=AU9 (lev:=LV v) (B:=Bf g l) (k:=k) (t:=t+1) (by omega) (by omega);have hut:upd (pk (Uw (LV v) (Bf g l)) k) k (us (LV v) (Bf g l) k t) t=Uw (LV v) (Bf g l) t:=by unfold upd pk;rw[if_neg (by omega),if_pos hlt]
   have huk:upd (pk (Uw (LV v) (Bf g l)) k) k (us (LV v) (Bf g l) k t) k=us (LV v) (Bf g l) k t:=by simp[upd]
   have ec:(decide (BA ((LV v t:Int)+1)=(LV v k:Int))&&(Bf g l t k&&decide (LV v t+1=LV v k)||(decide (LV v t+1=LV v k)&&Bf g l t k)))=AAU (LV v) (Bf g l) t k:=by
    rw[G5 (by omega)];unfold AAU;by_cases e:LV v t+1=LV v k
    ·rw[decide_eq_true (by omega),decide_eq_true e];simp
    ·rw[decide_eq_false (by omega),decide_eq_false e];simp
   rw[ec];cases hc:AAU (LV v) (Bf g l) t k with
   |true=>
    rw[if_pos rfl,AF8 hk,AF8 (show t<(Mt g l).length by omega),hut,huk];simp only[AP];rw[hc,if_pos rfl]at hs;rw[show BA ((us (LV v) (Bf g l) k t:Int)+(Uw (LV v) (Bf g l) t:Int))=((us (LV v) (Bf g l) k (t+1):Nat):Int) by rw[Gj (by omega)];omega,AIY hk,AFi,ABw rfl,G5 (by omega)];exact ANs hF h hv h40 hk m (t+1) (by omega) (by omega)
   |false=>
    rw[if_neg (by simp)];simp only[AP];rw[hc,if_neg (by simp)]at hs;rw[G5 (by omega),show us (LV v) (Bf g l) k t=us (LV v) (Bf g l) k (t+1) by omega];exact ANs hF h hv h40 hk m (t+1) (by omega) (by omega)
  ·have:t=k:=by omega
   subst this;rw[if_neg (by rw[hpt];simp),APN]
   congr 1
   refine AG5 fun i _=>⟨?_,rfl⟩;unfold upd pk;by_cases e:i=t
   ·subst e;rw[if_pos rfl,if_pos (by omega)]
   ·rw[if_neg e]
    by_cases hi:i<t
    ·rw[if_pos hi,if_pos (by omega)]
    ·rw[if_neg hi,if_neg (by omega)]
theorem ARJ(hF:1000<F)(h:VL l)(hv:Lv g l (Mt g l) v)(h40:(Mt g l).length<=40){q:Nat->Nat}:∀(m k:Nat),k<=(Mt g l).length->(Mt g l).length-k<m->
  yQ F (yx d g l) v m (TT (Mt g l).length (pk (Uw (LV v) (Bf g l)) k) q) (k:Int)=some (TT (Mt g l).length (pk (Uw (LV v) (Bf g l)) (Mt g l).length) q)
 |0,k,_,h=>by omega
 |m+1,k,hk,hm=>by
  unfold yQ;by_cases hlt:k<(Mt g l).length
  ·rw[if_pos (by simpa using hlt)]
   show((ix ((Mt g l).map pl) (k:Int))>>=_)=_;rw[AGl hlt];simp only[CJ,AP];rw[hv.ix hlt];simp only[AP];have e5:(if decide ((LV v k:Int)=1)=true then(ix (TT (Mt g l).length (pk (Uw (LV v) (Bf g l)) k) q) (k:Int)).bind fun x8=>some (vV (TT (Mt g l).length (pk (Uw (LV v) (Bf g l)) k) q) (k:Int) ((1:Int),x8.2))else some (TT (Mt g l).length (pk (Uw (LV v) (Bf g l)) k) q))=some (TT (Mt g l).length (upd (pk (Uw (LV v) (Bf g l)) k) k (us (LV v) (Bf g l) k 0)) q):=by
    unfold us ADe;by_cases e:LV v k=1
    ·rw[if_pos (by simp[e]),AF8 hlt]
     simp only[AP];rw[show(1:Int)=((1:Nat):Int)from rfl,AIY hlt,ABw (f:=q) rfl,if_pos e]
     rfl
    ·rw[if_neg (by simp;omega),if_neg e]
     congr 2
     rw[ABw];unfold pk;rw[if_neg (by omega)];rfl
   rw[e5];simp only[AP];have e9:ACD ((Mt g l).map pl) (k:Int)=some (((Mt g l).map pl).take k):=by
    unfold ACD;rw[if_pos (by simp;omega)];rfl
   rw[show ACD (yx d g l).2.2 (k:Int)=_ from e9];simp only[AP];have:=ANs (d:=d) hF h hv h40 hlt (q:=q) F 0 (by omega) (by omega);rw[show((0:Nat):Int)=0 from rfl]at this;rw[this];simp only[AP];rw[G5 (by omega)];exact ARJ hF h hv h40 m (k+1) (by omega) (by omega)
  ·rw[if_neg (by simpa using hlt),show k=(Mt g l).length by omega]
def ABB(n top:Nat)(lev:Nat->Nat)(B:Nat->Nat->Bool)(k t:Nat):Nat:=ADe top lev k+((List.range' (k+1) (t-(k+1))).map fun j=>if AAU lev B k j=true then Dw n top lev B j else 0).sum
theorem AJY(n top:Nat)(lev:Nat->Nat)(B:Nat->Nat->Bool)(k t:Nat)(h:k+1<=t):ABB n top lev B k (t+1)=ABB n top lev B k t+if AAU lev B k t=true then Dw n top lev B t else 0:=by
 unfold ABB;rw[show t+1-(k+1)=(t-(k+1))+1 by omega,List.range'_concat,List.map_append,List.sum_append];simp only[Nat.one_mul,List.map_cons,List.map_nil,List.sum_cons,List.sum_nil];rw[show k+1+(t-(k+1))=t by omega];omega
theorem AK8(n top:Nat)(lev:Nat->Nat)(B:Nat->Nat->Bool)(k:Nat):ABB n top lev B k n=Dw n top lev B k:=by
 unfold ABB Dw;rw[AIX,show n-1-k=n-(k+1) by omega]
theorem AJZ(n top:Nat)(lev:Nat->Nat)(B:Nat->Nat->Bool)(k:Nat):∀s t,k+1<=t->ABB n top lev B k t<=ABB n top lev B k (t+s)
 |0,_,_=>Nat.le_refl _
 |s+1,t,h=>by have:=AJZ n top lev B k s t h;rw[<-Nat.add_assoc,AJY _ _ _ _ _ _ (by omega)];omega
theorem AR3{n top:Nat}{lev:Nat->Nat}{B:Nat->Nat->Bool}{k t:Nat}(hn:n<=40)(hk:k<n)(h1:k+1<=t)(ht:t<=n):ABB n top lev B k t<=2^40:=by
 have:=AJZ n top lev B k (n-t) t h1;rw[show t+(n-t)=n by omega,AK8]at this;have h1:Dw n top lev B k<=2^(n-1-k):=AU7 (AMM top lev) (n-1-k) k (by omega);have h2:2^(n-1-k)<=2^40:=Nat.pow_le_pow_right (by omega) (by omega);omega
theorem AIZ(hF:1000<F)(h:VL l)(hv:Lv g l (Mt g l) v)(h40:(Mt g l).length<=40){k top:Nat}(hk:k<(Mt g l).length){p:Nat->Nat}:∀(m t:Nat),k+1<=t->t<=(Mt g l).length->(Mt g l).length-t<m->
  yR F (yx d g l) v (k:Int) m (TT (Mt g l).length p (upd (qk (Dw (Mt g l).length top (LV v) (Bf g l)) (k+1)) k (ABB (Mt g l).length top (LV v) (Bf g l) k t))) (t:Int)=some (TT (Mt g l).length p (qk (Dw (Mt g l).length top (LV v) (Bf g l)) k))
 |0,t,_,_,h=>by omega
 |m+1,t,h1,ht,hm=>by
  unfold yR;by_cases hlt:t<(Mt g l).length
  ·have hle:=hv.le h hk
   have hs:=AJY (Mt g l).length top (LV v) (Bf g l) k t h1;have hsl:=AR3 (top:=top) (lev:=LV v) (B:=Bf g l) (k:=k) (t:=t+1) h40 hk (by omega) (by omega);have hut:upd (qk (Dw (Mt g l).length top (LV v) (Bf g l)) (k+1)) k (ABB (Mt g l).length top (LV v) (Bf g l) k t) t=Dw (Mt g l).length top (LV v) (Bf g l) t:=by unfold upd qk;rw[if_neg (by omega),if_pos h1]
   have huk:upd (qk (Dw (Mt g l).length top (LV v) (Bf g l)) (k+1)) k (ABB (Mt g l).length top (LV v) (Bf g l) k t) k=ABB (Mt g l).length top (LV v) (Bf g l) k t:=by simp[upd]
   rw[if_pos (by simpa using hlt),AF8 hlt,hut];simp only[CJ,AP];by_cases hz:Dw (Mt g l).length top (LV v) (Bf g l) t=0
   ·rw[if_neg (by simp[hz])]
    simp only[Bool.false_eq_true,if_false,AP];have:(if AAU (LV v) (Bf g l) k t=true then Dw (Mt g l).length top (LV v) (Bf g l) t else 0)=0:=by rw[hz];simp
    rw[G5 (by omega),show ABB (Mt g l).length top (LV v) (Bf g l) k t=ABB (Mt g l).length top (LV v) (Bf g l) k (t+1) by omega];exact AIZ hF h hv h40 hk m (t+1) (by omega) (by omega) (by omega)
   ·rw[if_pos (by simp;omega),hv.ix hk,hv.ix hlt]
    simp only[AP];by_cases e:LV v k+1=LV v t
    ·rw[if_pos (by rw[G5 (by omega)];simp;omega)]
     show((((ix ((Mt g l).map pl) (k:Int)).bind _).bind _).bind _)=_;rw[AGl hk];simp only[AP];rw[AGl hlt];simp only[AP];rw[show Kz F (d,l,(Mt g l).map pl) (pl (ML (Mt g l) k)) (pl (ML (Mt g l) t))=some (Bf g l k t)from AG3 hF h.four _ _];simp only[AP];cases hb:Bf g l k t with
     |true=>
      have hc:AAU (LV v) (Bf g l) k t=true:=by unfold AAU;rw[hb,decide_eq_true e];rfl
      rw[if_pos rfl,AF8 hk,huk];simp only[AP];rw[hc,if_pos rfl]at hs;rw[show BA ((ABB (Mt g l).length top (LV v) (Bf g l) k t:Int)+(Dw (Mt g l).length top (LV v) (Bf g l) t:Int))=((ABB (Mt g l).length top (LV v) (Bf g l) k (t+1):Nat):Int) by rw[Gj (by omega)];omega,AIY hk,AFi,ABw (f:=p) rfl,G5 (by omega)];exact AIZ hF h hv h40 hk m (t+1) (by omega) (by omega) (by omega)
     |false=>
      have hc:AAU (LV v) (Bf g l) k t=false:=by unfold AAU;rw[hb];simp
      rw[if_neg (by simp)];simp only[AP];rw[hc,if_neg (by simp)]at hs;rw[G5 (by omega),show ABB (Mt g l).length top (LV v) (Bf g l) k t=ABB (Mt g l).length top (LV v) (Bf g l) k (t+1) by omega];exact AIZ hF h hv h40 hk m (t+1) (by omega) (by omega) (by omega)
    ·have hc:AAU (LV v) (Bf g l) k t=false:=by unfold AAU;rw[decide_eq_false e];rfl
     rw[if_neg (by rw[G5 (by omega)];simp;omega)];simp only[AP,Bool.false_eq_true,if_false];rw[hc,if_neg (by simp)]at hs;rw[G5 (by omega),show ABB (Mt g l).length top (LV v) (Bf g l) k t=ABB (Mt g l).length top (LV v) (Bf g l) k (t+1) by omega];exact AIZ hF h hv h40 hk m (t+1) (by omega) (by omega) (by omega)
  ·have:t=(Mt g l).length:=by omega
   subst this;rw[if_neg (by simp),AK8]
   congr 1
   refine AG5 fun i _=>⟨rfl,?_⟩;unfold upd qk;by_cases e:i=k
   ·subst e;rw[if_pos rfl,if_pos (by omega)]
   ·rw[if_neg e]
    by_cases hi:k+1<=i
    ·rw[if_pos hi,if_pos (by omega)]
    ·rw[if_neg hi,if_neg (by omega)]
theorem ARK(hF:1000<F)(h:VL l)(hv:Lv g l (Mt g l) v)(h40:(Mt g l).length<=40){top:Nat}{p:Nat->Nat}:∀(m k:Nat),k<=(Mt g l).length->k<m->
  xI F (yx d g l) v (top:Int) m (TT (Mt g l).length p (qk (Dw (Mt g l).length top (LV v) (Bf g l)) k)) ((k:Int)-1)=some (TT (Mt g l).length p (qk (Dw (Mt g l).length top (LV v) (Bf g l)) 0))
 |0,k,_,h=>by omega
 |m+1,0,hk,hm=>by
  unfold xI;rw[if_neg (by simp)]
 |m+1,k+1,hk,hm=>by
  have hlt:k<(Mt g l).length:=by omega
  unfold xI;rw[show((k+1:Nat):Int)-1=(k:Int) by omega,if_pos (by simp),hv.ix hlt];simp only[CJ,AP];have e5:(if decide ((LV v k:Int)=(top:Int))=true then(ix (TT (Mt g l).length p (qk (Dw (Mt g l).length top (LV v) (Bf g l)) (k+1))) (k:Int)).bind fun x18=>some (vV (TT (Mt g l).length p (qk (Dw (Mt g l).length top (LV v) (Bf g l)) (k+1))) (k:Int) (x18.1,(1:Int)))else some (TT (Mt g l).length p (qk (Dw (Mt g l).length top (LV v) (Bf g l)) (k+1))))=some (TT (Mt g l).length p (upd (qk (Dw (Mt g l).length top (LV v) (Bf g l)) (k+1)) k (ABB (Mt g l).length top (LV v) (Bf g l) k (k+1)))):=by
   unfold ABB ADe;by_cases e:LV v k=top
   ·rw[if_pos (by simp[e]),AF8 hlt]
    simp only[AP];rw[show(1:Int)=((1:Nat):Int)from rfl,AIY hlt,ABw (f:=p) rfl,if_pos e];simp
   ·rw[if_neg (by simp;omega),if_neg e]
    congr 2
    rw[ABw];unfold qk;rw[if_neg (by omega)];simp
  rw[e5];simp only[AP];rw[G5 (by omega),AIZ (d:=d) hF h hv h40 hlt F (k+1) (by omega) (by omega) (by omega)];simp only[AP];rw[Gj (by omega)];exact ARK hF h hv h40 m k (by omega) (by omega)
theorem AR4(hF:100000<F){x:Bk}{c:Cls}(h:VL l)(hc:c.l=tl g)(h40:(Mt g l).length<=40):∃v top,Lv g l (Mt g l) v/\kE F (yx ⟨some (x,c)⟩ g l)=some v/\(∀i,i<(Mt g l).length->LV v i<=top)/\(((Mt g l).length=0/\top=0)\/∃i,i<(Mt g l).length/\LV v i=top)/\
  zM F (yx ⟨some (x,c)⟩ g l)=some (TT (Mt g l).length (Uw (LV v) (Bf g l)) (Dw (Mt g l).length top (LV v) (Bf g l))):=by
 obtain⟨v,h1,hv⟩:=APK hF (x:=x) h hc;obtain⟨top,e1,e2,e3⟩:=ANr (F:=F) hv F 0 0 (by omega) (by omega) (by omega) (fun i hi=>by omega) (.inl ⟨rfl,rfl⟩);refine⟨v,top,hv,h1,e2,e3,?_⟩;unfold zM;rw[show kE F ((yx ⟨some (x,c)⟩ g l).1,(yx ⟨some (x,c)⟩ g l).2.1,(yx ⟨some (x,c)⟩ g l).2.2)=some v from h1];simp only[CJ,AP];rw[show((0:Nat):Int)=0 from rfl]at e1;rw[e1];simp only[AP];have e5:mks 16 ((((Mt g l).map pl).length:Nat):Int) ((0,0):Int×Int)=some (TT (Mt g l).length (pk (Uw (LV v) (Bf g l)) 0) fun _=>0):=by
  unfold mks;rw[if_pos (by simp;omega)]
  congr 1
  unfold TT pk;simp[List.map_const']
 rw[show mks 16 ((yx (⟨some (x,c)⟩:Ob ((Uno (List (Ar 2 Int)))×(Ar 101 Int))) g l).2.2.length:Int) ((0,0):Int×Int)=_ from e5];simp only[AP];have e6:=ARJ (F:=F) (d:=⟨some (x,c)⟩) (by omega) h hv h40 (q:=fun _=>0) F 0 (by omega) (by omega);rw[show((0:Nat):Int)=0 from rfl]at e6;rw[e6];simp only[AP];have e7:=ARK (F:=F) (d:=⟨some (x,c)⟩) (by omega) h hv h40 (top:=top) (p:=pk (Uw (LV v) (Bf g l)) (Mt g l).length) F (Mt g l).length (Nat.le_refl _) (by omega);have e8:TT (Mt g l).length (pk (Uw (LV v) (Bf g l)) (Mt g l).length) (fun _=>0)=TT (Mt g l).length (pk (Uw (LV v) (Bf g l)) (Mt g l).length) (qk (Dw (Mt g l).length top (LV v) (Bf g l)) (Mt g l).length):=AG5 fun i hi=>⟨rfl,by unfold qk;rw[if_neg (by omega)]⟩;rw[e8,show BA (((yx (⟨some (x,c)⟩:Ob ((Uno (List (Ar 2 Int)))×(Ar 101 Int))) g l).2.2.length:Int)-1)=((Mt g l).length:Int)-1 by rw[show(yx (⟨some (x,c)⟩:Ob ((Uno (List (Ar 2 Int)))×(Ar 101 Int))) g l).2.2.length=(Mt g l).length by simp,Gj (by omega)],e7];simp only[AP]
 congr 1
 exact AG5 fun i hi=>⟨by unfold pk;rw[if_pos hi],by unfold qk;rw[if_pos (by omega)]⟩
end
end
section
structure Gr(n top:Nat)(lev:Nat->Nat)(B:Nat->Nat->Bool)(k:Nat)(c:List Nat):Prop where
 mem:∀i∈c,i<k/\i<n/\0<Dw n top lev B i
 lv:∀(t i:Nat),c[t]?=some i->lev i=t+1
 seq:∀(t i j:Nat),c[t]?=some i->c[t+1]?=some j->B i j=true
 more:c.length<top->∃j,k<=j/\j<n/\0<Dw n top lev B j/\lev j=c.length+1/\∀i,c.getLast?=some i->B i j=true
 le:c.length<=top
def AGA(n top:Nat)(lev:Nat->Nat)(B:Nat->Nat->Bool)(k:Nat)(c:List Nat):Bool:=decide (0<Dw n top lev B k)&&decide (lev k=c.length+1)&&(match c.getLast? with|none=>true|some i=>B i k)
theorem Gr.add{n top:Nat}{lev:Nat->Nat}{B:Nat->Nat->Bool}(hd:Dag n lev B)(ht:∀i,i<n->lev i<=top){k:Nat}(hk:k<n){c:List Nat}(h:Gr n top lev B k c)(hc:AGA n top lev B k c=true):Gr n top lev B (k+1) (c++[k]):=by
 unfold AGA at hc;rw[Bool.and_eq_true,Bool.and_eq_true]at hc;obtain⟨⟨h1,h2⟩,h3⟩:=hc;have h1:0<Dw n top lev B k:=by simpa using h1
 have h2:lev k=c.length+1:=by simpa using h2
 have hkt:=ht k hk;refine⟨fun i hi=>?_,fun t i e=>?_,fun t i j e1 e2=>?_,fun hl=>?_,by simp;omega⟩
 ·rcases List.mem_append.1 hi with hi|hi
  ·have:=h.mem i hi;exact⟨by omega,this.2⟩
  ·rw[List.mem_singleton]at hi;subst hi;exact⟨by omega,hk,h1⟩
 ·by_cases e':t<c.length
  ·rw[List.getElem?_append_left e']at e;exact h.lv t i e
  ·rw[List.getElem?_append_right (by omega)]at e
   by_cases e2:t-c.length=0
   ·rw[e2]at e;cases e;omega
   ·rw[List.getElem?_eq_none (by simp;omega)]at e;cases e
 ·by_cases e':t+1<c.length
  ·rw[List.getElem?_append_left (by omega)]at e1 e2;exact h.seq t i j e1 e2
  ·by_cases e3:t+1=c.length
   ·rw[List.getElem?_append_left (by omega)]at e1
    rw[List.getElem?_append_right (by omega),e3,Nat.sub_self]at e2;cases e2;have:c.getLast?=some i:=by rw[List.getLast?_eq_getElem?,<-e3];exact e1
    rw[this]at h3;exact h3
   ·rw[List.getElem?_append_right (by omega),List.getElem?_eq_none (by simp;omega)]at e2;cases e2
 ·rw[List.length_append]at hl⊢
  simp only[List.length_singleton]at hl⊢;rcases AU8 h1 with e|⟨j,j1,j2,j3,j4⟩
  ·omega
  ·unfold AAU at j3
   rw[Bool.and_eq_true]at j3;have e:lev k+1=lev j:=by simpa using j3.1
   exact⟨j,by omega,j2,j4,by omega,fun i hi=>by rw[List.getLast?_concat]at hi;cases hi;exact j3.2⟩
theorem Gr.skip{n top:Nat}{lev:Nat->Nat}{B:Nat->Nat->Bool}{k:Nat}{c:List Nat}(h:Gr n top lev B k c)(hc:AGA n top lev B k c=false):Gr n top lev B (k+1) c:=by
 refine⟨fun i hi=>by have:=h.mem i hi;exact⟨by omega,this.2⟩,h.lv,h.seq,fun hl=>?_,h.le⟩;obtain⟨j,j1,j2,j3,j4,j5⟩:=h.more hl;refine⟨j,?_,j2,j3,j4,j5⟩;by_cases e:j=k
 ·subst e
  unfold AGA at hc;rw[decide_eq_true j3,decide_eq_true j4]at hc;cases hg:c.getLast? with
  |none=>rw[hg]at hc;cases hc
  |some i=>rw[hg]at hc;have:=j5 i hg;simp[this]at hc
 ·omega
section
variable {F:Nat}{d:Ob ((Uno (List (Ar 2 Int)))×(Ar 101 Int))}{l:List (List Int)}{g:Tp}{v:List Int}
def plc(g:Tp)(l:List (List Int))(c:List Nat):List Pl:=c.map fun i=>pl (ML (Mt g l) i)
theorem AI1(hF:1000<F)(h:VL l)(hv:Lv g l (Mt g l) v)(h40:(Mt g l).length<=40){top:Nat}(ht:∀i,i<(Mt g l).length->LV v i<=top){p:Nat->Nat}:∀(m k:Nat)(c:List Nat),k<=(Mt g l).length->(Mt g l).length-k<m->Gr (Mt g l).length top (LV v) (Bf g l) k c->c.length<=k->
  ∃c',wV F (yx d g l) (TT (Mt g l).length p (Dw (Mt g l).length top (LV v) (Bf g l))) v m (plc g l c) (k:Int)=some (plc g l c')/\Gr (Mt g l).length top (LV v) (Bf g l) (Mt g l).length c'
 |0,k,_,_,h,_,_=>by omega
 |m+1,k,c,hk,hm,hG,hck=>by
  have hd:=AK6 h hv;unfold wV;by_cases hlt:k<(Mt g l).length
  ·have hpl:(plc g l c).length=c.length:=by simp[plc]
   rw[if_pos (by simpa using hlt)];rw[show ix (yx d g l).2.2 (k:Int)=some (pl (ML (Mt g l) k))from AGl hlt,AF8 hlt];simp only[CJ,AP];have ec:(if decide ((0:Int)<((Dw (Mt g l).length top (LV v) (Bf g l) k:Nat):Int))=true then
     (Md.ix v (k:Int)).bind fun x7=>if decide (x7=BA (((plc g l c).length:Int)+1))=true then(if decide (((plc g l c).length:Int)=0)=true then some true else(ix (plc g l c) (BA (((plc g l c).length:Int)-1))).bind fun x8=>(Kz F (d,l,(Mt g l).map pl) x8 (pl (ML (Mt g l) k))).bind fun x9=>some x9)else some false
    else(if false=true then(if decide (((plc g l c).length:Int)=0)=true then some true else(ix (plc g l c) (BA (((plc g l c).length:Int)-1))).bind fun x8=>(Kz F (d,l,(Mt g l).map pl) x8 (pl (ML (Mt g l) k))).bind fun x9=>some x9)else some false))=some (AGA (Mt g l).length top (LV v) (Bf g l) k c):=by
    unfold AGA;by_cases c1:0<Dw (Mt g l).length top (LV v) (Bf g l) k
    ·rw[if_pos (by simpa using c1),hv.ix hlt,decide_eq_true c1]
     simp only[AP];rw[hpl,G5 (by omega)];by_cases c2:LV v k=c.length+1
     ·rw[if_pos (by simp;omega),decide_eq_true c2]
      rcases ADu c with rfl|⟨e,i,rfl⟩
      ·simp
      ·have hck':e.length+1<=k:=by simpa using hck
       rw[List.length_append,if_neg (by simp;omega),List.getLast?_concat];rw[show BA (((e.length+ [i].length:Nat):Int)-1)=(e.length:Int) by simp only[List.length_singleton];rw[Gj (by omega)];omega];have:Md.ix (plc g l (e++[i])) (e.length:Int)=some (pl (ML (Mt g l) i)):=by
        rw[NG (by simp[plc])];simp[plc]
       rw[this];simp only[AP];rw[AG3 hF h.four]
       rfl
     ·rw[if_neg (by simp;omega),decide_eq_false c2];simp
    ·rw[if_neg (by simpa using c1),decide_eq_false c1];simp
   rw[ec];simp only[AP];cases hc:AGA (Mt g l).length top (LV v) (Bf g l) k c with
   |true=>
    rw[if_pos rfl,yJ (by rw[hpl];simp;omega)];simp only[AP];rw[G5 (by omega)];have:=AI1 hF h hv h40 ht (p:=p) m (k+1) (c++[k]) (by omega) (by omega) (hG.add hd ht hlt hc) (by simp;omega);rw[show plc g l (c++[k])=plc g l c++[pl (ML (Mt g l) k)] by simp[plc]]at this;exact this
   |false=>
    rw[if_neg (by simp)];simp only[AP];rw[G5 (by omega)];exact AI1 hF h hv h40 ht m (k+1) c (by omega) (by omega) (hG.skip hc) (by omega)
  ·have:k=(Mt g l).length:=by omega
   subst this;rw[if_neg (by simp)];exact⟨c,rfl,hG⟩
structure Ps(n top:Nat)(lev:Nat->Nat)(B:Nat->Nat->Bool)(c:List Nat):Prop where
 len:c.length=top
 mem:∀i∈c,i<n/\0<Dw n top lev B i
 lv:∀(t i:Nat),c[t]?=some i->lev i=t+1
 seq:∀(t i j:Nat),c[t]?=some i->c[t+1]?=some j->B i j=true
theorem AQX{n top:Nat}{lev:Nat->Nat}{B:Nat->Nat->Bool}(hd:Dag n lev B)(hx:(n=0/\top=0)\/∃i,i<n/\lev i=top):Gr n top lev B 0 []:=by
 refine⟨(fun i hi=>by cases hi),(fun t i e=>by simp at e),(fun t i j e=>by simp at e),fun hl=>?_,Nat.zero_le _⟩;rcases hx with⟨_,e⟩|⟨i,hi,e⟩
 ·simp at hl;omega
 ·have:=hd.one i hi
  obtain⟨j,j1,j2,j3⟩:=AK7 hd (lev i-1) i (by omega) hi (ATg e);exact⟨j,by omega,j1,j3,j2,fun i hi=>by simp at hi⟩
theorem ANt(hF:100000<F){x:Bk}{c:Cls}(h:VL l)(hc:c.l=tl g)(h40:(Mt g l).length<=40):∃v top q,Lv g l (Mt g l) v/\kE F (yx ⟨some (x,c)⟩ g l)=some v/\(∀i,i<(Mt g l).length->LV v i<=top)/\(((Mt g l).length=0/\top=0)\/∃i,i<(Mt g l).length/\LV v i=top)/\
  zM F (yx ⟨some (x,c)⟩ g l)=some (TT (Mt g l).length (Uw (LV v) (Bf g l)) (Dw (Mt g l).length top (LV v) (Bf g l)))/\
  zy F (yx ⟨some (x,c)⟩ g l)=some (plc g l q)/\Ps (Mt g l).length top (LV v) (Bf g l) q:=by
 obtain⟨v,top,hv,e1,e2,e3,e4⟩:=AR4 hF (x:=x) h hc h40;have hd:=AK6 h hv;obtain⟨q,e5,hq⟩:=AI1 (F:=F) (d:=⟨some (x,c)⟩) (by omega) h hv h40 e2 (p:=Uw (LV v) (Bf g l)) F 0 [] (by omega) (by omega) (AQX hd e3) (Nat.zero_le _);refine⟨v,top,q,hv,e1,e2,e3,e4,?_,?_⟩
 ·unfold zy
  rw[show zM F ((yx ⟨some (x,c)⟩ g l).1,(yx ⟨some (x,c)⟩ g l).2.1,(yx ⟨some (x,c)⟩ g l).2.2)=_ from e4];simp only[CJ,AP];rw[show kE F ((yx ⟨some (x,c)⟩ g l).1,(yx ⟨some (x,c)⟩ g l).2.1,(yx ⟨some (x,c)⟩ g l).2.2)=_ from e1];simp only[AP];rw[show((0:Nat):Int)=0 from rfl,show plc g l []=[]from rfl]at e5;rw[e5];rfl
 ·refine⟨?_,fun i hi=>(hq.mem i hi).2,hq.lv,hq.seq⟩
  by_cases e:q.length<top
  ·obtain⟨j,j1,j2,_⟩:=hq.more e;omega
  ·have:=hq.le;omega
theorem AMP(hF:100000<F)(h4:l.length<=4){acc:List Pl}:∀(L:List Tp),L.length<=10000->AAQ F (d,l,acc) (L.map pl)=some (L.map (zS l.length)):=by
 intro L hL;have key:∀(m k:Nat),k<=L.length->L.length-k<m->yN F (d,l,acc) (L.map pl) m ((L.take k).map (zS l.length)) (k:Int)=some (L.map (zS l.length)):=by
  intro m
  induction m with
  |zero=>intro k _ h;omega
  |succ m ih=>
   intro k hk hm;unfold yN;by_cases hlt:k<L.length
   ·rw[if_pos (by simpa using hlt),NG (by simpa using hlt),List.getElem_map]
    simp only[CJ,AP];have e5:mks 8 (l.length:Int) (0:Int)=some (List.replicate l.length 0):=by unfold mks;rw[if_pos (by simp;omega)];rfl
    rw[e5];simp only[AP];have er:ACX (List.replicate l.length (0:Int)) (pl L[k]).l=zS l.length L[k]:=by
     unfold ACX;rw[List.length_replicate,(pl L[k]).h,List.drop_of_length_le (by simp;omega),List.append_nil];unfold pl zS;rw[<-List.map_take,List.take_range,Nat.min_eq_left h4]
    rw[er,yJ (by simp;omega)];simp only[AP];rw[G5 (by omega),<-ih (k+1) (by omega) (by omega),List.take_succ_eq_append_getElem hlt,List.map_append]
    rfl
   ·rw[if_neg (by simpa using hlt),List.take_of_length_le (by omega)]
 unfold AAQ;have:=key F 0 (by omega) (by omega);rw[show((0:Nat):Int)=0 from rfl,List.take_zero,List.map_nil]at this;rw[this];rfl
end
theorem AR5{F:Nat}(hF:100000<F){x:Bk}{l:List (List Int)}(hv:VB x)(h:VL l):∃g,(∀i j,i<101->j<101->(g i=g j↔Con (Ed x) i j))/\((Mt g l).length<=40->∃d v top q,Lv g l (Mt g l) v/\wO F x l=some (⟨some (yx d g l)⟩,0)/\
  (∀i,i<(Mt g l).length->LV v i<=top)/\(((Mt g l).length=0/\top=0)\/∃i,i<(Mt g l).length/\LV v i=top)/\ACn F x l=some (v,0)/\
  kE F (yx d g l)=some v/\zM F (yx d g l)=some (TT (Mt g l).length (Uw (LV v) (Bf g l)) (Dw (Mt g l).length top (LV v) (Bf g l)))/\
  ACM F x l=some (q.map fun i=>zS l.length (ML (Mt g l) i),0)/\Ps (Mt g l).length top (LV v) (Bf g l) q):=by
 obtain⟨c,g,h1,h2,h3⟩:=APB hv;refine⟨g,h3,fun h40=>?_⟩;have hl:=AF6 h;have es:wO F x l=some (⟨some (yx ⟨some (x,c)⟩ g l)⟩,0):=by
  unfold wO;rw[show(⟨x.v⟩:Bk)=x from rfl,APG (by omega) hv h];simp only[CJ,AP];rw[if_neg (by simp)];unfold AAZ;rw[h1];simp only[CJ,AP];rw[AJW hF h];simp only[AP];rw[show(⟨x.v⟩:Bk)=x from rfl,AF7 (by omega) h h2 _ [] (fun f hf=>(ABD _ f hf).1) (by simp;omega)]
  rfl
 obtain⟨v,top,q,hv',e1,e2,e3,e4,e5,e6⟩:=ANt hF (x:=x) h h2 h40;refine⟨_,v,top,q,hv',es,e2,e3,?_,e1,e4,?_,e6⟩
 ·unfold ACn
  rw[show(⟨x.v⟩:Bk)=x from rfl,es];simp only[CJ,AP];rw[if_neg (by simp),show kE F (_,_,_)=some v from e1];rfl
 ·unfold ACM
  rw[show(⟨x.v⟩:Bk)=x from rfl,es];simp only[CJ,AP];rw[if_neg (by simp),show zy F (_,_,_)=_ from e5];simp only[AP];have hq:(q.map (ML (Mt g l))).length<=10000:=by
   rw[List.length_map,e6.len];rcases e3 with⟨_,e⟩|⟨i,hi,e⟩
   ·omega
   ·have:=hv'.le h hi;omega
  have:=AMP (F:=F) (d:=⟨some (x,c)⟩) hF h.four (acc:=(Mt g l).map pl) (q.map (ML (Mt g l))) hq;rw[List.map_map,List.map_map]at this;rw[show plc g l q=q.map (pl∘ML (Mt g l))from rfl,this]
  rfl
end
section
theorem APO{zs:List Int}(h:zs≠[]):Lib.minOf zs∈zs:=by
 have key:∀(l:List Int)(a:Int),l.foldl min a=a\/l.foldl min a∈l:=by
  intro l
  induction l with
  |nil=>intro a;exact .inl rfl
  |cons b l ih=>
   intro a;rw[List.foldl_cons];rcases ih (min a b)with e|e
   ·rw[e]
    by_cases c:a<=b
    ·rw[Int.min_eq_left c];exact .inl rfl
    ·rw[Int.min_eq_right (by omega)];exact .inr (List.mem_cons_self ..)
   ·exact .inr (List.mem_cons_of_mem _ e)
 unfold Lib.minOf;cases zs with
 |nil=>exact absurd rfl h
 |cons b l=>
  rcases key (b::l) b with e|e
  ·rw[List.headD_cons,e];exact List.mem_cons_self ..
  ·exact e
section
variable {F:Nat}{d:Ob ((Uno (List (Ar 2 Int)))×(Ar 101 Int))}{l:List (List Int)}{g:Tp}{v:List Int}
theorem ANu(hF:1000<F)(h:VL l)(h40:(Mt g l).length<=4096)(hv:v.length=(Mt g l).length){k:Nat}(hk:k<(Mt g l).length){y:Bool}:∀(m t:Nat),t<=k->k-t<m->
  ∃b,qg F v (yx d g l) (pl (ML (Mt g l) k)) (((Mt g l).map pl).take k) (k:Int) m y (t:Int)=some b/\(b=true↔(y=true\/∃j,t<=j/\j<k/\v.getD k 0<=v.getD j 0/\Bf g l j k=true))
 |0,t,_,h=>by omega
 |m+1,t,ht,hm=>by
  unfold qg;have hpt:(((Mt g l).map pl).take k).length=k:=by simp;omega
  have hg:∀i,i<(Mt g l).length->Md.ix v (i:Int)=some (v.getD i 0):=fun i hi=>by rw[NG (by omega)];simp[show i<v.length by omega]
  by_cases hlt:t<k
  ·have e9:Md.ix (((Mt g l).map pl).take k) (t:Int)=some (pl (ML (Mt g l) t)):=by
    rw[NG (by rw[hpt];exact hlt),AAa (show t<(Mt g l).length by omega)];simp
   rw[if_pos (by rw[hpt];simpa using hlt),e9,hg t (by omega),hg k hk];simp only[CJ,AP];rw[show Kz F ((yx d g l).1,(yx d g l).2.1,(yx d g l).2.2) (pl (ML (Mt g l) t)) (pl (ML (Mt g l) k))=some (Bf g l t k)from AG3 hF h.four _ _];by_cases c:v.getD k 0<=v.getD t 0
   ·rw[decide_eq_true c]
    simp only[gd,cond_true,AP,Bool.true_and];cases hb:Bf g l t k with
    |true=>rw[if_pos rfl];exact⟨true,rfl,fun _=>.inr ⟨t,Nat.le_refl _,hlt,c,hb⟩,fun _=>rfl⟩
    |false=>
     rw[if_neg (by simp),G5 (by omega)];obtain⟨b,h1,h2⟩:=ANu hF h h40 hv hk (y:=y) m (t+1) (by omega) (by omega);refine⟨b,h1,h2.trans (or_congr Iff.rfl ⟨fun⟨j,a,r⟩=>⟨j,by omega,r⟩,fun⟨j,a,r⟩=>⟨j,?_,r⟩⟩)⟩;by_cases e:j=t
     ·subst e;rw[hb]at r;simp at r
     ·omega
   ·rw[decide_eq_false c]
    simp only[gd,cond_false,AP,Bool.false_and];rw[if_neg (by simp),G5 (by omega)];obtain⟨b,h1,h2⟩:=ANu hF h h40 hv hk (y:=y) m (t+1) (by omega) (by omega);refine⟨b,h1,h2.trans (or_congr Iff.rfl ⟨fun⟨j,a,r⟩=>⟨j,by omega,r⟩,fun⟨j,a,r⟩=>⟨j,?_,r⟩⟩)⟩;by_cases e:j=t
    ·subst e;exact absurd r.2.1 c
    ·omega
  ·have:t=k:=by omega
   subst this;rw[if_neg (by rw[hpt];simp)];exact⟨y,rfl,fun h=>.inl h,fun h=>h.elim id fun⟨j,a,b,_⟩=>by omega⟩
theorem ARL(hF:100000<F)(h:VL l)(h40:(Mt g l).length<=4096)(hv:v.length=(Mt g l).length):∀(m k:Nat)(y:Bool),k<=(Mt g l).length->(Mt g l).length-k<m->
  ∃b,tX F v (yx d g l) m y (k:Int)=some b/\(b=true↔(y=true\/∃i j,k<=i/\i<(Mt g l).length/\j<i/\v.getD i 0<=v.getD j 0/\Bf g l j i=true))
 |0,k,_,_,h=>by omega
 |m+1,k,y,hk,hm=>by
  unfold tX;by_cases hlt:k<(Mt g l).length
  ·rw[if_pos (by simpa using hlt),show Md.ix (yx d g l).2.2 (k:Int)=some (pl (ML (Mt g l) k))from AGl hlt]
   simp only[CJ,AP];have e9:ACD (yx d g l).2.2 (k:Int)=some (((Mt g l).map pl).take k):=by
    unfold ACD;rw[if_pos (by simp;omega)];rfl
   rw[e9];simp only[AP];obtain⟨b,h1,h2⟩:=ANu (F:=F) (d:=d) (by omega) h h40 hv hlt (y:=y) F 0 (by omega) (by omega);rw[show((0:Nat):Int)=0 from rfl]at h1;rw[h1];simp only[AP];rw[G5 (by omega)];obtain⟨b',h3,h4⟩:=ARL hF h h40 hv m (k+1) b (by omega) (by omega);refine⟨b',h3,h4.trans ⟨?_,?_⟩⟩
   ·rintro(e|⟨i,j,a,r⟩)
    ·rcases h2.1 e with e|⟨j,_,a,b,c⟩
     ·exact .inl e
     ·exact .inr ⟨k,j,Nat.le_refl _,hlt,a,b,c⟩
    ·exact .inr ⟨i,j,by omega,r⟩
   ·rintro(e|⟨i,j,a,b,c,r⟩)
    ·exact .inl (h2.2 (.inl e))
    ·by_cases e:i=k
     ·subst e;exact .inl (h2.2 (.inr ⟨j,Nat.zero_le _,c,r⟩))
     ·exact .inr ⟨i,j,by omega,b,c,r⟩
  ·have:k=(Mt g l).length:=by omega
   subst this;rw[if_neg (by simp)];exact⟨y,rfl,fun h=>.inl h,fun h=>h.elim id fun⟨i,j,a,b,_⟩=>by omega⟩
end
end
section
section
variable {n top:Nat}{lev:Nat->Nat}{B:Nat->Nat->Bool}{m m':Nat}
end
section
variable {l:List (List Int)}{g:Tp}
theorem AJa:∀j,(AAT l j).Nodup
 |0=>by simp[AAT]
 |j+1=>by
  rw[AAT];refine Jn.AJf (AJa j) (fun t _=>?_) fun a ha b hb x hx hy=>?_
  ·rw[List.Nodup,List.pairwise_map]
   refine List.nodup_range.imp fun{a b} hab e=>hab ?_;have:=congrFun e j;simpa[upd]using this
  ·obtain⟨i,_,rfl⟩:=List.mem_map.1 hx
   obtain⟨i',_,e⟩:=List.mem_map.1 hy;have za:=(ABD j a ha).2 j (Nat.le_refl _);have zb:=(ABD j b hb).2 j (Nat.le_refl _)
   funext n
   have:=congrFun e n;unfold upd at this;by_cases hn:n=j
   ·subst hn;rw[za,zb]
   ·rw[if_neg hn,if_neg hn]at this;exact this.symm
theorem AK9:(Mt g l).Nodup:=List.Nodup.sublist List.filter_sublist (AJa _)
theorem ATh{i j:Nat}(hi:i<(Mt g l).length)(hj:j<(Mt g l).length)(h:ML (Mt g l) i=ML (Mt g l) j):i=j:=by
 rw[AAa hi,AAa hj]at h;exact(List.getElem_inj AK9).1 h
structure Uq(g:Tp)(l:List (List Int)):Prop where
 vl:VL l
 nod:∀r∈l,r.Nodup
 inj:∀i j,i<101->j<101->g i=g j->i=j
theorem Uq.pos(h:Uq g l){j a b:Nat}(hj:j<l.length)(ha:a<ln l j)(hb:b<ln l j)(e:wrd l j a=wrd l j b):a=b:=by
 have eln:ln l j=l[j].length:=by unfold ln;simp[hj]
 have h1:=(ACp h.vl hj ha).1;have h2:=(ACp h.vl hj hb).1;rw[e]at h1;rw[NG (by omega)]at h1 h2;have:l[j][a]=l[j][b]:=by rw[Option.some.injEq]at h1 h2;rw[h1,h2]
 exact(List.getElem_inj (h.nod _ (List.getElem_mem hj))).1 this
theorem Uq.same(h:Uq g l){f:Tp}(hf:f∈Mt g l){j:Nat}(hj:j<l.length):Wo.wrd l j (f j)=Wo.wrd l 0 (f 0):=by
 have h2:=h.vl.two;obtain⟨a,_,b⟩:=AB2 hf;have:=List.all_eq_true.1 b j (List.mem_range.2 hj);exact h.inj _ _ (ACp h.vl hj (a j hj)).2 (ACp h.vl (by omega) (a 0 (by omega))).2 (by simpa using this)
theorem Uq.one(h:Uq g l){f f':Tp}(hf:f∈Mt g l)(hf':f'∈Mt g l){j:Nat}(hj:j<l.length)(e:f j=f' j):f=f':=by
 obtain⟨a,a0,_⟩:=AB2 hf;obtain⟨b,b0,_⟩:=AB2 hf'
 funext i
 by_cases hi:i<l.length
 ·refine h.pos hi (a i hi) (b i hi) ?_
  rw[h.same hf hi,h.same hf' hi,<-h.same hf hj,<-h.same hf' hj,e]
 ·rw[a0 i (by omega),b0 i (by omega)]
theorem Uq.mem(h:Uq g l){f:Tp}(hf:∀i,i<l.length->f i<ln l i)(h0:∀i,l.length<=i->f i=0)(he:∀i,i<l.length->Wo.wrd l i (f i)=Wo.wrd l 0 (f 0)):f∈Mt g l:=
 ARH hf h0 (List.all_eq_true.2 fun i hi=>by rw[he i (List.mem_range.1 hi)];simp)
theorem Uq.len(h:Uq g l):(Mt g l).length<=ln l 0:=by
 have h2:=h.vl.two;have hn:((Mt g l).map fun f=>f 0).Nodup:=by
  rw[List.Nodup,List.pairwise_map];refine List.Pairwise.imp_of_mem (fun{a b} ha hb hab e=>hab (h.one ha hb (show 0<l.length by omega) e)) (AK9 (g:=g) (l:=l))
 have:=Jn.AGh (k:=List.range (ln l 0)) hn fun a ha=>by
  obtain⟨f,hf,rfl⟩:=List.mem_map.1 ha;exact List.mem_range.2 ((AB2 hf).1 0 (by omega))
 simpa using this
end
end
section
section
variable {F:Nat}{l:List (List Int)}{g:Tp}
end
end
section
section
variable {n top:Nat}{lev:Nat->Nat}{B:Nat->Nat->Bool}
end
section
variable {F:Nat}{d:Ob ((Uno (List (Ar 2 Int)))×(Ar 101 Int))}{l:List (List Int)}{g:Tp}{v:List Int}
end
end
section
section
variable {F:Nat}{d:Ob ((Uno (List (Ar 2 Int)))×(Ar 101 Int))}{l:List (List Int)}{g:Tp}{v:List Int}
theorem ANv(hF:100000<F)(h4:l.length<=4){x:Bk}(h40:(Mt g l).length<=4096)(es:wO F x l=some (⟨some (yx d g l)⟩,0)):ACN F x l=some ((Mt g l).map (zS l.length),0):=by
 unfold ACN;rw[show(⟨x.v⟩:Bk)=x from rfl,es];simp only[CJ,AP];rw[if_neg (by simp),show AAQ F (_,_,_) _=_ from AMP (d:=d) (acc:=(Mt g l).map pl) hF h4 (Mt g l) (by omega)]
 rfl
end
end
end Wo
end Go.Proofs.YtfmelbioccbdoaaGreat
end
section
namespace Go.Proofs.YtfmelbioccbdoaaGreat
namespace BF
abbrev Rl:=Int×Int×Int×Int
def NEV:Int:=1125899906842624
structure St where
 f:Int->Int
 b:Int->Option Rl
 r:Int->Nat
def up{α:Type}(g:Int->α)(i:Int)(v:α):Int->α:=fun t=>if t=i then v else g t
theorem wP{α:Type}{g:Int->α}{i:Int}{v:α}:up g i v i=v:=by simp[up]
theorem xw{α:Type}{g:Int->α}{i t:Int}{v:α}(h:t≠i):up g i v t=g t:=by simp[up,h]
def cnd(f:Int->Int)(p:Rl):Prop:=f p.2.1≠NEV/\f p.2.1+p.2.2.2<f p.2.2.1
instance {f:Int->Int}{p:Rl}:Decidable (cnd f p):=by unfold cnd;infer_instance
def rel(K:Nat)(s:St)(p:Rl):St:=if cnd s.f p then⟨up s.f p.2.2.1 (s.f p.2.1+p.2.2.2),up s.b p.2.2.1 (some p),up s.r p.2.2.1 K⟩else s
def pass(R:List Rl)(K:Nat)(s:St):St:=R.foldl (rel K) s
def start:St:=⟨fun _=>0,fun _=>none,fun _=>0⟩
inductive Back(b:Int->Option Rl):Int->Int->Int->Nat->Prop
 |one {v:Int} {p:Rl} (h:b v=some p):Back b v p.2.1 p.2.2.2 1
 |more {v u c:Int} {n:Nat} {p:Rl} (h:b v=some p) (k:Back b p.2.1 u c n):Back b v u (p.2.2.2+c) (n+1)
theorem Back.snoc{b:Int->Option Rl}{v u c:Int}{n:Nat}(h:Back b v u c n){p:Rl}(hp:b u=some p):Back b v p.2.1 (c+p.2.2.2) (n+1):=by
 induction h with
 |one h=>exact .more h (.one hp)
 |more h k ih=>
  have:=ih hp;rw[Int.add_assoc];exact .more h this
theorem Back.start{b:Int->Option Rl}{v u c:Int}{n:Nat}(h:Back b v u c n):∃p,b v=some p:=by cases h<;>exact⟨_,by assumption⟩
structure Inv(N:Int->Prop)(K:Nat)(done left:List Rl)(s:St):Prop where
 i1:∀v,s.b v=none↔s.r v=0
 i2:∀v p,s.b v=some p->p∈done++left/\p.2.2.1=v/\s.f p.2.1+p.2.2.2<=s.f v
 i3:∀v p,s.b v=some p->s.r v<=s.r p.2.1+1
 i4d:∀q∈done,s.r q.2.1+1<=K->s.f q.2.2.1<=s.f q.2.1+q.2.2.2
 i4l:∀q∈left,s.r q.2.1+2<=K->s.f q.2.2.1<=s.f q.2.1+q.2.2.2
 i5:∀v c n,Back s.b v v c n->c<0
 i6:∀v,s.r v<=K
 i7:∀v,s.f v<=0
theorem cyc{s:St}{p:Rl}(h:∀v q,s.b v=some q->s.f q.2.1+q.2.2.2<=s.f v)(hne:p.2.1≠p.2.2.1)(hc:cnd s.f p):
  ∀{v u c n},Back (up s.b p.2.2.1 (some p)) v u c n->
   up s.f p.2.2.1 (s.f p.2.1+p.2.2.2) u+c<up s.f p.2.2.1 (s.f p.2.1+p.2.2.2) v\/
   (up s.f p.2.2.1 (s.f p.2.1+p.2.2.2) u+c<=up s.f p.2.2.1 (s.f p.2.1+p.2.2.2) v/\u≠p.2.2.1/\(v≠p.2.2.1->Back s.b v u c n)):=by
 obtain⟨_,hlt⟩:=hc;intro v u c n hb
 induction hb with
 | @one v q hq=>
  by_cases hv:v=p.2.2.1
  ·subst hv
   rw[wP]at hq;cases hq;refine .inr ⟨?_,hne,fun h=>(h rfl).elim⟩;rw[wP,xw hne];exact Int.le_refl _
  ·rw[xw hv]at hq
   have h2:=h v q hq;rw[xw hv];by_cases hu:q.2.1=p.2.2.1
   ·left
    rw[hu,wP];rw[hu]at h2;omega
   ·right
    rw[xw hu];exact⟨h2,hu,fun _=>.one hq⟩
 | @more v u c n q hq k ih=>
  have step:up s.f p.2.2.1 (s.f p.2.1+p.2.2.2) q.2.1+q.2.2.2<up s.f p.2.2.1 (s.f p.2.1+p.2.2.2) v\/
    (up s.f p.2.2.1 (s.f p.2.1+p.2.2.2) q.2.1+q.2.2.2<=up s.f p.2.2.1 (s.f p.2.1+p.2.2.2) v/\q.2.1≠p.2.2.1):=by
   by_cases hv:v=p.2.2.1
   ·subst hv
    rw[wP]at hq;cases hq;right;rw[wP,xw hne];exact⟨Int.le_refl _,hne⟩
   ·rw[xw hv]at hq
    have h2:=h v q hq;rw[xw hv];by_cases hu:q.2.1=p.2.2.1
    ·left
     rw[hu,wP];rw[hu]at h2;omega
    ·right
     rw[xw hu];exact⟨h2,hu⟩
  rcases ih with ih|⟨ih1,ih2,ih3⟩
  ·left
   rcases step with h1|⟨h1,_⟩<;>omega
  ·rcases step with h1|⟨h1,h2⟩
   ·left;omega
   ·right
    refine⟨by omega,ih2,fun hv=>?_⟩;rw[xw hv]at hq;exact .more hq (ih3 h2)
theorem Inv.rel{N:Int->Prop}{K:Nat}{done left:List Rl}{s:St}{p:Rl}(hK:1<=K)(h:Inv N K done (p::left) s)(hne:p.2.1≠p.2.2.1):Inv N K (done++[p]) left (rel K s p):=by
 unfold BF.rel;by_cases hc:cnd s.f p
 ·rw[if_pos hc]
  have hc':=hc;obtain⟨_,hlt⟩:=hc';have hmono:∀v,up s.f p.2.2.1 (s.f p.2.1+p.2.2.2) v<=s.f v:=fun v=>by
   by_cases hv:v=p.2.2.1
   ·subst hv;rw[wP];omega
   ·rw[xw hv];exact Int.le_refl _
  have hr:K<=s.r p.2.1+1:=by
   rcases Nat.lt_or_ge (s.r p.2.1+1) K with h'|h'
   ·have:=h.i4l p (by simp) (by omega)
    omega
   ·exact h'
  refine⟨?_,?_,?_,?_,?_,?_,?_,?_⟩
  ·intro v
   by_cases hv:v=p.2.2.1
   ·subst hv;simp only[wP];constructor
    ·intro h;cases h
    ·intro h;omega
   ·simp only[xw hv];exact h.i1 v
  ·intro v q hq
   dsimp only at hq⊢;by_cases hv:v=p.2.2.1
   ·subst hv
    rw[wP]at hq;cases hq;refine⟨by simp,rfl,?_⟩;simp only[wP,xw hne];exact Int.le_refl _
   ·rw[xw hv]at hq
    obtain⟨h1,h2,h3⟩:=h.i2 v q hq;refine⟨by simp only[List.mem_append,List.mem_cons,List.not_mem_nil,or_false]at h1⊢;rcases h1 with h1|h1|h1<;>simp[h1],h2,?_⟩;simp only[xw hv];have:=hmono q.2.1;omega
  ·intro v q hq
   dsimp only at hq⊢;by_cases hv:v=p.2.2.1
   ·subst hv
    rw[wP]at hq;cases hq;simp only[wP,xw hne];exact hr
   ·rw[xw hv]at hq
    have h3:=h.i3 v q hq;simp only[xw hv];by_cases hu:q.2.1=p.2.2.1
    ·rw[hu,wP]
     have:=h.i6 v;omega
    ·rw[xw hu];exact h3
  ·intro q hq hrq
   dsimp only at hrq⊢;have hu:q.2.1≠p.2.2.1:=fun e=>by rw[e,wP]at hrq;omega
   simp only[xw hu]at hrq⊢;have:=hmono q.2.2.1;rcases List.mem_append.1 hq with hq|hq
   ·have:=h.i4d q hq hrq
    omega
   ·simp only[List.mem_singleton]at hq
    subst hq;rw[wP];exact Int.le_refl _
  ·intro q hq hrq
   dsimp only at hrq⊢;have hu:q.2.1≠p.2.2.1:=fun e=>by rw[e,wP]at hrq;omega
   simp only[xw hu]at hrq⊢;have:=hmono q.2.2.1;have:=h.i4l q (by simp[hq]) hrq;omega
  ·intro v c n hb
   dsimp only at hb;rcases cyc (fun v q hq=>(h.i2 v q hq).2.2) hne hc hb with h1|⟨h1,h2,h3⟩
   ·omega
   ·by_cases hv:v=p.2.2.1
    ·exact(h2 hv).elim
    ·exact h.i5 v c n (h3 hv)
  ·intro v
   by_cases hv:v=p.2.2.1
   ·subst hv;simp only[wP];exact Nat.le_refl _
   ·simp only[xw hv];exact h.i6 v
  ·intro v
   exact Int.le_trans (hmono v) (h.i7 v)
 ·rw[if_neg hc]
  have hle:s.f p.2.2.1<=s.f p.2.1+p.2.2.2:=by
   have h7:=h.i7 p.2.1;unfold cnd at hc;have:s.f p.2.1≠NEV:=by unfold NEV;omega
   simp only[not_and,Int.not_lt]at hc;exact hc this
  refine⟨h.i1,fun v q hq=>?_,h.i3,fun q hq hrq=>?_,fun q hq=>h.i4l q (by simp[hq]),h.i5,h.i6,h.i7⟩
  ·obtain⟨h1,h2,h3⟩:=h.i2 v q hq
   exact⟨by simp only[List.mem_append,List.mem_cons,List.not_mem_nil,or_false]at h1⊢;rcases h1 with h1|h1|h1<;>simp[h1],h2,h3⟩
  ·rcases List.mem_append.1 hq with hq|hq
   ·exact h.i4d q hq hrq
   ·simp only[List.mem_singleton]at hq
    subst hq;exact hle
theorem Inv.go{N:Int->Prop}{K:Nat}(hK:1<=K):∀(left done:List Rl)(s:St),(∀p∈left,p.2.1≠p.2.2.1)->Inv N K done left s->Inv N K (done++left) [] (left.foldl (BF.rel K) s)
 |[],done,s,_,h=>by simpa using h
 |p::left,done,s,hne,h=>by
  have h1:=h.rel hK (hne p (by simp));have:=Inv.go hK left (done++[p]) _ (fun q hq=>hne q (by simp[hq])) h1;simpa using this
theorem Inv.pass{N:Int->Prop}{K:Nat}{R:List Rl}{s:St}(hne:∀p∈R,p.2.1≠p.2.2.1)(h:Inv N K R [] s):Inv N (K+1) R [] (pass R (K+1) s):=by
 have h0:Inv N (K+1) [] R s:=⟨h.i1,by simpa using h.i2,h.i3,by simp,fun q hq hr=>h.i4d q hq (by omega),h.i5,fun v=>Nat.le_succ_of_le (h.i6 v),h.i7⟩;have:=Inv.go (by omega) R [] s hne h0;simpa[BF.pass]using this
theorem Inv.zero{N:Int->Prop}{R:List Rl}:Inv N 0 R [] start:=by
 refine⟨fun v=>by simp[start],fun v p h=>by simp[start]at h,fun v p h=>by simp[start]at h,fun q _ h=>by omega,by simp,fun v c n h=>?_,fun v=>by simp[start],fun v=>by simp[start]⟩;obtain⟨p,hp⟩:=h.start;simp[start]at hp
def passes(R:List Rl):Nat->St
 |0=>start
 |K+1=>pass R (K+1) (passes R K)
theorem Inv.passes{N:Int->Prop}{R:List Rl}(hne:∀p∈R,p.2.1≠p.2.2.1):∀K,Inv N K R [] (passes R K)
 |0=>Inv.zero
 |K+1=>(Inv.passes hne K).pass hne
end BF
end Go.Proofs.YtfmelbioccbdoaaGreat
end
section
namespace Go.Proofs.YtfmelbioccbdoaaGreat
open Go Go.Md Go.RowKit
open BF (Rl St Back Inv rel pass passes NEV)
def gA(X:Ar 21 Int)(t:Int):Int:=(ix X.l t).getD 0
theorem ATi{X:Ar 21 Int}{i v t:Int}(i0:0<=i)(i1:i<=20)(t0:0<=t)(t1:t<=20):gA (xK X i v) t=if t=i then v else gA X t:=by
 have hX:=X.h;unfold gA ix xK;simp only[if_pos t0,List.getElem?_set];by_cases h:t=i
 ·subst h
  rw[if_pos rfl,if_pos (by omega),if_pos rfl]
  rfl
 ·rw[if_neg (by omega),if_neg h]
theorem AQY{l:List (Int×Int)}{k v t:Int}:IL 0 (Le l k v) t=if t=k then v else IL 0 l t:=by
 induction l with
 |nil=>
  simp only[Le,IL];by_cases h:t=k
  ·rw[if_pos h,if_pos h.symm]
  ·rw[if_neg h,if_neg (Ne.symm h)]
 |cons p l ih=>
  obtain⟨a,b⟩:=p;simp only[Le];by_cases h:a=k
  ·subst h
   simp only[if_true,IL];by_cases h2:t=a
   ·rw[if_pos h2,if_pos h2.symm]
   ·rw[if_neg h2,if_neg (Ne.symm h2),if_neg (Ne.symm h2)]
  ·simp only[if_neg h,IL,ih]
   by_cases h2:a=t
   ·subst h2;rw[if_pos rfl,if_pos rfl,if_neg h]
   ·rw[if_neg h2,if_neg h2]
structure Rep(X:Ar 21 Int)(l:List (Int×Int))(s:St):Prop where
 f:∀t,0<=t->t<=20->gA X t=s.f t
 b:∀t p,s.b t=some p->IL 0 l t=p.1
def Bd(c:Int)(s:St):Prop:=∀v,-c<=s.f v/\s.f v<=NEV
def OKr(T:Int)(r:Int×Int×Int):Prop:=0<=r.1/\r.1<=T/\0<=r.2.1/\r.2.1<=T/\r.1≠r.2.1/\-100000<=r.2.2/\r.2.2<=100000
theorem Rep.step{X:Ar 21 Int}{l:List (Int×Int)}{s:St}{K:Nat}{c T:Int}{p:Rl}(h:Rep X l s)(hb:Bd c s)(hc:c<=1152921504606846976)(hT:T<=20)(hp:OKr T p.2):
  Rep (AMj (X,l) p).1 (AMj (X,l) p).2 (rel K s p):=by
 obtain⟨h1,h2,h3,h4,h5,h6,h7⟩:=hp;have ea:(ix X.l p.2.1).getD 0=s.f p.2.1:=h.f _ h1 (by omega);have eb:(ix X.l p.2.2.1).getD 0=s.f p.2.2.1:=h.f _ h3 (by omega);have hf:=hb p.2.1;have hw:BA (s.f p.2.1+p.2.2.2)=s.f p.2.1+p.2.2.2:=Gj (by unfold NEV at hf;omega);unfold AMj rel;simp only[ea,eb,hw];by_cases hcn:BF.cnd s.f p
 ·have hcn':=hcn
  obtain⟨c1,c2⟩:=hcn';rw[if_pos hcn,if_pos (by unfold NEV at c1;simp[c1];omega)];refine⟨fun t t0 t1=>?_,fun t q hq=>?_⟩
  ·rw[ATi h3 (by omega) t0 t1]
   simp only[BF.up];split
   ·rfl
   ·exact h.f t t0 t1
  ·simp only[BF.up]at hq
   rw[AQY];split
   ·rename_i e
    rw[if_pos e]at hq;cases hq
    rfl
   ·rename_i e
    rw[if_neg e]at hq;exact h.b t q hq
 ·rw[if_neg hcn,if_neg]
  ·exact h
  ·unfold BF.cnd NEV at hcn
   simp only[Bool.and_eq_true,Bool.not_eq_true',decide_eq_false_iff_not,not_and];intro a1 a2;exact hcn ⟨a1,by omega⟩
theorem Bd.rel{c:Int}{s:St}{K:Nat}{p:Rl}(h:Bd c s)(hc:0<=c)(hm:-100000<=p.2.2.2):Bd (c+100000) (rel K s p):=by
 intro v;have h1:=h v;have h2:=h p.2.1;have h3:=h p.2.2.1;unfold BF.rel;by_cases hcn:BF.cnd s.f p
 ·rw[if_pos hcn]
  simp only[BF.up];have:=hcn.2;split<;>omega
 ·rw[if_neg hcn]
  omega
theorem AHf{x:Int×List (Int×Int×Int)}(h:AB1 x=0):∀r∈AAC x,OKr x.1 r:=by
 obtain⟨_,h2,h3,h4⟩:=AOz h;intro r hr;rcases List.mem_append.1 hr with hr|hr
 ·have:=h4 r hr
  simp only[AKs,inR,Bool.and_eq_true,decide_eq_true_eq,Bool.not_eq_true',decide_eq_false_iff_not]at this;obtain⟨⟨⟨⟨a,b⟩,c,d⟩,e⟩,f,g⟩:=this;exact⟨a,b,c,d,e,f,g⟩
 ·obtain⟨t,ht,hr⟩:=List.mem_flatMap.1 hr
  have ht:=List.mem_range.1 ht;simp only[List.mem_cons,List.not_mem_nil,or_false]at hr;rcases hr with rfl|rfl
  ·unfold OKr;simp only;omega
  ·unfold OKr;simp only;omega
theorem APQ{l:List (Int×Int×Int)}{p:Rl}(h:p∈en l):p.2∈l/\ix l p.1=some p.2/\0<=p.1/\p.1<l.length:=by
 obtain⟨i,hi,e⟩:=List.getElem_of_mem h;rw[ASX]at hi;have h1:(en l)[i]?=some p:=by rw[<-e];exact List.getElem?_eq_getElem _
 rw[en_get,List.getElem?_eq_getElem hi]at h1;simp only[Option.map_some,Option.some.injEq]at h1;subst h1;exact⟨List.getElem_mem hi,NG hi,by simp,by simpa using hi⟩
def Rs(x:Int×List (Int×Int×Int)):List Rl:=en (AAC x)
theorem AVB{x:Int×List (Int×Int×Int)}(h:AB1 x=0):∀p∈Rs x,OKr x.1 p.2:=fun p hp=>AHf h _ (APQ hp).1
theorem AVC{x:Int×List (Int×Int×Int)}(h:AB1 x=0):∀p∈Rs x,p.2.1≠p.2.2.1:=fun p hp=>(AVB h p hp).2.2.2.2.1
def Pot(x:Int×List (Int×Int×Int)):Prop:=∃p:Int->Int,∀r∈AAC x,p r.2.1<=p r.1+r.2.2

end Go.Proofs.YtfmelbioccbdoaaGreat
end
section
namespace Go.Proofs.YtfmelbioccbdoaaGreat
open Go Go.Md Go.RowKit
section
abbrev RR:=Int×Int×Int
section
variable {F:Nat}{all:List RR}{xJ:List Int}
section
variable {x:Int×List RR}
end
end
end
end Go.Proofs.YtfmelbioccbdoaaGreat
end
section
namespace Go.Proofs.YtfmelbioccbdoaaGreat
open Go Go.Md Go.RowKit
open BF (Rl St Back rel pass NEV)
inductive PC(R:List RR)(a:Int):Int->Int->Prop
 |nil:PC R a a 0
 |snoc {u c:Int} {r:RR} (h:PC R a u c) (hr:r∈R) (hu:r.1=u):PC R a r.2.1 (c+r.2.2)
theorem PC.trans{R:List RR}{a b t c d:Int}(h:PC R a b c)(k:PC R b t d):PC R a t (c+d):=by
 induction k with
 |nil=>simpa using h
 |snoc _ hr hu ih=>rw[<-Int.add_assoc];exact .snoc ih hr hu
theorem PC.one{R:List RR}{r:RR}(hr:r∈R):PC R r.1 r.2.1 r.2.2:=by
 have:=PC.snoc (PC.nil (R:=R) (a:=r.1)) hr rfl;simpa using this
theorem PC.pot{R:List RR}{p:Int->Int}(hp:∀r∈R,p r.2.1<=p r.1+r.2.2){a t c:Int}(h:PC R a t c):p t<=p a+c:=by
 induction h with
 |nil=>omega
 |snoc _ hr hu ih=>
  have:=hp _ hr;rw[hu]at this;omega
theorem PC.node{x:Int×List RR}(h:AB1 x=0){a t c:Int}(a0:0<=a)(a1:a<=x.1)(hp:PC (AAC x) a t c):0<=t/\t<=x.1:=by
 cases hp with
 |nil=>exact⟨a0,a1⟩
 |snoc _ hr _=>exact⟨(AHf h _ hr).2.2.1,(AHf h _ hr).2.2.2.1⟩
theorem AGB{x:Int×List RR}{t:Int}(t0:1<=t)(t1:t<=x.1):(0,t,100000)∈AAC x/\(t,0,0)∈AAC x:=by
 have h:∀r,r=(0,t,(100000:Int))\/r=(t,0,0)->r∈AAC x:=fun r hr=>by
  refine List.mem_append.2 (.inr (List.mem_flatMap.2 ⟨(t-1).toNat,List.mem_range.2 (by omega),?_⟩));have:(((t-1).toNat:Nat):Int)+1=t:=by omega
  simp only[this,List.mem_cons,List.not_mem_nil,or_false];exact hr
 exact⟨h _ (.inl rfl),h _ (.inr rfl)⟩
theorem PC.any{x:Int×List RR}{a t:Int}(a0:0<=a)(a1:a<=x.1)(t0:0<=t)(t1:t<=x.1):∃c,PC (AAC x) a t c/\c<=100000:=by
 have h1:∃c,PC (AAC x) a 0 c/\c<=0:=by
  by_cases h:a=0
  ·subst h;exact⟨0,.nil,by omega⟩
  ·exact⟨0,PC.one (r:=(a,0,0)) (AGB (by omega) a1).2,by omega⟩
 obtain⟨c,h2,h3⟩:=h1;by_cases h:t=0
 ·subst h;exact⟨c,h2,by omega⟩
 ·exact⟨c+100000,h2.trans (PC.one (r:=(0,t,100000)) (AGB (by omega) t1).1),by omega⟩
theorem PC.low{x:Int×List RR}(h:AB1 x=0)(hP:Pot x){a t c:Int}(a0:0<=a)(a1:a<=x.1)(hp:PC (AAC x) a t c):-100000<=c:=by
 obtain⟨p,hpp⟩:=hP;obtain⟨t0,t1⟩:=hp.node h a0 a1;obtain⟨d,h1,h2⟩:=PC.any (x:=x) t0 t1 a0 a1;have:=(hp.trans h1).pot hpp;omega
def AXC(x:Int×List RR)(a t d:Int):Prop:=PC (AAC x) a t d/\∀c,PC (AAC x) a t c->d<=c
structure Jv(x:Int×List RR)(a:Int)(s:St):Prop where
 j1:∀v,s.f v=NEV\/PC (AAC x) a v (s.f v)
 j2:∀v q,s.b v=some q->q∈Rs x/\q.2.2.1=v/\s.f q.2.1+q.2.2.2<=s.f v/\s.f q.2.1≠NEV
 j3:∀v c n,Back s.b v v c n->c<0
 j4:∀v,v≠a->s.f v≠NEV->s.b v≠none
 j5:s.f a<=0
 j6:∀v,s.f v<=NEV
theorem Jv.bd{x:Int×List RR}(h:AB1 x=0)(hP:Pot x){a:Int}(a0:0<=a)(a1:a<=x.1){s:St}(hj:Jv x a s):Bd 100000 s:=by
 intro v;rcases hj.j1 v with h1|h1
 ·rw[h1];unfold NEV;omega
 ·exact⟨h1.low h hP a0 a1,hj.j6 v⟩
theorem Jv.rel{x:Int×List RR}(h:AB1 x=0){a:Int}{s:St}{K:Nat}{p:Rl}(hp:p∈Rs x)(hj:Jv x a s):Jv x a (BF.rel K s p):=by
 unfold BF.rel;by_cases hc:BF.cnd s.f p
 ·rw[if_pos hc]
  have hne:=AVC h p hp;obtain⟨c1,c2⟩:=hc;have hpc:PC (AAC x) a p.2.2.1 (s.f p.2.1+p.2.2.2):=by
   rcases hj.j1 p.2.1 with h1|h1
   ·exact(c1 h1).elim
   ·exact .snoc h1 (APQ hp).1 rfl
  have hmono:∀v,BF.up s.f p.2.2.1 (s.f p.2.1+p.2.2.2) v<=s.f v:=fun v=>by
   by_cases hv:v=p.2.2.1
   ·subst hv;rw[BF.wP];omega
   ·rw[BF.xw hv];exact Int.le_refl _
  refine⟨fun v=>?_,fun v q hq=>?_,fun v c n hb=>?_,fun v hv hf=>?_,?_,fun v=>?_⟩
  ·dsimp only
   by_cases hv:v=p.2.2.1
   ·subst hv;rw[BF.wP];exact .inr hpc
   ·rw[BF.xw hv];exact hj.j1 v
  ·dsimp only at hq⊢
   by_cases hv:v=p.2.2.1
   ·subst hv
    rw[BF.wP]at hq;cases hq;rw[BF.wP,BF.xw hne];exact⟨hp,rfl,Int.le_refl _,c1⟩
   ·rw[BF.xw hv]at hq
    obtain⟨h1,h2,h3,h4⟩:=hj.j2 v q hq;rw[BF.xw hv];refine⟨h1,h2,by have:=hmono q.2.1;omega,?_⟩;by_cases hu:q.2.1=p.2.2.1
    ·rw[hu,BF.wP]
     have:=hj.j6 p.2.2.1;omega
    ·rw[BF.xw hu];exact h4
  ·dsimp only at hb
   rcases BF.cyc (fun v q hq=>(hj.j2 v q hq).2.2.1) hne ⟨c1,c2⟩ hb with h1|⟨_,h2,h3⟩
   ·omega
   ·by_cases hv:v=p.2.2.1
    ·exact(h2 hv).elim
    ·exact hj.j3 v c n (h3 hv)
  ·dsimp only at hf⊢
   by_cases hv2:v=p.2.2.1
   ·subst hv2;rw[BF.wP];simp
   ·rw[BF.xw hv2]at hf⊢
    exact hj.j4 v hv hf
  ·have:=hmono a
   have:=hj.j5;dsimp only;omega
  ·have:=hmono v
   have:=hj.j6 v;dsimp only;omega
 ·rw[if_neg hc]
  exact hj
structure FinS(x:Int×List RR)(a:Int)(X:Ar 21 Int)(l:List (Int×Int))(s:St):Prop where
 rep:Rep X l s
 jv:Jv x a s
 fix:∀p∈Rs x,¬BF.cnd s.f p
theorem FinS.le{x:Int×List RR}(h:AB1 x=0){a:Int}{X:Ar 21 Int}{l:List (Int×Int)}{s:St}(hf:FinS x a X l s)(a0:0<=a)(a1:a<=x.1){t c:Int}(hp:PC (AAC x) a t c):s.f t<=c/\s.f t<NEV:=by
 have key:∀{u c:Int},PC (AAC x) a u c->s.f u<NEV->∀r∈AAC x,r.1=u->s.f r.2.1<=s.f u+r.2.2:=by
  intro u c _ hlt r hr hu;obtain⟨i,hi,e⟩:=List.getElem_of_mem hr;have hm:((i:Int),r)∈Rs x:=by
   have:(en (AAC x))[i]?=some ((i:Int),r):=by rw[en_get,List.getElem?_eq_getElem hi,e];rfl
   exact List.mem_of_getElem? this
  have:=hf.fix _ hm;unfold BF.cnd at this;simp only[not_and,Int.not_lt]at this;rw[<-hu]at hlt⊢;exact this (by omega)
 have h5:=hf.jv.j5;have fin0:s.f 0<=0:=by
  by_cases e:a=0
  ·rw[e]at h5;exact h5
  ·have:=key (PC.nil) (by unfold NEV;omega) (a,0,0) (AGB (by omega) a1).2 rfl
   simp only at this;omega
 have fin:∀u,0<=u->u<=x.1->s.f u<NEV:=fun u u0 u1=>by
  by_cases e:u=0
  ·subst e;unfold NEV;omega
  ·obtain⟨c0,hc0,_⟩:=PC.any (x:=x) (a:=a) (t:=0) a0 a1 (by omega) (by omega)
   have:=key hc0 (by unfold NEV;omega) (0,u,100000) (AGB (by omega) u1).1 rfl;simp only at this;unfold NEV;omega
 have hn:=hp.node h a0 a1;refine⟨?_,fin t hn.1 hn.2⟩;clear hn
 induction hp with
 |nil=>exact h5
 | @snoc u c r hpu hr hu ih=>
  have hnu:=hpu.node h a0 a1;have:=key hpu (fin u hnu.1 hnu.2) r hr hu;omega
end Go.Proofs.YtfmelbioccbdoaaGreat
end
section
namespace Go.Proofs.YtfmelbioccbdoaaGreat
open Go Go.Md Go.RowKit
open BF (Rl St Back rel pass NEV)
open Classical in
section
noncomputable def D(x:Int×List RR)(a t:Int):Int:=if h:∃d,AXC x a t d then Classical.choose h else 0
section
variable {x:Int×List RR}{a t u:Int}{F:Nat}
end
end
end Go.Proofs.YtfmelbioccbdoaaGreat
end
section
namespace Go.Proofs.YtfmelbioccbdoaaGreat
open Go Go.Md Go.RowKit
abbrev FF:Nat:=100000000000000000
end Go.Proofs.YtfmelbioccbdoaaGreat
end
section
namespace Go.Proofs.YtfmelbioccbdoaaGreat
namespace FW
section
def NV:Int:=1099511627776
abbrev Mx:=Int->Int->Int
def mm(c s:Int):Int:=if(if s<c then s else c)> -NV then(if s<c then s else c)else-NV
def nw(g:Mx)(h i k:Int):Int:=if g i h<NV/\g h k<NV then mm (g i k) (g i h+g h k)else g i k
def up1(h i k:Int)(g:Mx):Mx:=fun i' k'=>if i'=i/\k'=k then nw g h i k else g i' k'
def ANw(h i:Int)(ks:List Int)(g:Mx):Mx:=ks.foldl (fun g k=>up1 h i k g) g
def phF(h:Int)(ns is:List Int)(g:Mx):Mx:=is.foldl (fun g i=>ANw h i ns g) g
def fwF(ns hs:List Int)(g:Mx):Mx:=hs.foldl (fun g h=>phF h ns ns g) g
def Rg(g:Mx):Prop:=∀i k,-NV<=g i k/\g i k<=NV
section
variable {g:Mx}{h:Int}
theorem ATj(hg:Rg g)(h0:g h h=0)(i:Int):nw g h i h=g i h:=by
 unfold nw mm;have:=hg i h;rw[h0];split
 ·split<;>split<;>omega
 ·rfl
theorem ATk(hg:Rg g)(h0:g h h=0)(k:Int):nw g h h k=g h k:=by
 unfold nw mm;have:=hg h k;rw[h0];split
 ·split<;>split<;>omega
 ·rfl
def Part(g:Mx)(h:Int)(P:Int->Int->Prop)(g':Mx):Prop:=∀i k,(P i k->g' i k=nw g h i k)/\(¬P i k->g' i k=g i k)
theorem Part.fix(hg:Rg g)(h0:g h h=0){P:Int->Int->Prop}{g':Mx}(hp:Part g h P g'):(∀i,g' i h=g i h)/\∀k,g' h k=g h k:=by
 refine⟨fun i=>?_,fun k=>?_⟩
 ·by_cases hc:P i h
  ·rw[(hp i h).1 hc,ATj hg h0]
  ·exact(hp i h).2 hc
 ·by_cases hc:P h k
  ·rw[(hp h k).1 hc,ATk hg h0]
  ·exact(hp h k).2 hc
theorem Part.up1(hg:Rg g)(h0:g h h=0){P:Int->Int->Prop}{g':Mx}(hp:Part g h P g'){i k:Int}(hn:¬P i k):Part g h (fun a b=>P a b\/(a=i/\b=k)) (up1 h i k g'):=by
 obtain⟨h1,h2⟩:=hp.fix hg h0;have e:nw g' h i k=nw g h i k:=by
  unfold nw;rw[h1 i,h2 k,(hp i k).2 hn]
 intro a b;unfold FW.up1;by_cases hab:a=i/\b=k
 ·rw[if_pos hab]
  refine⟨fun _=>by rw[e,hab.1,hab.2],fun hno=>(hno (.inr hab)).elim⟩
 ·rw[if_neg hab]
  refine⟨fun hc=>?_,fun hc=>(hp a b).2 fun hc2=>hc (.inl hc2)⟩;rcases hc with hc|hc
  ·exact(hp a b).1 hc
  ·exact(hab hc).elim
theorem Part.row(hg:Rg g)(h0:g h h=0){i:Int}:∀(ks:List Int)(P:Int->Int->Prop)(g':Mx),ks.Nodup->(∀k∈ks,¬P i k)->Part g h P g'->Part g h (fun a b=>P a b\/(a=i/\b∈ks)) (ANw h i ks g')
 |[],P,g',_,_,hp=>by simpa[ANw]using hp
 |k::ks,P,g',hn,hk,hp=>by
  simp only[List.nodup_cons]at hn;have h1:=hp.up1 hg h0 (hk k (by simp));have h2:=Part.row hg h0 ks _ _ hn.2 (fun q hq hc=>by
   rcases hc with hc|⟨_,hc⟩
   ·exact hk q (by simp[hq]) hc
   ·exact hn.1 (hc▸hq)) h1
  have e:(fun a b=>(P a b\/(a=i/\b=k))\/(a=i/\b∈ks))=fun a b=>P a b\/(a=i/\b∈k::ks):=by
   funext a b
   simp only[List.mem_cons,eq_iff_iff];constructor
   ·rintro((h|⟨h1,h2⟩)|⟨h1,h2⟩)
    ·exact .inl h
    ·exact .inr ⟨h1,.inl h2⟩
    ·exact .inr ⟨h1,.inr h2⟩
   ·rintro(h|⟨h1,h2|h2⟩)
    ·exact .inl (.inl h)
    ·exact .inl (.inr ⟨h1,h2⟩)
    ·exact .inr ⟨h1,h2⟩
  rw[e]at h2;exact h2
end
inductive PI(R:List RR)(m a:Int):Int->Int->Prop
 |one {r:RR} (hr:r∈R) (ha:r.1=a):PI R m a r.2.1 r.2.2
 |snoc {u c:Int} {r:RR} (h:PI R m a u c) (hu:u<m) (hr:r∈R) (he:r.1=u):PI R m a r.2.1 (c+r.2.2)
theorem PI.split{R:List RR}{m a:Int}(hloop:∀c,PI R m m m c->0<=c){t c:Int}(h:PI R (m+1) a t c):PI R m a t c\/∃c1 c2,PI R m a m c1/\PI R m m t c2/\c1+c2<=c:=by
 induction h with
 |one hr ha=>exact .inl (.one hr ha)
 | @snoc u c r h hu hr he ih=>
  by_cases hum:u=m
  ·subst hum
   rcases ih with ih|⟨c1,c2,h1,h2,h3⟩
   ·exact .inr ⟨c,r.2.2,ih,.one hr he,Int.le_refl _⟩
   ·have:=hloop c2 h2
    exact .inr ⟨c1,r.2.2,h1,.one hr he,by omega⟩
  ·have hum:u<m:=by omega
   rcases ih with ih|⟨c1,c2,h1,h2,h3⟩
   ·exact .inl (.snoc ih hum hr he)
   ·exact .inr ⟨c1,c2+r.2.2,h1,.snoc h2 hum hr he,by omega⟩
theorem PI.pc{R:List RR}{m a t c:Int}(h:PI R m a t c):PC R a t c:=by
 induction h with
 |one hr ha=>subst ha;exact PC.one hr
 |snoc _ _ hr he ih=>exact .snoc ih hr he
def In(n:Int)(i:Int):Prop:=0<=i/\i<n
structure Ok(R:List RR)(n m b:Int)(g:Mx):Prop where
 rg:Rg g
 dg:∀i,In n i->g i i=0
 bd:∀i k,In n i->In n k->g i k=NV\/(-b<=g i k/\g i k<=b)
 un:∀a t c,In n a->In n t->PI R m a t c->g a t<=c/\g a t<NV
 so:∀i k,In n i->In n k->g i k=NV\/PC R i k (g i k)
def So(x:Int×List RR)(g:Mx):Prop:=∀i k,(0<=i/\i<=x.1)->(0<=k/\k<=x.1)->g i k=NV\/PC (AAC x) i k (g i k)
theorem So.up1{x:Int×List RR}(hx:AB1 x=0)(hP:Pot x){g:Mx}(h:So x g){q i k:Int}(hq:0<=q/\q<=x.1)(hi:0<=i/\i<=x.1)(hk:0<=k/\k<=x.1):So x (up1 q i k g):=by
 intro a b ha hb;unfold FW.up1;split
 ·rename_i e
  rw[e.1,e.2];unfold nw;split
  ·rename_i hlt
   have s1:PC (AAC x) i q (g i q):=by
    rcases h i q hi hq with s|s
    ·omega
    ·exact s
   have s2:PC (AAC x) q k (g q k):=by
    rcases h q k hq hk with s|s
    ·omega
    ·exact s
   have s3:=s1.trans s2;have l3:=s3.low hx hP hi.1 hi.2;unfold mm;by_cases hc:g i q+g q k<g i k
   ·rw[if_pos hc,if_pos (by unfold NV;omega)]
    exact .inr s3
   ·rw[if_neg hc]
    rcases h i k hi hk with s|s
    ·rw[s,if_pos (by unfold NV;omega)]
     exact .inl rfl
    ·have:=s.low hx hP hi.1 hi.2
     rw[if_pos (by unfold NV;omega)];exact .inr s
  ·exact h i k hi hk
 ·exact h a b ha hb
theorem So.all{x:Int×List RR}(hx:AB1 x=0)(hP:Pot x){ns:List Int}(hm:∀i∈ns,0<=i/\i<=x.1){g:Mx}(h:So x g):So x (fwF ns ns g):=by
 have key:∀{β:Type}{step:Mx->β->Mx}(l:List β),(∀g,∀b∈l,So x g->So x (step g b))->∀g,So x g->So x (l.foldl step g):=by
  intro β step l
  induction l with
  |nil=>intro _ g hg;exact hg
  |cons b l ih=>
   intro hs g hg;exact ih (fun g c hc=>hs g c (by simp[hc])) _ (hs g b (by simp) hg)
 refine key ns (fun g q hq hg=>?_) g h;refine key ns (fun g i hi hg=>?_) g hg;exact key ns (fun g k hk hg=>hg.up1 hx hP (hm q hq) (hm i hi) (hm k hk)) g hg
end
end FW
end Go.Proofs.YtfmelbioccbdoaaGreat
end
section
namespace Go.Proofs.YtfmelbioccbdoaaGreat
open Go Go.Md Go.RowKit
open FW (Mx up1 ANw phF fwF nw Rg In Ok So)
section
structure RepM(n:Nat)(M:List (List Int))(g:Mx):Prop where
 len:M.length=n
 row:∀i:Nat,i<n->∃r,M[i]?=some r/\r.length=n/\∀k:Nat,k<n->r[k]?=some (g i k)
theorem RepM.at{n:Nat}{M:List (List Int)}{g:Mx}(h:RepM n M g){i:Int}(i0:0<=i)(i1:i<n):∃r,ix M i=some r/\r.length=n/\∀k:Int,0<=k->k<n->ix r k=some (g i k):=by
 obtain⟨r,h1,h2,h3⟩:=h.row i.toNat (by omega);refine⟨r,by unfold ix;rw[if_pos i0];exact h1,h2,fun k k0 k1=>?_⟩;unfold ix;rw[if_pos k0,h3 k.toNat (by omega)];have e1:((i.toNat:Nat):Int)=i:=by omega
 have e2:((k.toNat:Nat):Int)=k:=by omega
 rw[e1,e2]
section
variable {n:Nat}{F:Nat}
def g0:Mx:=fun i k=>if i=k then 0 else FW.NV
end
section
variable {x:Int×List RR}{F:Nat}
end
end
end Go.Proofs.YtfmelbioccbdoaaGreat
end
section
namespace Go.Proofs.YtfmelbioccbdoaaGreat
open Go Go.Md Go.RowKit
open BF (Rl St Back rel pass NEV)
section
section
variable {x:Int×List RR}{F:Nat}{a b t:Int}
end
end
end Go.Proofs.YtfmelbioccbdoaaGreat
end
section
namespace Go.Proofs.YtfmelbioccbdoaaGreat
open Go Go.Md Go.RowKit
open BF (Rl St Back)
section
section
variable {x:Int×List RR}{a b t:Int}{xJ:List Int}{F:Nat}
end
end
end Go.Proofs.YtfmelbioccbdoaaGreat
end
section
namespace Go.Proofs.YtfmelbioccbdoaaGreat
open Go Go.Md Go.RowKit
section
section
variable {x:Int×List RR}{F:Nat}{a b t:Int}
end
end
section
section
variable {x:Int×List RR}{F:Nat}{a b t:Int}
theorem hF2:200<FF:=by decide
theorem AMQ{u n:Int}(hu:0<=u)(hn:0<n):0<=u.tmod n/\u.tmod n<n:=⟨Int.tmod_nonneg _ hu,Int.tmod_lt_of_pos _ hn⟩
theorem APT{u n:Int}(hn:0<n):rem u n=some (u.tmod n):=by unfold rem;rw[if_neg (by omega)]
end
end
end Go.Proofs.YtfmelbioccbdoaaGreat
end
section
namespace Go.Proofs.YtfmelbioccbdoaaGreat
open Go Go.Md Go.RowKit
namespace Wo
section
theorem AQZ{zs:List Int}{t:Int}(h:∀a∈zs,a<=t)(ht:t∈zs):Lib.maxOf zs=t:=by
 have key:∀(l:List Int)(a:Int),a<=l.foldl max a/\(∀b∈l,b<=l.foldl max a)/\(l.foldl max a=a\/l.foldl max a∈l):=by
  intro l
  induction l with
  |nil=>intro a;exact⟨Int.le_refl _,(fun b hb=>by cases hb),.inl rfl⟩
  |cons b l ih=>
   intro a;rw[List.foldl_cons];obtain⟨i1,i2,i3⟩:=ih (max a b);refine⟨by omega,fun c hc=>?_,?_⟩
   ·rcases List.mem_cons.1 hc with rfl|hc
    ·omega
    ·exact i2 c hc
   ·rcases i3 with e|e
    ·rw[e]
     by_cases c:b<=a
     ·rw[Int.max_eq_left c];exact .inl rfl
     ·rw[Int.max_eq_right (by omega)];exact .inr (List.mem_cons_self ..)
    ·exact .inr (List.mem_cons_of_mem _ e)
 unfold Lib.maxOf;cases zs with
 |nil=>cases ht
 |cons b l=>
  rw[List.headD_cons];obtain⟨i1,i2,i3⟩:=key (b::l) b;have h1:=i2 t ht;rcases i3 with e|e
  ·have:=h b (List.mem_cons_self ..);omega
  ·have:=h _ e;omega
theorem AQa{F:Nat}{a b:List Int}(hF:1000<F)(ha:a.length<=100):ADS F a b=some (decide (a=b)):=by
 unfold ADS;by_cases hl:a.length=b.length
 ·rw[if_neg (by simp;omega)]
  have key:∀(m k:Nat),k<=a.length->a.length-k<m->a.take k=b.take k->AAh F a b m (k:Int)=some (if a=b then .inr ()else .inl false):=by
   intro m
   induction m with
   |zero=>intro k _ h;omega
   |succ m ih=>
    intro k hk h he;unfold AAh;by_cases hlt:k<a.length
    ·have hw:BA ((k:Int)+1)=((k+1:Nat):Int):=by rw[Gj (by omega)];rfl
     rw[if_pos (by simpa using hlt),NG hlt,NG (show k<b.length by omega)];simp only[CJ,AP];by_cases c:a[k]=b[k]'(by omega)
     ·rw[if_neg (by simpa using c),hw]
      refine ih (k+1) (by omega) (by omega) ?_;rw[List.take_succ_eq_append_getElem hlt,List.take_succ_eq_append_getElem (show k<b.length by omega),he,c]
     ·rw[if_pos (by simpa using c),if_neg (fun e=>c (by simp[e]))]
    ·rw[if_neg (by simpa using hlt),if_pos]
     rw[List.take_of_length_le (by omega),List.take_of_length_le (by omega)]at he;exact he
  have e:=key F 0 (Nat.zero_le _) (by omega) (by simp);rw[show((0:Nat):Int)=0 from rfl]at e;rw[e];by_cases c:a=b
  ·rw[if_pos c,decide_eq_true c];rfl
  ·rw[if_neg c,decide_eq_false c];rfl
 ·rw[if_pos (by simp;omega),decide_eq_false (fun e=>hl (by rw[e]))]
theorem ALB{α:Type}{R:α->α->Prop}(ht:∀a b c,R a b->R b c->R a c):∀{l:List α},(∀(t:Nat)(i j:α),l[t]?=some i->l[t+1]?=some j->R i j)->l.Pairwise R
 |[],_=>List.Pairwise.nil
 |[a],_=>List.pairwise_singleton _ _
 |a::b::l,h=>by
  have ih:=ALB ht (l:=b::l) fun t i j h1 h2=>h (t+1) i j (by simpa using h1) (by simpa using h2);have hab:=h 0 a b rfl rfl;refine List.pairwise_cons.2 ⟨fun c hc=>?_,ih⟩;rcases List.mem_cons.1 hc with rfl|hc
  ·exact hab
  ·exact ht a b c hab ((List.pairwise_cons.1 ih).1 c hc)
section
variable {F:Nat}{d:Ob ((Uno (List (Ar 2 Int)))×(Ar 101 Int))}{l:List (List Int)}{g:Tp}{v:List Int}
theorem AR7(hF:100000<F){x:Bk}(h:VL l)(hlv:Lv g l (Mt g l) v)(es:wO F x l=some (⟨some (yx d g l)⟩,0)){top:Nat}
  (ht1:∀i,i<(Mt g l).length->LV v i<=top) (ht2:((Mt g l).length=0/\top=0)\/∃i,i<(Mt g l).length/\LV v i=top):AA8 F x l v=some ((top:Int),0):=by
 have hd:=AK6 h hlv;have hv:v.length=(Mt g l).length:=hlv.1;have hn:=AIW (g:=g) h;have get:∀i,i<(Mt g l).length->v[i]?=some ((LV v i:Nat):Int):=fun i hi=>(hlv.get hi).2.1;unfold AA8;rw[show(⟨x.v⟩:Bk)=x from rfl,es];simp only[CJ,AP];rw[if_neg (by simp),if_neg (by simp;omega)];rcases ht2 with⟨h0,rfl⟩|⟨i0,hi0,et⟩
 ·rw[if_pos (by rw[decide_eq_true_eq];omega)]
  rfl
 ·have hpos:∀a∈v,∃i,i<(Mt g l).length/\a=((LV v i:Nat):Int):=fun a ha=>by
   obtain⟨i,hi,rfl⟩:=List.mem_iff_getElem.1 ha;have:=get i (by omega);rw[List.getElem?_eq_getElem hi]at this;exact⟨i,by omega,Option.some.inj this⟩
  have hne:v≠[]:=fun e=>by subst e;simp at hv;omega
  have hmin:1<=Lib.minOf v:=by
   obtain⟨i,hi,e⟩:=hpos _ (APO hne);have:=hd.one i hi;omega
  have hmax:Lib.maxOf v=(top:Int):=AQZ (fun a ha=>by
   obtain⟨i,hi,e⟩:=hpos a ha;have:=ht1 i hi;omega) (by rw[<-et];exact List.mem_of_getElem? (get i0 hi0))
  rw[if_neg (by rw[decide_eq_true_eq];omega)];obtain⟨b,e1,e2⟩:=ARL (F:=F) (d:=d) hF h hn hv F 0 false (by omega) (by omega);rw[show((0:Nat):Int)=0 from rfl]at e1;have em:ACJ v=some (Lib.minOf v):=by unfold ACJ;rw[if_neg (by omega)]
  have eM:ACK v=some (Lib.maxOf v):=by unfold ACK;rw[if_neg (by omega)]
  rw[em];simp only[AP];rw[if_neg (by rw[decide_eq_true_eq];omega),e1];simp only[AP];cases b with
  |true=>
   rcases e2.1 rfl with e|⟨i,j,_,a,b,c,r⟩
   ·cases e
   ·have hj:j<(Mt g l).length:=by omega
    have:=hd.up j i hj a r;rw[List.getD_eq_getElem?_getD,List.getD_eq_getElem?_getD,get i a,get j hj]at c;simp only[Option.getD_some]at c;omega
  |false=>rw[if_neg (by simp),eM,hmax];rfl
structure Ch(g:Tp)(l:List (List Int))(Q:List Nat):Prop where
 mem:∀i∈Q,i<(Mt g l).length
 pw:Q.Pairwise fun i j=>Bf g l i j=true
def vM(g:Tp)(l:List (List Int))(Q:List Nat):List (List Int):=Q.map fun i=>zS l.length (ML (Mt g l) i)
def nxq(g:Tp)(l:List (List Int))(Q:List Nat)(i:Nat):Bool:=match Q.getLast? with|none=>true|some q=>Bf g l q i
theorem ALC{i j k:Nat}(a:Bf g l i j=true)(b:Bf g l j k=true):Bf g l i k=true:=AJX a b
theorem Ch.add{Q:List Nat}(h:Ch g l Q){i:Nat}(hi:i<(Mt g l).length)(hn:nxq g l Q i=true):Ch g l (Q++[i]):=by
 refine⟨fun j hj=>?_,List.pairwise_append.2 ⟨h.pw,List.pairwise_singleton _ _,fun a ha b hb=>?_⟩⟩
 ·rcases List.mem_append.1 hj with hj|hj
  ·exact h.mem j hj
  ·rw[List.mem_singleton]at hj;rw[hj];exact hi
 ·rw[List.mem_singleton]at hb
  subst hb;rcases ADu Q with rfl|⟨D,y,rfl⟩
  ·cases ha
  ·have hy:Bf g l y b=true:=by
    unfold nxq at hn;simpa using hn
   rcases List.mem_append.1 ha with ha|ha
   ·exact ALC ((List.pairwise_append.1 h.pw).2.2 a ha y (by simp)) hy
   ·rw[List.mem_singleton]at ha;rw[ha];exact hy
theorem Ch.len(h:VL l){Q:List Nat}(hQ:Ch g l Q):Q.length<=8:=by
 have h2:=h.two;have hm:(Q.map fun i=>ML (Mt g l) i 0).Nodup:=by
  rw[List.Nodup,List.pairwise_map];refine hQ.pw.imp fun{a b} hab=>?_;have:=xq.1 hab 0 (by omega);omega
 have:=Jn.AGh (k:=List.range 8) hm fun a ha=>by
  obtain⟨i,hi,rfl⟩:=List.mem_map.1 ha;have hi:=hQ.mem i hi;have b:=(AB2 (List.getElem_mem hi)).1 0 (by omega);rw[<-AAa hi]at b;have:=ADd h 0;exact List.mem_range.2 (by omega)
 simpa using this
theorem yK{Q:List Nat}:(vM g l Q).length=Q.length:=by simp[vM]
theorem AEa{Q:List Nat}{k:Nat}(hk:k<Q.length):ix (vM g l Q) (k:Int)=some (zS l.length (ML (Mt g l) Q[k])):=by
 rw[NG (by rw[yK];exact hk)];simp[vM]
def AEz(g:Tp)(l:List (List Int))(Q:List Nat)(k d:Nat):List Nat:=(List.range' k d).filter (nxq g l Q)
theorem AHg(hF:1000<F)(h:VL l)(hN:(Mt g l).length<=4096){Q:List Nat}(hQ:Ch g l Q):∀(m k:Nat)(o:List Nat),k<=(Mt g l).length->(Mt g l).length-k<m->o.length<=k->
  AAR F (vM g l (List.range (Mt g l).length)) (vM g l Q) m (vM g l o) (k:Int)=some (vM g l (o++AEz g l Q k ((Mt g l).length-k)))
 |0,k,_,_,h,_=>by omega
 |m+1,k,o,hk,hm,ho=>by
  have h4:=h.four;have h8:=hQ.len h;unfold AAR;by_cases hlt:k<(Mt g l).length
  ·have hw:BA ((k:Int)+1)=((k+1:Nat):Int):=by rw[Gj (by omega)];rfl
   have hr:List.range' k ((Mt g l).length-k)=k::List.range' (k+1) ((Mt g l).length-(k+1)):=by rw[show(Mt g l).length-k=(Mt g l).length-(k+1)+1 by omega];rfl
   have ek:ix (vM g l (List.range (Mt g l).length)) (k:Int)=some (zS l.length (ML (Mt g l) k)):=by
    rw[AEa (by rw[List.length_range];exact hlt)];simp
   have e1:(if decide (((vM g l Q).length:Int)=0)=true then some true else(ix (vM g l Q) (BA (((vM g l Q).length:Int)-1))).bind fun x4=>(ix (vM g l (List.range (Mt g l).length)) (k:Int)).bind fun x5=>(ABn F x4 x5).bind fun x6=>some x6)=some (nxq g l Q k):=by
    rcases ADu Q with rfl|⟨D,y,rfl⟩
    ·rw[if_pos (by simp[vM])];rfl
    ·rw[if_neg (by rw[yK];simp;omega)]
     have ew:BA (((vM g l (D++[y])).length:Int)-1)=((D.length:Nat):Int):=by rw[yK,Gj (by simp at h8⊢;omega)];simp
     rw[ew,AEa (by simp),ek];simp only[AP];have ey:(D++[y])[D.length]'(by simp)=y:=by simp
     rw[ey,AR0 hF (by omega)];simp[nxq]
   rw[if_pos (by rw[yK,List.length_range];simpa using hlt)];simp only[CJ];rw[e1];simp only[AP];unfold AEz;rw[hr];cases hb:nxq g l Q k with
   |true=>
    rw[if_pos rfl,ek];simp only[AP];rw[yJ (by rw[yK];simp;omega)];simp only[AP];have et:vM g l o++[zS l.length (ML (Mt g l) k)]=vM g l (o++[k]):=by simp[vM]
    rw[et,hw,AHg hF h hN hQ m (k+1) (o++[k]) (by omega) (by omega) (by simp;omega),List.filter_cons_of_pos hb];unfold AEz;simp
   |false=>
    rw[if_neg (by simp)];simp only[AP];rw[hw,AHg hF h hN hQ m (k+1) o (by omega) (by omega) (by omega),List.filter_cons_of_neg (by simp[hb])]
    rfl
  ·rw[if_neg (by rw[yK,List.length_range];simpa using hlt),show(Mt g l).length-k=0 by omega]
   simp[AEz]
theorem ALD(hF:5000<F)(h:VL l){by':List (KI .u8)}(hby:∀y∈by',0<=y.v/\y.v<=255)(hbl:by'.length<=40):∀(m:Nat)(Q:List Nat)(y2:Nat),Ch g l Q->8<m+Q.length->y2<=Q.length->
  ∃Q',AAS F (vM g l (List.range (Mt g l).length)) by' m (vM g l Q) (y2:Int)=some (.inl (vM g l Q'))/\Ch g l Q'
 |0,Q,_,hQ,hm,_=>by have:=hQ.len h;omega
 |m+1,Q,y2,hQ,hm,hy=>by
  have hN:=AIW (g:=g) h;have h8:=hQ.len h;unfold AAS;have e2:=AHg (F:=F) (by omega) h hN hQ F 0 [] (Nat.zero_le _) (by omega) (by simp);rw[show((0:Nat):Int)=0 from rfl,show vM g l []=[]from rfl,List.nil_append,Nat.sub_zero]at e2;rw[e2];simp only[CJ,AP,yK];by_cases h0:(AEz g l Q 0 (Mt g l).length).length=0
  ·rw[if_pos (by simp only[decide_eq_true_eq];omega)]
   exact⟨Q,rfl,hQ⟩
  ·rw[if_neg (by simp only[decide_eq_true_eq];omega)]
   have e3:∃i:Nat,i<(AEz g l Q 0 (Mt g l).length).length/\(if decide (0<(by'.length:Int))=true then(rem (y2:Int) (by'.length:Int)).bind fun x9=>(ix by' x9).bind fun x10=>(rem (BA x10.v) ((AEz g l Q 0 (Mt g l).length).length:Int)).bind fun x11=>some x11 else some 0)=some (i:Int):=by
    by_cases hb:0<by'.length
    ·have t1:=AMQ (u:=(y2:Int)) (n:=(by'.length:Int)) (by omega) (by omega)
     obtain⟨q,hq⟩:∃q:Nat,(y2:Int).tmod (by'.length:Int)=(q:Int):=⟨((y2:Int).tmod (by'.length:Int)).toNat,by omega⟩;have hql:q<by'.length:=by omega
     have hv:=hby _ (List.getElem_mem hql);have t2:=AMQ (u:=by'[q].v) (n:=((AEz g l Q 0 (Mt g l).length).length:Int)) hv.1 (by omega);refine⟨(by'[q].v.tmod ((AEz g l Q 0 (Mt g l).length).length:Int)).toNat,by omega,?_⟩;rw[if_pos (by simpa using hb),APT (by omega),hq];simp only[AP];rw[NG hql];simp only[AP];rw[Gj (by omega),APT (by omega)];simp only[AP]
     congr 1
     omega
    ·exact⟨0,by omega,by rw[if_neg (by simpa using hb)];rfl⟩
   obtain⟨i,hi,e4⟩:=e3;rw[e4];simp only[AP];rw[AEa hi];simp only[AP];rw[yJ (by rw[yK];simp;omega)];simp only[AP];have hc:=List.getElem_mem hi;obtain⟨c1,c2⟩:=List.mem_filter.1 hc;have c1:=List.mem_range'_1.1 c1;have et:vM g l Q++[zS l.length (ML (Mt g l) (AEz g l Q 0 (Mt g l).length)[i])]=vM g l (Q++[(AEz g l Q 0 (Mt g l).length)[i]]):=by simp[vM]
   rw[et,G5 (by omega)];exact ALD hF h hby hbl m _ (y2+1) (hQ.add (by omega) c2) (by simp;omega) (by simp;omega)
theorem AQb(hF:100000<F){x:Bk}(hx:VB x)(h:VL l)(hg:∀i j,i<101->j<101->(g i=g j↔Con (Ed x) i j)){by':List (KI .u8)}(hby:∀y∈by',0<=y.v/\y.v<=255)(hbl:by'.length<=40):∃Q,ACo F x l by'=some (vM g l Q)/\Ch g l Q:=by
 have eA:(Mt g l).map (zS l.length)=vM g l (List.range (Mt g l).length):=by
  refine List.ext_getElem (by simp[vM]) fun i h1 h2=>?_;have hi:i<(Mt g l).length:=by simpa using h1
  simp[vM,AAa hi]
 obtain⟨Q,e1,e2⟩:=ALD (F:=F) (g:=g) (by omega) h hby hbl F [] 0 ⟨by simp,List.Pairwise.nil⟩ (by simp;omega) (Nat.zero_le _);refine⟨Q,?_,e2⟩;unfold ACo;rw[show(⟨x.v⟩:Bk)=x from rfl,AMK hF hx h hg,eA];simp only[CJ,AP];unfold AEx;rw[show((0:Nat):Int)=0 from rfl,show vM g l []=[]from rfl]at e1;rw[e1]
 rfl
end
end
end Wo
end Go.Proofs.YtfmelbioccbdoaaGreat
end
section
namespace Go.Proofs.YtfmelbioccbdoaaGreat
open Go Go.Md Go.RowKit
namespace Jn
section
section
variable (n m:Nat)(pc:Nat->Nat)(ft:Nat->Nat->Bool)
end
section
variable {n m:Nat}{pc:Nat->Nat}{ft:Nat->Nat->Bool}
end
end
section
theorem b1:∀(y:Fin 256)(p:Fin 8),∃s,shr .i64 (y.val:Int) (p.val:Int)=some s/\decide (band .i64 s 1=1)=y.val.testBit p.val/\decide (band .i64 s 1=0)=!y.val.testBit p.val:=by
 have h:∀(y:Fin 256)(p:Fin 8),((shr .i64 (y.val:Int) (p.val:Int)).map fun s=>(decide (band .i64 s 1=1),decide (band .i64 s 1=0)))=some (y.val.testBit p.val,!y.val.testBit p.val):=by decide+kernel
 intro y p;obtain⟨s,h1,h2⟩:=Option.map_eq_some_iff.1 (h y p);simp only[Prod.mk.injEq]at h2;exact⟨s,h1,h2.1,h2.2⟩
section
variable {c:ACl}{X:AFF}
end
end
section
section
variable {c:ACl}{X:AFF}
end
end
section
section
variable {c:ACl}
end
end
end Jn
end Go.Proofs.YtfmelbioccbdoaaGreat
end
section
namespace Go.Proofs.YtfmelbioccbdoaaGreat
open Go Go.Md Go.RowKit
namespace L4
open Wo
section
section
variable {l:List (List Int)}{g:Tp}
end
end
end L4
end Go.Proofs.YtfmelbioccbdoaaGreat
end
section
namespace Go.Proofs.YtfmelbioccbdoaaGreat
open Go Go.Md Go.RowKit
namespace L4
open Wo Jn
section
section
variable {c:ACl}
end
end
end L4
end Go.Proofs.YtfmelbioccbdoaaGreat
end
section
namespace Go.Proofs.YtfmelbioccbdoaaGreat
open Go Go.Md Go.RowKit
namespace Sg
def met(q:List Int)(r:Int×Int):Bool:=q.any fun v=>decide (r.1<=v)&&decide (v<=r.2)
theorem ALE(a:Int):∀l:List Int,(AFs a l).length=l.length+1
 |[]=>rfl
 |b::l=>by unfold AFs;split<;>simp[ALE a l]
theorem AJb:∀l:List Int,(ACs l).length=l.length
 |[]=>rfl
 |a::l=>by unfold ACs;rw[ALE,AJb l];rfl
structure Short(l:List (Int×Int))(G:List To):Prop where
 mem:∀g∈G,∃i:Nat,l[i]?=some g.1/\g.2=(i:Int)
 apart:G.Pairwise fun a b=>a.1.2<b.1.1
 met:∀r∈l,∃g∈G,r.1<=g.1.2/\g.1.2<=r.2
 len:G.length<=l.length
theorem Short.le{l:List (Int×Int)}{G:List To}(h:Short l G){q:List Int}(hq:∀r∈l,∃e∈q,r.1<=e/\e<=r.2):G.length<=q.length:=
 AKx G q h.apart fun x hx=>by
  obtain⟨i,h1,-⟩:=h.mem x hx;exact hq _ (List.mem_of_getElem? h1)
end Sg
end Go.Proofs.YtfmelbioccbdoaaGreat
end
section
namespace Go.Proofs.YtfmelbioccbdoaaGreat
open Go Go.Md Go.RowKit
namespace LH
open Wo L5
section
theorem AR8:AB7 FF=some true:=rfl
theorem ATl{F:Nat}{x:Bk}{l:List (List Int)}{q:Int}(h:ABc F x l q=some true):(l.length:Int)<=q:=by
 unfold ABc at h;by_cases c:q<(l.length:Int)
 ·rw[if_pos (by simp[c])]at h;cases h
 ·omega
theorem AR9{g g':Tp}{l:List (List Int)}(h:VL l)(hg:∀i j,i<101->j<101->(g i=g j↔g' i=g' j)):Mt g l=Mt g' l:=by
 unfold Wo.Mt;refine List.filter_congr fun f hf=>ANo hg h (fun i hi=>(ABD _ _ hf).1 i hi) l.length (Nat.le_refl _)
section
variable {l:List (List Int)}{g:Tp}
def AGn(g:Tp)(l:List (List Int))(i:Nat):Oc:=((ML (Mt g l) i 0:Int),(ML (Mt g l) i 1:Int))
def lkh(g:Tp)(l:List (List Int)):List Oc:=(List.range (Mt g l).length).map (AGn g l)
theorem ASA:(lkh g l).length=(Mt g l).length:=by simp[lkh]
theorem AI2{i:Nat}(h:i<(Mt g l).length):(lkh g l)[i]?=some (AGn g l i):=by simp[lkh,h]
theorem APU(h2:l.length=2){i j:Nat}(hi:i<(Mt g l).length)(hj:j<(Mt g l).length)(h0:ML (Mt g l) i 0=ML (Mt g l) j 0)(h1:ML (Mt g l) i 1=ML (Mt g l) j 1):i=j:=by
 refine ATh hi hj (funext fun k=>?_);have a:=(AB2 (List.getElem_mem hi)).2.1;have b:=(AB2 (List.getElem_mem hj)).2.1;rw[<-AAa hi]at a;rw[<-AAa hj]at b
 match k with
 |0=>exact h0
 |1=>exact h1
 |k+2=>rw[a (k+2) (by omega),b (k+2) (by omega)]
theorem AQc(f:Tp):zS 2 f=[(f 0:Int),(f 1:Int)]:=rfl
theorem ASB(h:VL l)(h2:l.length=2)(h40:(Mt g l).length<=40)(h0:1<=ln l 0)(h1:1<=ln l 1):VSh (ln l 0) (ln l 1) (lkh g l):=by
 have a0:=ADd h 0;have a1:=ADd h 1;refine⟨⟨h0,by omega⟩,⟨h1,by omega⟩,by rw[ASA];exact h40,fun x hx=>?_,?_⟩
 ·obtain⟨i,hi,rfl⟩:=List.mem_map.1 hx
  have hi:=List.mem_range.1 hi;have b:=(AB2 (List.getElem_mem hi)).1;rw[<-AAa hi]at b;have b0:=b 0 (by omega);have b1:=b 1 (by omega);unfold AGn;simp only;omega
 ·unfold lkh
  refine Jn.AJS List.nodup_range fun i hi j hj e=>?_;have e0:=congrArg Prod.fst e;have e1:=congrArg Prod.snd e;unfold AGn at e0 e1;simp only at e0 e1;exact APU h2 (List.mem_range.1 hi) (List.mem_range.1 hj) (by omega) (by omega)
theorem AVD(h:VL l){Q:List Nat}(hQ:Ch g l Q):Q.Pairwise (·<·):=
 List.Pairwise.imp_of_mem (fun{a b} ha hb hab=>APL h (hQ.mem a ha) (hQ.mem b hb) hab) hQ.pw
theorem ARO(h2:l.length=2){Q:List Nat}(hQ:Ch g l Q):Jo (lkh g l) (fun _=>true) Q:=by
 refine⟨fun k hk=>⟨_,AI2 (hQ.mem k hk),rfl⟩,?_⟩;unfold Jg;refine List.Pairwise.imp_of_mem (fun{a b} ha hb hab x y hx hy=>?_) hQ.pw;rw[AI2 (hQ.mem a ha)]at hx;rw[AI2 (hQ.mem b hb)]at hy;cases hx;cases hy;have b0:=xq.1 hab 0 (by omega);have b1:=xq.1 hab 1 (by omega);unfold AGn;simp only;omega
theorem ALF{F:Nat}(h2:l.length=2)(h40:(Mt g l).length<=40){e a b:Int}:∀(m k:Nat)(o:List Oc),k<=(Mt g l).length->(Mt g l).length-k<m->o.length<=k->
  wX F (vM g l (List.range (Mt g l).length),e) m (k:Int) (a,b,o,[])=some (.inr (a,b,o++(List.range' k ((Mt g l).length-k)).map (AGn g l),[]))
 |0,k,_,_,h,_=>by omega
 |m+1,k,o,hk,hm,ho=>by
  unfold wX;by_cases hlt:k<(Mt g l).length
  ·have hw:BA ((k:Int)+1)=((k+1:Nat):Int):=by rw[Gj (by omega)];rfl
   have hr:List.range' k ((Mt g l).length-k)=k::List.range' (k+1) ((Mt g l).length-(k+1)):=by rw[show(Mt g l).length-k=(Mt g l).length-(k+1)+1 by omega];rfl
   have ek:ix (vM g l (List.range (Mt g l).length)) (k:Int)=some [((ML (Mt g l) k 0:Nat):Int),((ML (Mt g l) k 1:Nat):Int)]:=by
    rw[AEa (by rw[List.length_range];exact hlt),h2];simp[AQc]
   rw[if_pos (by rw[yK,List.length_range];simpa using hlt)];simp only;rw[ek];simp only[CJ,AP];rw[if_neg (by simp)];have g0:ix [((ML (Mt g l) k 0:Nat):Int),((ML (Mt g l) k 1:Nat):Int)] 0=some ((ML (Mt g l) k 0:Nat):Int):=rfl;have g1:ix [((ML (Mt g l) k 0:Nat):Int),((ML (Mt g l) k 1:Nat):Int)] 1=some ((ML (Mt g l) k 1:Nat):Int):=rfl;rw[g0,g1];unfold AEP;simp only[AP];rw[yJ (by simp;omega)];simp only[AP];rw[hw,ALF h2 h40 m (k+1) _ (by omega) (by omega) (by simp;omega),hr];simp[AGn]
  ·rw[if_neg (by rw[yK,List.length_range];simpa using hlt),show(Mt g l).length-k=0 by omega]
   simp
theorem AHh{F:Nat}(hF:1000<F)(h2:l.length=2)(h40:(Mt g l).length<=40){p q:List (List Int)}{y:Int}{Q:List Nat}(hP:ix [p,q] y=some (vM g l Q))(hQ:∀i∈Q,i<(Mt g l).length){e e':Int}{t:Nat}(ht:t<Q.length):∀(m k:Nat)(o:List Int),k<=(Mt g l).length->(Mt g l).length-k<m->o.length+((Mt g l).length-k)<=1000->
  wu F (vM g l (List.range (Mt g l).length),e) (p,e') q y (t:Int) m o (k:Int)=some (o++if k<=Q[t]then[(Q[t]:Int)]else[])
 |0,k,_,_,h,_=>by omega
 |m+1,k,o,hk,hm,ho=>by
  have hqt:=hQ _ (List.getElem_mem ht);unfold wu;by_cases hlt:k<(Mt g l).length
  ·have hw:BA ((k:Int)+1)=((k+1:Nat):Int):=by rw[Gj (by omega)];rfl
   have ek:ix (vM g l (List.range (Mt g l).length)) (k:Int)=some (zS l.length (ML (Mt g l) k)):=by
    rw[AEa (by rw[List.length_range];exact hlt)];simp
   rw[if_pos (by rw[yK,List.length_range];simpa using hlt)];simp only;rw[ek,hP];simp only[CJ,AP];rw[AEa ht];simp only[AP];rw[AQa hF (by rw[AFj];omega)];simp only[AP];have hsame:zS l.length (ML (Mt g l) k)=zS l.length (ML (Mt g l) Q[t])↔k=Q[t]:=by
    constructor
    ·intro e
     rw[h2,AQc,AQc]at e;simp only[List.cons.injEq,and_true]at e;exact APU h2 hlt hqt (by omega) (by omega)
    ·intro e;rw[e]
   by_cases c:k=Q[t]
   ·rw[if_pos (by simpa using hsame.2 c),yJ (by simp;omega)]
    simp only[AP];have hk':((k:Nat):Int)=((Q[t]:Nat):Int):=by rw[<-c]
    rw[hw,AHh hF h2 h40 hP hQ ht m (k+1) _ (by omega) (by omega) (by simp;omega),if_neg (by omega),if_pos (by omega),hk'];simp
   ·rw[if_neg (by simpa using fun e=>c (hsame.1 e))]
    simp only[AP];rw[hw,AHh hF h2 h40 hP hQ ht m (k+1) _ (by omega) (by omega) (by omega)];by_cases c2:k<=Q[t]
    ·rw[if_pos c2,if_pos (by omega)]
    ·rw[if_neg c2,if_neg (by omega)]
  ·rw[if_neg (by rw[yK,List.length_range];simpa using hlt),if_neg (by omega)]
   simp
theorem ALG{F:Nat}(hF:2000<F)(h2:l.length=2)(h40:(Mt g l).length<=40){p q:List (List Int)}{y:Int}{Q:List Nat}(hP:ix [p,q] y=some (vM g l Q))(hQ:∀i∈Q,i<(Mt g l).length)(hl:Q.length<=100){e e':Int}:∀(m t:Nat),t<=Q.length->Q.length-t<m->
  xA F (vM g l (List.range (Mt g l).length),e) (p,e') q y m (nI (Q.take t)) (t:Int)=some (nI Q)
 |0,t,_,h=>by omega
 |m+1,t,ht,hm=>by
  unfold xA;simp only;rw[hP];simp only[CJ,AP];by_cases hlt:t<Q.length
  ·have hw:BA ((t:Int)+1)=((t+1:Nat):Int):=by rw[Gj (by omega)];rfl
   have e4:=AHh (F:=F) (by omega) h2 h40 hP hQ (e:=e) (e':=e') hlt F 0 (nI (Q.take t)) (Nat.zero_le _) (by omega) (by simp;omega);rw[if_pos (Nat.zero_le _),show((0:Nat):Int)=0 from rfl]at e4;rw[if_pos (by rw[yK];simpa using hlt),e4];simp only[AP];have et:nI (Q.take t)++[((Q[t]:Nat):Int)]=nI (Q.take (t+1)):=by
    rw[List.take_succ_eq_append_getElem hlt];unfold nI;rw[List.map_append]
    rfl
   rw[et,hw];exact ALG hF h2 h40 hP hQ hl m (t+1) (by omega) (by omega)
  ·rw[if_neg (by rw[yK];simpa using hlt),List.take_of_length_le (by omega)]
theorem ALH{F:Nat}(hF:2000<F)(h:VL l)(h2:l.length=2)(h40:(Mt g l).length<=40)(hV:VSh (ln l 0) (ln l 1) (lkh g l)){A B:List Nat}(hA:Ch g l A)(hB:Ch g l B){e e':Int}:∀(m y:Nat),y<=2->2-y<m->
  xB F (vM g l (List.range (Mt g l).length),e) (vM g l A,e') (vM g l B) ((ln l 0:Int),(ln l 1:Int),lkh g l,[]) m (y:Int)=some (.inr ())
 |0,y,_,h=>by omega
 |m+1,y,hy,hm=>by
  unfold xB;by_cases hlt:y<2
  ·have hw:BA ((y:Int)+1)=((y+1:Nat):Int):=by rw[Gj (by omega)];rfl
   obtain⟨Q,hQ,eQ⟩:∃Q,Ch g l Q/\ix [vM g l A,vM g l B] (y:Int)=some (vM g l Q):=by
    match y,hlt with
    |0,_=>exact⟨A,hA,rfl⟩
    |1,_=>exact⟨B,hB,rfl⟩
   have h8:=hQ.len h;have e3:=ALG (F:=F) hF h2 h40 eQ hQ.mem (by omega) (e:=e) (e':=e') F 0 (Nat.zero_le _) (by omega);rw[show((0:Nat):Int)=0 from rfl,List.take_zero,show nI []=[]from rfl]at e3;rw[if_pos (by rw[decide_eq_true_eq];omega),e3];simp only[CJ,AP];rw[eQ];simp only[AP];have el:decide ((((nI Q).length:Nat):Int)=(((vM g l Q).length:Nat):Int))=true:=by rw[yK,List.length_map];simp
   rw[el,AIR (by omega) hV (AVD h hQ) (ARO h2 hQ)];simp only[Bool.not_true,Bool.not_false,gd,cond_true,AP];rw[if_neg (by simp),hw];exact ALH hF h h2 h40 hV hA hB m (y+1) (by omega) (by omega)
  ·rw[if_neg (by rw[decide_eq_true_eq];omega)]
end
theorem AVE{l:List (List Int)}{g:Tp}{top:Nat}{v:List Int}{q:List Nat}(h:Ps (Mt g l).length top (LV v) (Bf g l) q):Ch g l q:=
 ⟨fun i hi=>(h.mem i hi).1,ALB (R:=fun i j=>Bf g l i j=true) (fun _ _ _=>ALC) h.seq⟩
theorem AVF(x:Bk)(l:List (List Int)){by':List (KI .u8)}(hby:∀y∈by',0<=y.v/\y.v<=255):AAo FF x l by'=some true:=by
 have hF:100000<FF:=by decide
 have hF2:2000<FF:=by decide
 unfold AAo;rw[show(⟨x.v⟩:Bk)=x from rfl,AR8];obtain⟨b,e1,e2⟩:=AQU (F:=FF) (by decide) x l (q:=2) (by omega);rw[e1];simp only[CJ,AP];cases b with
 |false=>rfl
 |true=>
 obtain⟨hv,h⟩:=e2 rfl;have h2:l.length=2:=by have:=ATl e1;have:=h.two;omega
 have i0:ix l 0=some (l[0]'(by omega)):=by rw[show(0:Int)=((0:Nat):Int)from rfl,NG]
 have i1:ix l 1=some (l[1]'(by omega)):=by rw[show(1:Int)=((1:Nat):Int)from rfl,NG]
 have n0:ln l 0=(l[0]'(by omega)).length:=by unfold ln;simp[h2]
 have n1:ln l 1=(l[1]'(by omega)).length:=by unfold ln;simp[h2]
 rw[if_neg (by simp),i0,i1];simp only[AP];by_cases z0:(l[0]'(by omega)).length=0
 ·rw[if_pos (by simp only[decide_eq_true_eq];omega),if_pos trivial]
  rfl
 rw[if_neg (by simp only[decide_eq_true_eq];omega)];by_cases z1:(l[1]'(by omega)).length=0
 ·rw[if_pos (by simp only[decide_eq_true_eq];omega)]
  rfl
 rw[if_neg (by simp only[decide_eq_true_eq];omega)];simp only[AP];by_cases hb40:40<by'.length
 ·rw[if_pos (by simp;omega)]
 rw[if_neg (by simp;omega)];obtain⟨d0,g0,es0,hg0⟩:=ARy hF hv h;have hN0:=AIW (g:=g0) h;rw[ANv (d:=d0) hF (by omega) hN0 es0];simp only[AP,decide_true,Bool.not_true,Bool.not_false,gd,cond_true];have em:ADa FF x l=some ((Wo.Mt g0 l).length:Int):=by
  unfold ADa;rw[show(⟨x.v⟩:Bk)=x from rfl,AMK hF hv h hg0];simp
 rw[em];simp only[AP];rw[if_neg (by simp)];by_cases h40:40<(Wo.Mt g0 l).length
 ·rw[if_pos (by simp;omega)]
 rw[if_neg (by simp;omega)];obtain⟨g,hg,hW⟩:=AR5 hF hv h;have eM:Wo.Mt g0 l=Wo.Mt g l:=AR9 h fun i j hi hj=>(hg0 i j hi hj).trans (hg i j hi hj).symm;rw[eM]at h40⊢;have h40':(Wo.Mt g l).length<=40:=by omega
 have hb':by'.length<=40:=by omega
 have h1000:1000<FF:=by decide
 have p0:1<=ln l 0:=by omega
 have p1:1<=ln l 1:=by omega
 have hV:=ASB h h2 (g:=g) h40' p0 p1;obtain⟨d,v,top,q,hlv,es,ht1,ht2,eL,el,ew,eG,hq⟩:=hW h40';have elv:=AR7 hF h hlv es ht1 ht2;clear ht2;have eA:(Wo.Mt g l).map (zS l.length)=vM g l (List.range (Wo.Mt g l).length):=by
  refine List.ext_getElem (by simp[vM]) fun i h1 h2=>?_;have hi:i<(Wo.Mt g l).length:=by simpa using h1
  simp[vM,AAa hi]
 rw[eA];have e5:=ALF (g:=g) (F:=FF) h2 h40' (e:=0) (a:=(ln l 0:Int)) (b:=(ln l 1:Int)) FF 0 [] (Nat.zero_le _) (Nat.lt_of_le_of_lt (show _<=40 by omega) (by decide)) (by simp);rw[show((0:Nat):Int)=0 from rfl,List.nil_append,Nat.sub_zero,<-List.range_eq_range',n0,n1]at e5;rw[show((List.range (Wo.Mt g l).length).map (AGn g l))=lkh g l from rfl]at e5;rw[e5];simp only[AP];rw[n0,n1]at hV;rw[AO6 h1000 hV];simp only[AP];rw[if_neg (by simp),eG,eL];simp only[AP];obtain⟨Q,q1,q2,q3⟩:=AQQ (F:=FF) h1000 hV;obtain⟨t,A,B,c1,c2,c3⟩:=AQR (F:=FF) h1000 hV;have hqch:=AVE hq;have hle:=q2.le _ (ARO h2 hqch);have et:t=mc Q:=by
  have a:=c1.le;have b:=q2.le;obtain⟨M,m1,rfl⟩:=c1.ex;obtain⟨M',m2,e⟩:=q2.ex;have:=a _ m2;have:=b _ m1;omega
 rw[q3];simp only[AP];have hgl:(ACs ((fnd Q).map fun k:Nat=>(k:Int))).length=mc Q:=by rw[Sg.AJb,List.length_map,AIu]
 have htq:(q.map fun i=>zS l.length (ML (Wo.Mt g l) i))=vM g l q:=rfl;rw[htq,if_neg (by rw[hgl,yK];simp;omega),elv];simp only[AP];rw[c2];simp only[AP];rw[c3];simp only[AP];rw[if_neg (by rw[hgl,yK,hq.len,et];simp)];obtain⟨C,k1,k2⟩:=AQb (F:=FF) hF hv h hg hby hb';rw[k1];simp only[AP];have e6:=ALH (F:=FF) hF2 h h2 h40' (by rw[n0,n1];exact hV) hqch k2 (e:=0) (e':=0) FF 0 (Nat.zero_le _) (Nat.lt_of_le_of_lt (show _<=2 by omega) (by decide));rw[show((0:Nat):Int)=0 from rfl,n0,n1]at e6;rw[e6]
 rfl
theorem AGo(x:Bk)(l:List (List Int)){by':List (KI .u8)}(hby:∀y∈by',(Lit.int .u8 y.v).wf=true):AAo FF x l by'=some true:=by
 have hb:∀{v:Int},(Lit.int .u8 v).wf=true->0<=v/\v<=255:=fun{v} h=>by simp[Lit.wf]at h;exact h
 exact AVF x l fun y hy=>hb (hby y hy)
end
end LH
end Go.Proofs.YtfmelbioccbdoaaGreat
end
section
namespace Go.Proofs.YtfmelbioccbdoaaGreat
namespace TopHeardListsP
open Go
theorem band{a b:Bool}(h:a=true)(k:b=true):(a&&b)=true:=by rw[h,k];rfl
theorem jf0:(Rows.topHeardListsRow.wf (OpenSpec.ofChange Rows.topHeardListsSpec))=true:=by kernel_rfl
theorem jf1:(laidOutB Tryz.pinned.checked.prog)=true:=by kernel_rfl
theorem jf2:(mapsRowed Tryz.pinned.checked.prog)=true:=by kernel_rfl
theorem jf3:(Tryz.f8.params.all (Tryz.pinned.checked.prog.readableRec ·))=true:=by kernel_rfl
theorem jf4:(namedTie Tryz.pinned.checked.prog Rows.topHeardListsRow.named Rows.topHeardListsSpec.vars)=true:=by kernel_rfl
theorem jf5:((Rows.topHeardListsRow.stops==[]))=true:=by kernel_rfl
theorem jf6:((Tryz.pinned.checked.prog.stops==[]))=true:=by kernel_rfl
theorem jf7:((Rows.topHeardListsRow.knobs==[]))=true:=by kernel_rfl
theorem jf8:((Tryz.pinned.checked.prog.stopKnobs==[]))=true:=by kernel_rfl
theorem jf9:((Rows.topHeardListsRow.inPlace==Tryz.pinned.checked.prog.inPlace (8:FuncId)))=true:=by kernel_rfl
theorem AXD:((Rows.topHeardListsRow.unfollowed==Tryz.pinned.checked.prog.unfollowed (8:FuncId)))=true:=by kernel_rfl
theorem AXE:((Rows.topHeardListsRow.recurses==Tryz.pinned.checked.prog.recurses (8:FuncId)))=true:=by kernel_rfl
theorem AXF:((Rows.topHeardListsRow.named==Tryz.pinned.checked.prog.varsNamed (8:FuncId)))=true:=by kernel_rfl
theorem AXG:((Rows.topHeardListsRow.maps==(Tryz.f8.params.toList++Rows.topHeardListsSpec.plain.varTypes Tryz.pinned.checked.prog).any (Tryz.pinned.checked.prog.mapsRec ·)))=true:=by kernel_rfl
theorem AXH:((Rows.topHeardListsRow.ifaces==(Tryz.f8.params.toList++Rows.topHeardListsSpec.plain.varTypes Tryz.pinned.checked.prog).any (Tryz.pinned.checked.prog.ifacesRec ·)))=true:=by kernel_rfl
theorem AXI:((Rows.topHeardListsRow.mapsOut==Tryz.pinned.checked.prog.mapsAmong Tryz.f8.resultTypes.toList))=true:=by kernel_rfl
theorem AXJ:((Rows.topHeardListsRow.loops==(Tryz.f8.params.toList++Rows.topHeardListsSpec.plain.varTypes Tryz.pinned.checked.prog).any (Tryz.pinned.checked.prog.loopsFrom ·)))=true:=by kernel_rfl
theorem AXK:((Rows.topHeardListsRow.wideKeys==(Tryz.f8.params.toList++Rows.topHeardListsSpec.plain.varTypes Tryz.pinned.checked.prog++Tryz.f8.resultTypes.toList).any (Tryz.pinned.checked.prog.wideKeysFrom ·)))=true:=by kernel_rfl
theorem AXL:(Rows.topHeardListsSpec.vars.all (Tryz.pinned.checked.prog.varReadable ·))=true:=by kernel_rfl
theorem AXM:(Tryz.f8.resultTypes.all (fun t=>Tryz.pinned.checked.prog.readableRec t&&decide (t<Tryz.pinned.checked.prog.types.size)))=true:=by kernel_rfl
theorem AXN:((Rows.topHeardListsRow.ifacesOut==Tryz.f8.resultTypes.toList.any (Tryz.pinned.checked.prog.ifacesRec ·)))=true:=by kernel_rfl
theorem AXO:((Rows.topHeardListsRow.loopsOut==Tryz.f8.resultTypes.toList.any (Tryz.pinned.checked.prog.loopsFrom ·)))=true:=by kernel_rfl
theorem AXP:((Rows.topHeardListsRow.plainKeys==Tryz.pinned.checked.prog.plainKeys))=true:=by kernel_rfl
theorem AXQ:(Rows.topHeardListsRow.shortTexts.isNone)=true:=by kernel_rfl
theorem AXR:(Tryz.pinned.checked.prog.stopsHeard)=true:=by kernel_rfl
theorem AXS:(Tryz.pinned.checked.prog.mayEnter)=true:=by kernel_rfl
theorem AXT:((Rows.topHeardListsRow.lifted==Tryz.pinned.checked.prog.liftsFinal))=true:=by kernel_rfl
theorem AXU:((Tryz.pinned.checked.prog.make==some Rows.topHeardListsRow.make))=true:=by kernel_rfl
theorem AXV:((Rows.topHeardListsRow.kinds==(if Rows.topHeardListsRow.domain.isEmpty then[]else Tryz.f8.params.toList.map fun t=>match Tryz.pinned.checked.prog.underlying t with|some (.int k)=>some k|_=>none)))=true:=by kernel_rfl
theorem AXW:((Rows.topHeardListsRow.pinned==Rows.topHeardListsRow.pinnedBy))=true:=by kernel_rfl
theorem AXX:((Rows.topHeardListsRow.veiled==(Tryz.f8.params.toList++Rows.topHeardListsSpec.plain.varTypes Tryz.pinned.checked.prog++Tryz.f8.resultTypes.toList).any (Tryz.pinned.checked.prog.veiledRec ·)))=true:=by kernel_rfl
theorem AXY:(Rows.topHeardListsRow.veiledFits Tryz.pinned.checked.prog Tryz.f8.params.toList (Tryz.f8.params.toList++Rows.topHeardListsSpec.plain.varTypes Tryz.pinned.checked.prog++Tryz.f8.resultTypes.toList))=true:=by kernel_rfl
theorem named:Tryz.pinned.checked.prog.funcNamed Rows.topHeardListsRow.func=some 8:=by kernel_rfl
end TopHeardListsP
end Go.Proofs.YtfmelbioccbdoaaGreat
end
