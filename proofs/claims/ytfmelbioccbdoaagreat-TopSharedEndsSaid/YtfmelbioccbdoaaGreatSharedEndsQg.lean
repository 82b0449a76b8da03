/-
  Part 7 of 7 of what the last text stands on: lemmas about the model, pure functions, walks, laws in plain Lean; each part's own head says its condition. Merged by a program of our own.
-/
import Derived.Test.YtfmelbioccbdoaaGreatSharedEndsQf
import Derived.Test.YtfmelbioccbdoaaGreatRows
import Derived.JoinedOf
set_option maxHeartbeats 0
set_option linter.all false
section
namespace Go.Proofs.YtfmelbioccbdoaaGreat
open Go Go.Md Go.RowKit
open BF (Rl St Back Inv rel pass passes NEV)
def gA (X:Ar 21 Int) (t:Int):Int:=(ix X.l t).getD 0
theorem ixA {X:Ar 21 Int} {t:Int} (h0:0≤t) (h1:t≤20):ix X.l t=some (gA X t):=ix_ar h0 h1
theorem gA_set {X:Ar 21 Int} {i v t:Int} (i0:0≤i) (i1:i≤20) (t0:0≤t) (t1:t≤20):gA (aset X i v) t=if t=i then v else gA X t:=by
 have hX:=X.h
 unfold gA ix aset
 simp only [if_pos t0,List.getElem?_set]
 by_cases h:t=i
 ·subst h
  rw [if_pos rfl,if_pos (by omega),if_pos rfl]
  rfl
 ·rw [if_neg (by omega),if_neg h]
theorem arExt {X Y:Ar 21 Int} (h:∀ t,0≤t→t≤20→gA X t=gA Y t):X=Y:=by
 obtain ⟨a,ha⟩:=X
 obtain ⟨b,hb⟩:=Y
 congr 1
 apply List.ext_getElem (by omega)
 intro i h1 h2
 have:=h i (by omega) (by omega)
 simpa [gA,ix,List.getElem?_eq_getElem h1,List.getElem?_eq_getElem h2] using this
theorem mget_put {l:List (Int×Int)} {k v t:Int}:mget 0 (mput l k v) t=if t=k then v else mget 0 l t:=by
 induction l with
 | nil =>
  simp only [mput,mget]
  by_cases h:t=k
  ·rw [if_pos h,if_pos h.symm]
  ·rw [if_neg h,if_neg (Ne.symm h)]
 | cons p l ih =>
  obtain ⟨a,b⟩:=p
  simp only [mput]
  by_cases h:a=k
  ·subst h
   simp only [if_true,mget]
   by_cases h2:t=a
   ·rw [if_pos h2,if_pos h2.symm]
   ·rw [if_neg h2,if_neg (Ne.symm h2),if_neg (Ne.symm h2)]
  ·simp only [if_neg h,mget,ih]
   by_cases h2:a=t
   ·subst h2; rw [if_pos rfl,if_pos rfl,if_neg h]
   ·rw [if_neg h2,if_neg h2]
structure Rep (X:Ar 21 Int) (l:List (Int×Int)) (s:St):Prop where
 f:∀ t,0≤t→t≤20→gA X t=s.f t
 b:∀ t p,s.b t=some p→mget 0 l t=p.1
def Bd (c:Int) (s:St):Prop:=∀ v,-c≤s.f v∧s.f v≤NEV
def OKr (T:Int) (r:Int×Int×Int):Prop:=0≤r.1∧r.1≤T∧0≤r.2.1∧r.2.1≤T∧r.1≠r.2.1∧-100000≤r.2.2∧r.2.2≤100000
theorem Rep.step {X:Ar 21 Int} {l:List (Int×Int)} {s:St} {K:Nat} {c T:Int} {p:Rl} (h:Rep X l s) (hb:Bd c s) (hc:c≤1152921504606846976) (hT:T≤20) (hp:OKr T p.2) :
  Rep (stepB (X,l) p).1 (stepB (X,l) p).2 (rel K s p):=by
 obtain ⟨h1,h2,h3,h4,h5,h6,h7⟩:=hp
 have ea:(ix X.l p.2.1).getD 0=s.f p.2.1:=h.f _ h1 (by omega)
 have eb:(ix X.l p.2.2.1).getD 0=s.f p.2.2.1:=h.f _ h3 (by omega)
 have hf:=hb p.2.1
 have hw:w64 (s.f p.2.1 + p.2.2.2)=s.f p.2.1 + p.2.2.2:=w64_in (by unfold NEV at hf; omega)
 unfold stepB rel
 simp only [ea,eb,hw]
 by_cases hcn:BF.cnd s.f p
 ·have hcn':=hcn
  obtain ⟨c1,c2⟩:=hcn'
  rw [if_pos hcn,if_pos (by unfold NEV at c1; simp [c1]; omega)]
  refine ⟨fun t t0 t1=>?_,fun t q hq=>?_⟩
  ·rw [gA_set h3 (by omega) t0 t1]
   simp only [BF.up]
   split
   ·rfl
   ·exact h.f t t0 t1
  ·simp only [BF.up] at hq
   rw [mget_put]
   split
   ·rename_i e
    rw [if_pos e] at hq
    cases hq
    rfl
   ·rename_i e
    rw [if_neg e] at hq
    exact h.b t q hq
 ·rw [if_neg hcn,if_neg]
  ·exact h
  ·unfold BF.cnd NEV at hcn
   simp only [Bool.and_eq_true,Bool.not_eq_true',decide_eq_false_iff_not,not_and]
   intro a1 a2
   exact hcn ⟨a1,by omega⟩
theorem Bd.rel {c:Int} {s:St} {K:Nat} {p:Rl} (h:Bd c s) (hc:0≤c) (hm:-100000≤p.2.2.2):Bd (c + 100000) (rel K s p):=by
 intro v
 have h1:=h v
 have h2:=h p.2.1
 have h3:=h p.2.2.1
 unfold BF.rel
 by_cases hcn:BF.cnd s.f p
 ·rw [if_pos hcn]
  simp only [BF.up]
  have:=hcn.2
  split <;> omega
 ·rw [if_neg hcn]
  omega
theorem Rep.fold {K:Nat} {T:Int} (hT:T≤20):∀ (R:List Rl) (X:Ar 21 Int) (l:List (Int×Int)) (s:St) (c:Int),(∀ p∈R,OKr T p.2)→0≤c→c + 100000 * R.length≤1152921504606846976→Rep X l s→Bd c s →
  Rep (R.foldl stepB (X,l)).1 (R.foldl stepB (X,l)).2 (R.foldl (rel K) s)∧Bd (c + 100000 * R.length) (R.foldl (rel K) s)
 | [],X,l,s,c,_,_,_,h,hb=>⟨h,by simpa using hb⟩
 | p::R,X,l,s,c,hR,hc,hlen,h,hb=>by
  have hp:=hR p (by simp)
  simp only [List.foldl_cons]
  have e:(p::R).length=R.length + 1:=rfl
  have:=Rep.fold (K:=K) hT R (stepB (X,l) p).1 (stepB (X,l) p).2 (rel K s p) (c + 100000) (fun q hq=>hR q (by simp [hq])) (by omega) (by rw [e] at hlen; omega) (h.step hb (by omega) hT hp) (hb.rel hc hp.2.2.2.2.2.1)
  rw [e]
  refine ⟨this.1,?_⟩
  have h2:=this.2
  have:c + 100000 + 100000 * (R.length:Int)=c + 100000 * ((R.length + 1:Nat):Int):=by omega
  rwa [this] at h2
theorem whole_ok {x:Int×List (Int×Int×Int)} (h:csheet x=0):∀ r∈whole x,OKr x.1 r:=by
 obtain ⟨_,h2,h3,h4⟩:=csheet_ok h
 intro r hr
 rcases List.mem_append.1 hr with hr | hr
 ·have:=h4 r hr
  simp only [okRule,inR,Bool.and_eq_true,decide_eq_true_eq,Bool.not_eq_true',decide_eq_false_iff_not] at this
  obtain ⟨⟨⟨⟨a,b⟩,c,d⟩,e⟩,f,g⟩:=this
  exact ⟨a,b,c,d,e,f,g⟩
 ·obtain ⟨t,ht,hr⟩:=List.mem_flatMap.1 hr
  have ht:=List.mem_range.1 ht
  simp only [List.mem_cons,List.not_mem_nil,or_false] at hr
  rcases hr with rfl | rfl
  ·unfold OKr; simp only; omega
  ·unfold OKr; simp only; omega
theorem en_mem {l:List (Int×Int×Int)} {p:Rl} (h:p∈en l):p.2∈l∧ix l p.1=some p.2∧0≤p.1∧p.1<l.length:=by
 obtain ⟨i,hi,e⟩:=List.getElem_of_mem h
 rw [en_len] at hi
 have h1:(en l)[i]?=some p:=by rw [← e]; exact List.getElem?_eq_getElem _
 rw [en_get,List.getElem?_eq_getElem hi] at h1
 simp only [Option.map_some,Option.some.injEq] at h1
 subst h1
 exact ⟨List.getElem_mem hi,ix_nat hi,by simp,by simpa using hi⟩
def Rs (x:Int×List (Int×Int×Int)):List Rl:=en (whole x)
theorem Rs_ok {x:Int×List (Int×Int×Int)} (h:csheet x=0):∀ p∈Rs x,OKr x.1 p.2:=fun p hp=>whole_ok h _ (en_mem hp).1
theorem Rs_len {x:Int×List (Int×Int×Int)} (h:csheet x=0):(Rs x).length≤100:=by
 unfold Rs
 rw [en_len]
 exact whole_len h
theorem Rs_ne {x:Int×List (Int×Int×Int)} (h:csheet x=0):∀ p∈Rs x,p.2.1≠p.2.2.1:=fun p hp=>(Rs_ok h p hp).2.2.2.2.1
def Pot (x:Int×List (Int×Int×Int)):Prop:=∃ p:Int→Int,∀ r∈whole x,p r.2.1≤p r.1 + r.2.2
theorem step_eq {x:Int×List (Int×Int×Int)} (h:csheet x=0) (X:Ar 21 Int) (l:List (Int×Int)) :
  speed_net_step (whole x) X l=some (((Rs x).foldl stepB (X,l)).1,((Rs x).foldl stepB (X,l)).2,!decide (((Rs x).foldl stepB (X,l)).1=X)):=by
 unfold speed_net_step
 rw [if_pos]
 ·rfl
 ·obtain ⟨_,_,h3,_⟩:=csheet_ok h
  refine List.all_eq_true.2 fun r hr=>?_
  obtain ⟨a,b,c,d,_⟩:=whole_ok h r hr
  simp only [tR,Bool.and_eq_true,decide_eq_true_eq]
  omega
theorem step_rep {x:Int×List (Int×Int×Int)} (h:csheet x=0) {X:Ar 21 Int} {l:List (Int×Int)} {s:St} {K:Nat} {c:Int} (hr:Rep X l s) (hb:Bd c s) (hc:0≤c) (hc2:c≤1000000000000) :
  ∃ X' l' m,speed_net_step (whole x) X l=some (X',l',m)∧Rep X' l' (pass (Rs x) K s)∧Bd (c + 10000000) (pass (Rs x) K s)∧(m=false↔∀ t,0≤t→t≤20→(pass (Rs x) K s).f t=s.f t):=by
 obtain ⟨_,_,h3,_⟩:=csheet_ok h
 have hlen:=Rs_len h
 have:=Rep.fold (K:=K) h3 (Rs x) X l s c (Rs_ok h) hc (by omega) hr hb
 refine ⟨_,_,_,step_eq h X l,this.1,fun v=>?_,?_⟩
 ·have:=this.2 v
  unfold pass
  omega
 ·simp only [Bool.not_eq_false',decide_eq_true_eq]
  constructor
  ·intro e t t0 t1
   have h1:=this.1.f t t0 t1
   rw [e,hr.f t t0 t1] at h1
   exact h1.symm
  ·intro e
   exact arExt fun t t0 t1=>by rw [this.1.f t t0 t1,hr.f t t0 t1]; exact e t t0 t1
theorem pass_fix {K:Nat}:∀ (R:List Rl) (s:St),(∀ p∈R,0≤p.2.2.1∧p.2.2.1≤20)→(∀ v,0≤v→v≤20→(R.foldl (rel K) s).f v=s.f v)→∀ p∈R,¬ BF.cnd s.f p
 | [],_,_,_,p,hp=>by simp at hp
 | q::R,s,hR,hf,p,hp=>by
  simp only [List.foldl_cons] at hf
  by_cases hc:BF.cnd s.f q
  ·exfalso
   obtain ⟨q0,q1⟩:=hR q (by simp)
   have h1:=hf _ q0 q1
   have h2:=(BF.pass_le (K:=K) (v:=q.2.2.1) R (rel K s q)).1
   have h3:(rel K s q).f q.2.2.1<s.f q.2.2.1:=by
    unfold rel
    rw [if_pos hc]
    simp only [BF.up_same]
    exact hc.2
   omega
  ·have e:rel K s q=s:=by unfold rel; rw [if_neg hc]
   rw [e] at hf
   rcases List.mem_cons.1 hp with rfl | hp
   ·exact hc
   ·exact pass_fix R s (fun r hr=>hR r (by simp [hr])) hf p hp
theorem fix_pot {x:Int×List (Int×Int×Int)} (h:csheet x=0) {s:St} {K:Nat} (hneg:∀ v,s.f v≤0) (hf:∀ t,0≤t→t≤20→(pass (Rs x) K s).f t=s.f t):Pot x:=by
 obtain ⟨_,_,h3,_⟩:=csheet_ok h
 refine ⟨s.f,fun r hr=>?_⟩
 obtain ⟨i,hi,e⟩:=List.getElem_of_mem hr
 have hm:((i:Int),r)∈Rs x:=by
  have:(en (whole x))[i]?=some ((i:Int),r):=by rw [en_get,List.getElem?_eq_getElem hi,e]; rfl
  exact List.mem_of_getElem? this
 have:=pass_fix (Rs x) s (fun p hp=>by have:=Rs_ok h p hp; exact ⟨this.2.2.1,by have:=this.2.2.2.1; omega⟩) hf _ hm
 unfold BF.cnd at this
 have hn:=hneg r.1
 simp only [not_and,Int.not_lt] at this
 exact this (by unfold NEV; omega)
theorem pot_back {x:Int×List (Int×Int×Int)} {s:St} {K:Nat} {N:Int→Prop} (hI:Inv N K (Rs x) [] s) {p:Int→Int} (hp:∀ r∈whole x,p r.2.1≤p r.1 + r.2.2) {v u c:Int} {n:Nat} (hb:Back s.b v u c n):p v≤p u + c:=by
 induction hb with
 | @one v q hq =>
  obtain ⟨h1,h2,_⟩:=hI.i2 v q hq
  have h1':q∈Rs x:=by simpa using h1
  have:=hp _ (en_mem h1').1
  rw [h2] at this
  exact this
 | @more v u c n q hq _ ih =>
  obtain ⟨h1,h2,_⟩:=hI.i2 v q hq
  have h1':q∈Rs x:=by simpa using h1
  have:=hp _ (en_mem h1').1
  rw [h2] at this
  omega
theorem no_pot {x:Int×List (Int×Int×Int)} {s:St} {K:Nat} {N:Int→Prop} (hI:Inv N K (Rs x) [] s) {v c:Int} {n:Nat} (hb:Back s.b v v c n):¬ Pot x:=by
 rintro ⟨p,hp⟩
 have h1:=pot_back hI hp hb
 have h2:=hI.i5 v c n hb
 omega
theorem nodup_len:∀ (N:Nat) (M:List Int),M.Nodup→(∀ w∈M,0≤w∧w<N)→M.length≤N
 | 0,M,_,h=>by
  cases M with
  | nil=>simp
  | cons a M=>have:=h a (by simp); omega
 | N + 1,M,hn,h=>by
  have h1:=nodup_len N (M.filter fun w=>!decide (w=(N:Int))) (hn.filter _) (fun w hw=>by
   simp only [List.mem_filter,Bool.not_eq_true',decide_eq_false_iff_not] at hw
   have:=h w hw.1
   omega)
  have h2:M.length≤(M.filter fun w=>!decide (w=(N:Int))).length + 1:=by
   clear h h1
   induction M with
   | nil=>simp
   | cons a M ih =>
    simp only [List.nodup_cons] at hn
    by_cases ha:a=(N:Int)
    ·have e:(M.filter fun w=>!decide (w=(N:Int)))=M:=by
      refine List.filter_eq_self.2 fun w hw=>?_
      simp only [Bool.not_eq_true',decide_eq_false_iff_not]
      rintro rfl
      exact hn.1 (ha ▸ hw)
     rw [List.filter_cons,ha,if_neg (by simp),e]
     exact Nat.le_refl _
    ·rw [List.filter_cons,if_pos (by simp [ha]),List.length_cons,List.length_cons]
     have:=ih hn.2
     omega
  omega
theorem twice {x:Int×List (Int×Int×Int)} (hx:csheet x=0) {s:St} {K:Nat} {N:Int→Prop} (hI:Inv N K (Rs x) [] s):∀ (d:Nat) (M:List Int) (u:Int),M.Nodup→(∀ w∈M,0≤w∧w≤x.1)→0≤u→u≤x.1 →
  (∀ w∈M,∃ c n,Back s.b w u c n∧n≤M.length)→x.1 + 1≤s.r u + M.length→x.1 + 1 - M.length<d→∃ w c n,Back s.b w w c n
 | 0,M,u,hn,hM,u0,u1,_,_,hd=>by
  have:=nodup_len (x.1 + 1).toNat M hn (fun w hw=>by have:=hM w hw; omega)
  omega
 | d + 1,M,u,hn,hM,u0,u1,hB,hr,hd=>by
  by_cases hu:u∈M
  ·obtain ⟨c,n,h1,_⟩:=hB u hu
   exact ⟨u,c,n,h1⟩
  ·have hn':(u::M).Nodup:=by simp [hn,hu]
   have hM':∀ w∈u::M,0≤w∧w≤x.1:=fun w hw=>by
    rcases List.mem_cons.1 hw with rfl | hw
    ·exact ⟨u0,u1⟩
    ·exact hM w hw
   have hl:=nodup_len (x.1 + 1).toNat (u::M) hn' (fun w hw=>by have:=hM' w hw; omega)
   simp only [List.length_cons] at hl
   have hb:s.b u≠none:=fun e=>by have:=(hI.i1 u).1 e; omega
   obtain ⟨p,hp⟩:=Option.ne_none_iff_exists'.1 hb
   obtain ⟨h1,h2,h3⟩:=hI.i2 u p hp
   have hok:=Rs_ok hx p (by simpa using h1)
   have h4:=hI.i3 u p hp
   refine twice hx hI d (u::M) p.2.1 hn' hM' hok.1 hok.2.1 (fun w hw=>?_) (by simp only [List.length_cons]; omega) (by simp only [List.length_cons]; omega)
   rcases List.mem_cons.1 hw with rfl | hw
   ·exact ⟨_,1,.one hp,by simp⟩
   ·obtain ⟨c,n,h5,h6⟩:=hB w hw
    exact ⟨_,_,h5.snoc hp,by simp only [List.length_cons]; omega⟩
theorem stamp_no_pot {x:Int×List (Int×Int×Int)} (hx:csheet x=0) {s:St} {K:Nat} {N:Int→Prop} (hI:Inv N K (Rs x) [] s) {v:Int} (v0:0≤v) (v1:v≤x.1) (hr:x.1 + 1≤s.r v):¬ Pot x:=by
 obtain ⟨w,c,n,h⟩:=twice hx hI ((x.1 + 1).toNat + 1) [] v (by simp) (by simp) v0 v1 (by simp) (by simpa using hr) (by simp; omega)
 exact no_pot hI h
end Go.Proofs.YtfmelbioccbdoaaGreat
end
section
namespace Go.Proofs.YtfmelbioccbdoaaGreat
open Go Go.Md Go.RowKit
open BF (Rl St Back Inv rel pass passes NEV)
def revI (l:List Int) (i:Nat):List Int:=(List.range l.length).map fun t=>if t<i∨l.length - i≤t then l.getD (l.length - 1 - t) 0 else l.getD t 0
theorem revI_len {l:List Int} {i:Nat}:(revI l i).length=l.length:=by simp [revI]
theorem revI_get {l:List Int} {i t:Nat} (h:t<l.length):(revI l i)[t]?=some (if t<i∨l.length - i≤t then l.getD (l.length - 1 - t) 0 else l.getD t 0):=by
 simp [revI,List.getElem?_map,List.getElem?_range,h]
theorem revI_zero {l:List Int}:revI l 0=l:=by
 apply List.ext_getElem?
 intro t
 by_cases h:t<l.length
 ·rw [revI_get h,if_neg (by omega),List.getElem?_eq_getElem h,List.getD_eq_getElem?_getD,List.getElem?_eq_getElem h]
  rfl
 ·rw [List.getElem?_eq_none (by rw [revI_len]; omega),List.getElem?_eq_none (by omega)]
theorem revI_end {l:List Int} {i:Nat} (h:l.length≤2 * i + 1):revI l i=l.reverse:=by
 apply List.ext_getElem?
 intro t
 by_cases ht:t<l.length
 ·rw [revI_get ht,List.getElem?_reverse ht]
  have h1:l.length - 1 - t<l.length:=by omega
  rw [List.getElem?_eq_getElem h1]
  split
  ·rw [List.getD_eq_getElem?_getD,List.getElem?_eq_getElem h1]; rfl
  ·have:t=l.length - 1 - t:=by omega
   rw [List.getD_eq_getElem?_getD]
   conv=>lhs; rw [this]
   rw [List.getElem?_eq_getElem h1]
   rfl
 ·rw [List.getElem?_eq_none (by rw [revI_len]; omega),List.getElem?_eq_none (by simp; omega)]
theorem revI_step {l:List Int} {i:Nat} (h:2 * i + 1<l.length):rset (rset (revI l i) (i:Int) (l.getD (l.length - 1 - i) 0)) ((l.length:Int) - 1 - i) (l.getD i 0)=revI l (i + 1):=by
 have e:((l.length:Int) - 1 - i).toNat=l.length - 1 - i:=by omega
 unfold rset
 apply List.ext_getElem?
 intro t
 rw [e,List.getElem?_set,List.getElem?_set,Int.toNat_natCast]
 simp only [List.length_set,revI_len]
 by_cases ht:t<l.length
 ·rw [revI_get ht,revI_get ht]
  by_cases h1:l.length - 1 - i=t
  ·subst h1
   rw [if_pos rfl,if_pos ht,if_pos (by omega)]
   congr 2
   omega
  ·rw [if_neg h1]
   by_cases h2:i=t
   ·subst h2
    rw [if_pos rfl,if_pos (by omega),if_pos (by omega)]
   ·rw [if_neg h2]
    congr 1
    have:(t<i∨l.length - i≤t)↔(t<i + 1∨l.length - (i + 1)≤t):=by omega
    simp only [this]
 ·rw [if_neg (by omega),if_neg (by omega),List.getElem?_eq_none (by rw [revI_len]; omega),List.getElem?_eq_none (by rw [revI_len]; omega)]
theorem reverse_l1 {l:List Int} (hl:l.length<1000000):∀ (m i:Nat),l.length<m + i→2 * i≤l.length + 1→slices_Reverse_l1 m (revI l i) (i:Int) ((l.length:Int) - 1 - i)=some l.reverse
 | 0,i,h,h2=>by omega
 | m + 1,i,h,h2=>by
  unfold slices_Reverse_l1
  by_cases hi:2 * i + 1<l.length
  ·rw [if_pos (by simp; omega)]
   have e1:ix (revI l i) ((l.length:Int) - 1 - i)=some (l.getD (l.length - 1 - i) 0):=by
    have:((l.length:Int) - 1 - i)=((l.length - 1 - i:Nat):Int):=by omega
    unfold ix
    rw [if_pos (by omega),this,Int.toNat_natCast,revI_get (by omega),if_neg (by omega)]
   have e2:ix (revI l i) (i:Int)=some (l.getD i 0):=by
    unfold ix
    rw [if_pos (by omega),Int.toNat_natCast,revI_get (by omega),if_neg (by omega)]
   rw [e1,e2]
   simp only [Option.bind_eq_bind,Option.bind_some]
   rw [revI_step hi,w64_in (by omega),w64_in (by omega)]
   have:=reverse_l1 hl m (i + 1) (by omega) (by omega)
   have e3:((l.length:Int) - 1 - (i:Int) - 1)=(l.length:Int) - 1 - ((i + 1:Nat):Int):=by omega
   rw [e3]
   exact this
  ·rw [if_neg (by simp; omega),revI_end (by omega)]
theorem reverse_eq {F:Nat} {l:List Int} (hF:l.length<F) (hl:l.length<1000000):slices_Reverse F l=some l.reverse:=by
 unfold slices_Reverse
 rw [w64_in (by omega)]
 have:=reverse_l1 hl F 0 (by omega) (by omega)
 rw [revI_zero] at this
 simpa using this
theorem gA_fill {v t:Int} (t0:0≤t) (t1:t≤20):gA (Ar.fill 21 v:Ar 21 Int) t=v:=by
 unfold gA ix
 rw [if_pos t0]
 show ((List.replicate 21 v)[t.toNat]?).getD 0=v
 rw [List.getElem?_replicate,if_pos (by omega)]
 rfl
def nn (x:Int×List (Int×Int×Int)):Nat:=x.1.toNat + 1
def Pn (x:Int×List (Int×Int×Int)) (K:Nat):St:=passes (Rs x) K
theorem Pn_inv {x:Int×List (Int×Int×Int)} (h:csheet x=0) (K:Nat):Inv (fun _=>True) K (Rs x) [] (Pn x K):=Inv.passes (Rs_ne h) K
theorem circle_l1 {x:Int×List (Int×Int×Int)} (h:csheet x=0):∀ (m k:Nat) (X:Ar 21 Int) (l:List (Int×Int)) (more:Bool),k≤nn x→nn x - k<m→Rep X l (Pn x k)→Bd (10000000 * k) (Pn x k) →
  (1≤k→(more=false↔∀ t,0≤t→t≤20→(Pn x k).f t=(Pn x (k - 1)).f t)) →
  ∃ X' l' more',speed_net_circle_l1 (whole x) (nn x:Int) m (k:Int) X l more=some (X',l',more')∧Rep X' l' (Pn x (nn x))∧Bd (10000000 * (nn x:Int)) (Pn x (nn x)) ∧
   (more'=false↔∀ t,0≤t→t≤20→(Pn x (nn x)).f t=(Pn x (nn x - 1)).f t)
 | 0,k,_,_,_,_,hm,_,_,_=>by omega
 | m + 1,k,X,l,more,hk,hm,hr,hb,hmo=>by
  obtain ⟨_,_,h3,_⟩:=csheet_ok h
  unfold speed_net_circle_l1
  by_cases hlt:k<nn x
  ·rw [if_pos (by simpa using hlt)]
   have hn:nn x≤21:=by unfold nn; omega
   obtain ⟨X',l',m',e,h1,h2,h4⟩:=step_rep (K:=k + 1) h hr hb (by omega) (by omega)
   rw [e]
   simp only [Option.bind_eq_bind,Option.bind_some]
   rw [w64_in (by omega)]
   have h2':Bd (10000000 * ((k + 1:Nat):Int)) (Pn x (k + 1)):=by
    have:10000000 * (k:Int) + 10000000=10000000 * ((k + 1:Nat):Int):=by omega
    rw [← this]
    exact h2
   exact circle_l1 h m (k + 1) X' l' m' (by omega) (by omega) h1 h2' (fun _=>h4)
  ·have:k=nn x:=by omega
   subst this
   rw [if_neg (by simp)]
   exact ⟨X,l,more,rfl,hr,hb,hmo (by unfold nn; omega)⟩
theorem circle_l2 {X Y:Ar 21 Int}:∀ (m k:Nat),k≤21→21 - k<m→(∃ t:Int,(k:Int)≤t∧t≤20∧gA X t≠gA Y t)→∃ t,speed_net_circle_l2 X Y m (k:Int)=some t∧0≤t∧t≤20∧gA X t≠gA Y t
 | 0,k,_,hm,_=>by omega
 | m + 1,k,hk,hm,⟨t,t0,t1,ht⟩=>by
  unfold speed_net_circle_l2
  rw [if_pos (by simp; omega),ixA (X:=X) (by omega) (by omega),ixA (X:=Y) (by omega) (by omega)]
  simp only [Option.bind_eq_bind,Option.bind_some]
  by_cases e:gA X (k:Int)=gA Y (k:Int)
  ·rw [if_neg (by simp [e]),w64_in (by omega)]
   have:t≠k:=fun e2=>ht (by rw [e2]; exact e)
   exact circle_l2 m (k + 1) (by omega) (by omega) ⟨t,by omega,t1,ht⟩
  ·rw [if_pos (by simp [e])]
   exact ⟨_,rfl,by omega,by omega,e⟩
theorem from_eq {x:Int×List (Int×Int×Int)} (h:csheet x=0) {X:Ar 21 Int} {l:List (Int×Int)} {s:St} {K:Nat} {N:Int→Prop} (hI:Inv N K (Rs x) [] s) (hr:Rep X l s) {u:Int} {p:Rl} (hp:s.b u=some p) :
  speed_from (whole x) l u=some (p.1,p.2.1)∧p∈Rs x∧p.2.2.1=u:=by
 obtain ⟨h1,h2,_⟩:=hI.i2 u p hp
 have h1':p∈Rs x:=by simpa using h1
 have hok:=Rs_ok h p h1'
 obtain ⟨_,_,h3,_⟩:=csheet_ok h
 refine ⟨?_,h1',h2⟩
 unfold speed_from
 rw [if_pos (key_ok (by have:=hok.2.2.1; omega) (by have:=hok.2.2.2.1; omega)),hr.b u p hp,(en_mem h1').2.1]
 rfl
theorem circle_l3 {x:Int×List (Int×Int×Int)} (h:csheet x=0) {X:Ar 21 Int} {l:List (Int×Int)} {s:St} {K:Nat} {N:Int→Prop} (hI:Inv N K (Rs x) [] s) (hr:Rep X l s):∀ (m:Nat) (M:List Int) (seen:Ar 21 Int) (u:Int),M.Nodup→(∀ w∈M,0≤w∧w≤x.1)→0≤u→u≤x.1 →
  (∀ w∈M,∃ c n,Back s.b w u c n∧n≤M.length)→x.1 + 1≤s.r u + M.length→x.1 + 1 - M.length<m→(∀ t,0≤t→t≤20→gA seen t=if t∈M then 1 else 0) →
  ∃ e c n,speed_net_circle_l3 (whole x) l m seen u=some e∧Back s.b e e c n∧(n:Int)≤x.1 + 1∧0≤e∧e≤x.1
 | 0,M,seen,u,hn,hM,u0,u1,_,_,hd,_=>by
  have:=nodup_len (x.1 + 1).toNat M hn (fun w hw=>by have:=hM w hw; omega)
  omega
 | m + 1,M,seen,u,hn,hM,u0,u1,hB,hst,hd,hs=>by
  obtain ⟨_,_,h3,_⟩:=csheet_ok h
  unfold speed_net_circle_l3
  rw [ixA (X:=seen) u0 (by omega),hs u u0 (by omega)]
  simp only [Option.bind_eq_bind,Option.bind_some]
  by_cases hu:u∈M
  ·rw [if_pos hu,if_neg (by decide)]
   obtain ⟨c,n,h1,h2⟩:=hB u hu
   have hl:=nodup_len (x.1 + 1).toNat M hn (fun w hw=>by have:=hM w hw; omega)
   exact ⟨u,c,n,rfl,h1,by omega,u0,u1⟩
  ·rw [if_neg hu,if_pos (by decide)]
   have hn':(u::M).Nodup:=by simp [hn,hu]
   have hM':∀ w∈u::M,0≤w∧w≤x.1:=fun w hw=>by
    rcases List.mem_cons.1 hw with rfl | hw
    ·exact ⟨u0,u1⟩
    ·exact hM w hw
   have hl:=nodup_len (x.1 + 1).toNat (u::M) hn' (fun w hw=>by have:=hM' w hw; omega)
   simp only [List.length_cons] at hl
   have hb:s.b u≠none:=fun e=>by have:=(hI.i1 u).1 e; omega
   obtain ⟨p,hp⟩:=Option.ne_none_iff_exists'.1 hb
   obtain ⟨e1,e2,e3⟩:=from_eq h hI hr hp
   have hok:=Rs_ok h p e2
   have h4:=hI.i3 u p hp
   rw [e1]
   simp only [Option.bind_some]
   refine circle_l3 h hI hr m (u::M) (aset seen u 1) p.2.1 hn' hM' hok.1 hok.2.1 (fun w hw=>?_) (by simp only [List.length_cons]; omega) (by simp only [List.length_cons]; omega) (fun t t0 t1=>?_)
   ·rcases List.mem_cons.1 hw with rfl | hw
    ·exact ⟨_,1,.one hp,by simp⟩
    ·obtain ⟨c,n,h5,h6⟩:=hB w hw
     exact ⟨_,_,h5.snoc hp,by simp only [List.length_cons]; omega⟩
   ·rw [gA_set u0 (by omega) t0 t1,hs t t0 t1]
    by_cases e:t=u
    ·subst e; simp
    ·simp [e]
def Lk:List Rl→Prop
 | []=>True
 | [_]=>True
 | p::q::l=>p.2.2.1=q.2.1∧Lk (q::l)
def sumM (l:List Rl):Int:=(l.map fun p=>p.2.2.2).sum
structure Circ (x:Int×List (Int×Int×Int)) (e:Int) (a:List Rl):Prop where
 lk:Lk a
 mem:∀ p∈a,p∈Rs x
 hd:a.head?.map (fun p=>p.2.1)=some e
 tl:a.getLast?.map (fun p=>p.2.2.1)=some e
 neg:sumM a<0
 len:a.length≤21
theorem circle_l4 {x:Int×List (Int×Int×Int)} (h:csheet x=0) {X:Ar 21 Int} {l:List (Int×Int)} {s:St} {K:Nat} {N:Int→Prop} (hI:Inv N K (Rs x) [] s) (hr:Rep X l s) {e:Int}:∀ (m k:Nat) (u:Int) (a:List Rl) (c:Int),
  Back s.b u e c k→k≤m→a.length + k≤21 →
  ((a=[]∧u=e)∨(Back s.b e u (sumM a) a.length∧Lk a∧(∀ p∈a,p∈Rs x)∧a.head?.map (fun p=>p.2.1)=some u∧a.getLast?.map (fun p=>p.2.2.1)=some e)) →
  ∃ a',speed_net_circle_l4 (whole x) l e m u ((a.map (·.1)).reverse)=some ((a'.map (·.1)).reverse)∧Circ x e a'
 | 0,k,u,a,c,hb,hk,_,_=>by have:=hb.pos; omega
 | m + 1,k,u,a,c,hb,hk,hlen,ha=>by
  obtain ⟨p,hp⟩:=hb.start
  obtain ⟨e1,e2,e3⟩:=from_eq h hI hr hp
  have acc:Back s.b e p.2.1 (sumM (p::a)) (p::a).length∧Lk (p::a)∧(∀ q∈p::a,q∈Rs x)∧(p::a).head?.map (fun p=>p.2.1)=some p.2.1∧(p::a).getLast?.map (fun p=>p.2.2.1)=some e:=by
   rcases ha with ⟨rfl,rfl⟩ | ⟨b1,b2,b3,b4,b5⟩
   ·refine ⟨?_,trivial,by simpa using e2,rfl,by simpa using e3⟩
    have:=Back.one hp
    simpa [sumM] using this
   ·cases a with
    | nil=>simp at b4
    | cons q a =>
     refine ⟨?_,⟨?_,b2⟩,?_,rfl,?_⟩
     ·have:=b1.snoc hp
      have e:sumM (p::q::a)=sumM (q::a) + p.2.2.2:=by simp only [sumM,List.map_cons,List.sum_cons]; omega
      rw [e]
      exact this
     ·simp only [List.head?_cons,Option.map_some,Option.some.injEq] at b4
      rw [e3,b4]
     ·intro r hr'
      rcases List.mem_cons.1 hr' with rfl | hr'
      ·exact e2
      ·exact b3 r hr'
     ·rw [List.getLast?_cons_cons]; exact b5
  have hk1:=hb.pos
  unfold speed_net_circle_l4
  rw [e1]
  simp only [Option.bind_eq_bind,Option.bind_some]
  rw [app_some (by simp only [List.length_reverse,List.length_map,List.length_cons,List.length_nil]; omega)]
  simp only [Option.bind_some]
  have eo:(a.map (·.1)).reverse++[p.1]=((p::a).map (·.1)).reverse:=by simp
  rw [eo]
  by_cases he:p.2.1=e
  ·rw [if_pos (by simpa using he)]
   refine ⟨p::a,rfl,acc.2.1,acc.2.2.1,by rw [acc.2.2.2.1,he],acc.2.2.2.2,?_,by simp only [List.length_cons]; omega⟩
   have:=acc.1
   rw [he] at this
   exact hI.i5 _ _ _ this
  ·rw [if_neg (by simpa using he)]
   cases hb with
   | one h' =>
    rw [hp] at h'
    cases h'
    exact (he rfl).elim
   | more h' k' =>
    rw [hp] at h'
    cases h'
    exact circle_l4 h hI hr m _ p.2.1 (p::a) _ k' (by omega) (by simp only [List.length_cons]; omega) (.inr acc)
theorem circle_eq {x:Int×List (Int×Int×Int)} (h:csheet x=0) {F:Nat} (hF:200<F) :
  (speed_net_circle F ((x.1,x.2),whole x)=some []∧Pot x)∨(¬ Pot x∧∃ e a,speed_net_circle F ((x.1,x.2),whole x)=some (a.map (·.1))∧Circ x e a):=by
 obtain ⟨_,h2,h3,_⟩:=csheet_ok h
 have hn:((nn x:Nat):Int)=x.1 + 1:=by unfold nn; omega
 have h0:Rep (Ar.fill 21 0:Ar 21 Int) [] (Pn x 0):=by
  exact ⟨fun t t0 t1=>gA_fill t0 t1,fun t p hp=>by simp [Pn,passes,BF.start] at hp⟩
 have hb0:Bd (10000000 * ((0:Nat):Int)) (Pn x 0):=fun v=>by simp [Pn,passes,BF.start,NEV]
 obtain ⟨X1,l1,more,e1,r1,b1,m1⟩:=circle_l1 h F 0 _ _ true (Nat.zero_le _) (by omega) h0 hb0 (fun h=>by omega)
 unfold speed_net_circle
 simp only [w64_in (show -9223372036854775808≤x.1 + 1∧x.1 + 1≤9223372036854775807 by omega)]
 rw [hn] at e1
 rw [show ((0:Nat):Int)=0 from rfl] at e1
 rw [e1]
 simp only [Option.bind_eq_bind,Option.bind_some]
 have hI1:=Pn_inv h (nn x)
 cases hmore:more with
 | false =>
  left
  refine ⟨rfl,?_⟩
  have hfix:=m1.1 hmore
  have hn1:nn x=(nn x - 1) + 1:=by unfold nn; omega
  refine fix_pot (s:=Pn x (nn x - 1)) (K:=nn x) h (Pn_inv h (nn x - 1)).i7 (fun t t0 t1=>?_)
  have:=hfix t t0 t1
  rw [← this]
  conv=>rhs; rw [hn1]
  show _=(passes (Rs x) (nn x - 1 + 1)).f t
  rw [passes,← hn1]
  rfl
 | true =>
  right
  rw [if_neg (by simp)]
  have hch:∃ v,0≤v∧v≤20∧(Pn x (nn x)).f v≠(Pn x (nn x - 1)).f v:=by
   apply Classical.byContradiction
   intro hno
   have:more=false:=m1.2 fun t t0 t1=>Classical.byContradiction fun hne=>hno ⟨t,t0,t1,hne⟩
   rw [hmore] at this
   cases this
  have hstamp:∀ K v,(Pn x (K + 1)).f v≠(Pn x K).f v→(Pn x (K + 1)).r v=K + 1:=fun K v hne =>
   Classical.byContradiction fun hr=>hne (BF.pass_same (Rs x) (Pn x K) hr).1
  have hnode:∀ K v,(Pn x K).r v≠0→0≤v∧v≤x.1:=fun K v hr=>by
   have hI:=Pn_inv h K
   have hb:(Pn x K).b v≠none:=fun e=>hr ((hI.i1 v).1 e)
   obtain ⟨p,hp⟩:=Option.ne_none_iff_exists'.1 hb
   obtain ⟨h1,h2,_⟩:=hI.i2 v p hp
   have hok:=Rs_ok h p (by simpa using h1)
   rw [← h2]
   exact ⟨hok.2.2.1,hok.2.2.2.1⟩
  have hn1:nn x=(nn x - 1) + 1:=by unfold nn; omega
  obtain ⟨v,v0,v1,hv⟩:=hch
  have hrv:(Pn x (nn x)).r v=nn x:=by
   have:=hstamp (nn x - 1) v (by rw [← hn1]; exact hv)
   rw [← hn1] at this
   exact this
  have hvn:=hnode (nn x) v (by rw [hrv]; unfold nn; omega)
  have hnp:¬ Pot x:=stamp_no_pot h hI1 hvn.1 hvn.2 (by rw [hrv]; omega)
  obtain ⟨X2,l2,m2,e2,r2,b2,hm2⟩:=step_rep (K:=nn x + 1) h r1 b1 (by omega) (by omega)
  rw [e2]
  simp only [Option.bind_some]
  have hI2:=Pn_inv h (nn x + 1)
  have r2':Rep X2 l2 (Pn x (nn x + 1)):=r2
  have hch2:∃ t,((0:Nat):Int)≤t∧t≤20∧gA X2 t≠gA X1 t:=by
   apply Classical.byContradiction
   intro hno
   refine hnp (fix_pot (s:=Pn x (nn x)) (K:=nn x + 1) h hI1.i7 fun t t0 t1=>?_)
   apply Classical.byContradiction
   intro hne
   refine hno ⟨t,by omega,t1,?_⟩
   rw [r2.f t t0 t1,r1.f t t0 t1]
   exact hne
  obtain ⟨t,e3,t0,t1,ht⟩:=circle_l2 (X:=X2) (Y:=X1) F 0 (by omega) (by omega) hch2
  rw [show ((0:Nat):Int)=0 from rfl] at e3
  rw [e3]
  simp only [Option.bind_some]
  have hrt:(Pn x (nn x + 1)).r t=nn x + 1:=hstamp (nn x) t (by
   intro e
   apply ht
   rw [r2.f t t0 t1,r1.f t t0 t1]
   exact e)
  have htn:=hnode (nn x + 1) t (by rw [hrt]; omega)
  obtain ⟨e,c,n,e4,hb,hbn,he0,he1⟩:=circle_l3 h hI2 r2' F [] (Ar.fill 21 0:Ar 21 Int) t (by simp) (by simp) htn.1 htn.2 (by simp) (by rw [hrt]; simp; omega) (by simp; omega) (fun w w0 w1=>by
   rw [gA_fill w0 w1]
   simp)
  rw [e4]
  simp only [Option.bind_some]
  obtain ⟨a,e5,hc⟩:=circle_l4 h hI2 r2' F n e [] c hb (by omega) (by simp; omega) (.inl ⟨rfl,rfl⟩)
  simp only [List.map_nil,List.reverse_nil] at e5
  rw [e5]
  simp only [Option.bind_some]
  have hl:=hc.len
  rw [reverse_eq (by simp; omega) (by simp; omega)]
  exact ⟨hnp,e,a,by simp,hc⟩
end Go.Proofs.YtfmelbioccbdoaaGreat
end
section
namespace Go.Proofs.YtfmelbioccbdoaaGreat
open Go Go.Md Go.RowKit
abbrev RR:=Int×Int×Int
theorem w64_succ {k:Nat} (h:k<1000000):w64 ((k:Int) + 1)=((k + 1:Nat):Int):=by
 rw [w64_in (by omega)]
 rfl
section
variable {F:Nat} {all:List RR} {way:List Int}
section
variable {x:Int×List RR}
end
end
end Go.Proofs.YtfmelbioccbdoaaGreat
end
section
namespace Go.Proofs.YtfmelbioccbdoaaGreat
open Go Go.Md Go.RowKit
open BF (Rl St Back rel pass NEV)
inductive PC (R:List RR) (a:Int):Int→Int→Prop
 | nil:PC R a a 0
 | snoc {u c:Int} {r:RR} (h:PC R a u c) (hr:r∈R) (hu:r.1=u):PC R a r.2.1 (c + r.2.2)
theorem PC.trans {R:List RR} {a b t c d:Int} (h:PC R a b c) (k:PC R b t d):PC R a t (c + d):=by
 induction k with
 | nil=>simpa using h
 | snoc _ hr hu ih=>rw [← Int.add_assoc]; exact .snoc ih hr hu
theorem PC.one {R:List RR} {r:RR} (hr:r∈R):PC R r.1 r.2.1 r.2.2:=by
 have:=PC.snoc (PC.nil (R:=R) (a:=r.1)) hr rfl
 simpa using this
theorem PC.pot {R:List RR} {p:Int→Int} (hp:∀ r∈R,p r.2.1≤p r.1 + r.2.2) {a t c:Int} (h:PC R a t c):p t≤p a + c:=by
 induction h with
 | nil=>omega
 | snoc _ hr hu ih =>
  have:=hp _ hr
  rw [hu] at this
  omega
theorem PC.node {x:Int×List RR} (h:csheet x=0) {a t c:Int} (a0:0≤a) (a1:a≤x.1) (hp:PC (whole x) a t c):0≤t∧t≤x.1:=by
 cases hp with
 | nil=>exact ⟨a0,a1⟩
 | snoc _ hr _=>exact ⟨(whole_ok h _ hr).2.2.1,(whole_ok h _ hr).2.2.2.1⟩
theorem turn_mem {x:Int×List RR} {t:Int} (t0:1≤t) (t1:t≤x.1):(0,t,100000)∈whole x∧(t,0,0)∈whole x:=by
 have h:∀ r,r=(0,t,(100000:Int))∨r=(t,0,0)→r∈whole x:=fun r hr=>by
  refine List.mem_append.2 (.inr (List.mem_flatMap.2 ⟨(t - 1).toNat,List.mem_range.2 (by omega),?_⟩))
  have:(((t - 1).toNat:Nat):Int) + 1=t:=by omega
  simp only [this,List.mem_cons,List.not_mem_nil,or_false]
  exact hr
 exact ⟨h _ (.inl rfl),h _ (.inr rfl)⟩
theorem PC.any {x:Int×List RR} {a t:Int} (a0:0≤a) (a1:a≤x.1) (t0:0≤t) (t1:t≤x.1):∃ c,PC (whole x) a t c∧c≤100000:=by
 have h1:∃ c,PC (whole x) a 0 c∧c≤0:=by
  by_cases h:a=0
  ·subst h; exact ⟨0,.nil,by omega⟩
  ·exact ⟨0,PC.one (r:=(a,0,0)) (turn_mem (by omega) a1).2,by omega⟩
 obtain ⟨c,h2,h3⟩:=h1
 by_cases h:t=0
 ·subst h; exact ⟨c,h2,by omega⟩
 ·exact ⟨c + 100000,h2.trans (PC.one (r:=(0,t,100000)) (turn_mem (by omega) t1).1),by omega⟩
theorem PC.low {x:Int×List RR} (h:csheet x=0) (hP:Pot x) {a t c:Int} (a0:0≤a) (a1:a≤x.1) (hp:PC (whole x) a t c):-100000≤c:=by
 obtain ⟨p,hpp⟩:=hP
 obtain ⟨t0,t1⟩:=hp.node h a0 a1
 obtain ⟨d,h1,h2⟩:=PC.any (x:=x) t0 t1 a0 a1
 have:=(hp.trans h1).pot hpp
 omega
def Dist (x:Int×List RR) (a t d:Int):Prop:=PC (whole x) a t d∧∀ c,PC (whole x) a t c→d≤c
theorem Dist.uni {x:Int×List RR} {a t d e:Int} (h:Dist x a t d) (k:Dist x a t e):d=e:=by
 have:=h.2 e k.1
 have:=k.2 d h.1
 omega
structure Jv (x:Int×List RR) (a:Int) (s:St):Prop where
 j1:∀ v,s.f v=NEV∨PC (whole x) a v (s.f v)
 j2:∀ v q,s.b v=some q→q∈Rs x∧q.2.2.1=v∧s.f q.2.1 + q.2.2.2≤s.f v∧s.f q.2.1≠NEV
 j3:∀ v c n,Back s.b v v c n→c<0
 j4:∀ v,v≠a→s.f v≠NEV→s.b v≠none
 j5:s.f a≤0
 j6:∀ v,s.f v≤NEV
theorem Jv.bd {x:Int×List RR} (h:csheet x=0) (hP:Pot x) {a:Int} (a0:0≤a) (a1:a≤x.1) {s:St} (hj:Jv x a s):Bd 100000 s:=by
 intro v
 rcases hj.j1 v with h1 | h1
 ·rw [h1]; unfold NEV; omega
 ·exact ⟨h1.low h hP a0 a1,hj.j6 v⟩
theorem Jv.rel {x:Int×List RR} (h:csheet x=0) {a:Int} {s:St} {K:Nat} {p:Rl} (hp:p∈Rs x) (hj:Jv x a s):Jv x a (BF.rel K s p):=by
 unfold BF.rel
 by_cases hc:BF.cnd s.f p
 ·rw [if_pos hc]
  have hne:=Rs_ne h p hp
  obtain ⟨c1,c2⟩:=hc
  have hpc:PC (whole x) a p.2.2.1 (s.f p.2.1 + p.2.2.2):=by
   rcases hj.j1 p.2.1 with h1 | h1
   ·exact (c1 h1).elim
   ·exact .snoc h1 (en_mem hp).1 rfl
  have hmono:∀ v,BF.up s.f p.2.2.1 (s.f p.2.1 + p.2.2.2) v≤s.f v:=fun v=>by
   by_cases hv:v=p.2.2.1
   ·subst hv; rw [BF.up_same]; omega
   ·rw [BF.up_ne hv]; exact Int.le_refl _
  refine ⟨fun v=>?_,fun v q hq=>?_,fun v c n hb=>?_,fun v hv hf=>?_,?_,fun v=>?_⟩
  ·dsimp only
   by_cases hv:v=p.2.2.1
   ·subst hv; rw [BF.up_same]; exact .inr hpc
   ·rw [BF.up_ne hv]; exact hj.j1 v
  ·dsimp only at hq ⊢
   by_cases hv:v=p.2.2.1
   ·subst hv
    rw [BF.up_same] at hq
    cases hq
    rw [BF.up_same,BF.up_ne hne]
    exact ⟨hp,rfl,Int.le_refl _,c1⟩
   ·rw [BF.up_ne hv] at hq
    obtain ⟨h1,h2,h3,h4⟩:=hj.j2 v q hq
    rw [BF.up_ne hv]
    refine ⟨h1,h2,by have:=hmono q.2.1; omega,?_⟩
    by_cases hu:q.2.1=p.2.2.1
    ·rw [hu,BF.up_same]
     have:=hj.j6 p.2.2.1
     omega
    ·rw [BF.up_ne hu]; exact h4
  ·dsimp only at hb
   rcases BF.cyc (fun v q hq=>(hj.j2 v q hq).2.2.1) hne ⟨c1,c2⟩ hb with h1 | ⟨_,h2,h3⟩
   ·omega
   ·by_cases hv:v=p.2.2.1
    ·exact (h2 hv).elim
    ·exact hj.j3 v c n (h3 hv)
  ·dsimp only at hf ⊢
   by_cases hv2:v=p.2.2.1
   ·subst hv2; rw [BF.up_same]; simp
   ·rw [BF.up_ne hv2] at hf ⊢
    exact hj.j4 v hv hf
  ·have:=hmono a
   have:=hj.j5
   dsimp only
   omega
  ·have:=hmono v
   have:=hj.j6 v
   dsimp only
   omega
 ·rw [if_neg hc]
  exact hj
theorem Jv.fold {x:Int×List RR} (h:csheet x=0) {a:Int} {K:Nat}:∀ (R:List Rl) (s:St),(∀ p∈R,p∈Rs x)→Jv x a s→Jv x a (R.foldl (BF.rel K) s)
 | [],_,_,hj=>hj
 | p::R,s,hR,hj=>Jv.fold h R _ (fun q hq=>hR q (by simp [hq])) (hj.rel h (hR p (by simp)))
theorem pass_none {K:Nat}:∀ (R:List Rl) (s:St),(∀ p∈R,¬ BF.cnd s.f p)→R.foldl (BF.rel K) s=s
 | [],_,_=>rfl
 | p::R,s,h=>by
  simp only [List.foldl_cons]
  have e:BF.rel K s p=s:=by unfold BF.rel; rw [if_neg (h p (by simp))]
  rw [e]
  exact pass_none R s fun q hq=>h q (by simp [hq])
def mu (f:Int→Int):Nat→Nat
 | 0=>0
 | n + 1=>mu f n + (f (n:Int) + 100000).toNat
theorem mu_le {f g:Int→Int} (h:∀ v,f v≤g v):∀ n,mu f n≤mu g n
 | 0=>Nat.le_refl _
 | n + 1=>by
  have:=mu_le h n
  have:=h n
  unfold mu
  omega
theorem mu_lt {f g:Int→Int} (h:∀ v,f v≤g v) (hb:∀ v,-100000≤f v):∀ (n:Nat) (t:Int),0≤t→t<(n:Int)→f t<g t→mu f n<mu g n
 | 0,t,t0,t1,_=>by omega
 | n + 1,t,t0,t1,hlt=>by
  have h1:=mu_le h n
  have h2:=h n
  unfold mu
  by_cases e:t=(n:Int)
  ·subst e
   have:=hb (n:Int)
   omega
  ·have:=mu_lt h hb n t t0 (by omega) hlt
   omega
theorem mu_top {f:Int→Int} (h:∀ v,f v≤NEV):∀ n,mu f n≤n * 1125899906942624
 | 0=>Nat.le_refl _
 | n + 1=>by
  have:=mu_top h n
  have:=h n
  unfold mu
  unfold NEV at this
  omega
structure FinS (x:Int×List RR) (a:Int) (X:Ar 21 Int) (l:List (Int×Int)) (s:St):Prop where
 rep:Rep X l s
 jv:Jv x a s
 fix:∀ p∈Rs x,¬ BF.cnd s.f p
theorem find_l2 {x:Int×List RR} (h:csheet x=0) (hP:Pot x) {a:Int} (a0:0≤a) (a1:a≤x.1):∀ (m:Nat) (X:Ar 21 Int) (l:List (Int×Int)) (s:St),Rep X l s→Jv x a s→mu s.f 21<m →
  ∃ X' l' s',speed_net_find_l2 (whole x) m X l=some (X',l')∧FinS x a X' l' s'
 | 0,_,_,_,_,_,hm=>by omega
 | m + 1,X,l,s,hr,hj,hm=>by
  have hb:=hj.bd h hP a0 a1
  obtain ⟨X',l',b,e,r1,_,hc⟩:=step_rep (K:=1) h hr hb (by omega) (by omega)
  have hj':Jv x a (pass (Rs x) 1 s):=Jv.fold h (Rs x) s (fun p hp=>hp) hj
  unfold speed_net_find_l2
  rw [e]
  simp only [Option.bind_eq_bind,Option.bind_some]
  cases hbb:b with
  | false =>
   have hf:=pass_fix (Rs x) s (fun p hp=>by
    have:=Rs_ok h p hp
    obtain ⟨_,_,h3,_⟩:=csheet_ok h
    exact ⟨this.2.2.1,by have:=this.2.2.2.1; omega⟩) (hc.1 hbb)
   have hs:pass (Rs x) 1 s=s:=pass_none _ _ hf
   rw [hs] at r1
   exact ⟨X',l',s,by simp,r1,hj,hf⟩
  | true =>
   rw [if_pos rfl]
   refine find_l2 h hP a0 a1 m X' l' _ r1 hj' ?_
   have hle:∀ v,(pass (Rs x) 1 s).f v≤s.f v:=fun v=>(BF.pass_le (K:=1) (Rs x) s).1
   have hb':=hj'.bd h hP a0 a1
   have:∃ t:Int,0≤t∧t<((21:Nat):Int)∧(pass (Rs x) 1 s).f t<s.f t:=by
    apply Classical.byContradiction
    intro hno
    have:b=false:=hc.2 fun t t0 t1=>by
     have:=hle t
     have h2:¬ (pass (Rs x) 1 s).f t<s.f t:=fun hlt=>hno ⟨t,t0,by omega,hlt⟩
     omega
    rw [hbb] at this
    cases this
   obtain ⟨t,t0,t1,ht⟩:=this
   have:=mu_lt hle (fun v=>(hb' v).1) 21 t t0 t1 ht
   omega
theorem find_l1 {F:Nat}:∀ (m k:Nat) (X:Ar 21 Int),k≤21→21 - k<m→(∀ t:Int,0≤t→t<(k:Int)→gA X t=NEV)→∃ X',speed_net_find_l1 F m (k:Int) X=some X'∧∀ t,0≤t→t≤20→gA X' t=NEV
 | 0,k,_,_,hm,_=>by omega
 | m + 1,k,X,hk,hm,hX=>by
  unfold speed_net_find_l1
  by_cases hlt:k<21
  ·rw [if_pos (by simp; omega),ixA (X:=X) (by omega) (by omega)]
   simp only [Option.bind_eq_bind,Option.bind_some]
   rw [w64_succ (by omega)]
   refine find_l1 m (k + 1) _ (by omega) (by omega) fun t t0 t1=>?_
   rw [gA_set (by omega) (by omega) t0 (by omega)]
   split
   ·rfl
   ·exact hX t t0 (by omega)
  ·rw [if_neg (by simp; omega)]
   exact ⟨X,rfl,fun t t0 t1=>hX t t0 (by omega)⟩
theorem find_eq {x:Int×List RR} (h:csheet x=0) (hP:Pot x) {a:Int} (a0:0≤a) (a1:a≤x.1) {F:Nat} (hF:100000000000000000≤F) :
  ∃ X l s,speed_net_find F ((x.1,x.2),whole x) a=some (X,l)∧FinS x a X l s:=by
 obtain ⟨_,_,h3,_⟩:=csheet_ok h
 obtain ⟨Z,e1,hZ⟩:=find_l1 (F:=F) F 0 (Ar.fill 21 0:Ar 21 Int) (by omega) (by omega) (fun t t0 t1=>by omega)
 rw [show ((0:Nat):Int)=0 from rfl] at e1
 unfold speed_net_find
 rw [e1]
 simp only [Option.bind_eq_bind,Option.bind_some]
 rw [ixA (X:=Z) a0 (by omega)]
 simp only [Option.bind_some]
 have hr:Rep (aset Z a 0) [] ⟨fun t=>if t=a then 0 else NEV,fun _=>none,fun _=>0⟩:=by
  refine ⟨fun t t0 t1=>?_,fun t p hp=>by simp at hp⟩
  rw [gA_set a0 (by omega) t0 t1,hZ t t0 t1]
 have hj:Jv x a ⟨fun t=>if t=a then 0 else NEV,fun _=>none,fun _=>0⟩:=by
  refine ⟨fun v=>?_,fun v q hq=>by simp at hq,fun v c n hb=>?_,fun v hv hf=>?_,by simp,fun v=>?_⟩
  ·dsimp only
   by_cases hv:v=a
   ·subst hv; rw [if_pos rfl]; exact .inr .nil
   ·rw [if_neg hv]; exact .inl rfl
  ·obtain ⟨p,hp⟩:=hb.start
   simp at hp
  ·dsimp only at hf
   rw [if_neg hv] at hf
   exact (hf rfl).elim
  ·dsimp only
   split
   ·unfold NEV; omega
   ·exact Int.le_refl _
 obtain ⟨X',l',s',e2,hf⟩:=find_l2 h hP a0 a1 F _ _ _ hr hj (by
  have:=mu_top hj.j6 21
  omega)
 exact ⟨X',l',s',e2,hf⟩
theorem FinS.le {x:Int×List RR} (h:csheet x=0) {a:Int} {X:Ar 21 Int} {l:List (Int×Int)} {s:St} (hf:FinS x a X l s) (a0:0≤a) (a1:a≤x.1) {t c:Int} (hp:PC (whole x) a t c):s.f t≤c∧s.f t<NEV:=by
 have key:∀ {u c:Int},PC (whole x) a u c→s.f u<NEV→∀ r∈whole x,r.1=u→s.f r.2.1≤s.f u + r.2.2:=by
  intro u c _ hlt r hr hu
  obtain ⟨i,hi,e⟩:=List.getElem_of_mem hr
  have hm:((i:Int),r)∈Rs x:=by
   have:(en (whole x))[i]?=some ((i:Int),r):=by rw [en_get,List.getElem?_eq_getElem hi,e]; rfl
   exact List.mem_of_getElem? this
  have:=hf.fix _ hm
  unfold BF.cnd at this
  simp only [not_and,Int.not_lt] at this
  rw [← hu] at hlt ⊢
  exact this (by omega)
 have h5:=hf.jv.j5
 have fin0:s.f 0≤0:=by
  by_cases e:a=0
  ·rw [e] at h5; exact h5
  ·have:=key (PC.nil) (by unfold NEV; omega) (a,0,0) (turn_mem (by omega) a1).2 rfl
   simp only at this
   omega
 have fin:∀ u,0≤u→u≤x.1→s.f u<NEV:=fun u u0 u1=>by
  by_cases e:u=0
  ·subst e; unfold NEV; omega
  ·obtain ⟨c0,hc0,_⟩:=PC.any (x:=x) (a:=a) (t:=0) a0 a1 (by omega) (by omega)
   have:=key hc0 (by unfold NEV; omega) (0,u,100000) (turn_mem (by omega) u1).1 rfl
   simp only at this
   unfold NEV
   omega
 have hn:=hp.node h a0 a1
 refine ⟨?_,fin t hn.1 hn.2⟩
 clear hn
 induction hp with
 | nil=>exact h5
 | @snoc u c r hpu hr hu ih =>
  have hnu:=hpu.node h a0 a1
  have:=key hpu (fin u hnu.1 hnu.2) r hr hu
  omega
theorem FinS.dist {x:Int×List RR} (h:csheet x=0) {a:Int} {X:Ar 21 Int} {l:List (Int×Int)} {s:St} (hf:FinS x a X l s) (a0:0≤a) (a1:a≤x.1) {t:Int} (t0:0≤t) (t1:t≤x.1):Dist x a t (gA X t)∧gA X t=s.f t:=by
 obtain ⟨_,_,h3,_⟩:=csheet_ok h
 obtain ⟨c,hc,_⟩:=PC.any (x:=x) a0 a1 t0 t1
 have h1:=hf.le h a0 a1 hc
 have e:=hf.rep.f t t0 (by omega)
 rw [e]
 refine ⟨⟨?_,fun c hc=>(hf.le h a0 a1 hc).1⟩,rfl⟩
 rcases hf.jv.j1 t with h2 | h2
 ·rw [h2] at h1; omega
 ·exact h2
end Go.Proofs.YtfmelbioccbdoaaGreat
end
section
namespace Go.Proofs.YtfmelbioccbdoaaGreat
open Go Go.Md Go.RowKit
open BF (Rl St Back rel pass NEV)
open Classical in
noncomputable def D (x:Int×List RR) (a t:Int):Int:=if h:∃ d,Dist x a t d then Classical.choose h else 0
section
variable {x:Int×List RR} {a t u:Int} {F:Nat}
theorem D_of {d:Int} (h:Dist x a t d):D x a t=d:=by
 unfold D
 have he:∃ d,Dist x a t d:=⟨d,h⟩
 rw [dif_pos he]
 exact (Classical.choose_spec he).uni h
theorem find_D (h:csheet x=0) (hP:Pot x) (a0:0≤a) (a1:a≤x.1) (hF:100000000000000000≤F) :
  ∃ X l s,speed_net_find F ((x.1,x.2),whole x) a=some (X,l)∧FinS x a X l s∧∀ t,0≤t→t≤x.1→gA X t=D x a t∧ix X.l t=some (D x a t):=by
 obtain ⟨_,_,h3,_⟩:=csheet_ok h
 obtain ⟨X,l,s,e,hf⟩:=find_eq h hP a0 a1 hF
 refine ⟨X,l,s,e,hf,fun t t0 t1=>?_⟩
 have:=D_of (hf.dist h a0 a1 t0 t1).1
 exact ⟨this.symm,by rw [ixA (X:=X) t0 (by omega),this]⟩
theorem D_dist (h:csheet x=0) (hP:Pot x) (a0:0≤a) (a1:a≤x.1) (t0:0≤t) (t1:t≤x.1):Dist x a t (D x a t):=by
 obtain ⟨X,l,s,e,hf,hD⟩:=find_D (F:=100000000000000000) h hP a0 a1 (Nat.le_refl _)
 rw [← (hD t t0 t1).1]
 exact (hf.dist h a0 a1 t0 t1).1
theorem D_bd (h:csheet x=0) (hP:Pot x) (a0:0≤a) (a1:a≤x.1) (t0:0≤t) (t1:t≤x.1):-100000≤D x a t∧D x a t≤100000:=by
 obtain ⟨h1,h2⟩:=D_dist h hP a0 a1 t0 t1
 refine ⟨h1.low h hP a0 a1,?_⟩
 obtain ⟨c,hc,hc2⟩:=PC.any (x:=x) a0 a1 t0 t1
 have:=h2 c hc
 omega
theorem open_eq (h:csheet x=0) (hF:1000≤F):(Pot x→speed_open F x=some (⟨some ((x.1,x.2),whole x)⟩,0))∧(¬ Pot x→speed_open F x=some (⟨none⟩,21)):=by
 obtain ⟨h1,h2,h3,_⟩:=csheet_ok h
 unfold speed_open
 simp only [checkSheet_eq (x:=(x.1,x.2)) (show 100<F by omega),Option.bind_eq_bind,Option.bind_some]
 have e:csheet (x.1,x.2)=csheet x:=rfl
 rw [e,if_neg (by simp [h]),newNet_eq (x:=(x.1,x.2)) (by omega) (by simp; omega) h3 h1]
 have ew:whole (x.1,x.2)=whole x:=rfl
 rw [ew]
 simp only [Option.bind_some]
 rcases circle_eq h (F:=F) (by omega) with ⟨e1,hp⟩ | ⟨hn,e0,a,e1,hc⟩
 ·rw [e1]
  simp only [Option.bind_some]
  exact ⟨fun _=>by rw [if_neg (by simp)],fun h=>(h hp).elim⟩
 ·rw [e1]
  simp only [Option.bind_some]
  refine ⟨fun h=>(hn h).elim,fun _=>?_⟩
  rw [if_pos]
  cases a with
  | nil=>have:=hc.hd; simp at this
  | cons p a=>simp
end
end Go.Proofs.YtfmelbioccbdoaaGreat
end
section
namespace Go.Proofs.YtfmelbioccbdoaaGreat
open Go Go.Md Go.RowKit
abbrev FF:Nat:=100000000000000000
theorem worksF:law01_Works FF=some true:=by kernel_rfl
end Go.Proofs.YtfmelbioccbdoaaGreat
end
section
namespace Go.Proofs.YtfmelbioccbdoaaGreat
namespace FW
def NV:Int:=1099511627776
abbrev Mx:=Int→Int→Int
def mm (c s:Int):Int:=if (if s<c then s else c) > -NV then (if s<c then s else c) else -NV
def nw (g:Mx) (h i k:Int):Int:=if g i h<NV∧g h k<NV then mm (g i k) (g i h + g h k) else g i k
def up1 (h i k:Int) (g:Mx):Mx:=fun i' k'=>if i'=i∧k'=k then nw g h i k else g i' k'
def rowF (h i:Int) (ks:List Int) (g:Mx):Mx:=ks.foldl (fun g k=>up1 h i k g) g
def phF (h:Int) (ns is:List Int) (g:Mx):Mx:=is.foldl (fun g i=>rowF h i ns g) g
def fwF (ns hs:List Int) (g:Mx):Mx:=hs.foldl (fun g h=>phF h ns ns g) g
def Rg (g:Mx):Prop:=∀ i k,-NV≤g i k∧g i k≤NV
section
variable {g:Mx} {h:Int}
theorem nw_col (hg:Rg g) (h0:g h h=0) (i:Int):nw g h i h=g i h:=by
 unfold nw mm
 have:=hg i h
 rw [h0]
 split
 ·split <;> split <;> omega
 ·rfl
theorem nw_row (hg:Rg g) (h0:g h h=0) (k:Int):nw g h h k=g h k:=by
 unfold nw mm
 have:=hg h k
 rw [h0]
 split
 ·split <;> split <;> omega
 ·rfl
def Part (g:Mx) (h:Int) (P:Int→Int→Prop) (g':Mx):Prop:=∀ i k,(P i k→g' i k=nw g h i k)∧(¬ P i k→g' i k=g i k)
theorem Part.fix (hg:Rg g) (h0:g h h=0) {P:Int→Int→Prop} {g':Mx} (hp:Part g h P g'):(∀ i,g' i h=g i h)∧∀ k,g' h k=g h k:=by
 refine ⟨fun i=>?_,fun k=>?_⟩
 ·by_cases hc:P i h
  ·rw [(hp i h).1 hc,nw_col hg h0]
  ·exact (hp i h).2 hc
 ·by_cases hc:P h k
  ·rw [(hp h k).1 hc,nw_row hg h0]
  ·exact (hp h k).2 hc
theorem Part.up1 (hg:Rg g) (h0:g h h=0) {P:Int→Int→Prop} {g':Mx} (hp:Part g h P g') {i k:Int} (hn:¬ P i k):Part g h (fun a b=>P a b∨(a=i∧b=k)) (up1 h i k g'):=by
 obtain ⟨h1,h2⟩:=hp.fix hg h0
 have e:nw g' h i k=nw g h i k:=by
  unfold nw
  rw [h1 i,h2 k,(hp i k).2 hn]
 intro a b
 unfold FW.up1
 by_cases hab:a=i∧b=k
 ·rw [if_pos hab]
  refine ⟨fun _=>by rw [e,hab.1,hab.2],fun hno=>(hno (.inr hab)).elim⟩
 ·rw [if_neg hab]
  refine ⟨fun hc=>?_,fun hc=>(hp a b).2 fun hc2=>hc (.inl hc2)⟩
  rcases hc with hc | hc
  ·exact (hp a b).1 hc
  ·exact (hab hc).elim
theorem Part.row (hg:Rg g) (h0:g h h=0) {i:Int}:∀ (ks:List Int) (P:Int→Int→Prop) (g':Mx),ks.Nodup→(∀ k∈ks,¬ P i k)→Part g h P g'→Part g h (fun a b=>P a b∨(a=i∧b∈ks)) (rowF h i ks g')
 | [],P,g',_,_,hp=>by simpa [rowF] using hp
 | k::ks,P,g',hn,hk,hp=>by
  simp only [List.nodup_cons] at hn
  have h1:=hp.up1 hg h0 (hk k (by simp))
  have h2:=Part.row hg h0 ks _ _ hn.2 (fun q hq hc=>by
   rcases hc with hc | ⟨_,hc⟩
   ·exact hk q (by simp [hq]) hc
   ·exact hn.1 (hc ▸ hq)) h1
  have e:(fun a b=>(P a b∨(a=i∧b=k))∨(a=i∧b∈ks))=fun a b=>P a b∨(a=i∧b∈k::ks):=by
   funext a b
   simp only [List.mem_cons,eq_iff_iff]
   constructor
   ·rintro ((h | ⟨h1,h2⟩) | ⟨h1,h2⟩)
    ·exact .inl h
    ·exact .inr ⟨h1,.inl h2⟩
    ·exact .inr ⟨h1,.inr h2⟩
   ·rintro (h | ⟨h1,h2 | h2⟩)
    ·exact .inl (.inl h)
    ·exact .inl (.inr ⟨h1,h2⟩)
    ·exact .inr ⟨h1,h2⟩
  rw [e] at h2
  exact h2
end
inductive PI (R:List RR) (m a:Int):Int→Int→Prop
 | one {r:RR} (hr:r∈R) (ha:r.1=a):PI R m a r.2.1 r.2.2
 | snoc {u c:Int} {r:RR} (h:PI R m a u c) (hu:u<m) (hr:r∈R) (he:r.1=u):PI R m a r.2.1 (c + r.2.2)
theorem PI.split {R:List RR} {m a:Int} (hloop:∀ c,PI R m m m c→0≤c) {t c:Int} (h:PI R (m + 1) a t c):PI R m a t c∨∃ c1 c2,PI R m a m c1∧PI R m m t c2∧c1 + c2≤c:=by
 induction h with
 | one hr ha=>exact .inl (.one hr ha)
 | @snoc u c r h hu hr he ih =>
  by_cases hum:u=m
  ·subst hum
   rcases ih with ih | ⟨c1,c2,h1,h2,h3⟩
   ·exact .inr ⟨c,r.2.2,ih,.one hr he,Int.le_refl _⟩
   ·have:=hloop c2 h2
    exact .inr ⟨c1,r.2.2,h1,.one hr he,by omega⟩
  ·have hum:u<m:=by omega
   rcases ih with ih | ⟨c1,c2,h1,h2,h3⟩
   ·exact .inl (.snoc ih hum hr he)
   ·exact .inr ⟨c1,c2 + r.2.2,h1,.snoc h2 hum hr he,by omega⟩
def In (n:Int) (i:Int):Prop:=0≤i∧i<n
structure Ok (R:List RR) (n m b:Int) (g:Mx):Prop where
 rg:Rg g
 dg:∀ i,In n i→g i i=0
 bd:∀ i k,In n i→In n k→g i k=NV∨(-b≤g i k∧g i k≤b)
 un:∀ a t c,In n a→In n t→PI R m a t c→g a t≤c∧g a t<NV
 so:∀ i k,In n i→In n k→g i k=NV∨PC R i k (g i k)
def So (x:Int×List RR) (g:Mx):Prop:=∀ i k,(0≤i∧i≤x.1)→(0≤k∧k≤x.1)→g i k=NV∨PC (whole x) i k (g i k)
theorem So.up1 {x:Int×List RR} (hx:csheet x=0) (hP:Pot x) {g:Mx} (h:So x g) {q i k:Int} (hq:0≤q∧q≤x.1) (hi:0≤i∧i≤x.1) (hk:0≤k∧k≤x.1):So x (up1 q i k g):=by
 intro a b ha hb
 unfold FW.up1
 split
 ·rename_i e
  rw [e.1,e.2]
  unfold nw
  split
  ·rename_i hlt
   have s1:PC (whole x) i q (g i q):=by
    rcases h i q hi hq with s | s
    ·omega
    ·exact s
   have s2:PC (whole x) q k (g q k):=by
    rcases h q k hq hk with s | s
    ·omega
    ·exact s
   have s3:=s1.trans s2
   have l3:=s3.low hx hP hi.1 hi.2
   unfold mm
   by_cases hc:g i q + g q k<g i k
   ·rw [if_pos hc,if_pos (by unfold NV; omega)]
    exact .inr s3
   ·rw [if_neg hc]
    rcases h i k hi hk with s | s
    ·rw [s,if_pos (by unfold NV; omega)]
     exact .inl rfl
    ·have:=s.low hx hP hi.1 hi.2
     rw [if_pos (by unfold NV; omega)]
     exact .inr s
  ·exact h i k hi hk
 ·exact h a b ha hb
theorem So.all {x:Int×List RR} (hx:csheet x=0) (hP:Pot x) {ns:List Int} (hm:∀ i∈ns,0≤i∧i≤x.1) {g:Mx} (h:So x g):So x (fwF ns ns g):=by
 have key:∀ {β:Type} {step:Mx→β→Mx} (l:List β),(∀ g,∀ b∈l,So x g→So x (step g b))→∀ g,So x g→So x (l.foldl step g):=by
  intro β step l
  induction l with
  | nil=>intro _ g hg; exact hg
  | cons b l ih =>
   intro hs g hg
   exact ih (fun g c hc=>hs g c (by simp [hc])) _ (hs g b (by simp) hg)
 refine key ns (fun g q hq hg=>?_) g h
 refine key ns (fun g i hi hg=>?_) g hg
 exact key ns (fun g k hk hg=>hg.up1 hx hP (hm q hq) (hm i hi) (hm k hk)) g hg
end FW
end Go.Proofs.YtfmelbioccbdoaaGreat
end
section
namespace Go.Proofs.YtfmelbioccbdoaaGreat
open Go Go.Md Go.RowKit
open FW (Mx up1 rowF phF fwF nw Rg In Ok So)
structure RepM (n:Nat) (M:List (List Int)) (g:Mx):Prop where
 len:M.length=n
 row:∀ i:Nat,i<n→∃ r,M[i]?=some r∧r.length=n∧∀ k:Nat,k<n→r[k]?=some (g i k)
theorem RepM.ext {n:Nat} {M:List (List Int)} {g g':Mx} (h:RepM n M g) (e:∀ i k:Nat,i<n→k<n→g i k=g' i k):RepM n M g' :=
 ⟨h.len,fun i hi=>by
  obtain ⟨r,h1,h2,h3⟩:=h.row i hi
  exact ⟨r,h1,h2,fun k hk=>by rw [h3 k hk,e i k hi hk]⟩⟩
theorem RepM.at {n:Nat} {M:List (List Int)} {g:Mx} (h:RepM n M g) {i:Int} (i0:0≤i) (i1:i<n):∃ r,ix M i=some r∧r.length=n∧∀ k:Int,0≤k→k<n→ix r k=some (g i k):=by
 obtain ⟨r,h1,h2,h3⟩:=h.row i.toNat (by omega)
 refine ⟨r,by unfold ix; rw [if_pos i0]; exact h1,h2,fun k k0 k1=>?_⟩
 unfold ix
 rw [if_pos k0,h3 k.toNat (by omega)]
 have e1:((i.toNat:Nat):Int)=i:=by omega
 have e2:((k.toNat:Nat):Int)=k:=by omega
 rw [e1,e2]
theorem RepM.set {n:Nat} {M:List (List Int)} {g:Mx} (h:RepM n M g) {i k v:Int} (i0:0≤i) (i1:i<n) (k0:0≤k) (k1:k<n) {r:List Int} (hr:ix M i=some r):RepM n (rset M i (rset r k v)) (fun a b=>if a=i∧b=k then v else g a b):=by
 have e1:((i.toNat:Nat):Int)=i:=by omega
 have e2:((k.toNat:Nat):Int)=k:=by omega
 obtain ⟨r',h1,h2,h3⟩:=h.row i.toNat (by omega)
 have er:r'=r:=by
  unfold ix at hr
  rw [if_pos i0,h1] at hr
  exact Option.some.inj hr
 subst er
 refine ⟨by unfold rset; rw [List.length_set]; exact h.len,fun a ha=>?_⟩
 have hl:=h.len
 by_cases hai:i.toNat=a
 ·subst hai
  refine ⟨rset r' k v,by unfold rset; rw [List.getElem?_set,if_pos rfl,if_pos (by omega)],by unfold rset; rw [List.length_set]; exact h2,fun b hb=>?_⟩
  unfold rset
  rw [List.getElem?_set]
  by_cases hbk:k.toNat=b
  ·subst hbk
   rw [if_pos rfl,if_pos (by omega),if_pos ⟨e1,e2⟩]
  ·rw [if_neg hbk,h3 b hb,if_neg (by omega)]
 ·obtain ⟨q,q1,q2,q3⟩:=h.row a ha
  refine ⟨q,by unfold rset; rw [List.getElem?_set,if_neg hai]; exact q1,q2,fun b hb=>?_⟩
  rw [q3 b hb,if_neg (by omega)]
section
variable {n:Nat} {F:Nat}
def g0:Mx:=fun i k=>if i=k then 0 else FW.NV
end
section
variable {x:Int×List RR} {F:Nat}
end
end Go.Proofs.YtfmelbioccbdoaaGreat
end
section
namespace Go.Proofs.YtfmelbioccbdoaaGreat
open Go Go.Md Go.RowKit
open BF (Rl St Back rel pass NEV)
section
variable {x:Int×List RR} {F:Nat} {a b t:Int}
end
end Go.Proofs.YtfmelbioccbdoaaGreat
end
section
namespace Go.Proofs.YtfmelbioccbdoaaGreat
open Go Go.Md Go.RowKit
open BF (Rl St Back)
section
variable {x:Int×List RR} {a b t:Int} {way:List Int} {F:Nat}
end
end Go.Proofs.YtfmelbioccbdoaaGreat
end
section
namespace Go.Proofs.YtfmelbioccbdoaaGreat
open Go Go.Md Go.RowKit
section
variable {x:Int×List RR} {F:Nat} {a b t:Int}
end
end Go.Proofs.YtfmelbioccbdoaaGreat
end
section
namespace Go.Proofs.YtfmelbioccbdoaaGreat
open Go Go.Md Go.RowKit
section
variable {x:Int×List RR} {F:Nat} {a b t:Int}
def PairOK (x:Int×List RR) (s:List Int) (n:Int):Prop:=∀ i j,0≤i→i≤n→0≤j→j≤n→ofS s j≤ofS s i + D x i j
theorem PairOK.bd (h:csheet x=0) (hP:Pot x) {s:List Int} {n:Int} (hn:n≤x.1) (hp:PairOK x s n) {i:Int} (i0:0≤i) (i1:i≤n):-100000≤ofS s i∧ofS s i≤100000:=by
 obtain ⟨h1,h2,h3,_⟩:=csheet_ok h
 have b1:=D_bd h hP (a:=0) (t:=i) (by omega) (by omega) i0 (by omega)
 have b2:=D_bd h hP (a:=i) (t:=0) i0 (by omega) (by omega) (by omega)
 have z:ofS s 0=0:=rfl
 have e1:=hp 0 i (by omega) (by omega) i0 i1
 have e2:=hp i 0 i0 i1 (by omega) (by omega)
 rw [z] at e1 e2
 omega
end
end Go.Proofs.YtfmelbioccbdoaaGreat
end
section
namespace Go.Proofs.YtfmelbioccbdoaaGreat
open Go Go.Md Go.RowKit
namespace Sg
abbrev To:=(Int×Int)×Int
def hi (l:List To) (p:Nat):Int:=(l[p]?.getD default).1.2
def Bd (l:List To):Prop:=∀ x∈l,0≤x.1.2∧x.1.2≤10000
theorem hi_get {l:List To} {p:Nat} (h:p<l.length):hi l p=l[p].1.2:=by simp [hi,List.getElem?_eq_getElem h]
theorem Bd.hi {l:List To} (h:Bd l) {p:Nat} (hp:p<l.length):0≤hi l p∧hi l p≤10000:=by rw [hi_get hp]; exact h _ (List.getElem_mem hp)
theorem rset_nat {α:Type} {l:List α} {k:Nat} {x:α}:rset l (k:Int) x=l.set k x:=by simp [rset]
theorem hi_set {l:List To} {k p:Nat} {x:To} (h:k<l.length):hi (l.set k x) p=if p=k then x.1.2 else hi l p:=by
 unfold hi
 by_cases e:p=k
 ·subst e; simp [List.getElem?_set_self h]
 ·rw [List.getElem?_set_ne (fun h=>e h.symm),if_neg e]
def Srt (l:List To) (a b:Nat):Prop:=∀ p q,a≤p→p<q→q<b→hi l p≤hi l q
def But (l:List To) (a b j:Nat):Prop:=(∀ p q,a≤p→p<q→q<b→p≠j→q≠j→hi l p≤hi l q)∧∀ q,j<q→q<b→hi l j≤hi l q
def swp (l:List To) (i j:Nat):List To:=(l.set i (l[j]?.getD default)).set j (l[i]?.getD default)
theorem swp_perm {l:List To} {i j:Nat} (hi:i<l.length) (hj:j<l.length):(swp l i j).Perm l:=by
 have:=List.set_set_perm hi hj
 unfold swp
 rw [List.getElem?_eq_getElem hi,List.getElem?_eq_getElem hj]
 exact this
theorem swp_len {l:List To} {i j:Nat}:(swp l i j).length=l.length:=by simp [swp]
theorem hi_swp {l:List To} {i j p:Nat} (h1:i<l.length) (h2:j<l.length):hi (swp l i j) p=if p=j then hi l i else if p=i then hi l j else hi l p:=by
 unfold swp
 rw [hi_set (by simpa using h2),hi_set h1]
 rfl
theorem swp_get {l:List To} {i j p:Nat} (h1:p≠i) (h2:p≠j):(swp l i j)[p]?=l[p]?:=by
 unfold swp
 rw [List.getElem?_set_ne (fun h=>h2 h.symm),List.getElem?_set_ne (fun h=>h1 h.symm)]
theorem cmp_eq {l:List To} (hb:Bd l) {x y:To} (hx:x∈l) (hy:y∈l):scale_newSong_1 ((x.1.1,x.1.2),x.2) ((y.1.1,y.1.2),y.2)=some (x.1.2 - y.1.2):=by
 unfold scale_newSong_1
 have h1:=hb x hx; have h2:=hb y hy
 show some (w64 (x.1.2 - y.1.2))=_
 rw [w64_in (by omega)]
theorem Bd.perm {l k:List To} (h:Bd l) (p:k.Perm l):Bd k:=fun x hx=>h x (p.mem_iff.1 hx)
theorem ins2 {F a b:Nat}:∀ (m j:Nat) (y:List To),Bd y→y.length<1000000→j<y.length→a≤j→j<b→b≤y.length→j - a<m→But y a b j →
  ∃ z,slices_insertionSortCmpFunc__scale_tone_l2 F (a:Int) m y (j:Int)=some z∧z.Perm y∧Srt z a b∧∀ p,(p<a∨b≤p)→z[p]?=y[p]?
 | 0,j,y,_,_,_,_,_,_,h,_=>by omega
 | m + 1,j,y,hb,hl,hj,haj,hjb,hby,hm,hbut=>by
  unfold slices_insertionSortCmpFunc__scale_tone_l2
  by_cases h0:a<j
  ·have hj1:j - 1<y.length:=by omega
   rw [if_pos (show decide ((a:Int)<(j:Int))=true by simpa using h0),show (w64 ((j:Int) - 1))=((j - 1:Nat):Int) by rw [w64_in (by omega)]; omega,ix_nat hj,ix_nat hj1]
   simp only [Option.bind_eq_bind,Option.bind_some]
   rw [cmp_eq hb (List.getElem_mem hj) (List.getElem_mem hj1)]
   simp only [Option.bind_some]
   by_cases hlt:y[j].1.2 - y[j - 1].1.2<0
   ·rw [if_pos (by simpa using hlt),rset_nat,ix_nat (show j - 1<(y.set j _).length by simpa using hj1)]
    simp only [Option.bind_some]
    rw [rset_nat]
    have e:(y.set j ((y[j - 1].1.1,y[j - 1].1.2),y[j - 1].2)).set (j - 1) ((y[j].1.1,y[j].1.2),y[j].2)=swp y j (j - 1):=by
     unfold swp; rw [List.getElem?_eq_getElem hj,List.getElem?_eq_getElem hj1]; rfl
    rw [e]
    have hlt':hi y j≤hi y (j - 1):=by rw [hi_get hj,hi_get hj1]; omega
    have hH:∀ p,hi (swp y j (j - 1)) p=if p=j - 1 then hi y j else if p=j then hi y (j - 1) else hi y p:=fun p=>hi_swp hj hj1
    obtain ⟨z,e1,e2,e3,e4⟩:=ins2 (F:=F) (a:=a) (b:=b) m (j - 1) (swp y j (j - 1)) (hb.perm (swp_perm hj hj1)) (by rw [swp_len]; exact hl) (by rw [swp_len]; exact hj1) (by omega) (by omega) (by rw [swp_len]; exact hby) (by omega) (by
     constructor
     ·intro p q h1 h2 h3 h4 h5
      rw [hH,hH,if_neg h4,if_neg h5]
      by_cases e1:p=j
      ·rw [if_pos e1,if_neg (by omega)]; exact hbut.1 _ _ (by omega) (by omega) h3 (by omega) (by omega)
      ·rw [if_neg e1]
       by_cases e2:q=j
       ·rw [if_pos e2]; exact hbut.1 _ _ h1 (by omega) (by omega) e1 (by omega)
       ·rw [if_neg e2]; exact hbut.1 _ _ h1 h2 h3 e1 e2
     ·intro q h1 h2
      rw [hH,hH,if_pos rfl,if_neg (by omega)]
      by_cases e2:q=j
      ·rw [if_pos e2]; exact hlt'
      ·rw [if_neg e2]; exact hbut.2 _ (by omega) h2)
    exact ⟨z,e1,e2.trans (swp_perm hj hj1),e3,fun p hp=>by rw [e4 p hp,swp_get (by omega) (by omega)]⟩
   ·rw [if_neg (by simpa using hlt)]
    refine ⟨y,rfl,.refl _,?_,fun _ _=>rfl⟩
    have hle:hi y (j - 1)≤hi y j:=by rw [hi_get hj,hi_get hj1]; omega
    intro p q h1 h2 h3
    by_cases e1:p=j
    ·subst e1; exact hbut.2 _ h2 h3
    ·by_cases e2:q=j
     ·subst e2
      by_cases e3:p=q - 1
      ·rw [e3]; exact hle
      ·exact Int.le_trans (hbut.1 p (q - 1) h1 (by omega) (by omega) e1 (by omega)) hle
     ·exact hbut.1 _ _ h1 h2 h3 e1 e2
  ·rw [if_neg (show ¬ decide ((a:Int)<(j:Int))=true by simpa using h0)]
   simp only [Option.bind_eq_bind,Option.bind_some]
   rw [if_neg (by simp)]
   refine ⟨y,rfl,.refl _,?_,fun _ _=>rfl⟩
   have:j=a:=by omega
   subst this
   intro p q h1 h2 h3
   by_cases e1:p=j
   ·subst e1; exact hbut.2 _ h2 h3
   ·exact hbut.1 _ _ h1 h2 h3 e1 (by omega)
theorem ins1 {F a b:Nat} (hF:1000000<F):∀ (m i:Nat) (y:List To),Bd y→y.length<1000000→a<i→b≤y.length→b - i<m→Srt y a i →
  ∃ z,slices_insertionSortCmpFunc__scale_tone_l1 F (a:Int) (b:Int) m y (i:Int)=some z∧z.Perm y∧Srt z a b∧∀ p,(p<a∨b≤p)→z[p]?=y[p]?
 | 0,i,y,_,_,_,_,h,_=>by omega
 | m + 1,i,y,hb,hl,hai,hby,hm,hs=>by
  unfold slices_insertionSortCmpFunc__scale_tone_l1
  by_cases h0:i<b
  ·rw [if_pos (show decide ((i:Int)<(b:Int))=true by simpa using h0)]
   obtain ⟨z,e1,e2,e3,e4⟩:=ins2 (F:=F) (a:=a) (b:=i + 1) F i y hb hl (by omega) (by omega) (by omega) (by omega) (by omega)
    ⟨fun p q h1 h2 h3 h4 h5=>hs p q h1 h2 (by omega),fun q h1 h2=>by omega⟩
   rw [e1]
   simp only [Option.bind_eq_bind,Option.bind_some]
   rw [show (w64 ((i:Int) + 1))=((i + 1:Nat):Int) by rw [w64_in (by omega)]; omega]
   obtain ⟨z2,f1,f2,f3,f4⟩:=ins1 (a:=a) (b:=b) hF m (i + 1) z (hb.perm e2) (by rw [e2.length_eq]; exact hl) (by omega) (by rw [e2.length_eq]; exact hby) (by omega) e3
   exact ⟨z2,f1,f2.trans e2,f3,fun p hp=>by rw [f4 p hp,e4 p (by omega)]⟩
  ·rw [if_neg (show ¬ decide ((i:Int)<(b:Int))=true by simpa using h0)]
   exact ⟨y,rfl,.refl _,fun p q h1 h2 h3=>hs p q h1 h2 (by omega),fun _ _=>rfl⟩
theorem ins_eq {F a b:Nat} (hF:1000000<F) {y:List To} (hb:Bd y) (hl:y.length<1000000) (hby:b≤y.length) (ha:a<1000000) :
  ∃ z,slices_insertionSortCmpFunc__scale_tone F y (a:Int) (b:Int)=some z∧z.Perm y∧Srt z a b∧∀ p,(p<a∨b≤p)→z[p]?=y[p]?:=by
 unfold slices_insertionSortCmpFunc__scale_tone
 rw [show (w64 ((a:Int) + 1))=((a + 1:Nat):Int) by rw [w64_in (by omega)]; omega]
 obtain ⟨z,e1,e2⟩:=ins1 (a:=a) (b:=b) hF F (a + 1) y hb hl (by omega) hby (by omega) (fun p q h1 h2 h3=>by omega)
 rw [e1]
 exact ⟨z,rfl,e2⟩
theorem sort_eq {F:Nat} (hF:1000000<F) {y:List To} (hb:Bd y) (hl:y.length≤20):∃ z,slices_SortStableFunc_scale_tone F y=some z∧z.Perm y∧Srt z 0 y.length:=by
 obtain ⟨G,rfl⟩:∃ G,F=G + 2:=⟨F - 2,by omega⟩
 unfold slices_SortStableFunc_scale_tone slices_stableCmpFunc__scale_tone
 unfold slices_stableCmpFunc__scale_tone_l1 slices_stableCmpFunc__scale_tone_l2
 have hno:¬ decide ((20:Int)<(y.length:Int))=true:=by simp; omega
 by_cases h20:y.length=20
 ·rw [if_pos (by simp; omega)]
  obtain ⟨z,e1,e2,e3,-⟩:=ins_eq (F:=G + 2) (a:=0) (b:=20) hF hb (by omega) (by omega) (by omega)
  rw [show slices_insertionSortCmpFunc__scale_tone (G + 2) y 0 20=some z from e1]
  simp only [Option.bind_eq_bind,Option.bind_some]
  unfold slices_stableCmpFunc__scale_tone_l1
  rw [show w64 ((20:Int) + 20)=40 from rfl,if_neg (by simp; omega)]
  simp only [Option.bind_some]
  obtain ⟨z2,f1,f2,f3,f4⟩:=ins_eq (F:=G + 2) (a:=20) (b:=y.length) hF (hb.perm e2) (by rw [e2.length_eq]; omega) (by rw [e2.length_eq]; omega) (by omega)
  rw [show slices_insertionSortCmpFunc__scale_tone (G + 2) z 20 (y.length:Int)=some z2 from f1]
  simp only [Option.bind_some]
  rw [if_neg hno]
  refine ⟨z2,rfl,f2.trans e2,fun p q h1 h2 h3=>?_⟩
  have hh:∀ r,r<y.length→hi z2 r=hi z r:=fun r hr=>by unfold hi; rw [f4 r (by omega)]
  rw [hh p (by omega),hh q h3]
  exact e3 p q h1 h2 (by omega)
 ·rw [if_neg (by simp; omega)]
  simp only [Option.bind_eq_bind,Option.bind_some]
  obtain ⟨z,e1,e2,e3,-⟩:=ins_eq (F:=G + 2) (a:=0) (b:=y.length) hF hb (by omega) (Nat.le_refl _) (by omega)
  rw [show slices_insertionSortCmpFunc__scale_tone (G + 2) y 0 (y.length:Int)=some z from e1]
  simp only [Option.bind_some]
  rw [if_neg hno]
  exact ⟨z,rfl,e2,e3⟩
end Sg
end Go.Proofs.YtfmelbioccbdoaaGreat
end
section
namespace Go.Proofs.YtfmelbioccbdoaaGreat
open Go Go.Md Go.RowKit
namespace Sg
abbrev SL:Nat:=20
theorem idx_range {l:List (Int×Int)} {f:(Int×Int)→Option Bool} (F:Nat):∀ m k,slices_IndexFunc_api_Range_l1 F l f m k=idxL l f m k
 | 0,_=>rfl
 | m + 1,k=>by unfold slices_IndexFunc_api_Range_l1 idxL; simp only [idx_range F m]
theorem con_range {l:List (Int×Int)} {f:(Int×Int)→Option Bool} {p:(Int×Int)→Bool} {F:Nat} (hf:∀ x∈l,f x=some (p x)) (hF:l.length<F) (hl:l.length<4611686018427387904):slices_ContainsFunc_api_Range F l f=some (l.any p):=by
 obtain ⟨r,h1,h2,h3⟩:=idxL_any hf hl F 0 (Nat.zero_le _) (by omega)
 unfold slices_ContainsFunc_api_Range slices_IndexFunc_api_Range
 rw [idx_range]
 simp only [Int.natCast_zero,List.drop_zero] at h1 h2 h3
 rw [h1]
 cases hp:l.any p with
 | true=>obtain ⟨j,rfl⟩:=h2 hp; simp
 | false=>rw [h3 hp]; simp
def okR (x:Int×Int):Bool:=!((decide (x.1<0) || decide (x.2<x.1)) || decide (10000<x.2))
theorem okR_iff {x:Int×Int}:okR x=true↔0≤x.1∧x.1≤x.2∧x.2≤10000:=by
 unfold okR; simp; omega
theorem within_eq {F:Nat} {l:List (Int×Int)} (hF:l.length<F) (hl:l.length<4611686018427387904):scale_within F l=some (l.all okR):=by
 unfold scale_within
 rw [con_range (p:=fun x=>!okR x) (fun x _=>by unfold scale_within_1 okR; rw [Bool.not_not]) hF hl]
 simp only [Option.bind_eq_bind,Option.bind_some]
 rw [any_not,Bool.not_not]
def csong (l:List (Int×Int)):Int:=if l.length=0∨24<l.length then 6 else if l.all okR=true then 0 else 2
theorem csong_ok {l:List (Int×Int)}:csong l=0↔1≤l.length∧l.length≤24∧∀ x∈l,okR x=true:=by
 unfold csong
 by_cases h:l.length=0∨24<l.length
 ·rw [if_pos h]; constructor
  ·intro e; cases e
  ·omega
 ·rw [if_neg h]
  by_cases h2:l.all okR=true
  ·rw [if_pos h2]; rw [List.all_eq_true] at h2; exact ⟨fun _=>⟨by omega,by omega,h2⟩,fun _=>rfl⟩
  ·rw [if_neg h2]; constructor
   ·intro e; cases e
   ·intro h3; exact absurd (List.all_eq_true.2 h3.2.2) h2
theorem checkSong_eq {F:Nat} (hF:100<F) (l:List (Int×Int)):scale_CheckSong F l=some (csong l):=by
 unfold scale_CheckSong csong
 by_cases h:l.length=0∨24<l.length
 ·rw [if_pos h,if_pos (by simp only [Bool.or_eq_true,decide_eq_true_eq]; omega)]
 ·rw [if_neg h,if_neg (by simp only [Bool.or_eq_true,decide_eq_true_eq]; omega),within_eq (by omega) (by omega)]
  simp only [Option.bind_eq_bind,Option.bind_some]
  cases l.all okR <;> rfl
theorem rcheckSong_l1 {F:Nat} {l:List (Int×Int)} (hl:l.length<4611686018427387904):∀ (m k:Nat),k≤l.length→l.length - k<m →
  ref03_CheckSong_l1 F l m (k:Int)=some (if (l.drop k).all okR=true then .inr () else .inl 2)
 | 0,k,_,h=>by omega
 | m + 1,k,hk,h=>by
  unfold ref03_CheckSong_l1
  by_cases hlt:k<l.length
  ·rw [if_pos (by simpa using hlt),ix_nat hlt]
   have hd:l.drop k=l[k]::l.drop (k + 1):=List.drop_eq_getElem_cons hlt
   simp only [Option.bind_eq_bind,Option.bind_some]
   have ih:=rcheckSong_l1 (F:=F) hl m (k + 1) (by omega) (by omega)
   rw [hd,List.all_cons]
   have hx:(if (decide (l[k].1<0))=true then if True then some true else some (decide (10000<l[k].2)) else if (decide (l[k].2<l[k].1))=true then some true else some (decide (10000<l[k].2)):Option Bool)=some (!okR l[k]):=by
    unfold okR; rw [Bool.not_not]
    by_cases a:l[k].1<0 <;> by_cases b:l[k].2<l[k].1 <;> simp [a,b]
   rw [hx]
   simp only [Option.bind_some]
   cases okR l[k]
   ·rfl
   ·rw [if_neg (by simp),w64_in (by omega)]
    exact ih
  ·rw [if_neg (by simpa using hlt),List.drop_of_length_le (by omega)]
   rfl
theorem rcheckSong_eq {F:Nat} (hF:100<F) (l:List (Int×Int)):ref03_CheckSong F l=some (csong l):=by
 unfold ref03_CheckSong csong
 by_cases h:l.length=0∨24<l.length
 ·rw [if_pos h,if_pos (by simp only [Bool.or_eq_true,decide_eq_true_eq]; omega)]
 ·rw [if_neg h,if_neg (by simp only [Bool.or_eq_true,decide_eq_true_eq]; omega)]
  have:=rcheckSong_l1 (F:=F) (l:=l) (by omega) F 0 (by omega) (by omega)
  rw [show ((0:Nat):Int)=0 from rfl,List.drop_zero] at this
  rw [this]
  cases l.all okR <;> rfl
def tn:Nat→List (Int×Int)→List To
 | _,[]=>[]
 | k,a::l=>(a,(k:Int))::tn (k + 1) l
theorem tn_len:∀ (l:List (Int×Int)) (k:Nat),(tn k l).length=l.length
 | [],_=>rfl
 | a::l,k=>by simp [tn,tn_len l]
theorem tn_mem {x:To}:∀ (l:List (Int×Int)) (k:Nat),x∈tn k l↔∃ i:Nat,l[i]?=some x.1∧x.2=((k + i:Nat):Int)
 | [],k=>by simp [tn]
 | a::l,k=>by
  rw [tn,List.mem_cons,tn_mem l (k + 1)]
  constructor
  ·rintro (rfl | ⟨i,h1,h2⟩)
   ·exact ⟨0,rfl,rfl⟩
   ·exact ⟨i + 1,by simpa using h1,by rw [h2]; congr 1; omega⟩
  ·rintro ⟨i,h1,h2⟩
   cases i with
   | zero =>
    left
    have:a=x.1:=by simpa using h1
    rw [this]
    exact Prod.ext rfl h2
   | succ i=>right; exact ⟨i,by simpa using h1,by rw [h2]; congr 1; omega⟩
theorem tn_nodup:∀ (l:List (Int×Int)) (k:Nat),(tn k l).Pairwise fun x y=>x.2≠y.2
 | [],_=>.nil
 | a::l,k=>by
  rw [tn]
  refine .cons (fun y hy=>?_) (tn_nodup l (k + 1))
  obtain ⟨i,-,h⟩:=(tn_mem l (k + 1)).1 hy
  rw [h]; show (k:Int)≠_; omega
theorem newSong_l1 {F:Nat} {l:List (Int×Int)} (hl:l.length≤1000):∀ (m k:Nat) (Y:List To),k≤l.length→l.length - k<m→Y.length≤k →
  scale_newSong_l1 F l m (k:Int) ⟨Y⟩=some ⟨Y++tn k (l.drop k)⟩
 | 0,k,_,_,h,_=>by omega
 | m + 1,k,Y,hk,h,hY=>by
  unfold scale_newSong_l1
  by_cases hlt:k<l.length
  ·rw [if_pos (by simpa using hlt),ix_nat hlt]
   have hd:l.drop k=l[k]::l.drop (k + 1):=List.drop_eq_getElem_cons hlt
   simp only [Option.bind_eq_bind,Option.bind_some]
   rw [app_some (by simp only [List.length_cons,List.length_nil]; omega)]
   simp only [Option.bind_some]
   rw [show w64 ((k:Int) + 1)=((k + 1:Nat):Int) by rw [w64_in (by omega)]; rfl,newSong_l1 hl m (k + 1) _ (by omega) (by omega) (by simp only [List.length_append,List.length_cons,List.length_nil]; omega),hd,tn,List.append_assoc]
   rfl
  ·rw [if_neg (by simpa using hlt),List.drop_of_length_le (by omega)]
   simp [tn]
theorem bd_tn {l:List (Int×Int)} (h:∀ x∈l,okR x=true):Bd (tn 0 l):=by
 intro x hx
 obtain ⟨i,h1,-⟩:=(tn_mem l 0).1 hx
 have:=okR_iff.1 (h x.1 (List.mem_of_getElem? h1))
 omega
abbrev Asc (S:List To):Prop:=S.Pairwise fun x y=>x.1.2≤y.1.2
theorem newSong_eq {F:Nat} (hF:1000000<F) {l:List (Int×Int)} (hl:l.length≤SL) (h:∀ x∈l,okR x=true) :
  ∃ S,scale_newSong F l=some ⟨some ⟨S⟩⟩∧S.Perm (tn 0 l)∧Asc S:=by
 unfold scale_newSong
 have hl':l.length≤20:=hl
 have e:=newSong_l1 (F:=F) (l:=l) (by omega) F 0 [] (by omega) (by omega) (Nat.le_refl _)
 rw [List.drop_zero,List.nil_append] at e
 rw [show scale_newSong_l1 F l F 0 ⟨[]⟩=some ⟨tn 0 l⟩ from e]
 simp only [Option.bind_eq_bind,Option.bind_some]
 obtain ⟨S,h1,h2,h3⟩:=sort_eq hF (bd_tn h) (by rw [tn_len]; omega)
 rw [h1]
 refine ⟨S,rfl,h2,?_⟩
 rw [Asc,List.pairwise_iff_getElem]
 intro i j hi' hj hij
 have:=h3 i j (Nat.zero_le _) hij (by rw [← h2.length_eq]; exact hj)
 rwa [hi_get hi',hi_get hj] at this
def gr:List To→Int→List To
 | [],_=>[]
 | x::us,y=>if x.1.1≤y then gr us y else x::gr us x.1.2
theorem high_l1 {F:Nat}:∀ (S:List To) (s t:List Int) (y:Int),(∀ x∈S,x.1.1≤x.1.2)→s.length + S.length≤1000→t.length + S.length≤1000 →
  ∃ z,scale_song_high_l1 F (1,0) S s t y=some (s++(gr S y).map (·.1.2),t++(gr S y).map (·.2),z)
 | [],s,t,y,_,_,_=>⟨y,by simp [scale_song_high_l1,gr]⟩
 | x::us,s,t,y,h,h1,h2=>by
  unfold scale_song_high_l1 gr
  rw [List.length_cons] at h1 h2
  by_cases c:x.1.1≤y
  ·rw [if_pos (by simpa using c),if_pos c]
   exact high_l1 us s t y (fun x hx=>h x (List.mem_cons_of_mem _ hx)) (by omega) (by omega)
  ·rw [if_neg (by simpa using c),if_neg c]
   rw [if_neg (show ¬ ((decide (((1:Int),(0:Int)).1≤x.1.2)) && (decide (x.1.2≤((1:Int),(0:Int)).2)))=true by simp; omega)]
   simp only [Option.bind_eq_bind,Option.bind_some]
   rw [app_some (by simp only [List.length_cons,List.length_nil]; omega)]
   simp only [Option.bind_some]
   have:=h x List.mem_cons_self
   rw [if_neg (show ¬ decide (x.1.2<x.1.1)=true by simp; omega),app_some (by simp only [List.length_cons,List.length_nil]; omega)]
   simp only [Option.bind_some]
   obtain ⟨z,e⟩:=high_l1 (F:=F) us (s++[x.1.2]) (t++[x.2]) x.1.2 (fun x hx=>h x (List.mem_cons_of_mem _ hx)) (by simp only [List.length_append,List.length_cons,List.length_nil]; omega) (by simp only [List.length_append,List.length_cons,List.length_nil]; omega)
   exact ⟨z,by rw [e]; simp⟩
theorem high_eq {F:Nat} {S:List To} (h:∀ x∈S,x.1.1≤x.1.2) (hl:S.length≤1000):scale_song_high F ⟨S⟩ (1,0)=some ((gr S (-1)).map (·.1.2),(gr S (-1)).map (·.2)):=by
 unfold scale_song_high
 obtain ⟨z,e⟩:=high_l1 (F:=F) S [] [] (-1) h (by simpa using hl) (by simpa using hl)
 show (scale_song_high_l1 F (1,0) S [] [] (-1)) >>= _=_
 rw [e]; rfl
theorem gr_sub:∀ (S:List To) (y:Int),(gr S y).Sublist S
 | [],_=>.slnil
 | a::us,y=>by
  unfold gr; split
  ·exact (gr_sub us y).cons _
  ·exact (gr_sub us _).cons_cons _
theorem gr_lo:∀ (S:List To) (y:Int),(∀ x∈S,x.1.1≤x.1.2)→∀ x∈gr S y,y<x.1.1
 | [],_,_,x,h=>by cases h
 | a::us,y,hv,x,h=>by
  unfold gr at h
  split at h
  ·exact gr_lo us y (fun x hx=>hv x (List.mem_cons_of_mem _ hx)) x h
  ·rename_i c
   have:=hv a List.mem_cons_self
   rcases List.mem_cons.1 h with rfl | h
   ·omega
   ·have:=gr_lo us a.1.2 (fun x hx=>hv x (List.mem_cons_of_mem _ hx)) x h; omega
theorem gr_apart:∀ (S:List To) (y:Int),(∀ x∈S,x.1.1≤x.1.2)→(gr S y).Pairwise fun a b=>a.1.2<b.1.1
 | [],_,_=>.nil
 | a::us,y,hv=>by
  have hv':=fun x hx=>hv x (List.mem_cons_of_mem _ hx)
  unfold gr; split
  ·exact gr_apart us y hv'
  ·exact .cons (fun x hx=>gr_lo us _ hv' x hx) (gr_apart us _ hv')
theorem gr_met:∀ (S:List To) (y:Int),(∀ x∈S,x.1.1≤x.1.2)→Asc S→(∀ x∈S,y≤x.1.2)→∀ x∈S,(x.1.1≤y)∨∃ g∈gr S y,x.1.1≤g.1.2∧g.1.2≤x.1.2
 | [],_,_,_,_,x,h=>by cases h
 | a::us,y,hv,hs,hy,x,h=>by
  have hv':=fun x hx=>hv x (List.mem_cons_of_mem _ hx)
  have hs':=List.pairwise_cons.1 hs
  unfold gr; split
  ·rename_i c
   rcases List.mem_cons.1 h with rfl | h
   ·exact .inl c
   ·exact gr_met us y hv' hs'.2 (fun x hx=>hy x (List.mem_cons_of_mem _ hx)) x h
  ·rename_i c
   rcases List.mem_cons.1 h with rfl | h
   ·exact .inr ⟨_,List.mem_cons_self,hv _ List.mem_cons_self,Int.le_refl _⟩
   ·rcases gr_met us a.1.2 hv' hs'.2 (fun x hx=>hs'.1 x hx) x h with h1 | ⟨g,h1,h2⟩
    ·exact .inr ⟨_,List.mem_cons_self,h1,hs'.1 x h⟩
    ·exact .inr ⟨g,List.mem_cons_of_mem _ h1,h2⟩
theorem apart_le:∀ (P:List To) (q:List Int),P.Pairwise (fun a b=>a.1.2<b.1.1)→(∀ x∈P,∃ e∈q,x.1.1≤e∧e≤x.1.2)→P.length≤q.length
 | [],q,_,_=>Nat.zero_le _
 | a::P,q,hp,hq=>by
  have hp':=List.pairwise_cons.1 hp
  obtain ⟨e,he,h1,h2⟩:=hq a List.mem_cons_self
  have ih:=apart_le P (q.filter fun v=>decide (a.1.2<v)) hp'.2 (fun x hx=>by
   obtain ⟨v,hv,h3,h4⟩:=hq x (List.mem_cons_of_mem _ hx)
   have:=hp'.1 x hx
   exact ⟨v,List.mem_filter.2 ⟨hv,by simp; omega⟩,h3,h4⟩)
  have hlt:(q.filter fun v=>decide (a.1.2<v)).length<q.length:=by
   rw [← List.countP_eq_length_filter]
   have h3:=List.countP_le_length (p:=fun v=>decide (a.1.2<v)) (l:=q)
   rcases Nat.lt_or_ge (q.countP fun v=>decide (a.1.2<v)) q.length with h | h
   ·exact h
   ·have:=List.countP_eq_length.1 (Nat.le_antisymm h3 h) e he
    simp at this; omega
  rw [List.length_cons]; omega
end Sg
end Go.Proofs.YtfmelbioccbdoaaGreat
end
section
namespace Go.Proofs.YtfmelbioccbdoaaGreat
open Go Go.Md Go.RowKit
namespace Sg
def okS (v:Int):Bool:=decide (0≤v) && decide (v≤10000)
def incr (q:List Int):Bool:=decide (q.Pairwise (·<·))
def met (q:List Int) (r:Int×Int):Bool:=q.any fun v=>decide (r.1≤v) && decide (v≤r.2)
theorem met_iff {q:List Int} {r:Int×Int}:met q r=true↔∃ e∈q,r.1≤e∧e≤r.2:=by
 unfold met; simp
def cchk (l:List (Int×Int)) (q:List Int):Int :=
 if csong l≠0 then csong l else if 24<q.length then 6 else if q.all okS=false then 3 else if incr q=false then 16 else 0
def cscale (l:List (Int×Int)) (q:List Int):Int:=if cchk l q≠0 then cchk l q else if l.all (met q)=true then 0 else 19
theorem cscale_ok {l:List (Int×Int)} {q:List Int} (h:csong l=0) (hl:q.length≤24) (h1:∀ v∈q,0≤v∧v≤10000) (h2:q.Pairwise (·<·)) (h3:∀ r∈l,∃ e∈q,r.1≤e∧e≤r.2):cscale l q=0:=by
 have e1:q.all okS=true:=List.all_eq_true.2 fun v hv=>by have:=h1 v hv; unfold okS; simp; omega
 have e2:incr q=true:=decide_eq_true h2
 have e:cchk l q=0:=by
  unfold cchk
  rw [if_neg (fun e=>e h),if_neg (by omega),if_neg (by rw [e1]; simp),if_neg (by rw [e2]; simp)]
 unfold cscale
 rw [if_neg (fun h=>h e),if_pos (List.all_eq_true.2 fun r hr=>met_iff.2 (h3 r hr))]
theorem drop_pw {q:List Int} {k:Nat} (hk:1≤k) (hlt:k<q.length):incr (q.drop (k - 1))=(decide (q[k - 1]<q[k]) && incr (q.drop k)):=by
 have e1:q.drop (k - 1)=q[k - 1]::q.drop k:=by
  have:=List.drop_eq_getElem_cons (show k - 1<q.length by omega)
  rw [this]; congr 2; omega
 have e2:q.drop k=q[k]::q.drop (k + 1):=List.drop_eq_getElem_cons hlt
 unfold incr
 rw [← Bool.decide_and,e1]
 apply decide_eq_decide.2
 rw [List.pairwise_cons]
 constructor
 ·rintro ⟨h1,h2⟩; exact ⟨h1 _ (by rw [e2]; exact List.mem_cons_self),h2⟩
 ·rintro ⟨h1,h2⟩
  refine ⟨fun v hv=>?_,h2⟩
  rw [e2] at hv h2
  rcases List.mem_cons.1 hv with rfl | hv
  ·exact h1
  ·exact Int.lt_trans h1 ((List.pairwise_cons.1 h2).1 v hv)
theorem check_l1 {F:Nat} {q:List Int} (hl:q.length<1000000):∀ (m k:Nat),1≤k→q.length - k<m →
  scale_check_l1 F q m (k:Int)=some (if incr (q.drop (k - 1))=true then .inr () else .inl 16)
 | 0,k,_,h=>by omega
 | m + 1,k,hk,h=>by
  unfold scale_check_l1
  by_cases hlt:k<q.length
  ·rw [if_pos (by simpa using hlt),ix_nat hlt,show w64 ((k:Int) - 1)=((k - 1:Nat):Int) by rw [w64_in (by omega)]; omega,ix_nat (show k - 1<q.length by omega)]
   simp only [Option.bind_eq_bind,Option.bind_some]
   rw [drop_pw hk hlt]
   by_cases c:q[k - 1]<q[k]
   ·rw [if_neg (by simpa using c),show w64 ((k:Int) + 1)=((k + 1:Nat):Int) by rw [w64_in (by omega)]; rfl,check_l1 hl m (k + 1) (by omega) (by omega),decide_eq_true c,Bool.true_and]
    rfl
   ·rw [if_pos (by simpa using c),decide_eq_false c,Bool.false_and]; rfl
  ·rw [if_neg (by simpa using hlt)]
   have:incr (q.drop (k - 1))=true:=by
    unfold incr; apply decide_eq_true
    have hl2:(q.drop (k - 1)).length≤1:=by rw [List.length_drop]; omega
    match q.drop (k - 1),hl2 with
    | [],_=>exact .nil
    | [a],_=>simp
   rw [this]; rfl
theorem isScale_l1 {F:Nat} {q:List Int} (hl:q.length<1000000):∀ (m k:Nat),k≤q.length→q.length - k<m →
  ref03_IsScale_l1 F q m (k:Int)=some (if (q.drop k).all okS=true then .inr () else .inl 3)
 | 0,k,_,h=>by omega
 | m + 1,k,hk,h=>by
  unfold ref03_IsScale_l1
  by_cases hlt:k<q.length
  ·rw [if_pos (by simpa using hlt),ix_nat hlt]
   have hd:q.drop k=q[k]::q.drop (k + 1):=List.drop_eq_getElem_cons hlt
   simp only [Option.bind_eq_bind,Option.bind_some]
   rw [hd,List.all_cons]
   have hx:(if (decide (q[k]<0))=true then some true else some (decide (10000<q[k])):Option Bool)=some (!okS q[k]):=by
    unfold okS
    by_cases a:q[k]<0
    ·rw [if_pos (by simpa using a)]; congr 1; symm; simp; omega
    ·rw [if_neg (by simpa using a)]; congr 1; rw [Bool.eq_iff_iff]; simp; omega
   rw [hx]
   simp only [Option.bind_some]
   cases okS q[k]
   ·rfl
   ·rw [if_neg (by simp),show w64 ((k:Int) + 1)=((k + 1:Nat):Int) by rw [w64_in (by omega)]; rfl,isScale_l1 hl m (k + 1) (by omega) (by omega)]
    rfl
  ·rw [if_neg (by simpa using hlt),List.drop_of_length_le (by omega)]
   rfl
theorem isScale_l2 {F:Nat} {q:List Int} (hl:q.length<1000000):∀ (m k:Nat),1≤k→q.length - k<m →
  ref03_IsScale_l2 F q m (k:Int)=some (if incr (q.drop (k - 1))=true then .inr () else .inl 16)
 | 0,k,_,h=>by omega
 | m + 1,k,hk,h=>by
  have e:∀ m k,ref03_IsScale_l2 F q m k=scale_check_l1 F q m k:=by
   intro m
   induction m with
   | zero=>intro k; rfl
   | succ m ih=>intro k; unfold ref03_IsScale_l2 scale_check_l1; simp only [ih]
  rw [e]; exact check_l1 hl (m + 1) k hk h
theorem isScale_eq {F:Nat} (hF:1000000<F) {l:List (Int×Int)} {q:List Int}:ref03_IsScale F l q=some (cchk l q):=by
 unfold ref03_IsScale cchk
 rw [rcheckSong_eq (by omega)]
 simp only [Option.bind_eq_bind,Option.bind_some]
 by_cases c0:csong l=0
 ·rw [if_neg (by simpa using c0),if_neg (show ¬ (csong l≠0) from fun e=>e c0)]
  by_cases c1:24<q.length
  ·rw [if_pos (by simp; omega),if_pos c1]
  ·rw [if_neg (by simp; omega),if_neg c1]
   have h1:=isScale_l1 (F:=F) (q:=q) (by omega) F 0 (by omega) (by omega)
   rw [show ((0:Nat):Int)=0 from rfl,List.drop_zero] at h1
   rw [h1]
   cases c2:q.all okS with
   | false=>rfl
   | true =>
    have h2:=isScale_l2 (F:=F) (q:=q) (by omega) F 1 (Nat.le_refl _) (by omega)
    rw [show ((1:Nat):Int)=1 from rfl,show 1 - 1=0 from rfl,List.drop_zero] at h2
    show (ref03_IsScale_l2 F q F 1).bind _=some (if incr q=false then 16 else 0)
    rw [h2]
    cases incr q <;> rfl
 ·rw [if_pos (by simpa using c0),if_pos c0]
theorem meets_l1 {F:Nat} {r:Int×Int} {q:List Int} (hl:q.length<1000000):∀ (m k:Nat),k≤q.length→q.length - k<m →
  ref03_Meets_l1 F r q m (k:Int)=some (if met (q.drop k) r=true then .inl true else .inr ())
 | 0,k,_,h=>by omega
 | m + 1,k,hk,h=>by
  unfold ref03_Meets_l1
  by_cases hlt:k<q.length
  ·rw [if_pos (by simpa using hlt),ix_nat hlt]
   have hd:q.drop k=q[k]::q.drop (k + 1):=List.drop_eq_getElem_cons hlt
   simp only [Option.bind_eq_bind,Option.bind_some]
   have hx:(if (decide (r.1≤q[k]))=true then some (decide (q[k]≤r.2)) else some false:Option Bool)=some (decide (r.1≤q[k]) && decide (q[k]≤r.2)):=by
    by_cases a:r.1≤q[k] <;> simp [a]
   rw [hx]
   simp only [Option.bind_some]
   have hm:met (q.drop k) r=((decide (r.1≤q[k]) && decide (q[k]≤r.2)) || met (q.drop (k + 1)) r):=by rw [hd]; rfl
   rw [hm]
   cases (decide (r.1≤q[k]) && decide (q[k]≤r.2)) with
   | true=>rfl
   | false=>rw [if_neg (by simp),show w64 ((k:Int) + 1)=((k + 1:Nat):Int) by rw [w64_in (by omega)]; rfl,meets_l1 hl m (k + 1) (by omega) (by omega),Bool.false_or]
  ·rw [if_neg (by simpa using hlt),List.drop_of_length_le (by omega)]
   rfl
theorem meets_eq {F:Nat} {r:Int×Int} {q:List Int} (hl:q.length<1000000) (hF:1000000<F):ref03_Meets F r q=some (met q r):=by
 unfold ref03_Meets
 have h1:=meets_l1 (F:=F) (r:=r) hl F 0 (by omega) (by omega)
 rw [show ((0:Nat):Int)=0 from rfl,List.drop_zero] at h1
 rw [h1]
 cases met q r <;> rfl
theorem rscale_l1 {F:Nat} {l:List (Int×Int)} {q:List Int} (hq:q.length<1000000) (hF:1000000<F) (hl:l.length<1000000):∀ (m k:Nat),k≤l.length→l.length - k<m →
  ref03_CheckScale_l1 F l q m (k:Int)=some (if (l.drop k).all (met q)=true then .inr () else .inl 19)
 | 0,k,_,h=>by omega
 | m + 1,k,hk,h=>by
  unfold ref03_CheckScale_l1
  by_cases hlt:k<l.length
  ·rw [if_pos (by simpa using hlt),ix_nat hlt]
   have hd:l.drop k=l[k]::l.drop (k + 1):=List.drop_eq_getElem_cons hlt
   simp only [Option.bind_eq_bind,Option.bind_some]
   rw [meets_eq hq hF,hd,List.all_cons]
   simp only [Option.bind_some]
   rw [show met q (l[k].1,l[k].2)=met q l[k] from rfl]
   cases met q l[k] with
   | false=>rfl
   | true=>rw [Bool.not_true,if_neg (by simp),show w64 ((k:Int) + 1)=((k + 1:Nat):Int) by rw [w64_in (by omega)]; rfl,rscale_l1 hq hF hl m (k + 1) (by omega) (by omega),Bool.true_and]
  ·rw [if_neg (by simpa using hlt),List.drop_of_length_le (by omega)]
   rfl
theorem cchk_len {l:List (Int×Int)} {q:List Int} (h:cchk l q=0):csong l=0∧q.length≤24:=by
 unfold cchk at h
 by_cases c0:csong l≠0
 ·rw [if_pos c0] at h; exact absurd h c0
 rw [if_neg c0] at h
 by_cases c1:24<q.length
 ·rw [if_pos c1] at h; cases h
 exact ⟨Decidable.not_not.1 c0,by omega⟩
theorem rscale_eq {F:Nat} (hF:1000000<F) {l:List (Int×Int)} {q:List Int}:ref03_CheckScale F l q=some (cscale l q):=by
 unfold ref03_CheckScale cscale
 rw [isScale_eq hF]
 simp only [Option.bind_eq_bind,Option.bind_some]
 by_cases c:cchk l q=0
 ·rw [if_neg (by simpa using c),if_neg (fun e=>e c)]
  obtain ⟨h1,h2⟩:=cchk_len c
  have h3:=csong_ok.1 h1
  have h4:=rscale_l1 (F:=F) (l:=l) (q:=q) (by omega) hF (by omega) F 0 (by omega) (by omega)
  rw [show ((0:Nat):Int)=0 from rfl,List.drop_zero] at h4
  rw [h4]
  cases l.all (met q) <;> rfl
 ·rw [if_pos (by simpa using c),if_pos c]
end Sg
end Go.Proofs.YtfmelbioccbdoaaGreat
end
section
namespace Go.Proofs.YtfmelbioccbdoaaGreat
open Go Go.Md Go.RowKit
namespace Sg
theorem asc_ok {l:List (Int×Int)} (h:∀ x∈l,okR x=true) {S:List To} (hp:S.Perm (tn 0 l)):∀ x∈S,0≤x.1.1∧x.1.1≤x.1.2∧x.1.2≤10000:=by
 intro x hx
 obtain ⟨i,h1,-⟩:=(tn_mem l 0).1 (hp.mem_iff.1 hx)
 exact okR_iff.1 (h x.1 (List.mem_of_getElem? h1))
structure Short (l:List (Int×Int)) (G:List To):Prop where
 mem:∀ g∈G,∃ i:Nat,l[i]?=some g.1∧g.2=(i:Int)
 apart:G.Pairwise fun a b=>a.1.2<b.1.1
 met:∀ r∈l,∃ g∈G,r.1≤g.1.2∧g.1.2≤r.2
 len:G.length≤l.length
theorem Short.le {l:List (Int×Int)} {G:List To} (h:Short l G) {q:List Int} (hq:∀ r∈l,∃ e∈q,r.1≤e∧e≤r.2):G.length≤q.length :=
 apart_le G q h.apart fun x hx=>by
  obtain ⟨i,h1,-⟩:=h.mem x hx
  exact hq _ (List.mem_of_getElem? h1)
theorem Short.asc {l:List (Int×Int)} {G:List To} (h:Short l G) (hv:∀ x∈l,okR x=true):(G.map (·.1.2)).Pairwise (·<·):=by
 rw [List.pairwise_map]
 refine h.apart.imp_of_mem fun {a b} ha hb hab=>?_
 obtain ⟨i,h1,-⟩:=h.mem b hb
 have:=okR_iff.1 (hv _ (List.mem_of_getElem? h1))
 omega
theorem Short.bd {l:List (Int×Int)} {G:List To} (h:Short l G) (hv:∀ x∈l,okR x=true):∀ v∈G.map (·.1.2),0≤v∧v≤10000:=by
 intro v hv'
 obtain ⟨g,hg,rfl⟩:=List.mem_map.1 hv'
 obtain ⟨i,h1,-⟩:=h.mem g hg
 have:=okR_iff.1 (hv _ (List.mem_of_getElem? h1))
 omega
theorem Short.scale {l:List (Int×Int)} {G:List To} (h:Short l G) (hs:csong l=0):cscale l (G.map (·.1.2))=0:=by
 have h3:=csong_ok.1 hs
 refine cscale_ok hs (by rw [List.length_map]; have:=h.len; omega) (h.bd h3.2.2) (h.asc h3.2.2) (fun r hr=>?_)
 obtain ⟨g,hg,h1,h2⟩:=h.met r hr
 exact ⟨_,List.mem_map.2 ⟨g,hg,rfl⟩,h1,h2⟩
theorem short_gr {l:List (Int×Int)} (hv:∀ x∈l,okR x=true) {S:List To} (hp:S.Perm (tn 0 l)) (ha:Asc S):Short l (gr S (-1)):=by
 have hok:=asc_ok hv hp
 have hle:∀ x∈S,x.1.1≤x.1.2:=fun x hx=>(hok x hx).2.1
 refine ⟨fun g hg=>?_,gr_apart S _ hle,fun r hr=>?_,?_⟩
 ·obtain ⟨i,h1,h2⟩:=(tn_mem l 0).1 (hp.mem_iff.1 ((gr_sub S _).subset hg))
  exact ⟨i,h1,by rw [h2]; congr 1; omega⟩
 ·obtain ⟨i,hi,h4⟩:=List.mem_iff_getElem.1 hr
  have hx:(r,(i:Int))∈S:=hp.mem_iff.2 ((tn_mem l 0).2 ⟨i,by rw [List.getElem?_eq_getElem hi,h4],by show (i:Int)=_; congr 1; omega⟩)
  rcases gr_met S (-1) hle ha (fun x hx=>by have:=hok x hx; omega) _ hx with h | ⟨g,h1,h2⟩
  ·have:=hok _ hx; simp only at this h; omega
  ·exact ⟨g,h1,h2⟩
 ·have:=(gr_sub S (-1)).length_le
  rwa [hp.length_eq,tn_len] at this
theorem fewest_eq {F:Nat} (hF:1000000<F) {l:List (Int×Int)} (hs:csong l=0) (hl:l.length≤SL) :
  ∃ G,Short l G∧scale_Fewest F l=some (G.map (·.1.2),0)∧∃ T,scale_Apart F l=some (T,0)∧T=isort (G.map (·.2)):=by
 have h3:=csong_ok.1 hs
 obtain ⟨S,e1,hp,ha⟩:=newSong_eq hF hl h3.2.2
 have hok:=asc_ok h3.2.2 hp
 have hle:∀ x∈S,x.1.1≤x.1.2:=fun x hx=>(hok x hx).2.1
 have hSl:S.length≤1000:=by rw [hp.length_eq,tn_len]; omega
 have hsh:=short_gr h3.2.2 hp ha
 refine ⟨gr S (-1),hsh,?_,_,?_,rfl⟩
 ·unfold scale_Fewest
  rw [checkSong_eq (by omega),hs]
  simp only [Option.bind_eq_bind,Option.bind_some]
  rw [if_neg (by simp),e1]
  simp only [Option.bind_some]
  rw [high_eq hle hSl]
  rfl
 ·unfold scale_Apart
  rw [checkSong_eq (by omega),hs]
  simp only [Option.bind_eq_bind,Option.bind_some]
  rw [if_neg (by simp),e1]
  simp only [Option.bind_some]
  rw [high_eq hle hSl]
  simp only [Option.bind_some]
  have hn:((gr S (-1)).map (·.2)).length≤1000:=by rw [List.length_map]; exact Nat.le_trans (gr_sub S (-1)).length_le hSl
  generalize (gr S (-1)).map (·.2)=k at hn
  have hm:mks 8 (k.length:Int) (0:Int)=some (List.replicate k.length 0):=by
   unfold mks
   rw [if_pos ⟨by omega,by rw [Int.toNat_natCast]; omega⟩,Int.toNat_natCast]
  rw [hm]
  simp only [Option.bind_some]
  have hc:rcopy (List.replicate k.length (0:Int)) k=k:=by
   unfold rcopy
   rw [List.length_replicate,List.take_length,List.drop_of_length_le (by simp),List.append_nil]
  rw [hc]
  unfold slices_Sort_int
  rw [if_pos (by omega)]
  rfl
end Sg
end Go.Proofs.YtfmelbioccbdoaaGreat
end
section
namespace Go.Proofs.YtfmelbioccbdoaaGreat
open Go Go.Md Go.RowKit
end Go.Proofs.YtfmelbioccbdoaaGreat
end
section
namespace Go.Proofs.YtfmelbioccbdoaaGreat
open Go Go.Md Go.RowKit
namespace L3
set_option maxRecDepth 100000 in
theorem works2:law02_Works FF=some true:=by kernel_rfl
set_option maxRecDepth 100000 in
theorem works3:law03_Works FF=some true:=by kernel_rfl
theorem works:top_works03 FF=some true:=by
 unfold top_works03
 rw [worksF,works2,works3]; rfl
end L3
end Go.Proofs.YtfmelbioccbdoaaGreat
end
section
namespace Go.Proofs.YtfmelbioccbdoaaGreat
open Go Go.Md Go.RowKit
namespace Jn
def okE (e:TEnd):Bool:=(decide (0≤e.1.1) && decide (e.1.1≤e.1.2) && decide (e.1.2≤1000)) && (decide (0≤e.2) && decide (e.2≤100000))
theorem okE_iff {e:TEnd}:okE e=true↔(0≤e.1.1∧e.1.1≤e.1.2∧e.1.2≤1000)∧0≤e.2∧e.2≤100000:=by
 unfold okE; simp [and_assoc]
structure VC (c:TCyl):Prop where
 n1:1≤c.1.length
 n8:c.1.length≤8
 ends:∀ p∈c.1,okE p.1.1=true∧okE p.1.2=true
 off:0≤c.2.1∧c.2.1≤1000
 step:-100000≤c.2.2.1∧c.2.2.1≤c.2.2.2∧c.2.2.2≤100000
def ccyl (c:TCyl):Int :=
 if c.1.length<1∨8<c.1.length then 6 else if (c.1.all fun p=>okE p.1.1 && okE p.1.2)=false then 2 else
 if 0≤c.2.1∧c.2.1≤1000∧-100000≤c.2.2.1∧c.2.2.1≤c.2.2.2∧c.2.2.2≤100000 then 0 else 2
theorem ccyl_ok {c:TCyl}:ccyl c=0↔VC c:=by
 unfold ccyl
 by_cases h0:c.1.length<1∨8<c.1.length
 ·rw [if_pos h0]; exact ⟨fun h=>by (cases h),fun h=>by (have:=h.n1; have:=h.n8; omega)⟩
 rw [if_neg h0]
 by_cases h1:(c.1.all fun p=>okE p.1.1 && okE p.1.2)=false
 ·rw [if_pos h1]
  refine ⟨fun h=>by (cases h),fun h=>?_⟩
  have:(c.1.all fun p=>okE p.1.1 && okE p.1.2)=true:=List.all_eq_true.2 fun p hp=>by have:=h.ends p hp; rw [this.1,this.2]; rfl
  rw [this] at h1; cases h1
 rw [if_neg h1]
 by_cases h2:0≤c.2.1∧c.2.1≤1000∧-100000≤c.2.2.1∧c.2.2.1≤c.2.2.2∧c.2.2.2≤100000
 ·rw [if_pos h2]
  refine ⟨fun _=>⟨by omega,by omega,fun p hp=>?_,⟨h2.1,h2.2.1⟩,h2.2.2⟩,fun _=>rfl⟩
  have:=List.all_eq_true.1 (show (c.1.all fun p=>okE p.1.1 && okE p.1.2)=true by revert h1; cases (c.1.all fun p=>okE p.1.1 && okE p.1.2) <;> simp) p hp
  simpa using this
 ·rw [if_neg h2]; exact ⟨fun h=>by (cases h),fun h=>absurd ⟨h.off.1,h.off.2,h.step⟩ h2⟩
theorem rl2 {F:Nat} {c:TCyl} {k:Nat} (hk:k<c.1.length) (m:Nat):ref02_CheckCylinder_l2 F c (k:Int) (m + 3) 0=some (if (okE (c.1[k]).1.1 && okE (c.1[k]).1.2)=true then .inr () else .inl 2):=by
 have step:∀ (e:TEnd) (y:Int) (n:Nat),ix [(c.1[k]).1.1,(c.1[k]).1.2] y=some e→y<2→ref02_CheckCylinder_l2 F c (k:Int) (n + 1) y=if okE e=true then ref02_CheckCylinder_l2 F c (k:Int) n (w64 (y + 1)) else some (.inl 2):=by
  intro e y n he hy
  conv=>lhs; unfold ref02_CheckCylinder_l2
  rw [if_pos (by simpa using hy),ix_nat hk]
  simp only [Option.bind_eq_bind,Option.bind_some]
  rw [he]
  simp only [Option.bind_some,ref02_valid]
  unfold okE
  by_cases c1:0≤e.1.1∧e.1.1≤e.1.2∧e.1.2≤1000∧0≤e.2∧e.2≤100000
  ·rw [if_neg (by simp; omega),if_pos (by simp; omega)]
  ·rw [if_pos (by simp; omega),if_neg (by simp; omega)]
 rw [step _ 0 (m + 2) rfl (by omega)]
 cases h0:okE (c.1[k]).1.1 with
 | false=>rfl
 | true =>
  rw [if_pos rfl,show w64 (0 + 1)=1 from rfl,step _ 1 (m + 1) rfl (by omega)]
  cases h1:okE (c.1[k]).1.2 with
  | false=>rfl
  | true =>
   rw [if_pos rfl,show w64 (1 + 1)=2 from rfl]
   unfold ref02_CheckCylinder_l2
   rw [if_neg (by decide)]; rfl
theorem rl1 {F:Nat} (hF:1000<F) {c:TCyl} (hl:c.1.length≤1000):∀ (m k:Nat),k≤c.1.length→c.1.length - k<m →
  ref02_CheckCylinder_l1 F c m (k:Int)=some (if ((c.1.drop k).all fun p=>okE p.1.1 && okE p.1.2)=true then .inr () else .inl 2)
 | 0,k,_,h=>by omega
 | m + 1,k,hk,h=>by
  unfold ref02_CheckCylinder_l1
  by_cases hlt:k<c.1.length
  ·obtain ⟨G,rfl⟩:∃ G,F=G + 3:=⟨F - 3,by omega⟩
   have hd:c.1.drop k=c.1[k]::c.1.drop (k + 1):=List.drop_eq_getElem_cons hlt
   rw [if_pos (by simpa using hlt),rl2 hlt G,hd,List.all_cons]
   cases okE (c.1[k]).1.1 && okE (c.1[k]).1.2 with
   | false=>rfl
   | true =>
    rw [if_pos rfl,Bool.true_and]
    simp only [Option.bind_eq_bind,Option.bind_some]
    rw [show w64 ((k:Int) + 1)=((k + 1:Nat):Int) by rw [w64_in (by omega)]; rfl,rl1 hF hl m (k + 1) (by omega) (by omega)]
  ·rw [if_neg (by simpa using hlt),List.drop_of_length_le (by omega)]; rfl
theorem rcyl_eq {F:Nat} (hF:1000<F) (c:TCyl):ref02_CheckCylinder F c=some (ccyl c):=by
 unfold ref02_CheckCylinder ccyl
 by_cases h0:c.1.length<1∨8<c.1.length
 ·rw [if_pos h0,if_pos (by simp; omega)]
 ·rw [if_neg h0,if_neg (by simp; omega)]
  have:=rl1 hF (c:=c) (by omega) F 0 (by omega) (by omega)
  rw [show ((0:Nat):Int)=0 from rfl,List.drop_zero] at this
  rw [this]
  cases h1:c.1.all fun p=>okE p.1.1 && okE p.1.2 with
  | false=>rfl
  | true =>
   rw [if_pos rfl,if_neg (by simp)]
   simp only [Option.bind_eq_bind,Option.bind_some]
   by_cases h2:0≤c.2.1∧c.2.1≤1000
   ·have e1:(!((decide (c.2.1<0)) || (decide (1000<c.2.1))))=true:=by simp; omega
    rw [e1]
    simp only [gd,cond_true,ref02_valid,Option.bind_some]
    by_cases h3:-100000≤c.2.2.1∧c.2.2.1≤c.2.2.2∧c.2.2.2≤100000
    ·rw [if_neg (by simp; omega),if_pos ⟨h2.1,h2.2,h3⟩]
    ·rw [if_pos (by simp; omega),if_neg (fun h=>h3 h.2.2)]
   ·have e1:(!((decide (c.2.1<0)) || (decide (1000<c.2.1))))=false:=by simp; omega
    rw [e1]
    simp only [gd,cond_false,Option.bind_some]
    rw [if_pos (by simp),if_neg (fun h=>h2 ⟨h.1,h.2.1⟩)]
theorem jw_eq {F:Nat} {lo hi:Int} {l:List (Int×Int)} (hF:l.length<F) (hl:l.length<4611686018427387904):join_within F lo hi l=some (l.all fun r=>decide (lo≤r.1) && decide (r.1≤r.2) && decide (r.2≤hi)):=by
 unfold join_within
 rw [Sg.con_range (p:=fun r=>!(decide (lo≤r.1) && decide (r.1≤r.2) && decide (r.2≤hi))) (fun x _=>by
  unfold join_within_1; congr 1; rw [Bool.eq_iff_iff]; simp <;> omega) hF hl]
 simp only [Option.bind_eq_bind,Option.bind_some]
 rw [any_not,Bool.not_not]
theorem jl1 {F:Nat} (hF:1000<F) {c:TCyl} (hl:c.1.length≤1000) (hv:∀ p∈c.1,okE p.1.1=true∧okE p.1.2=true):∀ (m k:Nat),k≤c.1.length→c.1.length - k<m →
  join_CheckCylinder_l1 F c m true (k:Int)=some true
 | 0,k,_,h=>by omega
 | m + 1,k,hk,h=>by
  unfold join_CheckCylinder_l1
  by_cases hlt:k<c.1.length
  ·have h1:=hv _ (List.getElem_mem hlt)
   have a:=okE_iff.1 h1.1
   have b:=okE_iff.1 h1.2
   rw [if_pos (by simpa using hlt),ix_nat hlt]
   simp only [Option.bind_eq_bind,Option.bind_some,if_true]
   rw [jw_eq (by simp; omega) (by simp)]
   simp only [Option.bind_some,List.all_cons,List.all_nil,Bool.and_true]
   rw [if_pos (by simp; omega)]
   simp only [join_CheckCylinder_1,Option.bind_some]
   rw [jw_eq (by simp; omega) (by simp)]
   simp only [Option.bind_some,List.all_cons,List.all_nil,Bool.and_true]
   have e:((decide (0≤(c.1[k]).1.1.2) && decide ((c.1[k]).1.1.2≤(c.1[k]).1.1.2) && decide ((c.1[k]).1.1.2≤100000)) && (decide (0≤(c.1[k]).1.2.2) && decide ((c.1[k]).1.2.2≤(c.1[k]).1.2.2) && decide ((c.1[k]).1.2.2≤100000)))=true:=by simp; omega
   rw [e,show w64 ((k:Int) + 1)=((k + 1:Nat):Int) by rw [w64_in (by omega)]; rfl,jl1 hF hl hv m (k + 1) (by omega) (by omega)]
  ·rw [if_neg (by simpa using hlt)]
theorem jcyl_ok {F:Nat} (hF:1000<F) {c:TCyl} (h:VC c):join_CheckCylinder F c=some 0:=by
 unfold join_CheckCylinder
 have h1:=h.n1; have h2:=h.n8; have h3:=h.off; have h4:=h.step
 rw [if_neg (by simp only [Bool.or_eq_true,decide_eq_true_eq]; omega)]
 simp only [join_CheckCylinder_1,Option.bind_eq_bind,Option.bind_some]
 rw [jw_eq (by simp; omega) (by simp)]
 simp only [Option.bind_some,List.all_cons,List.all_nil,Bool.and_true]
 have e:(decide (0≤c.2.1) && decide (c.2.1≤c.2.1) && decide (c.2.1≤1000))=true:=by simp; omega
 rw [e]
 simp only [gd,cond_true]
 rw [jw_eq (by simp; omega) (by simp)]
 simp only [Option.bind_some,List.all_cons,List.all_nil,Bool.and_true]
 have e:(decide (-100000≤c.2.2.1) && decide (c.2.2.1≤c.2.2.2) && decide (c.2.2.2≤100000))=true:=by simp; omega
 rw [e,Bool.true_and]
 have:=jl1 hF (c:=c) (by omega) h.ends F 0 (by omega) (by omega)
 rw [show join_CheckCylinder_l1 F c F true 0=some true from this]
 rfl
def stps:Nat→List TPiece→List TStep
 | _,[]=>[]
 | k,p::P=>((k:Int),false)::((if p.2=true then [((k:Int),true)] else [])++stps (k + 1) P)
theorem stps_len:∀ (P:List TPiece) (k:Nat),(stps k P).length≤2 * P.length
 | [],_=>by simp [stps]
 | p::P,k=>by
  have:=stps_len P (k + 1)
  unfold stps; cases p.2 <;> simp <;> omega
theorem stps_mem {s:TStep}:∀ (P:List TPiece) (k:Nat),s∈stps k P↔∃ i:Nat,s.1=((k + i:Nat):Int)∧∃ p,P[i]?=some p∧(s.2=true→p.2=true)
 | [],k=>by simp [stps]
 | p::P,k=>by
  unfold stps
  rw [List.mem_cons,List.mem_append,stps_mem P (k + 1)]
  constructor
  ·rintro (rfl | h | ⟨i,h1,q,h2,h3⟩)
   ·exact ⟨0,rfl,p,rfl,fun h=>by cases h⟩
   ·cases hp:p.2 with
    | false=>rw [hp] at h; simp at h
    | true =>
     rw [hp] at h
     have:s=((k:Int),true):=by simpa using h
     subst this
     exact ⟨0,rfl,p,rfl,fun _=>hp⟩
   ·exact ⟨i + 1,by rw [h1]; congr 1; omega,q,by simpa using h2,h3⟩
  ·rintro ⟨i,h1,q,h2,h3⟩
   cases i with
   | zero =>
    have:p=q:=by simpa using h2
    subst this
    cases hs:s.2 with
    | false=>left; exact Prod.ext h1 hs
    | true=>right; left; rw [h3 hs]; simp; exact Prod.ext h1 hs
   | succ i=>right; right; exact ⟨i,by rw [h1]; congr 1; omega,q,by simpa using h2,h3⟩
theorem nt1 {P:List TPiece} (hP:P.length≤1000):∀ (m k:Nat) (st:List TStep),k≤P.length→P.length - k<m→st.length≤2 * k→nt_l1 P m (k:Int) st=some (st++stps k (P.drop k))
 | 0,k,_,_,h,_=>by omega
 | m + 1,k,st,hk,h,hs=>by
  unfold nt_l1
  by_cases hlt:k<P.length
  ·have hd:P.drop k=P[k]::P.drop (k + 1):=List.drop_eq_getElem_cons hlt
   rw [if_pos (by simpa using hlt),ix_nat hlt]
   simp only [Option.bind_eq_bind,Option.bind_some]
   rw [app_some (by simp; omega)]
   simp only [Option.bind_some]
   rw [show w64 ((k:Int) + 1)=((k + 1:Nat):Int) by rw [w64_in (by omega)]; rfl,hd,stps]
   cases (P[k]).2 with
   | true =>
    rw [if_pos rfl,app_some (by simp; omega)]
    simp only [Option.bind_some]
    rw [nt1 hP m (k + 1) _ (by omega) (by omega) (by simp; omega)]; simp
   | false=>rw [if_neg (by simp),nt1 hP m (k + 1) _ (by omega) (by omega) (by simp; omega)]; simp
  ·rw [if_neg (by simpa using hlt),List.drop_of_length_le (by omega)]; simp [stps]
def IsStep (c:TCyl) (s:TStep):Prop:=∃ i:Nat,s.1=(i:Int)∧∃ p,c.1[i]?=some p∧(s.2=true→p.2=true)
theorem isStep_mem {c:TCyl} {s:TStep}:s∈stps 0 c.1↔IsStep c s:=by
 rw [stps_mem]; simp only [Nat.zero_add]; rfl
def bgn (c:TCyl) (s:TStep):TEnd:=if s.2=true then ((ix c.1 s.1).getD default).1.2 else ((ix c.1 s.1).getD default).1.1
def fin (c:TCyl) (s:TStep):TEnd:=if s.2=true then ((ix c.1 s.1).getD default).1.1 else ((ix c.1 s.1).getD default).1.2
theorem IsStep.ix {c:TCyl} {s:TStep} (h:IsStep c s):∃ p,Md.ix c.1 s.1=some p∧p∈c.1∧(s.2=true→p.2=true):=by
 obtain ⟨i,h1,p,h2,h3⟩:=h
 exact ⟨p,by rw [h1]; simpa [Md.ix] using h2,List.mem_of_getElem? h2,h3⟩
theorem IsStep.ok {c:TCyl} (hv:VC c) {s:TStep} (h:IsStep c s):okE (bgn c s)=true∧okE (fin c s)=true:=by
 obtain ⟨p,h1,h2,-⟩:=h.ix
 have:=hv.ends p h2
 unfold bgn fin; rw [h1]
 cases s.2
 ·exact this
 ·exact ⟨this.2,this.1⟩
def meet (c:TCyl) (e d:TEnd):Bool:=decide (e.1.1 - d.1.2≤c.2.1) && decide (d.1.1 - e.1.2≤c.2.1) && (decide (c.2.2.1≤d.2 - e.2) && decide (d.2 - e.2≤c.2.2.2))
def fit (c:TCyl) (p q:TStep):Bool:=!decide (p.1=q.1) && meet c (fin c p) (bgn c q)
theorem fit_eq {c:TCyl} (hv:VC c) {st:List TStep} {X:TFits} {p q:TStep} (hp:IsStep c p) (hq:IsStep c q):nt_fit (c,st,X,.mk,.mk) p q=some (fit c p q):=by
 unfold nt_fit fit
 by_cases h:p.1=q.1
 ·rw [if_neg (by simpa using h),decide_eq_true h]; rfl
 ·rw [if_pos (by simpa using h),decide_eq_false h,Bool.not_false,Bool.true_and]
  obtain ⟨x,hx,-,-⟩:=hp.ix
  obtain ⟨y,hy,-,-⟩:=hq.ix
  have e1:join_table_end (c,st,X,.mk,.mk) p 1=some (fin c p):=by
   unfold join_table_end fin
   rw [hx]
   cases p.2
   ·rfl
   ·rfl
  have e2:join_table_end (c,st,X,.mk,.mk) q 0=some (bgn c q):=by
   unfold join_table_end bgn
   rw [hy]
   cases q.2
   ·rfl
   ·rfl
  rw [e1,e2]
  have a:=okE_iff.1 (hp.ok hv).2
  have b:=okE_iff.1 (hq.ok hv).1
  simp only [Option.bind_eq_bind,Option.bind_some]
  unfold join_table_meets meet
  generalize fin c p=e at a ⊢
  generalize bgn c q=d at b ⊢
  rw [w64_in (n:=e.1.1 - d.1.2) (by omega),w64_in (n:=d.1.1 - e.1.2) (by omega),w64_in (n:=d.2 - e.2) (by omega)]
  congr 1
  rw [Bool.eq_iff_iff]
  split <;> simp <;> omega
end Jn
end Go.Proofs.YtfmelbioccbdoaaGreat
end
section
namespace Go.Proofs.YtfmelbioccbdoaaGreat
open Go Go.Md Go.RowKit
namespace Jn
def en (X:TFits) (i k:Nat):Option Int:=(X.l[i]?).bind fun r=>r.l[k]?
theorem en_get {X:TFits} {i k:Nat} (hi:i<16) (hk:k<16):∃ r v,X.l[i]?=some r∧r.l[k]?=some v∧en X i k=some v:=by
 have h1:i<X.l.length:=by rw [X.h]; exact hi
 have h2:k<(X.l[i]).l.length:=by rw [(X.l[i]).h]; exact hk
 exact ⟨X.l[i],(X.l[i]).l[k],List.getElem?_eq_getElem h1,List.getElem?_eq_getElem h2,by unfold en; rw [List.getElem?_eq_getElem h1,Option.bind_some,List.getElem?_eq_getElem h2]⟩
theorem en_set {X:TFits} {i k:Nat} {r:Ar 16 Int} (hr:X.l[i]?=some r) (hk:k<16) (i' k':Nat):en (aset X (i:Int) (aset r (k:Int) 1)) i' k'=if i'=i∧k'=k then some 1 else en X i' k':=by
 have hi:i<X.l.length:=(List.getElem?_eq_some_iff.1 hr).1
 have hkl:k<r.l.length:=by rw [r.h]; exact hk
 unfold en
 show ((X.l.set (i:Int).toNat (aset r (k:Int) 1))[i']?).bind _=_
 rw [Int.toNat_natCast]
 by_cases h1:i'=i
 ·subst h1
  rw [List.getElem?_set_self hi,Option.bind_some,hr,Option.bind_some]
  show (r.l.set (k:Int).toNat 1)[k']?=_
  rw [Int.toNat_natCast]
  by_cases h2:k'=k
  ·subst h2; rw [List.getElem?_set_self hkl,if_pos ⟨rfl,rfl⟩]
  ·rw [List.getElem?_set_ne (fun h=>h2 h.symm),if_neg (fun h=>h2 h.2)]
 ·rw [List.getElem?_set_ne (fun h=>h1 h.symm),if_neg (fun h=>h1 h.1)]
theorem nt3 {c:TCyl} (hv:VC c) {st:List TStep} (hst:∀ s∈st,IsStep c s) (h16:st.length≤16) {i:Nat} (hi:i<16) {p:TStep} (hp:IsStep c p):∀ (m k:Nat) (X:TFits),k≤st.length→st.length - k<m →
  ∃ Z,nt_l3 c st (i:Int) p m (k:Int) X=some Z∧∀ i' k',en Z i' k'=if i'=i∧k≤k'∧(∃ q,st[k']?=some q∧fit c p q=true) then some 1 else en X i' k'
 | 0,k,_,_,h=>by omega
 | m + 1,k,X,hk,h=>by
  unfold nt_l3
  by_cases hlt:k<st.length
  ·have hq:=hst _ (List.getElem_mem hlt)
   have hw:w64 ((k:Int) + 1)=((k + 1:Nat):Int):=by rw [w64_in (by omega)]; rfl
   rw [if_pos (by simpa using hlt),ix_nat hlt]
   simp only [Option.bind_eq_bind,Option.bind_some]
   rw [fit_eq hv hp hq]
   simp only [Option.bind_some]
   cases hf:fit c p st[k] with
   | true =>
    obtain ⟨r,v,h1,h2,-⟩:=en_get (X:=X) hi (show k<16 by omega)
    have hil:i<X.l.length:=(List.getElem?_eq_some_iff.1 h1).1
    have hrl:k<r.l.length:=(List.getElem?_eq_some_iff.1 h2).1
    rw [if_pos rfl,ix_nat hil,show X.l[i]=r from (List.getElem?_eq_some_iff.1 h1).2]
    simp only [Option.bind_some]
    rw [ix_nat hrl]
    simp only [Option.bind_some]
    rw [hw]
    obtain ⟨Z,e1,e2⟩:=nt3 hv hst h16 hi hp m (k + 1) (aset X (i:Int) (aset r (k:Int) 1)) (by omega) (by omega)
    refine ⟨Z,e1,fun i' k'=>?_⟩
    rw [e2,en_set h1 (by omega)]
    by_cases c1:i'=i∧k≤k'∧(∃ q,st[k']?=some q∧fit c p q=true)
    ·rw [if_pos c1]
     by_cases c2:k'=k
     ·rw [if_neg (by omega),if_pos ⟨c1.1,c2⟩]
     ·rw [if_pos ⟨c1.1,by omega,c1.2.2⟩]
    ·rw [if_neg c1,if_neg (fun h=>c1 ⟨h.1,by omega,h.2.2⟩),if_neg]
     rintro ⟨h3,rfl⟩
     exact c1 ⟨h3,Nat.le_refl _,_,List.getElem?_eq_getElem hlt,hf⟩
   | false =>
    rw [if_neg (by simp),hw]
    obtain ⟨Z,e1,e2⟩:=nt3 hv hst h16 hi hp m (k + 1) X (by omega) (by omega)
    refine ⟨Z,e1,fun i' k'=>?_⟩
    rw [e2]
    by_cases c1:i'=i∧k≤k'∧(∃ q,st[k']?=some q∧fit c p q=true)
    ·rw [if_pos c1,if_pos]
     refine ⟨c1.1,?_,c1.2.2⟩
     obtain ⟨q,h3,h4⟩:=c1.2.2
     rcases Nat.lt_or_ge k k' with h5 | h5
     ·exact h5
     ·have:k'=k:=by omega
      subst this
      rw [List.getElem?_eq_getElem hlt] at h3
      cases h3; rw [hf] at h4; cases h4
    ·rw [if_neg c1,if_neg (fun h=>c1 ⟨h.1,by omega,h.2.2⟩)]
  ·rw [if_neg (by simpa using hlt)]
   refine ⟨X,rfl,fun i' k'=>?_⟩
   rw [if_neg]
   rintro ⟨-,h1,q,h2,-⟩
   have:=(List.getElem?_eq_some_iff.1 h2).1
   omega
open Classical in
theorem nt2 {F:Nat} (hF:1000<F) {c:TCyl} (hv:VC c) {st:List TStep} (hst:∀ s∈st,IsStep c s) (h16:st.length≤16):∀ (m k:Nat) (X:TFits),k≤st.length→st.length - k<m →
  ∃ Z,nt_l2 F c st m (k:Int) X=some Z∧∀ i' k',en Z i' k'=if k≤i'∧(∃ p q,st[i']?=some p∧st[k']?=some q∧fit c p q=true) then some 1 else en X i' k'
 | 0,k,_,_,h=>by omega
 | m + 1,k,X,hk,h=>by
  unfold nt_l2
  by_cases hlt:k<st.length
  ·have hp:=hst _ (List.getElem_mem hlt)
   rw [if_pos (by simpa using hlt),ix_nat hlt]
   simp only [Option.bind_eq_bind,Option.bind_some]
   obtain ⟨Y,e1,e2⟩:=nt3 hv hst h16 (show k<16 by omega) hp F 0 X (by omega) (by omega)
   rw [show nt_l3 c st (k:Int) st[k] F 0 X=some Y from e1]
   simp only [Option.bind_some]
   rw [show w64 ((k:Int) + 1)=((k + 1:Nat):Int) by rw [w64_in (by omega)]; rfl]
   obtain ⟨Z,f1,f2⟩:=nt2 hF hv hst h16 m (k + 1) Y (by omega) (by omega)
   refine ⟨Z,f1,fun i' k'=>?_⟩
   rw [f2,e2]
   by_cases c1:k≤i'∧(∃ p q,st[i']?=some p∧st[k']?=some q∧fit c p q=true)
   ·rw [if_pos c1]
    obtain ⟨h1,p,q,h2,h3,h4⟩:=c1
    by_cases c2:i'=k
    ·subst c2
     rw [List.getElem?_eq_getElem hlt] at h2
     cases h2
     rw [if_neg (by omega),if_pos ⟨rfl,Nat.zero_le _,q,h3,h4⟩]
    ·rw [if_pos ⟨by omega,p,q,h2,h3,h4⟩]
   ·rw [if_neg c1,if_neg (fun h=>c1 ⟨by omega,h.2⟩),if_neg]
    rintro ⟨rfl,-,q,h3,h4⟩
    exact c1 ⟨Nat.le_refl _,_,q,List.getElem?_eq_getElem hlt,h3,h4⟩
  ·rw [if_neg (by simpa using hlt)]
   refine ⟨X,rfl,fun i' k'=>?_⟩
   rw [if_neg]
   rintro ⟨h1,p,q,h2,-⟩
   have:=(List.getElem?_eq_some_iff.1 h2).1
   omega
def Tab (c:TCyl) (X:TFits):Prop:=∀ (i k:Nat) (p q:TStep),(stps 0 c.1)[i]?=some p→(stps 0 c.1)[k]?=some q→∃ r,ix X.l (i:Int)=some r∧ix r.l (k:Int)=some (if fit c p q=true then 1 else 0)
theorem newTable_eq {F:Nat} (hF:1000<F) {c:TCyl} (hv:VC c):∃ X,join_newTable F c=some ⟨some (c,stps 0 c.1,X,.mk,.mk)⟩∧Tab c X:=by
 have h8:=hv.n8
 have hl:=stps_len c.1 0
 have e1:=nt1 (P:=c.1) (by omega) F 0 [] (by omega) (by omega) (Nat.le_refl _)
 rw [List.drop_zero,List.nil_append] at e1
 obtain ⟨X,e2,e3⟩:=nt2 hF hv (st:=stps 0 c.1) (fun s hs=>isStep_mem.1 hs) (by omega) F 0 (Ar.fill 16 (Ar.fill 16 0)) (by omega) (by omega)
 refine ⟨X,?_,?_⟩
 ·unfold join_newTable
  rw [show nt_l1 c.1 F 0 []=some (stps 0 c.1) from e1]
  simp only [Option.bind_eq_bind,Option.bind_some]
  rw [show nt_l2 F c (stps 0 c.1) F 0 (Ar.fill 16 (Ar.fill 16 0))=some X from e2]
  rfl
 ·intro i k p q hp hq
  have hi:=(List.getElem?_eq_some_iff.1 hp).1
  have hk:=(List.getElem?_eq_some_iff.1 hq).1
  obtain ⟨r,v,h1,h2,h3⟩:=en_get (X:=X) (show i<16 by omega) (show k<16 by omega)
  have hil:i<X.l.length:=(List.getElem?_eq_some_iff.1 h1).1
  have hrl:k<r.l.length:=(List.getElem?_eq_some_iff.1 h2).1
  refine ⟨r,by rw [ix_nat hil]; exact congrArg some (List.getElem?_eq_some_iff.1 h1).2,?_⟩
  rw [ix_nat hrl,show r.l[k]=v from (List.getElem?_eq_some_iff.1 h2).2]
  have h4:=e3 i k
  rw [h3] at h4
  have e0:en (Ar.fill 16 (Ar.fill 16 0)) i k=some 0:=by
   unfold en
   show ((List.replicate 16 (Ar.fill 16 (0:Int)))[i]?).bind _=_
   rw [List.getElem?_replicate,if_pos (by omega),Option.bind_some]
   show (List.replicate 16 (0:Int))[k]?=_
   rw [List.getElem?_replicate,if_pos (by omega)]
  by_cases hf:fit c p q=true
  ·rw [if_pos hf]
   rw [if_pos ⟨Nat.zero_le _,p,q,hp,hq,hf⟩] at h4
   exact h4
  ·rw [if_neg hf]
   rw [if_neg,e0] at h4
   ·exact h4
   ·rintro ⟨-,p',q',h5,h6,h7⟩
    rw [hp] at h5; rw [hq] at h6
    cases h5; cases h6; exact hf h7
theorem idxL_find {α:Type} {l:List α} {f:α→Option Bool} {p:α→Bool} (hf:∀ x∈l,f x=some (p x)) (hl:l.length<4611686018427387904) :
  ∀ (m k:Nat),k≤l.length→l.length - k<m→(∃ j:Nat,idxL l f m (k:Int)=some (.inl (j:Int))∧∃ x,l[j]?=some x∧p x=true)∨(idxL l f m (k:Int)=some (.inr ())∧∀ x∈l.drop k,p x=false)
 | 0,k,_,h=>by omega
 | m + 1,k,hk,h=>by
  unfold idxL
  by_cases hlt:k<l.length
  ·rw [if_pos (by simpa using hlt),ix_nat hlt]
   have hd:l.drop k=l[k]::l.drop (k + 1):=List.drop_eq_getElem_cons hlt
   simp only [Option.bind_eq_bind,Option.bind_some,hf l[k] (List.getElem_mem hlt)]
   cases hp:p l[k] with
   | true=>left; exact ⟨k,if_pos rfl,l[k],List.getElem?_eq_getElem hlt,hp⟩
   | false =>
    rw [if_neg (by simp),show w64 ((k:Int) + 1)=((k + 1:Nat):Int) by rw [w64_in (by omega)]; rfl]
    rcases idxL_find hf hl m (k + 1) (by omega) (by omega) with h1 | ⟨h1,h2⟩
    ·exact .inl h1
    ·refine .inr ⟨h1,fun x hx=>?_⟩
     rw [hd] at hx
     rcases List.mem_cons.1 hx with rfl | hx
     ·exact hp
     ·exact h2 x hx
  ·right
   rw [if_neg (by simpa using hlt),List.drop_of_length_le (by omega)]
   exact ⟨rfl,by simp⟩
theorem first_idx {l:List TStep} {f:TStep→Option Bool} (F:Nat):∀ m k,join_first__api_JoinStep_l1 F l f m k=idxL l f m k
 | 0,_=>rfl
 | m + 1,k=>by unfold join_first__api_JoinStep_l1 idxL; simp only [first_idx F m]
theorem index_eq {F:Nat} (hF:1000<F) {c:TCyl} (hv:VC c) {X:TFits} {s:TStep} (hs:IsStep c s):∃ j:Nat,join_table_index F (c,stps 0 c.1,X,Opq.mk,Opq.mk) s=some (j:Int)∧(stps 0 c.1)[j]?=some s:=by
 have h8:=hv.n8
 have hl:=stps_len c.1 0
 unfold join_table_index join_first__api_JoinStep
 rw [first_idx]
 rcases idxL_find (l:=stps 0 c.1) (f:=fun y=>join_table_index_1 y (s.1,s.2)) (p:=fun y=>decide (y=s)) (fun x _=>rfl) (by omega) F 0 (by omega) (by omega) with ⟨j,h1,x,h2,h3⟩ | ⟨h1,h2⟩
 ·refine ⟨j,?_,?_⟩
  ·rw [show idxL (stps 0 c.1) (fun y=>join_table_index_1 y (s.1,s.2)) F 0=some (.inl (j:Int)) from h1]; rfl
  ·rw [h2,of_decide_eq_true h3]
 ·rw [List.drop_zero] at h2
  have:=h2 s (isStep_mem.2 hs)
  simp at this
theorem step_idx {l:List TStep} {f:TStep→Option Bool} (F:Nat):∀ m k,slices_IndexFunc_api_JoinStep_l1 F l f m k=idxL l f m k
 | 0,_=>rfl
 | m + 1,k=>by unfold slices_IndexFunc_api_JoinStep_l1 idxL; simp only [step_idx F m]
theorem con_step {l:List TStep} {f:TStep→Option Bool} {p:TStep→Bool} {F:Nat} (hf:∀ x∈l,f x=some (p x)) (hF:l.length<F) (hl:l.length<4611686018427387904):slices_ContainsFunc_api_JoinStep F l f=some (l.any p):=by
 obtain ⟨r,h1,h2,h3⟩:=idxL_any hf hl F 0 (Nat.zero_le _) (by omega)
 unfold slices_ContainsFunc_api_JoinStep slices_IndexFunc_api_JoinStep
 rw [step_idx]
 simp only [Int.natCast_zero,List.drop_zero] at h1 h2 h3
 rw [h1]
 cases hp:l.any p with
 | true=>obtain ⟨j,rfl⟩:=h2 hp; simp
 | false=>rw [h3 hp]; simp
theorem open_eq {F:Nat} (hF:1000<F) {c:TCyl} (hv:VC c) {l:List TStep} (hl:∀ s∈l,IsStep c s) (hn:l.length<1000):∃ X,join_open F c l=some (⟨some (c,stps 0 c.1,X,.mk,.mk)⟩,0)∧Tab c X:=by
 obtain ⟨X,e1,e2⟩:=newTable_eq hF hv
 refine ⟨X,?_,e2⟩
 unfold join_open
 have ex:(c.1,c.2.1,(c.2.2.1,c.2.2.2))=c:=rfl
 rw [ex,jcyl_ok hF hv]
 simp only [Option.bind_eq_bind,Option.bind_some]
 rw [if_neg (by simp),e1]
 simp only [Option.bind_some]
 rw [con_step (p:=fun _=>false) (fun s hs=>by
  obtain ⟨j,h1,-⟩:=index_eq hF hv (X:=X) (hl s hs)
  unfold join_open_1
  simp only [Option.bind_eq_bind,Option.bind_some]
  rw [show join_table_index F ((c.1,c.2.1,(c.2.2.1,c.2.2.2)),stps 0 c.1,X,Opq.mk,Opq.mk) (s.1,s.2)=some (j:Int) from h1]
  simp only [Option.bind_some]
  show some (decide ((j:Int)<0))=some false
  rw [decide_eq_false (by omega)]) (by omega) (by omega)]
 simp only [Option.bind_some]
 have:(l.any fun _=>false)=false:=by simp
 rw [this,if_neg (by simp)]
theorem fits_eq {F:Nat} (hF:1000<F) {c:TCyl} (hv:VC c) {p q:TStep} (hp:IsStep c p) (hq:IsStep c q):join_Fits F c p q=some (fit c p q,0):=by
 obtain ⟨X,e1,e2⟩:=open_eq hF hv (l:=[p,q]) (fun s hs=>by
  rcases List.mem_cons.1 hs with rfl | hs
  ·exact hp
  ·rw [List.mem_singleton.1 hs]; exact hq) (by simp)
 unfold join_Fits
 have ex:(c.1,c.2.1,(c.2.2.1,c.2.2.2))=c:=rfl
 rw [ex,show join_open F c [(p.1,p.2),(q.1,q.2)]=_ from e1]
 simp only [Option.bind_eq_bind,Option.bind_some]
 rw [if_neg (by simp)]
 obtain ⟨i,h1,h2⟩:=index_eq hF hv (X:=X) hp
 obtain ⟨k,h3,h4⟩:=index_eq hF hv (X:=X) hq
 rw [show join_table_index F ((c.1,c.2.1,(c.2.2.1,c.2.2.2)),stps 0 c.1,X,Opq.mk,Opq.mk) (p.1,p.2)=some (i:Int) from h1]
 simp only [Option.bind_some]
 obtain ⟨r,h5,h6⟩:=e2 i k p q h2 h4
 rw [h5]
 simp only [Option.bind_some]
 rw [show join_table_index F ((c.1,c.2.1,(c.2.2.1,c.2.2.2)),stps 0 c.1,X,Opq.mk,Opq.mk) (q.1,q.2)=some (k:Int) from h3]
 simp only [Option.bind_some]
 rw [h6]
 cases fit c p q <;> rfl
end Jn
end Go.Proofs.YtfmelbioccbdoaaGreat
end
section
namespace Go.Proofs.YtfmelbioccbdoaaGreat
open Go Go.Md Go.RowKit
namespace Jn
theorem bit_has:∀ (y:Fin 256) (p:Fin 8),∃ s,shr .i64 (y.val:Int) (p.val:Int)=some s∧decide (band .i64 s 1=1)=y.val.testBit p.val:=by
 have h:∀ (y:Fin 256) (p:Fin 8),((shr .i64 (y.val:Int) (p.val:Int)).map fun s=>decide (band .i64 s 1=1))=some (y.val.testBit p.val):=by decide +kernel
 intro y p
 obtain ⟨s,h1,h2⟩:=Option.map_eq_some_iff.1 (h y p)
 exact ⟨s,h1,h2⟩
theorem bit_put:∀ (y:Fin 256) (p:Fin 8),∃ t z,shl .i64 1 (p.val:Int)=some t∧bor .i64 (y.val:Int) t=((z:Fin 256).val:Int)∧∀ q:Fin 8,z.val.testBit q.val=(y.val.testBit q.val || decide (q=p)):=by
 have h:∀ (y:Fin 256) (p:Fin 8),((shl .i64 1 (p.val:Int)).map fun t=>bor .i64 (y.val:Int) t)=some ((y.val ||| 1 <<< p.val:Nat):Int):=by decide +kernel
 have h2:∀ (y:Fin 256) (p:Fin 8),y.val ||| 1 <<< p.val<256:=by decide +kernel
 intro y p
 obtain ⟨t,h3,h4⟩:=Option.map_eq_some_iff.1 (h y p)
 refine ⟨t,⟨_,h2 y p⟩,h3,h4,fun q=>?_⟩
 show (y.val ||| 1 <<< p.val).testBit q.val=_
 rw [Nat.testBit_or,Nat.one_shiftLeft,Nat.testBit_two_pow]
 congr 1
 rw [decide_eq_decide]
 exact ⟨fun h=>Fin.ext h.symm,fun h=>by rw [h]⟩
structure Ord (c:TCyl) (l:List TStep):Prop where
 steps:∀ s∈l,IsStep c s
 nodup:(l.map (·.1)).Nodup
 len:l.length=c.1.length
def joins (c:TCyl):List TStep→Bool
 | a::b::l=>fit c a b && joins c (b::l)
 | _=>true
theorem joins_drop {c:TCyl} {l:List TStep} {k:Nat} (hk:1≤k) (hlt:k<l.length):joins c (l.drop (k - 1))=(fit c l[k - 1] l[k] && joins c (l.drop k)):=by
 have e1:l.drop (k - 1)=l[k - 1]::l.drop k:=by
  have:=List.drop_eq_getElem_cons (show k - 1<l.length by omega)
  rw [this]; congr 2; omega
 have e2:l.drop k=l[k]::l.drop (k + 1):=List.drop_eq_getElem_cons hlt
 rw [e1,e2]; rfl
theorem ind1 {F:Nat} (hF:1000<F) {c:TCyl} (hv:VC c) {X:TFits} {l:List TStep} (hl:∀ s∈l,IsStep c s) (hn:l.length≤8):∀ (m k:Nat) (z:List Int),k≤l.length→l.length - k<m→z.length=k→(∀ j,j<k→∃ (p:TStep) (i:Nat),l[j]?=some p∧z[j]?=some (i:Int)∧(stps 0 c.1)[i]?=some p) →
  ∃ z',join_indexed_l1 F l (⟨some (c,stps 0 c.1,X,.mk,.mk)⟩,0) m z (k:Int)=some z'∧z'.length=l.length∧∀ j,j<l.length→∃ (p:TStep) (i:Nat),l[j]?=some p∧z'[j]?=some (i:Int)∧(stps 0 c.1)[i]?=some p
 | 0,k,_,_,h,_,_=>by omega
 | m + 1,k,z,hk,h,hz,hi=>by
  unfold join_indexed_l1
  by_cases hlt:k<l.length
  ·rw [if_pos (by simpa using hlt),ix_nat hlt]
   simp only [Option.bind_eq_bind,Option.bind_some]
   obtain ⟨i,h1,h2⟩:=index_eq hF hv (X:=X) (hl _ (List.getElem_mem hlt))
   rw [show join_table_index F ((c.1,c.2.1,(c.2.2.1,c.2.2.2)),stps 0 c.1,X,Opq.mk,Opq.mk) ((l[k]).1,(l[k]).2)=some (i:Int) from h1]
   simp only [Option.bind_some]
   rw [app_some (by simp; omega)]
   simp only [Option.bind_some]
   rw [show w64 ((k:Int) + 1)=((k + 1:Nat):Int) by rw [w64_in (by omega)]; rfl]
   refine ind1 hF hv hl hn m (k + 1) _ (by omega) (by omega) (by simp; omega) (fun j hj=>?_)
   by_cases e:j=k
   ·subst e
    exact ⟨l[j],i,List.getElem?_eq_getElem hlt,by rw [List.getElem?_append_right (by omega),hz]; simp,h2⟩
   ·obtain ⟨p,i',h3,h4,h5⟩:=hi j (by omega)
    exact ⟨p,i',h3,by rw [List.getElem?_append_left (by omega)]; exact h4,h5⟩
  ·rw [if_neg (by simpa using hlt)]
   exact ⟨z,rfl,by omega,fun j hj=>hi j (by omega)⟩
theorem ind2 {F:Nat} {c:TCyl} (hv:VC c) {l:List TStep} (hl:Ord c l):∀ (m k:Nat) (y:Fin 256),k≤l.length→l.length - k<m→(∀ q:Fin 8,y.val.testBit q.val=true→(q.val:Int)∈(l.take k).map (·.1)) →
  join_indexed_l2 F l m (y.val:Int) (k:Int)=some (.inr ())
 | 0,k,_,_,h,_=>by omega
 | m + 1,k,y,hk,h,hy=>by
  unfold join_indexed_l2
  by_cases hlt:k<l.length
  ·have h8:=hv.n8
   have hln:=hl.len
   obtain ⟨i,h1,p,h2,-⟩:=hl.steps _ (List.getElem_mem hlt)
   have hi:=(List.getElem?_eq_some_iff.1 h2).1
   rw [if_pos (by simpa using hlt),ix_nat hlt]
   simp only [Option.bind_eq_bind,Option.bind_some]
   rw [h1]
   obtain ⟨s,e1,e2⟩:=bit_has y ⟨i,by omega⟩
   rw [show shr .i64 (y.val:Int) (i:Int)=some s from e1]
   simp only [Option.bind_some]
   have hnot:y.val.testBit i=false:=by
    cases hb:y.val.testBit i with
    | false=>rfl
    | true =>
     have:=hy ⟨i,by omega⟩ hb
     have hnd:=hl.nodup
     have ed:l=l.take k++l[k]::l.drop (k + 1):=by rw [← List.drop_eq_getElem_cons hlt,List.take_append_drop]
     rw [ed,List.map_append,List.map_cons,h1] at hnd
     exact absurd this (fun hm=>(List.nodup_append.1 hnd).2.2 _ hm _ List.mem_cons_self rfl)
   rw [if_neg (by rw [e2]; show ¬ y.val.testBit i=true; rw [hnot]; simp)]
   obtain ⟨t,z,f1,f2,f3⟩:=bit_put y ⟨i,by omega⟩
   rw [show shl .i64 1 (i:Int)=some t from f1]
   simp only [Option.bind_some]
   rw [f2,show w64 ((k:Int) + 1)=((k + 1:Nat):Int) by rw [w64_in (by omega)]; rfl]
   refine ind2 hv hl m (k + 1) z (by omega) (by omega) (fun q hq=>?_)
   rw [f3] at hq
   rw [List.take_succ_eq_append_getElem hlt,List.map_append,List.mem_append]
   rcases Bool.or_eq_true_iff.1 hq with hq | hq
   ·exact .inl (hy q hq)
   ·right
    have:q=⟨i,by omega⟩:=of_decide_eq_true hq
    subst this
    simp [h1]
  ·rw [if_neg (by simpa using hlt)]
theorem ind3 {F:Nat} {c:TCyl} {X:TFits} (hX:Tab c X) {l:List TStep} (hn:l.length≤8) {z:List Int} (hzl:z.length=l.length) (hz:∀ j,j<l.length→∃ (p:TStep) (i:Nat),l[j]?=some p∧z[j]?=some (i:Int)∧(stps 0 c.1)[i]?=some p):∀ (m k:Nat),1≤k→l.length - k<m →
  join_indexed_l3 F (⟨some (c,stps 0 c.1,X,.mk,.mk)⟩,0) z m (k:Int)=some (if joins c (l.drop (k - 1))=true then .inr () else .inl (⟨none⟩,[],18))
 | 0,k,_,h=>by omega
 | m + 1,k,hk,h=>by
  unfold join_indexed_l3
  by_cases hlt:k<l.length
  ·obtain ⟨p,i,a1,a2,a3⟩:=hz (k - 1) (by omega)
   obtain ⟨q,j,b1,b2,b3⟩:=hz k hlt
   rw [if_pos (by simp; omega),show w64 ((k:Int) - 1)=((k - 1:Nat):Int) by rw [w64_in (by omega)]; omega,ix_nat (show k - 1<z.length by omega),ix_nat (show k<z.length by omega)]
   simp only [Option.bind_eq_bind,Option.bind_some]
   rw [(List.getElem?_eq_some_iff.1 a2).2,(List.getElem?_eq_some_iff.1 b2).2]
   obtain ⟨r,h5,h6⟩:=hX i j p q a3 b3
   rw [h5]
   simp only [Option.bind_some]
   rw [h6]
   simp only [Option.bind_some]
   rw [joins_drop hk hlt,show l[k - 1]=p from (List.getElem?_eq_some_iff.1 a1).2,show l[k]=q from (List.getElem?_eq_some_iff.1 b1).2]
   cases fit c p q with
   | false=>rfl
   | true =>
    rw [if_neg (by decide),show w64 ((k:Int) + 1)=((k + 1:Nat):Int) by rw [w64_in (by omega)]; rfl,ind3 hX hn hzl hz m (k + 1) (by omega) (by omega)]
    rfl
  ·rw [if_neg (by simp; omega)]
   have:joins c (l.drop (k - 1))=true:=by
    have hl2:(l.drop (k - 1)).length≤1:=by rw [List.length_drop]; omega
    match l.drop (k - 1),hl2 with
    | [],_=>rfl
    | [a],_=>rfl
   rw [this]; rfl
theorem int_idx {l:List Int} {x:Int} (F:Nat):∀ m k,slices_Index_int_l1 F l x m k=idxL l (fun y=>some (decide (x=y))) m k
 | 0,_=>rfl
 | m + 1,k=>by unfold slices_Index_int_l1 idxL; simp only [int_idx F m]; rfl
theorem con_is {l:List Int} {x:Int} {F:Nat} (hF:l.length<F) (hl:l.length<4611686018427387904):slices_Contains_int F l x=some (l.any fun y=>decide (x=y)):=by
 obtain ⟨r,h1,h2,h3⟩:=idxL_any (f:=fun y=>some (decide (x=y))) (p:=fun y=>decide (x=y)) (fun _ _=>rfl) hl F 0 (Nat.zero_le _) (by omega)
 unfold slices_Contains_int slices_Index_int
 rw [int_idx]
 simp only [Int.natCast_zero,List.drop_zero] at h1 h2 h3
 rw [h1]
 cases hp:l.any (fun y=>decide (x=y)) with
 | true=>obtain ⟨j,rfl⟩:=h2 hp; simp
 | false=>rw [h3 hp]; simp
theorem checkJoin_eq {F:Nat} (hF:1000<F) {c:TCyl} (hv:VC c) {l:List TStep} (hl:Ord c l):join_CheckJoin F c l=some (if joins c l=true then 0 else 18):=by
 have h8:=hv.n8
 have hln:=hl.len
 obtain ⟨X,e1,hX⟩:=open_eq hF hv (l:=[]) (by simp) (by simp)
 obtain ⟨z,f1,f2,f3⟩:=ind1 hF hv (X:=X) hl.steps (by omega) F 0 [] (by omega) (by omega) rfl (fun j hj=>by omega)
 unfold join_CheckJoin join_indexed
 have ex:(c.1,c.2.1,(c.2.2.1,c.2.2.2))=c:=rfl
 simp only [ex,e1,Option.bind_eq_bind,Option.bind_some]
 rw [if_neg (by simp),if_neg (by simp; omega),show join_indexed_l1 F l (⟨some (c,stps 0 c.1,X,.mk,.mk)⟩,0) F [] 0=some z from f1]
 simp only [Option.bind_some]
 rw [con_is (by omega) (by omega)]
 have hno:(z.any fun y=>decide (-1=y))=false:=by
  rw [List.any_eq_false]
  intro y hy
  obtain ⟨j,hj,rfl⟩:=List.mem_iff_getElem.1 hy
  obtain ⟨p,i,-,h1,-⟩:=f3 j (by omega)
  rw [(List.getElem?_eq_some_iff.1 h1).2]
  simp <;> omega
 rw [hno]
 simp only [Option.bind_some]
 rw [if_neg (by simp)]
 have g2:=ind2 (F:=F) hv hl F 0 0 (by omega) (by omega) (fun q hq=>by
  have:(0:Nat).testBit q.val=true:=hq
  simp at this)
 rw [show join_indexed_l2 F l F 0 0=some (.inr ()) from g2]
 simp only [Option.bind_some]
 have g3:=ind3 (F:=F) hX (l:=l) (by omega) f2 f3 F 1 (Nat.le_refl _) (by omega)
 rw [show 1 - 1=0 from rfl,List.drop_zero] at g3
 rw [show join_indexed_l3 F (⟨some (c,stps 0 c.1,X,.mk,.mk)⟩,0) z F 1=_ from g3]
 cases joins c l <;> rfl
theorem ord1 {F:Nat} {c:TCyl} (hn:c.1.length≤8):∀ (m k:Nat) (y:List Int),k≤c.1.length→c.1.length - k<m→y.length=k→y.Nodup→(∀ v∈y,∃ i:Nat,v=(i:Int)∧i<k) →
  ∃ z,top_order03_l1 F c m y (k:Int)=some z∧z.length=c.1.length∧z.Nodup∧∀ v∈z,∃ i:Nat,v=(i:Int)∧i<c.1.length
 | 0,k,_,_,h,_,_,_=>by omega
 | m + 1,k,y,hk,h,hy,hnd,hm=>by
  unfold top_order03_l1
  by_cases hlt:k<c.1.length
  ·rw [if_pos (by simpa using hlt),app_some (by simp; omega)]
   simp only [Option.bind_eq_bind,Option.bind_some]
   rw [show w64 ((k:Int) + 1)=((k + 1:Nat):Int) by rw [w64_in (by omega)]; rfl]
   refine ord1 hn m (k + 1) _ (by omega) (by omega) (by simp; omega) ?_ (fun v hv=>?_)
   ·rw [List.nodup_append]
    refine ⟨hnd,by simp,fun a ha b hb=>?_⟩
    obtain ⟨i,h1,h2⟩:=hm a ha
    rw [List.mem_singleton.1 hb,h1]; omega
   ·rcases List.mem_append.1 hv with hv | hv
    ·obtain ⟨i,h1,h2⟩:=hm v hv; exact ⟨i,h1,by omega⟩
    ·exact ⟨k,List.mem_singleton.1 hv,by omega⟩
  ·rw [if_neg (by simpa using hlt)]
   have:k=c.1.length:=by omega
   subst this
   exact ⟨y,rfl,hy,hnd,hm⟩
theorem ord2 {F:Nat} {c:TCyl} (hn:c.1.length≤8) {bys:List (KI .u8)} (hb:∀ y∈bys,0≤y.v∧y.v≤255) (hbl:bys.length≤1000):∀ (m:Nat) (y:List Int) (o:List TStep) (t:Nat),y.length<m→o.length + y.length=c.1.length→t≤o.length→(o.map (·.1)++y).Nodup→(∀ v∈y,∃ i:Nat,v=(i:Int)∧i<c.1.length)→(∀ s∈o,IsStep c s) →
  ∃ z,top_order03_l2 F c bys m y o (t:Int)=some z∧Ord c z
 | 0,_,_,_,h,_,_,_,_,_=>by omega
 | m + 1,y,o,t,hm,hlen,ht,hnd,hy,ho=>by
  unfold top_order03_l2
  by_cases hlt:0<y.length
  ·have hn1:∃ n:Int,0≤n∧n≤255∧(if (decide (0<(bys.length:Int)))=true then (rem (t:Int) (bys.length:Int)) >>= fun x4=>(ix bys x4) >>= fun x5=>some (w64 x5.v) else some 0:Option Int)=some n:=by
    by_cases hb0:0<bys.length
    ·have hr:(rem (t:Int) (bys.length:Int))=some ((t % bys.length:Nat):Int):=by
      unfold rem; rw [if_neg (by omega)]; congr 1
     have hi:t % bys.length<bys.length:=Nat.mod_lt _ hb0
     have h5:=hb _ (List.getElem_mem hi)
     refine ⟨(bys[t % bys.length]).v,h5.1,h5.2,?_⟩
     rw [if_pos (by simpa using hb0),hr]
     simp only [Option.bind_eq_bind,Option.bind_some]
     rw [ix_nat hi]
     simp only [Option.bind_some]
     rw [w64_in (by omega)]
    ·exact ⟨0,by omega,by omega,by rw [if_neg (by simpa using hb0)]⟩
   obtain ⟨n,n0,n1,en⟩:=hn1
   rw [if_pos (by simpa using hlt),en]
   simp only [Option.bind_eq_bind,Option.bind_some]
   obtain ⟨nn,rfl⟩:∃ nn:Nat,n=(nn:Int):=⟨n.toNat,by omega⟩
   have hr:(rem (nn:Int) (y.length:Int))=some ((nn % y.length:Nat):Int):=by
    unfold rem; rw [if_neg (by omega)]; congr 1
   have hi:nn % y.length<y.length:=Nat.mod_lt _ hlt
   rw [hr]
   simp only [Option.bind_some]
   generalize nn % y.length=k at hi
   rw [ix_nat hi]
   simp only [Option.bind_some]
   obtain ⟨i,h1,h2⟩:=hy _ (List.getElem_mem hi)
   rw [h1,ix_nat h2]
   simp only [Option.bind_some]
   rw [app_some (by simp; omega)]
   simp only [Option.bind_some]
   have e1:stake y (k:Int)=some (y.take k):=by unfold stake; rw [if_pos ⟨by omega,by omega⟩,Int.toNat_natCast]
   have e2:sdrop y (w64 ((k:Int) + 1))=some (y.drop (k + 1)):=by
    rw [show w64 ((k:Int) + 1)=((k + 1:Nat):Int) by rw [w64_in (by omega)]; rfl]
    unfold sdrop; rw [if_pos ⟨by omega,by omega⟩,Int.toNat_natCast]
   rw [e1,e2]
   simp only [Option.bind_some]
   rw [app_some (by simp; omega)]
   simp only [Option.bind_some]
   rw [app_some (by simp; omega),List.nil_append]
   simp only [Option.bind_some]
   rw [show w64 ((t:Int) + 1)=((t + 1:Nat):Int) by rw [w64_in (by omega)]; rfl]
   have ed:y=y.take k++(i:Int)::y.drop (k + 1):=by rw [← h1,← List.drop_eq_getElem_cons hi,List.take_append_drop]
   refine ord2 hn hb hbl m _ _ (t + 1) (by simp; omega) (by simp; omega) (by simp; omega) ?_ (fun v hv=>?_) (fun s hs=>?_)
   ·rw [List.map_append]
    have:(o.map (·.1)++y).Perm (o.map (·.1)++[(i:Int)]++(y.take k++y.drop (k + 1))):=by
     conv=>lhs; rw [ed]
     rw [List.append_assoc]
     exact List.Perm.append_left _ List.perm_middle
    exact this.nodup_iff.1 hnd
   ·rcases List.mem_append.1 hv with hv | hv
    ·exact hy v (List.mem_of_mem_take hv)
    ·exact hy v (List.mem_of_mem_drop hv)
   ·rcases List.mem_append.1 hs with hs | hs
    ·exact ho s hs
    ·rw [List.mem_singleton.1 hs]
     exact ⟨i,rfl,c.1[i],List.getElem?_eq_getElem h2,fun h=>(Bool.and_eq_true_iff.1 h).1⟩
  ·rw [if_neg (by simpa using hlt)]
   have:y=[]:=List.length_eq_zero_iff.1 (by omega)
   subst this
   rw [List.append_nil] at hnd
   exact ⟨o,rfl,ho,hnd,by simpa using hlen⟩
theorem order_eq {F:Nat} (hF:1000<F) {c:TCyl} (hv:VC c) {bys:List (KI .u8)} (hb:∀ y∈bys,0≤y.v∧y.v≤255) (hbl:bys.length≤1000):∃ l,top_order03 F c bys=some l∧Ord c l:=by
 have h8:=hv.n8
 obtain ⟨z,e1,e2,e3,e4⟩:=ord1 (F:=F) (c:=c) h8 F 0 [] (by omega) (by omega) rfl (by simp) (by simp)
 obtain ⟨l,f1,f2⟩:=ord2 (F:=F) h8 hb hbl F z [] 0 (by omega) (by simpa using e2) (Nat.le_refl _) (by simpa using e3) e4 (by simp)
 refine ⟨l,?_,f2⟩
 unfold top_order03
 rw [show top_order03_l1 F c F [] 0=some z from e1]
 simp only [Option.bind_eq_bind,Option.bind_some]
 rw [show top_order03_l2 F c bys F z [] 0=some l from f1]
 rfl
end Jn
end Go.Proofs.YtfmelbioccbdoaaGreat
end
section
namespace Go.Proofs.YtfmelbioccbdoaaGreat
open Go Go.Md Go.RowKit
end Go.Proofs.YtfmelbioccbdoaaGreat
end
section
namespace Go.Proofs.YtfmelbioccbdoaaGreat
open Go Go.Md Go.RowKit
namespace L3
open Jn
theorem wf_u8' {v:Int} (h:(Lit.int .u8 v).wf=true):0≤v∧v≤255:=by
 simp [Lit.wf] at h; exact h
theorem cyl_cases (c:TCyl):(top_cylinder03 FF c=some true∧VC c)∨top_cylinder03 FF c=some false:=by
 unfold top_cylinder03
 have ex:(c.1,c.2.1,(c.2.2.1,c.2.2.2))=c:=rfl
 rw [ex,rcyl_eq (by decide)]
 by_cases h:VC c
 ·left
  have h8:=h.n8
  have e:decide ((c.1.length:Int)≤20)=true:=by simp; omega
  rw [e,ccyl_ok.2 h]; exact ⟨rfl,h⟩
 ·right
  have e2:decide (ccyl c=0)=false:=decide_eq_false fun e=>h (ccyl_ok.1 e)
  cases decide ((c.1.length:Int)≤20) with
  | false=>rfl
  | true =>
   simp only [gd,cond_true,Option.bind_eq_bind,Option.bind_some,e2]; rfl
theorem ends03_eq {c:TCyl} {s:TStep} (hs:IsStep c s):top_ends03 c s=some ((bgn c s).1,(fin c s).1):=by
 obtain ⟨p,h1,-,-⟩:=hs.ix
 unfold top_ends03 bgn fin
 rw [h1]
 cases s.2 <;> rfl
def near (off:Int) (e d:Int×Int):Bool:=decide (e.1 - d.2≤off) && decide (d.1 - e.2≤off)
def wide (c:TCyl):TCyl:=(c.1,c.2.1,((-100000),100000))
theorem VC.wide {c:TCyl} (h:VC c):VC (wide c):=⟨h.n1,h.n8,h.ends,h.off,by show (-100000:Int)≤-100000∧(-100000:Int)≤100000∧(100000:Int)≤100000; omega⟩
theorem meet_wide {c:TCyl} {e d:TEnd} (he:okE e=true) (hd:okE d=true):meet (wide c) e d=near c.2.1 e.1 d.1:=by
 have a:=okE_iff.1 he
 have b:=okE_iff.1 hd
 unfold meet near wide
 have:(decide ((-100000:Int)≤d.2 - e.2) && decide (d.2 - e.2≤100000))=true:=by simp; omega
 show (decide _ && decide _ && (decide ((-100000:Int)≤d.2 - e.2) && decide (d.2 - e.2≤100000)))=_
 rw [this,Bool.and_true]
theorem fit_wide {c:TCyl} (hv:VC (wide c)) {p q:TStep} (hp:IsStep (wide c) p) (hq:IsStep (wide c) q) (hne:p.1≠q.1):fit (wide c) p q=near c.2.1 (fin (wide c) p).1 (bgn (wide c) q).1:=by
 unfold fit
 rw [decide_eq_false hne,Bool.not_false,Bool.true_and,meet_wide (hp.ok hv).2 (hq.ok hv).1]
theorem joins_iff {c:TCyl}:∀ l:List TStep,joins c l=true↔∀ k p q,l[k]?=some p→l[k + 1]?=some q→fit c p q=true
 | []=>by simp [joins]
 | [a]=>by simp [joins]
 | a::b::l=>by
  unfold joins
  rw [Bool.and_eq_true,joins_iff (b::l)]
  constructor
  ·rintro ⟨h1,h2⟩ k p q hp hq
   cases k with
   | zero=>cases hp; cases hq; exact h1
   | succ k=>exact h2 k p q (by simpa using hp) (by simpa using hq)
  ·intro h
   exact ⟨h 0 a b rfl rfl,fun k p q hp hq=>h (k + 1) p q (by simpa using hp) (by simpa using hq)⟩
theorem ord_ne {c:TCyl} {l:List TStep} (hl:Ord c l) {k:Nat} {p q:TStep} (hp:l[k]?=some p) (hq:l[k + 1]?=some q):p.1≠q.1:=by
 have h:=hl.nodup
 rw [List.Nodup,List.pairwise_map,List.pairwise_iff_getElem] at h
 obtain ⟨h1,h2⟩:=List.getElem?_eq_some_iff.1 hp
 obtain ⟨h3,h4⟩:=List.getElem?_eq_some_iff.1 hq
 have:=h k (k + 1) h1 h3 (by omega)
 rwa [h2,h4] at this
def B (c:TCyl) (l:List TStep) (k:Nat):Int×Int:=(bgn c (l[k]?.getD default)).1
def En (c:TCyl) (l:List TStep) (k:Nat):Int×Int:=(fin c (l[k]?.getD default)).1
end L3
end Go.Proofs.YtfmelbioccbdoaaGreat
end
section
namespace Go.Proofs.YtfmelbioccbdoaaGreat
open Go Go.Md Go.RowKit
namespace L3
open Jn
def shut (c:TCyl):TCyl:=(c.1,0,((-100000),100000))
theorem VC.shut {c:TCyl} (h:VC c):VC (shut c):=⟨h.n1,h.n8,h.ends,by show (0:Int)≤0∧(0:Int)≤1000; omega,by show (-100000:Int)≤-100000∧(-100000:Int)≤100000∧(100000:Int)≤100000; omega⟩
def mt (a b:Int×Int):Bool:=decide (a.1≤b.2) && decide (b.1≤a.2)
theorem near_mt {a b:Int×Int}:near 0 a b=mt a b:=by
 unfold near mt
 rw [Bool.eq_iff_iff]; simp; omega
section
variable {a b:Int×Int}
theorem two_song (ha:Sg.okR a=true) (hb:Sg.okR b=true):Sg.csong [a,b]=0:=Sg.csong_ok.2 ⟨by simp,by simp,fun x hx=>by
 rcases List.mem_cons.1 hx with rfl | hx
 ·exact ha
 ·rw [List.mem_singleton.1 hx]; exact hb⟩
theorem two_short (ha:Sg.okR a=true) (hb:Sg.okR b=true) {G:List Sg.To} (h:Sg.Short [a,b] G):(G.length=1↔mt a b=true):=by
 have a':=Sg.okR_iff.1 ha
 have b':=Sg.okR_iff.1 hb
 constructor
 ·intro h1
  match G,h1 with
  | [g],_ =>
   obtain ⟨x,hx,e1,e2⟩:=h.met a (by simp)
   obtain ⟨y,hy,e3,e4⟩:=h.met b (by simp)
   rw [List.mem_singleton.1 hx] at e1 e2
   rw [List.mem_singleton.1 hy] at e3 e4
   unfold mt; simp; omega
 ·intro h1
  unfold mt at h1; simp at h1
  have h2:=h.le (q:=[max a.1 b.1]) (fun r hr=>⟨_,List.mem_singleton.2 rfl,by
   rcases List.mem_cons.1 hr with rfl | hr
   ·omega
   ·rw [List.mem_singleton.1 hr]; omega⟩)
  have h3:G.length≠0:=by
   intro h0
   obtain ⟨x,hx,-⟩:=h.met a (by simp)
   rw [List.length_eq_zero_iff.1 h0] at hx; cases hx
  simp at h2; omega
theorem must_l1 {F:Nat} {p q:Sg.To} (_:p.1.1≤p.1.2) (_:q.1.1≤q.1.2) (hp0:0≤p.1.1) (hq0:0≤q.1.1) (hpq:p.1.2≤q.1.2) (hq9:q.1.2≤10000) {r:Int×Int} (h1:r.1=max p.1.1 q.1.1) (h2:r.2=p.1.2) (hm:r.1≤r.2) :
  ∃ s t z,scale_song_high_l1 F r [p,q] [] [] (-1)=some (s,t,z)∧(t.length<s.length∨1<s.length):=by
 unfold scale_song_high_l1
 rw [if_neg (show ¬ decide (p.1.1≤-1)=true by simp; omega),if_pos (show ((decide (r.1≤p.1.2)) && (decide (p.1.2≤r.2)))=true by simp; omega)]
 simp only [Option.bind_eq_bind,Option.bind_some]
 rw [app_some (by simp)]
 simp only [Option.bind_some,List.nil_append]
 rw [w64_in (n:=r.1 - 1) (by omega)]
 by_cases c1:r.1 - 1<p.1.1
 ·rw [if_pos (by simpa using c1)]
  exact ⟨_,_,_,rfl,.inl (by simp)⟩
 ·rw [if_neg (by simpa using c1),app_some (by simp)]
  simp only [Option.bind_some,List.nil_append]
  unfold scale_song_high_l1
  rw [if_neg (show ¬ decide (q.1.1≤r.1 - 1)=true by simp; omega)]
  have hy:∃ y,(if ((decide (r.1≤q.1.2)) && (decide (q.1.2≤r.2)))=true then some (w64 (r.1 - 1)) else some q.1.2:Option Int)=some y:=by split <;> exact ⟨_,rfl⟩
  obtain ⟨y,hy⟩:=hy
  rw [hy]
  simp only [Option.bind_eq_bind,Option.bind_some]
  rw [app_some (by simp)]
  simp only [Option.bind_some]
  by_cases c2:y<q.1.1
  ·rw [if_pos (by simpa using c2)]
   exact ⟨_,_,_,rfl,.inl (by simp)⟩
  ·rw [if_neg (by simpa using c2),app_some (by simp)]
   exact ⟨_,_,_,rfl,.inr (by simp)⟩
theorem share_eq {F:Nat} (hF:1000000<F) (ha:Sg.okR a=true) (hb:Sg.okR b=true):scale_Share F [a,b] 0 1=some ((mt a b,mt a b),0):=by
 have a':=Sg.okR_iff.1 ha
 have b':=Sg.okR_iff.1 hb
 have hs:=two_song ha hb
 unfold scale_Share
 rw [Sg.checkSong_eq (by omega),hs]
 simp only [Option.bind_eq_bind,Option.bind_some]
 rw [if_neg (by simp),if_neg (by simp),show ix [a,b] 0=some a from rfl,show ix [a,b] 1=some b from rfl]
 simp only [Option.bind_some,scale_both]
 generalize hr1:(if a.1<b.1 then b.1 else a.1)=r1
 generalize hr2:(if b.2<a.2 then b.2 else a.2)=r2
 have e1:r1=max a.1 b.1:=by rw [← hr1]; split <;> omega
 have e2:r2=min a.2 b.2:=by rw [← hr2]; split <;> omega
 by_cases hm:r2<r1
 ·rw [if_pos (by simpa using hm)]
  have:mt a b=false:=by unfold mt; rw [Bool.eq_false_iff]; simp; omega
  rw [this]
 ·rw [if_neg (by simpa using hm)]
  have hmt:mt a b=true:=by unfold mt; simp; omega
  have hok:∀ x∈[a,b],Sg.okR x=true:=fun x hx=>by
   rcases List.mem_cons.1 hx with rfl | hx
   ·exact ha
   ·rw [List.mem_singleton.1 hx]; exact hb
  have hok3:∀ x∈[a,b]++[(r1,r2)],Sg.okR x=true:=fun x hx=>by
   rcases List.mem_append.1 hx with hx | hx
   ·exact hok x hx
   ·rw [List.mem_singleton.1 hx]; exact Sg.okR_iff.2 ⟨by show 0≤r1; omega,by show r1≤r2; omega,by show r2≤10000; omega⟩
  obtain ⟨S,f1,hp,hasc⟩:=Sg.newSong_eq hF (l:=[a,b]) (by show (2:Nat)≤20; omega) hok
  obtain ⟨S3,f2,hp3,hasc3⟩:=Sg.newSong_eq hF (l:=[a,b]++[(r1,r2)]) (by show (3:Nat)≤20; omega) hok3
  have hle:∀ x∈S,x.1.1≤x.1.2:=fun x hx=>(Sg.asc_ok hok hp x hx).2.1
  have hle3:∀ x∈S3,x.1.1≤x.1.2:=fun x hx=>(Sg.asc_ok hok3 hp3 x hx).2.1
  have hSl:S.length=2:=by rw [hp.length_eq,Sg.tn_len]; rfl
  have hSl3:S3.length=3:=by rw [hp3.length_eq,Sg.tn_len]; rfl
  have g1:=(two_short ha hb (Sg.short_gr hok hp hasc)).2 hmt
  have g3:(Sg.gr S3 (-1)).length=1:=by
   have hsh:=Sg.short_gr hok3 hp3 hasc3
   have h2:=hsh.le (q:=[r1]) (fun r hr=>⟨_,List.mem_singleton.2 rfl,by
    rcases List.mem_append.1 hr with hr | hr
    ·rcases List.mem_cons.1 hr with rfl | hr
     ·omega
     ·rw [List.mem_singleton.1 hr]; omega
    ·rw [List.mem_singleton.1 hr]; show r1≤r1∧r1≤r2; omega⟩)
   have h3:(Sg.gr S3 (-1)).length≠0:=by
    intro h0
    obtain ⟨x,hx,-⟩:=hsh.met a (by simp)
    rw [List.length_eq_zero_iff.1 h0] at hx; cases hx
   simp at h2; omega
  rw [f1]
  simp only [Option.bind_some]
  rw [Sg.high_eq hle (by omega)]
  simp only [Option.bind_some]
  rw [app_some (by simp)]
  simp only [Option.bind_some]
  rw [f2]
  simp only [Option.bind_some]
  rw [Sg.high_eq hle3 (by omega)]
  simp only [Option.bind_some]
  obtain ⟨p,q,hpq⟩:∃ p q,S=[p,q]:=by
   match S,hSl with
   | [p,q],_=>exact ⟨p,q,rfl⟩
  subst hpq
  have hpm:=hp.mem_iff.1 (show p∈[p,q] by simp)
  have hqm:=hp.mem_iff.1 (show q∈[p,q] by simp)
  have hne:p.2≠q.2:=by
   have h1:=Sg.tn_nodup [a,b] 0
   have h2:=(hp.pairwise_iff (R:=fun x y:Sg.To=>x.2≠y.2) (fun h=>fun e=>h e.symm)).2 h1
   exact (List.pairwise_cons.1 h2).1 q (by simp)
  have hcase:(p.1=a∧q.1=b)∨(p.1=b∧q.1=a):=by
   simp only [Sg.tn,List.mem_cons,List.not_mem_nil,or_false] at hpm hqm
   rcases hpm with rfl | rfl <;> rcases hqm with rfl | rfl
   ·exact absurd rfl hne
   ·exact .inl ⟨rfl,rfl⟩
   ·exact .inr ⟨rfl,rfl⟩
   ·exact absurd rfl hne
  have hh:p.1.2≤q.1.2:=(List.pairwise_cons.1 hasc).1 q (by simp)
  obtain ⟨s,t,z,f3,f4⟩:∃ s t z,scale_song_high_l1 F (r1,r2) [p,q] [] [] (-1)=some (s,t,z)∧(t.length<s.length∨1<s.length):=by
   rcases hcase with ⟨h1,h2⟩ | ⟨h1,h2⟩
   ·exact must_l1 (by rw [h1]; omega) (by rw [h2]; omega) (by rw [h1]; omega) (by rw [h2]; omega) hh (by rw [h2]; omega) (by rw [h1,h2]; exact e1) (by rw [h1] at hh ⊢; rw [h2] at hh; show r2=a.2; omega) (by show r1≤r2; omega)
   ·exact must_l1 (by rw [h1]; omega) (by rw [h2]; omega) (by rw [h1]; omega) (by rw [h2]; omega) hh (by rw [h2]; omega) (by rw [h1,h2]; show r1=max b.1 a.1; omega) (by rw [h1] at hh ⊢; rw [h2] at hh; show r2=b.2; omega) (by show r1≤r2; omega)
  have f5:scale_song_high F ⟨[p,q]⟩ (r1,r2)=some (s,t):=by
   show (scale_song_high_l1 F (r1,r2) [p,q] [] [] (-1)) >>= _=_
   rw [f3]; rfl
  rw [f5]
  simp only [Option.bind_some,List.length_map]
  rw [g1,g3,hmt]
  congr 2
  rw [Prod.mk.injEq]
  refine ⟨by simp,?_⟩
  rcases f4 with h | h
  ·rw [decide_eq_true (show (t.length:Int)<(s.length:Int) by omega)]; rfl
  ·rw [decide_eq_true (show ((1:Nat):Int)<(s.length:Int) by omega),Bool.or_true]
end
def sd (c:TCyl) (l:List TStep):Nat→List (Int×Int)
 | 0=>[]
 | k + 1=>sd c l k++[En c l k,B c l (k + 1)]
def jb (c:TCyl) (l:List TStep):Nat→Bool
 | 0=>true
 | k + 1=>jb c l k && mt (En c l k) (B c l (k + 1))
theorem sd_len {c:TCyl} {l:List TStep}:∀ k,(sd c l k).length=2 * k
 | 0=>rfl
 | k + 1=>by rw [sd,List.length_append,sd_len k]; simp; omega
theorem sd_mem {c:TCyl} {l:List TStep} {r:Int×Int}:∀ n,r∈sd c l n↔∃ k,k<n∧(r=En c l k∨r=B c l (k + 1))
 | 0=>by simp [sd]
 | n + 1=>by
  rw [sd,List.mem_append,sd_mem n]
  constructor
  ·rintro (⟨k,h1,h2⟩ | h)
   ·exact ⟨k,by omega,h2⟩
   ·exact ⟨n,by omega,by simpa using h⟩
  ·rintro ⟨k,h1,h2⟩
   by_cases e:k=n
   ·subst e; exact .inr (by simpa using h2)
   ·exact .inl ⟨k,by omega,h2⟩
theorem jb_iff {c:TCyl} {l:List TStep}:∀ n,jb c l n=true↔∀ k,k<n→mt (En c l k) (B c l (k + 1))=true
 | 0=>by simp [jb]
 | n + 1=>by
  rw [jb,Bool.and_eq_true,jb_iff n]
  constructor
  ·rintro ⟨h1,h2⟩ k hk
   by_cases e:k=n
   ·subst e; exact h2
   ·exact h1 k (by omega)
  ·intro h; exact ⟨fun k hk=>h k (by omega),h n (by omega)⟩
section
variable {c:TCyl} {l:List TStep}
theorem side_ok (hv:VC (shut c)) (hl:Ord (shut c) l) {k:Nat} (hk:k<l.length):Sg.okR (B (shut c) l k)=true∧Sg.okR (En (shut c) l k)=true:=by
 have hs:=hl.steps _ (List.getElem_mem hk)
 have e1:B (shut c) l k=(bgn (shut c) l[k]).1:=by unfold B; rw [List.getElem?_eq_getElem hk]; rfl
 have e2:En (shut c) l k=(fin (shut c) l[k]).1:=by unfold En; rw [List.getElem?_eq_getElem hk]; rfl
 have a:=(okE_iff.1 (hs.ok hv).1).1
 have b:=(okE_iff.1 (hs.ok hv).2).1
 rw [e1,e2]
 exact ⟨Sg.okR_iff.2 ⟨a.1,a.2.1,by omega⟩,Sg.okR_iff.2 ⟨b.1,b.2.1,by omega⟩⟩
theorem fit_shut (hv:VC (shut c)) (hl:Ord (shut c) l) {k:Nat} {p q:TStep} (hp:l[k]?=some p) (hq:l[k + 1]?=some q):fit (shut c) p q=mt (En (shut c) l k) (B (shut c) l (k + 1)):=by
 have h1:=hl.steps _ (List.mem_of_getElem? hp)
 have h2:=hl.steps _ (List.mem_of_getElem? hq)
 have hw:shut c=wide (shut c):=rfl
 unfold En B
 rw [hp,hq,← near_mt]
 have:=fit_wide (c:=shut c) hv h1 h2 (ord_ne hl hp hq)
 exact this
theorem joins_jb (hv:VC (shut c)) (hl:Ord (shut c) l):joins (shut c) l=jb (shut c) l (l.length - 1):=by
 rw [Bool.eq_iff_iff,joins_iff,jb_iff]
 constructor
 ·intro h k hk
  have hp:l[k]?=some l[k]:=List.getElem?_eq_getElem (by omega)
  have hq:l[k + 1]?=some l[k + 1]:=List.getElem?_eq_getElem (by omega)
  rw [← fit_shut hv hl hp hq]; exact h k _ _ hp hq
 ·intro h k p q hp hq
  have:=(List.getElem?_eq_some_iff.1 hq).1
  rw [fit_shut hv hl hp hq]; exact h k (by omega)
theorem shared_l1 (hv:VC (shut c)) (hl:Ord (shut c) l):∀ (m k:Nat),k<l.length→l.length - 1 - k<m →
  top_TopSharedEnds_l1 FF c l m (sd (shut c) l k) (jb (shut c) l k) ((k:Int) + 1)=some (.inr (sd (shut c) l (l.length - 1),jb (shut c) l (l.length - 1)))
 | 0,k,_,h=>by omega
 | m + 1,k,hk,h=>by
  have h8:=hv.n8
  have hln:=hl.len
  have hF:1000000<FF:=by decide
  unfold top_TopSharedEnds_l1
  by_cases hlt:k + 1<l.length
  ·have hs:=hl.steps _ (List.getElem_mem hk)
   have hs1:=hl.steps _ (List.getElem_mem hlt)
   have e2:En (shut c) l k=(fin (shut c) l[k]).1:=by unfold En; rw [List.getElem?_eq_getElem hk]; rfl
   have e1:B (shut c) l (k + 1)=(bgn (shut c) l[k + 1]).1:=by unfold B; rw [List.getElem?_eq_getElem hlt]; rfl
   have ew:(c.1,(0:Int),(((-100000):Int),(100000:Int)))=shut c:=rfl
   have a:=(side_ok hv hl hk).2
   have b:=(side_ok hv hl hlt).1
   rw [if_pos (by simp; omega),show w64 ((k:Int) + 1 - 1)=((k:Nat):Int) by rw [w64_in (by omega)]; omega,show (k:Int) + 1=((k + 1:Nat):Int) by omega]
   simp only [ix_nat hk,ix_nat hlt,ew,Option.bind_eq_bind,Option.bind_some]
   rw [show top_ends03 (shut c) ((l[k]).1,(l[k]).2)=some ((bgn (shut c) l[k]).1,(fin (shut c) l[k]).1) from ends03_eq hs,show top_ends03 (shut c) ((l[k + 1]).1,(l[k + 1]).2)=some ((bgn (shut c) l[k + 1]).1,(fin (shut c) l[k + 1]).1) from ends03_eq hs1]
   simp only [Option.bind_some]
   rw [show join_Fits FF (shut c) ((l[k]).1,(l[k]).2) ((l[k + 1]).1,(l[k + 1]).2)=some (fit (shut c) l[k] l[k + 1],0) from fits_eq (by decide) hv hs hs1,fit_shut hv hl (List.getElem?_eq_getElem hk) (List.getElem?_eq_getElem hlt)]
   simp only [Option.bind_some]
   rw [← e1,← e2]
   have hsh:=share_eq hF a b
   rw [show scale_Share FF [((En (shut c) l k).1,(En (shut c) l k).2),((B (shut c) l (k + 1)).1,(B (shut c) l (k + 1)).2)] 0 1=_ from hsh]
   simp only [Option.bind_some]
   obtain ⟨G,hG,f1,-⟩:=Sg.fewest_eq hF (two_song a b) (by show (2:Nat)≤20; omega)
   rw [show scale_Fewest FF [((En (shut c) l k).1,(En (shut c) l k).2),((B (shut c) l (k + 1)).1,(B (shut c) l (k + 1)).2)]=some (G.map (·.1.2),0) from f1]
   simp only [Option.bind_some]
   have hg:(decide (((G.map (·.1.2)).length:Int)=1) == mt (En (shut c) l k) (B (shut c) l (k + 1)))=true:=by
    rw [beq_iff_eq,Bool.eq_iff_iff,decide_eq_true_eq,List.length_map,← two_short a b hG]; omega
   rw [hg]
   simp only [decide_true,Bool.not_true,Bool.or_false,Bool.false_eq_true,if_false]
   have hsd:=sd_len (c:=shut c) (l:=l) k
   rw [app_some (by simp; omega)]
   simp only [Option.bind_some]
   rw [show w64 (((k + 1:Nat):Int) + 1)=((k + 1:Nat):Int) + 1 by rw [w64_in (by omega)]]
   exact shared_l1 hv hl m (k + 1) hlt (by omega)
  ·rw [if_neg (by simp; omega)]
   have:k=l.length - 1:=by omega
   rw [this]
theorem topSharedEnds_true (c:TCyl) (bys:List (KI .u8)) (hb:∀ y∈bys,(Lit.int .u8 y.v).wf=true):top_TopSharedEnds FF c bys=some true:=by
 unfold top_TopSharedEnds
 have ex:(c.1,c.2.1,(c.2.2.1,c.2.2.2))=c:=rfl
 have ew:(c.1,(0:Int),(((-100000):Int),(100000:Int)))=shut c:=rfl
 have hF:1000000<FF:=by decide
 simp only [ex,ew,Option.bind_eq_bind]
 rcases cyl_cases c with ⟨e,hv⟩ | e
 ·rw [e]
  simp only [Option.bind_some,Bool.not_true,Bool.false_or]
  by_cases hc:decide (20<(bys.length:Int))=true
  ·rw [if_pos hc,works]; rfl
  ·rw [if_neg hc]
   simp only [decide_eq_true_eq] at hc
   have hv:=VC.shut hv
   obtain ⟨l,e1,hl⟩:=order_eq (F:=FF) (by decide) hv (fun y hy=>wf_u8' (hb y hy)) (by omega)
   have h8:=hv.n8
   have h1:=hv.n1
   have hln:=hl.len
   rw [e1]
   simp only [Option.bind_some]
   have hlp:=shared_l1 hv hl FF 0 (by omega) (by show _<100000000000000000; omega)
   rw [show top_TopSharedEnds_l1 FF c l FF [] true 1=some (.inr (sd (shut c) l (l.length - 1),jb (shut c) l (l.length - 1))) from hlp]
   simp only [Option.bind_some]
   rw [checkJoin_eq (by decide) hv hl,joins_jb hv hl]
   simp only [Option.bind_some]
   have hsd:=sd_len (c:=shut c) (l:=l) (l.length - 1)
   cases hj:jb (shut c) l (l.length - 1) with
   | false =>
    rw [if_neg (by decide)]
    simp only [Bool.not_false,Bool.true_or,if_true,works,Option.bind_some]
   | true =>
    rw [if_neg (by decide)]
    by_cases h0:decide (((sd (shut c) l (l.length - 1)).length:Int)=0)=true
    ·rw [if_pos (by rw [h0]; rfl),works]; rfl
    ·rw [if_neg (by rw [Bool.not_true,Bool.false_or]; exact h0)]
     simp only [decide_eq_true_eq] at h0
     have hok:∀ x∈sd (shut c) l (l.length - 1),Sg.okR x=true:=fun x hx=>by
      obtain ⟨k,hk,h2⟩:=(sd_mem _).1 hx
      rcases h2 with rfl | rfl
      ·exact (side_ok hv hl (by omega)).2
      ·exact (side_ok hv hl (by omega)).1
     have hs:Sg.csong (sd (shut c) l (l.length - 1))=0:=Sg.csong_ok.2 ⟨by omega,by omega,hok⟩
     obtain ⟨G,hG,f1,-⟩:=Sg.fewest_eq hF hs (by show _≤20; omega)
     have hle:=hG.le (q:=(List.range (l.length - 1)).map fun k=>max (En (shut c) l k).1 (B (shut c) l (k + 1)).1) (fun r hr=>by
      obtain ⟨k,hk,h2⟩:=(sd_mem _).1 hr
      have hm:=(jb_iff _).1 hj k hk
      have a:=Sg.okR_iff.1 (side_ok hv hl (show k<l.length by omega)).2
      have b:=Sg.okR_iff.1 (side_ok hv hl (show k + 1<l.length by omega)).1
      unfold mt at hm; simp at hm
      refine ⟨_,List.mem_map.2 ⟨k,List.mem_range.2 hk,rfl⟩,?_⟩
      rcases h2 with rfl | rfl <;> omega)
     rw [List.length_map,List.length_range] at hle
     rw [f1]
     simp only [Option.bind_some,List.length_map]
     rw [w64_in (n:=(l.length:Int) - 1) (by omega),decide_eq_true (show (G.length:Int)≤(l.length:Int) - 1 by omega)]
     simp only [decide_true,Bool.and_self,gd,cond_true]
     rw [Sg.rscale_eq hF,hG.scale hs]
     simp only [Option.bind_some,decide_true,Bool.and_self,cond_true]
     rw [works]; rfl
 ·rw [e]
  simp only [Option.bind_some,Bool.not_false,Bool.true_or,if_true,works]
end
end L3
end Go.Proofs.YtfmelbioccbdoaaGreat
end
section
namespace Go.Proofs.YtfmelbioccbdoaaGreat
namespace TopSharedEndsP
open Go
theorem band {a b:Bool} (h:a=true) (k:b=true):(a && b)=true:=by rw [h,k]; rfl
theorem jf0:(Rows.topSharedEndsRow.wf (OpenSpec.ofChange Rows.topSharedEndsSpec))=true:=by kernel_rfl
theorem jf1:(laidOutB Tryz.pinned.checked.prog)=true:=by kernel_rfl
theorem jf2:(mapsRowed Tryz.pinned.checked.prog)=true:=by kernel_rfl
theorem jf3:(Tryz.f5.params.all (Tryz.pinned.checked.prog.readableRec ·))=true:=by kernel_rfl
theorem jf4:(namedTie Tryz.pinned.checked.prog Rows.topSharedEndsRow.named Rows.topSharedEndsSpec.vars)=true:=by kernel_rfl
theorem jf5:((Rows.topSharedEndsRow.stops == []))=true:=by kernel_rfl
theorem jf6:((Tryz.pinned.checked.prog.stops == []))=true:=by kernel_rfl
theorem jf7:((Rows.topSharedEndsRow.knobs == []))=true:=by kernel_rfl
theorem jf8:((Tryz.pinned.checked.prog.stopKnobs == []))=true:=by kernel_rfl
theorem jf9:((Rows.topSharedEndsRow.inPlace == Tryz.pinned.checked.prog.inPlace (5:FuncId)))=true:=by kernel_rfl
theorem jf10:((Rows.topSharedEndsRow.unfollowed == Tryz.pinned.checked.prog.unfollowed (5:FuncId)))=true:=by kernel_rfl
theorem jf11:((Rows.topSharedEndsRow.recurses == Tryz.pinned.checked.prog.recurses (5:FuncId)))=true:=by kernel_rfl
theorem jf12:((Rows.topSharedEndsRow.named == Tryz.pinned.checked.prog.varsNamed (5:FuncId)))=true:=by kernel_rfl
theorem jf13:((Rows.topSharedEndsRow.maps == (Tryz.f5.params.toList++Rows.topSharedEndsSpec.plain.varTypes Tryz.pinned.checked.prog).any (Tryz.pinned.checked.prog.mapsRec ·)))=true:=by kernel_rfl
theorem jf14:((Rows.topSharedEndsRow.ifaces == (Tryz.f5.params.toList++Rows.topSharedEndsSpec.plain.varTypes Tryz.pinned.checked.prog).any (Tryz.pinned.checked.prog.ifacesRec ·)))=true:=by kernel_rfl
theorem jf15:((Rows.topSharedEndsRow.mapsOut == Tryz.pinned.checked.prog.mapsAmong Tryz.f5.resultTypes.toList))=true:=by kernel_rfl
theorem jf16:((Rows.topSharedEndsRow.loops == (Tryz.f5.params.toList++Rows.topSharedEndsSpec.plain.varTypes Tryz.pinned.checked.prog).any (Tryz.pinned.checked.prog.loopsFrom ·)))=true:=by kernel_rfl
theorem jf17:((Rows.topSharedEndsRow.wideKeys == (Tryz.f5.params.toList++Rows.topSharedEndsSpec.plain.varTypes Tryz.pinned.checked.prog++Tryz.f5.resultTypes.toList).any (Tryz.pinned.checked.prog.wideKeysFrom ·)))=true:=by kernel_rfl
theorem jf18:(Rows.topSharedEndsSpec.vars.all (Tryz.pinned.checked.prog.varReadable ·))=true:=by kernel_rfl
theorem jf19:(Tryz.f5.resultTypes.all (fun t=>Tryz.pinned.checked.prog.readableRec t && decide (t<Tryz.pinned.checked.prog.types.size)))=true:=by kernel_rfl
theorem jf20:((Rows.topSharedEndsRow.ifacesOut == Tryz.f5.resultTypes.toList.any (Tryz.pinned.checked.prog.ifacesRec ·)))=true:=by kernel_rfl
theorem jf21:((Rows.topSharedEndsRow.loopsOut == Tryz.f5.resultTypes.toList.any (Tryz.pinned.checked.prog.loopsFrom ·)))=true:=by kernel_rfl
theorem jf22:((Rows.topSharedEndsRow.plainKeys == Tryz.pinned.checked.prog.plainKeys))=true:=by kernel_rfl
theorem jf23:(Rows.topSharedEndsRow.shortTexts.isNone)=true:=by kernel_rfl
theorem jf24:(Tryz.pinned.checked.prog.stopsHeard)=true:=by kernel_rfl
theorem jf25:(Tryz.pinned.checked.prog.mayEnter)=true:=by kernel_rfl
theorem jf26:((Rows.topSharedEndsRow.lifted == Tryz.pinned.checked.prog.liftsFinal))=true:=by kernel_rfl
theorem jf27:((Tryz.pinned.checked.prog.make == some Rows.topSharedEndsRow.make))=true:=by kernel_rfl
theorem jf28:((Rows.topSharedEndsRow.kinds == (if Rows.topSharedEndsRow.domain.isEmpty then [] else Tryz.f5.params.toList.map fun t=>match Tryz.pinned.checked.prog.underlying t with | some (.int k)=>some k | _=>none)))=true:=by kernel_rfl
theorem jf29:((Rows.topSharedEndsRow.pinned == Rows.topSharedEndsRow.pinnedBy))=true:=by kernel_rfl
theorem jf30:((Rows.topSharedEndsRow.veiled == (Tryz.f5.params.toList++Rows.topSharedEndsSpec.plain.varTypes Tryz.pinned.checked.prog++Tryz.f5.resultTypes.toList).any (Tryz.pinned.checked.prog.veiledRec ·)))=true:=by kernel_rfl
theorem jf31:(Rows.topSharedEndsRow.veiledFits Tryz.pinned.checked.prog Tryz.f5.params.toList (Tryz.f5.params.toList++Rows.topSharedEndsSpec.plain.varTypes Tryz.pinned.checked.prog++Tryz.f5.resultTypes.toList))=true:=by kernel_rfl
theorem named:Tryz.pinned.checked.prog.funcNamed Rows.topSharedEndsRow.func=some 5:=by kernel_rfl
end TopSharedEndsP
end Go.Proofs.YtfmelbioccbdoaaGreat
end
