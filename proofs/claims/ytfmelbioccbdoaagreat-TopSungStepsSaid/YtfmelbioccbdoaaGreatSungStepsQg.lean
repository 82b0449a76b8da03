/-
  Part 7 of 7 of what the last text stands on: lemmas about the model, pure functions, walks, laws in plain Lean; each part's own head says its condition. Merged by a program of our own.
-/
import Derived.Test.YtfmelbioccbdoaaGreatSungStepsQf
import Derived.Test.YtfmelbioccbdoaaGreatRows
import Derived.JoinedOf
set_option maxHeartbeats 0
set_option linter.all false
section
namespace Go.Proofs.YtfmelbioccbdoaaGreat
open Go Go.Md Go.RowKit
open BF (Rl St Back rel pass NEV)
inductive PC (R:List RR) (a:Int):Int→Int→Prop
 | nil:PC R a a 0
 | snoc {u c:Int} {r:RR} (h:PC R a u c) (hr:r∈R) (hu:r.1=u):PC R a r.2.1 (c + r.2.2)
theorem PC.trans {R:List RR} {a b t c d:Int} (h:PC R a b c) (k:PC R b t d):PC R a t (c + d):=by
 induction k with
 | nil=>simpa using h
 | snoc _ hr hu ih=>rw [← Int.add_assoc]; exact .snoc ih hr hu
theorem PC.one {R:List RR} {r:RR} (hr:r∈R):PC R r.1 r.2.1 r.2.2:=by
 have:=PC.snoc (PC.nil (R:=R) (a:=r.1)) hr rfl
 simpa using this
theorem PC.pot {R:List RR} {p:Int→Int} (hp:∀ r∈R,p r.2.1≤p r.1 + r.2.2) {a t c:Int} (h:PC R a t c):p t≤p a + c:=by
 induction h with
 | nil=>omega
 | snoc _ hr hu ih =>
  have:=hp _ hr
  rw [hu] at this
  omega
theorem PC.node {x:Int×List RR} (h:csheet x=0) {a t c:Int} (a0:0≤a) (a1:a≤x.1) (hp:PC (whole x) a t c):0≤t∧t≤x.1:=by
 cases hp with
 | nil=>exact ⟨a0,a1⟩
 | snoc _ hr _=>exact ⟨(whole_ok h _ hr).2.2.1,(whole_ok h _ hr).2.2.2.1⟩
theorem turn_mem {x:Int×List RR} {t:Int} (t0:1≤t) (t1:t≤x.1):(0,t,100000)∈whole x∧(t,0,0)∈whole x:=by
 have h:∀ r,r=(0,t,(100000:Int))∨r=(t,0,0)→r∈whole x:=fun r hr=>by
  refine List.mem_append.2 (.inr (List.mem_flatMap.2 ⟨(t - 1).toNat,List.mem_range.2 (by omega),?_⟩))
  have:(((t - 1).toNat:Nat):Int) + 1=t:=by omega
  simp only [this,List.mem_cons,List.not_mem_nil,or_false]
  exact hr
 exact ⟨h _ (.inl rfl),h _ (.inr rfl)⟩
theorem PC.any {x:Int×List RR} {a t:Int} (a0:0≤a) (a1:a≤x.1) (t0:0≤t) (t1:t≤x.1):∃ c,PC (whole x) a t c∧c≤100000:=by
 have h1:∃ c,PC (whole x) a 0 c∧c≤0:=by
  by_cases h:a=0
  ·subst h; exact ⟨0,.nil,by omega⟩
  ·exact ⟨0,PC.one (r:=(a,0,0)) (turn_mem (by omega) a1).2,by omega⟩
 obtain ⟨c,h2,h3⟩:=h1
 by_cases h:t=0
 ·subst h; exact ⟨c,h2,by omega⟩
 ·exact ⟨c + 100000,h2.trans (PC.one (r:=(0,t,100000)) (turn_mem (by omega) t1).1),by omega⟩
theorem PC.low {x:Int×List RR} (h:csheet x=0) (hP:Pot x) {a t c:Int} (a0:0≤a) (a1:a≤x.1) (hp:PC (whole x) a t c):-100000≤c:=by
 obtain ⟨p,hpp⟩:=hP
 obtain ⟨t0,t1⟩:=hp.node h a0 a1
 obtain ⟨d,h1,h2⟩:=PC.any (x:=x) t0 t1 a0 a1
 have:=(hp.trans h1).pot hpp
 omega
theorem PC.loop {x:Int×List RR} (hP:Pot x) {a c:Int} (hp:PC (whole x) a a c):0≤c:=by
 obtain ⟨p,hpp⟩:=hP
 have:=hp.pot hpp
 omega
def Dist (x:Int×List RR) (a t d:Int):Prop:=PC (whole x) a t d∧∀ c,PC (whole x) a t c→d≤c
theorem Dist.uni {x:Int×List RR} {a t d e:Int} (h:Dist x a t d) (k:Dist x a t e):d=e:=by
 have:=h.2 e k.1
 have:=k.2 d h.1
 omega
structure Jv (x:Int×List RR) (a:Int) (s:St):Prop where
 j1:∀ v,s.f v=NEV∨PC (whole x) a v (s.f v)
 j2:∀ v q,s.b v=some q→q∈Rs x∧q.2.2.1=v∧s.f q.2.1 + q.2.2.2≤s.f v∧s.f q.2.1≠NEV
 j3:∀ v c n,Back s.b v v c n→c<0
 j4:∀ v,v≠a→s.f v≠NEV→s.b v≠none
 j5:s.f a≤0
 j6:∀ v,s.f v≤NEV
theorem Jv.bd {x:Int×List RR} (h:csheet x=0) (hP:Pot x) {a:Int} (a0:0≤a) (a1:a≤x.1) {s:St} (hj:Jv x a s):Bd 100000 s:=by
 intro v
 rcases hj.j1 v with h1 | h1
 ·rw [h1]; unfold NEV; omega
 ·exact ⟨h1.low h hP a0 a1,hj.j6 v⟩
theorem Jv.rel {x:Int×List RR} (h:csheet x=0) {a:Int} {s:St} {K:Nat} {p:Rl} (hp:p∈Rs x) (hj:Jv x a s):Jv x a (BF.rel K s p):=by
 unfold BF.rel
 by_cases hc:BF.cnd s.f p
 ·rw [if_pos hc]
  have hne:=Rs_ne h p hp
  obtain ⟨c1,c2⟩:=hc
  have hpc:PC (whole x) a p.2.2.1 (s.f p.2.1 + p.2.2.2):=by
   rcases hj.j1 p.2.1 with h1 | h1
   ·exact (c1 h1).elim
   ·exact .snoc h1 (en_mem hp).1 rfl
  have hmono:∀ v,BF.up s.f p.2.2.1 (s.f p.2.1 + p.2.2.2) v≤s.f v:=fun v=>by
   by_cases hv:v=p.2.2.1
   ·subst hv; rw [BF.up_same]; omega
   ·rw [BF.up_ne hv]; exact Int.le_refl _
  refine ⟨fun v=>?_,fun v q hq=>?_,fun v c n hb=>?_,fun v hv hf=>?_,?_,fun v=>?_⟩
  ·dsimp only
   by_cases hv:v=p.2.2.1
   ·subst hv; rw [BF.up_same]; exact .inr hpc
   ·rw [BF.up_ne hv]; exact hj.j1 v
  ·dsimp only at hq ⊢
   by_cases hv:v=p.2.2.1
   ·subst hv
    rw [BF.up_same] at hq
    cases hq
    rw [BF.up_same,BF.up_ne hne]
    exact ⟨hp,rfl,Int.le_refl _,c1⟩
   ·rw [BF.up_ne hv] at hq
    obtain ⟨h1,h2,h3,h4⟩:=hj.j2 v q hq
    rw [BF.up_ne hv]
    refine ⟨h1,h2,by have:=hmono q.2.1; omega,?_⟩
    by_cases hu:q.2.1=p.2.2.1
    ·rw [hu,BF.up_same]
     have:=hj.j6 p.2.2.1
     omega
    ·rw [BF.up_ne hu]; exact h4
  ·dsimp only at hb
   rcases BF.cyc (fun v q hq=>(hj.j2 v q hq).2.2.1) hne ⟨c1,c2⟩ hb with h1 | ⟨_,h2,h3⟩
   ·omega
   ·by_cases hv:v=p.2.2.1
    ·exact (h2 hv).elim
    ·exact hj.j3 v c n (h3 hv)
  ·dsimp only at hf ⊢
   by_cases hv2:v=p.2.2.1
   ·subst hv2; rw [BF.up_same]; simp
   ·rw [BF.up_ne hv2] at hf ⊢
    exact hj.j4 v hv hf
  ·have:=hmono a
   have:=hj.j5
   dsimp only
   omega
  ·have:=hmono v
   have:=hj.j6 v
   dsimp only
   omega
 ·rw [if_neg hc]
  exact hj
theorem Jv.fold {x:Int×List RR} (h:csheet x=0) {a:Int} {K:Nat}:∀ (R:List Rl) (s:St),(∀ p∈R,p∈Rs x)→Jv x a s→Jv x a (R.foldl (BF.rel K) s)
 | [],_,_,hj=>hj
 | p::R,s,hR,hj=>Jv.fold h R _ (fun q hq=>hR q (by simp [hq])) (hj.rel h (hR p (by simp)))
theorem pass_none {K:Nat}:∀ (R:List Rl) (s:St),(∀ p∈R,¬ BF.cnd s.f p)→R.foldl (BF.rel K) s=s
 | [],_,_=>rfl
 | p::R,s,h=>by
  simp only [List.foldl_cons]
  have e:BF.rel K s p=s:=by unfold BF.rel; rw [if_neg (h p (by simp))]
  rw [e]
  exact pass_none R s fun q hq=>h q (by simp [hq])
def mu (f:Int→Int):Nat→Nat
 | 0=>0
 | n + 1=>mu f n + (f (n:Int) + 100000).toNat
theorem mu_le {f g:Int→Int} (h:∀ v,f v≤g v):∀ n,mu f n≤mu g n
 | 0=>Nat.le_refl _
 | n + 1=>by
  have:=mu_le h n
  have:=h n
  unfold mu
  omega
theorem mu_lt {f g:Int→Int} (h:∀ v,f v≤g v) (hb:∀ v,-100000≤f v):∀ (n:Nat) (t:Int),0≤t→t<(n:Int)→f t<g t→mu f n<mu g n
 | 0,t,t0,t1,_=>by omega
 | n + 1,t,t0,t1,hlt=>by
  have h1:=mu_le h n
  have h2:=h n
  unfold mu
  by_cases e:t=(n:Int)
  ·subst e
   have:=hb (n:Int)
   omega
  ·have:=mu_lt h hb n t t0 (by omega) hlt
   omega
theorem mu_top {f:Int→Int} (h:∀ v,f v≤NEV):∀ n,mu f n≤n * 1125899906942624
 | 0=>Nat.le_refl _
 | n + 1=>by
  have:=mu_top h n
  have:=h n
  unfold mu
  unfold NEV at this
  omega
structure FinS (x:Int×List RR) (a:Int) (X:Ar 21 Int) (l:List (Int×Int)) (s:St):Prop where
 rep:Rep X l s
 jv:Jv x a s
 fix:∀ p∈Rs x,¬ BF.cnd s.f p
theorem find_l2 {x:Int×List RR} (h:csheet x=0) (hP:Pot x) {a:Int} (a0:0≤a) (a1:a≤x.1):∀ (m:Nat) (X:Ar 21 Int) (l:List (Int×Int)) (s:St),Rep X l s→Jv x a s→mu s.f 21<m →
  ∃ X' l' s',speed_net_find_l2 (whole x) m X l=some (X',l')∧FinS x a X' l' s'
 | 0,_,_,_,_,_,hm=>by omega
 | m + 1,X,l,s,hr,hj,hm=>by
  have hb:=hj.bd h hP a0 a1
  obtain ⟨X',l',b,e,r1,_,hc⟩:=step_rep (K:=1) h hr hb (by omega) (by omega)
  have hj':Jv x a (pass (Rs x) 1 s):=Jv.fold h (Rs x) s (fun p hp=>hp) hj
  unfold speed_net_find_l2
  rw [e]
  simp only [Option.bind_eq_bind,Option.bind_some]
  cases hbb:b with
  | false =>
   have hf:=pass_fix (Rs x) s (fun p hp=>by
    have:=Rs_ok h p hp
    obtain ⟨_,_,h3,_⟩:=csheet_ok h
    exact ⟨this.2.2.1,by have:=this.2.2.2.1; omega⟩) (hc.1 hbb)
   have hs:pass (Rs x) 1 s=s:=pass_none _ _ hf
   rw [hs] at r1
   exact ⟨X',l',s,by simp,r1,hj,hf⟩
  | true =>
   rw [if_pos rfl]
   refine find_l2 h hP a0 a1 m X' l' _ r1 hj' ?_
   have hle:∀ v,(pass (Rs x) 1 s).f v≤s.f v:=fun v=>(BF.pass_le (K:=1) (Rs x) s).1
   have hb':=hj'.bd h hP a0 a1
   have:∃ t:Int,0≤t∧t<((21:Nat):Int)∧(pass (Rs x) 1 s).f t<s.f t:=by
    apply Classical.byContradiction
    intro hno
    have:b=false:=hc.2 fun t t0 t1=>by
     have:=hle t
     have h2:¬ (pass (Rs x) 1 s).f t<s.f t:=fun hlt=>hno ⟨t,t0,by omega,hlt⟩
     omega
    rw [hbb] at this
    cases this
   obtain ⟨t,t0,t1,ht⟩:=this
   have:=mu_lt hle (fun v=>(hb' v).1) 21 t t0 t1 ht
   omega
theorem find_l1 {F:Nat}:∀ (m k:Nat) (X:Ar 21 Int),k≤21→21 - k<m→(∀ t:Int,0≤t→t<(k:Int)→gA X t=NEV)→∃ X',speed_net_find_l1 F m (k:Int) X=some X'∧∀ t,0≤t→t≤20→gA X' t=NEV
 | 0,k,_,_,hm,_=>by omega
 | m + 1,k,X,hk,hm,hX=>by
  unfold speed_net_find_l1
  by_cases hlt:k<21
  ·rw [if_pos (by simp; omega),ixA (X:=X) (by omega) (by omega)]
   simp only [Option.bind_eq_bind,Option.bind_some]
   rw [w64_succ (by omega)]
   refine find_l1 m (k + 1) _ (by omega) (by omega) fun t t0 t1=>?_
   rw [gA_set (by omega) (by omega) t0 (by omega)]
   split
   ·rfl
   ·exact hX t t0 (by omega)
  ·rw [if_neg (by simp; omega)]
   exact ⟨X,rfl,fun t t0 t1=>hX t t0 (by omega)⟩
theorem find_eq {x:Int×List RR} (h:csheet x=0) (hP:Pot x) {a:Int} (a0:0≤a) (a1:a≤x.1) {F:Nat} (hF:100000000000000000≤F) :
  ∃ X l s,speed_net_find F ((x.1,x.2),whole x) a=some (X,l)∧FinS x a X l s:=by
 obtain ⟨_,_,h3,_⟩:=csheet_ok h
 obtain ⟨Z,e1,hZ⟩:=find_l1 (F:=F) F 0 (Ar.fill 21 0:Ar 21 Int) (by omega) (by omega) (fun t t0 t1=>by omega)
 rw [show ((0:Nat):Int)=0 from rfl] at e1
 unfold speed_net_find
 rw [e1]
 simp only [Option.bind_eq_bind,Option.bind_some]
 rw [ixA (X:=Z) a0 (by omega)]
 simp only [Option.bind_some]
 have hr:Rep (aset Z a 0) [] ⟨fun t=>if t=a then 0 else NEV,fun _=>none,fun _=>0⟩:=by
  refine ⟨fun t t0 t1=>?_,fun t p hp=>by simp at hp⟩
  rw [gA_set a0 (by omega) t0 t1,hZ t t0 t1]
 have hj:Jv x a ⟨fun t=>if t=a then 0 else NEV,fun _=>none,fun _=>0⟩:=by
  refine ⟨fun v=>?_,fun v q hq=>by simp at hq,fun v c n hb=>?_,fun v hv hf=>?_,by simp,fun v=>?_⟩
  ·dsimp only
   by_cases hv:v=a
   ·subst hv; rw [if_pos rfl]; exact .inr .nil
   ·rw [if_neg hv]; exact .inl rfl
  ·obtain ⟨p,hp⟩:=hb.start
   simp at hp
  ·dsimp only at hf
   rw [if_neg hv] at hf
   exact (hf rfl).elim
  ·dsimp only
   split
   ·unfold NEV; omega
   ·exact Int.le_refl _
 obtain ⟨X',l',s',e2,hf⟩:=find_l2 h hP a0 a1 F _ _ _ hr hj (by
  have:=mu_top hj.j6 21
  omega)
 exact ⟨X',l',s',e2,hf⟩
theorem FinS.le {x:Int×List RR} (h:csheet x=0) {a:Int} {X:Ar 21 Int} {l:List (Int×Int)} {s:St} (hf:FinS x a X l s) (a0:0≤a) (a1:a≤x.1) {t c:Int} (hp:PC (whole x) a t c):s.f t≤c∧s.f t<NEV:=by
 have key:∀ {u c:Int},PC (whole x) a u c→s.f u<NEV→∀ r∈whole x,r.1=u→s.f r.2.1≤s.f u + r.2.2:=by
  intro u c _ hlt r hr hu
  obtain ⟨i,hi,e⟩:=List.getElem_of_mem hr
  have hm:((i:Int),r)∈Rs x:=by
   have:(en (whole x))[i]?=some ((i:Int),r):=by rw [en_get,List.getElem?_eq_getElem hi,e]; rfl
   exact List.mem_of_getElem? this
  have:=hf.fix _ hm
  unfold BF.cnd at this
  simp only [not_and,Int.not_lt] at this
  rw [← hu] at hlt ⊢
  exact this (by omega)
 have h5:=hf.jv.j5
 have fin0:s.f 0≤0:=by
  by_cases e:a=0
  ·rw [e] at h5; exact h5
  ·have:=key (PC.nil) (by unfold NEV; omega) (a,0,0) (turn_mem (by omega) a1).2 rfl
   simp only at this
   omega
 have fin:∀ u,0≤u→u≤x.1→s.f u<NEV:=fun u u0 u1=>by
  by_cases e:u=0
  ·subst e; unfold NEV; omega
  ·obtain ⟨c0,hc0,_⟩:=PC.any (x:=x) (a:=a) (t:=0) a0 a1 (by omega) (by omega)
   have:=key hc0 (by unfold NEV; omega) (0,u,100000) (turn_mem (by omega) u1).1 rfl
   simp only at this
   unfold NEV
   omega
 have hn:=hp.node h a0 a1
 refine ⟨?_,fin t hn.1 hn.2⟩
 clear hn
 induction hp with
 | nil=>exact h5
 | @snoc u c r hpu hr hu ih =>
  have hnu:=hpu.node h a0 a1
  have:=key hpu (fin u hnu.1 hnu.2) r hr hu
  omega
theorem FinS.dist {x:Int×List RR} (h:csheet x=0) {a:Int} {X:Ar 21 Int} {l:List (Int×Int)} {s:St} (hf:FinS x a X l s) (a0:0≤a) (a1:a≤x.1) {t:Int} (t0:0≤t) (t1:t≤x.1):Dist x a t (gA X t)∧gA X t=s.f t:=by
 obtain ⟨_,_,h3,_⟩:=csheet_ok h
 obtain ⟨c,hc,_⟩:=PC.any (x:=x) a0 a1 t0 t1
 have h1:=hf.le h a0 a1 hc
 have e:=hf.rep.f t t0 (by omega)
 rw [e]
 refine ⟨⟨?_,fun c hc=>(hf.le h a0 a1 hc).1⟩,rfl⟩
 rcases hf.jv.j1 t with h2 | h2
 ·rw [h2] at h1; omega
 ·exact h2
end Go.Proofs.YtfmelbioccbdoaaGreat
end
section
namespace Go.Proofs.YtfmelbioccbdoaaGreat
open Go Go.Md Go.RowKit
open BF (Rl St Back rel pass NEV)
open Classical in
noncomputable def D (x:Int×List RR) (a t:Int):Int:=if h:∃ d,Dist x a t d then Classical.choose h else 0
section
variable {x:Int×List RR} {a t u:Int} {F:Nat}
theorem D_of {d:Int} (h:Dist x a t d):D x a t=d:=by
 unfold D
 have he:∃ d,Dist x a t d:=⟨d,h⟩
 rw [dif_pos he]
 exact (Classical.choose_spec he).uni h
theorem find_D (h:csheet x=0) (hP:Pot x) (a0:0≤a) (a1:a≤x.1) (hF:100000000000000000≤F) :
  ∃ X l s,speed_net_find F ((x.1,x.2),whole x) a=some (X,l)∧FinS x a X l s∧∀ t,0≤t→t≤x.1→gA X t=D x a t∧ix X.l t=some (D x a t):=by
 obtain ⟨_,_,h3,_⟩:=csheet_ok h
 obtain ⟨X,l,s,e,hf⟩:=find_eq h hP a0 a1 hF
 refine ⟨X,l,s,e,hf,fun t t0 t1=>?_⟩
 have:=D_of (hf.dist h a0 a1 t0 t1).1
 exact ⟨this.symm,by rw [ixA (X:=X) t0 (by omega),this]⟩
theorem D_dist (h:csheet x=0) (hP:Pot x) (a0:0≤a) (a1:a≤x.1) (t0:0≤t) (t1:t≤x.1):Dist x a t (D x a t):=by
 obtain ⟨X,l,s,e,hf,hD⟩:=find_D (F:=100000000000000000) h hP a0 a1 (Nat.le_refl _)
 rw [← (hD t t0 t1).1]
 exact (hf.dist h a0 a1 t0 t1).1
theorem D_bd (h:csheet x=0) (hP:Pot x) (a0:0≤a) (a1:a≤x.1) (t0:0≤t) (t1:t≤x.1):-100000≤D x a t∧D x a t≤100000:=by
 obtain ⟨h1,h2⟩:=D_dist h hP a0 a1 t0 t1
 refine ⟨h1.low h hP a0 a1,?_⟩
 obtain ⟨c,hc,hc2⟩:=PC.any (x:=x) a0 a1 t0 t1
 have:=h2 c hc
 omega
theorem D_tri (h:csheet x=0) (hP:Pot x) (a0:0≤a) (a1:a≤x.1) (t0:0≤t) (t1:t≤x.1) (u0:0≤u) (u1:u≤x.1):D x a u≤D x a t + D x t u :=
 (D_dist h hP a0 a1 u0 u1).2 _ ((D_dist h hP a0 a1 t0 t1).1.trans (D_dist h hP t0 t1 u0 u1).1)
theorem D_rule (h:csheet x=0) (hP:Pot x) (a0:0≤a) (a1:a≤x.1) {r:RR} (hr:r∈whole x):D x a r.2.1≤D x a r.1 + r.2.2:=by
 have hok:=whole_ok h r hr
 exact (D_dist h hP a0 a1 hok.2.2.1 hok.2.2.2.1).2 _ (.snoc (D_dist h hP a0 a1 hok.1 hok.2.1).1 hr rfl)
theorem D_rule' (h:csheet x=0) (hP:Pot x) (a0:0≤a) (a1:a≤x.1) {r:RR} (hr:r∈whole x):D x r.1 a≤r.2.2 + D x r.2.1 a:=by
 have hok:=whole_ok h r hr
 exact (D_dist h hP hok.1 hok.2.1 a0 a1).2 _ ((PC.one hr).trans (D_dist h hP hok.2.2.1 hok.2.2.2.1 a0 a1).1)
theorem D_self (h:csheet x=0) (hP:Pot x) (a0:0≤a) (a1:a≤x.1):D x a a=0:=by
 obtain ⟨h1,h2⟩:=D_dist h hP a0 a1 a0 a1
 have:=h2 0 .nil
 have:=h1.loop hP
 omega
theorem open_eq (h:csheet x=0) (hF:1000≤F):(Pot x→speed_open F x=some (⟨some ((x.1,x.2),whole x)⟩,0))∧(¬ Pot x→speed_open F x=some (⟨none⟩,21)):=by
 obtain ⟨h1,h2,h3,_⟩:=csheet_ok h
 unfold speed_open
 simp only [checkSheet_eq (x:=(x.1,x.2)) (show 100<F by omega),Option.bind_eq_bind,Option.bind_some]
 have e:csheet (x.1,x.2)=csheet x:=rfl
 rw [e,if_neg (by simp [h]),newNet_eq (x:=(x.1,x.2)) (by omega) (by simp; omega) h3 h1]
 have ew:whole (x.1,x.2)=whole x:=rfl
 rw [ew]
 simp only [Option.bind_some]
 rcases circle_eq h (F:=F) (by omega) with ⟨e1,hp⟩ | ⟨hn,e0,a,e1,hc⟩
 ·rw [e1]
  simp only [Option.bind_some]
  exact ⟨fun _=>by rw [if_neg (by simp)],fun h=>(h hp).elim⟩
 ·rw [e1]
  simp only [Option.bind_some]
  refine ⟨fun h=>(hn h).elim,fun _=>?_⟩
  rw [if_pos]
  cases a with
  | nil=>have:=hc.hd; simp at this
  | cons p a=>simp
noncomputable def endS (x:Int×List RR) (high:Bool) (k:Nat):Int:=if high=true then D x 0 ((k:Int) + 1) else -D x ((k:Int) + 1) 0
noncomputable def endsL (x:Int×List RR) (high:Bool):List Int:=(List.range x.1.toNat).map (endS x high)
theorem endsL_len {high:Bool}:(endsL x high).length=x.1.toNat:=by simp [endsL]
theorem ofS_ends {high:Bool} (h:csheet x=0) (hP:Pot x) (t0:0≤t) (t1:t≤x.1):ofS (endsL x high) t=if high=true then D x 0 t else -D x t 0:=by
 obtain ⟨h1,h2,h3,_⟩:=csheet_ok h
 unfold ofS
 by_cases e:t=0
 ·subst e
  rw [if_pos rfl,D_self h hP (by omega) (by omega)]
  cases high <;> rfl
 ·rw [if_neg e]
  have e2:t - 1=((t - 1).toNat:Int):=by omega
  have hl:(t - 1).toNat<(endsL x high).length:=by rw [endsL_len]; omega
  rw [e2,ix_nat hl]
  have e3:(((t - 1).toNat:Nat):Int) + 1=t:=by omega
  simp only [endsL,List.getElem_map,List.getElem_range,endS,e3,Option.getD_some]
theorem ends_true (h:csheet x=0) (hP:Pot x) (high:Bool):cspeeds x (endsL x high)=0:=by
 obtain ⟨h1,h2,h3,_⟩:=csheet_ok h
 have hl:((endsL x high).length:Int)=x.1:=by rw [endsL_len]; omega
 rw [cs3 h hl,if_pos,if_pos]
 ·refine List.all_eq_true.2 fun r hr=>?_
  have hw:r∈whole x:=List.mem_append.2 (.inl hr)
  have hok:=whole_ok h r hw
  unfold keepsS
  rw [ofS_ends h hP hok.2.2.1 hok.2.2.2.1,ofS_ends h hP hok.1 hok.2.1]
  have b1:=D_bd h hP (a:=0) (t:=r.1) (by omega) (by omega) hok.1 hok.2.1
  have b2:=D_bd h hP (a:=r.1) (t:=0) hok.1 hok.2.1 (by omega) (by omega)
  have r1:=D_rule h hP (a:=0) (by omega) (by omega) hw
  have r2:=D_rule' h hP (a:=0) (by omega) (by omega) hw
  obtain ⟨_,_,_,_,_,m1,m2⟩:=hok
  cases high with
  | true =>
   simp only [if_true]
   rw [w64_in (by omega)]
   simpa using r1
  | false =>
   simp only [Bool.false_eq_true,if_false]
   rw [w64_in (by omega)]
   simp only [decide_eq_true_eq]
   omega
 ·refine List.all_eq_true.2 fun v hv=>?_
  obtain ⟨k,hk,rfl⟩:=List.mem_map.1 hv
  have hk:=List.mem_range.1 hk
  have b1:=D_bd h hP (a:=0) (t:=(k:Int) + 1) (by omega) (by omega) (by omega) (by omega)
  have b2:=D_bd h hP (a:=(k:Int) + 1) (t:=0) (by omega) (by omega) (by omega) (by omega)
  have z:=turn_mem (x:=x) (t:=(k:Int) + 1) (by omega) (by omega)
  have t1:=(D_dist h hP (a:=(k:Int) + 1) (t:=0) (by omega) (by omega) (by omega) (by omega)).2 _ (PC.one z.2)
  have t2:0≤D x 0 ((k:Int) + 1):=by
   have:=((D_dist h hP (a:=0) (t:=(k:Int) + 1) (by omega) (by omega) (by omega) (by omega)).1.trans (PC.one z.2)).loop hP
   simp only at this
   omega
  simp only at t1
  unfold endS inR
  simp only [Bool.and_eq_true,decide_eq_true_eq]
  cases high with
  | true=>simp only [if_true]; omega
  | false=>simp only [Bool.false_eq_true,if_false]; omega
theorem true_pot {s:List Int} (hs:cspeeds x s=0):csheet x=0∧(s.length:Int)=x.1∧(∀ v∈s,0≤v∧v≤100000)∧∀ r∈whole x,ofS s r.2.1≤ofS s r.1 + r.2.2:=by
 by_cases h:csheet x=0
 ·obtain ⟨h1,h2,h3,h4⟩:=csheet_ok h
  by_cases h5:(s.length:Int)=x.1
  ·rw [cs3 h h5] at hs
   split at hs
   ·rename_i h6
    split at hs
    ·rename_i h7
     have hv:∀ v∈s,0≤v∧v≤100000:=fun v hv=>by
      have:=List.all_eq_true.1 h6 v hv
      simpa [inR] using this
     have ho:∀ t,0≤t→t≤x.1→0≤ofS s t∧ofS s t≤100000:=fun t t0 t1=>by
      unfold ofS
      by_cases e:t=0
      ·rw [if_pos e]; omega
      ·rw [if_neg e]
       have e2:t - 1=((t - 1).toNat:Int):=by omega
       have hl:(t - 1).toNat<s.length:=by omega
       rw [e2,ix_nat hl]
       exact hv _ (List.getElem_mem hl)
     refine ⟨h,h5,hv,fun r hr=>?_⟩
     have hok:=whole_ok h r hr
     rcases List.mem_append.1 hr with hr2 | hr2
     ·have:=List.all_eq_true.1 h7 r hr2
      unfold keepsS at this
      have b1:=ho r.1 hok.1 hok.2.1
      obtain ⟨_,_,_,_,_,m1,m2⟩:=hok
      rw [w64_in (by omega)] at this
      simpa using this
     ·obtain ⟨t,ht,hr2⟩:=List.mem_flatMap.1 hr2
      have ht:=List.mem_range.1 ht
      have b1:=ho ((t:Int) + 1) (by omega) (by omega)
      have z:ofS s 0=0:=rfl
      simp only [List.mem_cons,List.not_mem_nil,or_false] at hr2
      rcases hr2 with rfl | rfl
      ·simp only [z]; omega
      ·simp only [z]; omega
    ·cases hs
   ·cases hs
  ·rw [cs2 h h5] at hs; cases hs
 ·rw [cs1 h] at hs; exact (h hs).elim
end
end Go.Proofs.YtfmelbioccbdoaaGreat
end
section
namespace Go.Proofs.YtfmelbioccbdoaaGreat
open Go Go.Md Go.RowKit
abbrev FF:Nat:=100000000000000000
theorem worksF:law01_Works FF=some true:=by kernel_rfl
end Go.Proofs.YtfmelbioccbdoaaGreat
end
section
namespace Go.Proofs.YtfmelbioccbdoaaGreat
namespace FW
def NV:Int:=1099511627776
abbrev Mx:=Int→Int→Int
def mm (c s:Int):Int:=if (if s<c then s else c) > -NV then (if s<c then s else c) else -NV
def nw (g:Mx) (h i k:Int):Int:=if g i h<NV∧g h k<NV then mm (g i k) (g i h + g h k) else g i k
def up1 (h i k:Int) (g:Mx):Mx:=fun i' k'=>if i'=i∧k'=k then nw g h i k else g i' k'
def rowF (h i:Int) (ks:List Int) (g:Mx):Mx:=ks.foldl (fun g k=>up1 h i k g) g
def phF (h:Int) (ns is:List Int) (g:Mx):Mx:=is.foldl (fun g i=>rowF h i ns g) g
def fwF (ns hs:List Int) (g:Mx):Mx:=hs.foldl (fun g h=>phF h ns ns g) g
def Rg (g:Mx):Prop:=∀ i k,-NV≤g i k∧g i k≤NV
theorem mm_bd {c s:Int} (hc:-NV≤c∧c≤NV):-NV≤mm c s∧mm c s≤c:=by
 unfold mm
 split <;> split <;> omega
theorem nw_bd {g:Mx} (hg:Rg g) (h i k:Int):-NV≤nw g h i k∧nw g h i k≤g i k:=by
 unfold nw
 split
 ·exact mm_bd (hg i k)
 ·exact ⟨(hg i k).1,Int.le_refl _⟩
theorem up1_le {g:Mx} (hg:Rg g) (h i k:Int):Rg (up1 h i k g)∧∀ a b,up1 h i k g a b≤g a b:=by
 have h1:=nw_bd hg h i k
 refine ⟨fun a b=>?_,fun a b=>?_⟩
 ·unfold up1
  split
  ·have:=(hg i k).2; omega
  ·exact hg a b
 ·unfold up1
  split
  ·rename_i e; rw [e.1,e.2]; exact h1.2
  ·exact Int.le_refl _
theorem fold_le {β:Type} {step:Mx→β→Mx} (hs:∀ g b,Rg g→Rg (step g b)∧∀ i k,step g b i k≤g i k):∀ (l:List β) (g:Mx),Rg g→Rg (l.foldl step g)∧∀ i k,l.foldl step g i k≤g i k
 | [],g,hg=>⟨hg,fun _ _=>Int.le_refl _⟩
 | b::l,g,hg=>by
  obtain ⟨h1,h2⟩:=hs g b hg
  obtain ⟨h3,h4⟩:=fold_le hs l (step g b) h1
  exact ⟨h3,fun i k=>Int.le_trans (h4 i k) (h2 i k)⟩
theorem rowF_le {h i:Int} (ks:List Int) {g:Mx} (hg:Rg g):Rg (rowF h i ks g)∧∀ a b,rowF h i ks g a b≤g a b:=fold_le (fun _ k hg=>up1_le hg h i k) ks g hg
theorem phF_le {h:Int} (ns is:List Int) {g:Mx} (hg:Rg g):Rg (phF h ns is g)∧∀ a b,phF h ns is g a b≤g a b:=fold_le (fun _ _ hg=>rowF_le ns hg) is g hg
theorem fwF_le (ns hs:List Int) {g:Mx} (hg:Rg g):Rg (fwF ns hs g)∧∀ a b,fwF ns hs g a b≤g a b:=fold_le (fun _ _ hg=>phF_le ns ns hg) hs g hg
section
variable {g:Mx} {h:Int}
theorem nw_col (hg:Rg g) (h0:g h h=0) (i:Int):nw g h i h=g i h:=by
 unfold nw mm
 have:=hg i h
 rw [h0]
 split
 ·split <;> split <;> omega
 ·rfl
theorem nw_row (hg:Rg g) (h0:g h h=0) (k:Int):nw g h h k=g h k:=by
 unfold nw mm
 have:=hg h k
 rw [h0]
 split
 ·split <;> split <;> omega
 ·rfl
def Part (g:Mx) (h:Int) (P:Int→Int→Prop) (g':Mx):Prop:=∀ i k,(P i k→g' i k=nw g h i k)∧(¬ P i k→g' i k=g i k)
theorem Part.fix (hg:Rg g) (h0:g h h=0) {P:Int→Int→Prop} {g':Mx} (hp:Part g h P g'):(∀ i,g' i h=g i h)∧∀ k,g' h k=g h k:=by
 refine ⟨fun i=>?_,fun k=>?_⟩
 ·by_cases hc:P i h
  ·rw [(hp i h).1 hc,nw_col hg h0]
  ·exact (hp i h).2 hc
 ·by_cases hc:P h k
  ·rw [(hp h k).1 hc,nw_row hg h0]
  ·exact (hp h k).2 hc
theorem Part.up1 (hg:Rg g) (h0:g h h=0) {P:Int→Int→Prop} {g':Mx} (hp:Part g h P g') {i k:Int} (hn:¬ P i k):Part g h (fun a b=>P a b∨(a=i∧b=k)) (up1 h i k g'):=by
 obtain ⟨h1,h2⟩:=hp.fix hg h0
 have e:nw g' h i k=nw g h i k:=by
  unfold nw
  rw [h1 i,h2 k,(hp i k).2 hn]
 intro a b
 unfold FW.up1
 by_cases hab:a=i∧b=k
 ·rw [if_pos hab]
  refine ⟨fun _=>by rw [e,hab.1,hab.2],fun hno=>(hno (.inr hab)).elim⟩
 ·rw [if_neg hab]
  refine ⟨fun hc=>?_,fun hc=>(hp a b).2 fun hc2=>hc (.inl hc2)⟩
  rcases hc with hc | hc
  ·exact (hp a b).1 hc
  ·exact (hab hc).elim
theorem Part.row (hg:Rg g) (h0:g h h=0) {i:Int}:∀ (ks:List Int) (P:Int→Int→Prop) (g':Mx),ks.Nodup→(∀ k∈ks,¬ P i k)→Part g h P g'→Part g h (fun a b=>P a b∨(a=i∧b∈ks)) (rowF h i ks g')
 | [],P,g',_,_,hp=>by simpa [rowF] using hp
 | k::ks,P,g',hn,hk,hp=>by
  simp only [List.nodup_cons] at hn
  have h1:=hp.up1 hg h0 (hk k (by simp))
  have h2:=Part.row hg h0 ks _ _ hn.2 (fun q hq hc=>by
   rcases hc with hc | ⟨_,hc⟩
   ·exact hk q (by simp [hq]) hc
   ·exact hn.1 (hc ▸ hq)) h1
  have e:(fun a b=>(P a b∨(a=i∧b=k))∨(a=i∧b∈ks))=fun a b=>P a b∨(a=i∧b∈k::ks):=by
   funext a b
   simp only [List.mem_cons,eq_iff_iff]
   constructor
   ·rintro ((h | ⟨h1,h2⟩) | ⟨h1,h2⟩)
    ·exact .inl h
    ·exact .inr ⟨h1,.inl h2⟩
    ·exact .inr ⟨h1,.inr h2⟩
   ·rintro (h | ⟨h1,h2 | h2⟩)
    ·exact .inl (.inl h)
    ·exact .inl (.inr ⟨h1,h2⟩)
    ·exact .inr ⟨h1,h2⟩
  rw [e] at h2
  exact h2
theorem Part.rows (hg:Rg g) (h0:g h h=0) {ns:List Int} (hns:ns.Nodup):∀ (is:List Int) (P:Int→Int→Prop) (g':Mx),is.Nodup→(∀ i∈is,∀ k,¬ P i k)→Part g h P g'→Part g h (fun a b=>P a b∨(a∈is∧b∈ns)) (phF h ns is g')
 | [],P,g',_,_,hp=>by simpa [phF] using hp
 | i::is,P,g',hn,hi,hp=>by
  simp only [List.nodup_cons] at hn
  have h1:=Part.row hg h0 (i:=i) ns P g' hns (fun k _=>hi i (by simp) k) hp
  have h2:=Part.rows hg h0 hns is _ _ hn.2 (fun j hj k hc=>by
   rcases hc with hc | ⟨hc,_⟩
   ·exact hi j (by simp [hj]) k hc
   ·exact hn.1 (hc ▸ hj)) h1
  have e:(fun a b=>(P a b∨(a=i∧b∈ns))∨(a∈is∧b∈ns))=fun a b=>P a b∨(a∈i::is∧b∈ns):=by
   funext a b
   simp only [List.mem_cons,eq_iff_iff]
   constructor
   ·rintro ((h | ⟨h1,h2⟩) | ⟨h1,h2⟩)
    ·exact .inl h
    ·exact .inr ⟨.inl h1,h2⟩
    ·exact .inr ⟨.inr h1,h2⟩
   ·rintro (h | ⟨h1 | h1,h2⟩)
    ·exact .inl (.inl h)
    ·exact .inl (.inr ⟨h1,h2⟩)
    ·exact .inr ⟨h1,h2⟩
  rw [e] at h2
  exact h2
theorem ph_eq (hg:Rg g) (h0:g h h=0) {ns:List Int} (hns:ns.Nodup) {i k:Int} (hi:i∈ns) (hk:k∈ns):phF h ns ns g i k=nw g h i k :=
 ((Part.rows hg h0 hns ns (fun _ _=>False) g hns (by simp) (fun i k=>⟨fun h=>h.elim,fun _=>rfl⟩)) i k).1 (.inr ⟨hi,hk⟩)
end
inductive PI (R:List RR) (m a:Int):Int→Int→Prop
 | one {r:RR} (hr:r∈R) (ha:r.1=a):PI R m a r.2.1 r.2.2
 | snoc {u c:Int} {r:RR} (h:PI R m a u c) (hu:u<m) (hr:r∈R) (he:r.1=u):PI R m a r.2.1 (c + r.2.2)
theorem PI.split {R:List RR} {m a:Int} (hloop:∀ c,PI R m m m c→0≤c) {t c:Int} (h:PI R (m + 1) a t c):PI R m a t c∨∃ c1 c2,PI R m a m c1∧PI R m m t c2∧c1 + c2≤c:=by
 induction h with
 | one hr ha=>exact .inl (.one hr ha)
 | @snoc u c r h hu hr he ih =>
  by_cases hum:u=m
  ·subst hum
   rcases ih with ih | ⟨c1,c2,h1,h2,h3⟩
   ·exact .inr ⟨c,r.2.2,ih,.one hr he,Int.le_refl _⟩
   ·have:=hloop c2 h2
    exact .inr ⟨c1,r.2.2,h1,.one hr he,by omega⟩
  ·have hum:u<m:=by omega
   rcases ih with ih | ⟨c1,c2,h1,h2,h3⟩
   ·exact .inl (.snoc ih hum hr he)
   ·exact .inr ⟨c1,c2 + r.2.2,h1,.snoc h2 hum hr he,by omega⟩
theorem PI.of_pc {R:List RR} {n a t c:Int} (hn:∀ r∈R,r.2.1<n) (h:PC R a t c):(t=a∧c=0)∨PI R n a t c:=by
 induction h with
 | nil=>exact .inl ⟨rfl,rfl⟩
 | @snoc u c r h hr hu ih =>
  right
  rcases ih with ⟨rfl,rfl⟩ | ih
  ·rw [Int.zero_add]
   exact .one hr hu
  ·refine .snoc ih ?_ hr hu
   cases ih with
   | one hr' _=>exact hn _ hr'
   | snoc _ _ hr' _=>exact hn _ hr'
def In (n:Int) (i:Int):Prop:=0≤i∧i<n
structure Ok (R:List RR) (n m b:Int) (g:Mx):Prop where
 rg:Rg g
 dg:∀ i,In n i→g i i=0
 bd:∀ i k,In n i→In n k→g i k=NV∨(-b≤g i k∧g i k≤b)
 un:∀ a t c,In n a→In n t→PI R m a t c→g a t≤c∧g a t<NV
 so:∀ i k,In n i→In n k→g i k=NV∨PC R i k (g i k)
theorem Ok.ph {R:List RR} {n m b:Int} {g:Mx} {ns:List Int} (hns:ns.Nodup) (hm:∀ i,i∈ns↔In n i) (h:Ok R n m b g) (hmn:In n m) (hb:0≤b) (hb2:2 * b<NV) (hd:∀ i,In n i→0≤phF m ns ns g i i):Ok R n (m + 1) (2 * b) (phF m ns ns g):=by
 have h0:=h.dg m hmn
 have e:∀ i k,In n i→In n k→phF m ns ns g i k=nw g m i k:=fun i k hi hk=>ph_eq h.rg h0 hns ((hm i).2 hi) ((hm k).2 hk)
 obtain ⟨h1,h2⟩:=phF_le (h:=m) ns ns h.rg
 have hmin:∀ i k,In n i→In n k→(g i m<NV∧g m k<NV→(nw g m i k=g i k∨nw g m i k=g i m + g m k)∧nw g m i k≤g i k∧nw g m i k≤g i m + g m k):=fun i k hi hk hlt=>by
  have b1:=h.bd i m hi hmn
  have b2:=h.bd m k hmn hk
  have b3:=h.rg i k
  unfold nw mm
  rw [if_pos hlt]
  split <;> split <;> first | omega | (constructor <;> omega)
 refine ⟨h1,fun i hi=>?_,fun i k hi hk=>?_,fun a t c ha ht hp=>?_,fun i k hi hk=>?_⟩
 ·have:=h2 i i
  have:=hd i hi
  have:=h.dg i hi
  omega
 ·rw [e i k hi hk]
  have b0:=h.bd i k hi hk
  by_cases hlt:g i m<NV∧g m k<NV
  ·have b1:=h.bd i m hi hmn
   have b2:=h.bd m k hmn hk
   obtain ⟨q1,q2,q3⟩:=hmin i k hi hk hlt
   rcases q1 with q1 | q1 <;> omega
  ·unfold nw
   rw [if_neg hlt]
   omega
 ·rw [e a t ha ht]
  have key:PI R m a t c∨∃ c1 c2,PI R m a m c1∧PI R m m t c2∧c1 + c2≤c:=hp.split fun c hc=>by
   have:=(h.un m m c hmn hmn hc).1
   omega
  have hle:nw g m a t≤g a t:=(nw_bd h.rg m a t).2
  rcases key with k1 | ⟨c1,c2,k1,k2,k3⟩
  ·have:=h.un a t c ha ht k1
   omega
  ·have u1:=h.un a m c1 ha hmn k1
   have u2:=h.un m t c2 hmn ht k2
   have b1:=h.bd a m ha hmn
   have b2:=h.bd m t hmn ht
   obtain ⟨_,_,q3⟩:=hmin a t ha ht ⟨u1.2,u2.2⟩
   omega
 ·rw [e i k hi hk]
  by_cases hlt:g i m<NV∧g m k<NV
  ·obtain ⟨q1,_,_⟩:=hmin i k hi hk hlt
   rcases q1 with q1 | q1
   ·rw [q1]; exact h.so i k hi hk
   ·right
    rw [q1]
    have s1:PC R i m (g i m):=by
     rcases h.so i m hi hmn with s | s
     ·omega
     ·exact s
    have s2:PC R m k (g m k):=by
     rcases h.so m k hmn hk with s | s
     ·omega
     ·exact s
    exact s1.trans s2
  ·unfold nw
   rw [if_neg hlt]
   exact h.so i k hi hk
theorem Ok.go {R:List RR} {n:Int} {ns:List Int} (hns:ns.Nodup) (hm:∀ i,i∈ns↔In n i) (hn:n≤21):∀ (hs:List Int) (m:Nat) (g:Mx),hs=(List.range' m hs.length).map (fun j:Nat=>(j:Int))→(m:Int) + hs.length=n→Ok R n m (100000 * 2 ^ m) g →
  (∀ i,In n i→0≤fwF ns hs g i i)→Ok R n n (100000 * 2 ^ (m + hs.length)) (fwF ns hs g)
 | [],m,g,_,hl,h,_=>by
  have e:(m:Int)=n:=by simpa using hl
  have h':Ok R n n (100000 * 2 ^ m) g:=by
   have:=h
   rw [e] at this
   exact this
  simpa [fwF] using h'
 | q::hs,m,g,he,hl,h,hd=>by
  simp only [List.length_cons,List.range'_succ,List.map_cons,List.cons.injEq] at he hl
  obtain ⟨rfl,he⟩:=he
  have hpow:(2:Int) ^ m≤2 ^ 20:=by
   have:m≤20:=by omega
   have h2:=Nat.pow_le_pow_right (show 0<2 by decide) this
   have h3:((2 ^ m:Nat):Int)≤((2 ^ 20:Nat):Int):=Int.ofNat_le.2 h2
   simpa using h3
  have hpos:(0:Int)≤2 ^ m:=by
   have:((2 ^ m:Nat):Int) ≥ 0:=Int.natCast_nonneg _
   simpa using this
  have hle:=fwF_le ns hs (phF_le (h:=(m:Int)) ns ns h.rg).1
  have h1:=h.ph (m:=(m:Int)) hns hm (show In n (m:Int) from ⟨by omega,by omega⟩) (by omega) (by unfold NV; omega) (fun i hi=>Int.le_trans (hd i hi) (hle.2 i i))
  have e:(2:Int) * (100000 * 2 ^ m)=100000 * 2 ^ (m + 1):=by rw [Int.pow_succ]; omega
  rw [e] at h1
  have h2:=Ok.go hns hm hn hs (m + 1) (phF m ns ns g) he (by omega) h1 hd
  have e2:m + 1 + hs.length=m + ((m:Int)::hs).length:=by simp only [List.length_cons]; omega
  rw [e2] at h2
  exact h2
def So (x:Int×List RR) (g:Mx):Prop:=∀ i k,(0≤i∧i≤x.1)→(0≤k∧k≤x.1)→g i k=NV∨PC (whole x) i k (g i k)
theorem So.up1 {x:Int×List RR} (hx:csheet x=0) (hP:Pot x) {g:Mx} (h:So x g) {q i k:Int} (hq:0≤q∧q≤x.1) (hi:0≤i∧i≤x.1) (hk:0≤k∧k≤x.1):So x (up1 q i k g):=by
 intro a b ha hb
 unfold FW.up1
 split
 ·rename_i e
  rw [e.1,e.2]
  unfold nw
  split
  ·rename_i hlt
   have s1:PC (whole x) i q (g i q):=by
    rcases h i q hi hq with s | s
    ·omega
    ·exact s
   have s2:PC (whole x) q k (g q k):=by
    rcases h q k hq hk with s | s
    ·omega
    ·exact s
   have s3:=s1.trans s2
   have l3:=s3.low hx hP hi.1 hi.2
   unfold mm
   by_cases hc:g i q + g q k<g i k
   ·rw [if_pos hc,if_pos (by unfold NV; omega)]
    exact .inr s3
   ·rw [if_neg hc]
    rcases h i k hi hk with s | s
    ·rw [s,if_pos (by unfold NV; omega)]
     exact .inl rfl
    ·have:=s.low hx hP hi.1 hi.2
     rw [if_pos (by unfold NV; omega)]
     exact .inr s
  ·exact h i k hi hk
 ·exact h a b ha hb
theorem So.all {x:Int×List RR} (hx:csheet x=0) (hP:Pot x) {ns:List Int} (hm:∀ i∈ns,0≤i∧i≤x.1) {g:Mx} (h:So x g):So x (fwF ns ns g):=by
 have key:∀ {β:Type} {step:Mx→β→Mx} (l:List β),(∀ g,∀ b∈l,So x g→So x (step g b))→∀ g,So x g→So x (l.foldl step g):=by
  intro β step l
  induction l with
  | nil=>intro _ g hg; exact hg
  | cons b l ih =>
   intro hs g hg
   exact ih (fun g c hc=>hs g c (by simp [hc])) _ (hs g b (by simp) hg)
 refine key ns (fun g q hq hg=>?_) g h
 refine key ns (fun g i hi hg=>?_) g hg
 exact key ns (fun g k hk hg=>hg.up1 hx hP (hm q hq) (hm i hi) (hm k hk)) g hg
end FW
end Go.Proofs.YtfmelbioccbdoaaGreat
end
section
namespace Go.Proofs.YtfmelbioccbdoaaGreat
open Go Go.Md Go.RowKit
open FW (Mx up1 rowF phF fwF nw Rg In Ok So)
def nums (k n:Nat):List Int:=(List.range' k (n - k)).map fun j:Nat=>(j:Int)
theorem nums_cons {k n:Nat} (h:k<n):nums k n=(k:Int)::nums (k + 1) n:=by
 unfold nums
 have e:n - k=(n - (k + 1)) + 1:=by omega
 rw [e,List.range'_succ]
 rfl
theorem nums_nil {n:Nat}:nums n n=[]:=by simp [nums]
theorem nums_mem {n:Nat} {i:Int}:i∈nums 0 n↔In n i:=by
 unfold nums In
 simp only [List.mem_map,Nat.sub_zero]
 constructor
 ·rintro ⟨j,hj,rfl⟩
  have:=List.mem_range'_1.1 hj
  omega
 ·rintro ⟨h1,h2⟩
  exact ⟨i.toNat,List.mem_range'_1.2 ⟨by omega,by omega⟩,by omega⟩
theorem nums_nodup {n:Nat}:(nums 0 n).Nodup:=by
 unfold nums
 exact (List.nodup_range').map _ (fun a b h e=>h (by omega))
structure RepM (n:Nat) (M:List (List Int)) (g:Mx):Prop where
 len:M.length=n
 row:∀ i:Nat,i<n→∃ r,M[i]?=some r∧r.length=n∧∀ k:Nat,k<n→r[k]?=some (g i k)
theorem RepM.ext {n:Nat} {M:List (List Int)} {g g':Mx} (h:RepM n M g) (e:∀ i k:Nat,i<n→k<n→g i k=g' i k):RepM n M g' :=
 ⟨h.len,fun i hi=>by
  obtain ⟨r,h1,h2,h3⟩:=h.row i hi
  exact ⟨r,h1,h2,fun k hk=>by rw [h3 k hk,e i k hi hk]⟩⟩
theorem RepM.at {n:Nat} {M:List (List Int)} {g:Mx} (h:RepM n M g) {i:Int} (i0:0≤i) (i1:i<n):∃ r,ix M i=some r∧r.length=n∧∀ k:Int,0≤k→k<n→ix r k=some (g i k):=by
 obtain ⟨r,h1,h2,h3⟩:=h.row i.toNat (by omega)
 refine ⟨r,by unfold ix; rw [if_pos i0]; exact h1,h2,fun k k0 k1=>?_⟩
 unfold ix
 rw [if_pos k0,h3 k.toNat (by omega)]
 have e1:((i.toNat:Nat):Int)=i:=by omega
 have e2:((k.toNat:Nat):Int)=k:=by omega
 rw [e1,e2]
theorem RepM.set {n:Nat} {M:List (List Int)} {g:Mx} (h:RepM n M g) {i k v:Int} (i0:0≤i) (i1:i<n) (k0:0≤k) (k1:k<n) {r:List Int} (hr:ix M i=some r):RepM n (rset M i (rset r k v)) (fun a b=>if a=i∧b=k then v else g a b):=by
 have e1:((i.toNat:Nat):Int)=i:=by omega
 have e2:((k.toNat:Nat):Int)=k:=by omega
 obtain ⟨r',h1,h2,h3⟩:=h.row i.toNat (by omega)
 have er:r'=r:=by
  unfold ix at hr
  rw [if_pos i0,h1] at hr
  exact Option.some.inj hr
 subst er
 refine ⟨by unfold rset; rw [List.length_set]; exact h.len,fun a ha=>?_⟩
 have hl:=h.len
 by_cases hai:i.toNat=a
 ·subst hai
  refine ⟨rset r' k v,by unfold rset; rw [List.getElem?_set,if_pos rfl,if_pos (by omega)],by unfold rset; rw [List.length_set]; exact h2,fun b hb=>?_⟩
  unfold rset
  rw [List.getElem?_set]
  by_cases hbk:k.toNat=b
  ·subst hbk
   rw [if_pos rfl,if_pos (by omega),if_pos ⟨e1,e2⟩]
  ·rw [if_neg hbk,h3 b hb,if_neg (by omega)]
 ·obtain ⟨q,q1,q2,q3⟩:=h.row a ha
  refine ⟨q,by unfold rset; rw [List.getElem?_set,if_neg hai]; exact q1,q2,fun b hb=>?_⟩
  rw [q3 b hb,if_neg (by omega)]
section
variable {n:Nat} {F:Nat}
theorem far_l2 (hn:n≤21):∀ (m k:Nat),k≤n→n - k<m→ref01_Far_l2 n m (List.replicate k FW.NV) (k:Int)=some (List.replicate n FW.NV)
 | 0,k,_,h=>by omega
 | m + 1,k,hk,h=>by
  unfold ref01_Far_l2
  by_cases hlt:k<n
  ·rw [if_pos (by simpa using hlt),app_some (by simp only [List.length_replicate,List.length_cons,List.length_nil]; omega)]
   simp only [Option.bind_eq_bind,Option.bind_some]
   have e:List.replicate k FW.NV++[1099511627776]=List.replicate (k + 1) FW.NV:=by rw [List.replicate_succ']; rfl
   rw [e,w64_succ (by omega)]
   exact far_l2 hn m (k + 1) (by omega) (by omega)
  ·have:k=n:=by omega
   subst this
   rw [if_neg (by simp)]
def g0:Mx:=fun i k=>if i=k then 0 else FW.NV
def row0 (n:Nat) (j:Nat):List Int:=rset (List.replicate n FW.NV) (j:Int) 0
theorem far_l1 (hn:n≤21) (hF:100≤F):∀ (m k:Nat),k≤n→n - k<m→ref01_Far_l1 F n m ((List.range k).map (row0 n)) (k:Int)=some ((List.range n).map (row0 n))
 | 0,k,_,h=>by omega
 | m + 1,k,hk,h=>by
  unfold ref01_Far_l1
  by_cases hlt:k<n
  ·have e2:=far_l2 hn F 0 (Nat.zero_le _) (by omega)
   simp only [List.replicate_zero,Int.natCast_zero] at e2
   rw [if_pos (by simpa using hlt),e2]
   simp only [Option.bind_eq_bind,Option.bind_some]
   rw [ix_nat (by simpa using hlt)]
   simp only [Option.bind_some]
   rw [app_some (by simp only [List.length_map,List.length_range,List.length_cons,List.length_nil]; omega)]
   simp only [Option.bind_some]
   have e:(List.range k).map (row0 n)++[rset (List.replicate n FW.NV) (k:Int) 0]=(List.range (k + 1)).map (row0 n):=by simp [List.range_succ,row0]
   rw [e,w64_succ (by omega)]
   exact far_l1 hn hF m (k + 1) (by omega) (by omega)
  ·have:k=n:=by omega
   subst this
   rw [if_neg (by simp)]
theorem rep0:RepM n ((List.range n).map (row0 n)) g0:=by
 refine ⟨by simp,fun i hi=>⟨row0 n i,by simp [List.getElem?_range,hi],by simp [row0,rset],fun k hk=>?_⟩⟩
 unfold row0 rset g0
 rw [List.getElem?_set,Int.toNat_natCast]
 by_cases e:i=k
 ·subst e
  rw [if_pos rfl,if_pos (by simpa using hi),if_pos rfl]
 ·rw [if_neg e,if_neg (by omega),List.getElem?_replicate,if_pos hk]
def setR (g:Mx) (r:RR):Mx:=fun a b=>if a=r.1∧b=r.2.1 then (if r.2.2<g r.1 r.2.1 then r.2.2 else g r.1 r.2.1) else g a b
theorem far_l3 {all:List RR} {T:Int} (hT:T + 1=n) (hall:∀ r∈all,OKr T r) (hlen:all.length≤100):∀ (m k:Nat) (M:List (List Int)) (g:Mx),k≤all.length→all.length - k<m→RepM n M g →
  ∃ M',ref01_Far_l3 all m M (k:Int)=some M'∧RepM n M' ((all.drop k).foldl setR g)
 | 0,k,_,_,_,h,_=>by omega
 | m + 1,k,M,g,hk,h,hr=>by
  unfold ref01_Far_l3
  by_cases hlt:k<all.length
  ·have hd:all.drop k=all[k]::all.drop (k + 1):=List.drop_eq_getElem_cons hlt
   obtain ⟨o1,o2,o3,o4,_⟩:=hall _ (List.getElem_mem hlt)
   obtain ⟨row,r1,r2,r3⟩:=hr.at o1 (show all[k].1<(n:Int) by omega)
   rw [if_pos (by simpa using hlt),ix_nat hlt]
   simp only [Option.bind_eq_bind,Option.bind_some]
   rw [r1]
   simp only [Option.bind_some]
   rw [r3 all[k].2.1 o3 (by omega)]
   simp only [Option.bind_some]
   rw [w64_succ (by omega),hd,List.foldl_cons]
   exact far_l3 hT hall hlen m (k + 1) _ _ (by omega) (by omega) (hr.set o1 (by omega) o3 (by omega) r1)
  ·rw [if_neg (by simpa using hlt),List.drop_of_length_le (by omega)]
   exact ⟨M,rfl,hr⟩
theorem far_l6 {h i:Int} (h0:0≤h) (h1:h<n) (i0:0≤i) (i1:i<n) (hn:n≤21):∀ (m k:Nat) (M:List (List Int)) (g:Mx),k≤n→n - k<m→RepM n M g→Rg g →
  ∃ M',ref01_Far_l6 n h i m M (k:Int)=some M'∧RepM n M' (rowF h i (nums k n) g)
 | 0,k,_,_,_,hm,_,_=>by omega
 | m + 1,k,M,g,hk,hm,hr,hg=>by
  unfold ref01_Far_l6
  by_cases hlt:k<n
  ·obtain ⟨ri,a1,_,a3⟩:=hr.at i0 i1
   obtain ⟨rh,b1,_,b3⟩:=hr.at h0 h1
   have hg':=(FW.up1_le hg h i (k:Int)).1
   have nx:=fun (M':List (List Int)) (hr':RepM n M' (up1 h i (k:Int) g))=>far_l6 h0 h1 i0 i1 hn m (k + 1) M' _ (by omega) (by omega) hr' hg'
   have same:∀ (e:nw g h i (k:Int)=g i (k:Int)),RepM n M (up1 h i (k:Int) g):=fun e=>hr.ext fun a b ha hb=>by
    unfold up1
    split
    ·rename_i hab; rw [e,hab.1,hab.2]
    ·rfl
   rw [if_pos (by simpa using hlt),a1]
   simp only [Option.bind_eq_bind,Option.bind_some]
   rw [a3 h h0 h1,nums_cons hlt]
   simp only [Option.bind_some]
   show ∃ M',_∧RepM n M' (rowF h i (nums (k + 1) n) (up1 h i (k:Int) g))
   by_cases c1:g i h<FW.NV
   ·rw [if_pos (by simpa [FW.NV] using c1),b1]
    simp only [Option.bind_some]
    rw [b3 (k:Int) (by omega) (by omega)]
    simp only [Option.bind_some]
    by_cases c2:g h (k:Int)<FW.NV
    ·rw [if_pos (by simpa [FW.NV] using c2),a3 (k:Int) (by omega) (by omega)]
     simp only [Option.bind_some]
     have e1:=hg i h
     have e2:=hg h (k:Int)
     rw [w64_succ (by omega),w64_in (by unfold FW.NV at e1 e2; omega)]
     refine nx _ ?_
     have hs:=hr.set (v:=ref01_Far_mm (g i (k:Int)) (g i h + g h (k:Int))) i0 i1 (show (0:Int)≤(k:Int) by omega) (by omega) a1
     refine hs.ext fun a b ha hb=>?_
     unfold up1 nw
     split
     ·rw [if_pos ⟨c1,c2⟩]; rfl
     ·rfl
    ·rw [if_neg (by simpa [FW.NV] using c2),w64_succ (by omega)]
     exact nx _ (same (by unfold nw; rw [if_neg (fun hc=>c2 hc.2)]))
   ·rw [if_neg (by simpa [FW.NV] using c1),w64_succ (by omega)]
    exact nx _ (same (by unfold nw; rw [if_neg (fun hc=>c1 hc.1)]))
  ·have:k=n:=by omega
   subst this
   rw [if_neg (by simp),nums_nil]
   exact ⟨M,rfl,hr⟩
theorem far_l5 {h:Int} (h0:0≤h) (h1:h<n) (hn:n≤21) (hF:100≤F):∀ (m k:Nat) (M:List (List Int)) (g:Mx),k≤n→n - k<m→RepM n M g→Rg g →
  ∃ M',ref01_Far_l5 F n h m M (k:Int)=some M'∧RepM n M' (phF h (nums 0 n) (nums k n) g)
 | 0,k,_,_,_,hm,_,_=>by omega
 | m + 1,k,M,g,hk,hm,hr,hg=>by
  unfold ref01_Far_l5
  by_cases hlt:k<n
  ·obtain ⟨M1,e1,r1⟩:=far_l6 h0 h1 (i:=(k:Int)) (by omega) (by omega) hn F 0 M g (Nat.zero_le _) (by omega) hr hg
   rw [if_pos (by simpa using hlt),show (0:Int)=((0:Nat):Int) from rfl,e1]
   simp only [Option.bind_eq_bind,Option.bind_some]
   rw [w64_succ (by omega),nums_cons hlt]
   exact far_l5 h0 h1 hn hF m (k + 1) M1 _ (by omega) (by omega) r1 (FW.rowF_le _ hg).1
  ·have:k=n:=by omega
   subst this
   rw [if_neg (by simp),nums_nil]
   exact ⟨M,rfl,hr⟩
theorem far_l4 (hn:n≤21) (hF:100≤F):∀ (m k:Nat) (M:List (List Int)) (g:Mx),k≤n→n - k<m→RepM n M g→Rg g →
  ∃ M',ref01_Far_l4 F n m M (k:Int)=some M'∧RepM n M' (fwF (nums 0 n) (nums k n) g)
 | 0,k,_,_,_,hm,_,_=>by omega
 | m + 1,k,M,g,hk,hm,hr,hg=>by
  unfold ref01_Far_l4
  by_cases hlt:k<n
  ·obtain ⟨M1,e1,r1⟩:=far_l5 (h:=(k:Int)) (by omega) (by omega) hn hF F 0 M g (Nat.zero_le _) (by omega) hr hg
   rw [if_pos (by simpa using hlt),show (0:Int)=((0:Nat):Int) from rfl,e1]
   simp only [Option.bind_eq_bind,Option.bind_some]
   rw [w64_succ (by omega),nums_cons hlt]
   exact far_l4 hn hF m (k + 1) M1 _ (by omega) (by omega) r1 (FW.phF_le _ _ hg).1
  ·have:k=n:=by omega
   subst this
   rw [if_neg (by simp),nums_nil]
   exact ⟨M,rfl,hr⟩
end
section
variable {x:Int×List RR} {F:Nat}
theorem setR_all {T:Int} {all:List RR} (hall:∀ r∈all,OKr T r):∀ (l:List RR) (g:Mx),(∀ r∈l,r∈all)→(Rg g∧(∀ i,g i i=0)∧(∀ i k,g i k=FW.NV∨(-100000≤g i k∧g i k≤100000))∧∀ i k,g i k=FW.NV∨PC all i k (g i k)) →
  (Rg (l.foldl setR g)∧(∀ i,l.foldl setR g i i=0)∧(∀ i k,l.foldl setR g i k=FW.NV∨(-100000≤l.foldl setR g i k∧l.foldl setR g i k≤100000))∧∀ i k,l.foldl setR g i k=FW.NV∨PC all i k (l.foldl setR g i k)) ∧
   (∀ i k,l.foldl setR g i k≤g i k)∧∀ r∈l,l.foldl setR g r.1 r.2.1≤r.2.2
 | [],g,_,h=>⟨h,fun _ _=>Int.le_refl _,by simp⟩
 | r::l,g,hl,⟨h1,h2,h3,h4⟩=>by
  obtain ⟨o1,o2,o3,o4,o5,o6,o7⟩:=hall r (hl r (by simp))
  have hb:=h3 r.1 r.2.1
  have hle:∀ i k,setR g r i k≤g i k:=fun i k=>by
   unfold setR
   split
   ·rename_i e
    rw [e.1,e.2]
    split <;> omega
   ·exact Int.le_refl _
  have hn:Rg (setR g r)∧(∀ i,setR g r i i=0)∧(∀ i k,setR g r i k=FW.NV∨(-100000≤setR g r i k∧setR g r i k≤100000))∧∀ i k,setR g r i k=FW.NV∨PC all i k (setR g r i k):=by
   refine ⟨fun i k=>?_,fun i=>?_,fun i k=>?_,fun i k=>?_⟩
   ·have:=h1 r.1 r.2.1
    have:=h1 i k
    unfold setR
    split
    ·split
     ·unfold FW.NV; omega
     ·assumption
    ·assumption
   ·unfold setR
    rw [if_neg (by omega)]
    exact h2 i
   ·unfold setR
    split
    ·split
     ·exact .inr ⟨o6,o7⟩
     ·exact hb
    ·exact h3 i k
   ·unfold setR
    split
    ·rename_i e
     rw [e.1,e.2]
     split
     ·exact .inr (PC.one (hl r (by simp)))
     ·exact h4 r.1 r.2.1
    ·exact h4 i k
  obtain ⟨q1,q2,q3⟩:=setR_all hall l (setR g r) (fun q hq=>hl q (by simp [hq])) hn
  refine ⟨q1,fun i k=>Int.le_trans (q2 i k) (hle i k),fun q hq=>?_⟩
  rcases List.mem_cons.1 hq with rfl | hq
  ·refine Int.le_trans (q2 _ _) ?_
   unfold setR
   rw [if_pos ⟨rfl,rfl⟩]
   split <;> omega
  ·exact q3 q hq
theorem far_eq (hx:csheet x=0) (hF:1000≤F):∃ M g,ref01_Far F x=some M∧RepM (nn x) M g∧((Pot x∧∀ i k,0≤i→i≤x.1→0≤k→k≤x.1→g i k=D x i k)∨(¬ Pot x∧∃ i,0≤i∧i≤x.1∧g i i<0)):=by
 obtain ⟨h1,h2,h3,_⟩:=csheet_ok hx
 have hn:((nn x:Nat):Int)=x.1 + 1:=by unfold nn; omega
 have hn21:nn x≤21:=by omega
 have e1:=far_l1 (n:=nn x) (F:=F) hn21 (by omega) F 0 (Nat.zero_le _) (by omega)
 simp only [List.range_zero,List.map_nil,Int.natCast_zero] at e1
 have hlen:=whole_len hx
 obtain ⟨M2,e2,r2⟩:=far_l3 (n:=nn x) (all:=whole x) (T:=x.1) (by omega) (whole_ok hx) hlen F 0 _ _ (Nat.zero_le _) (by omega) (rep0 (n:=nn x))
 rw [List.drop_zero] at r2
 generalize hg1:(whole x).foldl setR g0=g1 at r2
 have hinit:Rg g0∧(∀ i,g0 i i=0)∧(∀ i k,g0 i k=FW.NV∨(-100000≤g0 i k∧g0 i k≤100000))∧∀ i k,g0 i k=FW.NV∨PC (whole x) i k (g0 i k):=by
  refine ⟨fun i k=>?_,fun i=>by simp [g0],fun i k=>?_,fun i k=>?_⟩
  ·unfold g0
   split <;> unfold FW.NV <;> omega
  ·unfold g0
   split
   ·exact .inr ⟨by omega,by omega⟩
   ·exact .inl rfl
  ·unfold g0
   split
   ·rename_i e; subst e; exact .inr .nil
   ·exact .inl rfl
 obtain ⟨⟨a1,a2,a3,a4⟩,_,a5⟩:=setR_all (whole_ok hx) (whole x) g0 (fun r hr=>hr) hinit
 rw [hg1] at a1 a2 a3 a4 a5
 obtain ⟨M3,e3,r3⟩:=far_l4 (n:=nn x) (F:=F) hn21 (by omega) F 0 M2 g1 (Nat.zero_le _) (by omega) r2 a1
 refine ⟨M3,_,?_,r3,?_⟩
 ·unfold ref01_Far
  rw [w64_in (by omega),← hn,e1]
  simp only [Option.bind_eq_bind,Option.bind_some]
  rw [all_eq (x:=(x.1,x.2)) (by omega) (by simp; omega) h3 h1]
  simp only [Option.bind_some]
  have ew:whole (x.1,x.2)=whole x:=rfl
  rw [ew,show (0:Int)=((0:Nat):Int) from rfl,e2]
  simp only [Option.bind_some]
  exact e3
 ·generalize hG:fwF (nums 0 (nn x)) (nums 0 (nn x)) g1=G
  have hIn:∀ i,In (nn x) i↔(0≤i∧i≤x.1):=fun i=>by unfold In; omega
  have sound:Pot x→So x G:=fun hP=>by
   rw [← hG]
   exact So.all hx hP (fun i hi=>(hIn i).1 (nums_mem.1 hi)) fun i k _ _=>a4 i k
  by_cases hd:∀ i,0≤i→i≤x.1→0≤G i i
  ·left
   have hok:Ok (whole x) (nn x) 0 (100000 * 2 ^ 0) g1:=by
    refine ⟨a1,fun i _=>a2 i,fun i k _ _=>by simpa using a3 i k,fun a t c ha ht hp=>?_,fun i k _ _=>a4 i k⟩
    have key:∀ {t c},FW.PI (whole x) 0 a t c→∃ r∈whole x,r.1=a∧r.2.1=t∧r.2.2=c:=by
     intro t c hp
     cases hp with
     | one hr ha=>exact ⟨_,hr,ha,rfl,rfl⟩
     | snoc h hu hr he =>
      exfalso
      rename_i u c' r'
      have:0≤u:=by rw [← he]; exact (whole_ok hx _ hr).1
      omega
    obtain ⟨r,hr,rfl,rfl,rfl⟩:=key hp
    have:=a5 r hr
    have:=(whole_ok hx r hr).2.2.2.2.2.2
    unfold FW.NV
    omega
   have hl:(nums 0 (nn x)).length=nn x:=by simp [nums]
   have hfin:=Ok.go (R:=whole x) (n:=(nn x:Int)) (ns:=nums 0 (nn x)) nums_nodup (fun i=>nums_mem) (by omega) (nums 0 (nn x)) 0 g1 (by rw [hl]; rfl) (by rw [hl]; simp) hok (fun i hi=>by
    rw [hG]
    have:=(hIn i).1 hi
    exact hd i this.1 this.2)
   rw [hG] at hfin
   have least:∀ i k c,0≤i→i≤x.1→0≤k→k≤x.1→PC (whole x) i k c→G i k≤c∧G i k<FW.NV:=fun i k c i0 i1 k0 k1 hp=>by
    rcases FW.PI.of_pc (n:=(nn x:Int)) (fun r hr=>by have:=(whole_ok hx r hr).2.2.2.1; omega) hp with ⟨rfl,rfl⟩ | hp
    ·have:=hfin.dg k ((hIn k).2 ⟨k0,k1⟩)
     rw [this]
     unfold FW.NV
     omega
    ·exact hfin.un i k c ((hIn i).2 ⟨i0,i1⟩) ((hIn k).2 ⟨k0,k1⟩) hp
   have some_:∀ i k,0≤i→i≤x.1→0≤k→k≤x.1→PC (whole x) i k (G i k):=fun i k i0 i1 k0 k1=>by
    obtain ⟨c,hc,_⟩:=PC.any (x:=x) i0 i1 k0 k1
    have:=(least i k c i0 i1 k0 k1 hc).2
    rcases hfin.so i k ((hIn i).2 ⟨i0,i1⟩) ((hIn k).2 ⟨k0,k1⟩) with s | s
    ·omega
    ·exact s
   refine ⟨⟨fun t=>G 0 t,fun r hr=>?_⟩,fun i k i0 i1 k0 k1=>?_⟩
   ·have hokr:=whole_ok hx r hr
    exact (least 0 r.2.1 _ (by omega) (by omega) hokr.2.2.1 hokr.2.2.2.1 (.snoc (some_ 0 r.1 (by omega) (by omega) hokr.1 hokr.2.1) hr rfl)).1
   ·exact (D_of ⟨some_ i k i0 i1 k0 k1,fun c hc=>(least i k c i0 i1 k0 k1 hc).1⟩).symm
  ·right
   have hex:∃ i,0≤i∧i≤x.1∧G i i<0:=by
    apply Classical.byContradiction
    intro hno
    exact hd fun i i0 i1=>by
     apply Classical.byContradiction
     intro hlt
     exact hno ⟨i,i0,i1,by omega⟩
   refine ⟨fun hP=>?_,hex⟩
   obtain ⟨i,i0,i1,hlt⟩:=hex
   rcases sound hP i i ⟨i0,i1⟩ ⟨i0,i1⟩ with s | s
   ·rw [s] at hlt; unfold FW.NV at hlt; omega
   ·have:=s.loop hP
    omega
end
end Go.Proofs.YtfmelbioccbdoaaGreat
end
section
namespace Go.Proofs.YtfmelbioccbdoaaGreat
open Go Go.Md Go.RowKit
open BF (Rl St Back rel pass NEV)
section
variable {x:Int×List RR} {F:Nat} {a b t:Int}
theorem far_pot (hx:csheet x=0) (hF:1000≤F) (hP:Pot x):∃ M,ref01_Far F x=some M∧M.length=nn x∧∀ i,0≤i→i≤x.1→∃ row,ix M i=some row∧row.length=nn x∧∀ k,0≤k→k≤x.1→ix row k=some (D x i k):=by
 obtain ⟨M,g,e,hr,h | ⟨h,_⟩⟩:=far_eq hx hF
 ·have hn:((nn x:Nat):Int)=x.1 + 1:=by have:=(csheet_ok hx).2.1; unfold nn; omega
  refine ⟨M,e,hr.len,fun i i0 i1=>?_⟩
  obtain ⟨row,h1,h2,h3⟩:=hr.at i0 (show i<(nn x:Int) by omega)
  exact ⟨row,h1,h2,fun k k0 k1=>by rw [h3 k k0 (by omega),h.2 i k i0 i1 k0 k1]⟩
 ·exact (h hP).elim
theorem clash_l1 {n:Nat} {M:List (List Int)} {g:FW.Mx} (hr:RepM n M g) (hn:n≤21):∀ (m k:Nat),k≤n→n - k<m →
  ((∀ i:Int,(k:Int)≤i→i<n→0≤g i i)→ref01_Clashes_l1 F M m (k:Int)=some (.inr ()))∧((∃ i:Int,(k:Int)≤i∧i<n∧g i i<0)→ref01_Clashes_l1 F M m (k:Int)=some (.inl true))
 | 0,k,_,h=>by omega
 | m + 1,k,hk,hm=>by
  unfold ref01_Clashes_l1
  rw [hr.len]
  by_cases hlt:k<n
  ·obtain ⟨row,h1,h2,h3⟩:=hr.at (i:=(k:Int)) (by omega) (by omega)
   have ih:=clash_l1 hr hn m (k + 1) (by omega) (by omega)
   rw [if_pos (by simpa using hlt),h1]
   simp only [Option.bind_eq_bind,Option.bind_some]
   rw [h3 (k:Int) (by omega) (by omega)]
   simp only [Option.bind_some]
   by_cases hc:g (k:Int) (k:Int)<0
   ·rw [if_pos (by simpa using hc)]
    refine ⟨fun h=>?_,fun _=>rfl⟩
    have:=h (k:Int) (by omega) (by omega)
    omega
   ·rw [if_neg (by simpa using hc),w64_succ (by omega)]
    refine ⟨fun h=>ih.1 fun i i0 i1=>h i (by omega) i1,fun ⟨i,i0,i1,hi⟩=>ih.2 ⟨i,?_,i1,hi⟩⟩
    have:i≠k:=fun e=>hc (by rw [← e]; exact hi)
    omega
  ·have:k=n:=by omega
   subst this
   rw [if_neg (by simp)]
   exact ⟨fun _=>rfl,fun ⟨i,i0,i1,_⟩=>by omega⟩
theorem clashes_eq (hx:csheet x=0) (hF:1000≤F):(Pot x→ref01_Clashes F x=some false)∧(¬ Pot x→ref01_Clashes F x=some true):=by
 obtain ⟨M,g,e,hr,h⟩:=far_eq hx hF
 have hn:((nn x:Nat):Int)=x.1 + 1:=by have:=(csheet_ok hx).2.1; unfold nn; omega
 have h3:=(csheet_ok hx).2.2.1
 have hc:=clash_l1 (F:=F) hr (by omega) F 0 (Nat.zero_le _) (by omega)
 simp only [Int.natCast_zero] at hc
 unfold ref01_Clashes
 have ex:(x.1,x.2)=x:=rfl
 rw [ex,e]
 simp only [Option.bind_eq_bind,Option.bind_some]
 refine ⟨fun hP=>?_,fun hP=>?_⟩
 ·rcases h with ⟨_,h⟩ | ⟨h,_⟩
  ·rw [hc.1 fun i i0 i1=>by
    rw [h i i i0 (by omega) i0 (by omega),D_self hx hP i0 (by omega)]
    omega]
   rfl
  ·exact (h hP).elim
 ·rcases h with ⟨h,_⟩ | ⟨_,i,i0,i1,hi⟩
  ·exact (hP h).elim
  ·rw [hc.2 ⟨i,i0,by omega,hi⟩]
   rfl
open Classical in
noncomputable def spanS (x:Int×List RR) (t:Int):(Int×Int)×Int :=
 if csheet x≠0 then ((0,0),csheet x) else if inR 1 x.1 t=true then (if Pot x then ((-D x t 0,D x 0 t),0) else ((0,0),21)) else ((0,0),3)
theorem sp1 (h:csheet x≠0):spanS x t=((0,0),csheet x):=by unfold spanS; rw [if_pos h]
theorem sp2 (h:csheet x=0) (ht:inR 1 x.1 t=false):spanS x t=((0,0),3):=by unfold spanS; rw [if_neg (fun e=>e h),if_neg (by rw [ht]; simp)]
theorem sp3 (h:csheet x=0) (ht:inR 1 x.1 t=true) (hP:Pot x):spanS x t=((-D x t 0,D x 0 t),0):=by unfold spanS; rw [if_neg (fun e=>e h),if_pos ht,if_pos hP]
theorem sp4 (h:csheet x=0) (ht:inR 1 x.1 t=true) (hP:¬ Pot x):spanS x t=((0,0),21):=by unfold spanS; rw [if_neg (fun e=>e h),if_pos ht,if_neg hP]
theorem span_eq (hF:100000000000000000≤F):speed_Span F x t=some (spanS x t):=by
 unfold speed_Span
 have ex:(x.1,x.2)=x:=rfl
 simp only [ex,checkSheet_eq (show 100<F by omega),Option.bind_eq_bind,Option.bind_some]
 by_cases h:csheet x=0
 ·obtain ⟨h1,h2,h3,_⟩:=csheet_ok h
  rw [if_neg (by simp [h]),turns_eq (by simp; omega) (by simp)]
  simp only [Option.bind_some,List.all_cons,List.all_nil,Bool.and_true]
  cases ht:inR 1 x.1 t with
  | false=>rw [sp2 h ht]; rfl
  | true =>
   have ht':=ht
   simp only [inR,Bool.and_eq_true,decide_eq_true_eq] at ht'
   rw [if_neg (by simp)]
   obtain ⟨o1,o2⟩:=open_eq h (F:=F) (by omega)
   by_cases hP:Pot x
   ·rw [o1 hP,sp3 h ht hP]
    simp only [Option.bind_some]
    obtain ⟨X,l,s,e,_,hD⟩:=find_D h hP (a:=0) (by omega) (by omega) hF
    obtain ⟨Y,l',s',e',_,hD'⟩:=find_D h hP (a:=t) (by omega) (by omega) hF
    have hb:=D_bd h hP (a:=t) (t:=0) (by omega) (by omega) (by omega) (by omega)
    rw [if_neg (by simp)]
    have ex2:((x.1,x.2),whole x)=(x,whole x):=rfl
    rw [ex2] at e e'
    rw [e]
    simp only [Option.bind_some]
    rw [e']
    simp only [Option.bind_some]
    rw [(hD' 0 (by omega) (by omega)).2]
    simp only [Option.bind_some]
    rw [(hD t (by omega) (by omega)).2]
    simp only [Option.bind_some]
    rw [w64_in (by omega),Int.zero_sub]
   ·rw [o2 hP,sp4 h ht hP]
    simp only [Option.bind_some]
    rw [if_pos (by simp)]
 ·rw [if_pos (by simp [h]),sp1 h]
noncomputable def sungS (x:Int×List RR) (t v:Int):(Int×Int)×Int :=
 if csheet x≠0 then ((0,0),csheet x) else if (inR 1 x.1 t && inR 1 1000000 v)=true then
  (if (spanS x t).2≠0 then ((0,0),(spanS x t).2) else ((w64 (Int.tdiv (w64 (v * (spanS x t).1.1)) 16000),w64 (Int.tdiv (w64 (v * (spanS x t).1.2)) 16000)),0))
 else ((0,0),3)
theorem sung_eq (hF:100000000000000000≤F) {v:Int}:speed_Sung F x t v=some (sungS x t v):=by
 unfold speed_Sung sungS
 have ex:(x.1,x.2)=x:=rfl
 simp only [ex,checkSheet_eq (show 100<F by omega),Option.bind_eq_bind,Option.bind_some]
 by_cases h:csheet x=0
 ·have e0:¬ (csheet x≠0):=fun e=>e h
  rw [if_neg (by simp [h]),if_neg e0,turns_eq (by simp; omega) (by simp)]
  simp only [Option.bind_some,List.all_cons,List.all_nil,Bool.and_true,Bool.not_not]
  cases ht:inR 1 x.1 t with
  | false=>simp [gd]
  | true =>
   simp only [gd,cond_true,Bool.true_and,Bool.not_true,Bool.false_or]
   rw [tone_eq (by simp; omega) (by simp)]
   simp only [Option.bind_some,List.all_cons,List.all_nil,Bool.and_true]
   cases hv:inR 1 1000000 v with
   | false=>rfl
   | true =>
    rw [if_neg (by simp),if_pos rfl,span_eq hF]
    simp only [Option.bind_some]
    by_cases h2:(spanS x t).2=0
    ·rw [if_neg (by simp [h2]),if_neg (fun e=>e h2)]
    ·rw [if_pos (by simp [h2]),if_pos h2]
 ·rw [if_pos (by simp [h]),if_pos h]
end
end Go.Proofs.YtfmelbioccbdoaaGreat
end
section
namespace Go.Proofs.YtfmelbioccbdoaaGreat
open Go Go.Md Go.RowKit
open BF (Rl St Back)
section
variable {x:Int×List RR} {a b t:Int} {way:List Int} {F:Nat}
end
end Go.Proofs.YtfmelbioccbdoaaGreat
end
section
namespace Go.Proofs.YtfmelbioccbdoaaGreat
open Go Go.Md Go.RowKit
section
variable {x:Int×List RR} {F:Nat} {a b t:Int}
end
end Go.Proofs.YtfmelbioccbdoaaGreat
end
section
namespace Go.Proofs.YtfmelbioccbdoaaGreat
open Go Go.Md Go.RowKit
section
variable {x:Int×List RR} {F:Nat} {a b t:Int}
theorem pot_true (h:csheet x=0) {s:List Int} (hl:(s.length:Int)=x.1) (hp:∀ r∈whole x,ofS s r.2.1≤ofS s r.1 + r.2.2):cspeeds x s=0:=by
 obtain ⟨h1,h2,h3,_⟩:=csheet_ok h
 have hb:∀ t,0≤t→t≤x.1→0≤ofS s t∧ofS s t≤100000:=fun t t0 t1=>by
  by_cases e:t=0
  ·subst e; unfold ofS; simp
  ·have m:=turn_mem (x:=x) (t:=t) (by omega) t1
   have e1:=hp _ m.1
   have e2:=hp _ m.2
   have z:ofS s 0=0:=rfl
   simp only [z] at e1 e2
   omega
 rw [cs3 h hl,if_pos,if_pos]
 ·refine List.all_eq_true.2 fun r hr=>?_
  have hw:r∈whole x:=List.mem_append.2 (.inl hr)
  have hok:=whole_ok h r hw
  have e:=hp r hw
  have b1:=hb r.1 hok.1 hok.2.1
  obtain ⟨_,_,_,_,_,m1,m2⟩:=hok
  unfold keepsS
  rw [w64_in (by omega)]
  simpa using e
 ·refine List.all_eq_true.2 fun v hv=>?_
  obtain ⟨i,hi,rfl⟩:=List.getElem_of_mem hv
  have:=hb ((i:Int) + 1) (by omega) (by omega)
  have e:ofS s ((i:Int) + 1)=s[i]:=by
   unfold ofS
   rw [if_neg (by omega),show (i:Int) + 1 - 1=(i:Int) by omega,ix_nat hi]
   rfl
  rw [e] at this
  simpa [inR] using this
theorem ofS_app {s:List Int} {v:Int}:(∀ i:Int,0≤i→i≤s.length→ofS (s++[v]) i=ofS s i)∧ofS (s++[v]) ((s.length:Int) + 1)=v:=by
 refine ⟨fun i i0 i1=>?_,?_⟩
 ·unfold ofS
  by_cases e:i=0
  ·rw [if_pos e,if_pos e]
  ·rw [if_neg e,if_neg e]
   have e2:i - 1=((i - 1).toNat:Int):=by omega
   rw [e2,ix_nat (show (i - 1).toNat<(s++[v]).length by simp; omega),ix_nat (show (i - 1).toNat<s.length by omega),List.getElem_append_left]
 ·unfold ofS
  rw [if_neg (by omega),show (s.length:Int) + 1 - 1=(s.length:Int) by omega,ix_nat (by simp)]
  simp
def PairOK (x:Int×List RR) (s:List Int) (n:Int):Prop:=∀ i j,0≤i→i≤n→0≤j→j≤n→ofS s j≤ofS s i + D x i j
theorem PairOK.bd (h:csheet x=0) (hP:Pot x) {s:List Int} {n:Int} (hn:n≤x.1) (hp:PairOK x s n) {i:Int} (i0:0≤i) (i1:i≤n):-100000≤ofS s i∧ofS s i≤100000:=by
 obtain ⟨h1,h2,h3,_⟩:=csheet_ok h
 have b1:=D_bd h hP (a:=0) (t:=i) (by omega) (by omega) i0 (by omega)
 have b2:=D_bd h hP (a:=i) (t:=0) i0 (by omega) (by omega) (by omega)
 have z:ofS s 0=0:=rfl
 have e1:=hp 0 i (by omega) (by omega) i0 i1
 have e2:=hp i 0 i0 i1 (by omega) (by omega)
 rw [z] at e1 e2
 omega
theorem PairOK.lohi (h:csheet x=0) (hP:Pot x) {s:List Int} {n t:Int} (hn:n≤x.1) (hp:PairOK x s n) (t0:0≤t) (t1:t≤x.1) {i j:Int} (i0:0≤i) (i1:i≤n) (j0:0≤j) (j1:j≤n):ofS s i - D x t i≤ofS s j + D x j t:=by
 have e1:=hp j i j0 j1 i0 i1
 have e2:=D_tri h hP (a:=j) (t:=t) (u:=i) j0 (by omega) t0 t1 i0 (by omega)
 omega
theorem pot_pair (h:csheet x=0) (hP:Pot x) {s:List Int} (hl:(s.length:Int)=x.1) (hp:PairOK x s x.1):cspeeds x s=0 :=
 pot_true h hl fun r hr=>by
  have hok:=whole_ok h r hr
  have e:=hp r.1 r.2.1 hok.1 hok.2.1 hok.2.2.1 hok.2.2.2.1
  have e2:=(D_dist h hP (a:=r.1) (t:=r.2.1) hok.1 hok.2.1 hok.2.2.1 hok.2.2.2.1).2 _ (PC.one hr)
  omega
theorem ix_of {s:List Int} {k:Int} (k0:1≤k) (k1:k≤s.length) (hl:s.length<1000000):ix s (w64 (k - 1))=some (ofS s k):=by
 rw [w64_in (by omega)]
 unfold ofS
 rw [if_neg (by omega)]
 have e2:k - 1=((k - 1).toNat:Int):=by omega
 rw [e2,ix_nat (show (k - 1).toNat<s.length by omega)]
 rfl
def MD (x:Int×List RR) (M:List (List Int)):Prop:=∀ i,0≤i→i≤x.1→∃ row,ix M i=some row∧row.length=nn x∧∀ k,0≤k→k≤x.1→ix row k=some (D x i k)
theorem true_l2 (h:csheet x=0) (hP:Pot x) {M:List (List Int)} (hM:MD x M) {s:List Int} (t0:1≤t) (t1:t≤x.1) (hs:(s.length:Int)=t - 1) (hp:PairOK x s (t - 1)):∀ (m:Nat) (k lo hi:Int),1≤k→k≤t→t - k<m →
  (∀ i,0≤i→i<k→ofS s i - D x t i≤lo∧hi≤ofS s i + D x i t)→(∃ i,0≤i∧i<t∧lo=ofS s i - D x t i)→(∃ i,0≤i∧i<t∧hi=ofS s i + D x i t) →
  ∃ lo' hi',law01_True_l2 F M s t m lo hi k=some (lo',hi')∧(∀ i,0≤i→i<t→ofS s i - D x t i≤lo'∧hi'≤ofS s i + D x i t)∧(∃ i,0≤i∧i<t∧lo'=ofS s i - D x t i)∧(∃ i,0≤i∧i<t∧hi'=ofS s i + D x i t)
 | 0,k,lo,hi,_,_,hm,_,_,_=>by omega
 | m + 1,k,lo,hi,k0,k1,hm,hb,hlo,hhi=>by
  obtain ⟨h1,h2,h3,_⟩:=csheet_ok h
  unfold law01_True_l2
  by_cases hlt:k<t
  ·obtain ⟨r1,f1,_,f2⟩:=hM t (by omega) t1
   obtain ⟨r2,f3,_,f4⟩:=hM k (by omega) (by omega)
   rw [if_pos (by simpa using hlt),ix_of k0 (by omega) (by omega),f1,f3]
   simp only [Option.bind_eq_bind,Option.bind_some]
   rw [f2 k (by omega) (by omega),f4 t (by omega) t1]
   simp only [Option.bind_some]
   have bs:=hp.bd h hP (by omega) (i:=k) (by omega) (by omega)
   have b1:=D_bd h hP (a:=t) (t:=k) (by omega) t1 (by omega) (by omega)
   have b2:=D_bd h hP (a:=k) (t:=t) (by omega) (by omega) (by omega) t1
   rw [w64_in (n:=ofS s k - D x t k) (by omega),w64_in (n:=ofS s k + D x k t) (by omega),w64_in (n:=k + 1) (by omega)]
   refine true_l2 h hP hM t0 t1 hs hp m (k + 1) _ _ (by omega) (by omega) (by omega) (fun i i0 i1=>?_) ?_ ?_
   ·by_cases e:i=k
    ·subst e
     constructor <;> split <;> omega
    ·have:=hb i i0 (by omega)
     constructor <;> split <;> omega
   ·split
    ·exact ⟨k,by omega,hlt,rfl⟩
    ·exact hlo
   ·split
    ·exact ⟨k,by omega,hlt,rfl⟩
    ·exact hhi
  ·have:k=t:=by omega
   subst this
   rw [if_neg (by simp)]
   exact ⟨lo,hi,rfl,hb,hlo,hhi⟩
theorem true_l1 (h:csheet x=0) (hP:Pot x) {M:List (List Int)} (hM:MD x M) {bys:List (KI .u16)} (hby:∀ y∈bys,0≤y.v∧y.v≤65535) (hbl:bys.length≤1000000) (hF:1000≤F):∀ (m:Nat) (s:List Int),(s.length:Int)≤x.1→x.1 - s.length<m→PairOK x s s.length →
  ∃ v,law01_True_l1 F x bys M m s ((s.length:Int) + 1)=some v∧(v.length:Int)=x.1∧PairOK x v x.1
 | 0,s,_,hm,_=>by omega
 | m + 1,s,hs,hm,hp=>by
  obtain ⟨h1,h2,h3,_⟩:=csheet_ok h
  unfold law01_True_l1
  by_cases hlt:(s.length:Int) + 1≤x.1
  ·obtain ⟨r1,f1,_,f2⟩:=hM ((s.length:Int) + 1) (by omega) hlt
   obtain ⟨r2,f3,_,f4⟩:=hM 0 (by omega) (by omega)
   rw [if_pos (by simpa using hlt),f1,f3]
   simp only [Option.bind_eq_bind,Option.bind_some]
   rw [f2 0 (by omega) (by omega)]
   simp only [Option.bind_some]
   rw [f4 ((s.length:Int) + 1) (by omega) hlt]
   simp only [Option.bind_some]
   have b1:=D_bd h hP (a:=(s.length:Int) + 1) (t:=0) (by omega) hlt (by omega) (by omega)
   rw [w64_in (n:=0 - D x ((s.length:Int) + 1) 0) (by omega)]
   have z:ofS s 0=0:=rfl
   obtain ⟨lo,hi,e1,e2,⟨i,i0,i1,ei⟩,⟨j,j0,j1,ej⟩⟩:=true_l2 (F:=F) h hP hM (s:=s) (t:=(s.length:Int) + 1) (by omega) hlt (by omega) (by rw [show (s.length:Int) + 1 - 1=(s.length:Int) by omega]; exact hp) F 1 (0 - D x ((s.length:Int) + 1) 0) (D x 0 ((s.length:Int) + 1)) (by omega) (by omega) (by omega) (fun i i0 i1=>by
    have:i=0:=by omega
    subst this
    rw [z]
    omega) ⟨0,by omega,by omega,by rw [z]⟩ ⟨0,by omega,by omega,by rw [z]; omega⟩
   rw [e1]
   simp only [Option.bind_some]
   have hlh:lo≤hi:=by
    rw [ei,ej]
    exact hp.lohi h hP hs (by omega) hlt i0 (by omega) j0 (by omega)
   have q1:=hp.bd h hP hs (i:=i) i0 (by omega)
   have q2:=hp.bd h hP hs (i:=j) j0 (by omega)
   have q3:=D_bd h hP (a:=(s.length:Int) + 1) (t:=i) (by omega) hlt i0 (by omega)
   have q4:=D_bd h hP (a:=j) (t:=(s.length:Int) + 1) j0 (by omega) (by omega) hlt
   have key:∀ v:Int,lo≤v→v≤hi→∃ w,((app 8 s [v]:Option (List Int)).bind fun x17=>law01_True_l1 F x bys M m x17 (w64 ((s.length:Int) + 1 + 1)))=some w∧(w.length:Int)=x.1∧PairOK x w x.1:=by
    intro v v0 v1
    rw [app_some (by simp only [List.length_cons,List.length_nil]; omega),w64_in (by omega)]
    simp only [Option.bind_some]
    have el:((s++[v]).length:Int)=(s.length:Int) + 1:=by simp
    rw [← el]
    obtain ⟨o1,o2⟩:=ofS_app (s:=s) (v:=v)
    refine true_l1 h hP hM hby hbl hF m (s++[v]) (by omega) (by omega) fun i j i0 i1 j0 j1=>?_
    by_cases ei:i=(s.length:Int) + 1
    ·by_cases ej:j=(s.length:Int) + 1
     ·rw [ei,ej,D_self h hP (by omega) hlt]
      omega
     ·have:=(e2 j j0 (by omega)).1
      rw [ei,o2,o1 j j0 (by omega)]
      omega
    ·by_cases ej:j=(s.length:Int) + 1
     ·have:=(e2 i i0 (by omega)).2
      rw [ej,o2,o1 i i0 (by omega)]
      omega
     ·rw [o1 i i0 (by omega),o1 j j0 (by omega)]
      exact hp i j i0 (by omega) j0 (by omega)
   by_cases hb:0<bys.length
   ·rw [if_pos (by simpa using hb)]
    unfold rem
    rw [if_neg (by omega)]
    simp only [Option.bind_some]
    have r0:0≤((s.length:Int) + 1).tmod (bys.length:Int):=Int.tmod_nonneg _ (by omega)
    have r1:((s.length:Int) + 1).tmod (bys.length:Int)<(bys.length:Int):=Int.tmod_lt_of_pos _ (by omega)
    have er:((s.length:Int) + 1).tmod (bys.length:Int)=((((s.length:Int) + 1).tmod (bys.length:Int)).toNat:Int):=by omega
    rw [er,ix_nat (by omega)]
    simp only [Option.bind_some]
    have hv:=hby _ (List.getElem_mem (l:=bys) (n:=(((s.length:Int) + 1).tmod (bys.length:Int)).toNat) (by omega))
    rw [w64_in (n:=hi - lo) (by omega),w64_in (n:=hi - lo + 1) (by omega),if_neg (by omega)]
    simp only [Option.bind_some]
    generalize bys[(((s.length:Int) + 1).tmod (bys.length:Int)).toNat]'_=bv at hv ⊢
    rw [w64_in (n:=bv.v) (by omega)]
    have p0:0≤bv.v.tmod (hi - lo + 1):=Int.tmod_nonneg _ (by omega)
    have p1:bv.v.tmod (hi - lo + 1)<hi - lo + 1:=Int.tmod_lt_of_pos _ (by omega)
    rw [w64_in (n:=lo + bv.v.tmod (hi - lo + 1)) (by omega)]
    exact key _ (by omega) (by omega)
   ·rw [if_neg (by simpa using hb)]
    simp only [Option.bind_some]
    exact key lo (by omega) hlh
  ·have:(s.length:Int)=x.1:=by omega
   rw [if_neg (by simpa using hlt)]
   exact ⟨s,rfl,this,by rw [← this]; exact hp⟩
theorem true_eq (h:csheet x=0) (hP:Pot x) {bys:List (KI .u16)} (hby:∀ y∈bys,0≤y.v∧y.v≤65535) (hbl:bys.length≤1000000) (hF:1000≤F):∃ v,law01_True F x bys=some v∧(v.length:Int)=x.1∧PairOK x v x.1∧cspeeds x v=0:=by
 obtain ⟨h1,h2,h3,_⟩:=csheet_ok h
 obtain ⟨M,e,_,hM⟩:=far_pot h hF hP
 obtain ⟨v,e1,e2,e3⟩:=true_l1 (F:=F) h hP (M:=M) hM hby hbl hF F [] (by simp; omega) (by simp; omega) (fun i j i0 i1 j0 j1=>by
  simp only [List.length_nil,Int.natCast_zero] at i1 j1
  have ei:i=0:=by omega
  have ej:j=0:=by omega
  subst ei
  subst ej
  rw [D_self h hP (by omega) (by omega)]
  omega)
 refine ⟨v,?_,e2,e3,pot_pair h hP e2 e3⟩
 unfold law01_True
 have ex:(x.1,x.2)=x:=rfl
 rw [ex,e]
 simp only [Option.bind_eq_bind,Option.bind_some]
 simp only [List.length_nil,Int.natCast_zero,Int.zero_add] at e1
 rw [e1]
 rfl
theorem true_dist (h:csheet x=0) (hP:Pot x) {s:List Int} (hs:cspeeds x s=0) (a0:0≤a) (a1:a≤x.1) (b0:0≤b) (b1:b≤x.1):ofS s b≤ofS s a + D x a b :=
 (D_dist h hP a0 a1 b0 b1).1.pot (true_pot hs).2.2.2
theorem hFF:100000000000000000≤FF:=Nat.le_refl _
theorem hF1:1000≤FF:=by decide
theorem hF2:200<FF:=by decide
theorem tmod_in {u n:Int} (hu:0≤u) (hn:0<n):0≤u.tmod n∧u.tmod n<n:=⟨Int.tmod_nonneg _ hu,Int.tmod_lt_of_pos _ hn⟩
end
end Go.Proofs.YtfmelbioccbdoaaGreat
end
section
namespace Go.Proofs.YtfmelbioccbdoaaGreat
open Go Go.Md Go.RowKit
namespace Sg
abbrev To:=(Int×Int)×Int
def hi (l:List To) (p:Nat):Int:=(l[p]?.getD default).1.2
def Bd (l:List To):Prop:=∀ x∈l,0≤x.1.2∧x.1.2≤10000
theorem hi_get {l:List To} {p:Nat} (h:p<l.length):hi l p=l[p].1.2:=by simp [hi,List.getElem?_eq_getElem h]
theorem Bd.hi {l:List To} (h:Bd l) {p:Nat} (hp:p<l.length):0≤hi l p∧hi l p≤10000:=by rw [hi_get hp]; exact h _ (List.getElem_mem hp)
theorem rset_nat {α:Type} {l:List α} {k:Nat} {x:α}:rset l (k:Int) x=l.set k x:=by simp [rset]
theorem hi_set {l:List To} {k p:Nat} {x:To} (h:k<l.length):hi (l.set k x) p=if p=k then x.1.2 else hi l p:=by
 unfold hi
 by_cases e:p=k
 ·subst e; simp [List.getElem?_set_self h]
 ·rw [List.getElem?_set_ne (fun h=>e h.symm),if_neg e]
def Srt (l:List To) (a b:Nat):Prop:=∀ p q,a≤p→p<q→q<b→hi l p≤hi l q
def But (l:List To) (a b j:Nat):Prop:=(∀ p q,a≤p→p<q→q<b→p≠j→q≠j→hi l p≤hi l q)∧∀ q,j<q→q<b→hi l j≤hi l q
def swp (l:List To) (i j:Nat):List To:=(l.set i (l[j]?.getD default)).set j (l[i]?.getD default)
theorem swp_perm {l:List To} {i j:Nat} (hi:i<l.length) (hj:j<l.length):(swp l i j).Perm l:=by
 have:=List.set_set_perm hi hj
 unfold swp
 rw [List.getElem?_eq_getElem hi,List.getElem?_eq_getElem hj]
 exact this
theorem swp_len {l:List To} {i j:Nat}:(swp l i j).length=l.length:=by simp [swp]
theorem hi_swp {l:List To} {i j p:Nat} (h1:i<l.length) (h2:j<l.length):hi (swp l i j) p=if p=j then hi l i else if p=i then hi l j else hi l p:=by
 unfold swp
 rw [hi_set (by simpa using h2),hi_set h1]
 rfl
theorem swp_get {l:List To} {i j p:Nat} (h1:p≠i) (h2:p≠j):(swp l i j)[p]?=l[p]?:=by
 unfold swp
 rw [List.getElem?_set_ne (fun h=>h2 h.symm),List.getElem?_set_ne (fun h=>h1 h.symm)]
theorem cmp_eq {l:List To} (hb:Bd l) {x y:To} (hx:x∈l) (hy:y∈l):scale_newSong_1 ((x.1.1,x.1.2),x.2) ((y.1.1,y.1.2),y.2)=some (x.1.2 - y.1.2):=by
 unfold scale_newSong_1
 have h1:=hb x hx; have h2:=hb y hy
 show some (w64 (x.1.2 - y.1.2))=_
 rw [w64_in (by omega)]
theorem Bd.perm {l k:List To} (h:Bd l) (p:k.Perm l):Bd k:=fun x hx=>h x (p.mem_iff.1 hx)
theorem ins2 {F a b:Nat}:∀ (m j:Nat) (y:List To),Bd y→y.length<1000000→j<y.length→a≤j→j<b→b≤y.length→j - a<m→But y a b j →
  ∃ z,slices_insertionSortCmpFunc__scale_tone_l2 F (a:Int) m y (j:Int)=some z∧z.Perm y∧Srt z a b∧∀ p,(p<a∨b≤p)→z[p]?=y[p]?
 | 0,j,y,_,_,_,_,_,_,h,_=>by omega
 | m + 1,j,y,hb,hl,hj,haj,hjb,hby,hm,hbut=>by
  unfold slices_insertionSortCmpFunc__scale_tone_l2
  by_cases h0:a<j
  ·have hj1:j - 1<y.length:=by omega
   rw [if_pos (show decide ((a:Int)<(j:Int))=true by simpa using h0),show (w64 ((j:Int) - 1))=((j - 1:Nat):Int) by rw [w64_in (by omega)]; omega,ix_nat hj,ix_nat hj1]
   simp only [Option.bind_eq_bind,Option.bind_some]
   rw [cmp_eq hb (List.getElem_mem hj) (List.getElem_mem hj1)]
   simp only [Option.bind_some]
   by_cases hlt:y[j].1.2 - y[j - 1].1.2<0
   ·rw [if_pos (by simpa using hlt),rset_nat,ix_nat (show j - 1<(y.set j _).length by simpa using hj1)]
    simp only [Option.bind_some]
    rw [rset_nat]
    have e:(y.set j ((y[j - 1].1.1,y[j - 1].1.2),y[j - 1].2)).set (j - 1) ((y[j].1.1,y[j].1.2),y[j].2)=swp y j (j - 1):=by
     unfold swp; rw [List.getElem?_eq_getElem hj,List.getElem?_eq_getElem hj1]; rfl
    rw [e]
    have hlt':hi y j≤hi y (j - 1):=by rw [hi_get hj,hi_get hj1]; omega
    have hH:∀ p,hi (swp y j (j - 1)) p=if p=j - 1 then hi y j else if p=j then hi y (j - 1) else hi y p:=fun p=>hi_swp hj hj1
    obtain ⟨z,e1,e2,e3,e4⟩:=ins2 (F:=F) (a:=a) (b:=b) m (j - 1) (swp y j (j - 1)) (hb.perm (swp_perm hj hj1)) (by rw [swp_len]; exact hl) (by rw [swp_len]; exact hj1) (by omega) (by omega) (by rw [swp_len]; exact hby) (by omega) (by
     constructor
     ·intro p q h1 h2 h3 h4 h5
      rw [hH,hH,if_neg h4,if_neg h5]
      by_cases e1:p=j
      ·rw [if_pos e1,if_neg (by omega)]; exact hbut.1 _ _ (by omega) (by omega) h3 (by omega) (by omega)
      ·rw [if_neg e1]
       by_cases e2:q=j
       ·rw [if_pos e2]; exact hbut.1 _ _ h1 (by omega) (by omega) e1 (by omega)
       ·rw [if_neg e2]; exact hbut.1 _ _ h1 h2 h3 e1 e2
     ·intro q h1 h2
      rw [hH,hH,if_pos rfl,if_neg (by omega)]
      by_cases e2:q=j
      ·rw [if_pos e2]; exact hlt'
      ·rw [if_neg e2]; exact hbut.2 _ (by omega) h2)
    exact ⟨z,e1,e2.trans (swp_perm hj hj1),e3,fun p hp=>by rw [e4 p hp,swp_get (by omega) (by omega)]⟩
   ·rw [if_neg (by simpa using hlt)]
    refine ⟨y,rfl,.refl _,?_,fun _ _=>rfl⟩
    have hle:hi y (j - 1)≤hi y j:=by rw [hi_get hj,hi_get hj1]; omega
    intro p q h1 h2 h3
    by_cases e1:p=j
    ·subst e1; exact hbut.2 _ h2 h3
    ·by_cases e2:q=j
     ·subst e2
      by_cases e3:p=q - 1
      ·rw [e3]; exact hle
      ·exact Int.le_trans (hbut.1 p (q - 1) h1 (by omega) (by omega) e1 (by omega)) hle
     ·exact hbut.1 _ _ h1 h2 h3 e1 e2
  ·rw [if_neg (show ¬ decide ((a:Int)<(j:Int))=true by simpa using h0)]
   simp only [Option.bind_eq_bind,Option.bind_some]
   rw [if_neg (by simp)]
   refine ⟨y,rfl,.refl _,?_,fun _ _=>rfl⟩
   have:j=a:=by omega
   subst this
   intro p q h1 h2 h3
   by_cases e1:p=j
   ·subst e1; exact hbut.2 _ h2 h3
   ·exact hbut.1 _ _ h1 h2 h3 e1 (by omega)
theorem ins1 {F a b:Nat} (hF:1000000<F):∀ (m i:Nat) (y:List To),Bd y→y.length<1000000→a<i→b≤y.length→b - i<m→Srt y a i →
  ∃ z,slices_insertionSortCmpFunc__scale_tone_l1 F (a:Int) (b:Int) m y (i:Int)=some z∧z.Perm y∧Srt z a b∧∀ p,(p<a∨b≤p)→z[p]?=y[p]?
 | 0,i,y,_,_,_,_,h,_=>by omega
 | m + 1,i,y,hb,hl,hai,hby,hm,hs=>by
  unfold slices_insertionSortCmpFunc__scale_tone_l1
  by_cases h0:i<b
  ·rw [if_pos (show decide ((i:Int)<(b:Int))=true by simpa using h0)]
   obtain ⟨z,e1,e2,e3,e4⟩:=ins2 (F:=F) (a:=a) (b:=i + 1) F i y hb hl (by omega) (by omega) (by omega) (by omega) (by omega)
    ⟨fun p q h1 h2 h3 h4 h5=>hs p q h1 h2 (by omega),fun q h1 h2=>by omega⟩
   rw [e1]
   simp only [Option.bind_eq_bind,Option.bind_some]
   rw [show (w64 ((i:Int) + 1))=((i + 1:Nat):Int) by rw [w64_in (by omega)]; omega]
   obtain ⟨z2,f1,f2,f3,f4⟩:=ins1 (a:=a) (b:=b) hF m (i + 1) z (hb.perm e2) (by rw [e2.length_eq]; exact hl) (by omega) (by rw [e2.length_eq]; exact hby) (by omega) e3
   exact ⟨z2,f1,f2.trans e2,f3,fun p hp=>by rw [f4 p hp,e4 p (by omega)]⟩
  ·rw [if_neg (show ¬ decide ((i:Int)<(b:Int))=true by simpa using h0)]
   exact ⟨y,rfl,.refl _,fun p q h1 h2 h3=>hs p q h1 h2 (by omega),fun _ _=>rfl⟩
theorem ins_eq {F a b:Nat} (hF:1000000<F) {y:List To} (hb:Bd y) (hl:y.length<1000000) (hby:b≤y.length) (ha:a<1000000) :
  ∃ z,slices_insertionSortCmpFunc__scale_tone F y (a:Int) (b:Int)=some z∧z.Perm y∧Srt z a b∧∀ p,(p<a∨b≤p)→z[p]?=y[p]?:=by
 unfold slices_insertionSortCmpFunc__scale_tone
 rw [show (w64 ((a:Int) + 1))=((a + 1:Nat):Int) by rw [w64_in (by omega)]; omega]
 obtain ⟨z,e1,e2⟩:=ins1 (a:=a) (b:=b) hF F (a + 1) y hb hl (by omega) hby (by omega) (fun p q h1 h2 h3=>by omega)
 rw [e1]
 exact ⟨z,rfl,e2⟩
theorem sort_eq {F:Nat} (hF:1000000<F) {y:List To} (hb:Bd y) (hl:y.length≤20):∃ z,slices_SortStableFunc_scale_tone F y=some z∧z.Perm y∧Srt z 0 y.length:=by
 obtain ⟨G,rfl⟩:∃ G,F=G + 2:=⟨F - 2,by omega⟩
 unfold slices_SortStableFunc_scale_tone slices_stableCmpFunc__scale_tone
 unfold slices_stableCmpFunc__scale_tone_l1 slices_stableCmpFunc__scale_tone_l2
 have hno:¬ decide ((20:Int)<(y.length:Int))=true:=by simp; omega
 by_cases h20:y.length=20
 ·rw [if_pos (by simp; omega)]
  obtain ⟨z,e1,e2,e3,-⟩:=ins_eq (F:=G + 2) (a:=0) (b:=20) hF hb (by omega) (by omega) (by omega)
  rw [show slices_insertionSortCmpFunc__scale_tone (G + 2) y 0 20=some z from e1]
  simp only [Option.bind_eq_bind,Option.bind_some]
  unfold slices_stableCmpFunc__scale_tone_l1
  rw [show w64 ((20:Int) + 20)=40 from rfl,if_neg (by simp; omega)]
  simp only [Option.bind_some]
  obtain ⟨z2,f1,f2,f3,f4⟩:=ins_eq (F:=G + 2) (a:=20) (b:=y.length) hF (hb.perm e2) (by rw [e2.length_eq]; omega) (by rw [e2.length_eq]; omega) (by omega)
  rw [show slices_insertionSortCmpFunc__scale_tone (G + 2) z 20 (y.length:Int)=some z2 from f1]
  simp only [Option.bind_some]
  rw [if_neg hno]
  refine ⟨z2,rfl,f2.trans e2,fun p q h1 h2 h3=>?_⟩
  have hh:∀ r,r<y.length→hi z2 r=hi z r:=fun r hr=>by unfold hi; rw [f4 r (by omega)]
  rw [hh p (by omega),hh q h3]
  exact e3 p q h1 h2 (by omega)
 ·rw [if_neg (by simp; omega)]
  simp only [Option.bind_eq_bind,Option.bind_some]
  obtain ⟨z,e1,e2,e3,-⟩:=ins_eq (F:=G + 2) (a:=0) (b:=y.length) hF hb (by omega) (Nat.le_refl _) (by omega)
  rw [show slices_insertionSortCmpFunc__scale_tone (G + 2) y 0 (y.length:Int)=some z from e1]
  simp only [Option.bind_some]
  rw [if_neg hno]
  exact ⟨z,rfl,e2,e3⟩
end Sg
end Go.Proofs.YtfmelbioccbdoaaGreat
end
section
namespace Go.Proofs.YtfmelbioccbdoaaGreat
open Go Go.Md Go.RowKit
namespace Sg
abbrev SL:Nat:=20
theorem idx_range {l:List (Int×Int)} {f:(Int×Int)→Option Bool} (F:Nat):∀ m k,slices_IndexFunc_api_Range_l1 F l f m k=idxL l f m k
 | 0,_=>rfl
 | m + 1,k=>by unfold slices_IndexFunc_api_Range_l1 idxL; simp only [idx_range F m]
theorem con_range {l:List (Int×Int)} {f:(Int×Int)→Option Bool} {p:(Int×Int)→Bool} {F:Nat} (hf:∀ x∈l,f x=some (p x)) (hF:l.length<F) (hl:l.length<4611686018427387904):slices_ContainsFunc_api_Range F l f=some (l.any p):=by
 obtain ⟨r,h1,h2,h3⟩:=idxL_any hf hl F 0 (Nat.zero_le _) (by omega)
 unfold slices_ContainsFunc_api_Range slices_IndexFunc_api_Range
 rw [idx_range]
 simp only [Int.natCast_zero,List.drop_zero] at h1 h2 h3
 rw [h1]
 cases hp:l.any p with
 | true=>obtain ⟨j,rfl⟩:=h2 hp; simp
 | false=>rw [h3 hp]; simp
def okR (x:Int×Int):Bool:=!((decide (x.1<0) || decide (x.2<x.1)) || decide (10000<x.2))
theorem okR_iff {x:Int×Int}:okR x=true↔0≤x.1∧x.1≤x.2∧x.2≤10000:=by
 unfold okR; simp; omega
theorem within_eq {F:Nat} {l:List (Int×Int)} (hF:l.length<F) (hl:l.length<4611686018427387904):scale_within F l=some (l.all okR):=by
 unfold scale_within
 rw [con_range (p:=fun x=>!okR x) (fun x _=>by unfold scale_within_1 okR; rw [Bool.not_not]) hF hl]
 simp only [Option.bind_eq_bind,Option.bind_some]
 rw [any_not,Bool.not_not]
def csong (l:List (Int×Int)):Int:=if l.length=0∨24<l.length then 6 else if l.all okR=true then 0 else 2
theorem csong_ok {l:List (Int×Int)}:csong l=0↔1≤l.length∧l.length≤24∧∀ x∈l,okR x=true:=by
 unfold csong
 by_cases h:l.length=0∨24<l.length
 ·rw [if_pos h]; constructor
  ·intro e; cases e
  ·omega
 ·rw [if_neg h]
  by_cases h2:l.all okR=true
  ·rw [if_pos h2]; rw [List.all_eq_true] at h2; exact ⟨fun _=>⟨by omega,by omega,h2⟩,fun _=>rfl⟩
  ·rw [if_neg h2]; constructor
   ·intro e; cases e
   ·intro h3; exact absurd (List.all_eq_true.2 h3.2.2) h2
theorem checkSong_eq {F:Nat} (hF:100<F) (l:List (Int×Int)):scale_CheckSong F l=some (csong l):=by
 unfold scale_CheckSong csong
 by_cases h:l.length=0∨24<l.length
 ·rw [if_pos h,if_pos (by simp only [Bool.or_eq_true,decide_eq_true_eq]; omega)]
 ·rw [if_neg h,if_neg (by simp only [Bool.or_eq_true,decide_eq_true_eq]; omega),within_eq (by omega) (by omega)]
  simp only [Option.bind_eq_bind,Option.bind_some]
  cases l.all okR <;> rfl
theorem rcheckSong_l1 {F:Nat} {l:List (Int×Int)} (hl:l.length<4611686018427387904):∀ (m k:Nat),k≤l.length→l.length - k<m →
  ref03_CheckSong_l1 F l m (k:Int)=some (if (l.drop k).all okR=true then .inr () else .inl 2)
 | 0,k,_,h=>by omega
 | m + 1,k,hk,h=>by
  unfold ref03_CheckSong_l1
  by_cases hlt:k<l.length
  ·rw [if_pos (by simpa using hlt),ix_nat hlt]
   have hd:l.drop k=l[k]::l.drop (k + 1):=List.drop_eq_getElem_cons hlt
   simp only [Option.bind_eq_bind,Option.bind_some]
   have ih:=rcheckSong_l1 (F:=F) hl m (k + 1) (by omega) (by omega)
   rw [hd,List.all_cons]
   have hx:(if (decide (l[k].1<0))=true then if True then some true else some (decide (10000<l[k].2)) else if (decide (l[k].2<l[k].1))=true then some true else some (decide (10000<l[k].2)):Option Bool)=some (!okR l[k]):=by
    unfold okR; rw [Bool.not_not]
    by_cases a:l[k].1<0 <;> by_cases b:l[k].2<l[k].1 <;> simp [a,b]
   rw [hx]
   simp only [Option.bind_some]
   cases okR l[k]
   ·rfl
   ·rw [if_neg (by simp),w64_in (by omega)]
    exact ih
  ·rw [if_neg (by simpa using hlt),List.drop_of_length_le (by omega)]
   rfl
theorem rcheckSong_eq {F:Nat} (hF:100<F) (l:List (Int×Int)):ref03_CheckSong F l=some (csong l):=by
 unfold ref03_CheckSong csong
 by_cases h:l.length=0∨24<l.length
 ·rw [if_pos h,if_pos (by simp only [Bool.or_eq_true,decide_eq_true_eq]; omega)]
 ·rw [if_neg h,if_neg (by simp only [Bool.or_eq_true,decide_eq_true_eq]; omega)]
  have:=rcheckSong_l1 (F:=F) (l:=l) (by omega) F 0 (by omega) (by omega)
  rw [show ((0:Nat):Int)=0 from rfl,List.drop_zero] at this
  rw [this]
  cases l.all okR <;> rfl
def tn:Nat→List (Int×Int)→List To
 | _,[]=>[]
 | k,a::l=>(a,(k:Int))::tn (k + 1) l
theorem tn_len:∀ (l:List (Int×Int)) (k:Nat),(tn k l).length=l.length
 | [],_=>rfl
 | a::l,k=>by simp [tn,tn_len l]
theorem tn_mem {x:To}:∀ (l:List (Int×Int)) (k:Nat),x∈tn k l↔∃ i:Nat,l[i]?=some x.1∧x.2=((k + i:Nat):Int)
 | [],k=>by simp [tn]
 | a::l,k=>by
  rw [tn,List.mem_cons,tn_mem l (k + 1)]
  constructor
  ·rintro (rfl | ⟨i,h1,h2⟩)
   ·exact ⟨0,rfl,rfl⟩
   ·exact ⟨i + 1,by simpa using h1,by rw [h2]; congr 1; omega⟩
  ·rintro ⟨i,h1,h2⟩
   cases i with
   | zero =>
    left
    have:a=x.1:=by simpa using h1
    rw [this]
    exact Prod.ext rfl h2
   | succ i=>right; exact ⟨i,by simpa using h1,by rw [h2]; congr 1; omega⟩
theorem newSong_l1 {F:Nat} {l:List (Int×Int)} (hl:l.length≤1000):∀ (m k:Nat) (Y:List To),k≤l.length→l.length - k<m→Y.length≤k →
  scale_newSong_l1 F l m (k:Int) ⟨Y⟩=some ⟨Y++tn k (l.drop k)⟩
 | 0,k,_,_,h,_=>by omega
 | m + 1,k,Y,hk,h,hY=>by
  unfold scale_newSong_l1
  by_cases hlt:k<l.length
  ·rw [if_pos (by simpa using hlt),ix_nat hlt]
   have hd:l.drop k=l[k]::l.drop (k + 1):=List.drop_eq_getElem_cons hlt
   simp only [Option.bind_eq_bind,Option.bind_some]
   rw [app_some (by simp only [List.length_cons,List.length_nil]; omega)]
   simp only [Option.bind_some]
   rw [show w64 ((k:Int) + 1)=((k + 1:Nat):Int) by rw [w64_in (by omega)]; rfl,newSong_l1 hl m (k + 1) _ (by omega) (by omega) (by simp only [List.length_append,List.length_cons,List.length_nil]; omega),hd,tn,List.append_assoc]
   rfl
  ·rw [if_neg (by simpa using hlt),List.drop_of_length_le (by omega)]
   simp [tn]
theorem bd_tn {l:List (Int×Int)} (h:∀ x∈l,okR x=true):Bd (tn 0 l):=by
 intro x hx
 obtain ⟨i,h1,-⟩:=(tn_mem l 0).1 hx
 have:=okR_iff.1 (h x.1 (List.mem_of_getElem? h1))
 omega
abbrev Asc (S:List To):Prop:=S.Pairwise fun x y=>x.1.2≤y.1.2
theorem newSong_eq {F:Nat} (hF:1000000<F) {l:List (Int×Int)} (hl:l.length≤SL) (h:∀ x∈l,okR x=true) :
  ∃ S,scale_newSong F l=some ⟨some ⟨S⟩⟩∧S.Perm (tn 0 l)∧Asc S:=by
 unfold scale_newSong
 have hl':l.length≤20:=hl
 have e:=newSong_l1 (F:=F) (l:=l) (by omega) F 0 [] (by omega) (by omega) (Nat.le_refl _)
 rw [List.drop_zero,List.nil_append] at e
 rw [show scale_newSong_l1 F l F 0 ⟨[]⟩=some ⟨tn 0 l⟩ from e]
 simp only [Option.bind_eq_bind,Option.bind_some]
 obtain ⟨S,h1,h2,h3⟩:=sort_eq hF (bd_tn h) (by rw [tn_len]; omega)
 rw [h1]
 refine ⟨S,rfl,h2,?_⟩
 rw [Asc,List.pairwise_iff_getElem]
 intro i j hi' hj hij
 have:=h3 i j (Nat.zero_le _) hij (by rw [← h2.length_eq]; exact hj)
 rwa [hi_get hi',hi_get hj] at this
def gr:List To→Int→List To
 | [],_=>[]
 | x::us,y=>if x.1.1≤y then gr us y else x::gr us x.1.2
theorem high_l1 {F:Nat}:∀ (S:List To) (s t:List Int) (y:Int),(∀ x∈S,x.1.1≤x.1.2)→s.length + S.length≤1000→t.length + S.length≤1000 →
  ∃ z,scale_song_high_l1 F (1,0) S s t y=some (s++(gr S y).map (·.1.2),t++(gr S y).map (·.2),z)
 | [],s,t,y,_,_,_=>⟨y,by simp [scale_song_high_l1,gr]⟩
 | x::us,s,t,y,h,h1,h2=>by
  unfold scale_song_high_l1 gr
  rw [List.length_cons] at h1 h2
  by_cases c:x.1.1≤y
  ·rw [if_pos (by simpa using c),if_pos c]
   exact high_l1 us s t y (fun x hx=>h x (List.mem_cons_of_mem _ hx)) (by omega) (by omega)
  ·rw [if_neg (by simpa using c),if_neg c]
   rw [if_neg (show ¬ ((decide (((1:Int),(0:Int)).1≤x.1.2)) && (decide (x.1.2≤((1:Int),(0:Int)).2)))=true by simp; omega)]
   simp only [Option.bind_eq_bind,Option.bind_some]
   rw [app_some (by simp only [List.length_cons,List.length_nil]; omega)]
   simp only [Option.bind_some]
   have:=h x List.mem_cons_self
   rw [if_neg (show ¬ decide (x.1.2<x.1.1)=true by simp; omega),app_some (by simp only [List.length_cons,List.length_nil]; omega)]
   simp only [Option.bind_some]
   obtain ⟨z,e⟩:=high_l1 (F:=F) us (s++[x.1.2]) (t++[x.2]) x.1.2 (fun x hx=>h x (List.mem_cons_of_mem _ hx)) (by simp only [List.length_append,List.length_cons,List.length_nil]; omega) (by simp only [List.length_append,List.length_cons,List.length_nil]; omega)
   exact ⟨z,by rw [e]; simp⟩
theorem high_eq {F:Nat} {S:List To} (h:∀ x∈S,x.1.1≤x.1.2) (hl:S.length≤1000):scale_song_high F ⟨S⟩ (1,0)=some ((gr S (-1)).map (·.1.2),(gr S (-1)).map (·.2)):=by
 unfold scale_song_high
 obtain ⟨z,e⟩:=high_l1 (F:=F) S [] [] (-1) h (by simpa using hl) (by simpa using hl)
 show (scale_song_high_l1 F (1,0) S [] [] (-1)) >>= _=_
 rw [e]; rfl
theorem gr_sub:∀ (S:List To) (y:Int),(gr S y).Sublist S
 | [],_=>.slnil
 | a::us,y=>by
  unfold gr; split
  ·exact (gr_sub us y).cons _
  ·exact (gr_sub us _).cons_cons _
theorem gr_lo:∀ (S:List To) (y:Int),(∀ x∈S,x.1.1≤x.1.2)→∀ x∈gr S y,y<x.1.1
 | [],_,_,x,h=>by cases h
 | a::us,y,hv,x,h=>by
  unfold gr at h
  split at h
  ·exact gr_lo us y (fun x hx=>hv x (List.mem_cons_of_mem _ hx)) x h
  ·rename_i c
   have:=hv a List.mem_cons_self
   rcases List.mem_cons.1 h with rfl | h
   ·omega
   ·have:=gr_lo us a.1.2 (fun x hx=>hv x (List.mem_cons_of_mem _ hx)) x h; omega
theorem gr_apart:∀ (S:List To) (y:Int),(∀ x∈S,x.1.1≤x.1.2)→(gr S y).Pairwise fun a b=>a.1.2<b.1.1
 | [],_,_=>.nil
 | a::us,y,hv=>by
  have hv':=fun x hx=>hv x (List.mem_cons_of_mem _ hx)
  unfold gr; split
  ·exact gr_apart us y hv'
  ·exact .cons (fun x hx=>gr_lo us _ hv' x hx) (gr_apart us _ hv')
theorem gr_met:∀ (S:List To) (y:Int),(∀ x∈S,x.1.1≤x.1.2)→Asc S→(∀ x∈S,y≤x.1.2)→∀ x∈S,(x.1.1≤y)∨∃ g∈gr S y,x.1.1≤g.1.2∧g.1.2≤x.1.2
 | [],_,_,_,_,x,h=>by cases h
 | a::us,y,hv,hs,hy,x,h=>by
  have hv':=fun x hx=>hv x (List.mem_cons_of_mem _ hx)
  have hs':=List.pairwise_cons.1 hs
  unfold gr; split
  ·rename_i c
   rcases List.mem_cons.1 h with rfl | h
   ·exact .inl c
   ·exact gr_met us y hv' hs'.2 (fun x hx=>hy x (List.mem_cons_of_mem _ hx)) x h
  ·rename_i c
   rcases List.mem_cons.1 h with rfl | h
   ·exact .inr ⟨_,List.mem_cons_self,hv _ List.mem_cons_self,Int.le_refl _⟩
   ·rcases gr_met us a.1.2 hv' hs'.2 (fun x hx=>hs'.1 x hx) x h with h1 | ⟨g,h1,h2⟩
    ·exact .inr ⟨_,List.mem_cons_self,h1,hs'.1 x h⟩
    ·exact .inr ⟨g,List.mem_cons_of_mem _ h1,h2⟩
theorem apart_le:∀ (P:List To) (q:List Int),P.Pairwise (fun a b=>a.1.2<b.1.1)→(∀ x∈P,∃ e∈q,x.1.1≤e∧e≤x.1.2)→P.length≤q.length
 | [],q,_,_=>Nat.zero_le _
 | a::P,q,hp,hq=>by
  have hp':=List.pairwise_cons.1 hp
  obtain ⟨e,he,h1,h2⟩:=hq a List.mem_cons_self
  have ih:=apart_le P (q.filter fun v=>decide (a.1.2<v)) hp'.2 (fun x hx=>by
   obtain ⟨v,hv,h3,h4⟩:=hq x (List.mem_cons_of_mem _ hx)
   have:=hp'.1 x hx
   exact ⟨v,List.mem_filter.2 ⟨hv,by simp; omega⟩,h3,h4⟩)
  have hlt:(q.filter fun v=>decide (a.1.2<v)).length<q.length:=by
   rw [← List.countP_eq_length_filter]
   have h3:=List.countP_le_length (p:=fun v=>decide (a.1.2<v)) (l:=q)
   rcases Nat.lt_or_ge (q.countP fun v=>decide (a.1.2<v)) q.length with h | h
   ·exact h
   ·have:=List.countP_eq_length.1 (Nat.le_antisymm h3 h) e he
    simp at this; omega
  rw [List.length_cons]; omega
end Sg
end Go.Proofs.YtfmelbioccbdoaaGreat
end
section
namespace Go.Proofs.YtfmelbioccbdoaaGreat
open Go Go.Md Go.RowKit
namespace Sg
def okS (v:Int):Bool:=decide (0≤v) && decide (v≤10000)
def incr (q:List Int):Bool:=decide (q.Pairwise (·<·))
def met (q:List Int) (r:Int×Int):Bool:=q.any fun v=>decide (r.1≤v) && decide (v≤r.2)
theorem met_iff {q:List Int} {r:Int×Int}:met q r=true↔∃ e∈q,r.1≤e∧e≤r.2:=by
 unfold met; simp
def cchk (l:List (Int×Int)) (q:List Int):Int :=
 if csong l≠0 then csong l else if 24<q.length then 6 else if q.all okS=false then 3 else if incr q=false then 16 else 0
def cscale (l:List (Int×Int)) (q:List Int):Int:=if cchk l q≠0 then cchk l q else if l.all (met q)=true then 0 else 19
theorem cscale_ok {l:List (Int×Int)} {q:List Int} (h:csong l=0) (hl:q.length≤24) (h1:∀ v∈q,0≤v∧v≤10000) (h2:q.Pairwise (·<·)) (h3:∀ r∈l,∃ e∈q,r.1≤e∧e≤r.2):cscale l q=0:=by
 have e1:q.all okS=true:=List.all_eq_true.2 fun v hv=>by have:=h1 v hv; unfold okS; simp; omega
 have e2:incr q=true:=decide_eq_true h2
 have e:cchk l q=0:=by
  unfold cchk
  rw [if_neg (fun e=>e h),if_neg (by omega),if_neg (by rw [e1]; simp),if_neg (by rw [e2]; simp)]
 unfold cscale
 rw [if_neg (fun h=>h e),if_pos (List.all_eq_true.2 fun r hr=>met_iff.2 (h3 r hr))]
theorem drop_pw {q:List Int} {k:Nat} (hk:1≤k) (hlt:k<q.length):incr (q.drop (k - 1))=(decide (q[k - 1]<q[k]) && incr (q.drop k)):=by
 have e1:q.drop (k - 1)=q[k - 1]::q.drop k:=by
  have:=List.drop_eq_getElem_cons (show k - 1<q.length by omega)
  rw [this]; congr 2; omega
 have e2:q.drop k=q[k]::q.drop (k + 1):=List.drop_eq_getElem_cons hlt
 unfold incr
 rw [← Bool.decide_and,e1]
 apply decide_eq_decide.2
 rw [List.pairwise_cons]
 constructor
 ·rintro ⟨h1,h2⟩; exact ⟨h1 _ (by rw [e2]; exact List.mem_cons_self),h2⟩
 ·rintro ⟨h1,h2⟩
  refine ⟨fun v hv=>?_,h2⟩
  rw [e2] at hv h2
  rcases List.mem_cons.1 hv with rfl | hv
  ·exact h1
  ·exact Int.lt_trans h1 ((List.pairwise_cons.1 h2).1 v hv)
theorem check_l1 {F:Nat} {q:List Int} (hl:q.length<1000000):∀ (m k:Nat),1≤k→q.length - k<m →
  scale_check_l1 F q m (k:Int)=some (if incr (q.drop (k - 1))=true then .inr () else .inl 16)
 | 0,k,_,h=>by omega
 | m + 1,k,hk,h=>by
  unfold scale_check_l1
  by_cases hlt:k<q.length
  ·rw [if_pos (by simpa using hlt),ix_nat hlt,show w64 ((k:Int) - 1)=((k - 1:Nat):Int) by rw [w64_in (by omega)]; omega,ix_nat (show k - 1<q.length by omega)]
   simp only [Option.bind_eq_bind,Option.bind_some]
   rw [drop_pw hk hlt]
   by_cases c:q[k - 1]<q[k]
   ·rw [if_neg (by simpa using c),show w64 ((k:Int) + 1)=((k + 1:Nat):Int) by rw [w64_in (by omega)]; rfl,check_l1 hl m (k + 1) (by omega) (by omega),decide_eq_true c,Bool.true_and]
    rfl
   ·rw [if_pos (by simpa using c),decide_eq_false c,Bool.false_and]; rfl
  ·rw [if_neg (by simpa using hlt)]
   have:incr (q.drop (k - 1))=true:=by
    unfold incr; apply decide_eq_true
    have hl2:(q.drop (k - 1)).length≤1:=by rw [List.length_drop]; omega
    match q.drop (k - 1),hl2 with
    | [],_=>exact .nil
    | [a],_=>simp
   rw [this]; rfl
theorem check_eq {F:Nat} (hF:1000000<F) {l:List (Int×Int)} {q:List Int}:scale_check F l q=some (cchk l q):=by
 unfold scale_check cchk
 rw [checkSong_eq (by omega)]
 simp only [Option.bind_eq_bind,Option.bind_some]
 by_cases c0:csong l=0
 ·rw [if_neg (by simpa using c0),if_neg (show ¬ (csong l≠0) from fun e=>e c0)]
  by_cases c1:24<q.length
  ·rw [if_pos (by simp; omega),if_pos c1]
  ·rw [if_neg (by simp; omega),if_neg c1,con_int64 (p:=fun v=>!okS v) (fun x _=>by
    unfold scale_check_1 scale_one
    simp only [Option.bind_eq_bind,Option.bind_some]
    rw [within_eq (by simp; omega) (by simp)]
    simp only [Option.bind_some,List.all_cons,List.all_nil,Bool.and_true]
    congr 2
    unfold okR okS
    rw [Bool.eq_iff_iff]; simp <;> omega) (by omega) (by omega)]
   simp only [Option.bind_some]
   rw [any_not]
   cases c2:q.all okS with
   | false=>rfl
   | true =>
    rw [Bool.not_true,if_neg (by simp),if_neg (by simp)]
    have:=check_l1 (F:=F) (q:=q) (by omega) F 1 (Nat.le_refl _) (by omega)
    rw [show ((1:Nat):Int)=1 from rfl,show 1 - 1=0 from rfl,List.drop_zero] at this
    rw [this]
    cases incr q <;> rfl
 ·rw [if_pos (by simpa using c0),if_pos c0]
theorem isScale_l1 {F:Nat} {q:List Int} (hl:q.length<1000000):∀ (m k:Nat),k≤q.length→q.length - k<m →
  ref03_IsScale_l1 F q m (k:Int)=some (if (q.drop k).all okS=true then .inr () else .inl 3)
 | 0,k,_,h=>by omega
 | m + 1,k,hk,h=>by
  unfold ref03_IsScale_l1
  by_cases hlt:k<q.length
  ·rw [if_pos (by simpa using hlt),ix_nat hlt]
   have hd:q.drop k=q[k]::q.drop (k + 1):=List.drop_eq_getElem_cons hlt
   simp only [Option.bind_eq_bind,Option.bind_some]
   rw [hd,List.all_cons]
   have hx:(if (decide (q[k]<0))=true then some true else some (decide (10000<q[k])):Option Bool)=some (!okS q[k]):=by
    unfold okS
    by_cases a:q[k]<0
    ·rw [if_pos (by simpa using a)]; congr 1; symm; simp; omega
    ·rw [if_neg (by simpa using a)]; congr 1; rw [Bool.eq_iff_iff]; simp; omega
   rw [hx]
   simp only [Option.bind_some]
   cases okS q[k]
   ·rfl
   ·rw [if_neg (by simp),show w64 ((k:Int) + 1)=((k + 1:Nat):Int) by rw [w64_in (by omega)]; rfl,isScale_l1 hl m (k + 1) (by omega) (by omega)]
    rfl
  ·rw [if_neg (by simpa using hlt),List.drop_of_length_le (by omega)]
   rfl
theorem isScale_l2 {F:Nat} {q:List Int} (hl:q.length<1000000):∀ (m k:Nat),1≤k→q.length - k<m →
  ref03_IsScale_l2 F q m (k:Int)=some (if incr (q.drop (k - 1))=true then .inr () else .inl 16)
 | 0,k,_,h=>by omega
 | m + 1,k,hk,h=>by
  have e:∀ m k,ref03_IsScale_l2 F q m k=scale_check_l1 F q m k:=by
   intro m
   induction m with
   | zero=>intro k; rfl
   | succ m ih=>intro k; unfold ref03_IsScale_l2 scale_check_l1; simp only [ih]
  rw [e]; exact check_l1 hl (m + 1) k hk h
theorem isScale_eq {F:Nat} (hF:1000000<F) {l:List (Int×Int)} {q:List Int}:ref03_IsScale F l q=some (cchk l q):=by
 unfold ref03_IsScale cchk
 rw [rcheckSong_eq (by omega)]
 simp only [Option.bind_eq_bind,Option.bind_some]
 by_cases c0:csong l=0
 ·rw [if_neg (by simpa using c0),if_neg (show ¬ (csong l≠0) from fun e=>e c0)]
  by_cases c1:24<q.length
  ·rw [if_pos (by simp; omega),if_pos c1]
  ·rw [if_neg (by simp; omega),if_neg c1]
   have h1:=isScale_l1 (F:=F) (q:=q) (by omega) F 0 (by omega) (by omega)
   rw [show ((0:Nat):Int)=0 from rfl,List.drop_zero] at h1
   rw [h1]
   cases c2:q.all okS with
   | false=>rfl
   | true =>
    have h2:=isScale_l2 (F:=F) (q:=q) (by omega) F 1 (Nat.le_refl _) (by omega)
    rw [show ((1:Nat):Int)=1 from rfl,show 1 - 1=0 from rfl,List.drop_zero] at h2
    show (ref03_IsScale_l2 F q F 1).bind _=some (if incr q=false then 16 else 0)
    rw [h2]
    cases incr q <;> rfl
 ·rw [if_pos (by simpa using c0),if_pos c0]
theorem meets_l1 {F:Nat} {r:Int×Int} {q:List Int} (hl:q.length<1000000):∀ (m k:Nat),k≤q.length→q.length - k<m →
  ref03_Meets_l1 F r q m (k:Int)=some (if met (q.drop k) r=true then .inl true else .inr ())
 | 0,k,_,h=>by omega
 | m + 1,k,hk,h=>by
  unfold ref03_Meets_l1
  by_cases hlt:k<q.length
  ·rw [if_pos (by simpa using hlt),ix_nat hlt]
   have hd:q.drop k=q[k]::q.drop (k + 1):=List.drop_eq_getElem_cons hlt
   simp only [Option.bind_eq_bind,Option.bind_some]
   have hx:(if (decide (r.1≤q[k]))=true then some (decide (q[k]≤r.2)) else some false:Option Bool)=some (decide (r.1≤q[k]) && decide (q[k]≤r.2)):=by
    by_cases a:r.1≤q[k] <;> simp [a]
   rw [hx]
   simp only [Option.bind_some]
   have hm:met (q.drop k) r=((decide (r.1≤q[k]) && decide (q[k]≤r.2)) || met (q.drop (k + 1)) r):=by rw [hd]; rfl
   rw [hm]
   cases (decide (r.1≤q[k]) && decide (q[k]≤r.2)) with
   | true=>rfl
   | false=>rw [if_neg (by simp),show w64 ((k:Int) + 1)=((k + 1:Nat):Int) by rw [w64_in (by omega)]; rfl,meets_l1 hl m (k + 1) (by omega) (by omega),Bool.false_or]
  ·rw [if_neg (by simpa using hlt),List.drop_of_length_le (by omega)]
   rfl
theorem meets_eq {F:Nat} {r:Int×Int} {q:List Int} (hl:q.length<1000000) (hF:1000000<F):ref03_Meets F r q=some (met q r):=by
 unfold ref03_Meets
 have h1:=meets_l1 (F:=F) (r:=r) hl F 0 (by omega) (by omega)
 rw [show ((0:Nat):Int)=0 from rfl,List.drop_zero] at h1
 rw [h1]
 cases met q r <;> rfl
theorem rscale_l1 {F:Nat} {l:List (Int×Int)} {q:List Int} (hq:q.length<1000000) (hF:1000000<F) (hl:l.length<1000000):∀ (m k:Nat),k≤l.length→l.length - k<m →
  ref03_CheckScale_l1 F l q m (k:Int)=some (if (l.drop k).all (met q)=true then .inr () else .inl 19)
 | 0,k,_,h=>by omega
 | m + 1,k,hk,h=>by
  unfold ref03_CheckScale_l1
  by_cases hlt:k<l.length
  ·rw [if_pos (by simpa using hlt),ix_nat hlt]
   have hd:l.drop k=l[k]::l.drop (k + 1):=List.drop_eq_getElem_cons hlt
   simp only [Option.bind_eq_bind,Option.bind_some]
   rw [meets_eq hq hF,hd,List.all_cons]
   simp only [Option.bind_some]
   rw [show met q (l[k].1,l[k].2)=met q l[k] from rfl]
   cases met q l[k] with
   | false=>rfl
   | true=>rw [Bool.not_true,if_neg (by simp),show w64 ((k:Int) + 1)=((k + 1:Nat):Int) by rw [w64_in (by omega)]; rfl,rscale_l1 hq hF hl m (k + 1) (by omega) (by omega),Bool.true_and]
  ·rw [if_neg (by simpa using hlt),List.drop_of_length_le (by omega)]
   rfl
theorem cchk_len {l:List (Int×Int)} {q:List Int} (h:cchk l q=0):csong l=0∧q.length≤24:=by
 unfold cchk at h
 by_cases c0:csong l≠0
 ·rw [if_pos c0] at h; exact absurd h c0
 rw [if_neg c0] at h
 by_cases c1:24<q.length
 ·rw [if_pos c1] at h; cases h
 exact ⟨Decidable.not_not.1 c0,by omega⟩
theorem rscale_eq {F:Nat} (hF:1000000<F) {l:List (Int×Int)} {q:List Int}:ref03_CheckScale F l q=some (cscale l q):=by
 unfold ref03_CheckScale cscale
 rw [isScale_eq hF]
 simp only [Option.bind_eq_bind,Option.bind_some]
 by_cases c:cchk l q=0
 ·rw [if_neg (by simpa using c),if_neg (fun e=>e c)]
  obtain ⟨h1,h2⟩:=cchk_len c
  have h3:=csong_ok.1 h1
  have h4:=rscale_l1 (F:=F) (l:=l) (q:=q) (by omega) hF (by omega) F 0 (by omega) (by omega)
  rw [show ((0:Nat):Int)=0 from rfl,List.drop_zero] at h4
  rw [h4]
  cases l.all (met q) <;> rfl
 ·rw [if_pos (by simpa using c),if_pos c]
theorem ar_ext {m:Nat} {α:Type} {a b:Ar m α} (h:a.l=b.l):a=b:=by cases a; cases b; cases h; rfl
theorem scale_l1 {F:Nat} {l:List (Int×Int)} (hl:l.length≤24):∀ (m k:Nat) (Y:Ar 25 Int),k≤l.length→l.length - k<m→(∀ i:Nat,i<25→Y.l[i]?=some (if i<k then 1 else 0)) →
  ∃ Z,scale_CheckScale_l1 F l m (k:Int) Y=some Z∧∀ i:Nat,i<25→Z.l[i]?=some (if i<l.length then (1:Int) else 0)
 | 0,k,_,_,h,_=>by omega
 | m + 1,k,Y,hk,h,hY=>by
  unfold scale_CheckScale_l1
  by_cases hlt:k<l.length
  ·have hYl:k<Y.l.length:=by rw [Y.h]; omega
   rw [if_pos (by simpa using hlt),ix_nat hYl]
   simp only [Option.bind_eq_bind,Option.bind_some]
   rw [show w64 ((k:Int) + 1)=((k + 1:Nat):Int) by rw [w64_in (by omega)]; rfl]
   refine scale_l1 hl m (k + 1) _ (by omega) (by omega) (fun i hi=>?_)
   show (Y.l.set (k:Int).toNat 1)[i]?=_
   rw [Int.toNat_natCast]
   by_cases e:k=i
   ·subst e; rw [List.getElem?_set_self hYl,if_pos (by omega)]
   ·rw [List.getElem?_set_ne e,hY i hi]; congr 1
    by_cases c:i<k
    ·rw [if_pos c,if_pos (by omega)]
    ·rw [if_neg c,if_neg (by omega)]
  ·rw [if_neg (by simpa using hlt)]
   refine ⟨Y,rfl,fun i hi=>?_⟩
   rw [hY i hi,show k=l.length by omega]
theorem met_l1 {F:Nat} {q:List Int} (hq:q.length<1000000) (hF:1000000<F):∀ (S:List To) (Y:Ar 25 Int),(∀ x∈S,0≤x.2∧x.2<25) →
  ∃ Z,scale_song_met_l1 F q S Y=some Z∧∀ i:Nat,i<25→∃ y,Y.l[i]?=some y∧Z.l[i]?=some (if (∃ x∈S,x.2=(i:Int)∧met q x.1=true) then (1:Int) else y)
 | [],Y,_=>⟨Y,rfl,fun i hi=>by
   have:i<Y.l.length:=by rw [Y.h]; exact hi
   exact ⟨_,List.getElem?_eq_getElem this,by rw [List.getElem?_eq_getElem this,if_neg (by simp)]⟩⟩
 | x::us,Y,h=>by
  unfold scale_song_met_l1
  have hx:=h x List.mem_cons_self
  have hc:slices_ContainsFunc_int64 F q (fun y=>scale_tone_on ((x.1.1,x.1.2),x.2) y)=some (met q x.1):=con_int64 (fun v _=>rfl) (by omega) (by omega)
  rw [hc]
  simp only [Option.bind_eq_bind,Option.bind_some]
  obtain ⟨n,hn⟩:∃ n:Nat,x.2=(n:Int):=⟨x.2.toNat,by omega⟩
  have hn25:n<Y.l.length:=by rw [Y.h]; omega
  cases c:met q x.1 with
  | true =>
   rw [if_pos rfl,hn,ix_nat hn25]
   simp only [Option.bind_some]
   obtain ⟨Z,e,hZ⟩:=met_l1 hq hF us (aset Y (n:Int) 1) (fun x hx=>h x (List.mem_cons_of_mem _ hx))
   refine ⟨Z,e,fun i hi=>?_⟩
   obtain ⟨y,h1,h2⟩:=hZ i hi
   have hYi:i<Y.l.length:=by rw [Y.h]; exact hi
   refine ⟨Y.l[i],List.getElem?_eq_getElem hYi,?_⟩
   rw [h2]
   have h1':(Y.l.set n 1)[i]?=some y:=by rw [← h1]; show _=(Y.l.set (n:Int).toNat 1)[i]?; rw [Int.toNat_natCast]
   congr 1
   by_cases e2:n=i
   ·subst e2
    rw [List.getElem?_set_self hn25] at h1'
    cases h1'
    rw [if_pos (show ∃ x_1∈x::us,x_1.2=(n:Int)∧met q x_1.1=true from ⟨x,List.mem_cons_self,hn,c⟩)]
    split <;> rfl
   ·rw [List.getElem?_set_ne e2,List.getElem?_eq_getElem hYi] at h1'
    cases h1'
    have:(∃ x_1∈x::us,x_1.2=(i:Int)∧met q x_1.1=true)↔(∃ x∈us,x.2=(i:Int)∧met q x.1=true):=by
     constructor
     ·rintro ⟨z,hz,h3,h4⟩
      rcases List.mem_cons.1 hz with rfl | hz
      ·omega
      ·exact ⟨z,hz,h3,h4⟩
     ·rintro ⟨z,hz,h3⟩; exact ⟨z,List.mem_cons_of_mem _ hz,h3⟩
    simp only [this]
  | false =>
   rw [if_neg (by simp)]
   simp only [Option.bind_some]
   obtain ⟨Z,e,hZ⟩:=met_l1 hq hF us Y (fun x hx=>h x (List.mem_cons_of_mem _ hx))
   refine ⟨Z,e,fun i hi=>?_⟩
   obtain ⟨y,h1,h2⟩:=hZ i hi
   refine ⟨y,h1,?_⟩
   rw [h2]
   have:(∃ x_1∈x::us,x_1.2=(i:Int)∧met q x_1.1=true)↔(∃ x∈us,x.2=(i:Int)∧met q x.1=true):=by
    constructor
    ·rintro ⟨z,hz,h3,h4⟩
     rcases List.mem_cons.1 hz with rfl | hz
     ·rw [c] at h4; cases h4
     ·exact ⟨z,hz,h3,h4⟩
    ·rintro ⟨z,hz,h3⟩; exact ⟨z,List.mem_cons_of_mem _ hz,h3⟩
   simp only [this]
theorem scale_eq {F:Nat} (hF:1000000<F) {l:List (Int×Int)} {q:List Int} (hSL:l.length≤SL∨cchk l q≠0):scale_CheckScale F l q=some (cscale l q):=by
 unfold scale_CheckScale cscale
 rw [check_eq hF]
 simp only [Option.bind_eq_bind,Option.bind_some]
 by_cases c:cchk l q=0
 ·rw [if_neg (by simpa using c),if_neg (fun e=>e c)]
  obtain ⟨h1,h2⟩:=cchk_len c
  have h3:=csong_ok.1 h1
  have hSL:l.length≤SL:=hSL.resolve_right (fun e=>e c)
  obtain ⟨Z,e1,hZ⟩:=scale_l1 (F:=F) (l:=l) h3.2.1 F 0 (Ar.fill 25 0) (by omega) (by omega) (fun i hi=>by
   rw [if_neg (by omega)]; show (List.replicate 25 (0:Int))[i]?=_; rw [List.getElem?_replicate,if_pos hi])
  rw [show scale_CheckScale_l1 F l F 0 (Ar.fill 25 0)=some Z from e1]
  simp only [Option.bind_some]
  obtain ⟨S,e2,hp,-⟩:=newSong_eq hF hSL h3.2.2
  rw [e2]
  simp only [Option.bind_some]
  have hS:∀ x∈S,∃ i:Nat,l[i]?=some x.1∧x.2=(i:Int):=fun x hx=>by
   obtain ⟨i,h4,h5⟩:=(tn_mem l 0).1 (hp.mem_iff.1 hx)
   exact ⟨i,h4,by rw [h5]; congr 1; omega⟩
  obtain ⟨Y,e3,hY⟩:=met_l1 (F:=F) (q:=q) (by omega) hF S (Ar.fill 25 0) (fun x hx=>by
   obtain ⟨i,h4,h5⟩:=hS x hx
   have:=(List.getElem?_eq_some_iff.1 h4).1; omega)
  have e4:scale_song_met F ⟨S⟩ q=some Y:=by
   show (scale_song_met_l1 F q S (Ar.fill 25 0)) >>= _=_
   rw [e3]; rfl
  rw [e4]
  simp only [Option.bind_some]
  have key:∀ i:Nat,i<l.length→((∃ x∈S,x.2=(i:Int)∧met q x.1=true)↔∃ r,l[i]?=some r∧met q r=true):=by
   intro i hi
   constructor
   ·rintro ⟨x,hx,h4,h5⟩
    obtain ⟨j,h6,h7⟩:=hS x hx
    have:j=i:=by omega
    subst this; exact ⟨_,h6,h5⟩
   ·rintro ⟨r,h4,h5⟩
    refine ⟨(r,(i:Int)),hp.mem_iff.2 ((tn_mem l 0).2 ⟨i,h4,by show (i:Int)=_; congr 1; omega⟩),rfl,h5⟩
  by_cases hall:l.all (met q)=true
  ·rw [if_pos hall]
   have:Y=Z:=by
    refine ar_ext (List.ext_getElem? fun i=>?_)
    by_cases hi:i<25
    ·obtain ⟨y,h4,h5⟩:=hY i hi
     have:y=0:=by
      have h4:(List.replicate 25 (0:Int))[i]?=some y:=h4
      rw [List.getElem?_replicate,if_pos hi] at h4; cases h4; rfl
     subst this
     rw [h5,hZ i hi]; congr 1
     by_cases c:i<l.length
     ·rw [if_pos c,if_pos ((key i c).2 ⟨l[i],List.getElem?_eq_getElem c,List.all_eq_true.1 hall _ (List.getElem_mem c)⟩)]
     ·rw [if_neg c,if_neg]
      rintro ⟨x,hx,h6,h7⟩
      obtain ⟨j,h8,h9⟩:=hS x hx
      have:=(List.getElem?_eq_some_iff.1 h8).1; omega
    ·rw [List.getElem?_eq_none (by rw [Y.h]; omega),List.getElem?_eq_none (by rw [Z.h]; omega)]
   rw [if_neg (by simpa using this)]
  ·rw [if_neg hall]
   have:Y≠Z:=by
    intro e
    apply hall
    rw [List.all_eq_true]
    intro r hr
    obtain ⟨i,hi,h4⟩:=List.mem_iff_getElem.1 hr
    have hi25:i<25:=by omega
    obtain ⟨y,h5,h6⟩:=hY i hi25
    have:y=0:=by
     have h5:(List.replicate 25 (0:Int))[i]?=some y:=h5
     rw [List.getElem?_replicate,if_pos hi25] at h5; cases h5; rfl
    subst this
    rw [e,hZ i hi25,if_pos hi] at h6
    by_cases c2:∃ x∈S,x.2=(i:Int)∧met q x.1=true
    ·obtain ⟨r2,h7,h8⟩:=(key i hi).1 c2
     rw [List.getElem?_eq_getElem hi,h4] at h7
     cases h7; exact h8
    ·rw [if_neg c2] at h6; cases h6
   rw [if_pos (by simpa using this)]
 ·rw [if_pos (by simpa using c),if_pos c]
end Sg
end Go.Proofs.YtfmelbioccbdoaaGreat
end
section
namespace Go.Proofs.YtfmelbioccbdoaaGreat
open Go Go.Md Go.RowKit
namespace Sg
theorem asc_ok {l:List (Int×Int)} (h:∀ x∈l,okR x=true) {S:List To} (hp:S.Perm (tn 0 l)):∀ x∈S,0≤x.1.1∧x.1.1≤x.1.2∧x.1.2≤10000:=by
 intro x hx
 obtain ⟨i,h1,-⟩:=(tn_mem l 0).1 (hp.mem_iff.1 hx)
 exact okR_iff.1 (h x.1 (List.mem_of_getElem? h1))
theorem insi_len (a:Int):∀ l:List Int,(insi a l).length=l.length + 1
 | []=>rfl
 | b::l=>by unfold insi; split <;> simp [insi_len a l]
theorem isort_len:∀ l:List Int,(isort l).length=l.length
 | []=>rfl
 | a::l=>by unfold isort; rw [insi_len,isort_len l]; rfl
structure Short (l:List (Int×Int)) (G:List To):Prop where
 mem:∀ g∈G,∃ i:Nat,l[i]?=some g.1∧g.2=(i:Int)
 apart:G.Pairwise fun a b=>a.1.2<b.1.1
 met:∀ r∈l,∃ g∈G,r.1≤g.1.2∧g.1.2≤r.2
 len:G.length≤l.length
theorem Short.le {l:List (Int×Int)} {G:List To} (h:Short l G) {q:List Int} (hq:∀ r∈l,∃ e∈q,r.1≤e∧e≤r.2):G.length≤q.length :=
 apart_le G q h.apart fun x hx=>by
  obtain ⟨i,h1,-⟩:=h.mem x hx
  exact hq _ (List.mem_of_getElem? h1)
theorem Short.asc {l:List (Int×Int)} {G:List To} (h:Short l G) (hv:∀ x∈l,okR x=true):(G.map (·.1.2)).Pairwise (·<·):=by
 rw [List.pairwise_map]
 refine h.apart.imp_of_mem fun {a b} ha hb hab=>?_
 obtain ⟨i,h1,-⟩:=h.mem b hb
 have:=okR_iff.1 (hv _ (List.mem_of_getElem? h1))
 omega
theorem Short.bd {l:List (Int×Int)} {G:List To} (h:Short l G) (hv:∀ x∈l,okR x=true):∀ v∈G.map (·.1.2),0≤v∧v≤10000:=by
 intro v hv'
 obtain ⟨g,hg,rfl⟩:=List.mem_map.1 hv'
 obtain ⟨i,h1,-⟩:=h.mem g hg
 have:=okR_iff.1 (hv _ (List.mem_of_getElem? h1))
 omega
theorem Short.scale {l:List (Int×Int)} {G:List To} (h:Short l G) (hs:csong l=0):cscale l (G.map (·.1.2))=0:=by
 have h3:=csong_ok.1 hs
 refine cscale_ok hs (by rw [List.length_map]; have:=h.len; omega) (h.bd h3.2.2) (h.asc h3.2.2) (fun r hr=>?_)
 obtain ⟨g,hg,h1,h2⟩:=h.met r hr
 exact ⟨_,List.mem_map.2 ⟨g,hg,rfl⟩,h1,h2⟩
theorem short_gr {l:List (Int×Int)} (hv:∀ x∈l,okR x=true) {S:List To} (hp:S.Perm (tn 0 l)) (ha:Asc S):Short l (gr S (-1)):=by
 have hok:=asc_ok hv hp
 have hle:∀ x∈S,x.1.1≤x.1.2:=fun x hx=>(hok x hx).2.1
 refine ⟨fun g hg=>?_,gr_apart S _ hle,fun r hr=>?_,?_⟩
 ·obtain ⟨i,h1,h2⟩:=(tn_mem l 0).1 (hp.mem_iff.1 ((gr_sub S _).subset hg))
  exact ⟨i,h1,by rw [h2]; congr 1; omega⟩
 ·obtain ⟨i,hi,h4⟩:=List.mem_iff_getElem.1 hr
  have hx:(r,(i:Int))∈S:=hp.mem_iff.2 ((tn_mem l 0).2 ⟨i,by rw [List.getElem?_eq_getElem hi,h4],by show (i:Int)=_; congr 1; omega⟩)
  rcases gr_met S (-1) hle ha (fun x hx=>by have:=hok x hx; omega) _ hx with h | ⟨g,h1,h2⟩
  ·have:=hok _ hx; simp only at this h; omega
  ·exact ⟨g,h1,h2⟩
 ·have:=(gr_sub S (-1)).length_le
  rwa [hp.length_eq,tn_len] at this
theorem fewest_eq {F:Nat} (hF:1000000<F) {l:List (Int×Int)} (hs:csong l=0) (hl:l.length≤SL) :
  ∃ G,Short l G∧scale_Fewest F l=some (G.map (·.1.2),0)∧∃ T,scale_Apart F l=some (T,0)∧T=isort (G.map (·.2)):=by
 have h3:=csong_ok.1 hs
 obtain ⟨S,e1,hp,ha⟩:=newSong_eq hF hl h3.2.2
 have hok:=asc_ok h3.2.2 hp
 have hle:∀ x∈S,x.1.1≤x.1.2:=fun x hx=>(hok x hx).2.1
 have hSl:S.length≤1000:=by rw [hp.length_eq,tn_len]; omega
 have hsh:=short_gr h3.2.2 hp ha
 refine ⟨gr S (-1),hsh,?_,_,?_,rfl⟩
 ·unfold scale_Fewest
  rw [checkSong_eq (by omega),hs]
  simp only [Option.bind_eq_bind,Option.bind_some]
  rw [if_neg (by simp),e1]
  simp only [Option.bind_some]
  rw [high_eq hle hSl]
  rfl
 ·unfold scale_Apart
  rw [checkSong_eq (by omega),hs]
  simp only [Option.bind_eq_bind,Option.bind_some]
  rw [if_neg (by simp),e1]
  simp only [Option.bind_some]
  rw [high_eq hle hSl]
  simp only [Option.bind_some]
  have hn:((gr S (-1)).map (·.2)).length≤1000:=by rw [List.length_map]; exact Nat.le_trans (gr_sub S (-1)).length_le hSl
  generalize (gr S (-1)).map (·.2)=k at hn
  have hm:mks 8 (k.length:Int) (0:Int)=some (List.replicate k.length 0):=by
   unfold mks
   rw [if_pos ⟨by omega,by rw [Int.toNat_natCast]; omega⟩,Int.toNat_natCast]
  rw [hm]
  simp only [Option.bind_some]
  have hc:rcopy (List.replicate k.length (0:Int)) k=k:=by
   unfold rcopy
   rw [List.length_replicate,List.take_length,List.drop_of_length_le (by simp),List.append_nil]
  rw [hc]
  unfold slices_Sort_int
  rw [if_pos (by omega)]
  rfl
end Sg
end Go.Proofs.YtfmelbioccbdoaaGreat
end
section
namespace Go.Proofs.YtfmelbioccbdoaaGreat
open Go Go.Md Go.RowKit
namespace L3
set_option maxRecDepth 100000 in
theorem works2:law02_Works FF=some true:=by kernel_rfl
set_option maxRecDepth 100000 in
theorem works3:law03_Works FF=some true:=by kernel_rfl
theorem works:top_works03 FF=some true:=by
 unfold top_works03
 rw [worksF,works2,works3]; rfl
def ins (x:Int):List Int→List Int
 | []=>[x]
 | b::l=>if x≤b then (if x<b then x::b::l else b::l) else b::ins x l
theorem ins_mem {x v:Int}:∀ l:List Int,v∈ins x l↔v=x∨v∈l
 | []=>by simp [ins]
 | b::l=>by
  unfold ins
  by_cases h:x≤b
  ·rw [if_pos h]
   by_cases h2:x<b
   ·rw [if_pos h2]; simp
   ·rw [if_neg h2]
    have:x=b:=by omega
    subst this; simp
  ·rw [if_neg h,List.mem_cons,ins_mem l]; simp only [List.mem_cons]
   constructor
   ·rintro (h | h | h)
    ·exact .inr (.inl h)
    ·exact .inl h
    ·exact .inr (.inr h)
   ·rintro (h | h | h)
    ·exact .inr (.inl h)
    ·exact .inl h
    ·exact .inr (.inr h)
theorem ins_len {x:Int}:∀ l:List Int,(ins x l).length≤l.length + 1
 | []=>Nat.le_refl _
 | b::l=>by
  unfold ins
  split
  ·split <;> simp
  ·have:=ins_len (x:=x) l; simp; exact this
theorem ins_pw {x:Int}:∀ l:List Int,l.Pairwise (·<·)→(ins x l).Pairwise (·<·)
 | [],_=>by simp [ins]
 | b::l,h=>by
  have h':=List.pairwise_cons.1 h
  unfold ins
  by_cases c:x≤b
  ·rw [if_pos c]
   by_cases c2:x<b
   ·rw [if_pos c2]
    refine .cons (fun v hv=>?_) h
    rcases List.mem_cons.1 hv with rfl | hv
    ·exact c2
    ·exact Int.lt_trans c2 (h'.1 v hv)
   ·rw [if_neg c2]; exact h
  ·rw [if_neg c]
   refine .cons (fun v hv=>?_) (ins_pw l h'.2)
   rcases (ins_mem l).1 hv with rfl | hv
   ·omega
   ·exact h'.1 v hv
theorem put_l1 {F:Nat} {l:List Int} {x:Int} (hl:l.length≤1000):∀ (m k:Nat) (y:List Int) (d:Bool),k≤l.length→l.length - k<m→y.length≤k + (if d=true then 1 else 0) →
  ∃ z d',top_put03_l1 F l x m y d (k:Int)=some (z,d')∧(if d'=true then z else z++[x])=y++(if d=true then l.drop k else ins x (l.drop k))∧z.length≤l.length + 1
 | 0,k,_,_,_,h,_=>by omega
 | m + 1,k,y,d,hk,h,hy=>by
  unfold top_put03_l1
  by_cases hlt:k<l.length
  ·have hd:l.drop k=l[k]::l.drop (k + 1):=List.drop_eq_getElem_cons hlt
   have hw:w64 ((k:Int) + 1)=((k + 1:Nat):Int):=by rw [w64_in (by omega)]; rfl
   rw [if_pos (by simpa using hlt)]
   simp only [ix_nat hlt,Option.bind_eq_bind,Option.bind_some]
   cases d with
   | true =>
    have hy:y.length≤k + 1:=hy
    rw [if_neg (by simp)]
    simp only [Option.bind_some,Bool.false_eq_true,if_false]
    rw [app_some (by simp; omega)]
    simp only [Option.bind_some]
    rw [hw]
    obtain ⟨z,d',e1,e2,e3⟩:=put_l1 (F:=F) (x:=x) hl m (k + 1) (y++[l[k]]) true (by omega) (by omega) (by simp; omega)
    refine ⟨z,d',e1,?_,e3⟩
    rw [e2,hd]; simp
   | false =>
    have hy:y.length≤k:=hy
    rw [if_pos (by simp)]
    simp only [Option.bind_some]
    by_cases c:x≤l[k]
    ·rw [if_pos (by simpa using c)]
     by_cases c2:x<l[k]
     ·rw [if_pos (by simpa using c2),app_some (by simp; omega)]
      simp only [Option.bind_some]
      rw [app_some (by simp; omega)]
      simp only [Option.bind_some]
      rw [hw]
      obtain ⟨z,d',e1,e2,e3⟩:=put_l1 (F:=F) (x:=x) hl m (k + 1) (y++[x]++[l[k]]) true (by omega) (by omega) (by simp; omega)
      refine ⟨z,d',e1,?_,e3⟩
      rw [e2,hd,ins,if_pos c,if_pos c2]; simp
     ·rw [if_neg (by simpa using c2)]
      simp only [Option.bind_some]
      rw [app_some (by simp; omega)]
      simp only [Option.bind_some]
      rw [hw]
      obtain ⟨z,d',e1,e2,e3⟩:=put_l1 (F:=F) (x:=x) hl m (k + 1) (y++[l[k]]) true (by omega) (by omega) (by simp; omega)
      refine ⟨z,d',e1,?_,e3⟩
      rw [e2,hd,ins,if_pos c,if_neg c2]; simp
    ·rw [if_neg (by simpa using c)]
     simp only [Option.bind_some]
     rw [app_some (by simp; omega)]
     simp only [Option.bind_some]
     rw [hw]
     obtain ⟨z,d',e1,e2,e3⟩:=put_l1 (F:=F) (x:=x) hl m (k + 1) (y++[l[k]]) false (by omega) (by omega) (by simp; omega)
     refine ⟨z,d',e1,?_,e3⟩
     rw [e2,hd,ins,if_neg c]; simp
  ·rw [if_neg (by simpa using hlt),List.drop_of_length_le (by omega)]
   cases d with
   | true=>exact ⟨y,true,rfl,by simp,by have:y.length≤k + 1:=hy; omega⟩
   | false=>exact ⟨y,false,rfl,by simp [ins],by have:y.length≤k:=hy; omega⟩
theorem put_eq {F:Nat} {l:List Int} {x:Int} (hl:l.length≤1000) (hF:2000<F):top_put03 F l x=some (ins x l):=by
 unfold top_put03
 obtain ⟨z,d,e1,e2,e3⟩:=put_l1 (F:=F) (x:=x) hl F 0 [] false (by omega) (by omega) (Nat.le_refl _)
 rw [show top_put03_l1 F l x F [] false 0=some (z,d) from e1]
 simp only [Option.bind_eq_bind,Option.bind_some]
 simp only [List.nil_append,List.drop_zero,Bool.false_eq_true,if_false] at e2
 rw [← e2]
 cases d with
 | true=>rfl
 | false =>
  rw [if_pos (by simp),app_some (by simp; omega)]; rfl
theorem ofS_mem {s:List Int} {k:Int} (k0:1≤k) (k1:k≤s.length) (hl:s.length<1000000):ofS s k∈s:=by
 have:=(ix_spec (ix_of k0 k1 hl)).2.2
 exact List.mem_of_getElem? this
theorem span_in {x:Int×List RR} (h:csheet x=0) (hP:Pot x) {v:List Int} (hv:cspeeds x v=0) {t:Int} (t0:1≤t) (t1:t≤x.1) :
  0≤-D x t 0∧-D x t 0≤ofS v t∧ofS v t≤D x 0 t∧D x 0 t≤100000:=by
 obtain ⟨h1,h2,h3,_⟩:=csheet_ok h
 have z:ofS v 0=0:=rfl
 have e1:=true_dist h hP hv (a:=0) (b:=t) (by omega) (by omega) (by omega) (by omega)
 have e2:=true_dist h hP hv (a:=t) (b:=0) (by omega) (by omega) (by omega) (by omega)
 rw [z] at e1 e2
 have b:=D_bd h hP (a:=0) (t:=t) (by omega) (by omega) (by omega) (by omega)
 have hE:=ends_true h hP false
 have hl:((endsL x false).length:Int)=x.1:=(true_pot hE).2.1
 have hm:=(true_pot hE).2.2.1 _ (ofS_mem (s:=endsL x false) (k:=t) t0 (by omega) (by omega))
 rw [ofS_ends h hP (by omega) t1] at hm
 simp only [Bool.false_eq_true,if_false] at hm
 omega
theorem sung_in {x:Int×List RR} (h:csheet x=0) (hP:Pot x) {v:List Int} (hv:cspeeds x v=0) {t:Int} (t0:1≤t) (t1:t≤x.1) {y:Int} (y0:1≤y) (y1:y≤1600) :
  ∃ lo hi s,sungS x t y=((lo,hi),0)∧w64 (Int.tdiv (w64 (y * ofS v t)) 16000)=s∧0≤lo∧lo≤s∧s≤hi∧hi≤10000:=by
 obtain ⟨a0,a1,a2,a3⟩:=span_in h hP hv t0 t1
 have m1:0≤y * -D x t 0:=Int.mul_nonneg (by omega) a0
 have m2:y * -D x t 0≤y * ofS v t:=Int.mul_le_mul_of_nonneg_left a1 (by omega)
 have m3:y * ofS v t≤y * D x 0 t:=Int.mul_le_mul_of_nonneg_left a2 (by omega)
 have m4:y * D x 0 t≤1600 * D x 0 t:=Int.mul_le_mul_of_nonneg_right y1 (by omega)
 have it:inR 1 x.1 t=true:=by unfold inR; simp; omega
 have iy:inR 1 1000000 y=true:=by unfold inR; simp; omega
 have hs:sungS x t y=((w64 (Int.tdiv (w64 (y * -D x t 0)) 16000),w64 (Int.tdiv (w64 (y * D x 0 t)) 16000)),0):=by
  unfold sungS
  rw [if_neg (fun e=>e h),it,iy,if_pos (by rfl),sp3 h it hP,if_neg (by simp)]
 generalize y * -D x t 0=p at m1 m2 hs
 generalize y * ofS v t=q at m2 m3 ⊢
 generalize y * D x 0 t=r at m3 m4 hs
 rw [w64_in (n:=p) (by omega),w64_in (n:=r) (by omega),Int.tdiv_eq_ediv_of_nonneg (by omega),Int.tdiv_eq_ediv_of_nonneg (by omega)] at hs
 rw [w64_in (n:=p / 16000) (by omega),w64_in (n:=r / 16000) (by omega)] at hs
 refine ⟨p / 16000,r / 16000,q / 16000,hs,?_,by omega,by omega,by omega,by omega⟩
 rw [w64_in (n:=q) (by omega),Int.tdiv_eq_ediv_of_nonneg (by omega),w64_in (by omega)]
theorem wf_u16' {v:Int} (h:(Lit.int .u16 v).wf=true):0≤v∧v≤65535:=by
 simp [Lit.wf] at h; exact h
theorem sung_l1 {x:Int×List RR} (h:csheet x=0) (hP:Pot x) {v:List Int} (hv:cspeeds x v=0) {tones:List (KI .u16)} (hty:∀ y∈tones,0≤y.v∧y.v≤65535) (hl:x.1≤tones.length) :
  ∀ (m k:Nat) (l:List (Int×Int)) (q:List Int),l.length + 1=k→q.length≤l.length→(k:Int)≤x.1 + 1→(x.1 + 1 - k).toNat<m→(∀ r∈l,Sg.okR r=true)→(∀ s∈q,0≤s∧s≤10000)→q.Pairwise (·<·)→(∀ r∈l,∃ e∈q,r.1≤e∧e≤r.2) →
  ∃ l' q',top_TopSungSteps_l1 FF x tones v m l q (k:Int)=some (.inr (l',q'))∧(l'.length:Int)=x.1∧q'.length≤l'.length∧(∀ r∈l',Sg.okR r=true)∧(∀ s∈q',0≤s∧s≤10000)∧q'.Pairwise (·<·)∧(∀ r∈l',∃ e∈q',r.1≤e∧e≤r.2)
 | 0,_,_,_,_,_,_,h,_,_,_,_=>by omega
 | m + 1,k,l,q,hk,hq,hkx,hm,h1,h2,h3,h4=>by
  obtain ⟨c1,c2,c3,_⟩:=csheet_ok h
  have hvl:=(true_pot hv).2.1
  have ex:(x.1,x.2)=x:=rfl
  unfold top_TopSungSteps_l1
  by_cases hlt:(k:Int)≤x.1
  ·have hk1:1≤k:=by omega
   have hkt:k - 1<tones.length:=by omega
   rw [if_pos (by simpa using hlt),show w64 ((k:Int) - 1)=((k - 1:Nat):Int) by rw [w64_in (by omega)]; omega,ix_nat hkt]
   simp only [Option.bind_eq_bind,Option.bind_some,ex]
   have hty':=hty _ (List.getElem_mem hkt)
   have ht:=tmod_in (u:=tones[k - 1].v) (n:=1600) hty'.1 (by omega)
   rw [w64_in (n:=tones[k - 1].v) (by omega),w64_in (n:=1 + _) (by omega)]
   generalize hy:1 + tones[k - 1].v.tmod 1600=y
   obtain ⟨lo,hi,s,e1,e2,e3,e4,e5,e6⟩:=sung_in h hP hv (t:=(k:Int)) (y:=y) (by omega) hlt (by omega) (by omega)
   rw [sung_eq hFF,e1]
   simp only [Option.bind_some]
   have hvk:ix v ((k - 1:Nat):Int)=some (ofS v k):=by
    have:=ix_of (s:=v) (k:=(k:Int)) (by omega) (by omega) (by omega)
    rwa [show w64 ((k:Int) - 1)=((k - 1:Nat):Int) by rw [w64_in (by omega)]; omega] at this
   rw [hvk]
   simp only [Option.bind_some,e2]
   rw [if_neg (by simp; omega),app_some (by simp; omega)]
   simp only [Option.bind_some]
   rw [put_eq (by omega) (by decide)]
   simp only [Option.bind_some]
   rw [show w64 ((k:Int) + 1)=((k + 1:Nat):Int) by rw [w64_in (by omega)]; rfl]
   have hil:=ins_len (x:=s) q
   refine sung_l1 h hP hv hty hl m (k + 1) (l++[(lo,hi)]) (ins s q) (by simp; omega) (by simp; omega) (by omega) (by omega) (fun r hr=>?_) (fun z hz=>?_) (ins_pw q h3) (fun r hr=>?_)
   ·rcases List.mem_append.1 hr with hr | hr
    ·exact h1 r hr
    ·rw [List.mem_singleton.1 hr]; exact Sg.okR_iff.2 ⟨e3,by show lo≤hi; omega,e6⟩
   ·rcases (ins_mem q).1 hz with rfl | hz
    ·omega
    ·exact h2 z hz
   ·rcases List.mem_append.1 hr with hr | hr
    ·obtain ⟨e,he,h5⟩:=h4 r hr
     exact ⟨e,(ins_mem q).2 (.inr he),h5⟩
    ·rw [List.mem_singleton.1 hr]; exact ⟨s,(ins_mem q).2 (.inl rfl),e4,e5⟩
  ·rw [if_neg (by simpa using hlt)]
   exact ⟨l,q,rfl,by omega,hq,h1,h2,h3,h4⟩
theorem sheet_cases (x:Int×List RR):(top_sheet03 FF x=some true∧csheet x=0∧Pot x)∨top_sheet03 FF x=some false:=by
 unfold top_sheet03
 have ex:(x.1,x.2)=x:=rfl
 simp only [ex,refSheet_eq (show 100<FF by decide),Option.bind_eq_bind]
 cases hg:decide ((x.2.length:Int)≤70) with
 | false=>right; rfl
 | true =>
  simp only [gd,cond_true,Option.bind_some,Bool.true_and]
  by_cases h:csheet x=0
  ·obtain ⟨c1,c2⟩:=clashes_eq h (F:=FF) hF1
   have e:decide (csheet x=0)=true:=by simp [h]
   rw [e]
   simp only [cond_true,Bool.true_and]
   by_cases hP:Pot x
   ·left; rw [c1 hP]; exact ⟨rfl,h,hP⟩
   ·right; rw [c2 hP]; rfl
  ·right
   have e:decide (csheet x=0)=false:=by simp [h]
   rw [e]; rfl
theorem topSungSteps_true (x:Int×List RR) (tones bys:List (KI .u16)) (ht:∀ y∈tones,(Lit.int .u16 y.v).wf=true) (hb:∀ y∈bys,(Lit.int .u16 y.v).wf=true):top_TopSungSteps FF x tones bys=some true:=by
 unfold top_TopSungSteps
 have ex:(x.1,x.2)=x:=rfl
 simp only [ex,Option.bind_eq_bind]
 rcases sheet_cases x with ⟨e,h,hP⟩ | e
 ·rw [e]
  simp only [Option.bind_some,Bool.not_true,Bool.false_or]
  by_cases hc:(decide ((tones.length:Int)<x.1) || decide (40<(bys.length:Int)))=true
  ·rw [if_pos hc,works]; rfl
  ·rw [if_neg hc]
   simp only [Bool.or_eq_true,decide_eq_true_eq,not_or] at hc
   obtain ⟨c1,c2,c3,_⟩:=csheet_ok h
   obtain ⟨v,ev,-,-,hv⟩:=true_eq h hP (fun y hy=>wf_u16' (hb y hy)) (by omega) hF1
   rw [ev]
   simp only [Option.bind_some,speeds_eq hF2,hv]
   rw [if_neg (by simp)]
   obtain ⟨l,q,e1,e2,e3,e4,e5,e6,e7⟩:=sung_l1 h hP hv (fun y hy=>wf_u16' (ht y hy)) (by omega) FF 1 [] [] rfl (Nat.le_refl _) (by omega) (by show _<100000000000000000; omega) (by simp) (by simp) .nil (by simp)
   rw [show top_TopSungSteps_l1 FF x tones v FF [] [] 1=some (.inr (l,q)) from e1]
   simp only [Option.bind_some]
   have hs:Sg.csong l=0:=Sg.csong_ok.2 ⟨by omega,by omega,e4⟩
   have hSL:l.length≤Sg.SL:=by show l.length≤20; omega
   have hF:1000000<FF:=by decide
   obtain ⟨G,hG,f1,T,f2,f3⟩:=Sg.fewest_eq hF hs hSL
   have hT:T.length=G.length:=by rw [f3,Sg.isort_len,List.length_map]
   have hle:=hG.le e7
   rw [f1,f2]
   simp only [Option.bind_some,Sg.scale_eq hF (.inl hSL),Sg.rscale_eq hF,decide_true,Bool.and_self,gd,cond_true]
   rw [Sg.cscale_ok hs (by omega) e5 e6 e7,hG.scale hs,works]
   simp only [Option.bind_some,List.length_map,decide_true,Bool.true_and,cond_true]
   have d1:decide ((G.length:Int)≤(q.length:Int))=true:=by simp; omega
   have d2:decide ((T.length:Int)≤(q.length:Int))=true:=by simp; omega
   rw [d1,d2]
   rfl
 ·rw [e]
  simp only [Option.bind_some,Bool.not_false,Bool.true_or,if_true,works]
end L3
end Go.Proofs.YtfmelbioccbdoaaGreat
end
section
namespace Go.Proofs.YtfmelbioccbdoaaGreat
namespace TopSungStepsP
open Go
theorem band {a b:Bool} (h:a=true) (k:b=true):(a && b)=true:=by rw [h,k]; rfl
theorem jf0:(Rows.topSungStepsRow.wf (OpenSpec.ofChange Rows.topSungStepsSpec))=true:=by kernel_rfl
theorem jf1:(laidOutB Tryz.pinned.checked.prog)=true:=by kernel_rfl
theorem jf2:(mapsRowed Tryz.pinned.checked.prog)=true:=by kernel_rfl
theorem jf3:(Tryz.f3.params.all (Tryz.pinned.checked.prog.readableRec ·))=true:=by kernel_rfl
theorem jf4:(namedTie Tryz.pinned.checked.prog Rows.topSungStepsRow.named Rows.topSungStepsSpec.vars)=true:=by kernel_rfl
theorem jf5:((Rows.topSungStepsRow.stops == []))=true:=by kernel_rfl
theorem jf6:((Tryz.pinned.checked.prog.stops == []))=true:=by kernel_rfl
theorem jf7:((Rows.topSungStepsRow.knobs == []))=true:=by kernel_rfl
theorem jf8:((Tryz.pinned.checked.prog.stopKnobs == []))=true:=by kernel_rfl
theorem jf9:((Rows.topSungStepsRow.inPlace == Tryz.pinned.checked.prog.inPlace (3:FuncId)))=true:=by kernel_rfl
theorem jf10:((Rows.topSungStepsRow.unfollowed == Tryz.pinned.checked.prog.unfollowed (3:FuncId)))=true:=by kernel_rfl
theorem jf11:((Rows.topSungStepsRow.recurses == Tryz.pinned.checked.prog.recurses (3:FuncId)))=true:=by kernel_rfl
theorem jf12:((Rows.topSungStepsRow.named == Tryz.pinned.checked.prog.varsNamed (3:FuncId)))=true:=by kernel_rfl
theorem jf13:((Rows.topSungStepsRow.maps == (Tryz.f3.params.toList++Rows.topSungStepsSpec.plain.varTypes Tryz.pinned.checked.prog).any (Tryz.pinned.checked.prog.mapsRec ·)))=true:=by kernel_rfl
theorem jf14:((Rows.topSungStepsRow.ifaces == (Tryz.f3.params.toList++Rows.topSungStepsSpec.plain.varTypes Tryz.pinned.checked.prog).any (Tryz.pinned.checked.prog.ifacesRec ·)))=true:=by kernel_rfl
theorem jf15:((Rows.topSungStepsRow.mapsOut == Tryz.pinned.checked.prog.mapsAmong Tryz.f3.resultTypes.toList))=true:=by kernel_rfl
theorem jf16:((Rows.topSungStepsRow.loops == (Tryz.f3.params.toList++Rows.topSungStepsSpec.plain.varTypes Tryz.pinned.checked.prog).any (Tryz.pinned.checked.prog.loopsFrom ·)))=true:=by kernel_rfl
theorem jf17:((Rows.topSungStepsRow.wideKeys == (Tryz.f3.params.toList++Rows.topSungStepsSpec.plain.varTypes Tryz.pinned.checked.prog++Tryz.f3.resultTypes.toList).any (Tryz.pinned.checked.prog.wideKeysFrom ·)))=true:=by kernel_rfl
theorem jf18:(Rows.topSungStepsSpec.vars.all (Tryz.pinned.checked.prog.varReadable ·))=true:=by kernel_rfl
theorem jf19:(Tryz.f3.resultTypes.all (fun t=>Tryz.pinned.checked.prog.readableRec t && decide (t<Tryz.pinned.checked.prog.types.size)))=true:=by kernel_rfl
theorem jf20:((Rows.topSungStepsRow.ifacesOut == Tryz.f3.resultTypes.toList.any (Tryz.pinned.checked.prog.ifacesRec ·)))=true:=by kernel_rfl
theorem jf21:((Rows.topSungStepsRow.loopsOut == Tryz.f3.resultTypes.toList.any (Tryz.pinned.checked.prog.loopsFrom ·)))=true:=by kernel_rfl
theorem jf22:((Rows.topSungStepsRow.plainKeys == Tryz.pinned.checked.prog.plainKeys))=true:=by kernel_rfl
theorem jf23:(Rows.topSungStepsRow.shortTexts.isNone)=true:=by kernel_rfl
theorem jf24:(Tryz.pinned.checked.prog.stopsHeard)=true:=by kernel_rfl
theorem jf25:(Tryz.pinned.checked.prog.mayEnter)=true:=by kernel_rfl
theorem jf26:((Rows.topSungStepsRow.lifted == Tryz.pinned.checked.prog.liftsFinal))=true:=by kernel_rfl
theorem jf27:((Tryz.pinned.checked.prog.make == some Rows.topSungStepsRow.make))=true:=by kernel_rfl
theorem jf28:((Rows.topSungStepsRow.kinds == (if Rows.topSungStepsRow.domain.isEmpty then [] else Tryz.f3.params.toList.map fun t=>match Tryz.pinned.checked.prog.underlying t with | some (.int k)=>some k | _=>none)))=true:=by kernel_rfl
theorem jf29:((Rows.topSungStepsRow.pinned == Rows.topSungStepsRow.pinnedBy))=true:=by kernel_rfl
theorem jf30:((Rows.topSungStepsRow.veiled == (Tryz.f3.params.toList++Rows.topSungStepsSpec.plain.varTypes Tryz.pinned.checked.prog++Tryz.f3.resultTypes.toList).any (Tryz.pinned.checked.prog.veiledRec ·)))=true:=by kernel_rfl
theorem jf31:(Rows.topSungStepsRow.veiledFits Tryz.pinned.checked.prog Tryz.f3.params.toList (Tryz.f3.params.toList++Rows.topSungStepsSpec.plain.varTypes Tryz.pinned.checked.prog++Tryz.f3.resultTypes.toList))=true:=by kernel_rfl
theorem named:Tryz.pinned.checked.prog.funcNamed Rows.topSungStepsRow.func=some 3:=by kernel_rfl
end TopSungStepsP
end Go.Proofs.YtfmelbioccbdoaaGreat
end
