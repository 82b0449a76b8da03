/-
  Part 10 of 10 of what the last text stands on: lemmas about the model, pure functions, walks, laws in plain Lean; each part's own head says its condition. Merged by a program of our own.
-/
import Derived.Test.YtfmelbioccbdoaaGreatLeastLevelsQi
import Derived.Test.YtfmelbioccbdoaaGreatRows
import Derived.JoinedOf
set_option maxHeartbeats 0
set_option linter.all false
section
namespace Go.Proofs.YtfmelbioccbdoaaGreat
open Go Go.Md Go.RowKit
namespace Wo
theorem tup_in {l:List (List Int)}:∀ (j:Nat) (f:Tp),(∀ i,i<j→f i<ln l i)→(∀ i,j≤i→f i=0)→f∈tupN l j
 | 0,f,_,h=>by rw [tupN,List.mem_singleton]; funext i; exact h i (by omega)
 | j + 1,f,h,h0=>by
  rw [tupN,List.mem_flatMap]
  refine ⟨upd f j 0,tup_in j _ (fun i hi=>?_) (fun i hi=>?_),List.mem_map.2 ⟨f j,List.mem_range.2 (h j (by omega)),?_⟩⟩
  ·unfold upd; rw [if_neg (by omega)]; exact h i (by omega)
  ·unfold upd; by_cases e:i=j
   ·rw [if_pos e]
   ·rw [if_neg e]; exact h0 i (by omega)
  ·rw [upd_upd,upd_same rfl]
theorem Mt_in {g:Tp} {l:List (List Int)} {f:Tp} (h:∀ i,i<l.length→f i<ln l i) (h0:∀ i,l.length≤i→f i=0) (hm:mt g l l.length f=true):f∈Mt g l :=
 List.mem_filter.2 ⟨tup_in _ f h h0,hm⟩
section
variable {g:Tp} {l:List (List Int)}
def Chn (g:Tp) (l:List (List Int)) (c:List Tp) (u:Tp):Prop:=c.Pairwise (fun a b=>bef l.length a b=true)∧∀ f∈c,f∈Mt g l∧bef l.length f u=true
def Mx (g:Tp) (l:List (List Int)) (u:Tp) (n:Nat):Prop:=(∃ c,Chn g l c u∧c.length=n)∧∀ c,Chn g l c u→c.length≤n
theorem Chn.mono {u v:Tp} {c:List Tp} (h:Chn g l c u) (huv:∀ f,bef l.length f u=true→bef l.length f v=true):Chn g l c v:=⟨h.1,fun f hf=>⟨(h.2 f hf).1,huv f (h.2 f hf).2⟩⟩
theorem Mx.zero {u:Tp} {h:Nat} (hh:h<l.length) (h0:u h=0):Mx g l u 0:=by
 refine ⟨⟨[],⟨List.Pairwise.nil,fun f hf=>by cases hf⟩,rfl⟩,fun c hc=>?_⟩
 cases c with
 | nil=>exact Nat.le_refl _
 | cons f c =>
  have:=bef_iff.1 (hc.2 f (List.mem_cons_self ..)).2 h hh
  omega
theorem snoc_of {α:Type} (c:List α):c=[]∨∃ d x,c=d++[x]:=by
 rcases List.eq_nil_or_concat c with h | ⟨d,x,h⟩
 ·exact .inl h
 ·exact .inr ⟨d,x,by simpa using h⟩
theorem Chn.snoc {c:List Tp} {x u:Tp} (h:Chn g l (c++[x]) u):Chn g l c x∧x∈Mt g l∧bef l.length x u=true:=by
 obtain ⟨h1,h2⟩:=h
 rw [List.pairwise_append] at h1
 refine ⟨⟨h1.1,fun f hf=>⟨(h2 f (by simp [hf])).1,h1.2.2 f hf x (by simp)⟩⟩,h2 x (by simp)⟩
theorem Chn.add {c:List Tp} {x u:Tp} (h:Chn g l c x) (hx:x∈Mt g l) (hu:bef l.length x u=true):Chn g l (c++[x]) u:=by
 refine ⟨List.pairwise_append.2 ⟨h.1,List.pairwise_singleton ..,fun f hf y hy=>?_⟩,fun f hf=>?_⟩
 ·rw [List.mem_singleton] at hy; subst hy; exact (h.2 f hf).2
 ·rcases List.mem_append.1 hf with hf | hf
  ·exact ⟨(h.2 f hf).1,bef_trans (h.2 f hf).2 hu⟩
  ·rw [List.mem_singleton] at hf; subst hf; exact ⟨hx,hu⟩
def dec (j:Nat) (u:Tp):Tp:=fun i=>if i<j then u i - 1 else u i
theorem Mx.hit {u:Tp} {n:Nat} (hp:∀ h,h<l.length→0<u h) (hv:dec l.length u∈Mt g l) (h:Mx g l (dec l.length u) n):Mx g l u (n + 1):=by
 have hvu:bef l.length (dec l.length u) u=true:=bef_iff.2 fun h hh=>by unfold dec; rw [if_pos hh]; have:=hp h hh; omega
 refine ⟨?_,fun c hc=>?_⟩
 ·obtain ⟨⟨c,c1,c2⟩,_⟩:=h
  exact ⟨c++[dec l.length u],c1.add hv hvu,by simp [c2]⟩
 ·rcases snoc_of c with rfl | ⟨d,x,rfl⟩
  ·simp
  ·obtain ⟨a,b,e⟩:=hc.snoc
   have:=h.2 d (a.mono fun f hf=>bef_iff.2 fun i hi=>by
    have a1:=bef_iff.1 hf i hi
    have a2:=bef_iff.1 e i hi
    unfold dec; rw [if_pos hi]; omega)
   simp; omega
theorem Mx.miss {u:Tp} {n:Nat} (hp:∀ h,h<l.length→0<u h) (h0:∀ i,l.length≤i→u i=0) (hv:dec l.length u ∉ Mt g l) (h2:0<l.length)
  (hx:∃ h,h<l.length∧Mx g l (upd u h (u h - 1)) n) (hle:∀ h,h<l.length→∃ m,Mx g l (upd u h (u h - 1)) m∧m≤n):Mx g l u n:=by
 refine ⟨?_,fun c hc=>?_⟩
 ·obtain ⟨h,hh,⟨c,c1,c2⟩,_⟩:=hx
  exact ⟨c,c1.mono fun f hf=>bef_iff.2 fun i hi=>by
   have:=bef_iff.1 hf i hi
   unfold upd at this
   by_cases e:i=h
   ·rw [if_pos e] at this; subst e; omega
   ·rw [if_neg e] at this; exact this,c2⟩
 ·rcases snoc_of c with rfl | ⟨d,x,rfl⟩
  ·simp
  ·obtain ⟨a,b,e⟩:=hc.snoc
   have:∃ h,h<l.length∧x h<u h - 1:=by
    refine Classical.byContradiction fun hno=>hv ?_
    have:dec l.length u=x:=by
     funext i
     unfold dec
     by_cases hi:i<l.length
     ·rw [if_pos hi]
      have a2:=bef_iff.1 e i hi
      have a3:¬ x i<u i - 1:=fun hh=>hno ⟨i,hi,hh⟩
      omega
     ·rw [if_neg hi,h0 i (by omega),(Mt_mem b).2.1 i (by omega)]
    rw [this]; exact b
   obtain ⟨h,hh,hlt⟩:=this
   obtain ⟨m,hm,hmn⟩:=hle h hh
   have hxu:bef l.length x (upd u h (u h - 1))=true:=bef_iff.2 fun i hi=>by
    unfold upd
    by_cases ei:i=h
    ·rw [if_pos ei]; subst ei; exact hlt
    ·rw [if_neg ei]; exact bef_iff.1 e i hi
   have:=hm.2 _ (a.add b hxu)
   omega
end
theorem mput_mem {κ ν:Type} [DecidableEq κ] {k:κ} {v:ν} {p:κ×ν}:∀ {m:List (κ×ν)},p∈mput m k v→p=(k,v)∨p∈m
 | [],h=>by rw [mput,List.mem_singleton] at h; exact .inl h
 | (a,b)::m,h=>by
  unfold mput at h
  by_cases e:a=k
  ·rw [if_pos e] at h
   rcases List.mem_cons.1 h with h | h
   ·exact .inl h
   ·exact .inr (List.mem_cons_of_mem _ h)
  ·rw [if_neg e] at h
   rcases List.mem_cons.1 h with h | h
   ·exact .inr (by rw [h]; exact List.mem_cons_self ..)
   ·exact (mput_mem h).imp id (List.mem_cons_of_mem _)
theorem mget_mem {κ ν:Type} [DecidableEq κ] {d:ν} {k:κ}:∀ {m:List (κ×ν)},mhas m k=true→(k,mget d m k)∈m
 | [],h=>by cases h
 | (a,b)::m,h=>by
  unfold mhas at h
  unfold mget
  by_cases e:a=k
  ·rw [if_pos e]; subst e; exact List.mem_cons_self ..
  ·rw [if_neg e] at h ⊢
   exact List.mem_cons_of_mem _ (mget_mem h)
theorem pl_inj {k:Nat} (hk:k≤4) {f f':Tp} (h:pl f=pl f') (h0:∀ i,k≤i→f i=0) (h1:∀ i,k≤i→f' i=0):f=f':=by
 funext i
 by_cases hi:i<4
 ·have a:=pl_ix (f:=f) hi
  have b:=pl_ix (f:=f') hi
  rw [h,b] at a
  simp only [Option.some.injEq] at a
  omega
 ·rw [h0 i (by omega),h1 i (by omega)]
def Memo (g:Tp) (l:List (List Int)) (m:List (Pl×Int)):Prop:=∀ p∈m,∃ w n,p.1=pl w∧(∀ i,l.length≤i→w i=0)∧p.2=((n:Nat):Int)∧Mx g l w n
theorem Memo.nil {g:Tp} {l:List (List Int)}:Memo g l []:=fun p hp=>by cases hp
theorem kok_pl {f:Tp} (h:∀ i,f i<1000):kok (pl f)=some ():=by
 unfold kok
 rw [if_pos]
 show ((pl f).l.all fun n=>(Lit.int .i64 n).wf)=true
 refine List.all_eq_true.2 fun n hn=>?_
 simp only [pl,List.mem_map] at hn
 obtain ⟨i,_,rfl⟩:=hn
 have:=h i
 have h1:IntKind.i64.min=-9223372036854775808:=rfl
 have h2:IntKind.i64.max=9223372036854775807:=rfl
 simp [Lit.wf,h1,h2]
 omega
theorem Chn.len {g:Tp} {l:List (List Int)} (h:0<l.length):∀ (n:Nat) (c:List Tp) (u:Tp),c.length=n→Chn g l c u→n≤u 0
 | 0,_,_,_,_=>Nat.zero_le _
 | n + 1,c,u,e,hc=>by
  rcases snoc_of c with rfl | ⟨d,x,rfl⟩
  ·cases e
  ·obtain ⟨a,b,hu⟩:=hc.snoc
   have:=Chn.len h n d x (by simpa using e) a
   have:=bef_iff.1 hu 0 h
   omega
theorem Mx.le {g:Tp} {l:List (List Int)} (h:0<l.length) {u:Tp} {n:Nat} (hm:Mx g l u n):n≤u 0:=by
 obtain ⟨⟨c,c1,c2⟩,_⟩:=hm
 exact Chn.len h n c u c2 c1
abbrev Sg0:=(Ob ((Uno (List (Ar 2 Int)))×(Ar 101 Int)))×(List (List Int))×(List (Ar 4 Int))
theorem dec_pl {u:Tp} {j:Nat}:upd (dec j u) j (u j - 1)=dec (j + 1) u:=by
 funext i
 unfold upd dec
 by_cases e:i=j
 ·subst e; simp
 ·rw [if_neg e]
  by_cases hi:i<j
  ·rw [if_pos hi,if_pos (by omega)]
  ·rw [if_neg hi,if_neg (by omega)]
theorem wl1 {F:Nat} {d:Ob ((Uno (List (Ar 2 Int)))×(Ar 101 Int))} {l:List (List Int)} {acc:List Pl} (h4:l.length≤4) {u:Tp} {mm:List (Pl×Int)} (hu:∀ i,u i<1000):∀ (m j:Nat),j≤l.length→l.length - j<m →
  ((∀ i,j≤i→i<l.length→0<u i)→word_song_within_l1 F (d,l,acc) (pl u) mm m (j:Int) (pl (dec j u))=some (.inr (pl (dec l.length u)))) ∧
  ((∃ i,j≤i∧i<l.length∧u i=0)→word_song_within_l1 F (d,l,acc) (pl u) mm m (j:Int) (pl (dec j u))=some (.inl (0,mm)))
 | 0,j,_,h=>by omega
 | m + 1,j,hj,hm=>by
  unfold word_song_within_l1
  by_cases hlt:j<l.length
  ·have hd:dec j u j=u j:=by unfold dec; rw [if_neg (by omega)]
   have huj:=hu j
   rw [if_pos (by simpa using hlt),pl_ix (by omega)]
   simp only [Option.bind_eq_bind,Option.bind_some]
   by_cases e:u j=0
   ·rw [if_pos (by simpa using e)]
    exact ⟨fun h=>by have:=h j (Nat.le_refl _) hlt; omega,fun _=>rfl⟩
   ·rw [if_neg (by simpa using e),pl_ix (by omega),hd]
    simp only [Option.bind_some]
    rw [show w64 ((u j:Int) - 1)=((u j - 1:Nat):Int) by rw [w64_in (by omega)]; omega,pl_set (by omega),dec_pl,w64_nat (by omega)]
    have:=wl1 (F:=F) (d:=d) (acc:=acc) (mm:=mm) h4 hu m (j + 1) (by omega) (by omega)
    refine ⟨fun h=>this.1 fun i hi=>h i (by omega),fun ⟨i,h1,h2,h3⟩=>this.2 ⟨i,?_,h2,h3⟩⟩
    by_cases ei:i=j
    ·subst ei; exact absurd h3 e
    ·omega
  ·rw [if_neg (by simpa using hlt),show j=l.length by omega]
   exact ⟨fun _=>rfl,fun ⟨i,h1,h2,_⟩=>by omega⟩
def Okp (l:List (List Int)) (u:Tp):Prop:=(∀ i,i<l.length→u i≤ln l i)∧∀ i,l.length≤i→u i=0
def sm (u:Tp):Nat:=u 0 + u 1 + u 2 + u 3
theorem Okp.lt {l:List (List Int)} (h:VL l) {u:Tp} (hu:Okp l u) (i:Nat):u i<1000:=by
 by_cases hi:i<l.length
 ·have:=hu.1 i hi; have:=vl_ln h i; omega
 ·rw [hu.2 i (by omega)]; omega
theorem sm_upd {u:Tp} {i:Nat} (hi:i<4) (h:0<u i):sm (upd u i (u i - 1))<sm u:=by
 rcases (by omega:i=0∨i=1∨i=2∨i=3) with rfl | rfl | rfl | rfl <;> simp [sm,upd] <;> omega
theorem sm_dec {u:Tp} {j:Nat} (hj:0<j) (h:0<u 0):sm (dec j u)<sm u:=by
 have h0:dec j u 0=u 0 - 1:=by unfold dec; rw [if_pos hj]
 have hd:∀ i,dec j u i≤u i:=fun i=>by unfold dec; split <;> omega
 have:=hd 1; have:=hd 2; have:=hd 3
 unfold sm; omega
def Got (g:Tp) (l:List (List Int)) (u:Tp) (r:Option (Int×List (Pl×Int))):Prop:=∃ n m',r=some (((n:Nat):Int),m')∧Mx g l u n∧Memo g l m'
theorem wl2 {F:Nat} {rc:Sg0→Pl→List (Pl×Int)→Option (Int×List (Pl×Int))} {d:Ob ((Uno (List (Ar 2 Int)))×(Ar 101 Int))} {l:List (List Int)} {acc:List Pl} {g:Tp} (h:VL l) {u:Tp} (hu:Okp l u) (hp:∀ i,i<l.length→0<u i)
  (hrc:∀ i,i<l.length→∀ m,Memo g l m→Got g l (upd u i (u i - 1)) (rc (d,l,acc) (pl (upd u i (u i - 1))) m)):∀ (m j a:Nat) (mm:List (Pl×Int)),j≤l.length→l.length - j<m→Memo g l mm →
  (∀ i,i<j→∃ q,Mx g l (upd u i (u i - 1)) q∧q≤a)→((j=0∧a=0)∨∃ i,i<j∧Mx g l (upd u i (u i - 1)) a) →
  ∃ n m',word_song_within_l2 F rc (d,l,acc) (pl u) m (a:Int) (j:Int) mm=some (((n:Nat):Int),m')∧Memo g l m'∧(∀ i,i<l.length→∃ q,Mx g l (upd u i (u i - 1)) q∧q≤n)∧∃ i,i<l.length∧Mx g l (upd u i (u i - 1)) n
 | 0,j,_,_,_,h,_,_,_=>by omega
 | m + 1,j,a,mm,hj,hm,hmm,ha,hx=>by
  have h4:=h.four; have h2:=h.two
  unfold word_song_within_l2
  by_cases hlt:j<l.length
  ·have huj:=hu.lt h j
   have hpj:=hp j hlt
   rw [if_pos (by simpa using hlt),pl_ix (by omega)]
   simp only [Option.bind_eq_bind,Option.bind_some]
   rw [show w64 ((u j:Int) - 1)=((u j - 1:Nat):Int) by rw [w64_in (by omega)]; omega,pl_set (by omega)]
   obtain ⟨n,m',e1,e2,e3⟩:=hrc j hlt mm hmm
   rw [e1]
   simp only [Option.bind_some,word_greatest__int]
   by_cases c:n<a
   ·rw [if_pos (by simpa using c)]
    simp only [Option.bind_some]
    rw [w64_nat (by omega)]
    refine wl2 h hu hp hrc m (j + 1) a m' (by omega) (by omega) e3 (fun i hi=>?_) (.inr ?_)
    ·by_cases ei:i=j
     ·subst ei; exact ⟨n,e2,by omega⟩
     ·exact ha i (by omega)
    ·rcases hx with ⟨_,e⟩ | ⟨i,hi,e⟩
     ·omega
     ·exact ⟨i,by omega,e⟩
   ·rw [if_neg (by simpa using c)]
    simp only [Option.bind_some]
    rw [w64_nat (by omega)]
    refine wl2 h hu hp hrc m (j + 1) n m' (by omega) (by omega) e3 (fun i hi=>?_) (.inr ⟨j,by omega,e2⟩)
    by_cases ei:i=j
    ·subst ei; exact ⟨n,e2,by omega⟩
    ·obtain ⟨q,hq,hqa⟩:=ha i (by omega); exact ⟨q,hq,by omega⟩
  ·have:j=l.length:=by omega
   subst this
   rw [if_neg (by simp)]
   refine ⟨a,mm,rfl,hmm,ha,?_⟩
   rcases hx with ⟨e,_⟩ | e
   ·omega
   ·exact e
theorem within_r {F:Nat} (hF:1000<F) {x:Bk} {l:List (List Int)} {acc:List Pl} {g:Tp} {c:Cls} (h:VL l) (hc:c.l=tl g):∀ (mr:Nat) (u:Tp) (m:List (Pl×Int)),Okp l u→sm u<mr→Memo g l m →
  Got g l u (word_song_within_r F mr ((⟨some (x,c)⟩:Ob ((Uno (List (Ar 2 Int)))×(Ar 101 Int))),l,acc) (pl u) m)
 | 0,u,_,_,h,_=>by omega
 | mr + 1,u,m,hu,hs,hm=>by
  have h4:=h.four; have h2:=h.two
  have hlt:=hu.lt h
  unfold word_song_within_r
  by_cases h0:pl u=Ar.fill 4 0
  ·rw [if_pos (by simpa using h0)]
   have:u=fun _=>0:=pl_inj h4 (h0.trans pl_zero.symm) hu.2 (fun _ _=>rfl)
   exact ⟨0,m,rfl,Mx.zero (h:=0) (by omega) (by rw [this]),hm⟩
  rw [if_neg (by simpa using h0),kok_pl hlt]
  simp only [Option.bind_eq_bind,Option.bind_some]
  by_cases hh:mhas m (pl u)=true
  ·rw [if_pos hh]
   obtain ⟨w,n,e1,e2,e3,e4⟩:=hm _ (mget_mem (d:=(0:Int)) hh)
   have:u=w:=pl_inj h4 e1 hu.2 e2
   subst this
   exact ⟨n,m,by rw [show mget 0 m (pl u)=(n:Int) from e3],e4,hm⟩
  rw [if_neg hh]
  have hl1:=wl1 (F:=F) (d:=⟨some (x,c)⟩) (acc:=acc) (mm:=m) h4 hlt F 0 (by omega) (by omega)
  have hd0:dec 0 u=u:=by funext i; unfold dec; rw [if_neg (by omega)]
  rw [hd0,show ((0:Nat):Int)=0 from rfl] at hl1
  by_cases hz:∃ i,i<l.length∧u i=0
  ·obtain ⟨i,hi,hi0⟩:=hz
   rw [hl1.2 ⟨i,by omega,hi,hi0⟩]
   exact ⟨0,m,rfl,Mx.zero hi hi0,hm⟩
  have hp:∀ i,i<l.length→0<u i:=fun i hi=>by
   by_cases e:u i=0
   ·exact absurd ⟨i,hi,e⟩ hz
   ·omega
  rw [hl1.1 fun i _ hi=>hp i hi]
  simp only [Option.bind_some]
  have hdl:∀ i,i<l.length→dec l.length u i<ln l i:=fun i hi=>by
   have:=hp i hi; have:=hu.1 i hi
   unfold dec; rw [if_pos hi]; omega
  have hdz:∀ i,l.length≤i→dec l.length u i=0:=fun i hi=>by unfold dec; rw [if_neg (by omega)]; exact hu.2 i hi
  rw [matched_eq hF h hc hdl]
  simp only [Option.bind_some]
  have put:∀ (n:Nat) (m':List (Pl×Int)),Mx g l u n→Memo g l m'→Memo g l (mput m' (pl u) (n:Int)):=fun n m' hn hm' p hpm=>by
   rcases mput_mem hpm with rfl | hpm
   ·exact ⟨u,n,rfl,hu.2,rfl,hn⟩
   ·exact hm' p hpm
  cases hmt:mt g l l.length (dec l.length u) with
  | true =>
   rw [if_pos rfl]
   obtain ⟨n,m',e1,e2,e3⟩:=within_r hF h hc (acc:=acc) mr (dec l.length u) m ⟨fun i hi=>by have:=hdl i hi; omega,hdz⟩ (by have:=sm_dec (u:=u) (j:=l.length) (by omega) (hp 0 (by omega)); omega) hm
   have hn:=e2.le (by omega)
   have:=hu.lt h 0
   have hd0:dec l.length u 0≤u 0:=by unfold dec; split <;> omega
   rw [e1]
   simp only [Option.bind_some]
   have hx:=Mx.hit hp (Mt_in hdl hdz hmt) e2
   rw [show w64 (1 + (n:Int))=((n + 1:Nat):Int) by rw [w64_in (by omega)]; omega]
   exact ⟨n + 1,_,rfl,hx,put _ _ hx e3⟩
  | false =>
   rw [if_neg (by simp)]
   obtain ⟨n,m',e1,e2,e3,e4⟩:=wl2 (F:=F) (rc:=word_song_within_r F mr) (d:=⟨some (x,c)⟩) (acc:=acc) (g:=g) h hu hp (fun i hi m hm=>within_r hF h hc (acc:=acc) mr _ m
    ⟨fun n hn=>by
     unfold upd
     by_cases e:n=i
     ·rw [if_pos e]; subst e; have:=hu.1 n hn; omega
     ·rw [if_neg e]; exact hu.1 n hn,fun n hn=>by
     unfold upd; rw [if_neg (by omega)]; exact hu.2 n hn⟩ (by have:=sm_upd (u:=u) (i:=i) (by omega) (hp i hi); omega) hm) F 0 0 m (by omega) (by omega) hm (fun i hi=>by omega) (.inl ⟨rfl,rfl⟩)
   rw [show ((0:Nat):Int)=0 from rfl] at e1
   rw [e1]
   simp only [Option.bind_some]
   have hx:=Mx.miss hp hu.2 (fun hh=>by rw [(Mt_mem hh).2.2] at hmt; cases hmt) (by omega) e4 e3
   exact ⟨n,_,rfl,hx,put _ _ hx e2⟩
def Lv (g:Tp) (l:List (List Int)) (L:List Tp) (v:List Int):Prop:=v.length=L.length∧∀ (i:Nat) (f:Tp),L[i]?=some f→∃ n:Nat,v[i]?=some ((n:Int) + 1)∧Mx g l f n
theorem Mt_len {g:Tp} {l:List (List Int)} (h:VL l):(Mt g l).length≤4096:=Nat.le_trans (List.length_filter_le ..) (tup_4096 h)
theorem levels_eq {F:Nat} (hF:100000<F) {x:Bk} {l:List (List Int)} {g:Tp} {c:Cls} (h:VL l) (hc:c.l=tl g):∃ v,word_song_levels F ((⟨some (x,c)⟩:Ob ((Uno (List (Ar 2 Int)))×(Ar 101 Int))),l,(Mt g l).map pl)=some v∧Lv g l (Mt g l) v:=by
 have h2:=h.two; have h4:=h.four
 have hn:=Mt_len (g:=g) h
 have key:∀ (m k:Nat) (v:List Int) (mm:List (Pl×Int)),k≤(Mt g l).length→(Mt g l).length - k<m→Memo g l mm→Lv g l ((Mt g l).take k) v →
   ∃ v' mm',word_song_levels_l1 F ((⟨some (x,c)⟩:Ob ((Uno (List (Ar 2 Int)))×(Ar 101 Int))),l,(Mt g l).map pl) m v (k:Int) mm=some (v',mm')∧Lv g l (Mt g l) v':=by
  intro m
  induction m with
  | zero=>intro k _ _ _ h; omega
  | succ m ih =>
   intro k v mm hk hm hmm hv
   unfold word_song_levels_l1
   by_cases hlt:k<(Mt g l).length
   ·have hf:=Mt_mem (List.getElem_mem hlt)
    have hok:Okp l (Mt g l)[k]:=⟨fun i hi=>by have:=hf.1 i hi; omega,hf.2.1⟩
    rw [if_pos (by simpa using hlt),ix_nat (by simpa using hlt),List.getElem_map]
    simp only [Option.bind_eq_bind,Option.bind_some]
    have hs:sm (Mt g l)[k]<F:=by
     have a:=hok.lt h 0; have b:=hok.lt h 1; have c:=hok.lt h 2; have d:=hok.lt h 3
     unfold sm; omega
    obtain ⟨n,m',e1,e2,e3⟩:=within_r (F:=F) (by omega) (x:=x) (acc:=(Mt g l).map pl) h hc F _ mm hok hs hmm
    rw [show word_song_within F ((⟨some (x,c)⟩:Ob ((Uno (List (Ar 2 Int)))×(Ar 101 Int))),l,(Mt g l).map pl) (pl (Mt g l)[k]) mm=some ((n:Int),m') from e1]
    have hvl:=hv.1
    rw [List.length_take,Nat.min_eq_left (by omega)] at hvl
    have hnn:=e2.le (by omega)
    have:=hok.lt h 0
    simp only [Option.bind_some]
    rw [app_some (by simp; omega)]
    simp only [Option.bind_some]
    rw [w64_nat (by omega),show w64 (1 + (n:Int))=(n:Int) + 1 by rw [w64_in (by omega)]; omega]
    refine ih (k + 1) _ m' (by omega) (by omega) e3 ⟨by simp; omega,fun i f hif=>?_⟩
    rw [List.getElem?_take] at hif
    by_cases hi:i<k
    ·obtain ⟨q,q1,q2⟩:=hv.2 i f (by rw [List.getElem?_take,if_pos hi]; rw [if_pos (by omega)] at hif; exact hif)
     exact ⟨q,by rw [List.getElem?_append_left (by omega)]; exact q1,q2⟩
    ·by_cases hi':i<k + 1
     ·have:i=k:=by omega
      subst this
      rw [if_pos hi',List.getElem?_eq_getElem hlt] at hif
      cases hif
      exact ⟨n,by rw [List.getElem?_append_right (by omega),hvl]; simp,e2⟩
     ·rw [if_neg hi'] at hif; cases hif
   ·have:k=(Mt g l).length:=by omega
    subst this
    rw [if_neg (by simp)]
    rw [List.take_length] at hv
    exact ⟨v,mm,rfl,hv⟩
 obtain ⟨v,mm,e,hv⟩:=key F 0 [] [] (by omega) (by omega) Memo.nil ⟨by simp,fun i f hif=>by simp at hif⟩
 refine ⟨v,?_,hv⟩
 unfold word_song_levels
 rw [show ((0:Nat):Int)=0 from rfl] at e
 rw [e]; rfl
end Wo
end Go.Proofs.YtfmelbioccbdoaaGreat
end
section
namespace Go.Proofs.YtfmelbioccbdoaaGreat
open Go Go.Md Go.RowKit
namespace Wo
def Uc (b:Nat→Nat) (c:Nat→Nat→Bool) (i:Nat):Nat :=
 b i + ((List.range i).attach.map fun j=>if c j.1 i=true then Uc b c j.1 else 0).sum
termination_by i
decreasing_by exact List.mem_range.1 j.2
def Dc (n:Nat) (b:Nat→Nat) (c:Nat→Nat→Bool) (i:Nat):Nat :=
 b i + ((List.range' (i + 1) (n - 1 - i)).attach.map fun j=>if c i j.1=true then Dc n b c j.1 else 0).sum
termination_by n - i
decreasing_by have:=List.mem_range'_1.1 j.2; omega
theorem Uc_eq (b:Nat→Nat) (c:Nat→Nat→Bool) (i:Nat):Uc b c i=b i + ((List.range i).map fun j=>if c j i=true then Uc b c j else 0).sum:=by
 rw [Uc]
 congr 2
 exact List.attach_map_val (f:=fun j=>if c j i=true then Uc b c j else 0)
theorem Dc_eq (n:Nat) (b:Nat→Nat) (c:Nat→Nat→Bool) (i:Nat):Dc n b c i=b i + ((List.range' (i + 1) (n - 1 - i)).map fun j=>if c i j=true then Dc n b c j else 0).sum:=by
 rw [Dc]
 congr 2
 exact List.attach_map_val (f:=fun j=>if c i j=true then Dc n b c j else 0)
theorem pow_sum:∀ i,((List.range i).map fun j=>2 ^ j).sum + 1=2 ^ i
 | 0=>rfl
 | i + 1=>by rw [List.range_succ,List.map_append,List.sum_append]; have:=pow_sum i; simp; rw [Nat.pow_succ]; omega
theorem sum_le {f g:Nat→Nat}:∀ (L:List Nat),(∀ j∈L,f j≤g j)→(L.map f).sum≤(L.map g).sum
 | [],_=>Nat.le_refl _
 | a::L,h=>by
  have:=sum_le L fun j hj=>h j (List.mem_cons_of_mem _ hj)
  have:=h a (List.mem_cons_self ..)
  simp only [List.map_cons,List.sum_cons]; omega
theorem Uc_le {b:Nat→Nat} {c:Nat→Nat→Bool} (hb:∀ i,b i≤1):∀ i,Uc b c i≤2 ^ i:=by
 intro i
 induction i using Nat.strongRecOn with
 | ind i ih =>
  rw [Uc_eq]
  have:=sum_le (f:=fun j=>if c j i=true then Uc b c j else 0) (g:=fun j=>2 ^ j) (List.range i) fun j hj=>by
   have:=ih j (List.mem_range.1 hj)
   show (if c j i=true then Uc b c j else 0)≤_
   split <;> omega
  have:=pow_sum i; have:=hb i; omega
theorem pow_sum' (n:Nat):∀ (d i:Nat),i + d + 1=n→((List.range' (i + 1) d).map fun j=>2 ^ (n - 1 - j)).sum + 1=2 ^ d
 | 0,i,_=>rfl
 | d + 1,i,h=>by
  rw [List.range'_succ,List.map_cons,List.sum_cons]
  have:=pow_sum' n d (i + 1) (by omega)
  rw [show n - 1 - (i + 1)=d by omega,Nat.pow_succ]; omega
theorem Dc_le {n:Nat} {b:Nat→Nat} {c:Nat→Nat→Bool} (hb:∀ i,b i≤1):∀ (d i:Nat),i + d + 1=n→Dc n b c i≤2 ^ d:=by
 intro d
 induction d using Nat.strongRecOn with
 | ind d ih =>
  intro i hi
  rw [Dc_eq]
  have:=sum_le (f:=fun j=>if c i j=true then Dc n b c j else 0) (g:=fun j=>2 ^ (n - 1 - j)) (List.range' (i + 1) (n - 1 - i)) fun j hj=>by
   have hj:=List.mem_range'_1.1 hj
   have:=ih (n - 1 - j) (by omega) j (by omega)
   show (if c i j=true then Dc n b c j else 0)≤_
   split <;> omega
  have e:=pow_sum' n d i hi
  rw [show n - 1 - i=d by omega] at *
  have:=hb i; omega
theorem sum_pos {f:Nat→Nat}:∀ (L:List Nat),0<(L.map f).sum↔∃ j∈L,0<f j
 | []=>by simp
 | a::L=>by
  rw [List.map_cons,List.sum_cons]
  constructor
  ·intro h
   by_cases e:0<f a
   ·exact ⟨a,List.mem_cons_self ..,e⟩
   ·obtain ⟨j,hj,h⟩:=(sum_pos (f:=f) L).1 (by omega); exact ⟨j,List.mem_cons_of_mem _ hj,h⟩
  ·rintro ⟨j,hj,h⟩
   rcases List.mem_cons.1 hj with rfl | hj
   ·omega
   ·have:=(sum_pos (f:=f) L).2 ⟨j,hj,h⟩; omega
structure Dag (n:Nat) (lev:Nat→Nat) (B:Nat→Nat→Bool):Prop where
 lt:∀ i j,i<n→j<n→B i j=true→i<j
 one:∀ i,i<n→1≤lev i
 up:∀ i j,i<n→j<n→B i j=true→lev i<lev j
 dn:∀ i,i<n→2≤lev i→∃ j,j<n∧B j i=true∧lev j + 1=lev i
def ML (M:List Tp) (i:Nat):Tp:=M.getD i fun _=>0
def LV (v:List Int) (i:Nat):Nat:=(v.getD i 0).toNat
section
variable {g:Tp} {l:List (List Int)} {v:List Int}
theorem ML_get {M:List Tp} {i:Nat} (h:i<M.length):ML M i=M[i]:=by simp [ML,h]
theorem Lv.get (hv:Lv g l (Mt g l) v) {i:Nat} (hi:i<(Mt g l).length):1≤LV v i∧v[i]?=some ((LV v i:Nat):Int)∧Mx g l (ML (Mt g l) i) (LV v i - 1):=by
 obtain ⟨n,h1,h2⟩:=hv.2 i _ (List.getElem?_eq_getElem hi)
 have e:LV v i=n + 1:=by unfold LV; rw [List.getD_eq_getElem?_getD,h1]; simp
 rw [e,h1,ML_get hi]
 exact ⟨by omega,by congr 1,h2⟩
theorem bef_lt (h:VL l) {i j:Nat} (hi:i<(Mt g l).length) (hj:j<(Mt g l).length) (hb:bef l.length (ML (Mt g l) i) (ML (Mt g l) j)=true):i<j:=by
 have h2:=h.two
 have h0:=bef_iff.1 hb 0 (by omega)
 rw [ML_get hi,ML_get hj] at h0
 refine Classical.byContradiction fun hno=>?_
 by_cases e:i=j
 ·subst e; omega
 ·have:=List.pairwise_iff_getElem.1 (Mt_ord (g:=g) h) j i hj hi (by omega)
  omega
theorem dag_of (h:VL l) (hv:Lv g l (Mt g l) v):Dag (Mt g l).length (LV v) (fun i j=>bef l.length (ML (Mt g l) i) (ML (Mt g l) j)):=by
 have up:∀ i j,i<(Mt g l).length→j<(Mt g l).length→bef l.length (ML (Mt g l) i) (ML (Mt g l) j)=true→LV v i<LV v j:=by
  intro i j hi hj hb
  obtain ⟨a1,_,⟨c,c1,c2⟩,_⟩:=hv.get hi
  obtain ⟨b1,_,b3⟩:=hv.get hj
  have:=b3.2 _ (c1.add (by rw [ML_get hi]; exact List.getElem_mem hi) hb)
  rw [List.length_append] at this
  simp at this; omega
 refine ⟨fun i j hi hj hb=>bef_lt h hi hj hb,fun i hi=>(hv.get hi).1,up,fun i hi h2=>?_⟩
 obtain ⟨a1,_,⟨c,c1,c2⟩,_⟩:=hv.get hi
 rcases snoc_of c with rfl | ⟨d,x,rfl⟩
 ·simp at c2; omega
 ·obtain ⟨e1,e2,e3⟩:=c1.snoc
  obtain ⟨j,hj,e⟩:=List.mem_iff_getElem.1 e2
  have ex:ML (Mt g l) j=x:=by rw [ML_get hj]; exact e
  obtain ⟨b1,_,b3⟩:=hv.get hj
  rw [ex] at b3
  have b4:=b3.2 d e1
  have b5:=up j i hj hi (by rw [ex]; exact e3)
  rw [List.length_append] at c2
  simp at c2
  exact ⟨j,hj,by show bef l.length (ML (Mt g l) j) _=true; rw [ex]; exact e3,by omega⟩
end
section
variable {n:Nat} {lev:Nat→Nat} {B:Nat→Nat→Bool}
def nxtc (lev:Nat→Nat) (B:Nat→Nat→Bool) (i j:Nat):Bool:=decide (lev i + 1=lev j) && B i j
def topb (top:Nat) (lev:Nat→Nat) (i:Nat):Nat:=if lev i=top then 1 else 0
theorem topb_le (top:Nat) (lev:Nat→Nat) (i:Nat):topb top lev i≤1:=by unfold topb; split <;> omega
def Dw (n top:Nat) (lev:Nat→Nat) (B:Nat→Nat→Bool):Nat→Nat:=Dc n (topb top lev) (nxtc lev B)
def Uw (lev:Nat→Nat) (B:Nat→Nat→Bool):Nat→Nat:=Uc (topb 1 lev) (nxtc lev B)
theorem Dw_top {top i:Nat} (h:lev i=top):0<Dw n top lev B i:=by
 unfold Dw; rw [Dc_eq]
 have:topb top lev i=1:=by unfold topb; rw [if_pos h]
 omega
theorem Dw_step (hd:Dag n lev B) {top i j:Nat} (hi:i<n) (hj:j<n) (hc:nxtc lev B i j=true) (h:0<Dw n top lev B j):0<Dw n top lev B i:=by
 unfold Dw at h ⊢; rw [Dc_eq]
 have hb:B i j=true:=by unfold nxtc at hc; simp at hc; exact hc.2
 have:=hd.lt i j hi hj hb
 have:=(sum_pos (f:=fun j=>if nxtc lev B i j=true then Dc n (topb top lev) (nxtc lev B) j else 0) (List.range' (i + 1) (n - 1 - i))).2 ⟨j,List.mem_range'_1.2 (by omega),by
  show 0<if nxtc lev B i j=true then _ else _
  rw [if_pos hc]; exact h⟩
 omega
theorem Dw_ex {top i:Nat} (h:0<Dw n top lev B i):lev i=top∨∃ j,i<j∧j<n∧nxtc lev B i j=true∧0<Dw n top lev B j:=by
 unfold Dw at h; rw [Dc_eq] at h
 by_cases e:lev i=top
 ·exact .inl e
 ·have:topb top lev i=0:=by unfold topb; rw [if_neg e]
  obtain ⟨j,hj,hp⟩:=(sum_pos (f:=fun j=>if nxtc lev B i j=true then Dc n (topb top lev) (nxtc lev B) j else 0) (List.range' (i + 1) (n - 1 - i))).1 (by omega)
  have hj:=List.mem_range'_1.1 hj
  by_cases hc:nxtc lev B i j=true
  ·simp only [if_pos hc] at hp; exact .inr ⟨j,by omega,by omega,hc,hp⟩
  ·simp only [if_neg hc] at hp; omega
theorem Dw_first (hd:Dag n lev B) {top:Nat}:∀ (q i:Nat),lev i=q + 1→i<n→0<Dw n top lev B i→∃ j,j<n∧lev j=1∧0<Dw n top lev B j
 | 0,i,e,hi,h=>⟨i,hi,by omega,h⟩
 | q + 1,i,e,hi,h=>by
  obtain ⟨j,hj,hb,hl⟩:=hd.dn i hi (by omega)
  exact Dw_first hd q j (by omega) hj (Dw_step hd hj hi (by unfold nxtc; simp [hl,hb]) h)
end
end Wo
end Go.Proofs.YtfmelbioccbdoaaGreat
end
section
namespace Go.Proofs.YtfmelbioccbdoaaGreat
open Go Go.Md Go.RowKit
namespace Wo
def TT (n:Nat) (p q:Nat→Nat):List (Int×Int):=(List.range n).map fun i=>(((p i:Nat):Int),((q i:Nat):Int))
theorem TT_len (n:Nat) (p q:Nat→Nat):(TT n p q).length=n:=by simp [TT]
theorem TT_ix {n:Nat} {p q:Nat→Nat} {i:Nat} (h:i<n):ix (TT n p q) (i:Int)=some (((p i:Nat):Int),((q i:Nat):Int)):=by
 rw [ix_nat (by rw [TT_len]; exact h)]; simp [TT]
theorem TT_set {n:Nat} {p q:Nat→Nat} {i a b:Nat} (h:i<n):rset (TT n p q) (i:Int) ((a:Int),(b:Int))=TT n (upd p i a) (upd q i b):=by
 rw [rset_nat]
 apply List.ext_getElem?
 intro j
 rw [List.getElem?_set,TT_len]
 unfold TT
 by_cases hj:j<n
 ·by_cases e:i=j
  ·subst e; simp [h,upd]
  ·simp [hj,e,upd,Ne.symm e]
 ·rw [if_neg (by omega)]; simp [hj]
theorem TT_cong {n:Nat} {p q p' q':Nat→Nat} (h:∀ i,i<n→p i=p' i∧q i=q' i):TT n p q=TT n p' q':=by
 unfold TT
 exact List.map_congr_left fun i hi=>by have:=h i (List.mem_range.1 hi); rw [this.1,this.2]
section
variable {F:Nat} {d:Ob ((Uno (List (Ar 2 Int)))×(Ar 101 Int))} {l:List (List Int)} {g:Tp} {v:List Int}
abbrev Sng (d:Ob ((Uno (List (Ar 2 Int)))×(Ar 101 Int))) (g:Tp) (l:List (List Int)):Sg0:=(d,l,(Mt g l).map pl)
abbrev Bf (g:Tp) (l:List (List Int)) (i j:Nat):Bool:=bef l.length (ML (Mt g l) i) (ML (Mt g l) j)
theorem mpl_ix {i:Nat} (h:i<(Mt g l).length):ix ((Mt g l).map pl) (i:Int)=some (pl (ML (Mt g l) i)):=by
 rw [ix_nat (by simpa using h),ML_get h]; simp
theorem Lv.ix (hv:Lv g l (Mt g l) v) {i:Nat} (hi:i<(Mt g l).length):Md.ix v (i:Int)=some ((LV v i:Nat):Int):=by
 have:=(hv.get hi).2.1
 have hl:=hv.1
 rw [ix_nat (by omega)]
 rw [List.getElem?_eq_getElem (by omega)] at this
 exact this
theorem Lv.le (hv:Lv g l (Mt g l) v) (h:VL l) {i:Nat} (hi:i<(Mt g l).length):LV v i≤1001:=by
 have h2:=h.two
 obtain ⟨_,_,hm⟩:=hv.get hi
 have:=hm.le (by omega)
 have hf:=Mt_mem (List.getElem_mem hi)
 rw [ML_get hi] at this
 have:=hf.1 0 (by omega)
 have:=vl_ln h 0
 omega
theorem wm_l1 (hv:Lv g l (Mt g l) v):∀ (m k a:Nat),k≤(Mt g l).length→(Mt g l).length - k<m→(Mt g l).length≤4096→(∀ i,i<k→LV v i≤a)→((k=0∧a=0)∨∃ i,i<k∧LV v i=a) →
  ∃ top:Nat,word_song_ways_l1 F v m (a:Int) (k:Int)=some (top:Int)∧(∀ i,i<(Mt g l).length→LV v i≤top)∧(((Mt g l).length=0∧top=0)∨∃ i,i<(Mt g l).length∧LV v i=top)
 | 0,k,_,_,h,_,_,_=>by omega
 | m + 1,k,a,hk,hm,h40,ha,hx=>by
  have hl:=hv.1
  unfold word_song_ways_l1
  by_cases hlt:k<(Mt g l).length
  ·rw [if_pos (by simp; omega),hv.ix hlt]
   simp only [Option.bind_eq_bind,Option.bind_some,word_greatest__int]
   by_cases c:LV v k<a
   ·rw [if_pos (by simpa using c)]
    simp only [Option.bind_some]
    rw [w64_nat (by omega)]
    refine wm_l1 hv m (k + 1) a (by omega) (by omega) h40 (fun i hi=>?_) (.inr ?_)
    ·by_cases e:i=k
     ·subst e; omega
     ·exact ha i (by omega)
    ·rcases hx with ⟨_,e⟩ | ⟨i,hi,e⟩
     ·omega
     ·exact ⟨i,by omega,e⟩
   ·rw [if_neg (by simpa using c)]
    simp only [Option.bind_some]
    rw [w64_nat (by omega)]
    refine wm_l1 hv m (k + 1) (LV v k) (by omega) (by omega) h40 (fun i hi=>?_) (.inr ⟨k,by omega,rfl⟩)
    by_cases e:i=k
    ·subst e; omega
    ·have:=ha i (by omega); omega
  ·have:k=(Mt g l).length:=by omega
   subst this
   rw [if_neg (by simp; omega)]
   exact ⟨a,rfl,ha,hx⟩
theorem nxtc_eq (hF:1000<F) (h:VL l) (hv:Lv g l (Mt g l) v) {i j:Nat} (hi:i<(Mt g l).length) (hj:j<(Mt g l).length) :
  (gd (decide ((w64 ((LV v i:Int) + 1))=(LV v j:Int))) (word_song_before F (Sng d g l) (pl (ML (Mt g l) i)) (pl (ML (Mt g l) j))) false)=some (Bf g l i j && decide (LV v i + 1=LV v j) || (decide (LV v i + 1=LV v j) && Bf g l i j)):=by
 have:=hv.le h hi
 rw [w64_nat (by omega),wbef_eq hF h.four]
 by_cases e:LV v i + 1=LV v j
 ·rw [decide_eq_true (by omega),decide_eq_true e]; simp [gd]
 ·rw [decide_eq_false (by omega),decide_eq_false e]; simp [gd]
def pk (U:Nat→Nat) (k:Nat):Nat→Nat:=fun i=>if i<k then U i else 0
def qk (D:Nat→Nat) (k:Nat):Nat→Nat:=fun i=>if k≤i then D i else 0
def us (lev:Nat→Nat) (B:Nat→Nat→Bool) (k t:Nat):Nat:=topb 1 lev k + ((List.range t).map fun j=>if nxtc lev B j k=true then Uw lev B j else 0).sum
theorem us_succ (lev:Nat→Nat) (B:Nat→Nat→Bool) (k t:Nat):us lev B k (t + 1)=us lev B k t + if nxtc lev B t k=true then Uw lev B t else 0:=by
 unfold us; rw [List.range_succ,List.map_append,List.sum_append]; simp; omega
theorem us_end (lev:Nat→Nat) (B:Nat→Nat→Bool) (k:Nat):us lev B k k=Uw lev B k:=by
 unfold us Uw; rw [Uc_eq]
theorem us_mono (lev:Nat→Nat) (B:Nat→Nat→Bool) (k:Nat):∀ s t,us lev B k t≤us lev B k (t + s)
 | 0,_=>Nat.le_refl _
 | s + 1,t=>by have:=us_mono lev B k s t; rw [← Nat.add_assoc,us_succ]; omega
theorem us_le {lev:Nat→Nat} {B:Nat→Nat→Bool} {k t:Nat} (hk:k≤40) (ht:t≤k):us lev B k t≤2 ^ 40:=by
 have:=us_mono lev B k (k - t) t
 rw [show t + (k - t)=k by omega,us_end] at this
 have h1:Uw lev B k≤2 ^ k:=Uc_le (topb_le 1 lev) k
 have h2:2 ^ k≤2 ^ 40:=Nat.pow_le_pow_right (by omega) hk
 omega
theorem wm_l3 (hF:1000<F) (h:VL l) (hv:Lv g l (Mt g l) v) (h40:(Mt g l).length≤40) {k:Nat} (hk:k<(Mt g l).length) {q:Nat→Nat}:∀ (m t:Nat),t≤k→k - t<m →
  word_song_ways_l3 F (Sng d g l) v (pl (ML (Mt g l) k)) (((Mt g l).map pl).take k) (k:Int) m (TT (Mt g l).length (upd (pk (Uw (LV v) (Bf g l)) k) k (us (LV v) (Bf g l) k t)) q) (t:Int)=some (TT (Mt g l).length (pk (Uw (LV v) (Bf g l)) (k + 1)) q)
 | 0,t,_,h=>by omega
 | m + 1,t,ht,hm=>by
  unfold word_song_ways_l3
  have hpt:(((Mt g l).map pl).take k).length=k:=by simp; omega
  by_cases hlt:t<k
  ·have e9:ix (((Mt g l).map pl).take k) (t:Int)=some (pl (ML (Mt g l) t)):=by
    rw [ix_nat (by rw [hpt]; exact hlt),ML_get (show t<(Mt g l).length by omega)]; simp
   rw [if_pos (by rw [hpt]; simpa using hlt),e9,hv.ix (show t<_ by omega),hv.ix hk]
   simp only [Option.bind_eq_bind,Option.bind_some]
   rw [show word_song_before F ((Sng d g l).1,(Sng d g l).2.1,(Sng d g l).2.2) (pl (ML (Mt g l) t)) (pl (ML (Mt g l) k))=word_song_before F (Sng d g l) (pl (ML (Mt g l) t)) (pl (ML (Mt g l) k)) from rfl,nxtc_eq hF h hv (by omega) hk]
   simp only [Option.bind_some]
   have hle:=hv.le h (show t<(Mt g l).length by omega)
   have hs:=us_succ (LV v) (Bf g l) k t
   have hsl:=us_le (lev:=LV v) (B:=Bf g l) (k:=k) (t:=t + 1) (by omega) (by omega)
   have hut:upd (pk (Uw (LV v) (Bf g l)) k) k (us (LV v) (Bf g l) k t) t=Uw (LV v) (Bf g l) t:=by unfold upd pk; rw [if_neg (by omega),if_pos hlt]
   have huk:upd (pk (Uw (LV v) (Bf g l)) k) k (us (LV v) (Bf g l) k t) k=us (LV v) (Bf g l) k t:=by simp [upd]
   have ec:(decide (w64 ((LV v t:Int) + 1)=(LV v k:Int)) && (Bf g l t k && decide (LV v t + 1=LV v k) || (decide (LV v t + 1=LV v k) && Bf g l t k)))=nxtc (LV v) (Bf g l) t k:=by
    rw [w64_nat (by omega)]
    unfold nxtc
    by_cases e:LV v t + 1=LV v k
    ·rw [decide_eq_true (by omega),decide_eq_true e]; simp
    ·rw [decide_eq_false (by omega),decide_eq_false e]; simp
   rw [ec]
   cases hc:nxtc (LV v) (Bf g l) t k with
   | true =>
    rw [if_pos rfl,TT_ix hk,TT_ix (show t<(Mt g l).length by omega),hut,huk]
    simp only [Option.bind_some]
    rw [hc,if_pos rfl] at hs
    rw [show w64 ((us (LV v) (Bf g l) k t:Int) + (Uw (LV v) (Bf g l) t:Int))=((us (LV v) (Bf g l) k (t + 1):Nat):Int) by rw [w64_in (by omega)]; omega,TT_set hk,upd_upd,upd_same rfl,w64_nat (by omega)]
    exact wm_l3 hF h hv h40 hk m (t + 1) (by omega) (by omega)
   | false =>
    rw [if_neg (by simp)]
    simp only [Option.bind_some]
    rw [hc,if_neg (by simp)] at hs
    rw [w64_nat (by omega),show us (LV v) (Bf g l) k t=us (LV v) (Bf g l) k (t + 1) by omega]
    exact wm_l3 hF h hv h40 hk m (t + 1) (by omega) (by omega)
  ·have:t=k:=by omega
   subst this
   rw [if_neg (by rw [hpt]; simp),us_end]
   congr 1
   refine TT_cong fun i _=>⟨?_,rfl⟩
   unfold upd pk
   by_cases e:i=t
   ·subst e; rw [if_pos rfl,if_pos (by omega)]
   ·rw [if_neg e]
    by_cases hi:i<t
    ·rw [if_pos hi,if_pos (by omega)]
    ·rw [if_neg hi,if_neg (by omega)]
theorem wm_l2 (hF:1000<F) (h:VL l) (hv:Lv g l (Mt g l) v) (h40:(Mt g l).length≤40) {q:Nat→Nat}:∀ (m k:Nat),k≤(Mt g l).length→(Mt g l).length - k<m →
  word_song_ways_l2 F (Sng d g l) v m (TT (Mt g l).length (pk (Uw (LV v) (Bf g l)) k) q) (k:Int)=some (TT (Mt g l).length (pk (Uw (LV v) (Bf g l)) (Mt g l).length) q)
 | 0,k,_,h=>by omega
 | m + 1,k,hk,hm=>by
  unfold word_song_ways_l2
  by_cases hlt:k<(Mt g l).length
  ·rw [if_pos (by simpa using hlt)]
   show ((ix ((Mt g l).map pl) (k:Int)) >>= _)=_
   rw [mpl_ix hlt]
   simp only [Option.bind_eq_bind,Option.bind_some]
   rw [hv.ix hlt]
   simp only [Option.bind_some]
   have e5:(if decide ((LV v k:Int)=1)=true then (ix (TT (Mt g l).length (pk (Uw (LV v) (Bf g l)) k) q) (k:Int)).bind fun x8=>some (rset (TT (Mt g l).length (pk (Uw (LV v) (Bf g l)) k) q) (k:Int) ((1:Int),x8.2)) else some (TT (Mt g l).length (pk (Uw (LV v) (Bf g l)) k) q))=some (TT (Mt g l).length (upd (pk (Uw (LV v) (Bf g l)) k) k (us (LV v) (Bf g l) k 0)) q):=by
    unfold us topb
    by_cases e:LV v k=1
    ·rw [if_pos (by simp [e]),TT_ix hlt]
     simp only [Option.bind_some]
     rw [show (1:Int)=((1:Nat):Int) from rfl,TT_set hlt,upd_same (f:=q) rfl,if_pos e]
     rfl
    ·rw [if_neg (by simp; omega),if_neg e]
     congr 2
     rw [upd_same]
     unfold pk; rw [if_neg (by omega)]; rfl
   rw [e5]
   simp only [Option.bind_some]
   have e9:stake ((Mt g l).map pl) (k:Int)=some (((Mt g l).map pl).take k):=by
    unfold stake; rw [if_pos (by simp; omega)]; rfl
   rw [show stake (Sng d g l).2.2 (k:Int)=_ from e9]
   simp only [Option.bind_some]
   have:=wm_l3 (d:=d) hF h hv h40 hlt (q:=q) F 0 (by omega) (by omega)
   rw [show ((0:Nat):Int)=0 from rfl] at this
   rw [this]
   simp only [Option.bind_some]
   rw [w64_nat (by omega)]
   exact wm_l2 hF h hv h40 m (k + 1) (by omega) (by omega)
  ·rw [if_neg (by simpa using hlt),show k=(Mt g l).length by omega]
def dsum (n top:Nat) (lev:Nat→Nat) (B:Nat→Nat→Bool) (k t:Nat):Nat:=topb top lev k + ((List.range' (k + 1) (t - (k + 1))).map fun j=>if nxtc lev B k j=true then Dw n top lev B j else 0).sum
theorem dsum_succ (n top:Nat) (lev:Nat→Nat) (B:Nat→Nat→Bool) (k t:Nat) (h:k + 1≤t):dsum n top lev B k (t + 1)=dsum n top lev B k t + if nxtc lev B k t=true then Dw n top lev B t else 0:=by
 unfold dsum
 rw [show t + 1 - (k + 1)=(t - (k + 1)) + 1 by omega,List.range'_concat,List.map_append,List.sum_append]
 simp only [Nat.one_mul,List.map_cons,List.map_nil,List.sum_cons,List.sum_nil]
 rw [show k + 1 + (t - (k + 1))=t by omega]; omega
theorem dsum_end (n top:Nat) (lev:Nat→Nat) (B:Nat→Nat→Bool) (k:Nat):dsum n top lev B k n=Dw n top lev B k:=by
 unfold dsum Dw; rw [Dc_eq,show n - 1 - k=n - (k + 1) by omega]
theorem dsum_mono (n top:Nat) (lev:Nat→Nat) (B:Nat→Nat→Bool) (k:Nat):∀ s t,k + 1≤t→dsum n top lev B k t≤dsum n top lev B k (t + s)
 | 0,_,_=>Nat.le_refl _
 | s + 1,t,h=>by have:=dsum_mono n top lev B k s t h; rw [← Nat.add_assoc,dsum_succ _ _ _ _ _ _ (by omega)]; omega
theorem dsum_le {n top:Nat} {lev:Nat→Nat} {B:Nat→Nat→Bool} {k t:Nat} (hn:n≤40) (hk:k<n) (h1:k + 1≤t) (ht:t≤n):dsum n top lev B k t≤2 ^ 40:=by
 have:=dsum_mono n top lev B k (n - t) t h1
 rw [show t + (n - t)=n by omega,dsum_end] at this
 have h1:Dw n top lev B k≤2 ^ (n - 1 - k):=Dc_le (topb_le top lev) (n - 1 - k) k (by omega)
 have h2:2 ^ (n - 1 - k)≤2 ^ 40:=Nat.pow_le_pow_right (by omega) (by omega)
 omega
theorem wm_l5 (hF:1000<F) (h:VL l) (hv:Lv g l (Mt g l) v) (h40:(Mt g l).length≤40) {k top:Nat} (hk:k<(Mt g l).length) {p:Nat→Nat}:∀ (m t:Nat),k + 1≤t→t≤(Mt g l).length→(Mt g l).length - t<m →
  word_song_ways_l5 F (Sng d g l) v (k:Int) m (TT (Mt g l).length p (upd (qk (Dw (Mt g l).length top (LV v) (Bf g l)) (k + 1)) k (dsum (Mt g l).length top (LV v) (Bf g l) k t))) (t:Int)=some (TT (Mt g l).length p (qk (Dw (Mt g l).length top (LV v) (Bf g l)) k))
 | 0,t,_,_,h=>by omega
 | m + 1,t,h1,ht,hm=>by
  unfold word_song_ways_l5
  by_cases hlt:t<(Mt g l).length
  ·have hle:=hv.le h hk
   have hs:=dsum_succ (Mt g l).length top (LV v) (Bf g l) k t h1
   have hsl:=dsum_le (top:=top) (lev:=LV v) (B:=Bf g l) (k:=k) (t:=t + 1) h40 hk (by omega) (by omega)
   have hut:upd (qk (Dw (Mt g l).length top (LV v) (Bf g l)) (k + 1)) k (dsum (Mt g l).length top (LV v) (Bf g l) k t) t=Dw (Mt g l).length top (LV v) (Bf g l) t:=by unfold upd qk; rw [if_neg (by omega),if_pos h1]
   have huk:upd (qk (Dw (Mt g l).length top (LV v) (Bf g l)) (k + 1)) k (dsum (Mt g l).length top (LV v) (Bf g l) k t) k=dsum (Mt g l).length top (LV v) (Bf g l) k t:=by simp [upd]
   rw [if_pos (by simpa using hlt),TT_ix hlt,hut]
   simp only [Option.bind_eq_bind,Option.bind_some]
   by_cases hz:Dw (Mt g l).length top (LV v) (Bf g l) t=0
   ·rw [if_neg (by simp [hz])]
    simp only [Bool.false_eq_true,if_false,Option.bind_some]
    have:(if nxtc (LV v) (Bf g l) k t=true then Dw (Mt g l).length top (LV v) (Bf g l) t else 0)=0:=by rw [hz]; simp
    rw [w64_nat (by omega),show dsum (Mt g l).length top (LV v) (Bf g l) k t=dsum (Mt g l).length top (LV v) (Bf g l) k (t + 1) by omega]
    exact wm_l5 hF h hv h40 hk m (t + 1) (by omega) (by omega) (by omega)
   ·rw [if_pos (by simp; omega),hv.ix hk,hv.ix hlt]
    simp only [Option.bind_some]
    by_cases e:LV v k + 1=LV v t
    ·rw [if_pos (by rw [w64_nat (by omega)]; simp; omega)]
     show ((((ix ((Mt g l).map pl) (k:Int)).bind _).bind _).bind _)=_
     rw [mpl_ix hk]
     simp only [Option.bind_some]
     rw [mpl_ix hlt]
     simp only [Option.bind_some]
     rw [show word_song_before F (d,l,(Mt g l).map pl) (pl (ML (Mt g l) k)) (pl (ML (Mt g l) t))=some (Bf g l k t) from wbef_eq hF h.four _ _]
     simp only [Option.bind_some]
     cases hb:Bf g l k t with
     | true =>
      have hc:nxtc (LV v) (Bf g l) k t=true:=by unfold nxtc; rw [hb,decide_eq_true e]; rfl
      rw [if_pos rfl,TT_ix hk,huk]
      simp only [Option.bind_some]
      rw [hc,if_pos rfl] at hs
      rw [show w64 ((dsum (Mt g l).length top (LV v) (Bf g l) k t:Int) + (Dw (Mt g l).length top (LV v) (Bf g l) t:Int))=((dsum (Mt g l).length top (LV v) (Bf g l) k (t + 1):Nat):Int) by rw [w64_in (by omega)]; omega,TT_set hk,upd_upd,upd_same (f:=p) rfl,w64_nat (by omega)]
      exact wm_l5 hF h hv h40 hk m (t + 1) (by omega) (by omega) (by omega)
     | false =>
      have hc:nxtc (LV v) (Bf g l) k t=false:=by unfold nxtc; rw [hb]; simp
      rw [if_neg (by simp)]
      simp only [Option.bind_some]
      rw [hc,if_neg (by simp)] at hs
      rw [w64_nat (by omega),show dsum (Mt g l).length top (LV v) (Bf g l) k t=dsum (Mt g l).length top (LV v) (Bf g l) k (t + 1) by omega]
      exact wm_l5 hF h hv h40 hk m (t + 1) (by omega) (by omega) (by omega)
    ·have hc:nxtc (LV v) (Bf g l) k t=false:=by unfold nxtc; rw [decide_eq_false e]; rfl
     rw [if_neg (by rw [w64_nat (by omega)]; simp; omega)]
     simp only [Option.bind_some,Bool.false_eq_true,if_false]
     rw [hc,if_neg (by simp)] at hs
     rw [w64_nat (by omega),show dsum (Mt g l).length top (LV v) (Bf g l) k t=dsum (Mt g l).length top (LV v) (Bf g l) k (t + 1) by omega]
     exact wm_l5 hF h hv h40 hk m (t + 1) (by omega) (by omega) (by omega)
  ·have:t=(Mt g l).length:=by omega
   subst this
   rw [if_neg (by simp),dsum_end]
   congr 1
   refine TT_cong fun i _=>⟨rfl,?_⟩
   unfold upd qk
   by_cases e:i=k
   ·subst e; rw [if_pos rfl,if_pos (by omega)]
   ·rw [if_neg e]
    by_cases hi:k + 1≤i
    ·rw [if_pos hi,if_pos (by omega)]
    ·rw [if_neg hi,if_neg (by omega)]
theorem wm_l4 (hF:1000<F) (h:VL l) (hv:Lv g l (Mt g l) v) (h40:(Mt g l).length≤40) {top:Nat} {p:Nat→Nat}:∀ (m k:Nat),k≤(Mt g l).length→k<m →
  word_song_ways_l4 F (Sng d g l) v (top:Int) m (TT (Mt g l).length p (qk (Dw (Mt g l).length top (LV v) (Bf g l)) k)) ((k:Int) - 1)=some (TT (Mt g l).length p (qk (Dw (Mt g l).length top (LV v) (Bf g l)) 0))
 | 0,k,_,h=>by omega
 | m + 1,0,hk,hm=>by
  unfold word_song_ways_l4
  rw [if_neg (by simp)]
 | m + 1,k + 1,hk,hm=>by
  have hlt:k<(Mt g l).length:=by omega
  unfold word_song_ways_l4
  rw [show ((k + 1:Nat):Int) - 1=(k:Int) by omega,if_pos (by simp),hv.ix hlt]
  simp only [Option.bind_eq_bind,Option.bind_some]
  have e5:(if decide ((LV v k:Int)=(top:Int))=true then (ix (TT (Mt g l).length p (qk (Dw (Mt g l).length top (LV v) (Bf g l)) (k + 1))) (k:Int)).bind fun x18=>some (rset (TT (Mt g l).length p (qk (Dw (Mt g l).length top (LV v) (Bf g l)) (k + 1))) (k:Int) (x18.1,(1:Int))) else some (TT (Mt g l).length p (qk (Dw (Mt g l).length top (LV v) (Bf g l)) (k + 1))))=some (TT (Mt g l).length p (upd (qk (Dw (Mt g l).length top (LV v) (Bf g l)) (k + 1)) k (dsum (Mt g l).length top (LV v) (Bf g l) k (k + 1)))):=by
   unfold dsum topb
   by_cases e:LV v k=top
   ·rw [if_pos (by simp [e]),TT_ix hlt]
    simp only [Option.bind_some]
    rw [show (1:Int)=((1:Nat):Int) from rfl,TT_set hlt,upd_same (f:=p) rfl,if_pos e]
    simp
   ·rw [if_neg (by simp; omega),if_neg e]
    congr 2
    rw [upd_same]
    unfold qk; rw [if_neg (by omega)]; simp
  rw [e5]
  simp only [Option.bind_some]
  rw [w64_nat (by omega),wm_l5 (d:=d) hF h hv h40 hlt F (k + 1) (by omega) (by omega) (by omega)]
  simp only [Option.bind_some]
  rw [w64_in (by omega)]
  exact wm_l4 hF h hv h40 m k (by omega) (by omega)
theorem ways_eq (hF:100000<F) {x:Bk} {c:Cls} (h:VL l) (hc:c.l=tl g) (h40:(Mt g l).length≤40):∃ v top,Lv g l (Mt g l) v∧word_song_levels F (Sng ⟨some (x,c)⟩ g l)=some v∧(∀ i,i<(Mt g l).length→LV v i≤top)∧(((Mt g l).length=0∧top=0)∨∃ i,i<(Mt g l).length∧LV v i=top) ∧
  word_song_ways F (Sng ⟨some (x,c)⟩ g l)=some (TT (Mt g l).length (Uw (LV v) (Bf g l)) (Dw (Mt g l).length top (LV v) (Bf g l))):=by
 obtain ⟨v,h1,hv⟩:=levels_eq hF (x:=x) h hc
 obtain ⟨top,e1,e2,e3⟩:=wm_l1 (F:=F) hv F 0 0 (by omega) (by omega) (by omega) (fun i hi=>by omega) (.inl ⟨rfl,rfl⟩)
 refine ⟨v,top,hv,h1,e2,e3,?_⟩
 unfold word_song_ways
 rw [show word_song_levels F ((Sng ⟨some (x,c)⟩ g l).1,(Sng ⟨some (x,c)⟩ g l).2.1,(Sng ⟨some (x,c)⟩ g l).2.2)=some v from h1]
 simp only [Option.bind_eq_bind,Option.bind_some]
 rw [show ((0:Nat):Int)=0 from rfl] at e1
 rw [e1]
 simp only [Option.bind_some]
 have e5:mks 16 ((((Mt g l).map pl).length:Nat):Int) ((0,0):Int×Int)=some (TT (Mt g l).length (pk (Uw (LV v) (Bf g l)) 0) fun _=>0):=by
  unfold mks
  rw [if_pos (by simp; omega)]
  congr 1
  unfold TT pk
  simp [List.map_const']
 rw [show mks 16 ((Sng (⟨some (x,c)⟩:Ob ((Uno (List (Ar 2 Int)))×(Ar 101 Int))) g l).2.2.length:Int) ((0,0):Int×Int)=_ from e5]
 simp only [Option.bind_some]
 have e6:=wm_l2 (F:=F) (d:=⟨some (x,c)⟩) (by omega) h hv h40 (q:=fun _=>0) F 0 (by omega) (by omega)
 rw [show ((0:Nat):Int)=0 from rfl] at e6
 rw [e6]
 simp only [Option.bind_some]
 have e7:=wm_l4 (F:=F) (d:=⟨some (x,c)⟩) (by omega) h hv h40 (top:=top) (p:=pk (Uw (LV v) (Bf g l)) (Mt g l).length) F (Mt g l).length (Nat.le_refl _) (by omega)
 have e8:TT (Mt g l).length (pk (Uw (LV v) (Bf g l)) (Mt g l).length) (fun _=>0)=TT (Mt g l).length (pk (Uw (LV v) (Bf g l)) (Mt g l).length) (qk (Dw (Mt g l).length top (LV v) (Bf g l)) (Mt g l).length):=TT_cong fun i hi=>⟨rfl,by unfold qk; rw [if_neg (by omega)]⟩
 rw [e8,show w64 (((Sng (⟨some (x,c)⟩:Ob ((Uno (List (Ar 2 Int)))×(Ar 101 Int))) g l).2.2.length:Int) - 1)=((Mt g l).length:Int) - 1 by rw [show (Sng (⟨some (x,c)⟩:Ob ((Uno (List (Ar 2 Int)))×(Ar 101 Int))) g l).2.2.length=(Mt g l).length by simp,w64_in (by omega)],e7]
 simp only [Option.bind_some]
 congr 1
 exact TT_cong fun i hi=>⟨by unfold pk; rw [if_pos hi],by unfold qk; rw [if_pos (by omega)]⟩
end
end Wo
end Go.Proofs.YtfmelbioccbdoaaGreat
end
section
namespace Go.Proofs.YtfmelbioccbdoaaGreat
open Go Go.Md Go.RowKit
namespace Wo
structure Gr (n top:Nat) (lev:Nat→Nat) (B:Nat→Nat→Bool) (k:Nat) (c:List Nat):Prop where
 mem:∀ i∈c,i<k∧i<n∧0<Dw n top lev B i
 lv:∀ (t i:Nat),c[t]?=some i→lev i=t + 1
 seq:∀ (t i j:Nat),c[t]?=some i→c[t + 1]?=some j→B i j=true
 more:c.length<top→∃ j,k≤j∧j<n∧0<Dw n top lev B j∧lev j=c.length + 1∧∀ i,c.getLast?=some i→B i j=true
 le:c.length≤top
def nextc (n top:Nat) (lev:Nat→Nat) (B:Nat→Nat→Bool) (k:Nat) (c:List Nat):Bool:=decide (0<Dw n top lev B k) && decide (lev k=c.length + 1) && (match c.getLast? with | none=>true | some i=>B i k)
theorem Gr.add {n top:Nat} {lev:Nat→Nat} {B:Nat→Nat→Bool} (hd:Dag n lev B) (ht:∀ i,i<n→lev i≤top) {k:Nat} (hk:k<n) {c:List Nat} (h:Gr n top lev B k c) (hc:nextc n top lev B k c=true):Gr n top lev B (k + 1) (c++[k]):=by
 unfold nextc at hc
 rw [Bool.and_eq_true,Bool.and_eq_true] at hc
 obtain ⟨⟨h1,h2⟩,h3⟩:=hc
 have h1:0<Dw n top lev B k:=by simpa using h1
 have h2:lev k=c.length + 1:=by simpa using h2
 have hkt:=ht k hk
 refine ⟨fun i hi=>?_,fun t i e=>?_,fun t i j e1 e2=>?_,fun hl=>?_,by simp; omega⟩
 ·rcases List.mem_append.1 hi with hi | hi
  ·have:=h.mem i hi; exact ⟨by omega,this.2⟩
  ·rw [List.mem_singleton] at hi; subst hi; exact ⟨by omega,hk,h1⟩
 ·by_cases e':t<c.length
  ·rw [List.getElem?_append_left e'] at e; exact h.lv t i e
  ·rw [List.getElem?_append_right (by omega)] at e
   by_cases e2:t - c.length=0
   ·rw [e2] at e; cases e; omega
   ·rw [List.getElem?_eq_none (by simp; omega)] at e; cases e
 ·by_cases e':t + 1<c.length
  ·rw [List.getElem?_append_left (by omega)] at e1 e2; exact h.seq t i j e1 e2
  ·by_cases e3:t + 1=c.length
   ·rw [List.getElem?_append_left (by omega)] at e1
    rw [List.getElem?_append_right (by omega),e3,Nat.sub_self] at e2
    cases e2
    have:c.getLast?=some i:=by rw [List.getLast?_eq_getElem?,← e3]; exact e1
    rw [this] at h3; exact h3
   ·rw [List.getElem?_append_right (by omega),List.getElem?_eq_none (by simp; omega)] at e2; cases e2
 ·rw [List.length_append] at hl ⊢
  simp only [List.length_singleton] at hl ⊢
  rcases Dw_ex h1 with e | ⟨j,j1,j2,j3,j4⟩
  ·omega
  ·unfold nxtc at j3
   rw [Bool.and_eq_true] at j3
   have e:lev k + 1=lev j:=by simpa using j3.1
   exact ⟨j,by omega,j2,j4,by omega,fun i hi=>by rw [List.getLast?_concat] at hi; cases hi; exact j3.2⟩
theorem Gr.skip {n top:Nat} {lev:Nat→Nat} {B:Nat→Nat→Bool} {k:Nat} {c:List Nat} (h:Gr n top lev B k c) (hc:nextc n top lev B k c=false):Gr n top lev B (k + 1) c:=by
 refine ⟨fun i hi=>by have:=h.mem i hi; exact ⟨by omega,this.2⟩,h.lv,h.seq,fun hl=>?_,h.le⟩
 obtain ⟨j,j1,j2,j3,j4,j5⟩:=h.more hl
 refine ⟨j,?_,j2,j3,j4,j5⟩
 by_cases e:j=k
 ·subst e
  unfold nextc at hc
  rw [decide_eq_true j3,decide_eq_true j4] at hc
  cases hg:c.getLast? with
  | none=>rw [hg] at hc; cases hc
  | some i=>rw [hg] at hc; have:=j5 i hg; simp [this] at hc
 ·omega
section
variable {F:Nat} {d:Ob ((Uno (List (Ar 2 Int)))×(Ar 101 Int))} {l:List (List Int)} {g:Tp} {v:List Int}
def plc (g:Tp) (l:List (List Int)) (c:List Nat):List Pl:=c.map fun i=>pl (ML (Mt g l) i)
theorem long_l1 (hF:1000<F) (h:VL l) (hv:Lv g l (Mt g l) v) (h40:(Mt g l).length≤40) {top:Nat} (ht:∀ i,i<(Mt g l).length→LV v i≤top) {p:Nat→Nat}:∀ (m k:Nat) (c:List Nat),k≤(Mt g l).length→(Mt g l).length - k<m→Gr (Mt g l).length top (LV v) (Bf g l) k c→c.length≤k →
  ∃ c',word_song_longest_l1 F (Sng d g l) (TT (Mt g l).length p (Dw (Mt g l).length top (LV v) (Bf g l))) v m (plc g l c) (k:Int)=some (plc g l c')∧Gr (Mt g l).length top (LV v) (Bf g l) (Mt g l).length c'
 | 0,k,_,_,h,_,_=>by omega
 | m + 1,k,c,hk,hm,hG,hck=>by
  have hd:=dag_of h hv
  unfold word_song_longest_l1
  by_cases hlt:k<(Mt g l).length
  ·have hpl:(plc g l c).length=c.length:=by simp [plc]
   rw [if_pos (by simpa using hlt)]
   rw [show ix (Sng d g l).2.2 (k:Int)=some (pl (ML (Mt g l) k)) from mpl_ix hlt,TT_ix hlt]
   simp only [Option.bind_eq_bind,Option.bind_some]
   have ec:(if decide ((0:Int)<((Dw (Mt g l).length top (LV v) (Bf g l) k:Nat):Int))=true then
     (Md.ix v (k:Int)).bind fun x7=>if decide (x7=w64 (((plc g l c).length:Int) + 1))=true then (if decide (((plc g l c).length:Int)=0)=true then some true else (ix (plc g l c) (w64 (((plc g l c).length:Int) - 1))).bind fun x8=>(word_song_before F (d,l,(Mt g l).map pl) x8 (pl (ML (Mt g l) k))).bind fun x9=>some x9) else some false
    else (if false=true then (if decide (((plc g l c).length:Int)=0)=true then some true else (ix (plc g l c) (w64 (((plc g l c).length:Int) - 1))).bind fun x8=>(word_song_before F (d,l,(Mt g l).map pl) x8 (pl (ML (Mt g l) k))).bind fun x9=>some x9) else some false))=some (nextc (Mt g l).length top (LV v) (Bf g l) k c):=by
    unfold nextc
    by_cases c1:0<Dw (Mt g l).length top (LV v) (Bf g l) k
    ·rw [if_pos (by simpa using c1),hv.ix hlt,decide_eq_true c1]
     simp only [Option.bind_some]
     rw [hpl,w64_nat (by omega)]
     by_cases c2:LV v k=c.length + 1
     ·rw [if_pos (by simp; omega),decide_eq_true c2]
      rcases snoc_of c with rfl | ⟨e,i,rfl⟩
      ·simp
      ·have hck':e.length + 1≤k:=by simpa using hck
       rw [List.length_append,if_neg (by simp; omega),List.getLast?_concat]
       rw [show w64 (((e.length + [i].length:Nat):Int) - 1)=(e.length:Int) by simp only [List.length_singleton]; rw [w64_in (by omega)]; omega]
       have:Md.ix (plc g l (e++[i])) (e.length:Int)=some (pl (ML (Mt g l) i)):=by
        rw [ix_nat (by simp [plc])]; simp [plc]
       rw [this]
       simp only [Option.bind_some]
       rw [wbef_eq hF h.four]
       rfl
     ·rw [if_neg (by simp; omega),decide_eq_false c2]; simp
    ·rw [if_neg (by simpa using c1),decide_eq_false c1]; simp
   rw [ec]
   simp only [Option.bind_some]
   cases hc:nextc (Mt g l).length top (LV v) (Bf g l) k c with
   | true =>
    rw [if_pos rfl,app_some (by rw [hpl]; simp; omega)]
    simp only [Option.bind_some]
    rw [w64_nat (by omega)]
    have:=long_l1 hF h hv h40 ht (p:=p) m (k + 1) (c++[k]) (by omega) (by omega) (hG.add hd ht hlt hc) (by simp; omega)
    rw [show plc g l (c++[k])=plc g l c++[pl (ML (Mt g l) k)] by simp [plc]] at this
    exact this
   | false =>
    rw [if_neg (by simp)]
    simp only [Option.bind_some]
    rw [w64_nat (by omega)]
    exact long_l1 hF h hv h40 ht m (k + 1) c (by omega) (by omega) (hG.skip hc) (by omega)
  ·have:k=(Mt g l).length:=by omega
   subst this
   rw [if_neg (by simp)]
   exact ⟨c,rfl,hG⟩
structure Ps (n top:Nat) (lev:Nat→Nat) (B:Nat→Nat→Bool) (c:List Nat):Prop where
 len:c.length=top
 mem:∀ i∈c,i<n∧0<Dw n top lev B i
 lv:∀ (t i:Nat),c[t]?=some i→lev i=t + 1
 seq:∀ (t i j:Nat),c[t]?=some i→c[t + 1]?=some j→B i j=true
theorem gr_start {n top:Nat} {lev:Nat→Nat} {B:Nat→Nat→Bool} (hd:Dag n lev B) (hx:(n=0∧top=0)∨∃ i,i<n∧lev i=top):Gr n top lev B 0 []:=by
 refine ⟨(fun i hi=>by cases hi),(fun t i e=>by simp at e),(fun t i j e=>by simp at e),fun hl=>?_,Nat.zero_le _⟩
 rcases hx with ⟨_,e⟩ | ⟨i,hi,e⟩
 ·simp at hl; omega
 ·have:=hd.one i hi
  obtain ⟨j,j1,j2,j3⟩:=Dw_first hd (lev i - 1) i (by omega) hi (Dw_top e)
  exact ⟨j,by omega,j1,j3,j2,fun i hi=>by simp at hi⟩
theorem longest_eq (hF:100000<F) {x:Bk} {c:Cls} (h:VL l) (hc:c.l=tl g) (h40:(Mt g l).length≤40):∃ v top q,Lv g l (Mt g l) v∧word_song_levels F (Sng ⟨some (x,c)⟩ g l)=some v∧(∀ i,i<(Mt g l).length→LV v i≤top)∧(((Mt g l).length=0∧top=0)∨∃ i,i<(Mt g l).length∧LV v i=top) ∧
  word_song_ways F (Sng ⟨some (x,c)⟩ g l)=some (TT (Mt g l).length (Uw (LV v) (Bf g l)) (Dw (Mt g l).length top (LV v) (Bf g l))) ∧
  word_song_longest F (Sng ⟨some (x,c)⟩ g l)=some (plc g l q)∧Ps (Mt g l).length top (LV v) (Bf g l) q:=by
 obtain ⟨v,top,hv,e1,e2,e3,e4⟩:=ways_eq hF (x:=x) h hc h40
 have hd:=dag_of h hv
 obtain ⟨q,e5,hq⟩:=long_l1 (F:=F) (d:=⟨some (x,c)⟩) (by omega) h hv h40 e2 (p:=Uw (LV v) (Bf g l)) F 0 [] (by omega) (by omega) (gr_start hd e3) (Nat.zero_le _)
 refine ⟨v,top,q,hv,e1,e2,e3,e4,?_,?_⟩
 ·unfold word_song_longest
  rw [show word_song_ways F ((Sng ⟨some (x,c)⟩ g l).1,(Sng ⟨some (x,c)⟩ g l).2.1,(Sng ⟨some (x,c)⟩ g l).2.2)=_ from e4]
  simp only [Option.bind_eq_bind,Option.bind_some]
  rw [show word_song_levels F ((Sng ⟨some (x,c)⟩ g l).1,(Sng ⟨some (x,c)⟩ g l).2.1,(Sng ⟨some (x,c)⟩ g l).2.2)=_ from e1]
  simp only [Option.bind_some]
  rw [show ((0:Nat):Int)=0 from rfl,show plc g l []=[] from rfl] at e5
  rw [e5]; rfl
 ·refine ⟨?_,fun i hi=>(hq.mem i hi).2,hq.lv,hq.seq⟩
  by_cases e:q.length<top
  ·obtain ⟨j,j1,j2,_⟩:=hq.more e; omega
  ·have:=hq.le; omega
theorem told_eq (hF:100000<F) (h4:l.length≤4) {acc:List Pl}:∀ (L:List Tp),L.length≤10000→word_song_told F (d,l,acc) (L.map pl)=some (L.map (lst l.length)):=by
 intro L hL
 have key:∀ (m k:Nat),k≤L.length→L.length - k<m→word_song_told_l1 F (d,l,acc) (L.map pl) m ((L.take k).map (lst l.length)) (k:Int)=some (L.map (lst l.length)):=by
  intro m
  induction m with
  | zero=>intro k _ h; omega
  | succ m ih =>
   intro k hk hm
   unfold word_song_told_l1
   by_cases hlt:k<L.length
   ·rw [if_pos (by simpa using hlt),ix_nat (by simpa using hlt),List.getElem_map]
    simp only [Option.bind_eq_bind,Option.bind_some]
    have e5:mks 8 (l.length:Int) (0:Int)=some (List.replicate l.length 0):=by unfold mks; rw [if_pos (by simp; omega)]; rfl
    rw [e5]
    simp only [Option.bind_some]
    have er:rcopy (List.replicate l.length (0:Int)) (pl L[k]).l=lst l.length L[k]:=by
     unfold rcopy
     rw [List.length_replicate,(pl L[k]).h,List.drop_of_length_le (by simp; omega),List.append_nil]
     unfold pl lst
     rw [← List.map_take,List.take_range,Nat.min_eq_left h4]
    rw [er,app_some (by simp; omega)]
    simp only [Option.bind_some]
    rw [w64_nat (by omega),← ih (k + 1) (by omega) (by omega),List.take_succ_eq_append_getElem hlt,List.map_append]
    rfl
   ·rw [if_neg (by simpa using hlt),List.take_of_length_le (by omega)]
 unfold word_song_told
 have:=key F 0 (by omega) (by omega)
 rw [show ((0:Nat):Int)=0 from rfl,List.take_zero,List.map_nil] at this
 rw [this]; rfl
end
theorem word_eq {F:Nat} (hF:100000<F) {x:Bk} {l:List (List Int)} (hv:VB x) (h:VL l):∃ g,(∀ i j,i<101→j<101→(g i=g j↔Con (Ed x) i j))∧((Mt g l).length≤40→∃ d v top q,Lv g l (Mt g l) v∧word_newSong F x l=some (⟨some (Sng d g l)⟩,0) ∧
  (∀ i,i<(Mt g l).length→LV v i≤top)∧(((Mt g l).length=0∧top=0)∨∃ i,i<(Mt g l).length∧LV v i=top)∧word_Levels F x l=some (v,0) ∧
  word_song_levels F (Sng d g l)=some v∧word_song_ways F (Sng d g l)=some (TT (Mt g l).length (Uw (LV v) (Bf g l)) (Dw (Mt g l).length top (LV v) (Bf g l))) ∧
  word_Longest F x l=some (q.map fun i=>lst l.length (ML (Mt g l) i),0)∧Ps (Mt g l).length top (LV v) (Bf g l) q):=by
 obtain ⟨c,g,h1,h2,h3⟩:=cls_eq hv
 refine ⟨g,h3,fun h40=>?_⟩
 have hl:=tup_4096 h
 have es:word_newSong F x l=some (⟨some (Sng ⟨some (x,c)⟩ g l)⟩,0):=by
  unfold word_newSong
  rw [show (⟨x.v⟩:Bk)=x from rfl,wcl_ok (by omega) hv h]
  simp only [Option.bind_eq_bind,Option.bind_some]
  rw [if_neg (by simp)]
  unfold word_newDictionary
  rw [h1]
  simp only [Option.bind_eq_bind,Option.bind_some]
  rw [places_eq hF h]
  simp only [Option.bind_some]
  rw [show (⟨x.v⟩:Bk)=x from rfl,wsall_eq (by omega) h h2 _ [] (fun f hf=>(tup_mem _ f hf).1) (by simp; omega)]
  rfl
 obtain ⟨v,top,q,hv',e1,e2,e3,e4,e5,e6⟩:=longest_eq hF (x:=x) h h2 h40
 refine ⟨_,v,top,q,hv',es,e2,e3,?_,e1,e4,?_,e6⟩
 ·unfold word_Levels
  rw [show (⟨x.v⟩:Bk)=x from rfl,es]
  simp only [Option.bind_eq_bind,Option.bind_some]
  rw [if_neg (by simp),show word_song_levels F (_,_,_)=some v from e1]; rfl
 ·unfold word_Longest
  rw [show (⟨x.v⟩:Bk)=x from rfl,es]
  simp only [Option.bind_eq_bind,Option.bind_some]
  rw [if_neg (by simp),show word_song_longest F (_,_,_)=_ from e5]
  simp only [Option.bind_some]
  have hq:(q.map (ML (Mt g l))).length≤10000:=by
   rw [List.length_map,e6.len]
   rcases e3 with ⟨_,e⟩ | ⟨i,hi,e⟩
   ·omega
   ·have:=hv'.le h hi; omega
  have:=told_eq (F:=F) (d:=⟨some (x,c)⟩) hF h.four (acc:=(Mt g l).map pl) (q.map (ML (Mt g l))) hq
  rw [List.map_map,List.map_map] at this
  rw [show plc g l q=q.map (pl ∘ ML (Mt g l)) from rfl,this]
  rfl
end Wo
end Go.Proofs.YtfmelbioccbdoaaGreat
end
section
namespace Go.Proofs.YtfmelbioccbdoaaGreat
open Go Go.Md Go.RowKit
namespace Wo
theorem minOf_mem {zs:List Int} (h:zs≠[]):Lib.minOf zs∈zs:=by
 have key:∀ (l:List Int) (a:Int),l.foldl min a=a∨l.foldl min a∈l:=by
  intro l
  induction l with
  | nil=>intro a; exact .inl rfl
  | cons b l ih =>
   intro a
   rw [List.foldl_cons]
   rcases ih (min a b) with e | e
   ·rw [e]
    by_cases c:a≤b
    ·rw [Int.min_eq_left c]; exact .inl rfl
    ·rw [Int.min_eq_right (by omega)]; exact .inr (List.mem_cons_self ..)
   ·exact .inr (List.mem_cons_of_mem _ e)
 unfold Lib.minOf
 cases zs with
 | nil=>exact absurd rfl h
 | cons b l =>
  rcases key (b::l) b with e | e
  ·rw [List.headD_cons,e]; exact List.mem_cons_self ..
  ·exact e
section
variable {F:Nat} {d:Ob ((Uno (List (Ar 2 Int)))×(Ar 101 Int))} {l:List (List Int)} {g:Tp} {v:List Int}
theorem cl_l2 (hF:1000<F) (h:VL l) (h40:(Mt g l).length≤4096) (hv:v.length=(Mt g l).length) {k:Nat} (hk:k<(Mt g l).length) {y:Bool}:∀ (m t:Nat),t≤k→k - t<m →
  ∃ b,word_CheckLevels_l2 F v (Sng d g l) (pl (ML (Mt g l) k)) (((Mt g l).map pl).take k) (k:Int) m y (t:Int)=some b∧(b=true↔(y=true∨∃ j,t≤j∧j<k∧v.getD k 0≤v.getD j 0∧Bf g l j k=true))
 | 0,t,_,h=>by omega
 | m + 1,t,ht,hm=>by
  unfold word_CheckLevels_l2
  have hpt:(((Mt g l).map pl).take k).length=k:=by simp; omega
  have hg:∀ i,i<(Mt g l).length→Md.ix v (i:Int)=some (v.getD i 0):=fun i hi=>by rw [ix_nat (by omega)]; simp [show i<v.length by omega]
  by_cases hlt:t<k
  ·have e9:Md.ix (((Mt g l).map pl).take k) (t:Int)=some (pl (ML (Mt g l) t)):=by
    rw [ix_nat (by rw [hpt]; exact hlt),ML_get (show t<(Mt g l).length by omega)]; simp
   rw [if_pos (by rw [hpt]; simpa using hlt),e9,hg t (by omega),hg k hk]
   simp only [Option.bind_eq_bind,Option.bind_some]
   rw [show word_song_before F ((Sng d g l).1,(Sng d g l).2.1,(Sng d g l).2.2) (pl (ML (Mt g l) t)) (pl (ML (Mt g l) k))=some (Bf g l t k) from wbef_eq hF h.four _ _]
   by_cases c:v.getD k 0≤v.getD t 0
   ·rw [decide_eq_true c]
    simp only [gd,cond_true,Option.bind_some,Bool.true_and]
    cases hb:Bf g l t k with
    | true=>rw [if_pos rfl]; exact ⟨true,rfl,fun _=>.inr ⟨t,Nat.le_refl _,hlt,c,hb⟩,fun _=>rfl⟩
    | false =>
     rw [if_neg (by simp),w64_nat (by omega)]
     obtain ⟨b,h1,h2⟩:=cl_l2 hF h h40 hv hk (y:=y) m (t + 1) (by omega) (by omega)
     refine ⟨b,h1,h2.trans (or_congr Iff.rfl ⟨fun ⟨j,a,r⟩=>⟨j,by omega,r⟩,fun ⟨j,a,r⟩=>⟨j,?_,r⟩⟩)⟩
     by_cases e:j=t
     ·subst e; rw [hb] at r; simp at r
     ·omega
   ·rw [decide_eq_false c]
    simp only [gd,cond_false,Option.bind_some,Bool.false_and]
    rw [if_neg (by simp),w64_nat (by omega)]
    obtain ⟨b,h1,h2⟩:=cl_l2 hF h h40 hv hk (y:=y) m (t + 1) (by omega) (by omega)
    refine ⟨b,h1,h2.trans (or_congr Iff.rfl ⟨fun ⟨j,a,r⟩=>⟨j,by omega,r⟩,fun ⟨j,a,r⟩=>⟨j,?_,r⟩⟩)⟩
    by_cases e:j=t
    ·subst e; exact absurd r.2.1 c
    ·omega
  ·have:t=k:=by omega
   subst this
   rw [if_neg (by rw [hpt]; simp)]
   exact ⟨y,rfl,fun h=>.inl h,fun h=>h.elim id fun ⟨j,a,b,_⟩=>by omega⟩
theorem cl_l1 (hF:100000<F) (h:VL l) (h40:(Mt g l).length≤4096) (hv:v.length=(Mt g l).length):∀ (m k:Nat) (y:Bool),k≤(Mt g l).length→(Mt g l).length - k<m →
  ∃ b,word_CheckLevels_l1 F v (Sng d g l) m y (k:Int)=some b∧(b=true↔(y=true∨∃ i j,k≤i∧i<(Mt g l).length∧j<i∧v.getD i 0≤v.getD j 0∧Bf g l j i=true))
 | 0,k,_,_,h=>by omega
 | m + 1,k,y,hk,hm=>by
  unfold word_CheckLevels_l1
  by_cases hlt:k<(Mt g l).length
  ·rw [if_pos (by simpa using hlt),show Md.ix (Sng d g l).2.2 (k:Int)=some (pl (ML (Mt g l) k)) from mpl_ix hlt]
   simp only [Option.bind_eq_bind,Option.bind_some]
   have e9:stake (Sng d g l).2.2 (k:Int)=some (((Mt g l).map pl).take k):=by
    unfold stake; rw [if_pos (by simp; omega)]; rfl
   rw [e9]
   simp only [Option.bind_some]
   obtain ⟨b,h1,h2⟩:=cl_l2 (F:=F) (d:=d) (by omega) h h40 hv hlt (y:=y) F 0 (by omega) (by omega)
   rw [show ((0:Nat):Int)=0 from rfl] at h1
   rw [h1]
   simp only [Option.bind_some]
   rw [w64_nat (by omega)]
   obtain ⟨b',h3,h4⟩:=cl_l1 hF h h40 hv m (k + 1) b (by omega) (by omega)
   refine ⟨b',h3,h4.trans ⟨?_,?_⟩⟩
   ·rintro (e | ⟨i,j,a,r⟩)
    ·rcases h2.1 e with e | ⟨j,_,a,b,c⟩
     ·exact .inl e
     ·exact .inr ⟨k,j,Nat.le_refl _,hlt,a,b,c⟩
    ·exact .inr ⟨i,j,by omega,r⟩
   ·rintro (e | ⟨i,j,a,b,c,r⟩)
    ·exact .inl (h2.2 (.inl e))
    ·by_cases e:i=k
     ·subst e; exact .inl (h2.2 (.inr ⟨j,Nat.zero_le _,c,r⟩))
     ·exact .inr ⟨i,j,by omega,b,c,r⟩
  ·have:k=(Mt g l).length:=by omega
   subst this
   rw [if_neg (by simp)]
   exact ⟨y,rfl,fun h=>.inl h,fun h=>h.elim id fun ⟨i,j,a,b,_⟩=>by omega⟩
theorem clev_eq (hF:100000<F) {x:Bk} (h:VL l) (es:word_newSong F x l=some (⟨some (Sng d g l)⟩,0)) (hv:v.length=(Mt g l).length) (h0:0<(Mt g l).length) (h1:∀ n∈v,1≤n) :
  ∃ r,word_CheckLevels F x l v=some r∧((∀ i j,i<(Mt g l).length→j<(Mt g l).length→Bf g l i j=true→v.getD i 0<v.getD j 0)→r.2=0) ∧
   (¬ (∀ i j,i<(Mt g l).length→j<(Mt g l).length→Bf g l i j=true→v.getD i 0<v.getD j 0)→r.2=14):=by
 have hn:=Mt_len (g:=g) h
 have hne:v≠[]:=fun e=>by subst e; simp at hv; omega
 have hmin:=h1 _ (minOf_mem hne)
 obtain ⟨b,e1,e2⟩:=cl_l1 (F:=F) (d:=d) hF h hn hv F 0 false (by omega) (by omega)
 rw [show ((0:Nat):Int)=0 from rfl] at e1
 unfold word_CheckLevels
 rw [show (⟨x.v⟩:Bk)=x from rfl,es]
 simp only [Option.bind_eq_bind,Option.bind_some]
 rw [if_neg (by simp),if_neg (by simp; omega),if_neg (by simp; omega)]
 have em:slices_Min_i v=some (Lib.minOf v):=by unfold slices_Min_i; rw [if_neg (by omega)]
 have eM:slices_Max_i v=some (Lib.maxOf v):=by unfold slices_Max_i; rw [if_neg (by omega)]
 rw [em]
 simp only [Option.bind_some]
 rw [if_neg (by simp; omega)]
 rw [e1]
 simp only [Option.bind_some]
 cases b with
 | true =>
  rw [if_pos rfl]
  refine ⟨_,rfl,fun hh=>?_,fun _=>rfl⟩
  rcases e2.1 rfl with e | ⟨i,j,_,a,b,c,r⟩
  ·cases e
  ·have:=hh j i (by omega) a r; omega
 | false =>
  rw [if_neg (by simp),eM]
  refine ⟨_,rfl,fun _=>rfl,fun hh=>absurd ?_ hh⟩
  intro i j hi hj hb
  refine Classical.byContradiction fun hno=>?_
  have:=e2.2 (.inr ⟨j,i,Nat.zero_le _,hj,bef_lt h hi hj hb,by omega,hb⟩)
  cases this
end
end Wo
end Go.Proofs.YtfmelbioccbdoaaGreat
end
section
namespace Go.Proofs.YtfmelbioccbdoaaGreat
namespace BF
abbrev Rl:=Int×Int×Int×Int
def NEV:Int:=1125899906842624
structure St where
 f:Int→Int
 b:Int→Option Rl
 r:Int→Nat
def up {α:Type} (g:Int→α) (i:Int) (v:α):Int→α:=fun t=>if t=i then v else g t
theorem up_same {α:Type} {g:Int→α} {i:Int} {v:α}:up g i v i=v:=by simp [up]
theorem up_ne {α:Type} {g:Int→α} {i t:Int} {v:α} (h:t≠i):up g i v t=g t:=by simp [up,h]
def cnd (f:Int→Int) (p:Rl):Prop:=f p.2.1≠NEV∧f p.2.1 + p.2.2.2<f p.2.2.1
instance {f:Int→Int} {p:Rl}:Decidable (cnd f p):=by unfold cnd; infer_instance
def rel (K:Nat) (s:St) (p:Rl):St:=if cnd s.f p then ⟨up s.f p.2.2.1 (s.f p.2.1 + p.2.2.2),up s.b p.2.2.1 (some p),up s.r p.2.2.1 K⟩ else s
def pass (R:List Rl) (K:Nat) (s:St):St:=R.foldl (rel K) s
def start:St:=⟨fun _=>0,fun _=>none,fun _=>0⟩
inductive Back (b:Int→Option Rl):Int→Int→Int→Nat→Prop
 | one {v:Int} {p:Rl} (h:b v=some p):Back b v p.2.1 p.2.2.2 1
 | more {v u c:Int} {n:Nat} {p:Rl} (h:b v=some p) (k:Back b p.2.1 u c n):Back b v u (p.2.2.2 + c) (n + 1)
theorem Back.snoc {b:Int→Option Rl} {v u c:Int} {n:Nat} (h:Back b v u c n) {p:Rl} (hp:b u=some p):Back b v p.2.1 (c + p.2.2.2) (n + 1):=by
 induction h with
 | one h=>exact .more h (.one hp)
 | more h k ih =>
  have:=ih hp
  rw [Int.add_assoc]
  exact .more h this
theorem Back.pos {b:Int→Option Rl} {v u c:Int} {n:Nat} (h:Back b v u c n):1≤n:=by cases h <;> omega
theorem Back.start {b:Int→Option Rl} {v u c:Int} {n:Nat} (h:Back b v u c n):∃ p,b v=some p:=by cases h <;> exact ⟨_,by assumption⟩
structure Inv (N:Int→Prop) (K:Nat) (done left:List Rl) (s:St):Prop where
 i1:∀ v,s.b v=none↔s.r v=0
 i2:∀ v p,s.b v=some p→p∈done++left∧p.2.2.1=v∧s.f p.2.1 + p.2.2.2≤s.f v
 i3:∀ v p,s.b v=some p→s.r v≤s.r p.2.1 + 1
 i4d:∀ q∈done,s.r q.2.1 + 1≤K→s.f q.2.2.1≤s.f q.2.1 + q.2.2.2
 i4l:∀ q∈left,s.r q.2.1 + 2≤K→s.f q.2.2.1≤s.f q.2.1 + q.2.2.2
 i5:∀ v c n,Back s.b v v c n→c<0
 i6:∀ v,s.r v≤K
 i7:∀ v,s.f v≤0
theorem cyc {s:St} {p:Rl} (h:∀ v q,s.b v=some q→s.f q.2.1 + q.2.2.2≤s.f v) (hne:p.2.1≠p.2.2.1) (hc:cnd s.f p) :
  ∀ {v u c n},Back (up s.b p.2.2.1 (some p)) v u c n →
   up s.f p.2.2.1 (s.f p.2.1 + p.2.2.2) u + c<up s.f p.2.2.1 (s.f p.2.1 + p.2.2.2) v ∨
   (up s.f p.2.2.1 (s.f p.2.1 + p.2.2.2) u + c≤up s.f p.2.2.1 (s.f p.2.1 + p.2.2.2) v∧u≠p.2.2.1∧(v≠p.2.2.1→Back s.b v u c n)):=by
 obtain ⟨_,hlt⟩:=hc
 intro v u c n hb
 induction hb with
 | @one v q hq =>
  by_cases hv:v=p.2.2.1
  ·subst hv
   rw [up_same] at hq
   cases hq
   refine .inr ⟨?_,hne,fun h=>(h rfl).elim⟩
   rw [up_same,up_ne hne]
   exact Int.le_refl _
  ·rw [up_ne hv] at hq
   have h2:=h v q hq
   rw [up_ne hv]
   by_cases hu:q.2.1=p.2.2.1
   ·left
    rw [hu,up_same]
    rw [hu] at h2
    omega
   ·right
    rw [up_ne hu]
    exact ⟨h2,hu,fun _=>.one hq⟩
 | @more v u c n q hq k ih =>
  have step:up s.f p.2.2.1 (s.f p.2.1 + p.2.2.2) q.2.1 + q.2.2.2<up s.f p.2.2.1 (s.f p.2.1 + p.2.2.2) v ∨
    (up s.f p.2.2.1 (s.f p.2.1 + p.2.2.2) q.2.1 + q.2.2.2≤up s.f p.2.2.1 (s.f p.2.1 + p.2.2.2) v∧q.2.1≠p.2.2.1):=by
   by_cases hv:v=p.2.2.1
   ·subst hv
    rw [up_same] at hq
    cases hq
    right
    rw [up_same,up_ne hne]
    exact ⟨Int.le_refl _,hne⟩
   ·rw [up_ne hv] at hq
    have h2:=h v q hq
    rw [up_ne hv]
    by_cases hu:q.2.1=p.2.2.1
    ·left
     rw [hu,up_same]
     rw [hu] at h2
     omega
    ·right
     rw [up_ne hu]
     exact ⟨h2,hu⟩
  rcases ih with ih | ⟨ih1,ih2,ih3⟩
  ·left
   rcases step with h1 | ⟨h1,_⟩ <;> omega
  ·rcases step with h1 | ⟨h1,h2⟩
   ·left; omega
   ·right
    refine ⟨by omega,ih2,fun hv=>?_⟩
    rw [up_ne hv] at hq
    exact .more hq (ih3 h2)
theorem Inv.rel {N:Int→Prop} {K:Nat} {done left:List Rl} {s:St} {p:Rl} (hK:1≤K) (h:Inv N K done (p::left) s) (hne:p.2.1≠p.2.2.1):Inv N K (done++[p]) left (rel K s p):=by
 unfold BF.rel
 by_cases hc:cnd s.f p
 ·rw [if_pos hc]
  have hc':=hc
  obtain ⟨_,hlt⟩:=hc'
  have hmono:∀ v,up s.f p.2.2.1 (s.f p.2.1 + p.2.2.2) v≤s.f v:=fun v=>by
   by_cases hv:v=p.2.2.1
   ·subst hv; rw [up_same]; omega
   ·rw [up_ne hv]; exact Int.le_refl _
  have hr:K≤s.r p.2.1 + 1:=by
   rcases Nat.lt_or_ge (s.r p.2.1 + 1) K with h' | h'
   ·have:=h.i4l p (by simp) (by omega)
    omega
   ·exact h'
  refine ⟨?_,?_,?_,?_,?_,?_,?_,?_⟩
  ·intro v
   by_cases hv:v=p.2.2.1
   ·subst hv; simp only [up_same]; constructor
    ·intro h; cases h
    ·intro h; omega
   ·simp only [up_ne hv]; exact h.i1 v
  ·intro v q hq
   dsimp only at hq ⊢
   by_cases hv:v=p.2.2.1
   ·subst hv
    rw [up_same] at hq
    cases hq
    refine ⟨by simp,rfl,?_⟩
    simp only [up_same,up_ne hne]
    exact Int.le_refl _
   ·rw [up_ne hv] at hq
    obtain ⟨h1,h2,h3⟩:=h.i2 v q hq
    refine ⟨by simp only [List.mem_append,List.mem_cons,List.not_mem_nil,or_false] at h1 ⊢; rcases h1 with h1 | h1 | h1 <;> simp [h1],h2,?_⟩
    simp only [up_ne hv]
    have:=hmono q.2.1
    omega
  ·intro v q hq
   dsimp only at hq ⊢
   by_cases hv:v=p.2.2.1
   ·subst hv
    rw [up_same] at hq
    cases hq
    simp only [up_same,up_ne hne]
    exact hr
   ·rw [up_ne hv] at hq
    have h3:=h.i3 v q hq
    simp only [up_ne hv]
    by_cases hu:q.2.1=p.2.2.1
    ·rw [hu,up_same]
     have:=h.i6 v
     omega
    ·rw [up_ne hu]; exact h3
  ·intro q hq hrq
   dsimp only at hrq ⊢
   have hu:q.2.1≠p.2.2.1:=fun e=>by rw [e,up_same] at hrq; omega
   simp only [up_ne hu] at hrq ⊢
   have:=hmono q.2.2.1
   rcases List.mem_append.1 hq with hq | hq
   ·have:=h.i4d q hq hrq
    omega
   ·simp only [List.mem_singleton] at hq
    subst hq
    rw [up_same]
    exact Int.le_refl _
  ·intro q hq hrq
   dsimp only at hrq ⊢
   have hu:q.2.1≠p.2.2.1:=fun e=>by rw [e,up_same] at hrq; omega
   simp only [up_ne hu] at hrq ⊢
   have:=hmono q.2.2.1
   have:=h.i4l q (by simp [hq]) hrq
   omega
  ·intro v c n hb
   dsimp only at hb
   rcases cyc (fun v q hq=>(h.i2 v q hq).2.2) hne hc hb with h1 | ⟨h1,h2,h3⟩
   ·omega
   ·by_cases hv:v=p.2.2.1
    ·exact (h2 hv).elim
    ·exact h.i5 v c n (h3 hv)
  ·intro v
   by_cases hv:v=p.2.2.1
   ·subst hv; simp only [up_same]; exact Nat.le_refl _
   ·simp only [up_ne hv]; exact h.i6 v
  ·intro v
   exact Int.le_trans (hmono v) (h.i7 v)
 ·rw [if_neg hc]
  have hle:s.f p.2.2.1≤s.f p.2.1 + p.2.2.2:=by
   have h7:=h.i7 p.2.1
   unfold cnd at hc
   have:s.f p.2.1≠NEV:=by unfold NEV; omega
   simp only [not_and,Int.not_lt] at hc
   exact hc this
  refine ⟨h.i1,fun v q hq=>?_,h.i3,fun q hq hrq=>?_,fun q hq=>h.i4l q (by simp [hq]),h.i5,h.i6,h.i7⟩
  ·obtain ⟨h1,h2,h3⟩:=h.i2 v q hq
   exact ⟨by simp only [List.mem_append,List.mem_cons,List.not_mem_nil,or_false] at h1 ⊢; rcases h1 with h1 | h1 | h1 <;> simp [h1],h2,h3⟩
  ·rcases List.mem_append.1 hq with hq | hq
   ·exact h.i4d q hq hrq
   ·simp only [List.mem_singleton] at hq
    subst hq
    exact hle
theorem Inv.go {N:Int→Prop} {K:Nat} (hK:1≤K):∀ (left done:List Rl) (s:St),(∀ p∈left,p.2.1≠p.2.2.1)→Inv N K done left s→Inv N K (done++left) [] (left.foldl (BF.rel K) s)
 | [],done,s,_,h=>by simpa using h
 | p::left,done,s,hne,h=>by
  have h1:=h.rel hK (hne p (by simp))
  have:=Inv.go hK left (done++[p]) _ (fun q hq=>hne q (by simp [hq])) h1
  simpa using this
theorem Inv.pass {N:Int→Prop} {K:Nat} {R:List Rl} {s:St} (hne:∀ p∈R,p.2.1≠p.2.2.1) (h:Inv N K R [] s):Inv N (K + 1) R [] (pass R (K + 1) s):=by
 have h0:Inv N (K + 1) [] R s:=⟨h.i1,by simpa using h.i2,h.i3,by simp,fun q hq hr=>h.i4d q hq (by omega),h.i5,fun v=>Nat.le_succ_of_le (h.i6 v),h.i7⟩
 have:=Inv.go (by omega) R [] s hne h0
 simpa [BF.pass] using this
theorem Inv.zero {N:Int→Prop} {R:List Rl}:Inv N 0 R [] start:=by
 refine ⟨fun v=>by simp [start],fun v p h=>by simp [start] at h,fun v p h=>by simp [start] at h,fun q _ h=>by omega,by simp,fun v c n h=>?_,fun v=>by simp [start],fun v=>by simp [start]⟩
 obtain ⟨p,hp⟩:=h.start
 simp [start] at hp
def passes (R:List Rl):Nat→St
 | 0=>start
 | K + 1=>pass R (K + 1) (passes R K)
theorem Inv.passes {N:Int→Prop} {R:List Rl} (hne:∀ p∈R,p.2.1≠p.2.2.1):∀ K,Inv N K R [] (passes R K)
 | 0=>Inv.zero
 | K + 1=>(Inv.passes hne K).pass hne
theorem pass_same {K:Nat} {v:Int}:∀ (R:List Rl) (s:St),(R.foldl (rel K) s).r v≠K→(R.foldl (rel K) s).f v=s.f v∧(R.foldl (rel K) s).r v=s.r v∧(R.foldl (rel K) s).b v=s.b v
 | [],s,_=>⟨rfl,rfl,rfl⟩
 | p::R,s,h=>by
  simp only [List.foldl_cons] at h ⊢
  have ih:=pass_same (K:=K) R (rel K s p) h
  unfold rel at ih h ⊢
  by_cases hc:cnd s.f p
  ·simp only [if_pos hc] at ih h ⊢
   by_cases hv:v=p.2.2.1
   ·subst hv
    simp only [up_same] at ih
    exact (h ih.2.1).elim
   ·simpa only [up_ne hv] using ih
  ·simp only [if_neg hc] at ih h ⊢
   exact ih
theorem pass_le {K:Nat} {v:Int}:∀ (R:List Rl) (s:St),(R.foldl (rel K) s).f v≤s.f v∧(s.r v≠K→(R.foldl (rel K) s).r v=K→(R.foldl (rel K) s).f v<s.f v)
 | [],s=>⟨Int.le_refl _,fun h k=>(h k).elim⟩
 | p::R,s=>by
  simp only [List.foldl_cons]
  have ih:=pass_le (K:=K) (v:=v) R (rel K s p)
  unfold rel at ih ⊢
  by_cases hc:cnd s.f p
  ·simp only [if_pos hc] at ih ⊢
   have hlt:=hc.2
   by_cases hv:v=p.2.2.1
   ·subst hv
    simp only [up_same] at ih
    exact ⟨by omega,fun _ _=>by omega⟩
   ·simpa only [up_ne hv] using ih
  ·simp only [if_neg hc] at ih ⊢
   exact ih
end BF
end Go.Proofs.YtfmelbioccbdoaaGreat
end
section
namespace Go.Proofs.YtfmelbioccbdoaaGreat
open Go Go.Md Go.RowKit
open BF (Rl St Back Inv rel pass passes NEV)
def gA (X:Ar 21 Int) (t:Int):Int:=(ix X.l t).getD 0
theorem ixA {X:Ar 21 Int} {t:Int} (h0:0≤t) (h1:t≤20):ix X.l t=some (gA X t):=ix_ar h0 h1
theorem gA_set {X:Ar 21 Int} {i v t:Int} (i0:0≤i) (i1:i≤20) (t0:0≤t) (t1:t≤20):gA (aset X i v) t=if t=i then v else gA X t:=by
 have hX:=X.h
 unfold gA ix aset
 simp only [if_pos t0,List.getElem?_set]
 by_cases h:t=i
 ·subst h
  rw [if_pos rfl,if_pos (by omega),if_pos rfl]
  rfl
 ·rw [if_neg (by omega),if_neg h]
theorem arExt {X Y:Ar 21 Int} (h:∀ t,0≤t→t≤20→gA X t=gA Y t):X=Y:=by
 obtain ⟨a,ha⟩:=X
 obtain ⟨b,hb⟩:=Y
 congr 1
 apply List.ext_getElem (by omega)
 intro i h1 h2
 have:=h i (by omega) (by omega)
 simpa [gA,ix,List.getElem?_eq_getElem h1,List.getElem?_eq_getElem h2] using this
theorem mget_put {l:List (Int×Int)} {k v t:Int}:mget 0 (mput l k v) t=if t=k then v else mget 0 l t:=by
 induction l with
 | nil =>
  simp only [mput,mget]
  by_cases h:t=k
  ·rw [if_pos h,if_pos h.symm]
  ·rw [if_neg h,if_neg (Ne.symm h)]
 | cons p l ih =>
  obtain ⟨a,b⟩:=p
  simp only [mput]
  by_cases h:a=k
  ·subst h
   simp only [if_true,mget]
   by_cases h2:t=a
   ·rw [if_pos h2,if_pos h2.symm]
   ·rw [if_neg h2,if_neg (Ne.symm h2),if_neg (Ne.symm h2)]
  ·simp only [if_neg h,mget,ih]
   by_cases h2:a=t
   ·subst h2; rw [if_pos rfl,if_pos rfl,if_neg h]
   ·rw [if_neg h2,if_neg h2]
structure Rep (X:Ar 21 Int) (l:List (Int×Int)) (s:St):Prop where
 f:∀ t,0≤t→t≤20→gA X t=s.f t
 b:∀ t p,s.b t=some p→mget 0 l t=p.1
def Bd (c:Int) (s:St):Prop:=∀ v,-c≤s.f v∧s.f v≤NEV
def OKr (T:Int) (r:Int×Int×Int):Prop:=0≤r.1∧r.1≤T∧0≤r.2.1∧r.2.1≤T∧r.1≠r.2.1∧-100000≤r.2.2∧r.2.2≤100000
theorem Rep.step {X:Ar 21 Int} {l:List (Int×Int)} {s:St} {K:Nat} {c T:Int} {p:Rl} (h:Rep X l s) (hb:Bd c s) (hc:c≤1152921504606846976) (hT:T≤20) (hp:OKr T p.2) :
  Rep (stepB (X,l) p).1 (stepB (X,l) p).2 (rel K s p):=by
 obtain ⟨h1,h2,h3,h4,h5,h6,h7⟩:=hp
 have ea:(ix X.l p.2.1).getD 0=s.f p.2.1:=h.f _ h1 (by omega)
 have eb:(ix X.l p.2.2.1).getD 0=s.f p.2.2.1:=h.f _ h3 (by omega)
 have hf:=hb p.2.1
 have hw:w64 (s.f p.2.1 + p.2.2.2)=s.f p.2.1 + p.2.2.2:=w64_in (by unfold NEV at hf; omega)
 unfold stepB rel
 simp only [ea,eb,hw]
 by_cases hcn:BF.cnd s.f p
 ·have hcn':=hcn
  obtain ⟨c1,c2⟩:=hcn'
  rw [if_pos hcn,if_pos (by unfold NEV at c1; simp [c1]; omega)]
  refine ⟨fun t t0 t1=>?_,fun t q hq=>?_⟩
  ·rw [gA_set h3 (by omega) t0 t1]
   simp only [BF.up]
   split
   ·rfl
   ·exact h.f t t0 t1
  ·simp only [BF.up] at hq
   rw [mget_put]
   split
   ·rename_i e
    rw [if_pos e] at hq
    cases hq
    rfl
   ·rename_i e
    rw [if_neg e] at hq
    exact h.b t q hq
 ·rw [if_neg hcn,if_neg]
  ·exact h
  ·unfold BF.cnd NEV at hcn
   simp only [Bool.and_eq_true,Bool.not_eq_true',decide_eq_false_iff_not,not_and]
   intro a1 a2
   exact hcn ⟨a1,by omega⟩
theorem Bd.rel {c:Int} {s:St} {K:Nat} {p:Rl} (h:Bd c s) (hc:0≤c) (hm:-100000≤p.2.2.2):Bd (c + 100000) (rel K s p):=by
 intro v
 have h1:=h v
 have h2:=h p.2.1
 have h3:=h p.2.2.1
 unfold BF.rel
 by_cases hcn:BF.cnd s.f p
 ·rw [if_pos hcn]
  simp only [BF.up]
  have:=hcn.2
  split <;> omega
 ·rw [if_neg hcn]
  omega
theorem Rep.fold {K:Nat} {T:Int} (hT:T≤20):∀ (R:List Rl) (X:Ar 21 Int) (l:List (Int×Int)) (s:St) (c:Int),(∀ p∈R,OKr T p.2)→0≤c→c + 100000 * R.length≤1152921504606846976→Rep X l s→Bd c s →
  Rep (R.foldl stepB (X,l)).1 (R.foldl stepB (X,l)).2 (R.foldl (rel K) s)∧Bd (c + 100000 * R.length) (R.foldl (rel K) s)
 | [],X,l,s,c,_,_,_,h,hb=>⟨h,by simpa using hb⟩
 | p::R,X,l,s,c,hR,hc,hlen,h,hb=>by
  have hp:=hR p (by simp)
  simp only [List.foldl_cons]
  have e:(p::R).length=R.length + 1:=rfl
  have:=Rep.fold (K:=K) hT R (stepB (X,l) p).1 (stepB (X,l) p).2 (rel K s p) (c + 100000) (fun q hq=>hR q (by simp [hq])) (by omega) (by rw [e] at hlen; omega) (h.step hb (by omega) hT hp) (hb.rel hc hp.2.2.2.2.2.1)
  rw [e]
  refine ⟨this.1,?_⟩
  have h2:=this.2
  have:c + 100000 + 100000 * (R.length:Int)=c + 100000 * ((R.length + 1:Nat):Int):=by omega
  rwa [this] at h2
theorem whole_ok {x:Int×List (Int×Int×Int)} (h:csheet x=0):∀ r∈whole x,OKr x.1 r:=by
 obtain ⟨_,h2,h3,h4⟩:=csheet_ok h
 intro r hr
 rcases List.mem_append.1 hr with hr | hr
 ·have:=h4 r hr
  simp only [okRule,inR,Bool.and_eq_true,decide_eq_true_eq,Bool.not_eq_true',decide_eq_false_iff_not] at this
  obtain ⟨⟨⟨⟨a,b⟩,c,d⟩,e⟩,f,g⟩:=this
  exact ⟨a,b,c,d,e,f,g⟩
 ·obtain ⟨t,ht,hr⟩:=List.mem_flatMap.1 hr
  have ht:=List.mem_range.1 ht
  simp only [List.mem_cons,List.not_mem_nil,or_false] at hr
  rcases hr with rfl | rfl
  ·unfold OKr; simp only; omega
  ·unfold OKr; simp only; omega
theorem en_mem {l:List (Int×Int×Int)} {p:Rl} (h:p∈en l):p.2∈l∧ix l p.1=some p.2∧0≤p.1∧p.1<l.length:=by
 obtain ⟨i,hi,e⟩:=List.getElem_of_mem h
 rw [en_len] at hi
 have h1:(en l)[i]?=some p:=by rw [← e]; exact List.getElem?_eq_getElem _
 rw [en_get,List.getElem?_eq_getElem hi] at h1
 simp only [Option.map_some,Option.some.injEq] at h1
 subst h1
 exact ⟨List.getElem_mem hi,ix_nat hi,by simp,by simpa using hi⟩
def Rs (x:Int×List (Int×Int×Int)):List Rl:=en (whole x)
theorem Rs_ok {x:Int×List (Int×Int×Int)} (h:csheet x=0):∀ p∈Rs x,OKr x.1 p.2:=fun p hp=>whole_ok h _ (en_mem hp).1
theorem Rs_len {x:Int×List (Int×Int×Int)} (h:csheet x=0):(Rs x).length≤100:=by
 unfold Rs
 rw [en_len]
 exact whole_len h
theorem Rs_ne {x:Int×List (Int×Int×Int)} (h:csheet x=0):∀ p∈Rs x,p.2.1≠p.2.2.1:=fun p hp=>(Rs_ok h p hp).2.2.2.2.1
def Pot (x:Int×List (Int×Int×Int)):Prop:=∃ p:Int→Int,∀ r∈whole x,p r.2.1≤p r.1 + r.2.2
theorem step_eq {x:Int×List (Int×Int×Int)} (h:csheet x=0) (X:Ar 21 Int) (l:List (Int×Int)) :
  speed_net_step (whole x) X l=some (((Rs x).foldl stepB (X,l)).1,((Rs x).foldl stepB (X,l)).2,!decide (((Rs x).foldl stepB (X,l)).1=X)):=by
 unfold speed_net_step
 rw [if_pos]
 ·rfl
 ·obtain ⟨_,_,h3,_⟩:=csheet_ok h
  refine List.all_eq_true.2 fun r hr=>?_
  obtain ⟨a,b,c,d,_⟩:=whole_ok h r hr
  simp only [tR,Bool.and_eq_true,decide_eq_true_eq]
  omega
theorem step_rep {x:Int×List (Int×Int×Int)} (h:csheet x=0) {X:Ar 21 Int} {l:List (Int×Int)} {s:St} {K:Nat} {c:Int} (hr:Rep X l s) (hb:Bd c s) (hc:0≤c) (hc2:c≤1000000000000) :
  ∃ X' l' m,speed_net_step (whole x) X l=some (X',l',m)∧Rep X' l' (pass (Rs x) K s)∧Bd (c + 10000000) (pass (Rs x) K s)∧(m=false↔∀ t,0≤t→t≤20→(pass (Rs x) K s).f t=s.f t):=by
 obtain ⟨_,_,h3,_⟩:=csheet_ok h
 have hlen:=Rs_len h
 have:=Rep.fold (K:=K) h3 (Rs x) X l s c (Rs_ok h) hc (by omega) hr hb
 refine ⟨_,_,_,step_eq h X l,this.1,fun v=>?_,?_⟩
 ·have:=this.2 v
  unfold pass
  omega
 ·simp only [Bool.not_eq_false',decide_eq_true_eq]
  constructor
  ·intro e t t0 t1
   have h1:=this.1.f t t0 t1
   rw [e,hr.f t t0 t1] at h1
   exact h1.symm
  ·intro e
   exact arExt fun t t0 t1=>by rw [this.1.f t t0 t1,hr.f t t0 t1]; exact e t t0 t1
theorem pass_fix {K:Nat}:∀ (R:List Rl) (s:St),(∀ p∈R,0≤p.2.2.1∧p.2.2.1≤20)→(∀ v,0≤v→v≤20→(R.foldl (rel K) s).f v=s.f v)→∀ p∈R,¬ BF.cnd s.f p
 | [],_,_,_,p,hp=>by simp at hp
 | q::R,s,hR,hf,p,hp=>by
  simp only [List.foldl_cons] at hf
  by_cases hc:BF.cnd s.f q
  ·exfalso
   obtain ⟨q0,q1⟩:=hR q (by simp)
   have h1:=hf _ q0 q1
   have h2:=(BF.pass_le (K:=K) (v:=q.2.2.1) R (rel K s q)).1
   have h3:(rel K s q).f q.2.2.1<s.f q.2.2.1:=by
    unfold rel
    rw [if_pos hc]
    simp only [BF.up_same]
    exact hc.2
   omega
  ·have e:rel K s q=s:=by unfold rel; rw [if_neg hc]
   rw [e] at hf
   rcases List.mem_cons.1 hp with rfl | hp
   ·exact hc
   ·exact pass_fix R s (fun r hr=>hR r (by simp [hr])) hf p hp
theorem fix_pot {x:Int×List (Int×Int×Int)} (h:csheet x=0) {s:St} {K:Nat} (hneg:∀ v,s.f v≤0) (hf:∀ t,0≤t→t≤20→(pass (Rs x) K s).f t=s.f t):Pot x:=by
 obtain ⟨_,_,h3,_⟩:=csheet_ok h
 refine ⟨s.f,fun r hr=>?_⟩
 obtain ⟨i,hi,e⟩:=List.getElem_of_mem hr
 have hm:((i:Int),r)∈Rs x:=by
  have:(en (whole x))[i]?=some ((i:Int),r):=by rw [en_get,List.getElem?_eq_getElem hi,e]; rfl
  exact List.mem_of_getElem? this
 have:=pass_fix (Rs x) s (fun p hp=>by have:=Rs_ok h p hp; exact ⟨this.2.2.1,by have:=this.2.2.2.1; omega⟩) hf _ hm
 unfold BF.cnd at this
 have hn:=hneg r.1
 simp only [not_and,Int.not_lt] at this
 exact this (by unfold NEV; omega)
theorem pot_back {x:Int×List (Int×Int×Int)} {s:St} {K:Nat} {N:Int→Prop} (hI:Inv N K (Rs x) [] s) {p:Int→Int} (hp:∀ r∈whole x,p r.2.1≤p r.1 + r.2.2) {v u c:Int} {n:Nat} (hb:Back s.b v u c n):p v≤p u + c:=by
 induction hb with
 | @one v q hq =>
  obtain ⟨h1,h2,_⟩:=hI.i2 v q hq
  have h1':q∈Rs x:=by simpa using h1
  have:=hp _ (en_mem h1').1
  rw [h2] at this
  exact this
 | @more v u c n q hq _ ih =>
  obtain ⟨h1,h2,_⟩:=hI.i2 v q hq
  have h1':q∈Rs x:=by simpa using h1
  have:=hp _ (en_mem h1').1
  rw [h2] at this
  omega
theorem no_pot {x:Int×List (Int×Int×Int)} {s:St} {K:Nat} {N:Int→Prop} (hI:Inv N K (Rs x) [] s) {v c:Int} {n:Nat} (hb:Back s.b v v c n):¬ Pot x:=by
 rintro ⟨p,hp⟩
 have h1:=pot_back hI hp hb
 have h2:=hI.i5 v c n hb
 omega
theorem nodup_len:∀ (N:Nat) (M:List Int),M.Nodup→(∀ w∈M,0≤w∧w<N)→M.length≤N
 | 0,M,_,h=>by
  cases M with
  | nil=>simp
  | cons a M=>have:=h a (by simp); omega
 | N + 1,M,hn,h=>by
  have h1:=nodup_len N (M.filter fun w=>!decide (w=(N:Int))) (hn.filter _) (fun w hw=>by
   simp only [List.mem_filter,Bool.not_eq_true',decide_eq_false_iff_not] at hw
   have:=h w hw.1
   omega)
  have h2:M.length≤(M.filter fun w=>!decide (w=(N:Int))).length + 1:=by
   clear h h1
   induction M with
   | nil=>simp
   | cons a M ih =>
    simp only [List.nodup_cons] at hn
    by_cases ha:a=(N:Int)
    ·have e:(M.filter fun w=>!decide (w=(N:Int)))=M:=by
      refine List.filter_eq_self.2 fun w hw=>?_
      simp only [Bool.not_eq_true',decide_eq_false_iff_not]
      rintro rfl
      exact hn.1 (ha ▸ hw)
     rw [List.filter_cons,ha,if_neg (by simp),e]
     exact Nat.le_refl _
    ·rw [List.filter_cons,if_pos (by simp [ha]),List.length_cons,List.length_cons]
     have:=ih hn.2
     omega
  omega
theorem twice {x:Int×List (Int×Int×Int)} (hx:csheet x=0) {s:St} {K:Nat} {N:Int→Prop} (hI:Inv N K (Rs x) [] s):∀ (d:Nat) (M:List Int) (u:Int),M.Nodup→(∀ w∈M,0≤w∧w≤x.1)→0≤u→u≤x.1 →
  (∀ w∈M,∃ c n,Back s.b w u c n∧n≤M.length)→x.1 + 1≤s.r u + M.length→x.1 + 1 - M.length<d→∃ w c n,Back s.b w w c n
 | 0,M,u,hn,hM,u0,u1,_,_,hd=>by
  have:=nodup_len (x.1 + 1).toNat M hn (fun w hw=>by have:=hM w hw; omega)
  omega
 | d + 1,M,u,hn,hM,u0,u1,hB,hr,hd=>by
  by_cases hu:u∈M
  ·obtain ⟨c,n,h1,_⟩:=hB u hu
   exact ⟨u,c,n,h1⟩
  ·have hn':(u::M).Nodup:=by simp [hn,hu]
   have hM':∀ w∈u::M,0≤w∧w≤x.1:=fun w hw=>by
    rcases List.mem_cons.1 hw with rfl | hw
    ·exact ⟨u0,u1⟩
    ·exact hM w hw
   have hl:=nodup_len (x.1 + 1).toNat (u::M) hn' (fun w hw=>by have:=hM' w hw; omega)
   simp only [List.length_cons] at hl
   have hb:s.b u≠none:=fun e=>by have:=(hI.i1 u).1 e; omega
   obtain ⟨p,hp⟩:=Option.ne_none_iff_exists'.1 hb
   obtain ⟨h1,h2,h3⟩:=hI.i2 u p hp
   have hok:=Rs_ok hx p (by simpa using h1)
   have h4:=hI.i3 u p hp
   refine twice hx hI d (u::M) p.2.1 hn' hM' hok.1 hok.2.1 (fun w hw=>?_) (by simp only [List.length_cons]; omega) (by simp only [List.length_cons]; omega)
   rcases List.mem_cons.1 hw with rfl | hw
   ·exact ⟨_,1,.one hp,by simp⟩
   ·obtain ⟨c,n,h5,h6⟩:=hB w hw
    exact ⟨_,_,h5.snoc hp,by simp only [List.length_cons]; omega⟩
theorem stamp_no_pot {x:Int×List (Int×Int×Int)} (hx:csheet x=0) {s:St} {K:Nat} {N:Int→Prop} (hI:Inv N K (Rs x) [] s) {v:Int} (v0:0≤v) (v1:v≤x.1) (hr:x.1 + 1≤s.r v):¬ Pot x:=by
 obtain ⟨w,c,n,h⟩:=twice hx hI ((x.1 + 1).toNat + 1) [] v (by simp) (by simp) v0 v1 (by simp) (by simpa using hr) (by simp; omega)
 exact no_pot hI h
end Go.Proofs.YtfmelbioccbdoaaGreat
end
section
namespace Go.Proofs.YtfmelbioccbdoaaGreat
open Go Go.Md Go.RowKit
open BF (Rl St Back Inv rel pass passes NEV)
def revI (l:List Int) (i:Nat):List Int:=(List.range l.length).map fun t=>if t<i∨l.length - i≤t then l.getD (l.length - 1 - t) 0 else l.getD t 0
theorem revI_len {l:List Int} {i:Nat}:(revI l i).length=l.length:=by simp [revI]
theorem revI_get {l:List Int} {i t:Nat} (h:t<l.length):(revI l i)[t]?=some (if t<i∨l.length - i≤t then l.getD (l.length - 1 - t) 0 else l.getD t 0):=by
 simp [revI,List.getElem?_map,List.getElem?_range,h]
theorem revI_zero {l:List Int}:revI l 0=l:=by
 apply List.ext_getElem?
 intro t
 by_cases h:t<l.length
 ·rw [revI_get h,if_neg (by omega),List.getElem?_eq_getElem h,List.getD_eq_getElem?_getD,List.getElem?_eq_getElem h]
  rfl
 ·rw [List.getElem?_eq_none (by rw [revI_len]; omega),List.getElem?_eq_none (by omega)]
theorem revI_end {l:List Int} {i:Nat} (h:l.length≤2 * i + 1):revI l i=l.reverse:=by
 apply List.ext_getElem?
 intro t
 by_cases ht:t<l.length
 ·rw [revI_get ht,List.getElem?_reverse ht]
  have h1:l.length - 1 - t<l.length:=by omega
  rw [List.getElem?_eq_getElem h1]
  split
  ·rw [List.getD_eq_getElem?_getD,List.getElem?_eq_getElem h1]; rfl
  ·have:t=l.length - 1 - t:=by omega
   rw [List.getD_eq_getElem?_getD]
   conv=>lhs; rw [this]
   rw [List.getElem?_eq_getElem h1]
   rfl
 ·rw [List.getElem?_eq_none (by rw [revI_len]; omega),List.getElem?_eq_none (by simp; omega)]
theorem revI_step {l:List Int} {i:Nat} (h:2 * i + 1<l.length):rset (rset (revI l i) (i:Int) (l.getD (l.length - 1 - i) 0)) ((l.length:Int) - 1 - i) (l.getD i 0)=revI l (i + 1):=by
 have e:((l.length:Int) - 1 - i).toNat=l.length - 1 - i:=by omega
 unfold rset
 apply List.ext_getElem?
 intro t
 rw [e,List.getElem?_set,List.getElem?_set,Int.toNat_natCast]
 simp only [List.length_set,revI_len]
 by_cases ht:t<l.length
 ·rw [revI_get ht,revI_get ht]
  by_cases h1:l.length - 1 - i=t
  ·subst h1
   rw [if_pos rfl,if_pos ht,if_pos (by omega)]
   congr 2
   omega
  ·rw [if_neg h1]
   by_cases h2:i=t
   ·subst h2
    rw [if_pos rfl,if_pos (by omega),if_pos (by omega)]
   ·rw [if_neg h2]
    congr 1
    have:(t<i∨l.length - i≤t)↔(t<i + 1∨l.length - (i + 1)≤t):=by omega
    simp only [this]
 ·rw [if_neg (by omega),if_neg (by omega),List.getElem?_eq_none (by rw [revI_len]; omega),List.getElem?_eq_none (by rw [revI_len]; omega)]
theorem reverse_l1 {l:List Int} (hl:l.length<1000000):∀ (m i:Nat),l.length<m + i→2 * i≤l.length + 1→slices_Reverse_l1 m (revI l i) (i:Int) ((l.length:Int) - 1 - i)=some l.reverse
 | 0,i,h,h2=>by omega
 | m + 1,i,h,h2=>by
  unfold slices_Reverse_l1
  by_cases hi:2 * i + 1<l.length
  ·rw [if_pos (by simp; omega)]
   have e1:ix (revI l i) ((l.length:Int) - 1 - i)=some (l.getD (l.length - 1 - i) 0):=by
    have:((l.length:Int) - 1 - i)=((l.length - 1 - i:Nat):Int):=by omega
    unfold ix
    rw [if_pos (by omega),this,Int.toNat_natCast,revI_get (by omega),if_neg (by omega)]
   have e2:ix (revI l i) (i:Int)=some (l.getD i 0):=by
    unfold ix
    rw [if_pos (by omega),Int.toNat_natCast,revI_get (by omega),if_neg (by omega)]
   rw [e1,e2]
   simp only [Option.bind_eq_bind,Option.bind_some]
   rw [revI_step hi,w64_in (by omega),w64_in (by omega)]
   have:=reverse_l1 hl m (i + 1) (by omega) (by omega)
   have e3:((l.length:Int) - 1 - (i:Int) - 1)=(l.length:Int) - 1 - ((i + 1:Nat):Int):=by omega
   rw [e3]
   exact this
  ·rw [if_neg (by simp; omega),revI_end (by omega)]
theorem reverse_eq {F:Nat} {l:List Int} (hF:l.length<F) (hl:l.length<1000000):slices_Reverse F l=some l.reverse:=by
 unfold slices_Reverse
 rw [w64_in (by omega)]
 have:=reverse_l1 hl F 0 (by omega) (by omega)
 rw [revI_zero] at this
 simpa using this
theorem gA_fill {v t:Int} (t0:0≤t) (t1:t≤20):gA (Ar.fill 21 v:Ar 21 Int) t=v:=by
 unfold gA ix
 rw [if_pos t0]
 show ((List.replicate 21 v)[t.toNat]?).getD 0=v
 rw [List.getElem?_replicate,if_pos (by omega)]
 rfl
def nn (x:Int×List (Int×Int×Int)):Nat:=x.1.toNat + 1
def Pn (x:Int×List (Int×Int×Int)) (K:Nat):St:=passes (Rs x) K
theorem Pn_inv {x:Int×List (Int×Int×Int)} (h:csheet x=0) (K:Nat):Inv (fun _=>True) K (Rs x) [] (Pn x K):=Inv.passes (Rs_ne h) K
theorem circle_l1 {x:Int×List (Int×Int×Int)} (h:csheet x=0):∀ (m k:Nat) (X:Ar 21 Int) (l:List (Int×Int)) (more:Bool),k≤nn x→nn x - k<m→Rep X l (Pn x k)→Bd (10000000 * k) (Pn x k) →
  (1≤k→(more=false↔∀ t,0≤t→t≤20→(Pn x k).f t=(Pn x (k - 1)).f t)) →
  ∃ X' l' more',speed_net_circle_l1 (whole x) (nn x:Int) m (k:Int) X l more=some (X',l',more')∧Rep X' l' (Pn x (nn x))∧Bd (10000000 * (nn x:Int)) (Pn x (nn x)) ∧
   (more'=false↔∀ t,0≤t→t≤20→(Pn x (nn x)).f t=(Pn x (nn x - 1)).f t)
 | 0,k,_,_,_,_,hm,_,_,_=>by omega
 | m + 1,k,X,l,more,hk,hm,hr,hb,hmo=>by
  obtain ⟨_,_,h3,_⟩:=csheet_ok h
  unfold speed_net_circle_l1
  by_cases hlt:k<nn x
  ·rw [if_pos (by simpa using hlt)]
   have hn:nn x≤21:=by unfold nn; omega
   obtain ⟨X',l',m',e,h1,h2,h4⟩:=step_rep (K:=k + 1) h hr hb (by omega) (by omega)
   rw [e]
   simp only [Option.bind_eq_bind,Option.bind_some]
   rw [w64_in (by omega)]
   have h2':Bd (10000000 * ((k + 1:Nat):Int)) (Pn x (k + 1)):=by
    have:10000000 * (k:Int) + 10000000=10000000 * ((k + 1:Nat):Int):=by omega
    rw [← this]
    exact h2
   exact circle_l1 h m (k + 1) X' l' m' (by omega) (by omega) h1 h2' (fun _=>h4)
  ·have:k=nn x:=by omega
   subst this
   rw [if_neg (by simp)]
   exact ⟨X,l,more,rfl,hr,hb,hmo (by unfold nn; omega)⟩
theorem circle_l2 {X Y:Ar 21 Int}:∀ (m k:Nat),k≤21→21 - k<m→(∃ t:Int,(k:Int)≤t∧t≤20∧gA X t≠gA Y t)→∃ t,speed_net_circle_l2 X Y m (k:Int)=some t∧0≤t∧t≤20∧gA X t≠gA Y t
 | 0,k,_,hm,_=>by omega
 | m + 1,k,hk,hm,⟨t,t0,t1,ht⟩=>by
  unfold speed_net_circle_l2
  rw [if_pos (by simp; omega),ixA (X:=X) (by omega) (by omega),ixA (X:=Y) (by omega) (by omega)]
  simp only [Option.bind_eq_bind,Option.bind_some]
  by_cases e:gA X (k:Int)=gA Y (k:Int)
  ·rw [if_neg (by simp [e]),w64_in (by omega)]
   have:t≠k:=fun e2=>ht (by rw [e2]; exact e)
   exact circle_l2 m (k + 1) (by omega) (by omega) ⟨t,by omega,t1,ht⟩
  ·rw [if_pos (by simp [e])]
   exact ⟨_,rfl,by omega,by omega,e⟩
theorem from_eq {x:Int×List (Int×Int×Int)} (h:csheet x=0) {X:Ar 21 Int} {l:List (Int×Int)} {s:St} {K:Nat} {N:Int→Prop} (hI:Inv N K (Rs x) [] s) (hr:Rep X l s) {u:Int} {p:Rl} (hp:s.b u=some p) :
  speed_from (whole x) l u=some (p.1,p.2.1)∧p∈Rs x∧p.2.2.1=u:=by
 obtain ⟨h1,h2,_⟩:=hI.i2 u p hp
 have h1':p∈Rs x:=by simpa using h1
 have hok:=Rs_ok h p h1'
 obtain ⟨_,_,h3,_⟩:=csheet_ok h
 refine ⟨?_,h1',h2⟩
 unfold speed_from
 rw [if_pos (key_ok (by have:=hok.2.2.1; omega) (by have:=hok.2.2.2.1; omega)),hr.b u p hp,(en_mem h1').2.1]
 rfl
theorem circle_l3 {x:Int×List (Int×Int×Int)} (h:csheet x=0) {X:Ar 21 Int} {l:List (Int×Int)} {s:St} {K:Nat} {N:Int→Prop} (hI:Inv N K (Rs x) [] s) (hr:Rep X l s):∀ (m:Nat) (M:List Int) (seen:Ar 21 Int) (u:Int),M.Nodup→(∀ w∈M,0≤w∧w≤x.1)→0≤u→u≤x.1 →
  (∀ w∈M,∃ c n,Back s.b w u c n∧n≤M.length)→x.1 + 1≤s.r u + M.length→x.1 + 1 - M.length<m→(∀ t,0≤t→t≤20→gA seen t=if t∈M then 1 else 0) →
  ∃ e c n,speed_net_circle_l3 (whole x) l m seen u=some e∧Back s.b e e c n∧(n:Int)≤x.1 + 1∧0≤e∧e≤x.1
 | 0,M,seen,u,hn,hM,u0,u1,_,_,hd,_=>by
  have:=nodup_len (x.1 + 1).toNat M hn (fun w hw=>by have:=hM w hw; omega)
  omega
 | m + 1,M,seen,u,hn,hM,u0,u1,hB,hst,hd,hs=>by
  obtain ⟨_,_,h3,_⟩:=csheet_ok h
  unfold speed_net_circle_l3
  rw [ixA (X:=seen) u0 (by omega),hs u u0 (by omega)]
  simp only [Option.bind_eq_bind,Option.bind_some]
  by_cases hu:u∈M
  ·rw [if_pos hu,if_neg (by decide)]
   obtain ⟨c,n,h1,h2⟩:=hB u hu
   have hl:=nodup_len (x.1 + 1).toNat M hn (fun w hw=>by have:=hM w hw; omega)
   exact ⟨u,c,n,rfl,h1,by omega,u0,u1⟩
  ·rw [if_neg hu,if_pos (by decide)]
   have hn':(u::M).Nodup:=by simp [hn,hu]
   have hM':∀ w∈u::M,0≤w∧w≤x.1:=fun w hw=>by
    rcases List.mem_cons.1 hw with rfl | hw
    ·exact ⟨u0,u1⟩
    ·exact hM w hw
   have hl:=nodup_len (x.1 + 1).toNat (u::M) hn' (fun w hw=>by have:=hM' w hw; omega)
   simp only [List.length_cons] at hl
   have hb:s.b u≠none:=fun e=>by have:=(hI.i1 u).1 e; omega
   obtain ⟨p,hp⟩:=Option.ne_none_iff_exists'.1 hb
   obtain ⟨e1,e2,e3⟩:=from_eq h hI hr hp
   have hok:=Rs_ok h p e2
   have h4:=hI.i3 u p hp
   rw [e1]
   simp only [Option.bind_some]
   refine circle_l3 h hI hr m (u::M) (aset seen u 1) p.2.1 hn' hM' hok.1 hok.2.1 (fun w hw=>?_) (by simp only [List.length_cons]; omega) (by simp only [List.length_cons]; omega) (fun t t0 t1=>?_)
   ·rcases List.mem_cons.1 hw with rfl | hw
    ·exact ⟨_,1,.one hp,by simp⟩
    ·obtain ⟨c,n,h5,h6⟩:=hB w hw
     exact ⟨_,_,h5.snoc hp,by simp only [List.length_cons]; omega⟩
   ·rw [gA_set u0 (by omega) t0 t1,hs t t0 t1]
    by_cases e:t=u
    ·subst e; simp
    ·simp [e]
def Lk:List Rl→Prop
 | []=>True
 | [_]=>True
 | p::q::l=>p.2.2.1=q.2.1∧Lk (q::l)
def sumM (l:List Rl):Int:=(l.map fun p=>p.2.2.2).sum
structure Circ (x:Int×List (Int×Int×Int)) (e:Int) (a:List Rl):Prop where
 lk:Lk a
 mem:∀ p∈a,p∈Rs x
 hd:a.head?.map (fun p=>p.2.1)=some e
 tl:a.getLast?.map (fun p=>p.2.2.1)=some e
 neg:sumM a<0
 len:a.length≤21
theorem circle_l4 {x:Int×List (Int×Int×Int)} (h:csheet x=0) {X:Ar 21 Int} {l:List (Int×Int)} {s:St} {K:Nat} {N:Int→Prop} (hI:Inv N K (Rs x) [] s) (hr:Rep X l s) {e:Int}:∀ (m k:Nat) (u:Int) (a:List Rl) (c:Int),
  Back s.b u e c k→k≤m→a.length + k≤21 →
  ((a=[]∧u=e)∨(Back s.b e u (sumM a) a.length∧Lk a∧(∀ p∈a,p∈Rs x)∧a.head?.map (fun p=>p.2.1)=some u∧a.getLast?.map (fun p=>p.2.2.1)=some e)) →
  ∃ a',speed_net_circle_l4 (whole x) l e m u ((a.map (·.1)).reverse)=some ((a'.map (·.1)).reverse)∧Circ x e a'
 | 0,k,u,a,c,hb,hk,_,_=>by have:=hb.pos; omega
 | m + 1,k,u,a,c,hb,hk,hlen,ha=>by
  obtain ⟨p,hp⟩:=hb.start
  obtain ⟨e1,e2,e3⟩:=from_eq h hI hr hp
  have acc:Back s.b e p.2.1 (sumM (p::a)) (p::a).length∧Lk (p::a)∧(∀ q∈p::a,q∈Rs x)∧(p::a).head?.map (fun p=>p.2.1)=some p.2.1∧(p::a).getLast?.map (fun p=>p.2.2.1)=some e:=by
   rcases ha with ⟨rfl,rfl⟩ | ⟨b1,b2,b3,b4,b5⟩
   ·refine ⟨?_,trivial,by simpa using e2,rfl,by simpa using e3⟩
    have:=Back.one hp
    simpa [sumM] using this
   ·cases a with
    | nil=>simp at b4
    | cons q a =>
     refine ⟨?_,⟨?_,b2⟩,?_,rfl,?_⟩
     ·have:=b1.snoc hp
      have e:sumM (p::q::a)=sumM (q::a) + p.2.2.2:=by simp only [sumM,List.map_cons,List.sum_cons]; omega
      rw [e]
      exact this
     ·simp only [List.head?_cons,Option.map_some,Option.some.injEq] at b4
      rw [e3,b4]
     ·intro r hr'
      rcases List.mem_cons.1 hr' with rfl | hr'
      ·exact e2
      ·exact b3 r hr'
     ·rw [List.getLast?_cons_cons]; exact b5
  have hk1:=hb.pos
  unfold speed_net_circle_l4
  rw [e1]
  simp only [Option.bind_eq_bind,Option.bind_some]
  rw [app_some (by simp only [List.length_reverse,List.length_map,List.length_cons,List.length_nil]; omega)]
  simp only [Option.bind_some]
  have eo:(a.map (·.1)).reverse++[p.1]=((p::a).map (·.1)).reverse:=by simp
  rw [eo]
  by_cases he:p.2.1=e
  ·rw [if_pos (by simpa using he)]
   refine ⟨p::a,rfl,acc.2.1,acc.2.2.1,by rw [acc.2.2.2.1,he],acc.2.2.2.2,?_,by simp only [List.length_cons]; omega⟩
   have:=acc.1
   rw [he] at this
   exact hI.i5 _ _ _ this
  ·rw [if_neg (by simpa using he)]
   cases hb with
   | one h' =>
    rw [hp] at h'
    cases h'
    exact (he rfl).elim
   | more h' k' =>
    rw [hp] at h'
    cases h'
    exact circle_l4 h hI hr m _ p.2.1 (p::a) _ k' (by omega) (by simp only [List.length_cons]; omega) (.inr acc)
theorem circle_eq {x:Int×List (Int×Int×Int)} (h:csheet x=0) {F:Nat} (hF:200<F) :
  (speed_net_circle F ((x.1,x.2),whole x)=some []∧Pot x)∨(¬ Pot x∧∃ e a,speed_net_circle F ((x.1,x.2),whole x)=some (a.map (·.1))∧Circ x e a):=by
 obtain ⟨_,h2,h3,_⟩:=csheet_ok h
 have hn:((nn x:Nat):Int)=x.1 + 1:=by unfold nn; omega
 have h0:Rep (Ar.fill 21 0:Ar 21 Int) [] (Pn x 0):=by
  exact ⟨fun t t0 t1=>gA_fill t0 t1,fun t p hp=>by simp [Pn,passes,BF.start] at hp⟩
 have hb0:Bd (10000000 * ((0:Nat):Int)) (Pn x 0):=fun v=>by simp [Pn,passes,BF.start,NEV]
 obtain ⟨X1,l1,more,e1,r1,b1,m1⟩:=circle_l1 h F 0 _ _ true (Nat.zero_le _) (by omega) h0 hb0 (fun h=>by omega)
 unfold speed_net_circle
 simp only [w64_in (show -9223372036854775808≤x.1 + 1∧x.1 + 1≤9223372036854775807 by omega)]
 rw [hn] at e1
 rw [show ((0:Nat):Int)=0 from rfl] at e1
 rw [e1]
 simp only [Option.bind_eq_bind,Option.bind_some]
 have hI1:=Pn_inv h (nn x)
 cases hmore:more with
 | false =>
  left
  refine ⟨rfl,?_⟩
  have hfix:=m1.1 hmore
  have hn1:nn x=(nn x - 1) + 1:=by unfold nn; omega
  refine fix_pot (s:=Pn x (nn x - 1)) (K:=nn x) h (Pn_inv h (nn x - 1)).i7 (fun t t0 t1=>?_)
  have:=hfix t t0 t1
  rw [← this]
  conv=>rhs; rw [hn1]
  show _=(passes (Rs x) (nn x - 1 + 1)).f t
  rw [passes,← hn1]
  rfl
 | true =>
  right
  rw [if_neg (by simp)]
  have hch:∃ v,0≤v∧v≤20∧(Pn x (nn x)).f v≠(Pn x (nn x - 1)).f v:=by
   apply Classical.byContradiction
   intro hno
   have:more=false:=m1.2 fun t t0 t1=>Classical.byContradiction fun hne=>hno ⟨t,t0,t1,hne⟩
   rw [hmore] at this
   cases this
  have hstamp:∀ K v,(Pn x (K + 1)).f v≠(Pn x K).f v→(Pn x (K + 1)).r v=K + 1:=fun K v hne =>
   Classical.byContradiction fun hr=>hne (BF.pass_same (Rs x) (Pn x K) hr).1
  have hnode:∀ K v,(Pn x K).r v≠0→0≤v∧v≤x.1:=fun K v hr=>by
   have hI:=Pn_inv h K
   have hb:(Pn x K).b v≠none:=fun e=>hr ((hI.i1 v).1 e)
   obtain ⟨p,hp⟩:=Option.ne_none_iff_exists'.1 hb
   obtain ⟨h1,h2,_⟩:=hI.i2 v p hp
   have hok:=Rs_ok h p (by simpa using h1)
   rw [← h2]
   exact ⟨hok.2.2.1,hok.2.2.2.1⟩
  have hn1:nn x=(nn x - 1) + 1:=by unfold nn; omega
  obtain ⟨v,v0,v1,hv⟩:=hch
  have hrv:(Pn x (nn x)).r v=nn x:=by
   have:=hstamp (nn x - 1) v (by rw [← hn1]; exact hv)
   rw [← hn1] at this
   exact this
  have hvn:=hnode (nn x) v (by rw [hrv]; unfold nn; omega)
  have hnp:¬ Pot x:=stamp_no_pot h hI1 hvn.1 hvn.2 (by rw [hrv]; omega)
  obtain ⟨X2,l2,m2,e2,r2,b2,hm2⟩:=step_rep (K:=nn x + 1) h r1 b1 (by omega) (by omega)
  rw [e2]
  simp only [Option.bind_some]
  have hI2:=Pn_inv h (nn x + 1)
  have r2':Rep X2 l2 (Pn x (nn x + 1)):=r2
  have hch2:∃ t,((0:Nat):Int)≤t∧t≤20∧gA X2 t≠gA X1 t:=by
   apply Classical.byContradiction
   intro hno
   refine hnp (fix_pot (s:=Pn x (nn x)) (K:=nn x + 1) h hI1.i7 fun t t0 t1=>?_)
   apply Classical.byContradiction
   intro hne
   refine hno ⟨t,by omega,t1,?_⟩
   rw [r2.f t t0 t1,r1.f t t0 t1]
   exact hne
  obtain ⟨t,e3,t0,t1,ht⟩:=circle_l2 (X:=X2) (Y:=X1) F 0 (by omega) (by omega) hch2
  rw [show ((0:Nat):Int)=0 from rfl] at e3
  rw [e3]
  simp only [Option.bind_some]
  have hrt:(Pn x (nn x + 1)).r t=nn x + 1:=hstamp (nn x) t (by
   intro e
   apply ht
   rw [r2.f t t0 t1,r1.f t t0 t1]
   exact e)
  have htn:=hnode (nn x + 1) t (by rw [hrt]; omega)
  obtain ⟨e,c,n,e4,hb,hbn,he0,he1⟩:=circle_l3 h hI2 r2' F [] (Ar.fill 21 0:Ar 21 Int) t (by simp) (by simp) htn.1 htn.2 (by simp) (by rw [hrt]; simp; omega) (by simp; omega) (fun w w0 w1=>by
   rw [gA_fill w0 w1]
   simp)
  rw [e4]
  simp only [Option.bind_some]
  obtain ⟨a,e5,hc⟩:=circle_l4 h hI2 r2' F n e [] c hb (by omega) (by simp; omega) (.inl ⟨rfl,rfl⟩)
  simp only [List.map_nil,List.reverse_nil] at e5
  rw [e5]
  simp only [Option.bind_some]
  have hl:=hc.len
  rw [reverse_eq (by simp; omega) (by simp; omega)]
  exact ⟨hnp,e,a,by simp,hc⟩
end Go.Proofs.YtfmelbioccbdoaaGreat
end
section
namespace Go.Proofs.YtfmelbioccbdoaaGreat
open Go Go.Md Go.RowKit
abbrev RR:=Int×Int×Int
def linkE:Int→Option Int→List RR→Int×Int
 | c,_,[]=>(c,0)
 | c,p,r::rs=>if p=none∨p=some r.1 then linkE (w64 (c + r.2.2)) (some r.2.1) rs else (0,16)
theorem linkE_err:∀ (rs:List RR) (c:Int) (p:Option Int),(linkE c p rs).2≠0→linkE c p rs=(0,16)
 | [],c,p,h=>by simp [linkE] at h
 | r::rs,c,p,h=>by
  unfold linkE at h ⊢
  split
  ·rename_i hp
   rw [if_pos hp] at h
   exact linkE_err rs _ _ h
  ·rfl
theorem linkE_go {c:Int} {r:RR} {rs:List RR}:linkE c none (r::rs)=linkE (w64 (c + r.2.2)) (some r.2.1) rs:=by
 rw [linkE,if_pos (.inl rfl)]
theorem linkE_ok {c t:Int} {r:RR} {rs:List RR} (h:r.1=t):linkE c (some t) (r::rs)=linkE (w64 (c + r.2.2)) (some r.2.1) rs:=by
 rw [linkE,if_pos (.inr (by rw [h]))]
theorem linkE_no {c t:Int} {r:RR} {rs:List RR} (h:r.1≠t):linkE c (some t) (r::rs)=(0,16):=by
 rw [linkE,if_neg]
 simp only [reduceCtorEq,Option.some.injEq,false_or]
 exact fun e=>h e.symm
theorem w64_succ {k:Nat} (h:k<1000000):w64 ((k:Int) + 1)=((k + 1:Nat):Int):=by
 rw [w64_in (by omega)]
 rfl
def inAll (all:List RR) (way:List Int):Bool:=way.all fun i=>decide (0≤i) && decide (i<all.length)
def rsOf (all:List RR) (way:List Int):List RR:=way.map fun i=>(ix all i).getD (0,0,0)
def chainS (all:List RR) (way:List Int):Int×Int:=if inAll all way=true then linkE 0 none (rsOf all way) else (0,3)
def firstF (rs:List RR):Int:=match rs with | []=>0 | r::_=>r.1
def lastT (rs:List RR):Int:=match rs.getLast? with | none=>0 | some r=>r.2.1
theorem firstF_get:∀ {rs:List RR} (h:0<rs.length),firstF rs=(rs[0]).1
 | r::rs,_=>rfl
theorem ix_in {all:List RR} {i:Int} (h0:0≤i) (h1:i<all.length):ix all i=some ((ix all i).getD (0,0,0)):=by
 have e:i=(i.toNat:Int):=by omega
 rw [e,ix_nat (by omega)]
 rfl
theorem ix_rs {all:List RR} {way:List Int} (h:inAll all way=true) {k:Nat} (hk:k<way.length):ix all way[k]=some ((rsOf all way)[k]'(by simpa [rsOf] using hk)):=by
 have:=List.all_eq_true.1 h _ (List.getElem_mem hk)
 simp only [Bool.and_eq_true,decide_eq_true_eq] at this
 rw [ix_in this.1 this.2]
 simp [rsOf]
section
variable {F:Nat} {all:List RR} {way:List Int}
theorem chain_l1 (hl:way.length<1000000):∀ (m k:Nat),k≤way.length→way.length - k<m →
  ref01_chain_l1 F way all m (k:Int)=some (if inAll all (way.drop k)=true then .inr () else .inl (0,3))
 | 0,k,_,h=>by omega
 | m + 1,k,hk,h=>by
  unfold ref01_chain_l1
  by_cases hlt:k<way.length
  ·rw [if_pos (by simpa using hlt),ix_nat hlt]
   have hd:way.drop k=way[k]::way.drop (k + 1):=List.drop_eq_getElem_cons hlt
   have ih:=chain_l1 hl m (k + 1) (by omega) (by omega)
   simp only [Option.bind_eq_bind,Option.bind_some]
   unfold inAll at ih ⊢
   rw [hd,List.all_cons]
   by_cases a1:way[k]<0
   ·simp only [a1,decide_true,if_true,Option.bind_some]
    rw [if_neg]
    simp only [Bool.and_eq_true,decide_eq_true_eq,not_and]
    omega
   ·simp only [a1,decide_false,Bool.false_eq_true,if_false,Option.bind_some]
    by_cases a2:(all.length:Int)≤way[k]
    ·simp only [a2,decide_true,if_true]
     rw [if_neg]
     simp only [Bool.and_eq_true,decide_eq_true_eq,not_and]
     omega
    ·simp only [a2,decide_false,Bool.false_eq_true,if_false]
     rw [w64_in (by omega)]
     have:(decide (0≤way[k]) && decide (way[k]<(all.length:Int)))=true:=by simp; omega
     rw [this,Bool.true_and]
     exact ih
  ·rw [if_neg (by simpa using hlt),List.drop_of_length_le (by omega)]
   rfl
def prevT (rs:List RR) (k:Nat):Option Int:=if k=0 then none else rs[k - 1]?.map fun r=>r.2.1
theorem chain_l2 (hin:inAll all way=true) (hl:way.length<1000000):∀ (m k:Nat) (c:Int),k≤way.length→way.length - k<m →
  ref01_chain_l2 F way all m c (k:Int)=some (if (linkE c (prevT (rsOf all way) k) ((rsOf all way).drop k)).2=0 then .inr (linkE c (prevT (rsOf all way) k) ((rsOf all way).drop k)).1 else .inl (0,16))
 | 0,k,_,_,h=>by omega
 | m + 1,k,c,hk,h=>by
  have hrl:(rsOf all way).length=way.length:=by simp [rsOf]
  unfold ref01_chain_l2
  by_cases hlt:k<way.length
  ·rw [if_pos (by simpa using hlt),ix_nat hlt]
   have hd:(rsOf all way).drop k=(rsOf all way)[k]'(by omega)::(rsOf all way).drop (k + 1):=List.drop_eq_getElem_cons (by omega)
   have ih:=chain_l2 hin hl m (k + 1) (w64 (c + ((rsOf all way)[k]'(by omega)).2.2)) (by omega) (by omega)
   have hp:prevT (rsOf all way) (k + 1)=some ((rsOf all way)[k]'(by omega)).2.1:=by
    unfold prevT
    rw [if_neg (by omega),Nat.add_sub_cancel,List.getElem?_eq_getElem (by omega)]
    rfl
   rw [hp] at ih
   simp only [Option.bind_eq_bind,Option.bind_some,ix_rs hin hlt]
   rw [hd,w64_succ (show k<1000000 by omega)]
   by_cases h0:k=0
   ·subst h0
    have ep:prevT (rsOf all way) 0=none:=rfl
    rw [if_neg (by simp),ep,linkE_go]
    simp only [Option.bind_some,Bool.false_eq_true,if_false]
    exact ih
   ·rw [if_pos (by simp; omega),w64_in (by omega)]
    have e1:((k:Int) - 1)=((k - 1:Nat):Int):=by omega
    rw [e1,ix_nat (show k - 1<way.length by omega)]
    simp only [Option.bind_some,ix_rs hin (show k - 1<way.length by omega)]
    have hp0:prevT (rsOf all way) k=some ((rsOf all way)[k - 1]'(by omega)).2.1:=by
     unfold prevT
     rw [if_neg h0,List.getElem?_eq_getElem (by omega)]
     rfl
    rw [hp0]
    by_cases he:((rsOf all way)[k]'(by omega)).1=((rsOf all way)[k - 1]'(by omega)).2.1
    ·rw [if_neg (by simp [he]),linkE_ok he]
     exact ih
    ·rw [if_pos (by simp [he]),linkE_no he]
     rfl
  ·rw [if_neg (by simpa using hlt),List.drop_of_length_le (by omega)]
   simp [linkE]
theorem chain_eq {x:Int×List RR} (hx:csheet x=0) (hF:1000≤F) (hl:way.length≤100):ref01_chain F x way=some (chainS (whole x) way):=by
 obtain ⟨h1,h2,h3,_⟩:=csheet_ok hx
 unfold ref01_chain chainS
 rw [all_eq (x:=(x.1,x.2)) (by omega) (by simp; omega) h3 h1]
 simp only [Option.bind_eq_bind,Option.bind_some]
 have t1:=chain_l1 (F:=F) (all:=whole (x.1,x.2)) (way:=way) (by omega) F 0 (Nat.zero_le _) (by omega)
 simp only [Int.natCast_zero,List.drop_zero] at t1
 rw [t1]
 have ew:whole (x.1,x.2)=whole x:=rfl
 rw [ew]
 cases hin:inAll (whole x) way with
 | false=>rfl
 | true =>
  rw [if_pos rfl,if_pos rfl]
  simp only [Option.bind_some]
  have t2:=chain_l2 (F:=F) hin (by omega) F 0 0 (Nat.zero_le _) (by omega)
  simp only [Int.natCast_zero,List.drop_zero] at t2
  rw [t2]
  have e:prevT (rsOf (whole x) way) 0=none:=rfl
  rw [e]
  by_cases h0:(linkE 0 none (rsOf (whole x) way)).2=0
  ·rw [if_pos h0]
   show some ((linkE 0 none (rsOf (whole x) way)).1,(0:Int))=some (linkE 0 none (rsOf (whole x) way))
   conv=>rhs; rw [← Prod.eta (linkE 0 none (rsOf (whole x) way))]
   rw [h0]
  ·rw [if_neg h0,linkE_err _ _ _ h0]
   rfl
section
variable {x:Int×List RR}
end
end
end Go.Proofs.YtfmelbioccbdoaaGreat
end
section
namespace Go.Proofs.YtfmelbioccbdoaaGreat
open Go Go.Md Go.RowKit
open BF (Rl St Back rel pass NEV)
inductive PC (R:List RR) (a:Int):Int→Int→Prop
 | nil:PC R a a 0
 | snoc {u c:Int} {r:RR} (h:PC R a u c) (hr:r∈R) (hu:r.1=u):PC R a r.2.1 (c + r.2.2)
theorem PC.trans {R:List RR} {a b t c d:Int} (h:PC R a b c) (k:PC R b t d):PC R a t (c + d):=by
 induction k with
 | nil=>simpa using h
 | snoc _ hr hu ih=>rw [← Int.add_assoc]; exact .snoc ih hr hu
theorem PC.one {R:List RR} {r:RR} (hr:r∈R):PC R r.1 r.2.1 r.2.2:=by
 have:=PC.snoc (PC.nil (R:=R) (a:=r.1)) hr rfl
 simpa using this
theorem PC.pot {R:List RR} {p:Int→Int} (hp:∀ r∈R,p r.2.1≤p r.1 + r.2.2) {a t c:Int} (h:PC R a t c):p t≤p a + c:=by
 induction h with
 | nil=>omega
 | snoc _ hr hu ih =>
  have:=hp _ hr
  rw [hu] at this
  omega
theorem PC.node {x:Int×List RR} (h:csheet x=0) {a t c:Int} (a0:0≤a) (a1:a≤x.1) (hp:PC (whole x) a t c):0≤t∧t≤x.1:=by
 cases hp with
 | nil=>exact ⟨a0,a1⟩
 | snoc _ hr _=>exact ⟨(whole_ok h _ hr).2.2.1,(whole_ok h _ hr).2.2.2.1⟩
theorem turn_mem {x:Int×List RR} {t:Int} (t0:1≤t) (t1:t≤x.1):(0,t,100000)∈whole x∧(t,0,0)∈whole x:=by
 have h:∀ r,r=(0,t,(100000:Int))∨r=(t,0,0)→r∈whole x:=fun r hr=>by
  refine List.mem_append.2 (.inr (List.mem_flatMap.2 ⟨(t - 1).toNat,List.mem_range.2 (by omega),?_⟩))
  have:(((t - 1).toNat:Nat):Int) + 1=t:=by omega
  simp only [this,List.mem_cons,List.not_mem_nil,or_false]
  exact hr
 exact ⟨h _ (.inl rfl),h _ (.inr rfl)⟩
theorem PC.any {x:Int×List RR} {a t:Int} (a0:0≤a) (a1:a≤x.1) (t0:0≤t) (t1:t≤x.1):∃ c,PC (whole x) a t c∧c≤100000:=by
 have h1:∃ c,PC (whole x) a 0 c∧c≤0:=by
  by_cases h:a=0
  ·subst h; exact ⟨0,.nil,by omega⟩
  ·exact ⟨0,PC.one (r:=(a,0,0)) (turn_mem (by omega) a1).2,by omega⟩
 obtain ⟨c,h2,h3⟩:=h1
 by_cases h:t=0
 ·subst h; exact ⟨c,h2,by omega⟩
 ·exact ⟨c + 100000,h2.trans (PC.one (r:=(0,t,100000)) (turn_mem (by omega) t1).1),by omega⟩
theorem PC.low {x:Int×List RR} (h:csheet x=0) (hP:Pot x) {a t c:Int} (a0:0≤a) (a1:a≤x.1) (hp:PC (whole x) a t c):-100000≤c:=by
 obtain ⟨p,hpp⟩:=hP
 obtain ⟨t0,t1⟩:=hp.node h a0 a1
 obtain ⟨d,h1,h2⟩:=PC.any (x:=x) t0 t1 a0 a1
 have:=(hp.trans h1).pot hpp
 omega
theorem PC.loop {x:Int×List RR} (hP:Pot x) {a c:Int} (hp:PC (whole x) a a c):0≤c:=by
 obtain ⟨p,hpp⟩:=hP
 have:=hp.pot hpp
 omega
def Dist (x:Int×List RR) (a t d:Int):Prop:=PC (whole x) a t d∧∀ c,PC (whole x) a t c→d≤c
theorem Dist.uni {x:Int×List RR} {a t d e:Int} (h:Dist x a t d) (k:Dist x a t e):d=e:=by
 have:=h.2 e k.1
 have:=k.2 d h.1
 omega
structure Jv (x:Int×List RR) (a:Int) (s:St):Prop where
 j1:∀ v,s.f v=NEV∨PC (whole x) a v (s.f v)
 j2:∀ v q,s.b v=some q→q∈Rs x∧q.2.2.1=v∧s.f q.2.1 + q.2.2.2≤s.f v∧s.f q.2.1≠NEV
 j3:∀ v c n,Back s.b v v c n→c<0
 j4:∀ v,v≠a→s.f v≠NEV→s.b v≠none
 j5:s.f a≤0
 j6:∀ v,s.f v≤NEV
theorem Jv.bd {x:Int×List RR} (h:csheet x=0) (hP:Pot x) {a:Int} (a0:0≤a) (a1:a≤x.1) {s:St} (hj:Jv x a s):Bd 100000 s:=by
 intro v
 rcases hj.j1 v with h1 | h1
 ·rw [h1]; unfold NEV; omega
 ·exact ⟨h1.low h hP a0 a1,hj.j6 v⟩
theorem Jv.rel {x:Int×List RR} (h:csheet x=0) {a:Int} {s:St} {K:Nat} {p:Rl} (hp:p∈Rs x) (hj:Jv x a s):Jv x a (BF.rel K s p):=by
 unfold BF.rel
 by_cases hc:BF.cnd s.f p
 ·rw [if_pos hc]
  have hne:=Rs_ne h p hp
  obtain ⟨c1,c2⟩:=hc
  have hpc:PC (whole x) a p.2.2.1 (s.f p.2.1 + p.2.2.2):=by
   rcases hj.j1 p.2.1 with h1 | h1
   ·exact (c1 h1).elim
   ·exact .snoc h1 (en_mem hp).1 rfl
  have hmono:∀ v,BF.up s.f p.2.2.1 (s.f p.2.1 + p.2.2.2) v≤s.f v:=fun v=>by
   by_cases hv:v=p.2.2.1
   ·subst hv; rw [BF.up_same]; omega
   ·rw [BF.up_ne hv]; exact Int.le_refl _
  refine ⟨fun v=>?_,fun v q hq=>?_,fun v c n hb=>?_,fun v hv hf=>?_,?_,fun v=>?_⟩
  ·dsimp only
   by_cases hv:v=p.2.2.1
   ·subst hv; rw [BF.up_same]; exact .inr hpc
   ·rw [BF.up_ne hv]; exact hj.j1 v
  ·dsimp only at hq ⊢
   by_cases hv:v=p.2.2.1
   ·subst hv
    rw [BF.up_same] at hq
    cases hq
    rw [BF.up_same,BF.up_ne hne]
    exact ⟨hp,rfl,Int.le_refl _,c1⟩
   ·rw [BF.up_ne hv] at hq
    obtain ⟨h1,h2,h3,h4⟩:=hj.j2 v q hq
    rw [BF.up_ne hv]
    refine ⟨h1,h2,by have:=hmono q.2.1; omega,?_⟩
    by_cases hu:q.2.1=p.2.2.1
    ·rw [hu,BF.up_same]
     have:=hj.j6 p.2.2.1
     omega
    ·rw [BF.up_ne hu]; exact h4
  ·dsimp only at hb
   rcases BF.cyc (fun v q hq=>(hj.j2 v q hq).2.2.1) hne ⟨c1,c2⟩ hb with h1 | ⟨_,h2,h3⟩
   ·omega
   ·by_cases hv:v=p.2.2.1
    ·exact (h2 hv).elim
    ·exact hj.j3 v c n (h3 hv)
  ·dsimp only at hf ⊢
   by_cases hv2:v=p.2.2.1
   ·subst hv2; rw [BF.up_same]; simp
   ·rw [BF.up_ne hv2] at hf ⊢
    exact hj.j4 v hv hf
  ·have:=hmono a
   have:=hj.j5
   dsimp only
   omega
  ·have:=hmono v
   have:=hj.j6 v
   dsimp only
   omega
 ·rw [if_neg hc]
  exact hj
theorem Jv.fold {x:Int×List RR} (h:csheet x=0) {a:Int} {K:Nat}:∀ (R:List Rl) (s:St),(∀ p∈R,p∈Rs x)→Jv x a s→Jv x a (R.foldl (BF.rel K) s)
 | [],_,_,hj=>hj
 | p::R,s,hR,hj=>Jv.fold h R _ (fun q hq=>hR q (by simp [hq])) (hj.rel h (hR p (by simp)))
theorem pass_none {K:Nat}:∀ (R:List Rl) (s:St),(∀ p∈R,¬ BF.cnd s.f p)→R.foldl (BF.rel K) s=s
 | [],_,_=>rfl
 | p::R,s,h=>by
  simp only [List.foldl_cons]
  have e:BF.rel K s p=s:=by unfold BF.rel; rw [if_neg (h p (by simp))]
  rw [e]
  exact pass_none R s fun q hq=>h q (by simp [hq])
def mu (f:Int→Int):Nat→Nat
 | 0=>0
 | n + 1=>mu f n + (f (n:Int) + 100000).toNat
theorem mu_le {f g:Int→Int} (h:∀ v,f v≤g v):∀ n,mu f n≤mu g n
 | 0=>Nat.le_refl _
 | n + 1=>by
  have:=mu_le h n
  have:=h n
  unfold mu
  omega
theorem mu_lt {f g:Int→Int} (h:∀ v,f v≤g v) (hb:∀ v,-100000≤f v):∀ (n:Nat) (t:Int),0≤t→t<(n:Int)→f t<g t→mu f n<mu g n
 | 0,t,t0,t1,_=>by omega
 | n + 1,t,t0,t1,hlt=>by
  have h1:=mu_le h n
  have h2:=h n
  unfold mu
  by_cases e:t=(n:Int)
  ·subst e
   have:=hb (n:Int)
   omega
  ·have:=mu_lt h hb n t t0 (by omega) hlt
   omega
theorem mu_top {f:Int→Int} (h:∀ v,f v≤NEV):∀ n,mu f n≤n * 1125899906942624
 | 0=>Nat.le_refl _
 | n + 1=>by
  have:=mu_top h n
  have:=h n
  unfold mu
  unfold NEV at this
  omega
structure FinS (x:Int×List RR) (a:Int) (X:Ar 21 Int) (l:List (Int×Int)) (s:St):Prop where
 rep:Rep X l s
 jv:Jv x a s
 fix:∀ p∈Rs x,¬ BF.cnd s.f p
theorem find_l2 {x:Int×List RR} (h:csheet x=0) (hP:Pot x) {a:Int} (a0:0≤a) (a1:a≤x.1):∀ (m:Nat) (X:Ar 21 Int) (l:List (Int×Int)) (s:St),Rep X l s→Jv x a s→mu s.f 21<m →
  ∃ X' l' s',speed_net_find_l2 (whole x) m X l=some (X',l')∧FinS x a X' l' s'
 | 0,_,_,_,_,_,hm=>by omega
 | m + 1,X,l,s,hr,hj,hm=>by
  have hb:=hj.bd h hP a0 a1
  obtain ⟨X',l',b,e,r1,_,hc⟩:=step_rep (K:=1) h hr hb (by omega) (by omega)
  have hj':Jv x a (pass (Rs x) 1 s):=Jv.fold h (Rs x) s (fun p hp=>hp) hj
  unfold speed_net_find_l2
  rw [e]
  simp only [Option.bind_eq_bind,Option.bind_some]
  cases hbb:b with
  | false =>
   have hf:=pass_fix (Rs x) s (fun p hp=>by
    have:=Rs_ok h p hp
    obtain ⟨_,_,h3,_⟩:=csheet_ok h
    exact ⟨this.2.2.1,by have:=this.2.2.2.1; omega⟩) (hc.1 hbb)
   have hs:pass (Rs x) 1 s=s:=pass_none _ _ hf
   rw [hs] at r1
   exact ⟨X',l',s,by simp,r1,hj,hf⟩
  | true =>
   rw [if_pos rfl]
   refine find_l2 h hP a0 a1 m X' l' _ r1 hj' ?_
   have hle:∀ v,(pass (Rs x) 1 s).f v≤s.f v:=fun v=>(BF.pass_le (K:=1) (Rs x) s).1
   have hb':=hj'.bd h hP a0 a1
   have:∃ t:Int,0≤t∧t<((21:Nat):Int)∧(pass (Rs x) 1 s).f t<s.f t:=by
    apply Classical.byContradiction
    intro hno
    have:b=false:=hc.2 fun t t0 t1=>by
     have:=hle t
     have h2:¬ (pass (Rs x) 1 s).f t<s.f t:=fun hlt=>hno ⟨t,t0,by omega,hlt⟩
     omega
    rw [hbb] at this
    cases this
   obtain ⟨t,t0,t1,ht⟩:=this
   have:=mu_lt hle (fun v=>(hb' v).1) 21 t t0 t1 ht
   omega
theorem find_l1 {F:Nat}:∀ (m k:Nat) (X:Ar 21 Int),k≤21→21 - k<m→(∀ t:Int,0≤t→t<(k:Int)→gA X t=NEV)→∃ X',speed_net_find_l1 F m (k:Int) X=some X'∧∀ t,0≤t→t≤20→gA X' t=NEV
 | 0,k,_,_,hm,_=>by omega
 | m + 1,k,X,hk,hm,hX=>by
  unfold speed_net_find_l1
  by_cases hlt:k<21
  ·rw [if_pos (by simp; omega),ixA (X:=X) (by omega) (by omega)]
   simp only [Option.bind_eq_bind,Option.bind_some]
   rw [w64_succ (by omega)]
   refine find_l1 m (k + 1) _ (by omega) (by omega) fun t t0 t1=>?_
   rw [gA_set (by omega) (by omega) t0 (by omega)]
   split
   ·rfl
   ·exact hX t t0 (by omega)
  ·rw [if_neg (by simp; omega)]
   exact ⟨X,rfl,fun t t0 t1=>hX t t0 (by omega)⟩
theorem find_eq {x:Int×List RR} (h:csheet x=0) (hP:Pot x) {a:Int} (a0:0≤a) (a1:a≤x.1) {F:Nat} (hF:100000000000000000≤F) :
  ∃ X l s,speed_net_find F ((x.1,x.2),whole x) a=some (X,l)∧FinS x a X l s:=by
 obtain ⟨_,_,h3,_⟩:=csheet_ok h
 obtain ⟨Z,e1,hZ⟩:=find_l1 (F:=F) F 0 (Ar.fill 21 0:Ar 21 Int) (by omega) (by omega) (fun t t0 t1=>by omega)
 rw [show ((0:Nat):Int)=0 from rfl] at e1
 unfold speed_net_find
 rw [e1]
 simp only [Option.bind_eq_bind,Option.bind_some]
 rw [ixA (X:=Z) a0 (by omega)]
 simp only [Option.bind_some]
 have hr:Rep (aset Z a 0) [] ⟨fun t=>if t=a then 0 else NEV,fun _=>none,fun _=>0⟩:=by
  refine ⟨fun t t0 t1=>?_,fun t p hp=>by simp at hp⟩
  rw [gA_set a0 (by omega) t0 t1,hZ t t0 t1]
 have hj:Jv x a ⟨fun t=>if t=a then 0 else NEV,fun _=>none,fun _=>0⟩:=by
  refine ⟨fun v=>?_,fun v q hq=>by simp at hq,fun v c n hb=>?_,fun v hv hf=>?_,by simp,fun v=>?_⟩
  ·dsimp only
   by_cases hv:v=a
   ·subst hv; rw [if_pos rfl]; exact .inr .nil
   ·rw [if_neg hv]; exact .inl rfl
  ·obtain ⟨p,hp⟩:=hb.start
   simp at hp
  ·dsimp only at hf
   rw [if_neg hv] at hf
   exact (hf rfl).elim
  ·dsimp only
   split
   ·unfold NEV; omega
   ·exact Int.le_refl _
 obtain ⟨X',l',s',e2,hf⟩:=find_l2 h hP a0 a1 F _ _ _ hr hj (by
  have:=mu_top hj.j6 21
  omega)
 exact ⟨X',l',s',e2,hf⟩
theorem FinS.le {x:Int×List RR} (h:csheet x=0) {a:Int} {X:Ar 21 Int} {l:List (Int×Int)} {s:St} (hf:FinS x a X l s) (a0:0≤a) (a1:a≤x.1) {t c:Int} (hp:PC (whole x) a t c):s.f t≤c∧s.f t<NEV:=by
 have key:∀ {u c:Int},PC (whole x) a u c→s.f u<NEV→∀ r∈whole x,r.1=u→s.f r.2.1≤s.f u + r.2.2:=by
  intro u c _ hlt r hr hu
  obtain ⟨i,hi,e⟩:=List.getElem_of_mem hr
  have hm:((i:Int),r)∈Rs x:=by
   have:(en (whole x))[i]?=some ((i:Int),r):=by rw [en_get,List.getElem?_eq_getElem hi,e]; rfl
   exact List.mem_of_getElem? this
  have:=hf.fix _ hm
  unfold BF.cnd at this
  simp only [not_and,Int.not_lt] at this
  rw [← hu] at hlt ⊢
  exact this (by omega)
 have h5:=hf.jv.j5
 have fin0:s.f 0≤0:=by
  by_cases e:a=0
  ·rw [e] at h5; exact h5
  ·have:=key (PC.nil) (by unfold NEV; omega) (a,0,0) (turn_mem (by omega) a1).2 rfl
   simp only at this
   omega
 have fin:∀ u,0≤u→u≤x.1→s.f u<NEV:=fun u u0 u1=>by
  by_cases e:u=0
  ·subst e; unfold NEV; omega
  ·obtain ⟨c0,hc0,_⟩:=PC.any (x:=x) (a:=a) (t:=0) a0 a1 (by omega) (by omega)
   have:=key hc0 (by unfold NEV; omega) (0,u,100000) (turn_mem (by omega) u1).1 rfl
   simp only at this
   unfold NEV
   omega
 have hn:=hp.node h a0 a1
 refine ⟨?_,fin t hn.1 hn.2⟩
 clear hn
 induction hp with
 | nil=>exact h5
 | @snoc u c r hpu hr hu ih =>
  have hnu:=hpu.node h a0 a1
  have:=key hpu (fin u hnu.1 hnu.2) r hr hu
  omega
theorem FinS.dist {x:Int×List RR} (h:csheet x=0) {a:Int} {X:Ar 21 Int} {l:List (Int×Int)} {s:St} (hf:FinS x a X l s) (a0:0≤a) (a1:a≤x.1) {t:Int} (t0:0≤t) (t1:t≤x.1):Dist x a t (gA X t)∧gA X t=s.f t:=by
 obtain ⟨_,_,h3,_⟩:=csheet_ok h
 obtain ⟨c,hc,_⟩:=PC.any (x:=x) a0 a1 t0 t1
 have h1:=hf.le h a0 a1 hc
 have e:=hf.rep.f t t0 (by omega)
 rw [e]
 refine ⟨⟨?_,fun c hc=>(hf.le h a0 a1 hc).1⟩,rfl⟩
 rcases hf.jv.j1 t with h2 | h2
 ·rw [h2] at h1; omega
 ·exact h2
end Go.Proofs.YtfmelbioccbdoaaGreat
end
section
namespace Go.Proofs.YtfmelbioccbdoaaGreat
open Go Go.Md Go.RowKit
open BF (Rl St Back rel pass NEV)
open Classical in
noncomputable def D (x:Int×List RR) (a t:Int):Int:=if h:∃ d,Dist x a t d then Classical.choose h else 0
section
variable {x:Int×List RR} {a t u:Int} {F:Nat}
theorem D_of {d:Int} (h:Dist x a t d):D x a t=d:=by
 unfold D
 have he:∃ d,Dist x a t d:=⟨d,h⟩
 rw [dif_pos he]
 exact (Classical.choose_spec he).uni h
theorem find_D (h:csheet x=0) (hP:Pot x) (a0:0≤a) (a1:a≤x.1) (hF:100000000000000000≤F) :
  ∃ X l s,speed_net_find F ((x.1,x.2),whole x) a=some (X,l)∧FinS x a X l s∧∀ t,0≤t→t≤x.1→gA X t=D x a t∧ix X.l t=some (D x a t):=by
 obtain ⟨_,_,h3,_⟩:=csheet_ok h
 obtain ⟨X,l,s,e,hf⟩:=find_eq h hP a0 a1 hF
 refine ⟨X,l,s,e,hf,fun t t0 t1=>?_⟩
 have:=D_of (hf.dist h a0 a1 t0 t1).1
 exact ⟨this.symm,by rw [ixA (X:=X) t0 (by omega),this]⟩
theorem D_dist (h:csheet x=0) (hP:Pot x) (a0:0≤a) (a1:a≤x.1) (t0:0≤t) (t1:t≤x.1):Dist x a t (D x a t):=by
 obtain ⟨X,l,s,e,hf,hD⟩:=find_D (F:=100000000000000000) h hP a0 a1 (Nat.le_refl _)
 rw [← (hD t t0 t1).1]
 exact (hf.dist h a0 a1 t0 t1).1
theorem D_bd (h:csheet x=0) (hP:Pot x) (a0:0≤a) (a1:a≤x.1) (t0:0≤t) (t1:t≤x.1):-100000≤D x a t∧D x a t≤100000:=by
 obtain ⟨h1,h2⟩:=D_dist h hP a0 a1 t0 t1
 refine ⟨h1.low h hP a0 a1,?_⟩
 obtain ⟨c,hc,hc2⟩:=PC.any (x:=x) a0 a1 t0 t1
 have:=h2 c hc
 omega
theorem D_rule (h:csheet x=0) (hP:Pot x) (a0:0≤a) (a1:a≤x.1) {r:RR} (hr:r∈whole x):D x a r.2.1≤D x a r.1 + r.2.2:=by
 have hok:=whole_ok h r hr
 exact (D_dist h hP a0 a1 hok.2.2.1 hok.2.2.2.1).2 _ (.snoc (D_dist h hP a0 a1 hok.1 hok.2.1).1 hr rfl)
theorem D_rule' (h:csheet x=0) (hP:Pot x) (a0:0≤a) (a1:a≤x.1) {r:RR} (hr:r∈whole x):D x r.1 a≤r.2.2 + D x r.2.1 a:=by
 have hok:=whole_ok h r hr
 exact (D_dist h hP hok.1 hok.2.1 a0 a1).2 _ ((PC.one hr).trans (D_dist h hP hok.2.2.1 hok.2.2.2.1 a0 a1).1)
theorem D_self (h:csheet x=0) (hP:Pot x) (a0:0≤a) (a1:a≤x.1):D x a a=0:=by
 obtain ⟨h1,h2⟩:=D_dist h hP a0 a1 a0 a1
 have:=h2 0 .nil
 have:=h1.loop hP
 omega
theorem open_eq (h:csheet x=0) (hF:1000≤F):(Pot x→speed_open F x=some (⟨some ((x.1,x.2),whole x)⟩,0))∧(¬ Pot x→speed_open F x=some (⟨none⟩,21)):=by
 obtain ⟨h1,h2,h3,_⟩:=csheet_ok h
 unfold speed_open
 simp only [checkSheet_eq (x:=(x.1,x.2)) (show 100<F by omega),Option.bind_eq_bind,Option.bind_some]
 have e:csheet (x.1,x.2)=csheet x:=rfl
 rw [e,if_neg (by simp [h]),newNet_eq (x:=(x.1,x.2)) (by omega) (by simp; omega) h3 h1]
 have ew:whole (x.1,x.2)=whole x:=rfl
 rw [ew]
 simp only [Option.bind_some]
 rcases circle_eq h (F:=F) (by omega) with ⟨e1,hp⟩ | ⟨hn,e0,a,e1,hc⟩
 ·rw [e1]
  simp only [Option.bind_some]
  exact ⟨fun _=>by rw [if_neg (by simp)],fun h=>(h hp).elim⟩
 ·rw [e1]
  simp only [Option.bind_some]
  refine ⟨fun h=>(hn h).elim,fun _=>?_⟩
  rw [if_pos]
  cases a with
  | nil=>have:=hc.hd; simp at this
  | cons p a=>simp
theorem circ_eq (h:csheet x=0) (hF:1000≤F):(Pot x∧speed_Circle F x=some ([],5))∨(¬ Pot x∧∃ e a,speed_Circle F x=some (a.map (·.1),0)∧Circ x e a):=by
 obtain ⟨h1,h2,h3,_⟩:=csheet_ok h
 unfold speed_Circle
 simp only [checkSheet_eq (x:=(x.1,x.2)) (show 100<F by omega),Option.bind_eq_bind,Option.bind_some]
 have e:csheet (x.1,x.2)=csheet x:=rfl
 rw [e,if_neg (by simp [h]),newNet_eq (x:=(x.1,x.2)) (by omega) (by simp; omega) h3 h1]
 have ew:whole (x.1,x.2)=whole x:=rfl
 rw [ew]
 simp only [Option.bind_some]
 rcases circle_eq h (F:=F) (by omega) with ⟨e1,hp⟩ | ⟨hn,e0,a,e1,hc⟩
 ·left
  rw [e1]
  exact ⟨hp,rfl⟩
 ·right
  refine ⟨hn,e0,a,?_,hc⟩
  rw [e1]
  simp only [Option.bind_some]
  rw [if_neg]
  cases a with
  | nil=>have:=hc.hd; simp at this
  | cons p a=>simp; omega
noncomputable def endS (x:Int×List RR) (high:Bool) (k:Nat):Int:=if high=true then D x 0 ((k:Int) + 1) else -D x ((k:Int) + 1) 0
noncomputable def endsL (x:Int×List RR) (high:Bool):List Int:=(List.range x.1.toNat).map (endS x high)
theorem ends_l1 {y:Int→Option Int} {g:Nat→Int} {N:Nat} (hN:x.1=N) (h20:N≤20) (hy:∀ k:Nat,k<N→y ((k:Int) + 1)=some (g k)):∀ (m k:Nat),k≤N→N - k<m →
  speed_Ends_l1 F x y m ((List.range k).map g) (k:Int)=some ((List.range N).map g)
 | 0,k,_,h=>by omega
 | m + 1,k,hk,h=>by
  unfold speed_Ends_l1
  by_cases hlt:k<N
  ·rw [if_pos (by simp; omega),w64_in (by omega),hy k hlt]
   simp only [Option.bind_eq_bind,Option.bind_some]
   rw [app_some (by simp only [List.length_map,List.length_range,List.length_cons,List.length_nil]; omega)]
   simp only [Option.bind_some]
   have e:(List.range k).map g++[g k]=(List.range (k + 1)).map g:=by simp [List.range_succ]
   rw [e]
   exact ends_l1 hN h20 hy m (k + 1) (by omega) (by omega)
  ·have:k=N:=by omega
   subst this
   rw [if_neg (by simp; omega)]
theorem ends_eq (h:csheet x=0) (hF:100000000000000000≤F) (high:Bool):(Pot x→speed_Ends F x high=some (endsL x high,0))∧(¬ Pot x→speed_Ends F x high=some ([],21)):=by
 obtain ⟨h1,h2,h3,_⟩:=csheet_ok h
 obtain ⟨o1,o2⟩:=open_eq h (F:=F) (by omega)
 unfold speed_Ends
 refine ⟨fun hP=>?_,fun hP=>?_⟩
 ·rw [show speed_open F (x.1,x.2)=_ from o1 hP]
  simp only [Option.bind_eq_bind,Option.bind_some]
  obtain ⟨X,l,s,e,hf,hD⟩:=find_D h hP (a:=0) (by omega) (by omega) hF
  rw [if_neg (by simp),e]
  simp only [Option.bind_some]
  have key:∀ y:Int→Option Int,(∀ k:Nat,k<x.1.toNat→y ((k:Int) + 1)=some (endS x high k))→(speed_Ends_l1 F x y F [] 0).bind (fun z1=>some (z1,(0:Int)))=some (endsL x high,0):=by
   intro y hy
   have:=ends_l1 (F:=F) (x:=x) (N:=x.1.toNat) (by omega) (by omega) hy F 0 (Nat.zero_le _) (by omega)
   simp only [List.range_zero,List.map_nil,Int.natCast_zero] at this
   rw [this]
   rfl
  cases hh:high with
  | true =>
   rw [← hh]
   rw [if_neg (by simp [hh])]
   simp only [Option.bind_some]
   refine key _ fun k hk=>?_
   unfold speed_Ends_1 endS
   rw [(hD ((k:Int) + 1) (by omega) (by omega)).2,if_pos hh]
   rfl
  | false =>
   rw [← hh]
   rw [if_pos (by simp [hh])]
   simp only [Option.bind_some]
   refine key _ fun k hk=>?_
   obtain ⟨Y,l',s',e',hf',hD'⟩:=find_D h hP (a:=(k:Int) + 1) (by omega) (by omega) hF
   unfold speed_Ends_2 endS
   simp only [Option.bind_eq_bind,Option.bind_some]
   rw [e']
   simp only [Option.bind_some]
   have hb:=D_bd h hP (a:=(k:Int) + 1) (t:=0) (by omega) (by omega) (by omega) (by omega)
   rw [(hD' 0 (by omega) (by omega)).2,if_neg (by simp [hh])]
   simp only [Option.bind_some]
   rw [w64_in (by omega)]
   congr 1
   omega
 ·rw [show speed_open F (x.1,x.2)=_ from o2 hP]
  simp only [Option.bind_eq_bind,Option.bind_some]
  rw [if_pos (by simp)]
theorem endsL_len {high:Bool}:(endsL x high).length=x.1.toNat:=by simp [endsL]
theorem ofS_ends {high:Bool} (h:csheet x=0) (hP:Pot x) (t0:0≤t) (t1:t≤x.1):ofS (endsL x high) t=if high=true then D x 0 t else -D x t 0:=by
 obtain ⟨h1,h2,h3,_⟩:=csheet_ok h
 unfold ofS
 by_cases e:t=0
 ·subst e
  rw [if_pos rfl,D_self h hP (by omega) (by omega)]
  cases high <;> rfl
 ·rw [if_neg e]
  have e2:t - 1=((t - 1).toNat:Int):=by omega
  have hl:(t - 1).toNat<(endsL x high).length:=by rw [endsL_len]; omega
  rw [e2,ix_nat hl]
  have e3:(((t - 1).toNat:Nat):Int) + 1=t:=by omega
  simp only [endsL,List.getElem_map,List.getElem_range,endS,e3,Option.getD_some]
theorem ends_true (h:csheet x=0) (hP:Pot x) (high:Bool):cspeeds x (endsL x high)=0:=by
 obtain ⟨h1,h2,h3,_⟩:=csheet_ok h
 have hl:((endsL x high).length:Int)=x.1:=by rw [endsL_len]; omega
 rw [cs3 h hl,if_pos,if_pos]
 ·refine List.all_eq_true.2 fun r hr=>?_
  have hw:r∈whole x:=List.mem_append.2 (.inl hr)
  have hok:=whole_ok h r hw
  unfold keepsS
  rw [ofS_ends h hP hok.2.2.1 hok.2.2.2.1,ofS_ends h hP hok.1 hok.2.1]
  have b1:=D_bd h hP (a:=0) (t:=r.1) (by omega) (by omega) hok.1 hok.2.1
  have b2:=D_bd h hP (a:=r.1) (t:=0) hok.1 hok.2.1 (by omega) (by omega)
  have r1:=D_rule h hP (a:=0) (by omega) (by omega) hw
  have r2:=D_rule' h hP (a:=0) (by omega) (by omega) hw
  obtain ⟨_,_,_,_,_,m1,m2⟩:=hok
  cases high with
  | true =>
   simp only [if_true]
   rw [w64_in (by omega)]
   simpa using r1
  | false =>
   simp only [Bool.false_eq_true,if_false]
   rw [w64_in (by omega)]
   simp only [decide_eq_true_eq]
   omega
 ·refine List.all_eq_true.2 fun v hv=>?_
  obtain ⟨k,hk,rfl⟩:=List.mem_map.1 hv
  have hk:=List.mem_range.1 hk
  have b1:=D_bd h hP (a:=0) (t:=(k:Int) + 1) (by omega) (by omega) (by omega) (by omega)
  have b2:=D_bd h hP (a:=(k:Int) + 1) (t:=0) (by omega) (by omega) (by omega) (by omega)
  have z:=turn_mem (x:=x) (t:=(k:Int) + 1) (by omega) (by omega)
  have t1:=(D_dist h hP (a:=(k:Int) + 1) (t:=0) (by omega) (by omega) (by omega) (by omega)).2 _ (PC.one z.2)
  have t2:0≤D x 0 ((k:Int) + 1):=by
   have:=((D_dist h hP (a:=0) (t:=(k:Int) + 1) (by omega) (by omega) (by omega) (by omega)).1.trans (PC.one z.2)).loop hP
   simp only at this
   omega
  simp only at t1
  unfold endS inR
  simp only [Bool.and_eq_true,decide_eq_true_eq]
  cases high with
  | true=>simp only [if_true]; omega
  | false=>simp only [Bool.false_eq_true,if_false]; omega
theorem true_pot {s:List Int} (hs:cspeeds x s=0):csheet x=0∧(s.length:Int)=x.1∧(∀ v∈s,0≤v∧v≤100000)∧∀ r∈whole x,ofS s r.2.1≤ofS s r.1 + r.2.2:=by
 by_cases h:csheet x=0
 ·obtain ⟨h1,h2,h3,h4⟩:=csheet_ok h
  by_cases h5:(s.length:Int)=x.1
  ·rw [cs3 h h5] at hs
   split at hs
   ·rename_i h6
    split at hs
    ·rename_i h7
     have hv:∀ v∈s,0≤v∧v≤100000:=fun v hv=>by
      have:=List.all_eq_true.1 h6 v hv
      simpa [inR] using this
     have ho:∀ t,0≤t→t≤x.1→0≤ofS s t∧ofS s t≤100000:=fun t t0 t1=>by
      unfold ofS
      by_cases e:t=0
      ·rw [if_pos e]; omega
      ·rw [if_neg e]
       have e2:t - 1=((t - 1).toNat:Int):=by omega
       have hl:(t - 1).toNat<s.length:=by omega
       rw [e2,ix_nat hl]
       exact hv _ (List.getElem_mem hl)
     refine ⟨h,h5,hv,fun r hr=>?_⟩
     have hok:=whole_ok h r hr
     rcases List.mem_append.1 hr with hr2 | hr2
     ·have:=List.all_eq_true.1 h7 r hr2
      unfold keepsS at this
      have b1:=ho r.1 hok.1 hok.2.1
      obtain ⟨_,_,_,_,_,m1,m2⟩:=hok
      rw [w64_in (by omega)] at this
      simpa using this
     ·obtain ⟨t,ht,hr2⟩:=List.mem_flatMap.1 hr2
      have ht:=List.mem_range.1 ht
      have b1:=ho ((t:Int) + 1) (by omega) (by omega)
      have z:ofS s 0=0:=rfl
      simp only [List.mem_cons,List.not_mem_nil,or_false] at hr2
      rcases hr2 with rfl | rfl
      ·simp only [z]; omega
      ·simp only [z]; omega
    ·cases hs
   ·cases hs
  ·rw [cs2 h h5] at hs; cases hs
 ·rw [cs1 h] at hs; exact (h hs).elim
theorem linkE_lk (h:csheet x=0):∀ (a:List Rl) (q:Rl) (c:Int) (p:Option Int),(∀ r∈q::a,r∈Rs x)→Lk (q::a)→(p=none∨p=some q.2.1)→-1000000000≤c - 100000 * (a.length + 1)→c + 100000 * (a.length + 1)≤1000000000 →
  linkE c p ((q::a).map (·.2))=(c + sumM (q::a),0)
 | [],q,c,p,hm,_,hp,b1,b2=>by
  have hok:=Rs_ok h q (hm q (by simp))
  obtain ⟨_,_,_,_,_,m1,m2⟩:=hok
  simp only [List.length_nil] at b1 b2
  simp only [List.map_cons,List.map_nil]
  rw [linkE,if_pos hp,linkE,w64_in (by omega)]
  simp [sumM]
 | q'::a,q,c,p,hm,hl,hp,b1,b2=>by
  have hok:=Rs_ok h q (hm q (by simp))
  obtain ⟨_,_,_,_,_,m1,m2⟩:=hok
  simp only [List.length_cons] at b1 b2
  have ih:=linkE_lk h a q' (c + q.2.2.2) (some q.2.2.1) (fun r hr=>hm r (by simp [List.mem_cons.1 hr])) hl.2 (.inr (by rw [hl.1])) (by omega) (by omega)
  simp only [List.map_cons] at ih ⊢
  rw [linkE,if_pos hp,w64_in (by omega),ih]
  have e:sumM (q::q'::a)=q.2.2.2 + sumM (q'::a):=by simp [sumM]
  rw [e,Int.add_assoc]
end
end Go.Proofs.YtfmelbioccbdoaaGreat
end
section
namespace Go.Proofs.YtfmelbioccbdoaaGreat
open Go Go.Md Go.RowKit
abbrev FF:Nat:=100000000000000000
end Go.Proofs.YtfmelbioccbdoaaGreat
end
section
namespace Go.Proofs.YtfmelbioccbdoaaGreat
namespace FW
def NV:Int:=1099511627776
abbrev Mx:=Int→Int→Int
def mm (c s:Int):Int:=if (if s<c then s else c) > -NV then (if s<c then s else c) else -NV
def nw (g:Mx) (h i k:Int):Int:=if g i h<NV∧g h k<NV then mm (g i k) (g i h + g h k) else g i k
def up1 (h i k:Int) (g:Mx):Mx:=fun i' k'=>if i'=i∧k'=k then nw g h i k else g i' k'
def rowF (h i:Int) (ks:List Int) (g:Mx):Mx:=ks.foldl (fun g k=>up1 h i k g) g
def phF (h:Int) (ns is:List Int) (g:Mx):Mx:=is.foldl (fun g i=>rowF h i ns g) g
def fwF (ns hs:List Int) (g:Mx):Mx:=hs.foldl (fun g h=>phF h ns ns g) g
def Rg (g:Mx):Prop:=∀ i k,-NV≤g i k∧g i k≤NV
section
variable {g:Mx} {h:Int}
theorem nw_col (hg:Rg g) (h0:g h h=0) (i:Int):nw g h i h=g i h:=by
 unfold nw mm
 have:=hg i h
 rw [h0]
 split
 ·split <;> split <;> omega
 ·rfl
theorem nw_row (hg:Rg g) (h0:g h h=0) (k:Int):nw g h h k=g h k:=by
 unfold nw mm
 have:=hg h k
 rw [h0]
 split
 ·split <;> split <;> omega
 ·rfl
def Part (g:Mx) (h:Int) (P:Int→Int→Prop) (g':Mx):Prop:=∀ i k,(P i k→g' i k=nw g h i k)∧(¬ P i k→g' i k=g i k)
theorem Part.fix (hg:Rg g) (h0:g h h=0) {P:Int→Int→Prop} {g':Mx} (hp:Part g h P g'):(∀ i,g' i h=g i h)∧∀ k,g' h k=g h k:=by
 refine ⟨fun i=>?_,fun k=>?_⟩
 ·by_cases hc:P i h
  ·rw [(hp i h).1 hc,nw_col hg h0]
  ·exact (hp i h).2 hc
 ·by_cases hc:P h k
  ·rw [(hp h k).1 hc,nw_row hg h0]
  ·exact (hp h k).2 hc
theorem Part.up1 (hg:Rg g) (h0:g h h=0) {P:Int→Int→Prop} {g':Mx} (hp:Part g h P g') {i k:Int} (hn:¬ P i k):Part g h (fun a b=>P a b∨(a=i∧b=k)) (up1 h i k g'):=by
 obtain ⟨h1,h2⟩:=hp.fix hg h0
 have e:nw g' h i k=nw g h i k:=by
  unfold nw
  rw [h1 i,h2 k,(hp i k).2 hn]
 intro a b
 unfold FW.up1
 by_cases hab:a=i∧b=k
 ·rw [if_pos hab]
  refine ⟨fun _=>by rw [e,hab.1,hab.2],fun hno=>(hno (.inr hab)).elim⟩
 ·rw [if_neg hab]
  refine ⟨fun hc=>?_,fun hc=>(hp a b).2 fun hc2=>hc (.inl hc2)⟩
  rcases hc with hc | hc
  ·exact (hp a b).1 hc
  ·exact (hab hc).elim
theorem Part.row (hg:Rg g) (h0:g h h=0) {i:Int}:∀ (ks:List Int) (P:Int→Int→Prop) (g':Mx),ks.Nodup→(∀ k∈ks,¬ P i k)→Part g h P g'→Part g h (fun a b=>P a b∨(a=i∧b∈ks)) (rowF h i ks g')
 | [],P,g',_,_,hp=>by simpa [rowF] using hp
 | k::ks,P,g',hn,hk,hp=>by
  simp only [List.nodup_cons] at hn
  have h1:=hp.up1 hg h0 (hk k (by simp))
  have h2:=Part.row hg h0 ks _ _ hn.2 (fun q hq hc=>by
   rcases hc with hc | ⟨_,hc⟩
   ·exact hk q (by simp [hq]) hc
   ·exact hn.1 (hc ▸ hq)) h1
  have e:(fun a b=>(P a b∨(a=i∧b=k))∨(a=i∧b∈ks))=fun a b=>P a b∨(a=i∧b∈k::ks):=by
   funext a b
   simp only [List.mem_cons,eq_iff_iff]
   constructor
   ·rintro ((h | ⟨h1,h2⟩) | ⟨h1,h2⟩)
    ·exact .inl h
    ·exact .inr ⟨h1,.inl h2⟩
    ·exact .inr ⟨h1,.inr h2⟩
   ·rintro (h | ⟨h1,h2 | h2⟩)
    ·exact .inl (.inl h)
    ·exact .inl (.inr ⟨h1,h2⟩)
    ·exact .inr ⟨h1,h2⟩
  rw [e] at h2
  exact h2
end
inductive PI (R:List RR) (m a:Int):Int→Int→Prop
 | one {r:RR} (hr:r∈R) (ha:r.1=a):PI R m a r.2.1 r.2.2
 | snoc {u c:Int} {r:RR} (h:PI R m a u c) (hu:u<m) (hr:r∈R) (he:r.1=u):PI R m a r.2.1 (c + r.2.2)
theorem PI.split {R:List RR} {m a:Int} (hloop:∀ c,PI R m m m c→0≤c) {t c:Int} (h:PI R (m + 1) a t c):PI R m a t c∨∃ c1 c2,PI R m a m c1∧PI R m m t c2∧c1 + c2≤c:=by
 induction h with
 | one hr ha=>exact .inl (.one hr ha)
 | @snoc u c r h hu hr he ih =>
  by_cases hum:u=m
  ·subst hum
   rcases ih with ih | ⟨c1,c2,h1,h2,h3⟩
   ·exact .inr ⟨c,r.2.2,ih,.one hr he,Int.le_refl _⟩
   ·have:=hloop c2 h2
    exact .inr ⟨c1,r.2.2,h1,.one hr he,by omega⟩
  ·have hum:u<m:=by omega
   rcases ih with ih | ⟨c1,c2,h1,h2,h3⟩
   ·exact .inl (.snoc ih hum hr he)
   ·exact .inr ⟨c1,c2 + r.2.2,h1,.snoc h2 hum hr he,by omega⟩
def In (n:Int) (i:Int):Prop:=0≤i∧i<n
structure Ok (R:List RR) (n m b:Int) (g:Mx):Prop where
 rg:Rg g
 dg:∀ i,In n i→g i i=0
 bd:∀ i k,In n i→In n k→g i k=NV∨(-b≤g i k∧g i k≤b)
 un:∀ a t c,In n a→In n t→PI R m a t c→g a t≤c∧g a t<NV
 so:∀ i k,In n i→In n k→g i k=NV∨PC R i k (g i k)
def So (x:Int×List RR) (g:Mx):Prop:=∀ i k,(0≤i∧i≤x.1)→(0≤k∧k≤x.1)→g i k=NV∨PC (whole x) i k (g i k)
theorem So.up1 {x:Int×List RR} (hx:csheet x=0) (hP:Pot x) {g:Mx} (h:So x g) {q i k:Int} (hq:0≤q∧q≤x.1) (hi:0≤i∧i≤x.1) (hk:0≤k∧k≤x.1):So x (up1 q i k g):=by
 intro a b ha hb
 unfold FW.up1
 split
 ·rename_i e
  rw [e.1,e.2]
  unfold nw
  split
  ·rename_i hlt
   have s1:PC (whole x) i q (g i q):=by
    rcases h i q hi hq with s | s
    ·omega
    ·exact s
   have s2:PC (whole x) q k (g q k):=by
    rcases h q k hq hk with s | s
    ·omega
    ·exact s
   have s3:=s1.trans s2
   have l3:=s3.low hx hP hi.1 hi.2
   unfold mm
   by_cases hc:g i q + g q k<g i k
   ·rw [if_pos hc,if_pos (by unfold NV; omega)]
    exact .inr s3
   ·rw [if_neg hc]
    rcases h i k hi hk with s | s
    ·rw [s,if_pos (by unfold NV; omega)]
     exact .inl rfl
    ·have:=s.low hx hP hi.1 hi.2
     rw [if_pos (by unfold NV; omega)]
     exact .inr s
  ·exact h i k hi hk
 ·exact h a b ha hb
theorem So.all {x:Int×List RR} (hx:csheet x=0) (hP:Pot x) {ns:List Int} (hm:∀ i∈ns,0≤i∧i≤x.1) {g:Mx} (h:So x g):So x (fwF ns ns g):=by
 have key:∀ {β:Type} {step:Mx→β→Mx} (l:List β),(∀ g,∀ b∈l,So x g→So x (step g b))→∀ g,So x g→So x (l.foldl step g):=by
  intro β step l
  induction l with
  | nil=>intro _ g hg; exact hg
  | cons b l ih =>
   intro hs g hg
   exact ih (fun g c hc=>hs g c (by simp [hc])) _ (hs g b (by simp) hg)
 refine key ns (fun g q hq hg=>?_) g h
 refine key ns (fun g i hi hg=>?_) g hg
 exact key ns (fun g k hk hg=>hg.up1 hx hP (hm q hq) (hm i hi) (hm k hk)) g hg
end FW
end Go.Proofs.YtfmelbioccbdoaaGreat
end
section
namespace Go.Proofs.YtfmelbioccbdoaaGreat
open Go Go.Md Go.RowKit
open FW (Mx up1 rowF phF fwF nw Rg In Ok So)
structure RepM (n:Nat) (M:List (List Int)) (g:Mx):Prop where
 len:M.length=n
 row:∀ i:Nat,i<n→∃ r,M[i]?=some r∧r.length=n∧∀ k:Nat,k<n→r[k]?=some (g i k)
theorem RepM.at {n:Nat} {M:List (List Int)} {g:Mx} (h:RepM n M g) {i:Int} (i0:0≤i) (i1:i<n):∃ r,ix M i=some r∧r.length=n∧∀ k:Int,0≤k→k<n→ix r k=some (g i k):=by
 obtain ⟨r,h1,h2,h3⟩:=h.row i.toNat (by omega)
 refine ⟨r,by unfold ix; rw [if_pos i0]; exact h1,h2,fun k k0 k1=>?_⟩
 unfold ix
 rw [if_pos k0,h3 k.toNat (by omega)]
 have e1:((i.toNat:Nat):Int)=i:=by omega
 have e2:((k.toNat:Nat):Int)=k:=by omega
 rw [e1,e2]
section
variable {n:Nat} {F:Nat}
def g0:Mx:=fun i k=>if i=k then 0 else FW.NV
end
section
variable {x:Int×List RR} {F:Nat}
end
end Go.Proofs.YtfmelbioccbdoaaGreat
end
section
namespace Go.Proofs.YtfmelbioccbdoaaGreat
open Go Go.Md Go.RowKit
open BF (Rl St Back rel pass NEV)
section
variable {x:Int×List RR} {F:Nat} {a b t:Int}
open Classical in
noncomputable def spanS (x:Int×List RR) (t:Int):(Int×Int)×Int :=
 if csheet x≠0 then ((0,0),csheet x) else if inR 1 x.1 t=true then (if Pot x then ((-D x t 0,D x 0 t),0) else ((0,0),21)) else ((0,0),3)
theorem sp1 (h:csheet x≠0):spanS x t=((0,0),csheet x):=by unfold spanS; rw [if_pos h]
theorem sp2 (h:csheet x=0) (ht:inR 1 x.1 t=false):spanS x t=((0,0),3):=by unfold spanS; rw [if_neg (fun e=>e h),if_neg (by rw [ht]; simp)]
theorem sp3 (h:csheet x=0) (ht:inR 1 x.1 t=true) (hP:Pot x):spanS x t=((-D x t 0,D x 0 t),0):=by unfold spanS; rw [if_neg (fun e=>e h),if_pos ht,if_pos hP]
theorem sp4 (h:csheet x=0) (ht:inR 1 x.1 t=true) (hP:¬ Pot x):spanS x t=((0,0),21):=by unfold spanS; rw [if_neg (fun e=>e h),if_pos ht,if_neg hP]
theorem span_eq (hF:100000000000000000≤F):speed_Span F x t=some (spanS x t):=by
 unfold speed_Span
 have ex:(x.1,x.2)=x:=rfl
 simp only [ex,checkSheet_eq (show 100<F by omega),Option.bind_eq_bind,Option.bind_some]
 by_cases h:csheet x=0
 ·obtain ⟨h1,h2,h3,_⟩:=csheet_ok h
  rw [if_neg (by simp [h]),turns_eq (by simp; omega) (by simp)]
  simp only [Option.bind_some,List.all_cons,List.all_nil,Bool.and_true]
  cases ht:inR 1 x.1 t with
  | false=>rw [sp2 h ht]; rfl
  | true =>
   have ht':=ht
   simp only [inR,Bool.and_eq_true,decide_eq_true_eq] at ht'
   rw [if_neg (by simp)]
   obtain ⟨o1,o2⟩:=open_eq h (F:=F) (by omega)
   by_cases hP:Pot x
   ·rw [o1 hP,sp3 h ht hP]
    simp only [Option.bind_some]
    obtain ⟨X,l,s,e,_,hD⟩:=find_D h hP (a:=0) (by omega) (by omega) hF
    obtain ⟨Y,l',s',e',_,hD'⟩:=find_D h hP (a:=t) (by omega) (by omega) hF
    have hb:=D_bd h hP (a:=t) (t:=0) (by omega) (by omega) (by omega) (by omega)
    rw [if_neg (by simp)]
    have ex2:((x.1,x.2),whole x)=(x,whole x):=rfl
    rw [ex2] at e e'
    rw [e]
    simp only [Option.bind_some]
    rw [e']
    simp only [Option.bind_some]
    rw [(hD' 0 (by omega) (by omega)).2]
    simp only [Option.bind_some]
    rw [(hD t (by omega) (by omega)).2]
    simp only [Option.bind_some]
    rw [w64_in (by omega),Int.zero_sub]
   ·rw [o2 hP,sp4 h ht hP]
    simp only [Option.bind_some]
    rw [if_pos (by simp)]
 ·rw [if_pos (by simp [h]),sp1 h]
theorem not_inR {lo hi n:Int}:((decide (n<lo)) || (decide (hi<n)))=!inR lo hi n:=by
 unfold inR
 by_cases h1:n<lo <;> by_cases h2:hi<n <;> simp [h1,h2] <;> omega
open Classical in
noncomputable def costS (x:Int×List RR) (a b:Int):Int×Int :=
 if csheet x≠0 then (0,csheet x) else if (inR 0 x.1 a && inR 0 x.1 b)=true then (if Pot x then (D x a b,0) else (0,21)) else (0,2)
def cway (x:Int×List RR) (a b:Int) (way:List Int):Int×Int :=
 if csheet x≠0 then (0,csheet x) else if (inR 0 x.1 a && inR 0 x.1 b)=true then
  (if 60<way.length then (0,6) else if (chainS (whole x) way).2≠0 then (0,(chainS (whole x) way).2) else
   if way.length=0 then (if a≠b then (0,16) else (0,0)) else if firstF (rsOf (whole x) way)≠a∨lastT (rsOf (whole x) way)≠b then (0,16) else ((chainS (whole x) way).1,0))
 else (0,2)
end
end Go.Proofs.YtfmelbioccbdoaaGreat
end
section
namespace Go.Proofs.YtfmelbioccbdoaaGreat
open Go Go.Md Go.RowKit
open BF (Rl St Back)
section
variable {x:Int×List RR} {a b t:Int} {way:List Int} {F:Nat}
theorem cw1 (h:csheet x≠0):cway x a b way=(0,csheet x):=by unfold cway; rw [if_pos h]
theorem cw2 (h:csheet x=0) (h2:(inR 0 x.1 a && inR 0 x.1 b)=false):cway x a b way=(0,2):=by unfold cway; rw [if_neg (fun e=>e h),if_neg (by rw [h2]; simp)]
theorem cw3 (h:csheet x=0) (h2:(inR 0 x.1 a && inR 0 x.1 b)=true) (h3:60<way.length):cway x a b way=(0,6):=by
 unfold cway; rw [if_neg (fun e=>e h),if_pos h2,if_pos h3]
theorem cw4 (h:csheet x=0) (h2:(inR 0 x.1 a && inR 0 x.1 b)=true) (h3:¬ 60<way.length) (h4:(chainS (whole x) way).2≠0):cway x a b way=(0,(chainS (whole x) way).2):=by
 unfold cway; rw [if_neg (fun e=>e h),if_pos h2,if_neg h3,if_pos h4]
theorem cw5 (h:csheet x=0) (h2:(inR 0 x.1 a && inR 0 x.1 b)=true) (h4:way=[]):cway x a b way=if a≠b then (0,16) else (0,0):=by
 subst h4
 unfold cway; rw [if_neg (fun e=>e h),if_pos h2,if_neg (by simp),if_neg (by simp [chainS,inAll,rsOf,linkE]),if_pos (show ([]:List Int).length=0 from rfl)]
theorem cw6 (h:csheet x=0) (h2:(inR 0 x.1 a && inR 0 x.1 b)=true) (h3:¬ 60<way.length) (h4:(chainS (whole x) way).2=0) (h5:way.length≠0):cway x a b way=if firstF (rsOf (whole x) way)≠a∨lastT (rsOf (whole x) way)≠b then (0,16) else ((chainS (whole x) way).1,0):=by
 unfold cway; rw [if_neg (fun e=>e h),if_pos h2,if_neg h3,if_neg (fun e=>e h4),if_neg h5]
theorem ends_ix (hin:inAll (whole x) way=true) (h5:way.length≠0) (hl:way.length<1000000):(ix way 0 >>= fun i=>ix (whole x) i)=some ((rsOf (whole x) way)[0]'(by simp [rsOf]; omega))∧firstF (rsOf (whole x) way)=((rsOf (whole x) way)[0]'(by simp [rsOf]; omega)).1 ∧
  (ix way (w64 ((way.length:Int) - 1)) >>= fun i=>ix (whole x) i)=some ((rsOf (whole x) way)[way.length - 1]'(by simp [rsOf]; omega))∧lastT (rsOf (whole x) way)=((rsOf (whole x) way)[way.length - 1]'(by simp [rsOf]; omega)).2.1:=by
 have hrl:(rsOf (whole x) way).length=way.length:=by simp [rsOf]
 have e1:w64 ((way.length:Int) - 1)=((way.length - 1:Nat):Int):=by rw [w64_in (by omega)]; omega
 have z0:ix way 0=some (way[0]'(by omega)):=ix_nat (k:=0) (by omega)
 refine ⟨?_,firstF_get _,?_,?_⟩
 ·rw [z0]
  simp only [Option.bind_eq_bind,Option.bind_some,ix_rs hin (show 0<way.length by omega)]
 ·rw [e1,ix_nat (show way.length - 1<way.length by omega)]
  simp only [Option.bind_eq_bind,Option.bind_some,ix_rs hin (show way.length - 1<way.length by omega)]
 ·unfold lastT
  rw [List.getLast?_eq_getElem?,List.getElem?_eq_getElem (by omega)]
  simp [hrl]
theorem chain_in (h4:(chainS (whole x) way).2=0):inAll (whole x) way=true:=by
 unfold chainS at h4
 split at h4
 ·assumption
 ·cases h4
theorem refWay_eq (hF:1000≤F) (hl:way.length<1000000):ref01_CheckWay F x a b way=some (cway x a b way):=by
 unfold ref01_CheckWay
 have ex:(x.1,x.2)=x:=rfl
 simp only [ex,refSheet_eq (show 100<F by omega),Option.bind_eq_bind,Option.bind_some]
 by_cases h:csheet x=0
 ·obtain ⟨h1,h2,h3,_⟩:=csheet_ok h
  have e1:((((decide (a<0)) || (decide (x.1<a))) || (decide (b<0))) || (decide (x.1<b)))=!(inR 0 x.1 a && inR 0 x.1 b):=by
   rw [Bool.not_and,← not_inR,← not_inR,Bool.or_assoc]
  rw [if_neg (by simp [h]),e1]
  cases h4:(inR 0 x.1 a && inR 0 x.1 b) with
  | false=>rw [cw2 h h4]; rfl
  | true =>
   rw [if_neg (by simp)]
   by_cases h5:60<way.length
   ·rw [if_pos (by simp; omega),cw3 h h4 h5]
   ·rw [if_neg (by simp; omega),chain_eq h hF (by omega)]
    simp only [Option.bind_some]
    by_cases h6:(chainS (whole x) way).2=0
    ·rw [if_neg (by simp [h6])]
     by_cases h7:way.length=0
     ·have:way=[]:=List.eq_nil_of_length_eq_zero h7
      subst this
      rw [cw5 h h4 rfl]
      by_cases hab:a=b <;> simp [hab]
     ·rw [if_neg (by rw [decide_eq_true_eq]; omega),cw6 h h4 h5 h6 h7,all_eq (by omega) (by omega) h3 h1]
      obtain ⟨c1,c2,c3,c4⟩:=ends_ix (chain_in h6) h7 hl
      simp only [Option.bind_eq_bind] at c1 c3
      simp only [Option.bind_some]
      rw [← Option.bind_assoc,c1]
      simp only [Option.bind_some]
      rw [← c2]
      by_cases h8:firstF (rsOf (whole x) way)=a
      ·rw [if_neg (by simp [h8]),← Option.bind_assoc,c3]
       simp only [Option.bind_some]
       rw [← c4]
       by_cases h9:lastT (rsOf (whole x) way)=b
       ·rw [if_neg (show ¬ (firstF (rsOf (whole x) way)≠a∨lastT (rsOf (whole x) way)≠b) by simp [h8,h9]),if_neg (by simp [h9])]
       ·rw [if_pos (show firstF (rsOf (whole x) way)≠a∨lastT (rsOf (whole x) way)≠b from .inr h9),if_pos (by simp [h9])]
      ·rw [if_pos (by simp [h8]),if_pos (.inl h8)]
       rfl
    ·rw [if_pos (by simp [h6]),cw4 h h4 h5 h6]
 ·rw [if_pos (by simp [h]),cw1 h]
theorem mget_del {l:List (Int×Int)} {k t:Int} (h:t≠k):mget 0 (mdel l k) t=mget 0 l t:=by
 induction l with
 | nil=>rfl
 | cons p l ih =>
  obtain ⟨c,d⟩:=p
  simp only [mdel]
  by_cases e:c=k
  ·rw [if_pos e]
   simp only [mget]
   rw [if_neg (fun e2=>h (e2.symm.trans e))]
  ·rw [if_neg e]
   simp only [mget,ih]
theorem jv_back {s:St} (hj:Jv x a s) {p:Int→Int} (hp:∀ r∈whole x,p r.2.1≤p r.1 + r.2.2) {v u c:Int} {n:Nat} (hb:Back s.b v u c n):p v≤p u + c:=by
 induction hb with
 | @one v q hq =>
  obtain ⟨h1,h2,_⟩:=hj.j2 v q hq
  have:=hp _ (en_mem h1).1
  rw [h2] at this
  exact this
 | @more v u c n q hq _ ih =>
  obtain ⟨h1,h2,_⟩:=hj.j2 v q hq
  have:=hp _ (en_mem h1).1
  rw [h2] at this
  omega
structure WayTo (x:Int×List RR) (a b:Int) (al:List Rl):Prop where
 lk:Lk al
 mem:∀ p∈al,p∈Rs x
 ends:(al=[]∧a=b)∨(al.head?.map (fun p=>p.2.1)=some a∧al.getLast?.map (fun p=>p.2.2.1)=some b)
 len:al.length≤21
theorem way_l1 (h:csheet x=0) (hP:Pot x) (a0:0≤a) (a1:a≤x.1) {X:Ar 21 Int} {l:List (Int×Int)} {s:St} (hf:FinS x a X l s):∀ (m:Nat) (M:List Int) (l':List (Int×Int)) (u:Int) (al:List Rl),
  M.Nodup→(∀ w∈M,0≤w∧w≤x.1∧∃ c n,Back s.b w u c n)→al.length=M.length→0≤u→u≤x.1→(∀ t,t ∉ M→mget 0 l' t=mget 0 l t)→x.1 + 1 - M.length<m →
  Lk al→(∀ p∈al,p∈Rs x)→((al=[]∧u=b)∨(al.head?.map (fun p=>p.2.1)=some u∧al.getLast?.map (fun p=>p.2.2.1)=some b))→s.f b=s.f u + sumM al →
  ∃ al',speed_Way_l1 (whole x) a m ((al.map (·.1)).reverse) u l'=some ((al'.map (·.1)).reverse)∧WayTo x a b al'∧s.f b=s.f a + sumM al'
 | 0,M,l',u,al,hn,hM,hlen,u0,u1,hl,hm,hlk,hmem,hends,hs=>by
  have:=nodup_len (x.1 + 1).toNat M hn (fun w hw=>by have:=hM w hw; omega)
  omega
 | m + 1,M,l',u,al,hn,hM,hlen,u0,u1,hl,hm,hlk,hmem,hends,hs=>by
  obtain ⟨_,_,h3,_⟩:=csheet_ok h
  have hMl:=nodup_len (x.1 + 1).toNat M hn (fun w hw=>by have:=hM w hw; omega)
  unfold speed_Way_l1
  by_cases hu:u=a
  ·subst hu
   rw [if_neg (by simp)]
   exact ⟨al,rfl,⟨hlk,hmem,hends,by omega⟩,hs⟩
  ·rw [if_pos (by simp [hu])]
   have huM:u ∉ M:=fun hw=>by
    obtain ⟨_,_,c,n,hb⟩:=hM u hw
    have h1:=hf.jv.j3 u c n hb
    obtain ⟨p,hp⟩:=hP
    have h2:=jv_back hf.jv hp hb
    omega
   obtain ⟨c,hc,_⟩:=PC.any (x:=x) a0 a1 u0 u1
   have hne:=(hf.le h a0 a1 hc).2
   have hb:=hf.jv.j4 u hu (by omega)
   obtain ⟨p,hp⟩:=Option.ne_none_iff_exists'.1 hb
   obtain ⟨p1,p2,p3,p4⟩:=hf.jv.j2 u p hp
   have hok:=Rs_ok h p p1
   have hcn:=hf.fix p p1
   have e3:s.f p.2.1 + p.2.2.2=s.f u:=by
    unfold BF.cnd at hcn
    simp only [not_and,Int.not_lt] at hcn
    have:=hcn p4
    rw [p2] at this
    omega
   have ef:speed_from (whole x) l' u=some (p.1,p.2.1):=by
    unfold speed_from
    rw [if_pos (key_ok u0 (by omega)),hl u huM,hf.rep.b u p hp,(en_mem p1).2.1]
    rfl
   rw [ef]
   simp only [Option.bind_eq_bind,Option.bind_some]
   rw [app_some (by simp only [List.length_reverse,List.length_map,List.length_cons,List.length_nil]; omega)]
   simp only [Option.bind_some]
   have eo:(al.map (·.1)).reverse++[p.1]=((p::al).map (·.1)).reverse:=by simp
   rw [eo]
   have hlk':Lk (p::al):=by
    cases al with
    | nil=>trivial
    | cons q al =>
     rcases hends with ⟨e,_⟩ | ⟨e,_⟩
     ·cases e
     ·simp only [List.head?_cons,Option.map_some,Option.some.injEq] at e
      exact ⟨by rw [p2,e],hlk⟩
   have hl2:(p::al).getLast?.map (fun p=>p.2.2.1)=some b:=by
    rcases hends with ⟨rfl,e⟩ | ⟨e1,e2⟩
    ·simp [p2,e]
    ·cases al with
     | nil=>simp at e1
     | cons q al=>rw [List.getLast?_cons_cons]; exact e2
   refine way_l1 h hP a0 a1 hf m (u::M) _ p.2.1 (p::al) (by simp [hn,huM]) (fun w hw=>?_) (by simp [hlen]) hok.1 hok.2.1 (fun t ht=>?_) (by simp only [List.length_cons]; omega) hlk' (fun q hq=>?_) (.inr ⟨rfl,hl2⟩) ?_
   ·rcases List.mem_cons.1 hw with rfl | hw
    ·exact ⟨u0,u1,_,_,.one hp⟩
    ·obtain ⟨w0,w1,c,n,hb⟩:=hM w hw
     exact ⟨w0,w1,_,_,hb.snoc hp⟩
   ·simp only [List.mem_cons,not_or] at ht
    rw [mget_del ht.1]
    exact hl t ht.2
   ·rcases List.mem_cons.1 hq with rfl | hq
    ·exact p1
    ·exact hmem q hq
   ·have:sumM (p::al)=p.2.2.2 + sumM al:=by simp [sumM]
    omega
theorem inAll_names {al:List Rl} (hm:∀ p∈al,p∈Rs x):inAll (whole x) (al.map (·.1))=true∧rsOf (whole x) (al.map (·.1))=al.map (·.2):=by
 refine ⟨List.all_eq_true.2 fun i hi=>?_,?_⟩
 ·obtain ⟨p,hp,rfl⟩:=List.mem_map.1 hi
  have:=en_mem (hm p hp)
  simp only [Bool.and_eq_true,decide_eq_true_eq]
  exact ⟨this.2.2.1,this.2.2.2⟩
 ·unfold rsOf
  rw [List.map_map]
  refine List.map_congr_left fun p hp=>?_
  have:=(en_mem (hm p hp)).2.1
  simp [this]
theorem chain_names (h:csheet x=0) {al:List Rl} (hm:∀ p∈al,p∈Rs x) (hlk:Lk al) (hlen:al.length≤60):chainS (whole x) (al.map (·.1))=(sumM al,0):=by
 obtain ⟨e1,e2⟩:=inAll_names hm
 unfold chainS
 rw [if_pos e1,e2]
 cases al with
 | nil=>rfl
 | cons q al =>
  simp only [List.length_cons] at hlen
  rw [linkE_lk h al q 0 none hm hlk (.inl rfl) (by omega) (by omega),Int.zero_add]
theorem first_names {al:List Rl}:firstF (al.map (·.2))=(al.head?.map (fun p=>p.2.1)).getD 0:=by cases al <;> rfl
theorem last_names {al:List Rl}:lastT (al.map (·.2))=(al.getLast?.map (fun p=>p.2.2.1)).getD 0:=by
 unfold lastT
 rw [List.getLast?_map]
 cases al.getLast? <;> rfl
theorem wayTo_cway (h:csheet x=0) (a0:0≤a) (a1:a≤x.1) (b0:0≤b) (b1:b≤x.1) {al:List Rl} (hw:WayTo x a b al):cway x a b (al.map (·.1))=(sumM al,0):=by
 have hab:(inR 0 x.1 a && inR 0 x.1 b)=true:=by simp [inR]; omega
 have hlen:=hw.len
 have hch:=chain_names h hw.mem hw.lk (by omega)
 rcases hw.ends with ⟨rfl,rfl⟩ | ⟨e1,e2⟩
 ·rw [show List.map (fun x:Rl=>x.1) []=([]:List Int) from rfl,cw5 h hab rfl,if_neg (by simp)]
  rfl
 ·have h0:(al.map (·.1)).length≠0:=by cases al with
   | nil=>simp at e1
   | cons q al=>simp
  rw [cw6 h hab (by simp; omega) (by rw [hch]) h0,hch,if_neg]
  rw [(inAll_names hw.mem).2,first_names,last_names,e1,e2]
  simp
theorem way_eq (h:csheet x=0) (hP:Pot x) (a0:0≤a) (a1:a≤x.1) (b0:0≤b) (b1:b≤x.1) (hF:100000000000000000≤F) :
  ∃ names:List Int,speed_Way F x a b=some (names,D x a b,0)∧cway x a b names=(D x a b,0)∧names.length≤60:=by
 obtain ⟨h1,h2,h3,_⟩:=csheet_ok h
 obtain ⟨o1,_⟩:=open_eq h (F:=F) (by omega)
 obtain ⟨X,l,s,e,hf,hD⟩:=find_D h hP a0 a1 hF
 obtain ⟨al,e1,hw,e2⟩:=way_l1 h hP a0 a1 hf (b:=b) F [] l b [] (by simp) (by simp) rfl b0 b1 (fun t _=>rfl) (by simp; omega) trivial (by simp) (.inl ⟨rfl,rfl⟩) (by simp [sumM])
 have fa:=hf.dist h a0 a1 a0 a1
 have fb:=hf.dist h a0 a1 b0 b1
 have da:=hD a a0 a1
 have db:=hD b b0 b1
 rw [fa.2] at da
 rw [fb.2] at db
 have dd:=D_self h hP a0 a1
 have hs:sumM al=D x a b:=by omega
 have hlen:=hw.len
 refine ⟨al.map (·.1),?_,?_,by simp; omega⟩
 ·unfold speed_Way
  have ex:(x.1,x.2)=x:=rfl
  simp only [ex,checkSheet_eq (show 100<F by omega),Option.bind_eq_bind,Option.bind_some]
  rw [if_neg (by simp [h]),turns_eq (by simp; omega) (by simp)]
  have hab:(inR 0 x.1 a && inR 0 x.1 b)=true:=by simp [inR]; omega
  simp only [Option.bind_some,List.all_cons,List.all_nil,Bool.and_true,hab]
  rw [if_neg (by simp),show speed_open F x=_ from o1 hP]
  simp only [Option.bind_some]
  rw [if_neg (by simp)]
  rw [show speed_net_find F ((x.1,x.2),whole x) a=_ from e]
  simp only [Option.bind_some]
  simp only [List.map_nil,List.reverse_nil] at e1
  rw [e1]
  simp only [Option.bind_some]
  rw [reverse_eq (by simp; omega) (by simp; omega),List.reverse_reverse]
  simp only [Option.bind_some]
  rw [db.2]
  rfl
 ·rw [wayTo_cway h a0 a1 b0 b1 hw,hs]
theorem way_no (h:csheet x≠0) (hF:1000≤F):speed_Way F x a b=some ([],0,csheet x):=by
 unfold speed_Way
 have ex:(x.1,x.2)=x:=rfl
 simp only [ex,checkSheet_eq (show 100<F by omega),Option.bind_eq_bind,Option.bind_some]
 rw [if_pos (by simp [h])]
theorem way_out (h:csheet x=0) (hab:(inR 0 x.1 a && inR 0 x.1 b)=false) (hF:1000≤F):speed_Way F x a b=some ([],0,2):=by
 unfold speed_Way
 have ex:(x.1,x.2)=x:=rfl
 simp only [ex,checkSheet_eq (show 100<F by omega),Option.bind_eq_bind,Option.bind_some]
 rw [if_neg (by simp [h]),turns_eq (by simp; omega) (by simp)]
 simp only [Option.bind_some,List.all_cons,List.all_nil,Bool.and_true,hab]
 rfl
theorem way_circ (h:csheet x=0) (hab:(inR 0 x.1 a && inR 0 x.1 b)=true) (hP:¬ Pot x) (hF:1000≤F):speed_Way F x a b=some ([],0,21):=by
 obtain ⟨_,o2⟩:=open_eq h hF
 unfold speed_Way
 have ex:(x.1,x.2)=x:=rfl
 simp only [ex,checkSheet_eq (show 100<F by omega),Option.bind_eq_bind,Option.bind_some]
 rw [if_neg (by simp [h]),turns_eq (by simp; omega) (by simp)]
 simp only [Option.bind_some,List.all_cons,List.all_nil,Bool.and_true,hab]
 rw [if_neg (by simp),show speed_open F x=_ from o2 hP]
 rfl
end
end Go.Proofs.YtfmelbioccbdoaaGreat
end
section
namespace Go.Proofs.YtfmelbioccbdoaaGreat
open Go Go.Md Go.RowKit
section
variable {x:Int×List RR} {F:Nat} {a b t:Int}
theorem co1 (h:csheet x≠0):costS x a b=(0,csheet x):=by unfold costS; rw [if_pos h]
theorem co2 (h:csheet x=0) (hab:(inR 0 x.1 a && inR 0 x.1 b)=false):costS x a b=(0,2):=by unfold costS; rw [if_neg (fun e=>e h),if_neg (by rw [hab]; simp)]
theorem co3 (h:csheet x=0) (hab:(inR 0 x.1 a && inR 0 x.1 b)=true) (hP:Pot x):costS x a b=(D x a b,0):=by unfold costS; rw [if_neg (fun e=>e h),if_pos hab,if_pos hP]
theorem co4 (h:csheet x=0) (hab:(inR 0 x.1 a && inR 0 x.1 b)=true) (hP:¬ Pot x):costS x a b=(0,21):=by unfold costS; rw [if_neg (fun e=>e h),if_pos hab,if_neg hP]
theorem way_cases (hF:100000000000000000≤F):∃ names,speed_Way F x a b=some (names,(costS x a b).1,(costS x a b).2)∧((costS x a b).2=0→cway x a b names=((costS x a b).1,0))∧((costS x a b).2≠0→names=[])∧names.length≤60:=by
 by_cases h:csheet x=0
 ·cases hab:(inR 0 x.1 a && inR 0 x.1 b) with
  | false =>
   rw [co2 h hab]
   exact ⟨[],way_out h hab (by omega),fun e=>(by cases e),fun _=>rfl,by simp⟩
  | true =>
   have hab':=hab
   simp only [inR,Bool.and_eq_true,decide_eq_true_eq] at hab'
   obtain ⟨⟨a0,a1⟩,b0,b1⟩:=hab'
   by_cases hP:Pot x
   ·rw [co3 h hab hP]
    obtain ⟨names,e1,e2,e3⟩:=way_eq h hP a0 a1 b0 b1 hF
    exact ⟨names,e1,fun _=>e2,fun e=>(e rfl).elim,e3⟩
   ·rw [co4 h hab hP]
    exact ⟨[],way_circ h hab hP (by omega),fun e=>(by cases e),fun _=>rfl,by simp⟩
 ·rw [co1 h]
  exact ⟨[],way_no h (by omega),fun e=>(h e).elim,fun _=>rfl,by simp⟩
end
end Go.Proofs.YtfmelbioccbdoaaGreat
end
section
namespace Go.Proofs.YtfmelbioccbdoaaGreat
open Go Go.Md Go.RowKit
section
variable {x:Int×List RR} {F:Nat} {a b t:Int}
def PairOK (x:Int×List RR) (s:List Int) (n:Int):Prop:=∀ i j,0≤i→i≤n→0≤j→j≤n→ofS s j≤ofS s i + D x i j
theorem PairOK.bd (h:csheet x=0) (hP:Pot x) {s:List Int} {n:Int} (hn:n≤x.1) (hp:PairOK x s n) {i:Int} (i0:0≤i) (i1:i≤n):-100000≤ofS s i∧ofS s i≤100000:=by
 obtain ⟨h1,h2,h3,_⟩:=csheet_ok h
 have b1:=D_bd h hP (a:=0) (t:=i) (by omega) (by omega) i0 (by omega)
 have b2:=D_bd h hP (a:=i) (t:=0) i0 (by omega) (by omega) (by omega)
 have z:ofS s 0=0:=rfl
 have e1:=hp 0 i (by omega) (by omega) i0 i1
 have e2:=hp i 0 i0 i1 (by omega) (by omega)
 rw [z] at e1 e2
 omega
theorem true_dist (h:csheet x=0) (hP:Pot x) {s:List Int} (hs:cspeeds x s=0) (a0:0≤a) (a1:a≤x.1) (b0:0≤b) (b1:b≤x.1):ofS s b≤ofS s a + D x a b :=
 (D_dist h hP a0 a1 b0 b1).1.pot (true_pot hs).2.2.2
theorem hFF:100000000000000000≤FF:=Nat.le_refl _
theorem tmod_in {u n:Int} (hu:0≤u) (hn:0<n):0≤u.tmod n∧u.tmod n<n:=⟨Int.tmod_nonneg _ hu,Int.tmod_lt_of_pos _ hn⟩
theorem rem_in {u n:Int} (hn:0<n):rem u n=some (u.tmod n):=by unfold rem; rw [if_neg (by omega)]
end
end Go.Proofs.YtfmelbioccbdoaaGreat
end
section
namespace Go.Proofs.YtfmelbioccbdoaaGreat
open Go Go.Md Go.RowKit
namespace L4
open Wo
theorem works04:top_works04 FF=some true:=rfl
section
variable {l:List (List Int)} {g:Tp}
def ri (g:Tp) (l:List (List Int)) (i t:Nat):List RR:=((i:Int) + 1,0,-1)::((List.range t).filter fun k=>Bf g l i k).map fun (k:Nat)=>(((k:Int) + 1,(i:Int) + 1,-1):RR)
def rls (g:Tp) (l:List (List Int)) (n:Nat):Nat→List RR
 | 0=>[]
 | i + 1=>rls g l n i++ri g l i n
theorem ri_len (g:Tp) (l:List (List Int)) (i t:Nat):(ri g l i t).length≤t + 1:=by
 unfold ri
 rw [List.length_cons,List.length_map]
 have:=List.length_filter_le (fun k=>Bf g l i k) (List.range t)
 rw [List.length_range] at this; omega
theorem rls_len {n:Nat}:∀ k,(rls g l n k).length≤(n + 1) * k
 | 0=>Nat.le_refl _
 | k + 1=>by
  have:=rls_len (n:=n) k
  have:=ri_len g l k n
  rw [rls,List.length_append,Nat.mul_succ]; omega
theorem rls_mem {n:Nat} {r:RR}:∀ k,r∈rls g l n k↔∃ i,i<k∧(r=((i:Int) + 1,0,-1)∨∃ j,j<n∧Bf g l i j=true∧r=((j:Int) + 1,(i:Int) + 1,-1))
 | 0=>by simp [rls]
 | k + 1=>by
  rw [rls,List.mem_append,rls_mem k]
  have e:r∈ri g l k n↔(r=((k:Int) + 1,0,-1)∨∃ j,j<n∧Bf g l k j=true∧r=((j:Int) + 1,(k:Int) + 1,-1)):=by
   unfold ri
   rw [List.mem_cons,List.mem_map]
   refine or_congr Iff.rfl ⟨fun ⟨j,hj,e⟩=>?_,fun ⟨j,h1,h2,e⟩=>⟨j,List.mem_filter.2 ⟨List.mem_range.2 h1,h2⟩,e.symm⟩⟩
   obtain ⟨a,b⟩:=List.mem_filter.1 hj
   exact ⟨j,List.mem_range.1 a,b,e.symm⟩
  rw [e]
  constructor
  ·rintro (⟨i,h1,h2⟩ | h)
   ·exact ⟨i,by omega,h2⟩
   ·exact ⟨k,by omega,h⟩
  ·rintro ⟨i,h1,h2⟩
   by_cases e:i=k
   ·subst e; exact .inr h2
   ·exact .inl ⟨i,by omega,h2⟩
abbrev ls (g:Tp) (l:List (List Int)):List (List Int):=(Mt g l).map (lst l.length)
theorem ls_ix {i:Nat} (h:i<(Mt g l).length):ix (ls g l) (i:Int)=some (lst l.length (ML (Mt g l) i)):=by
 rw [ix_nat (by simpa using h),ML_get h]; simp
theorem l2_eq (h:VL l) (hn:(Mt g l).length≤20) {i:Nat} (hi:i<(Mt g l).length) {T:Int} {R:List RR} (hR:R.length≤1000):∀ (m k:Nat),k≤(Mt g l).length→(Mt g l).length - k<m →
  top_TopLeastLevels_l2 FF (ls g l) (i:Int) m (k:Int) (T,R++ri g l i k)=some (T,R++ri g l i (Mt g l).length)
 | 0,k,_,h=>by omega
 | m + 1,k,hk,hm=>by
  have h4:=h.four
  unfold top_TopLeastLevels_l2
  by_cases hlt:k<(Mt g l).length
  ·have hr:=ri_len g l i k
   rw [if_pos (by simpa using hlt),ls_ix hi,ls_ix hlt]
   simp only [Option.bind_eq_bind,Option.bind_some]
   rw [rbef_eq (by decide) (by omega)]
   simp only [Option.bind_some]
   have es:ri g l i (k + 1)=ri g l i k++(if Bf g l i k=true then [((k:Int) + 1,(i:Int) + 1,-1)] else []):=by
    unfold ri
    rw [List.range_succ,List.filter_append,List.map_append,List.cons_append]
    congr 2
    cases hb:Bf g l i k <;> simp [hb]
   have ih:=l2_eq h hn hi hR (T:=T) m (k + 1) (by omega) (by omega)
   rw [es] at ih
   cases hb:Bf g l i k with
   | true =>
    rw [if_pos hb] at ih
    rw [if_pos (show bef l.length (ML (Wo.Mt g l) i) (ML (Wo.Mt g l) k)=true from hb),app_some (by simp; omega)]
    simp only [Option.bind_some]
    rw [w64_nat (by omega),w64_nat (by omega)]
    rw [← List.append_assoc] at ih
    exact ih
   | false =>
    rw [if_neg (by rw [hb]; simp),List.append_nil] at ih
    rw [if_neg (show ¬ bef l.length (ML (Wo.Mt g l) i) (ML (Wo.Mt g l) k)=true from fun e=>by rw [show Bf g l i k=true from e] at hb; cases hb)]
    simp only [Option.bind_some]
    rw [w64_nat (by omega)]
    exact ih
  ·have:k=(Mt g l).length:=by omega
   subst this
   rw [if_neg (by simp)]
theorem l1_eq (h:VL l) (hn:(Mt g l).length≤20) {T:Int}:∀ (m k:Nat),k≤(Mt g l).length→(Mt g l).length - k<m →
  top_TopLeastLevels_l1 FF (ls g l) m (k:Int) (T,rls g l (Mt g l).length k)=some (T,rls g l (Mt g l).length (Mt g l).length)
 | 0,k,_,h=>by omega
 | m + 1,k,hk,hm=>by
  unfold top_TopLeastLevels_l1
  by_cases hlt:k<(Mt g l).length
  ·have hr:=rls_len (n:=(Mt g l).length) (g:=g) (l:=l) k
   have hr2:((Mt g l).length + 1) * k≤21 * 20:=Nat.mul_le_mul (by omega) (by omega)
   rw [if_pos (by simpa using hlt),app_some (by simp; omega)]
   simp only [Option.bind_eq_bind,Option.bind_some]
   have h2:=l2_eq h hn hlt (T:=T) (R:=rls g l (Mt g l).length k) (by omega) FF 0 (by omega) (Nat.lt_of_le_of_lt (show _≤20 by omega) (by decide))
   rw [show ((0:Nat):Int)=0 from rfl,show ri g l k 0=[((k:Int) + 1,0,-1)] from rfl] at h2
   rw [w64_nat (by omega),show ((k + 1:Nat):Int)=(k:Int) + 1 by omega,h2]
   simp only [Option.bind_some]
   exact l1_eq h hn m (k + 1) (by omega) (by omega)
  ·have:k=(Mt g l).length:=by omega
   subst this
   rw [if_neg (by simp)]
abbrev sh (g:Tp) (l:List (List Int)):Int×List RR:=((Mt g l).length,rls g l (Mt g l).length (Mt g l).length)
theorem sh_ok (h:VL l) (h1:1≤(Mt g l).length) (hn:(Mt g l).length≤20) (h60:¬ 60<(rls g l (Mt g l).length (Mt g l).length).length):csheet (sh g l)=0:=by
 unfold csheet
 rw [if_neg h60,if_pos (by unfold inR; simp; omega),if_pos]
 refine List.all_eq_true.2 fun r hr=>?_
 obtain ⟨i,hi,e⟩:=(rls_mem _).1 hr
 rcases e with rfl | ⟨j,hj,hb,rfl⟩
 ·unfold okRule inR; simp; omega
 ·have:=bef_lt h hi hj hb
  unfold okRule inR; simp; omega
theorem speeds_iff (h:VL l) (h1:1≤(Mt g l).length) (hn:(Mt g l).length≤20) (h60:¬ 60<(rls g l (Mt g l).length (Mt g l).length).length) {s:List Int} (hs:s.length=(Mt g l).length) (hb:∀ v∈s,0≤v∧v≤100000) :
  ((∀ i,i<(Mt g l).length→1≤s.getD i 0)∧(∀ i j,i<(Mt g l).length→j<(Mt g l).length→Bf g l i j=true→s.getD i 0<s.getD j 0)→cspeeds (sh g l) s=0) ∧
  (¬ ((∀ i,i<(Mt g l).length→1≤s.getD i 0)∧(∀ i j,i<(Mt g l).length→j<(Mt g l).length→Bf g l i j=true→s.getD i 0<s.getD j 0))→cspeeds (sh g l) s=17):=by
 have hc:=sh_ok h h1 hn h60
 have ofk:∀ i,i<(Mt g l).length→ofS s ((i:Int) + 1)=s.getD i 0:=fun i hi=>by
  unfold ofS
  rw [if_neg (by omega),show (i:Int) + 1 - 1=(i:Int) by omega,ix_nat (by omega)]
  simp [show i<s.length by omega]
 have bd:∀ i,i<(Mt g l).length→0≤s.getD i 0∧s.getD i 0≤100000:=fun i hi=>by
  have:=hb s[i] (List.getElem_mem (by omega))
  simpa [show i<s.length by omega] using this
 have e0:ofS s 0=0:=rfl
 have e:(sh g l).2.all (keepsS s)=true↔((∀ i,i<(Mt g l).length→1≤s.getD i 0)∧(∀ i j,i<(Mt g l).length→j<(Mt g l).length→Bf g l i j=true→s.getD i 0<s.getD j 0)):=by
  rw [List.all_eq_true]
  constructor
  ·intro hk
   refine ⟨fun i hi=>?_,fun i j hi hj hbf=>?_⟩
   ·have:=hk _ ((rls_mem _).2 ⟨i,hi,.inl rfl⟩)
    have b:=bd i hi
    unfold keepsS at this
    rw [decide_eq_true_eq] at this
    simp only [e0] at this
    rw [ofk i hi,w64_in (by omega)] at this
    omega
   ·have:=hk _ ((rls_mem _).2 ⟨i,hi,.inr ⟨j,hj,hbf,rfl⟩⟩)
    have b:=bd j hj
    unfold keepsS at this
    rw [decide_eq_true_eq] at this
    simp only at this
    rw [ofk i hi,ofk j hj,w64_in (by omega)] at this
    omega
  ·rintro ⟨a,b⟩ r hr
   obtain ⟨i,hi,e⟩:=(rls_mem _).1 hr
   rcases e with rfl | ⟨j,hj,hbf,rfl⟩
   ·have:=a i hi; have:=bd i hi
    unfold keepsS
    rw [decide_eq_true_eq]
    simp only [e0]
    rw [ofk i hi,w64_in (by omega)]; omega
   ·have:=b i j hi hj hbf; have:=bd j hj
    unfold keepsS
    rw [decide_eq_true_eq]
    simp only
    rw [ofk i hi,ofk j hj,w64_in (by omega)]; omega
 have eb:s.all (inR 0 100000)=true:=List.all_eq_true.2 fun v hv=>by have:=hb v hv; unfold inR; simp; omega
 constructor
 ·intro hh
  unfold cspeeds
  rw [if_neg (fun h=>h hc),if_neg (by simp; omega),if_pos eb,if_pos (e.2 hh)]
 ·intro hh
  unfold cspeeds
  rw [if_neg (fun h=>h hc),if_neg (by simp; omega),if_pos eb,if_neg fun h=>hh (e.1 h)]
theorem lv_getD {v:List Int} (hv:Lv g l (Mt g l) v) {i:Nat} (hi:i<(Mt g l).length):v.getD i 0=((LV v i:Nat):Int):=by
 rw [List.getD_eq_getElem?_getD,(hv.get hi).2.1]; rfl
theorem lv_bd (h:VL l) {v:List Int} (hv:Lv g l (Mt g l) v):∀ n∈v,1≤n∧n≤1001:=by
 intro n hn
 obtain ⟨i,hi,rfl⟩:=List.mem_iff_getElem.1 hn
 have hi':i<(Mt g l).length:=by have:=hv.1; omega
 have a:=(hv.get hi').1
 have b:=hv.le h hi'
 have c:=lv_getD hv hi'
 simp [hi] at c
 omega
theorem low_eq (h:VL l) (h1:1≤(Mt g l).length) (hn:(Mt g l).length≤20) (h60:¬ 60<(rls g l (Mt g l).length (Mt g l).length).length) {v:List Int} (hv:Lv g l (Mt g l) v):Pot (sh g l)∧endsL (sh g l) false=v:=by
 have hc:=sh_ok h h1 hn h60
 have hd:=dag_of h hv
 have hb:=lv_bd h hv
 have hs:cspeeds (sh g l) v=0:=(speeds_iff h h1 hn h60 hv.1 fun n hn=>by have:=hb n hn; omega).1 ⟨fun i hi=>by
   rw [lv_getD hv hi]; have:=hd.one i hi; omega,fun i j hi hj hbf=>by
   rw [lv_getD hv hi,lv_getD hv hj]; have:=hd.up i j hi hj hbf; omega⟩
 have hP:Pot (sh g l):=by
  obtain ⟨_,_,_,hp⟩:=true_pot hs
  exact ⟨ofS v,hp⟩
 refine ⟨hP,?_⟩
 have het:=ends_true hc hP false
 have hlen:(endsL (sh g l) false).length=(Mt g l).length:=by rw [endsL_len]; simp
 obtain ⟨_,_,hbd,_⟩:=true_pot het
 have hen:(∀ i,i<(Mt g l).length→1≤(endsL (sh g l) false).getD i 0)∧(∀ i j,i<(Mt g l).length→j<(Mt g l).length→Bf g l i j=true→(endsL (sh g l) false).getD i 0<(endsL (sh g l) false).getD j 0):=by
  refine Classical.byContradiction fun hno=>?_
  have:=(speeds_iff h h1 hn h60 hlen hbd).2 hno
  rw [het] at this; cases this
 have ofk:∀ (s:List Int),s.length=(Mt g l).length→∀ i,i<(Mt g l).length→ofS s ((i:Int) + 1)=s.getD i 0:=fun s hs i hi=>by
  unfold ofS
  rw [if_neg (by omega),show (i:Int) + 1 - 1=(i:Int) by omega,ix_nat (by omega)]
  simp [show i<s.length by omega]
 have up:∀ i,i<(Mt g l).length→(endsL (sh g l) false).getD i 0≤((LV v i:Nat):Int):=by
  intro i hi
  have a:=ofk _ hlen i hi
  rw [ofS_ends hc hP (by omega) (by show (i:Int) + 1≤((Mt g l).length:Int); omega),if_neg (by simp)] at a
  have b:=true_dist hc hP hs (a:=(i:Int) + 1) (b:=0) (by omega) (by show (i:Int) + 1≤((Mt g l).length:Int); omega) (by omega) (by show (0:Int)≤((Mt g l).length:Int); omega)
  rw [ofk v hv.1 i hi,show ofS v 0=0 from rfl,lv_getD hv hi] at b
  omega
 have lo:∀ (q i:Nat),LV v i=q→i<(Mt g l).length→((LV v i:Nat):Int)≤(endsL (sh g l) false).getD i 0:=by
  intro q
  induction q using Nat.strongRecOn with
  | ind q ih =>
   intro i e hi
   by_cases e2:2≤LV v i
   ·obtain ⟨j,hj,hbf,hl⟩:=hd.dn i hi e2
    have:=ih (LV v j) (by omega) j rfl hj
    have:=hen.2 j i hj hi hbf
    omega
   ·have:=hen.1 i hi; omega
 apply List.ext_getElem
 ·rw [hlen,hv.1]
 ·intro i h1 h2
  have hi:i<(Mt g l).length:=by omega
  have a:=up i hi; have b:=lo _ i rfl hi; have c:=lv_getD hv hi
  simp only [List.getD_eq_getElem?_getD,List.getElem?_eq_getElem h1,List.getElem?_eq_getElem h2,Option.getD_some] at a b c
  omega
theorem l3_eq {v:List Int} (hl:v.length=(Mt g l).length) (hn:(Mt g l).length≤20) {e1 e2:Int} (hb:∀ n∈v,1≤n):∀ (m k:Nat) (a:Int),k≤(Mt g l).length→(Mt g l).length - k<m→0≤a→(∀ i,i<k→v.getD i 0≤a)→((k=0∧a=0)∨∃ i,i<k∧v.getD i 0=a) →
  ∃ z,top_TopLeastLevels_l3 FF (ls g l) (v,e1) (v,e2) m a (k:Int)=some (.inr z)∧(∀ i,i<(Mt g l).length→v.getD i 0≤z)∧(((Mt g l).length=0∧z=0)∨∃ i,i<(Mt g l).length∧v.getD i 0=z)
 | 0,k,_,_,h,_,_,_=>by omega
 | m + 1,k,a,hk,hm,ha,h1,h2=>by
  unfold top_TopLeastLevels_l3
  by_cases hlt:k<(Mt g l).length
  ·have hg:v[k]'(by omega)=v.getD k 0:=by simp [show k<v.length by omega]
   have h1k:=hb _ (List.getElem_mem (show k<v.length by omega))
   rw [hg] at h1k
   rw [if_pos (by simpa using hlt)]
   simp only
   rw [ix_nat (show k<v.length by omega),hg]
   simp only [Option.bind_eq_bind,Option.bind_some]
   rw [if_neg (by simp),w64_nat (by omega)]
   by_cases c:a<v.getD k 0
   ·rw [if_pos c]
    refine l3_eq hl hn hb m (k + 1) _ (by omega) (by omega) (by omega) (fun i hi=>?_) (.inr ⟨k,by omega,rfl⟩)
    by_cases e:i=k
    ·subst e; omega
    ·have:=h1 i (by omega); omega
   ·rw [if_neg c]
    refine l3_eq hl hn hb m (k + 1) a (by omega) (by omega) ha (fun i hi=>?_) (.inr ?_)
    ·by_cases e:i=k
     ·subst e; omega
     ·exact h1 i (by omega)
    ·rcases h2 with ⟨e,e2⟩ | ⟨i,hi,e⟩
     ·omega
     ·exact ⟨i,by omega,e⟩
  ·have:k=(Mt g l).length:=by omega
   subst this
   rw [if_neg (by simp)]
   exact ⟨a,rfl,h1,h2⟩
def gv (v:List Int) (by':List (KI .u8)) (i:Nat):Int:=v.getD i 0 + (if i<by'.length then ((by'.getD i ⟨0⟩).v).tmod 8 else 0)
theorem l4_eq {v:List Int} (hl:v.length=(Mt g l).length) (hn:(Mt g l).length≤20) {e1:Int} {by':List (KI .u8)} (hby:∀ y∈by',0≤y.v∧y.v≤255) (hb:∀ n∈v,1≤n∧n≤1001):∀ (m k:Nat),k≤(Mt g l).length→(Mt g l).length - k<m →
  top_TopLeastLevels_l4 FF by' (ls g l) (v,e1) m ((List.range k).map (gv v by')) ((List.range k).map (gv v by')) (k:Int)=some ((List.range (Mt g l).length).map (gv v by'),(List.range (Mt g l).length).map (gv v by'))
 | 0,k,_,h=>by omega
 | m + 1,k,hk,hm=>by
  unfold top_TopLeastLevels_l4
  by_cases hlt:k<(Mt g l).length
  ·have hg:v[k]'(by omega)=v.getD k 0:=by simp [show k<v.length by omega]
   have h1k:=hb _ (List.getElem_mem (show k<v.length by omega))
   rw [hg] at h1k
   rw [if_pos (by simpa using hlt)]
   simp only
   rw [ix_nat (show k<v.length by omega),hg]
   simp only [Option.bind_eq_bind,Option.bind_some]
   have ey:(if decide ((k:Int)<(by'.length:Int))=true then (ix by' (k:Int)).bind fun x30=>some (w64 (v.getD k 0 + (w64 x30.v).tmod 8)) else some (v.getD k 0))=some (gv v by' k):=by
    unfold gv
    by_cases c:k<by'.length
    ·have hy:=hby _ (List.getElem_mem c)
     rw [if_pos (by simpa using c),if_pos c,ix_nat c]
     simp only [Option.bind_some]
     have t:=tmod_in (u:=by'[k].v) (n:=8) hy.1 (by omega)
     rw [w64_in (n:=by'[k].v) (by omega),w64_in (by omega)]
     simp [c]
    ·rw [if_neg (by simpa using c),if_neg c]; simp
   rw [ey]
   simp only [Option.bind_some]
   rw [app_some (by simp; omega)]
   simp only [Option.bind_some]
   rw [w64_nat (by omega)]
   have ih:=l4_eq hl hn (e1:=e1) hby hb m (k + 1) (by omega) (by omega)
   rw [List.range_succ,List.map_append] at ih
   exact ih
  ·have:k=(Mt g l).length:=by omega
   subst this
   rw [if_neg (by simp)]
theorem law (x:Bk) (l:List (List Int)) {by':List (KI .u8)} (hby:∀ y∈by',0≤y.v∧y.v≤255) {w:Int} (hw:0≤w∧w≤255):top_TopLeastLevels FF x l by' w=some true:=by
 have hF:100000<FF:=by decide
 have hF17:100000000000000000≤FF:=hFF
 unfold top_TopLeastLevels
 rw [show (⟨x.v⟩:Bk)=x from rfl,works04]
 obtain ⟨b,e1,e2⟩:=lines_eq (F:=FF) (by decide) x l (q:=4) (by omega)
 rw [e1]
 simp only [Option.bind_eq_bind,Option.bind_some]
 cases b with
 | false=>rfl
 | true =>
 rw [if_neg (by simp)]
 obtain ⟨hv,h⟩:=e2 rfl
 obtain ⟨g,hg,hW⟩:=word_eq hF hv h
 rw [rall_eq hF hv h hg]
 simp only [Option.bind_some]
 by_cases hn:(Wo.Mt g l).length<1∨20<(Wo.Mt g l).length
 ·rw [if_pos (by simp; omega)]
 rw [if_neg (by simp; omega)]
 obtain ⟨d,v,top,q,hlv,es,ht1,ht2,eL,_,_,eG,hq⟩:=hW (by omega)
 have hz:=l1_eq (g:=g) h (by omega) (T:=(((ls g l).length:Nat):Int)) FF 0 (by omega) (Nat.lt_of_le_of_lt (show _≤20 by omega) (by decide))
 rw [show ((0:Nat):Int)=0 from rfl,show rls g l (Wo.Mt g l).length 0=[] from rfl] at hz
 rw [hz]
 simp only [Option.bind_some]
 by_cases h60:60<(rls g l (Wo.Mt g l).length (Wo.Mt g l).length).length
 ·rw [if_pos (by simp only [decide_eq_true_eq]; omega)]
 rw [if_neg (by simp only [decide_eq_true_eq]; omega)]
 have esh:((((ls g l).length:Nat):Int),rls g l (Wo.Mt g l).length (Wo.Mt g l).length)=sh g l:=by simp
 rw [esh,eL]
 simp only [Option.bind_some]
 have hc:=sh_ok h (by omega) (by omega) h60
 obtain ⟨hP,hE⟩:=low_eq h (by omega) (by omega) h60 hlv
 have hbv:=lv_bd h hlv
 rw [(ends_eq hc hF17 false).1 hP,hE]
 simp only [Option.bind_some]
 have hC:speed_Circle FF (sh g l)=some ([],5):=by
  rcases circ_eq hc (F:=FF) (by decide) with ⟨_,e⟩ | ⟨e,_⟩
  ·exact e
  ·exact absurd hP e
 rw [hC,eG]
 simp only [Option.bind_some]
 have hlen:(v.length:Int)=((ls g l).length:Int):=by rw [hlv.1]; simp
 rw [if_neg (by simp),if_neg (by simp),if_neg (by simp),if_neg (by simp),if_neg (by simp [hlv.1]),if_neg (by simp [hlv.1]),refSpeeds_eq (by decide),show cspeeds (sh g l) v=0 by rw [← hE]; exact ends_true hc hP false]
 simp only [Option.bind_some]
 rw [if_neg (by simp)]
 obtain ⟨z,e3,e4,e5⟩:=l3_eq (g:=g) (l:=l) hlv.1 (by omega) (e1:=0) (e2:=0) (fun n hn=>(hbv n hn).1) FF 0 0 (by omega) (Nat.lt_of_le_of_lt (show _≤20 by omega) (by decide)) (by omega) (fun i hi=>by omega) (.inl ⟨rfl,rfl⟩)
 rw [show ((0:Nat):Int)=0 from rfl] at e3
 rw [e3]
 simp only [Option.bind_some]
 have hw':w64 w=w:=w64_in (by omega)
 have hpos:(0:Int)<((ls g l).length:Int):=by simp; omega
 rw [hw',rem_in hpos]
 simp only [Option.bind_some]
 obtain ⟨k0,k1⟩:=tmod_in hw.1 hpos
 obtain ⟨k,ek⟩:∃ k:Nat,w.tmod ((ls g l).length:Int)=(k:Int):=⟨(w.tmod ((ls g l).length:Int)).toNat,by omega⟩
 rw [ek] at k1 ⊢
 have hk:k<(Wo.Mt g l).length:=by simp at k1; omega
 rw [w64_in (n:=(k:Int) + 1) (by omega),span_eq hF17]
 have ht:inR 1 (sh g l).1 ((k:Int) + 1)=true:=by unfold inR; simp; omega
 rw [sp3 hc ht hP]
 simp only [Option.bind_some]
 obtain ⟨names,e6,e7,e8,e9⟩:=way_cases (x:=sh g l) (a:=(k:Int) + 1) (b:=0) hF17
 have hab:(inR 0 (sh g l).1 ((k:Int) + 1) && inR 0 (sh g l).1 0)=true:=by unfold inR; simp; omega
 have hco:costS (sh g l) ((k:Int) + 1) 0=(D (sh g l) ((k:Int) + 1) 0,0):=co3 hc hab hP
 rw [hco] at e6 e7 e8
 rw [e6]
 simp only [Option.bind_some]
 rw [refWay_eq (by decide) (by omega),e7 rfl]
 simp only [Option.bind_some]
 have hvk:ix v (k:Int)=some (-D (sh g l) ((k:Int) + 1) 0):=by
  have a:=ofS_ends (high:=false) (t:=(k:Int) + 1) hc hP (by omega) (by show (k:Int) + 1≤((Wo.Mt g l).length:Int); omega)
  rw [hE,if_neg (by simp)] at a
  unfold ofS at a
  rw [if_neg (by omega),show (k:Int) + 1 - 1=(k:Int) by omega] at a
  have hkv:k<v.length:=by rw [hlv.1]; exact hk
  rw [ix_nat hkv] at a ⊢
  simp only [Option.getD_some] at a
  rw [a]
 have hDb:=D_bd hc hP (a:=(k:Int) + 1) (t:=0) (by omega) (by show (k:Int) + 1≤((Wo.Mt g l).length:Int); omega) (by omega) (by show (0:Int)≤((Wo.Mt g l).length:Int); omega)
 have hzt:z=(top:Int):=by
  rcases e5 with ⟨e,_⟩ | ⟨i,hi,e⟩
  ·omega
  ·rcases ht2 with ⟨e',_⟩ | ⟨j,hj,e'⟩
   ·omega
   ·have a:=e4 j hj
    have b:=ht1 i hi
    rw [lv_getD hlv hj] at a
    rw [lv_getD hlv hi] at e
    omega
 rw [if_neg (by simp),if_neg (by simp),if_neg (by simp),hvk]
 simp only [Option.bind_some]
 rw [if_neg (by simp),if_neg (by rw [w64_in (by omega)]; simp),if_neg (by simp)]
 simp only [Option.bind_some]
 rw [if_neg (by rw [hzt]; simp [hq.len])]
 have e10:=l4_eq (g:=g) (l:=l) hlv.1 (by omega) (e1:=0) hby hbv FF 0 (by omega) (Nat.lt_of_le_of_lt (show _≤20 by omega) (by decide))
 rw [show ((0:Nat):Int)=0 from rfl,show (List.range 0).map (gv v by')=[] from rfl] at e10
 rw [e10]
 simp only [Option.bind_some]
 have hgl:((List.range (Wo.Mt g l).length).map (gv v by')).length=(Wo.Mt g l).length:=by simp
 have hgb:∀ n∈(List.range (Wo.Mt g l).length).map (gv v by'),1≤n∧n≤1010:=by
  intro n hn
  obtain ⟨i,hi,rfl⟩:=List.mem_map.1 hn
  have hi:=List.mem_range.1 hi
  have hi':i<v.length:=by rw [hlv.1]; exact hi
  have a:=hbv _ (List.getElem_mem hi')
  have ev:v.getD i 0=v[i]:=by simp [hi']
  unfold gv
  by_cases c:i<by'.length
  ·have hy:=hby _ (List.getElem_mem c)
   have ey:by'.getD i ⟨0⟩=by'[i]:=by simp [c]
   rw [if_pos c,ey,ev]
   have t:=tmod_in (u:=by'[i].v) (n:=8) hy.1 (by omega)
   omega
  ·rw [if_neg c,ev]; omega
 obtain ⟨r,e11,e12,e13⟩:=clev_eq (v:=(List.range (Wo.Mt g l).length).map (gv v by')) hF h es hgl (by omega) (fun n hn=>(hgb n hn).1)
 have hsp:=speeds_iff h (by omega) (by omega) h60 hgl (fun n hn=>by have:=hgb n hn; omega)
 rw [e11,speeds_eq (by decide)]
 simp only [Option.bind_some]
 have h1:∀ i,i<(Wo.Mt g l).length→1≤((List.range (Wo.Mt g l).length).map (gv v by')).getD i 0:=fun i hi=>by
  have:=hgb _ (List.getElem_mem (show i<((List.range (Wo.Mt g l).length).map (gv v by')).length by rw [hgl]; exact hi))
  rw [List.getD_eq_getElem?_getD,List.getElem?_eq_getElem (by rw [hgl]; exact hi),Option.getD_some]; exact this.1
 by_cases hh:∀ i j,i<(Wo.Mt g l).length→j<(Wo.Mt g l).length→Bf g l i j=true→((List.range (Wo.Mt g l).length).map (gv v by')).getD i 0<((List.range (Wo.Mt g l).length).map (gv v by')).getD j 0
 ·rw [e12 hh,hsp.1 ⟨h1,hh⟩]; rfl
 ·rw [e13 hh,hsp.2 fun e=>hh e.2]; rfl
theorem topLeastLevels_true (x:Bk) (l:List (List Int)) {by':List (KI .u8)} (hby:∀ y∈by',(Lit.int .u8 y.v).wf=true) {w:Int} (hw:(Lit.int .u8 w).wf=true):top_TopLeastLevels FF x l by' w=some true:=by
 have hb:∀ {v:Int},(Lit.int .u8 v).wf=true→0≤v∧v≤255:=fun {v} h=>by simp [Lit.wf] at h; exact h
 exact law x l (fun y hy=>hb (hby y hy)) (hb hw)
end
end L4
end Go.Proofs.YtfmelbioccbdoaaGreat
end
section
namespace Go.Proofs.YtfmelbioccbdoaaGreat
namespace TopLeastLevelsP
open Go
theorem band {a b:Bool} (h:a=true) (k:b=true):(a && b)=true:=by rw [h,k]; rfl
theorem jf0:(Rows.topLeastLevelsRow.wf (OpenSpec.ofChange Rows.topLeastLevelsSpec))=true:=by kernel_rfl
theorem jf1:(laidOutB Tryz.pinned.checked.prog)=true:=by kernel_rfl
theorem jf2:(mapsRowed Tryz.pinned.checked.prog)=true:=by kernel_rfl
theorem jf3:(Tryz.f7.params.all (Tryz.pinned.checked.prog.readableRec ·))=true:=by kernel_rfl
theorem jf4:(namedTie Tryz.pinned.checked.prog Rows.topLeastLevelsRow.named Rows.topLeastLevelsSpec.vars)=true:=by kernel_rfl
theorem jf5:((Rows.topLeastLevelsRow.stops == []))=true:=by kernel_rfl
theorem jf6:((Tryz.pinned.checked.prog.stops == []))=true:=by kernel_rfl
theorem jf7:((Rows.topLeastLevelsRow.knobs == []))=true:=by kernel_rfl
theorem jf8:((Tryz.pinned.checked.prog.stopKnobs == []))=true:=by kernel_rfl
theorem jf9:((Rows.topLeastLevelsRow.inPlace == Tryz.pinned.checked.prog.inPlace (7:FuncId)))=true:=by kernel_rfl
theorem jf10:((Rows.topLeastLevelsRow.unfollowed == Tryz.pinned.checked.prog.unfollowed (7:FuncId)))=true:=by kernel_rfl
theorem jf11:((Rows.topLeastLevelsRow.recurses == Tryz.pinned.checked.prog.recurses (7:FuncId)))=true:=by kernel_rfl
theorem jf12:((Rows.topLeastLevelsRow.named == Tryz.pinned.checked.prog.varsNamed (7:FuncId)))=true:=by kernel_rfl
theorem jf13:((Rows.topLeastLevelsRow.maps == (Tryz.f7.params.toList++Rows.topLeastLevelsSpec.plain.varTypes Tryz.pinned.checked.prog).any (Tryz.pinned.checked.prog.mapsRec ·)))=true:=by kernel_rfl
theorem jf14:((Rows.topLeastLevelsRow.ifaces == (Tryz.f7.params.toList++Rows.topLeastLevelsSpec.plain.varTypes Tryz.pinned.checked.prog).any (Tryz.pinned.checked.prog.ifacesRec ·)))=true:=by kernel_rfl
theorem jf15:((Rows.topLeastLevelsRow.mapsOut == Tryz.pinned.checked.prog.mapsAmong Tryz.f7.resultTypes.toList))=true:=by kernel_rfl
theorem jf16:((Rows.topLeastLevelsRow.loops == (Tryz.f7.params.toList++Rows.topLeastLevelsSpec.plain.varTypes Tryz.pinned.checked.prog).any (Tryz.pinned.checked.prog.loopsFrom ·)))=true:=by kernel_rfl
theorem jf17:((Rows.topLeastLevelsRow.wideKeys == (Tryz.f7.params.toList++Rows.topLeastLevelsSpec.plain.varTypes Tryz.pinned.checked.prog++Tryz.f7.resultTypes.toList).any (Tryz.pinned.checked.prog.wideKeysFrom ·)))=true:=by kernel_rfl
theorem jf18:(Rows.topLeastLevelsSpec.vars.all (Tryz.pinned.checked.prog.varReadable ·))=true:=by kernel_rfl
theorem jf19:(Tryz.f7.resultTypes.all (fun t=>Tryz.pinned.checked.prog.readableRec t && decide (t<Tryz.pinned.checked.prog.types.size)))=true:=by kernel_rfl
theorem jf20:((Rows.topLeastLevelsRow.ifacesOut == Tryz.f7.resultTypes.toList.any (Tryz.pinned.checked.prog.ifacesRec ·)))=true:=by kernel_rfl
theorem jf21:((Rows.topLeastLevelsRow.loopsOut == Tryz.f7.resultTypes.toList.any (Tryz.pinned.checked.prog.loopsFrom ·)))=true:=by kernel_rfl
theorem jf22:((Rows.topLeastLevelsRow.plainKeys == Tryz.pinned.checked.prog.plainKeys))=true:=by kernel_rfl
theorem jf23:(Rows.topLeastLevelsRow.shortTexts.isNone)=true:=by kernel_rfl
theorem jf24:(Tryz.pinned.checked.prog.stopsHeard)=true:=by kernel_rfl
theorem jf25:(Tryz.pinned.checked.prog.mayEnter)=true:=by kernel_rfl
theorem jf26:((Rows.topLeastLevelsRow.lifted == Tryz.pinned.checked.prog.liftsFinal))=true:=by kernel_rfl
theorem jf27:((Tryz.pinned.checked.prog.make == some Rows.topLeastLevelsRow.make))=true:=by kernel_rfl
theorem jf28:((Rows.topLeastLevelsRow.kinds == (if Rows.topLeastLevelsRow.domain.isEmpty then [] else Tryz.f7.params.toList.map fun t=>match Tryz.pinned.checked.prog.underlying t with | some (.int k)=>some k | _=>none)))=true:=by kernel_rfl
theorem jf29:((Rows.topLeastLevelsRow.pinned == Rows.topLeastLevelsRow.pinnedBy))=true:=by kernel_rfl
theorem jf30:((Rows.topLeastLevelsRow.veiled == (Tryz.f7.params.toList++Rows.topLeastLevelsSpec.plain.varTypes Tryz.pinned.checked.prog++Tryz.f7.resultTypes.toList).any (Tryz.pinned.checked.prog.veiledRec ·)))=true:=by kernel_rfl
theorem jf31:(Rows.topLeastLevelsRow.veiledFits Tryz.pinned.checked.prog Tryz.f7.params.toList (Tryz.f7.params.toList++Rows.topLeastLevelsSpec.plain.varTypes Tryz.pinned.checked.prog++Tryz.f7.resultTypes.toList))=true:=by kernel_rfl
theorem named:Tryz.pinned.checked.prog.funcNamed Rows.topLeastLevelsRow.func=some 7:=by kernel_rfl
end TopLeastLevelsP
end Go.Proofs.YtfmelbioccbdoaaGreat
end
