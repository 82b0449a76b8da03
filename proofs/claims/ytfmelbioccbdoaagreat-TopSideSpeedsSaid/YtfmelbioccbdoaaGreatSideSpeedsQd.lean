/-
  Part 4 of 14 of what the last text stands on: lemmas about the model, pure functions, walks, laws in plain Lean; each part's own head says its condition. Merged by a program of our own.
-/
import Derived.Test.YtfmelbioccbdoaaGreatSideSpeedsQc
import Derived.KernelRfl
import Derived.Test.YtfmelbioccbdoaaGreatProg
set_option maxHeartbeats 0
set_option linter.all false
section
namespace Go.Md.Cf
open Go Go.RowKit
section
section
variable {P:Program}
theorem ACI{nt d:Nat}{D:Value->TP->TP}(h:AAi nt (some d)=.mk D):d<nt/\d<65535/\D=fun v T=>ADP (way 16 d) (.mk v) T:=by
 simp only[AAi]at h;split at h
 ·rename_i hb
  simp only[Bool.and_eq_true,Nat.blt_eq]at hb;cases h;exact⟨hb.1,hb.2,rfl⟩
 ·cases h
theorem AMx{t:Nat}{T:TP}{v:Value}(h:AGg t T=.mk v):t<65535/\xw (way 16 t) T=.mk v:=by
 unfold AGg at h;split at h
 ·rename_i hb;exact⟨by simpa[Nat.blt_eq]using hb,h⟩
 ·cases h
theorem AMy{T:TP}{b x:Nat}(hx:x<65535){v:Value}:∀{l:List Nat},xw (way 16 x) (ABj b l T)=.mk v->x∈l/\((xw (way 16 x) T=.mk v/\vS v=true)\/(v=.map (some 0)/\xw (way 16 x) T=.mk (.map (some b)))):=by
 intro l
 induction l with
 |nil=>intro h;change xw _ .lf=_ at h;rw[AAp]at h;cases h
 |cons y l ih=>
  intro h;have down:xw (way 16 x) (ABj b l T)=.mk v->x∈y::l/\((xw (way 16 x) T=.mk v/\vS v=true)\/(v=.map (some 0)/\xw (way 16 x) T=.mk (.map (some b)))):=fun h=>⟨List.mem_cons_of_mem _ (ih h).1,(ih h).2⟩;simp only[ABj]at h;split at h
  ·rename_i hy
   have hy:y<65535:=by simpa[Nat.blt_eq]using hy
   split at h
   ·rename_i u hu
    split at h
    ·rename_i hf
     rw[zk]at h;split at h
     ·rename_i e
      have:=ABO hx hy e;subst this;cases h;exact⟨List.mem_cons_self,.inl ⟨hu,hf⟩⟩
     ·exact down h
    ·split at h
     ·rename_i c
      split at h
      ·rename_i hc
       rw[zk]at h;split at h
       ·rename_i e
        have:=ABO hx hy e;subst this;cases h;rw[Nat.eq_of_beq_eq_true hc]at hu;exact⟨List.mem_cons_self,.inr ⟨rfl,hu⟩⟩
       ·exact down h
      ·exact down h
     ·exact down h
   ·exact down h
  ·exact down h
theorem AL2{x:Nat}(hx:x<65535){v:Value}:∀{l:List Nat}{T:TP},xw (way 16 x) (AG9 l T)=.mk v->x∉l/\xw (way 16 x) T=.mk v:=by
 intro l
 induction l with
 |nil=>intro T h;exact⟨by simp,h⟩
 |cons y l ih=>
  intro T h;simp only[AG9]at h;obtain⟨h1,h2⟩:=ih h;split at h2
  ·rename_i hy
   rw[zk]at h2;split at h2
   ·cases h2
   ·rename_i e
    exact⟨fun hm=>(List.mem_cons.1 hm).elim (fun q=>e (by rw[q])) h1,h2⟩
  ·rename_i hy
   have hy:¬y<65535:=fun hlt=>by rw[show Nat.blt y 65535=true by rw[Nat.blt_eq];exact hlt]at hy;cases hy
   exact⟨fun hm=>(List.mem_cons.1 hm).elim (fun q=>hy (q▸hx)) h1,h2⟩
theorem HR.grow{w0:W0}{E:En}{A:AH}{w w':World}(h:HR w0 E A w)(k:Below w.heap.size w w'):HR w0 E A w':=
 ⟨h.ext.trans (k.mono h.ext.size),h.len,fun b b' g hb=>⟨(h.base b b' g hb).1,Nat.lt_of_lt_of_le (h.base b b' g hb).2 k.size⟩,fun b o b' g ho hb=>(h.obj b o b' g ho hb).same fun _=>k.block b' (h.base b b' g hb).2,h.inj,h.hole⟩
theorem ERs.flat{E:En}:∀{l l':List MapEntry},(∀e∈l,vS e.val=true)->ERs E l l'->l'=l
 |[],_,_,h=>by cases h;rfl
 |e::l,_,hf,h=>by
  cases h with
  | @cons _ e' _ l' h1 h2=>
   obtain⟨q1,q2,q3⟩:=h1;have:=zO (hf e (by simp)) q3;rw[ERs.flat (fun x hx=>hf x (by simp[hx])) h2];cases e;cases e';simp_all
theorem ERs.same{E:En}:∀{l:List MapEntry},(∀e∈l,vS e.val=true)->ERs E l l
 |[],_=>.nil
 |e::l,hf=>.cons ⟨rfl,rfl,zN (hf e (by simp))⟩ (ERs.same fun x hx=>hf x (by simp[hx]))
theorem AJZ{p q:Code}{L:MapLoop}(h:AGJ p q=some L):∃id ops ty1 p1 af1 ty2 p2 af2 id' ops' ty3 p3 af3 ty4 p4 af4,p=.region id ops false/\
  ops.toList=[⟨some L.tM,.move (.tmp L.m),ty1,p1,af1,none⟩,⟨some L.g,.range L.t (.tmp L.tM),ty2,p2,af2,none⟩]/\
  q=.block L.B (.loop (.seq (.region id' ops' false) (.seq (.cond (.tmp L.d2) .skip (.exit L.B)) (.block L.C L.body))))/\
  ops'.toList=[⟨some L.d1,.next (.tmp L.g) false,ty3,p3,af3,none⟩,⟨some L.d2,.extract (.tmp L.d1) 0,ty4,p4,af4,none⟩]:=by
 unfold AGJ at h;split at h
 ·cases h
 ·rename_i m tM g t hh
  split at h
  ·cases h
  ·rename_i B d1 d2 C body ht
   cases h;unfold AKY at hh;split at hh
   ·rename_i id ops
    split at hh
    ·rename_i _ tM1 m1 ty1 p1 af1 g1 t1 tM2 ty2 p2 af2 hops
     split at hh
     ·rename_i hb
      have:=Nat.eq_of_beq_eq_true hb;subst this;cases hh;unfold AKa at ht;split at ht
      ·rename_i _ B1 r cc B2 C1 body1
       split at ht
       ·rename_i e1 e2 hT
        split at ht
        ·rename_i hbb
         simp only[Bool.and_eq_true]at hbb;have h1:=Nat.eq_of_beq_eq_true hbb.1;have h2:=Nat.eq_of_beq_eq_true hbb.2;subst h1 h2;cases ht;unfold AKZ at hT;split at hT
         ·rename_i id' ops'
          split at hT
          ·rename_i _ f1 g2 ty3 p3 af3 f2 f3 ty4 p4 af4 hops'
           split at hT
           ·rename_i hc
            simp only[Bool.and_eq_true]at hc;have h1:=Nat.eq_of_beq_eq_true hc.1;have h2:=Nat.eq_of_beq_eq_true hc.2;subst h1 h2;cases hT;exact⟨id,ops,ty1,p1,af1,ty2,p2,af2,id',ops',ty3,p3,af3,ty4,p4,af4,rfl,hops,rfl,hops'⟩
           ·cases hT
          ·cases hT
         ·cases hT
        ·cases ht
       ·cases ht
      ·cases ht
     ·cases hh
    ·cases hh
   ·cases hh
noncomputable def dOf(P:Program)(nt:Nat)(L:MapLoop)(tk:TypeId)(D:Value->TP->TP)(T:TP)(e:MapEntry):Bool:=
 match AC8 P nt e tk L.body (D (.tuple #[.bool true,e.key,e.val]) T) A2 with
 |some (_,_,d)=>d
 |none=>false
theorem AFo{nt:Nat}{L:MapLoop}{tk:TypeId}{D:Value->TP->TP}{T:TP}:∀{es r:List MapEntry},AGK P nt L tk D T es=some r->
  (∀e∈es,∃T' A',AC8 P nt e tk L.body (D (.tuple #[.bool true,e.key,e.val]) T) A2=some (T',A',dOf P nt L tk D T e))/\r=es.filter (fun e=>!dOf P nt L tk D T e)
 |[],r,h=>by cases h;exact⟨fun e he=>(by cases he),rfl⟩
 |e::es,r,h=>by
  simp only[AGK]at h;split at h
  ·cases h
  ·rename_i T' A' d hd
   split at h
   ·cases h
   ·rename_i r' hr
    obtain⟨h1,h2⟩:=AFo hr;have hdd:dOf P nt L tk D T e=d:=by unfold dOf;rw[hd]
    refine⟨fun x hx=>?_,?_⟩
    ·rcases List.mem_cons.1 hx with rfl|hx
     ·exact⟨T',A',by rw[hdd];exact hd⟩
     ·exact h1 x hx
    ·cases d with
     |true=>cases h;rw[List.filter_cons_of_neg (by rw[hdd];simp)];exact h2
     |false=>cases h;rw[List.filter_cons_of_pos (by rw[hdd];simp),h2]
theorem AFL{a:Act}{d:Tmp}{v:Value}(h:d<a.tmps.size):(a.put (some d) v).eval (.tmp d)=v:=by
 simp[Act.put,Act.eval,h]
theorem AGl{a:Act}{t:Tmp}{v:Value}(h:a.tmps[t]?=some v):a.eval (.tmp t)=v:=by
 simp only[Act.eval]
 first
  |rw[h];rfl
  |(rw[Array.getD_eq_getD_getElem?,h];rfl)
  |simp[h]
end
end
section
section
variable {P:Program}{w0:W0}{nt:Nat}{L:MapLoop}{tk:TypeId}{es:List MapEntry}{c b r:Nat}{g:Nat×Nat×Nat}{ws:World}{E:En}{T0:TP}{a0:Act}{DM DG D1 D2:Value->TP->TP}{b0:Nat}
structure LI(ws:World)(nt:Nat)(L:MapLoop)(es:List MapEntry)(c b r:Nat)(dd:MapEntry->Bool)(a0:Act)(k:Nat)(a:Act)(w:World):Prop where
 size:nt<=a.tmps.size
 defers:a.defers=a0.defers
 keep:∀t,t∉AC9 L->a.tmps[t]?=a0.tmps[t]?
 tM:a.tmps[L.tM]?=some (.map (some b))
 tg:a.tmps[L.g]?=some (.pointer (some ⟨r,0,none⟩))
 st:∃sn:Array Nat,RM ws b r c (es.filter (fun e=>!(sn.contains e.born&&dd e))) sn w/\(es.filter (fun e=>!sn.contains e.born)).length=k
theorem AMz{t:Nat}(h:t∈AD0 L):t∉AC9 L:=by
 unfold AD0 at h;simp only[List.mem_filter,List.all_eq_true,Bool.not_eq_true']at h;intro hm;have:=h.2 t hm;simp at this
theorem AL3(h:AJC L=true):L.tM≠L.g/\∀u∈L.d1::L.d2::ACv (ABy L.body),u≠L.tM/\u≠L.g:=by
 unfold AJC at h;simp only[Bool.and_eq_true,List.all_eq_true,Bool.not_eq_true']at h;refine⟨fun e=>?_,fun u hu=>⟨fun e=>?_,fun e=>?_⟩⟩
 ·have:=h.1;rw[e]at this;simp at this
 ·have:=(h.2 u hu).1;rw[e]at this;simp at this
 ·have:=(h.2 u hu).2;rw[e]at this;simp at this
theorem AOI(hT:TR E T0 a0.tmps)(hE:E b0=some (b,g))(hM:AAi nt (some L.tM)=.mk DM)(hG:AAi nt (some L.g)=.mk DG){dd:MapEntry->Bool}{k:Nat}{a:Act}{w:World}(h:LI ws nt L es c b r dd a0 k a w):
  TR (E2 b r g fun _=>none) (DG (.pointer (some ⟨1,0,none⟩)) (DM (.map (some 0)) (ABj b0 (AD0 L) T0))) a.tmps:=by
 obtain⟨m1,m2,rfl⟩:=ACI hM;obtain⟨g1,g2,rfl⟩:=ACI hG;intro t v ht hv;dsimp only at hv;rw[zk]at hv;split at hv
 ·rename_i e
  have:=ABO ht g2 e;subst this;cases hv;exact⟨_,h.tg,.ptr (g:=(0,0,0)) rfl rfl (by simp[E2])⟩
 ·rw[zk]at hv
  split at hv
  ·rename_i e
   have:=ABO ht m2 e;subst this;cases hv;exact⟨_,h.tM,.map (g:=g) (by simp[E2])⟩
  ·obtain⟨q1,q2⟩:=AMy ht hv
   have hk:=h.keep t (AMz q1);rcases q2 with⟨q2,q3⟩|⟨rfl,q2⟩
   ·obtain⟨v',k1,k2⟩:=hT t v ht q2
    rw[zO q3 k2]at k1;exact⟨v,hk.trans k1,zN q3⟩
   ·obtain⟨v',k1,k2⟩:=hT t _ ht q2
    cases k2 with|map k2=>
    rw[hE]at k2;cases k2;exact⟨_,hk.trans k1,.map (g:=g) (by simp[E2])⟩
theorem AKC{dd:MapEntry->Bool}{sn:Array Nat}{e:MapEntry}(hn:(es.map (·.born)).Nodup)(he:e∈es)(hs:sn.contains e.born=false):
  (bif dd e then(es.filter (fun x=>!(sn.contains x.born&&dd x))).filter (fun x=>x.born !=e.born)else es.filter (fun x=>!(sn.contains x.born&&dd x)))=es.filter (fun x=>!((sn.push e.born).contains x.born&&dd x)):=by
 have hinj:∀x∈es,x.born=e.born->x=e:=fun x hx hb=>by
  obtain⟨i,hi,rfl⟩:=List.getElem_of_mem hx;obtain⟨j,hj,rfl⟩:=List.getElem_of_mem he;have:i=j:=(List.getElem_inj (h₀:=by simpa using hi) (h₁:=by simpa using hj) hn).1 (by simpa using hb);subst this
  rfl
 have hpc:∀x:MapEntry,(sn.push e.born).contains x.born=(sn.contains x.born||x.born==e.born):=fun x=>by
  rw[Array.contains_push]
 cases hd:dd e with
 |true=>
  rw[cond_true,List.filter_filter];refine List.filter_congr fun x hx=>?_;rw[hpc];by_cases hb:x.born=e.born
  ·have:=hinj x hx hb
   subst this;simp[hd]
  ·have:(x.born==e.born)=false:=by simpa using hb
   simp[bne,this]
 |false=>
  rw[cond_false];refine List.filter_congr fun x hx=>?_;rw[hpc];by_cases hb:x.born=e.born
  ·have:=hinj x hx hb
   subst this;simp[hd]
  ·have:(x.born==e.born)=false:=by simpa using hb
   simp[this]
theorem AL4{sn:Array Nat}{e:MapEntry}(he:e∈es)(hs:sn.contains e.born=false):(es.filter (fun x=>!(sn.push e.born).contains x.born)).length<(es.filter (fun x=>!sn.contains x.born)).length:=by
 rw[<-List.countP_eq_length_filter,<-List.countP_eq_length_filter];have hpc:∀x:MapEntry,(sn.push e.born).contains x.born=(sn.contains x.born||x.born==e.born):=fun x=>by
  rw[Array.contains_push]
 induction es with
 |nil=>cases he
 |cons x l ih=>
  have hle:List.countP (fun x=>!(sn.push e.born).contains x.born) l<=List.countP (fun x=>!sn.contains x.born) l:=List.countP_mono_left fun y _ hy=>by
   rw[hpc]at hy;simp at hy⊢;exact hy.1
  rcases List.mem_cons.1 he with rfl|he
  ·rw[List.countP_cons_of_neg (by rw[hpc];simp),List.countP_cons_of_pos (by rw[hs];rfl)]
   omega
  ·have:=ih he
   rw[List.countP_cons,List.countP_cons];generalize List.countP (fun x=>!(sn.push e.born).contains x.born) l=A at this⊢;generalize List.countP (fun x=>!sn.contains x.born) l=B at this⊢;by_cases hx:(sn.push e.born).contains x.born=true
   ·rw[hx]
    refine Nat.lt_of_lt_of_le (m:=B) (by simpa using this) (Nat.le_add_right _ _)
   ·have hx':sn.contains x.born=false:=by
     rw[hpc]at hx;simp at hx;simpa using hx.1
    have hx:(sn.push e.born).contains x.born=false:=by simpa using hx
    rw[hx,hx'];simp;omega
end
end
section
section
variable {P:Program}{w0:W0}
theorem ACx{ro:Option Nat}{n:Nat}{ops:Array Oper}{Q:Exit->Act->World->Prop}{o:Oper}{l:List Oper}{a:Act}{w w':World}{v:Value}(hg:o.guard=none)(hnd:∀c,o.op≠.defer c)
  (hrun:(execOp a.eval o).run P w=.ok (.value v) w') (h:wpListIn (Fw ro) n P ops Q l (a.put o.dst v) w'):wpListIn (Fw ro) n P ops Q (o::l) a w:=by
 have hw:Region.wanted o (yielded ops a.tmps)=true:=by unfold Region.wanted;rw[hg]
 unfold wpListIn;rw[if_pos hw];refine⟨fun _ _=>trivial,?_⟩;rw[Oper.semAt_eq _ _ _ hnd,hrun];exact h
theorem AL5(hP:OkP P){nt:Nat}{p q:Code}{L:MapLoop}(hL:AGJ p q=some L):CS P w0 nt (fun _ _ _ s=>ANz P nt L s) (.seq p q):=by
 intro ca rd n hca hrd E s a w x s' ro m hS hK;dsimp only at hK;unfold ANz at hK;split at hK
 ·cases hK
 ·rename_i hap
  obtain⟨ap1,ap2⟩:=AL3 hap;split at hK
  ·rename_i tk te ht
   split at hK
   ·rename_i b hm
    obtain⟨hm1,hm2⟩:=AMx hm;split at hK
    ·rename_i es c hb
     split at hK
     ·rename_i hks
      have hKs:=AKA hks;obtain⟨DM,hDM,hK⟩:=KN hK (by intro e;cases e);obtain⟨DG,hDG,hK⟩:=KN hK (by intro e;cases e);obtain⟨D1,hD1,hK⟩:=KN hK (by intro e;cases e);obtain⟨D2,hD2,hK⟩:=KN hK (by intro e;cases e);split at hK
      ·cases hK
      ·rename_i rr hrr
       cases hK;obtain⟨rs1,rs2⟩:=AFo hrr;obtain⟨v',hv1,hv2⟩:=hS.tmps L.m _ hm1 hm2;cases hv2 with| @map _ b' g hE=>
       obtain⟨es0,hh,hes⟩:=hS.heap.obj _ _ _ _ hb hE;have hes0:=ERs.flat hKs.fv hes;have hbl:=hS.heap.base _ _ _ hE;obtain⟨id,ops,ty1,p1,af1,ty2,p2,af2,id',ops',ty3,p3,af3,ty4,p4,af4,rfl,hops,rfl,hops'⟩:=AJZ hL;obtain⟨m1,m2,_⟩:=ACI hDM;obtain⟨g1,g2,_⟩:=ACI hDG;obtain⟨d11,d12,_⟩:=ACI hD1;obtain⟨d21,d22,_⟩:=ACI hD2;have sz:=hS.size
       let a1:=(a.put (some L.tM) (.map (some b'))).put (some L.g) (.pointer (some ⟨w.heap.size,0,none⟩))
       let w1:=w.alloc (.mapIter (some b') c #[] c)
       have psz:∀(a:Act)(d:Tmp)(v:Value),(a.put (some d) v).tmps.size=a.tmps.size:=fun a d v=>by simp[Act.put]
       have hI:LI w nt L es c b' w.heap.size (dOf P nt L tk (fun v T=>D2 (.bool true) (D1 v T)) (DG (.pointer (some ⟨1,0,none⟩)) (DM (.map (some 0)) (ABj b (AD0 L) s.T)))) a (es.filter (fun e=>!(#[]:Array Nat).contains e.born)).length a1 w1:=by
        refine⟨by rw[psz,psz];exact sz,rfl,fun t ht=>?_,?_,?_,#[],?_,rfl⟩
        ·have h1:t≠L.tM:=fun e=>ht (by rw[e];simp[AC9])
         have h2:t≠L.g:=fun e=>ht (by rw[e];simp[AC9]);exact(AA6 fun e=>h2 (Option.some.inj e).symm).trans (AA6 fun e=>h1 (Option.some.inj e).symm)
        ·refine(AA6 fun e=>ap1 (Option.some.inj e).symm).trans ?_
         simp only[Act.put];rw[Array.getElem?_setIfInBounds_self_of_lt (show L.tM<a.tmps.size from Nat.lt_of_lt_of_le m1 sz)]
        ·show((a.put (some L.tM) (.map (some b'))).put (some L.g) (.pointer (some ⟨w.heap.size,0,none⟩))).tmps[L.g]?=_
         have:L.g<(a.put (some L.tM) (.map (some b'))).tmps.size:=by rw[psz];exact Nat.lt_of_lt_of_le g1 sz
         generalize a.put (some L.tM) (.map (some b'))=a' at this;simp only[Act.put];rw[Array.getElem?_setIfInBounds_self_of_lt this]
        ·have:es.filter (fun e=>!((#[]:Array Nat).contains e.born&&dOf P nt L tk (fun v T=>D2 (.bool true) (D1 v T)) (DG (.pointer (some ⟨1,0,none⟩)) (DM (.map (some 0)) (ABj b (AD0 L) s.T))) e))=es:=List.filter_eq_self.2 fun e _=>by simp
         rw[this];have hk:=Below.alloc (Below.refl w.heap.size w) (Nat.le_refl _) (.mapIter (some b') c #[] c);refine⟨hk.os,hk.tape,hk.output,hk.size,⟨hbl.2,Nat.le_refl _⟩,fun k hk' _=>hk.block k hk',ABp _ _,(hk.block b' hbl.2).trans ?_⟩;rw[hh,<-hes0]
       refine wpIn_seq ?_;refine wpIn_region_list ?_;rw[hops];have hr1:(execOp a.eval ⟨some L.tM,.move (.tmp L.m),ty1,p1,af1,none⟩).run P w=.ok (.value (.map (some b'))) w:=by
        simp[execOp,AGl hv1]
       refine ACx rfl (by intro c e;cases e) hr1 ?_;have hr2:(execOp (a.put (some L.tM) (.map (some b'))).eval ⟨some L.g,.range L.t (.tmp L.tM),ty2,p2,af2,none⟩).run P w=.ok (.value (.pointer (some ⟨w.heap.size,0,none⟩))) w1:=by
        simp[execOp,AFL (a:=a) (d:=L.tM) (v:=.map (some b')) (Nat.lt_of_lt_of_le m1 sz),run_range_map w L.t tk te b' es0 c ht hh,w1]
       refine ACx rfl (by intro c e;cases e) hr2 ?_;show(Code.block L.B _).wpIn (Fw ro) m P _ a1 w1;refine wpIn_block ?_;generalize hdd:dOf P nt L tk (fun v T=>D2 (.bool true) (D1 v T)) (DG (.pointer (some ⟨1,0,none⟩)) (DM (.map (some 0)) (ABj b (AD0 L) s.T)))=dd at hI;refine AHQ (fun k a1 w1=>LI w nt L es c b' w.heap.size dd a k a1 w1) ?_ _ hI;intro k a2 w2 hJ;obtain⟨sn,hM,hcnt⟩:=hJ.st;have hsub:∀f:MapEntry->Bool,(es.filter f).Sublist es:=fun f=>List.filter_sublist;refine wpIn_seq (wpIn_region_list ?_);rw[hops'];have ext:∀(vs:Array Value)(v:Value)(w3:World),vs[0]?=some v->(execOp (a2.put (some L.d1) (.tuple vs)).eval ⟨some L.d2,.extract (.tmp L.d1) 0,ty4,p4,af4,none⟩).run P w3=.ok (.value v) w3:=fun vs v w3 hv=>by
        have:=hJ.size;simp[execOp,AFL (a:=a2) (d:=L.d1) (v:=.tuple vs) (Nat.lt_of_lt_of_le d11 this),Instr.extract,hv]
       rcases run_next_at (P:=P) w2 ty3 w.heap.size b' c c sn (es.filter (fun e=>!(sn.contains e.born&&dd e))).toArray c hM.it hM.mp (fun e he=>hKs.lt e (by simp only[List.mem_filter]at he;exact he.1)) (Nat.le_refl _)with⟨hz,hnx⟩|⟨e,he,w3,hw3,hnx⟩
       ·have hrun:(execOp a2.eval ⟨some L.d1,.next (.tmp L.g) false,ty3,p3,af3,none⟩).run P w2=.ok (.value (.tuple #[.bool false])) w2:=by
         simp[execOp,AGl hJ.tg,hnx]
        refine ACx rfl (by intro c e;cases e) hrun (ACx rfl (by intro c e;cases e) (ext #[.bool false] (.bool false) w2 rfl) ?_);have sz2:=hJ.size;refine wpIn_seq (wpIn_cond_false (AFL (by rw[psz];exact Nat.lt_of_lt_of_le d21 sz2)) (wpIn_exit ?_));show Exit.inBlock L.B _ (.exit L.B) _ _;unfold Exit.inBlock;dsimp only;rw[if_pos rfl];have hall:∀e∈es,sn.contains e.born=true:=fun e he=>by
         cases hs:sn.contains e.born with
         |true=>rfl
         |false=>
          have hm:e∈(leftOf (es.filter (fun e=>!(sn.contains e.born&&dd e))).toArray sn).toList:=by
           unfold leftOf;simp only[Array.toList_filter,List.mem_filter];exact⟨⟨he,by rw[hs];rfl⟩,by rw[hs];rfl⟩
          have h0:(leftOf (es.filter (fun e=>!(sn.contains e.born&&dd e))).toArray sn).toList=[]:=List.eq_nil_of_length_eq_zero (by simpa using hz);rw[h0]at hm;cases hm
        have hend:es.filter (fun e=>!(sn.contains e.born&&dd e))=rr:=by
         rw[rs2,hdd];exact List.filter_congr fun e he=>by rw[hall e he];rfl
        rw[hend]at hM;refine⟨E,En.le_rfl,trivial,⟨by rw[psz,psz];exact sz2,fun t v ht hv=>?_,?_,by rw[show((a2.put (some L.d1) (.tuple #[.bool false])).put (some L.d2) (.bool false)).defers=a2.defers from rfl,hJ.defers];exact hS.defers,hS.round⟩,rfl⟩
        ·obtain⟨k1,k2⟩:=AL2 ht hv
         obtain⟨v',k3,k4⟩:=hS.tmps t v ht k2;have h1:L.d1≠t:=fun e=>k1 (by rw[<-e];simp[AC9]);have h2:L.d2≠t:=fun e=>k1 (by rw[<-e];simp[AC9]);exact⟨v',(((AA6 fun e=>h2 (Option.some.inj e)).trans (AA6 fun e=>h1 (Option.some.inj e))).trans (hJ.keep t k1)).trans k3,k4⟩
        ·have hsame:∀e∈rr,vS e.val=true:=fun e he=>hKs.fv e (by rw[rs2]at he;exact(hsub _).subset he);have hput:=hS.heap.put (o:=.map rr c) (w':=ChangeMaps.setBlock w b' (.map rr.toArray c)) hb rfl hE ⟨rr.toArray,by simp[ChangeMaps.setBlock,hbl.2],by simpa using ERs.same hsame⟩ (by simp[ChangeMaps.setBlock]) (fun k hk=>by simp only[ChangeMaps.setBlock];rw[Array.getElem?_setIfInBounds_ne (Ne.symm hk)]) rfl rfl rfl;refine hput.grow ⟨hM.os,hM.tape,hM.output,by simpa[ChangeMaps.setBlock]using hM.size,fun k hk=>?_⟩;have hk:k<w.heap.size:=by simpa[ChangeMaps.setBlock]using hk
         by_cases hkb:k=b'
         ·subst hkb
          rw[hM.mp];simp[ChangeMaps.setBlock,hbl.2]
         ·rw[hM.oth k hk hkb]
          simp only[ChangeMaps.setBlock];rw[Array.getElem?_setIfInBounds_ne (Ne.symm hkb)]
       ·have hm:e∈es.filter (fun e=>!(sn.contains e.born&&dd e))/\sn.contains e.born=false:=by
         unfold leftOf at he;simp only[Array.toList_filter,List.mem_filter]at he;exact⟨List.mem_filter.2 he.1,by simpa using he.2⟩
        have hee:e∈es:=(hsub _).subset hm.1;have hrun:(execOp a2.eval ⟨some L.d1,.next (.tmp L.g) false,ty3,p3,af3,none⟩).run P w2=.ok (.value (.tuple #[.bool true,e.key,e.val])) (ChangeMaps.setBlock w3 w.heap.size (.mapIter (some b') c (sn.push e.born) c)):=by
         simp[execOp,AGl hJ.tg,hnx]
        have hM3:RM w b' w.heap.size c (es.filter (fun e=>!(sn.contains e.born&&dd e))) (sn.push e.born) (ChangeMaps.setBlock w3 w.heap.size (.mapIter (some b') c (sn.push e.born) c)):=by
         rcases hw3 with rfl|rfl
         ·exact hM.turn _
         ·exact hM.drew.turn _
        generalize ChangeMaps.setBlock w3 w.heap.size (.mapIter (some b') c (sn.push e.born) c)=w4 at hM3 hrun;refine ACx rfl (by intro c e;cases e) hrun (ACx rfl (by intro c e;cases e) (ext #[.bool true,e.key,e.val] (.bool true) w4 rfl) ?_);have sz2:=hJ.size;refine wpIn_seq (wpIn_cond_true (AFL (by rw[psz];exact Nat.lt_of_lt_of_le d21 sz2)) (wpIn_skip ?_));show(Code.block L.C L.body).wpIn (Fw ro) m P _ ((a2.put (some L.d1) (.tuple #[.bool true,e.key,e.val])).put (some L.d2) (.bool true)) w4;obtain⟨T',A',hbody⟩:=rs1 e hee;rw[hdd]at hbody;have hTR:=AOI hS.tmps hE hDM hDG hJ;have hv:VR (E2 b' w.heap.size g fun _=>none) (.tuple #[.bool true,e.key,e.val]) (.tuple #[.bool true,e.key,e.val]):=.tuple (.cons (.bool _) (.cons (zN (hKs.fk e hee)) (.cons (zN (hKs.fv e hee)) .nil)));obtain⟨q1,q2,q3⟩:=ABW hD1 sz2 hTR hv;obtain⟨q4,q5,q6⟩:=ABW hD2 q2 q1 (.bool true);refine wpIn_block (wpIn_mono (AKB hP hKs (hsub _) hm.1 hM3 L.body _ _ T' A' (dd e) _ w4 hbody q5 ⟨_,HR.bare w4,q4⟩) fun y a5 w5 hy=>?_);obtain⟨rfl,r1,r2,r3,r4,r5⟩:=hy;rw[AKC hKs.nd hee hm.2]at r5;have hk5:∀t,t∉ACv (ABy L.body)->L.d1≠t->L.d2≠t->a5.tmps[t]?=a2.tmps[t]?:=fun t h1 h2 h3=>(r4 t h1).trans ((AA6 fun e=>h3 (Option.some.inj e)).trans (AA6 fun e=>h2 (Option.some.inj e)));refine⟨_,by rw[<-hcnt];exact AL4 hee hm.2,r1,(r3.trans (q6.trans q3)).trans hJ.defers,fun t ht=>?_,?_,?_,sn.push e.born,r5,rfl⟩
        ·simp only[AC9,List.mem_cons,not_or]at ht
         exact(hk5 t ht.2.2.2.2 (Ne.symm ht.2.2.1) (Ne.symm ht.2.2.2.1)).trans (hJ.keep t (by simp only[AC9,List.mem_cons,not_or];exact ht))
        ·exact(hk5 _ (fun hm=>(ap2 _ (by simp[hm])).1 rfl) (ap2 _ (by simp)).1 (ap2 _ (by simp)).1).trans hJ.tM
        ·exact(hk5 _ (fun hm=>(ap2 _ (by simp[hm])).2 rfl) (ap2 _ (by simp)).2 (ap2 _ (by simp)).2).trans hJ.tg
     ·cases hK
    ·cases hK
   ·cases hK
  ·cases hK
end
end
section
section
variable {P:Program}{w0:W0}{E:En}
theorem PostC.step{nt:Nat}{E':En}{s s1 s':St}{x:Ax}{ro:Option Nat}{e:Exit}{a:Act}{w:World}(h:PostC w0 nt E' s1 x s' ro e a w)(hle:En.le E E')(hr:s1.rd=s.rd):PostC w0 nt E s x s' ro e a w:=by
 obtain⟨E2,h1,h2,h3,h4⟩:=h;exact⟨E2,hle.trans h1,h2,h3,h4.trans hr⟩
theorem ABe{b:Frame}{a:Act}{k:List Item}{cs:List Frame}{w:World}{c:Code}:step P (lone (b.atR a (.code (.scope c)::k)) cs w)=.next (lone (b.atR a (.code c::.inScope c::k)) cs w):=
 step_lone_go (by simp[stepG,stepG.exec,Frame.atR])
theorem AIj{b:Frame}{a:Act}{k:List Item}{cs:List Frame}{w:World}{c:Code}:step P (lone (b.atR a (.inScope c::k)) cs w)=.next (lone (b.atR a k) cs w):=
 step_lone_go (by simp[stepG,stepG.exec,Frame.atR])
theorem AL6{F:Fence}{n:Nat}{Q:Exit->Act->World->Prop}{c:Code}{a:Act}{w:World}(hg:∀l a w,¬Q (.goto l) a w)(h:c.wpIn F n P Q a w):(Code.scope c).wpIn F n P Q a w:=by
 intro b k cs hro hb hr;obtain⟨e,a₁,w₁,hq,harr⟩:=h b (.inScope c::k) cs hro hb hr;have h0:(lone (b.atR a (.code (.scope c)::k)) cs w).fenced P F:=fenced_calm hb hr rfl;cases e with
 |normal=>exact⟨.normal,a₁,w₁,hq,.head h0 ABe (StepsIn.trans harr (.one (fenced_calm hb hr rfl) AIj))⟩
 |exit id=>
  have hx:exitTo id (.inScope c::k)=exitTo id k:=by simp[exitTo]
  exact⟨_,a₁,w₁,hq,fun k' hk=>.head h0 ABe (harr.1 k' (by rw[hx];exact hk)),
   fun hr' hk=>let⟨k₁,h1,h2⟩:=harr.2 hr' (by rw[hx];exact hk);⟨k₁,h1,.head h0 ABe h2⟩⟩
 |goto l=>exact absurd hq (hg l a₁ w₁)
 |ret=>exact⟨_,a₁,w₁,hq,.of_steps (.one h0 ABe) harr⟩
 |panic ch=>exact⟨_,a₁,w₁,hq,.of_steps (.one h0 ABe) harr⟩
 |outgrown=>exact⟨_,a₁,w₁,hq,.of_steps (.one h0 ABe) harr⟩
theorem ABf(hP:OkP P){nt:Nat}(c:Code):∀{K:CK},AAE P nt c=.mk K->CS P w0 nt K c:=by
 induction c with
 |skip=>intro K h;cases h;intro ca rd n hca hrd E s a w x s' ro m hS hK;cases hK;exact wpIn_skip ⟨E,En.le_rfl,trivial,hS,rfl⟩
 |label l=>intro K h;cases h;intro ca rd n hca hrd E s a w x s' ro m hS hK;cases hK;exact wpIn_label ⟨E,En.le_rfl,trivial,hS,rfl⟩
 |ret=>intro K h;cases h;intro ca rd n hca hrd E s a w x s' ro m hS hK;cases hK;exact wpIn_ret ⟨E,En.le_rfl,trivial,hS,rfl⟩
 |exit id=>intro K h;cases h;intro ca rd n hca hrd E s a w x s' ro m hS hK;cases hK;exact wpIn_exit ⟨E,En.le_rfl,rfl,hS,rfl⟩
 |goto l=>intro K h;cases h
 |refuse y=>intro K h;cases h
 |seq p q ihp ihq=>
  intro K h;simp only[AAE]at h;split at h
  ·rename_i L hL
   cases h;exact AL5 hP hL
  cases h;intro ca rd n hca hrd E s a w x s' ro m hS hK;obtain⟨X,hX,hK⟩:=KN hK (by intro e;cases e);cases hx:X ca rd n s with
  |no u v=>rw[hx]at hK;cases hK
  |ok y s1=>
   rw[hx]at hK;refine wpIn_seq (wpIn_mono (ihp hX ca rd n hca hrd E s a w y s1 ro m hS hx) fun e a1 w1 he=>?_);cases y with
   |normal=>
    have:=he.normal;subst this;obtain⟨E1,h1,_,h3,h4⟩:=he;obtain⟨Y,hY,hK⟩:=KN hK (by intro e;cases e);exact wpIn_mono (ihq hY ca rd n hca hrd E1 s1 a1 w1 x s' ro m h3 hK) fun e a2 w2 he=>he.step h1 h4
   |exit j=>
    cases hK;obtain⟨E1,h1,h2,h3,h4⟩:=he;cases e<;>first|exact h2.elim|exact⟨E1,h1,h2,h3,h4⟩
   |ret=>
    cases hK;obtain⟨E1,h1,h2,h3,h4⟩:=he;cases e<;>first|exact h2.elim|exact⟨E1,h1,h2,h3,h4⟩
 |cond c p q ihp ihq=>
  intro K h;simp only[AAE]at h;cases h;intro ca rd n hca hrd E s a w x s' ro m hS hK;obtain⟨C,hC,hK⟩:=KN hK (by intro e;cases e);split at hK
  ·rename_i hc
   have hv:=yV hC hc hS.tmps;generalize hz:a.eval c=z at hv;cases hv;obtain⟨X,hX,hK⟩:=KN hK (by intro e;cases e);exact wpIn_cond_true hz (ihp hX ca rd n hca hrd E s a w x s' ro m hS hK)
  ·rename_i hc
   have hv:=yV hC hc hS.tmps;generalize hz:a.eval c=z at hv;cases hv;obtain⟨X,hX,hK⟩:=KN hK (by intro e;cases e);exact wpIn_cond_false hz (ihq hX ca rd n hca hrd E s a w x s' ro m hS hK)
  ·cases hK
 |block id p ih=>
  intro K h;simp only[AAE]at h;cases h;intro ca rd n hca hrd E s a w x s' ro m hS hK;obtain⟨X,hX,hK⟩:=KN hK (by intro e;cases e);cases hx:X ca rd n s with
  |no u v=>rw[hx]at hK;cases hK
  |ok y s1=>
   rw[hx]at hK;refine wpIn_block (wpIn_mono (ih hX ca rd n hca hrd E s a w y s1 ro m hS hx) fun e a1 w1 he=>?_);obtain⟨E1,h1,h2,h3,h4⟩:=he;cases y with
   |normal=>cases hK;cases e<;>first|exact h2.elim|exact⟨E1,h1,h2,h3,h4⟩
   |ret=>cases hK;cases e<;>first|exact h2.elim|exact⟨E1,h1,h2,h3,h4⟩
   |exit j=>
    cases e<;>try exact h2.elim
    rename_i j';have h2:j'=j:=h2;subst h2;dsimp only at hK;unfold Exit.inBlock;dsimp only;split at hK
    ·rename_i hb
     have:=Nat.eq_of_beq_eq_true hb;cases hK;rw[if_pos this];exact⟨E1,h1,trivial,h3,h4⟩
    ·rename_i hb
     have:=Nat.ne_of_beq_eq_false hb;cases hK;rw[if_neg this];exact⟨E1,h1,rfl,h3,h4⟩
 |loop p ih=>
  intro K h;simp only[AAE]at h;cases h;intro ca rd n hca hrd E s a w x s' ro m hS hK;obtain⟨X,hX,hK⟩:=KN hK (by intro e;cases e);exact ALu (ih hX) ca rd n hca hrd E s a w x s' ro m hS hK
 |scope p ih=>
  intro K h;simp only[AAE]at h;cases h;intro ca rd n hca hrd E s a w x s' ro m hS hK;obtain⟨X,hX,hK⟩:=KN hK (by intro e;cases e);refine AL6 (fun l a w hq=>?_) (ih hX ca rd n hca hrd E s a w x s' ro m hS hK);obtain⟨_,_,h2,_⟩:=hq;cases x<;>exact h2.elim
 |rangeFunc g ps az b _ _=>intro K h;cases h;exact AJ6
 |region id ops draw=>
  intro K h;cases draw with
  |true=>
   simp only[AAE]at h;cases h;intro ca rd n hca hrd E s a w x s' ro m hS hK;obtain⟨L,hL,hK⟩:=KN hK (by intro e;cases e);obtain⟨f,r,T,ms,A⟩:=s;dsimp only at hK;split at hK
   ·rename_i T' A' hLr
    cases hK;refine AJ9 hP hL hca hrd hLr hS.size hS.tmps hS.heap fun E' a' w' h1 h2 h3 h4 h5=>?_;exact⟨E',h1,trivial,⟨h2,h3,h4,by rw[h5];exact hS.defers.mono h1,hS.round.mono h1⟩,rfl⟩
   ·cases hK
  |false=>
   simp only[AAE]at h;cases h;intro ca rd n hca hrd E s a w x s' ro m hS hK;obtain⟨L,hL,hK⟩:=KN hK (by intro e;cases e);obtain⟨f,r,T,ms,A⟩:=s;refine wpIn_region_list (AMk hP _ hL (hca _) (hrd _) hS.size hS.tmps hS.heap hK fun E' T' a' w' A' h1 h2 h3 h4 h5 h6 h7=>?_);subst h6 h7;exact⟨E',h1,trivial,⟨h2,h3,h4,by rw[h5];exact hS.defers.mono h1,hS.round.mono h1⟩,rfl⟩
theorem AM0{nt:Nat}:∀(ps:List Tmp)(xs xs':List Value)(T:TP)(tm:Array Value),(∀t∈ps,t<nt/\t<65535)->nt<=tm.size->VRs E xs xs'->TR E T tm->
  TR E (AD1 ps xs T) ((ps.zip xs').foldl (fun tmps(p:Tmp×Value)=>tmps.setIfInBounds p.1 p.2) tm)/\nt<=((ps.zip xs').foldl (fun tmps(p:Tmp×Value)=>tmps.setIfInBounds p.1 p.2) tm).size:=by
 intro ps
 induction ps with
 |nil=>intro xs xs' T tm _ hs _ hT;simp[AD1];exact⟨hT,hs⟩
 |cons t ps ih=>
  intro xs xs' T tm hp hs hx hT;cases hx with
  |nil=>simp[AD1];exact⟨hT,hs⟩
  | @cons v v' _ _ h1 h2=>
   simp only[AD1,List.zip_cons_cons,List.foldl_cons];obtain⟨q1,q2⟩:=hp t (by simp);have hD:AAi nt (some t)=.mk fun v T=>ADP (way 16 t) (.mk v) T:=by
    simp only[AAi];have b1:Nat.blt t nt=true:=by rw[Nat.blt_eq];exact q1
    have b2:Nat.blt t 65535=true:=by rw[Nat.blt_eq];exact q2
    rw[b1,b2]
    rfl
   obtain⟨k1,k2,_⟩:=ABW (a:=⟨tm,[]⟩) hD hs hT h1;exact ih _ _ _ _ (fun u hu=>hp u (by simp[hu])) k2 h2 k1
theorem AJb{l l':Nat}{g:Nat×Nat×Nat}{x:Ax}{s2:St}{v:Value}{A':AH}{e:Exit}{a2:Act}{w2:World}(h:AJE l x s2=.ok v A')(hx:ExR x e)(hH:HR w0 E s2.A w2)(hE:E l=some (l',g)){E0:En}(hle:En.le E0 E):
  roundPost P l' (AGk w0 E0 v A') e a2 w2:=by
 unfold AJE at h;split at h
 ·rename_i r hr
  have key:∀(jump:Option Code)(st:LoopState),st=(if jump.isNone then LoopState.ready else .done)->∃w',(Instr.endRound l' jump).run P w2=.ok (.bool jump.isNone) w'/\HR w0 E (s2.A.put l (.loop {r with state:=st,pending:=jump})) w':=by
   intro jump st hst;subst hst;obtain⟨r',k1,k2,k3⟩:=hH.turn hr hE (if jump.isNone then .ready else .done) jump;exact⟨_,run_endRound jump k1,k3⟩
  split at h
  ·cases e<;>try exact hx.elim
   cases h;obtain⟨w',k1,k2⟩:=key none .ready rfl;exact⟨_,w',k1,E,.bool true,rfl,hle,.bool _,k2⟩
  ·cases e<;>try exact hx.elim
   cases h;obtain⟨w',k1,k2⟩:=key (some .ret) .done rfl;exact⟨_,w',k1,E,.bool false,rfl,hle,.bool _,k2⟩
  ·cases e<;>try exact hx.elim
   rename_i j j';have hx:j'=j:=hx;subst hx;cases h;obtain⟨w',k1,k2⟩:=key (some (.exit j')) .done rfl;exact⟨_,w',k1,E,.bool false,rfl,hle,.bool _,k2⟩
 ·cases h
theorem AKD(hP:OkP P){ca:vK}{rd:aZ}{n:Nat}(hca:∀w,CaS P w ca)(hrd:∀w,RdS P w rd):RdS P w0 (AJF P ca rd n):=by
 intro E l l' g xs A v A' xs' w m hK hE hxs hH;unfold AJF at hK;split at hK
 ·rename_i r hr
  split at hK
  ·rename_i hst
   split at hK
   ·cases hK
   ·rename_i hlen
    have hlen:=Nat.eq_of_beq_eq_true hlen;obtain⟨r',k1,k2⟩:=hH.obj _ _ _ _ hr hE;have hsz:xs'.size=r'.params.size:=by
     have h1:=hxs.length;have h2:=congrArg List.length k2.params;simp only[Array.length_toList]at h1 h2;omega
    split at hK
    ·cases hK
    ·rename_i s1 hap
     obtain⟨X,hX,hx⟩:=KN hap (by intro e;cases e);refine⟨r'.fn,_,r'.assign,r'.body,run_yield k1 hsz,roundIn_of_wpIn trivial ?_⟩;rw[k2.assign,k2.body];have hz:=AM0 r.params xs xs'.toList r.tmps r'.tmps k2.pok k2.size hxs k2.tmps;have hfold:(r'.params.zip xs').foldl (fun tmps(p:Tmp×Value)=>tmps.setIfInBounds p.1 p.2) r'.tmps=(r.params.zip xs'.toList).foldl (fun tmps(p:Tmp×Value)=>tmps.setIfInBounds p.1 p.2) r'.tmps:=by
      rw[<-Array.foldl_toList,Array.toList_zip,k2.params]
     rw[<-hfold]at hz;have hS:SR w0 r.nt E ⟨l,some l,AD1 r.params xs r.tmps,[],A⟩ {tmps:=(r'.params.zip xs').foldl (fun tmps(p:Tmp×Value)=>tmps.setIfInBounds p.1 p.2) r'.tmps,defers:=[]} w (some l'):=⟨hz.2,hz.1,hH,.nil,g,hE⟩;refine wpIn_mono (ABf hP _ hX ca rd n hca hrd E _ _ w .normal s1 (some l') m hS hx) fun e a1 w1 he=>?_;have:=he.normal;subst this;obtain⟨E1,h1,_,h3,h4⟩:=he;unfold round2 at hK;split at hK
     ·rename_i r1 hr1
      split at hK
      ·rename_i hst1
       split at hK
       ·cases hK
       ·rename_i x s2 hap2
        obtain⟨Y,hY,hy⟩:=KN hap2 (by intro e;cases e);obtain⟨r1',q1,q2,q3⟩:=h3.heap.turn hr1 (EP h1 hE) .busy r1.pending;refine⟨_,run_beginRound q1 (by rw[q2.state];exact hst1),?_⟩;have hS2:SR w0 r.nt E1 {s1 with A:=s1.A.put l (.loop {r1 with state:=.busy})} a1 (w1.putObj l' (.loop {r1' with state:=.busy})) (some l'):=by
         refine⟨h3.size,h3.tmps,?_,h3.defers,h3.round⟩;have e:(Obj.loop {r1' with state:=.busy,pending:=r1.pending})=.loop {r1' with state:=.busy}:=by rw[<-q2.pending]
         rw[e]at q3;exact q3
        refine wpIn_mono (ABf hP _ hY ca rd n hca hrd E1 _ a1 _ x s2 (some l') m hS2 hy) fun e a2 w2 he=>?_;obtain⟨E2,p1,p2,p3,p4⟩:=he;exact AJb hK p2 p3.heap (EP (h1.trans p1) hE) (h1.trans p1)
      ·cases hK
     ·cases hK
    ·cases hK
  ·cases hK
 ·cases hK
end
end
section
section
variable {P:Program}{w0:W0}{E:En}
theorem AJc(hP:OkP P){g:FuncId}{fn:Func}{c:Code}{args:Array Value}{w:World}(hf:P.funcs[g]?=some fn)(hb:fn.body=some c):(callFunc g args).run P w=.ok (.enter g args) w:=by
 have hn:=hP.name g fn hf;have hb2:fn.body.isNone=false:=by rw[hb];rfl
 unfold callFunc;rw[Sem.run_bind];show(match P.funcs[g]? with|none=>_|some fn=>_:Sem Next).run P w=_;rw[hf];dsimp only;rw[hn,hb2]
 rfl
theorem AKE:∀(args args':List Value)(i:Nat)(T:TP)(tm:Array Value),VRs E args args'->TR E T tm->(∀j v,args'[j]?=some v->tm[i+j]?=some v)->i+args.length<=65535->TR E (AHD i args T) tm:=by
 intro args
 induction args with
 |nil=>intro args' i T tm _ hT _ _;exact hT
 |cons v args ih=>
  intro args' i T tm hv hT hj hl;simp only[List.length_cons]at hl;cases hv with| @cons _ v' _ l' h1 h2=>
  refine ih l' (i+1) _ tm h2 ?_ (fun j u hu=>by have:=hj (j+1) u hu;rw[show i+1+j=i+(j+1) by omega];exact this) (by omega);intro t u ht hu;rw[zk]at hu;split at hu
  ·rename_i he
   have:=ABO ht (by omega) he;subst this;cases hu;exact⟨v',hj 0 v' rfl,h1⟩
  ·exact hT t u ht hu
theorem AKF{fn:Func}{tmps:Array Value}{m:Nat}{R:Ending->World->Prop}:∀(bs:List Nat)(ds:List Deferred)(A A2:AH)(w:World),AGL bs A=some A2->DM E bs ds->HR w0 E A w->
  (∀w2,HR w0 E A2 w2->LeavesIn Fence.wide m P fn tmps R [] .returning w2)->LeavesInM Fence.wide m P fn tmps R ds .returning w:=by
 intro bs
 induction bs with
 |nil=>intro ds A A2 w h hd hH hR;cases hd;cases h;exact hR w hH
 |cons b bs ih=>
  intro ds A A2 w h hd hH hR;cases hd with| @cons _ b' g _ ds hb ht=>
  simp only[AGL]at h;split at h
  ·rename_i hA
   have ho:=hH.obj _ _ _ _ hA hb;have ho:w.heap[b']?=some (.deferred (some [])):=ho;have hlt:=(hH.base _ _ _ hb).2;obtain⟨k1,k2⟩:=AGZ (w:=w) (b:=b') (o:=.deferred none);exact⟨(by intro e;cases e),.inl ⟨b',_,rfl,run_takeDeferred ho,ih ds _ A2 _ h ht (hH.put hA rfl hb (World.putObj_heap_same hlt) k1 k2 rfl rfl rfl) hR⟩⟩
  ·cases h
theorem AL7{t:TypeId}{p p':Addr}{A:AH}{w:World}{v:Value}(h:AN0 P t p A=some v)(hp:VR E (.pointer (some p)) (.pointer (some p')))(hH:HR w0 E A w):
  ∃(E':En)(v':Value),(Go.loadVar t p').run P w=.ok v' w/\En.le E E'/\VR E' v v'/\HR w0 E' A w:=by
 unfold AN0 at h;split at h
 ·cases h
 ·rename_i d hd
  have hun:P.underlying t≠none:=by rw[hd];exact fun e=>by cases e
  obtain⟨A',hl,e⟩:=AHM hun h;subst e;obtain⟨E',v',w',h1,h2,h3,h4⟩:=Sim.loadVar hp E A' w En.le_rfl hH v A' hl;have hw:w'=w:=by
   unfold Go.loadVar at h2;have hq:=(Q.isAgg (P:=P) (t:=t) A' _ A' (AHK hun)).2 w;rw[IB hq]at h2;cases hg:AFg P t with
   |true=>
    rw[hg,if_pos rfl]at h2;obtain⟨inf,hi⟩:=AJL hd;rw[IB (AFI hi),Sem.run_bind]at h2;cases hr:(Go.loadCells p' (P.cellsOf t)).run P w with
    |halt x y=>rw[hr]at h2;cases h2
    |ok c w2=>rw[hr]at h2;cases h2;exact AEa _ hr
   |false=>
    rw[hg]at h2;simp only[Bool.false_eq_true,if_false,Go.load,Sem.run]at h2;split at h2
    ·cases h2;rfl
    ·split at h2
     ·cases h2;rfl
     ·cases h2
  subst hw;exact⟨E',v',h2,h1,h3,h4⟩
theorem AL8{T:TP}{a:Act}{A:AH}{w:World}{g:ResultVar->Sem Value}(hg1:∀t,g (.tmp t)=Pure.pure (a.tmps.getD t undef))(hg2:∀c t,g (.cell c t)=(do Go.loadVar t (<-asAddr (a.tmps.getD c undef)))):∀(l:List ResultVar)(E:En)(vs:List Value),TR E T a.tmps->HR w0 E A w->AHt P l T A=some vs->
  ∃(E':En)(vs':List Value),(l.mapM g).run P w=.ok vs' w/\En.le E E'/\VRs E' vs vs'/\HR w0 E' A w:=by
 have tv:∀{E:En}{t:Nat}{v:Value},TR E T a.tmps->AGg t T=.mk v->∃v',a.tmps.getD t undef=v'/\VR E v v':=by
  intro E t v hT h;unfold AGg at h;split at h
  ·rename_i hb
   obtain⟨v',h1,h2⟩:=hT t v (by simpa[Nat.blt_eq]using hb) h;exact⟨v',by simp[Array.getD_eq_getD_getElem?,h1],h2⟩
  ·cases h
 intro l
 induction l with
 |nil=>intro E vs hT hH h;cases h;exact⟨E,[],rfl,En.le_rfl,.nil,hH⟩
 |cons r l ih=>
  intro E vs hT hH h;rw[List.mapM_cons];cases r with
  |tmp t=>
   simp only[AHt]at h;split at h
   ·rename_i v hv
    split at h
    ·rename_i us hus
     cases h;obtain⟨v',e1,e2⟩:=tv hT hv;obtain⟨E',vs',k1,k2,k3,k4⟩:=ih E us hT hH hus;refine⟨E',v'::vs',?_,k2,.cons (e2.mono k2) k3,k4⟩;rw[hg1,e1];exact(IB (s:=(Pure.pure v':Sem Value)) rfl).trans ((IB k1).trans rfl)
    ·cases h
   ·cases h
  |cell c t=>
   simp only[AHt]at h;split at h
   ·rename_i p hp
    split at h
    ·rename_i v hv
     split at h
     ·rename_i us hus
      cases h;obtain⟨z,e1,e2⟩:=tv hT hp;obtain⟨p',e3⟩:=ADm e2;rw[e3]at e2 e1;obtain⟨E1,v',q1,q2,q3,q4⟩:=AL7 hv e2 hH;obtain⟨E',vs',k1,k2,k3,k4⟩:=ih E1 us (hT.mono q2) q4 hus;refine⟨E',v'::vs',?_,q2.trans k2,.cons (q3.mono k2) k3,k4⟩;rw[hg2,e1];have:(do Go.loadVar t (<-asAddr (.pointer (some p'))):Sem Value).run P w=.ok v' w:=(IB (s:=asAddr (.pointer (some p'))) rfl).trans q1;exact(IB this).trans ((IB k1).trans rfl)
     ·cases h
    ·cases h
   ·cases h
def AOJ(tm:Array Value):ResultVar->Sem Value
 |.tmp t=>Pure.pure (tm.getD t undef)
 |.cell c t=>do Go.loadVar t (<-asAddr (tm.getD c undef))
theorem APr{vs vs':List Value}(h:VRs E vs vs'):VR E (AQk vs) (if h:vs'.length=1 then vs'[0]else .tuple vs'.toArray):=by
 cases h with
 |nil=>exact .tuple .nil
 |cons h1 h2=>
  cases h2 with
  |nil=>exact h1
  |cons h3 h4=>exact .tuple (.cons h1 (.cons h3 h4))
theorem AHU{fn:Func}{s s0:St}{x:Ax}{e:Exit}{a':Act}{w':World}{m:Nat}{v:Value}{A':AH}(hp:PostC w0 fn.ntmps E s0 x s none e a' w')(hk:AFF P fn s=.ok v A'){R:Ending->World->Prop}(hR:∀e w,AGk w0 E v A' e w->R e w):LeavesInM Fence.wide m P fn a'.tmps R a'.defers .returning w':=by
 obtain⟨E1,h1,h2,h3,_⟩:=hp;unfold AFF at hk;split at hk
 ·cases hk
 ·rename_i A2 htk
  split at hk
  ·rename_i vs hvs
   cases hk;refine AKF _ _ _ _ _ htk h3.defers h3.heap fun w2 hH2=>?_;obtain⟨E2,vs',k1,k2,k3,k4⟩:=AL8 (g:=AOJ a'.tmps) (fun _=>rfl) (fun _ _=>rfl) _ E1 vs h3.tmps hH2 hvs;refine⟨_,?_,hR _ _ ⟨E2,_,rfl,h1.trans k2,APr k3,k4⟩⟩;have:(fn.results.mapM (AOJ a'.tmps)).run P w2=.ok vs'.toArray w2:=by
    rw[Array.mapM_eq_mapM_toList];exact IB (k:=fun l=>Pure.pure (List.toArray l)) k1
   show(do let vs<-fn.results.mapM (AOJ a'.tmps);Pure.pure (if h:vs.size=1 then vs[0]else .tuple vs):Sem Value).run P w2=_;refine(IB this).trans ?_;simp only[List.size_toArray];split<;>rfl
  ·cases hk
theorem AL9(hP:OkP P){ca:vK}{rd:aZ}{n:Nat}(hca:∀w,CaS P w ca)(hrd:∀w,RdS P w rd):CaS P w0 (ALb P ca rd n):=by
 intro E f args A v A' args' w m hK hargs hH;unfold ALb at hK;split at hK
 ·cases hK
 ·rename_i fn hf
  split at hK
  ·cases hK
  ·rename_i c hb
   refine⟨AJc hP hf hb,callsIn_of_wp_marks hf hb trivial ?_⟩;split at hK
   ·cases hK
   ·rename_i hlen
    rw[Nat.blt_eq]at hlen;have hal:args'.size=args.length:=by have:=hargs.length;simpa using this
    have hS:SR w0 fn.ntmps E ⟨f,none,AHD 0 args .lf,[],A⟩ {tmps:=args'++Array.replicate (fn.ntmps-args'.size) undef,defers:=[]} w none:=by
     refine⟨by simp;omega,AKE args args'.toList 0 .lf _ hargs (fun t u _ hu=>by rw[AAp]at hu;cases hu) (fun j u hu=>?_) (by omega),hH,.nil,trivial⟩;rw[Nat.zero_add];have:j<args'.size:=by simpa using(List.getElem?_eq_some_iff.1 hu).1
     rw[Array.getElem?_append_left this];simpa using hu
    have fin:∀{s:St}{x:Ax}{e:Exit}{a':Act}{w':World},(x=.normal\/x=.ret)->PostC w0 fn.ntmps E ⟨f,none,AHD 0 args .lf,[],A⟩ x s none e a' w'->AFF P fn s=.ok v A'->bodyPostM Fence.wide m P fn (AGk w0 E v A') e a' w':=by
     intro s x e a' w' hx hp hk;have key:=AHU (m:=m) hp hk (fun _ _ h=>h);obtain⟨E1,h1,h2,h3,_⟩:=hp;rcases hx with rfl|rfl<;>cases e<;>first|exact h2.elim|exact key
    split at hK
    ·cases hK
    ·cases hK
    ·rename_i s hap
     obtain⟨X,hX,hx⟩:=KN hap (by intro e;cases e);exact wpIn_mono (ABf hP _ hX ca rd n hca hrd E _ _ w .normal s none m hS hx) fun e a' w' hp=>fin (.inl rfl) hp hK
    ·rename_i s hap
     obtain⟨X,hX,hx⟩:=KN hap (by intro e;cases e);exact wpIn_mono (ABf hP _ hX ca rd n hca hrd E _ _ w .ret s none m hS hx) fun e a' w' hp=>fin (.inr rfl) hp hK
theorem AA7(hP:OkP P):∀n:Nat,(∀w,CaS P w (ACC P n).1)/\(∀w,RdS P w (ACC P n).2)
 |0=>⟨(fun _ _ _ _ _ _ _ _ _ _ h=>by cases h),(fun _ _ _ _ _ _ _ _ _ _ _ _ h=>by cases h)⟩
 |n+1=>⟨fun _=>AL9 hP (AA7 hP n).1 (AA7 hP n).2,fun _=>AKD hP (AA7 hP n).1 (AA7 hP n).2⟩
end
end
section
structure Lit where
 ts:List (Nat×Value)
 bs:List AO
noncomputable section
def mkT:List (Nat×Value)->TP
 |[]=>.lf
 |p::l=>ADP (way 16 p.1) (.mk p.2) (mkT l)
def mkA:List AO->AH->AH
 |[],A=>A
 |o::l,A=>mkA l (A.push o)
def Lit.st(L:Lit)(f:FuncId):St:=⟨f,none,mkT L.ts,[],mkA L.bs ⟨0,.lf⟩⟩
def eqB(ρ:List Nat)(b c:Nat):Bool:=match ρ[b]? with
 |some d=>Nat.beq d c
 |none=>false
def AMA(ρ:List Nat):Value->Value->Bool
 |.int k a,.int k' b=>decide (k=k')&&ieq a b
 |.bool a,.bool b=>a==b
 |.pointer none,.pointer none=>true
 |.pointer (some ⟨b,o,none⟩),.pointer (some ⟨b',o',none⟩)=>eqB ρ b b'&&Nat.beq o o'
 |.slice none l c,.slice none l' c'=>Nat.beq l l'&&Nat.beq c c'
 |.slice (some ⟨b,o,none⟩) l c,.slice (some ⟨b',o',none⟩) l' c'=>eqB ρ b b'&&Nat.beq o o'&&Nat.beq l l'&&Nat.beq c c'
 |.nilFunc,.nilFunc=>true
 |_,_=>false
def AHz(ρ:List Nat):List Value->List Value->Bool
 |[],[]=>true
 |a::l,b::m=>AMA ρ a b&&AHz ρ l m
 |_,_=>false
def eqR(ρ:List Nat):Value->Value->Bool
 |.agg a,.agg b=>AHz ρ a.toList b.toList
 |.tuple a,.tuple b=>AHz ρ a.toList b.toList
 |a,b=>AMA ρ a b
def eqO(ρ:List Nat):AO->AO->Bool
 |.cells cs e g,.cells cs' e' g'=>Nat.beq e e'&&Nat.beq g g'&&AHz ρ cs cs'
 |_,_=>false
def AMB(ρ:List Nat)(A:AH):List AO->List Nat->Bool
 |[],[]=>true
 |o::l,c::m=>(match YA A.t c with|some o'=>eqO ρ o o'|none=>false)&&AMB ρ A l m
 |_,_=>false
def AHV:List Nat->Bool
 |[]=>true
 |a::l=>(l.all fun b=>!Nat.beq a b)&&AHV l
def les(ρ:List Nat)(L:Lit)(s:St):Bool:=
 s.rd.isNone&&s.marks.isEmpty&&AHV ρ&&(L.ts.all fun p=>Nat.blt p.1 65535&&(match xw (way 16 p.1) s.T with|.mk v=>eqR ρ p.2 v|.no=>false))&&AMB ρ s.A L.bs ρ
def AEO:Nat->Code->Code
 |0,c=>c
 |k+1,.seq _ b=>AEO k b
 |_+1,c=>c
def AIv(P:Program)(nt:Nat)(ca:vK)(rd:aZ)(n:Nat):Nat->Code->St->Option St
 |0,_,s=>some s
 | k + 1, .seq a b, s => match (AAE P nt a).ap (.no "head" 0) (fun X => X ca rd n s) with
  |.ok .normal s'=>AIv P nt ca rd n k b s'
  |_=>none
 |_+1,_,_=>none
def AA8(P:Program)(n:Nat)(f:FuncId)(j k:Nat)(L:Lit)(ρ:List Nat)(L':Lit):Bool:=
 match P.funcs[f]? with
 |none=>false
 |some fn=>match fn.body with
  |none=>false
  |some c=>match AIv P fn.ntmps (ACC P n).1 (ACC P n).2 n k (AEO j c) (L.st f)with
   |some s=>les ρ L' s
   |none=>false
def ADd(P:Program)(n:Nat)(f:FuncId)(j:Nat)(L:Lit)(v:Value):Bool:=
 match P.funcs[f]? with
 |none=>false
 |some fn=>match fn.body with
  |none=>false
  | some c => match (AAE P fn.ntmps (AEO j c)).ap (.no "end" 0) (fun X => X (ACC P n).1 (ACC P n).2 n (L.st f)) with
   |.ok .ret s=>match AFF P fn s with
    |.ok v' _=>eqV v' v&&vS v
    |.no _ _=>false
   |_=>false
end
section
variable {P:Program}{E:En}
def Ren(ρ:List Nat)(E:En):En:=fun b=>(ρ[b]?).bind E
theorem AGm{ρ:List Nat}{b c:Nat}(h:eqB ρ b c=true):Ren ρ E b=E c:=by
 unfold eqB at h;unfold Ren;split at h
 ·rename_i d hd
  rw[hd,Nat.eq_of_beq_eq_true h]
  rfl
 ·cases h
theorem AKd{ρ:List Nat}{v u x:Value}(h:AMA ρ v u=true)(k:VR E u x):VR (Ren ρ E) v x:=by
 unfold AMA at h;split at h
 ·simp only[Bool.and_eq_true,decide_eq_true_eq,AEt]at h
  cases k;obtain⟨rfl,rfl⟩:=h;exact .int _ _
 ·simp only[beq_iff_eq]at h
  cases k;subst h;exact .bool _
 ·cases k;exact .nilp
 ·simp only[Bool.and_eq_true,Nat.beq_eq]at h
  obtain⟨h1,rfl⟩:=h;cases k with
  |ptr q1 q2 q3=>exact .ptr q1 q2 ((AGm h1).trans q3)
 ·simp only[Bool.and_eq_true,Nat.beq_eq]at h
  obtain⟨rfl,rfl⟩:=h;cases k;exact .nils _ _
 ·simp only[Bool.and_eq_true,Nat.beq_eq]at h
  obtain⟨⟨⟨h1,rfl⟩,rfl⟩,rfl⟩:=h;cases k with
  |sl q1 q2 q3 q4 q5 q6=>exact .sl q1 q2 ((AGm h1).trans q3) q4 q5 q6
  |sl0 q1 q2 q3=>exact .sl0 ((AGm h1).trans q1) q2 (fun _=>q3 rfl)
 ·cases k;exact .nilf
 ·cases h
theorem AH0{ρ:List Nat}:∀{l m x:List Value},AHz ρ l m=true->VRs E m x->VRs (Ren ρ E) l x:=by
 intro l
 induction l with
 |nil=>
  intro m x h k;cases m with
  |nil=>cases k;exact .nil
  |cons=>cases h
 |cons a l ih=>
  intro m x h k;cases m with
  |nil=>cases h
  |cons b m=>
   simp only[AHz,Bool.and_eq_true]at h;cases k with|cons k1 k2=>exact .cons (AKd h.1 k1) (ih h.2 k2)
theorem AQv{ρ:List Nat}{v u x:Value}(h:eqR ρ v u=true)(k:VR E u x):VR (Ren ρ E) v x:=by
 unfold eqR at h;split at h
 ·cases k with|agg k=>exact .agg (AH0 h k)
 ·cases k with|tuple k=>exact .tuple (AH0 h k)
 ·exact AKd h k
theorem APs{t:Nat}(ht:t<65535){v:Value}:∀{l:List (Nat×Value)},(∀p∈l,p.1<65535)->xw (way 16 t) (mkT l)=.mk v->(t,v)∈l:=by
 intro l
 induction l with
 |nil=>intro _ h;rw[mkT,AAp]at h;cases h
 |cons p l ih=>
  intro hl h;rw[mkT,zk]at h;split at h
  ·rename_i he
   have:=ABO ht (hl p (by simp)) he;cases h;subst this;simp
  ·exact List.mem_cons_of_mem _ (ih (fun q hq=>hl q (by simp[hq])) h)
theorem AOK:∀(l:List AO)(A:AH),(mkA l A).next=A.next+l.length:=by
 intro l
 induction l with
 |nil=>intro A;rfl
 |cons o l ih=>intro A;rw[mkA,ih];cases A;simp[AH.push];omega
theorem APt{b:Nat}{o:AO}:∀(l:List AO)(A:AH),YA (mkA l A).t b=some o->(A.next<=b/\l[b-A.next]?=some o)\/YA A.t b=some o:=by
 intro l
 induction l with
 |nil=>intro A h;exact .inr h
 |cons p l ih=>
  intro A h;rw[mkA]at h;rcases ih _ h with⟨h1,h2⟩|h2
  ·have hn:(A.push p).next=A.next+1:=by cases A;rfl
   rw[hn]at h1 h2;refine .inl ⟨by omega,?_⟩;rw[show b-A.next=b-(A.next+1)+1 by omega,List.getElem?_cons_succ];exact h2
  ·cases A with|mk n t=>
   rcases AAy h2 with⟨rfl,rfl⟩|⟨_,h3⟩
   ·exact .inl ⟨Nat.le_refl _,by simp⟩
   ·exact .inr h3
theorem AOL{ρ:List Nat}{A:AH}:∀(l:List AO)(m:List Nat),AMB ρ A l m=true->l.length=m.length/\∀(b:Nat)(o:AO),l[b]?=some o->∃c o',m[b]?=some c/\YA A.t c=some o'/\eqO ρ o o'=true:=by
 intro l
 induction l with
 |nil=>intro m h;cases m<;>first|exact⟨rfl,by simp⟩|cases h
 |cons o l ih=>
  intro m h;cases m with
  |nil=>cases h
  |cons c m=>
   simp only[AMB,Bool.and_eq_true]at h;obtain⟨h1,h2⟩:=ih m h.2;refine⟨by simp[h1],fun b p hb=>?_⟩;cases b with
   |zero=>
    simp only[List.getElem?_cons_zero,Option.some.injEq]at hb;subst hb;have h3:=h.1;split at h3
    ·rename_i o' ho'
     exact⟨c,o',by simp,ho',h3⟩
    ·cases h3
   |succ b=>simpa using h2 b p (by simpa using hb)
theorem AMC:∀{l:List Nat},AHV l=true->∀(i j a:Nat),l[i]?=some a->l[j]?=some a->i=j:=by
 intro l
 induction l with
 |nil=>intro _ i j a h;simp at h
 |cons x l ih=>
  intro h i j a hi hj;simp only[AHV,Bool.and_eq_true,List.all_eq_true,Bool.not_eq_true']at h;have out:∀k,l[k]?=some x->False:=fun k hk=>by
   have:=h.1 x (List.mem_of_getElem? hk);rw[Nat.beq_refl]at this;cases this
  cases i<;>cases j
  ·rfl
  ·simp only[List.getElem?_cons_zero,List.getElem?_cons_succ,Option.some.injEq]at hi hj
   subst hi;exact(out _ hj).elim
  ·simp only[List.getElem?_cons_zero,List.getElem?_cons_succ,Option.some.injEq]at hi hj
   subst hj;exact(out _ hi).elim
  ·rw[List.getElem?_cons_succ]at hi hj
   rw[ih h.2 _ _ _ hi hj]
theorem AIR{ρ:List Nat}{o o':AO}(h:eqO ρ o o'=true):o'.alive=true:=by
 unfold eqO at h;split at h
 ·rfl
 ·cases h
theorem AM3{ρ:List Nat}{L:Lit}{f:FuncId}{s:St}{w0:World}{nt:Nat}{a:Act}{w:World}(h:les ρ L s=true)(hS:SR ⟨w0,fun _=>False⟩ nt E s a w none):SR ⟨w0,fun _=>False⟩ nt (Ren ρ E) (L.st f) a w none:=by
 unfold les at h;simp only[Bool.and_eq_true,List.all_eq_true,List.isEmpty_iff,Nat.blt_eq]at h;obtain⟨⟨⟨⟨h1,h2⟩,h3⟩,h4⟩,h5⟩:=h;obtain⟨k1,k2⟩:=AOL _ _ h5;have hd:a.defers=[]:=by
  have hm:=hS.defers;rw[h2]at hm;generalize a.defers=d at hm;cases hm
  rfl
 refine⟨hS.size,fun t v ht hv=>?_,?_,by rw[hd];exact .nil,trivial⟩
 ·have hm:=APs ht (fun p hp=>(h4 p hp).1) hv
  have:=(h4 _ hm).2;split at this
  ·rename_i u hu
   obtain⟨x,q1,q2⟩:=hS.tmps t u ht hu;exact⟨x,q1,AQv this q2⟩
  ·cases this
 ·have hb:∀{b:Nat}{o:AO},YA (L.st f).A.t b=some o->L.bs[b]?=some o:=by
   intro b o ho;rcases APt L.bs ⟨0,.lf⟩ ho with⟨_,q⟩|q
   ·simpa using q
   ·rw[AEr]at q;cases q
  have hE:∀{b:Nat}{x:Nat×Nat×Nat×Nat},Ren ρ E b=some x->∃c,ρ[b]?=some c/\E c=some x:=by
   intro b x hx;unfold Ren at hx;cases hr:ρ[b]? with
   |none=>rw[hr]at hx;cases hx
   |some c=>rw[hr]at hx;exact⟨c,rfl,hx⟩
  refine⟨hS.heap.ext,fun b x hx=>?_,fun b b' g hx=>?_,fun b o b' g ho hx=>?_,fun b c o p b' g1 g2 ho hp _ _ hx hy=>?_,fun b hb=>hb.elim⟩
  ·obtain⟨c,q1,q2⟩:=hE hx
   have:=(List.getElem?_eq_some_iff.1 q1).1;show b<(mkA L.bs ⟨0,.lf⟩).next;rw[AOK,Nat.zero_add,k1];exact this
  ·obtain⟨c,q1,q2⟩:=hE hx
   exact hS.heap.base c b' g q2
  ·obtain⟨c,q1,q2⟩:=hE hx
   obtain⟨c',o',q3,q4,q5⟩:=k2 b o (hb ho);rw[q1]at q3;cases q3;have hO:=hS.heap.obj c o' b' g q4 q2;unfold eqO at q5;split at q5
   ·simp only[Bool.and_eq_true,Nat.beq_eq]at q5
    obtain⟨⟨rfl,rfl⟩,q6⟩:=q5;obtain⟨p,l,t,r1,r2,r3,r4,r5,r6⟩:=hO;exact⟨p,l,t,r1,r2,AH0 q6 r3,r4,r5,r6⟩
   ·cases q5
  ·obtain⟨d,q1,q2⟩:=hE hx
   obtain⟨d',q3,q4⟩:=hE hy;obtain⟨c1,o1,q5,q6,q7⟩:=k2 b o (hb ho);obtain⟨c2,o2,q8,q9,q10⟩:=k2 c p (hb hp);rw[q1]at q5;cases q5;rw[q3]at q8;cases q8;have:=hS.heap.inj d d' o1 o2 b' g1 g2 q6 q9 (AIR q7) (AIR q10) q2 q4;subst this;exact AMC h3 _ _ _ q1 q3
def Wlk(P:Program)(fn:Func)(c:Code)(s:St)(v:Value):Prop:=
 ∀(w0:World)(E:En)(a:Act)(w:World)(m:Nat),SR ⟨w0,fun _=>False⟩ fn.ntmps E s a w none->
  c.wpIn (Fw none) m P (bodyPostM Fence.wide m P fn (fun e w'=>e=.returned v/\Below w0.heap.size w0 w')) a w
theorem AOM(hP:OkP P){fn:Func}{n:Nat}{v:Value}:∀(k:Nat)(c:Code)(s s1:St),AIv P fn.ntmps (ACC P n).1 (ACC P n).2 n k c s=some s1->Wlk P fn (AEO k c) s1 v->Wlk P fn c s v:=by
 intro k
 induction k with
 |zero=>intro c s s1 h hw;cases h;exact hw
 |succ k ih=>
  intro c s s1 h hw;cases c<;>try (cases h;done)
  rename_i p q;simp only[AIv]at h;split at h
  ·rename_i s' hs
   obtain⟨X,hX,hx⟩:=KN hs (by intro e;cases e);intro w0 E a w m hS;refine wpIn_seq (wpIn_mono (ABf hP p hX _ _ n (AA7 hP n).1 (AA7 hP n).2 E s a w .normal s' none m hS hx) fun e a1 w1 he=>?_);have:=he.normal;subst this;obtain⟨E1,_,_,h3,_⟩:=he;exact ih q s' s1 h hw w0 E1 a1 w1 m h3
  ·cases h
theorem AON{fn:Func}{c:Code}{ρ:List Nat}{L:Lit}{f:FuncId}{s:St}{v:Value}(h:les ρ L s=true)(hw:Wlk P fn c (L.st f) v):Wlk P fn c s v:=fun w0 _ a w m hS=>hw w0 _ a w m (AM3 h hS)
theorem APu (hP : OkP P) {fn : Func} {n : Nat} {c : Code} {s s' : St} {v v' : Value} {A : AH} (h : (AAE P fn.ntmps c).ap (.no "end" 0) (fun X => X (ACC P n).1 (ACC P n).2 n s) = .ok .ret s') (hc : AFF P fn s' = .ok v' A) (hv : eqV v' v = true) (hf : vS v = true) : Wlk P fn c s v := by
 intro w0 E a w m hS;obtain⟨X,hX,hx⟩:=KN h (by intro e;cases e);refine wpIn_mono (ABf hP c hX _ _ n (AA7 hP n).1 (AA7 hP n).2 E s a w .ret s' none m hS hx) fun e a' w' hp=>?_;have h2:=hp;obtain⟨_,_,hex,_,_⟩:=h2;cases e<;>try exact hex.elim
 refine AHU (m:=m) hp hc fun e w2 he=>?_;obtain⟨E2,u,rfl,_,q2,q3⟩:=he;rw[AJU hv]at q2;exact⟨by rw[zO hf q2],q3.ext⟩
theorem AM4:∀(j k:Nat)(c:Code),AEO (j+k) c=AEO k (AEO j c):=by
 intro j
 induction j with
 |zero=>intro k c;rw[Nat.zero_add];rfl
 |succ j ih=>
  intro k c;rw[show j+1+k=j+k+1 by omega];cases c
  case seq a b=>exact ih k b
  all_goals (cases k<;>rfl)
inductive Chain(P:Program)(n:Nat)(f:FuncId)(v:Value):Nat->Lit->Prop
 |fin {j:Nat} {L:Lit} (h:ADd P n f j L v=true):Chain P n f v j L
 |step {j k:Nat} {L L':Lit} {ρ:List Nat} (h:AA8 P n f j k L ρ L'=true) (t:Chain P n f v (j+k) L'):Chain P n f v j L
theorem Chain.wlk(hP:OkP P){n:Nat}{f:FuncId}{fn:Func}{c:Code}{v:Value}(hf:P.funcs[f]?=some fn)(hb:fn.body=some c){j:Nat}{L:Lit}(h:Chain P n f v j L):Wlk P fn (AEO j c) (L.st f) v:=by
 induction h with
 | @fin j L h=>
  unfold ADd at h;rw[hf]at h;dsimp only at h;rw[hb]at h;dsimp only at h;split at h
  ·rename_i s' hs
   split at h
   ·rename_i v' A hc
    simp only[Bool.and_eq_true]at h;exact APu hP hs hc h.1 h.2
   ·cases h
  ·cases h
 | @step j k L L' ρ h t ih=>
  unfold AA8 at h;rw[hf]at h;dsimp only at h;rw[hb]at h;dsimp only at h;split at h
  ·rename_i s' hs
   refine AOM hP k _ _ s' hs (AON (f:=f) h ?_);rw[<-AM4];exact ih
  ·cases h
theorem Chain.calls(hP:OkP P){n:Nat}{f:FuncId}{v:Value}(h:Chain P n f v 0 ⟨[],[]⟩)(w:World):Calls P f #[] w fun e w'=>e=.returned v/\Below w.heap.size w w':=by
 have hfn:∃fn c,P.funcs[f]?=some fn/\fn.body=some c:=by
  cases h with
  |fin h=>
   unfold ADd at h;split at h
   ·cases h
   ·rename_i fn hf
    split at h
    ·cases h
    ·rename_i c hb
     exact⟨fn,c,hf,hb⟩
  |step h=>
   unfold AA8 at h;split at h
   ·cases h
   ·rename_i fn hf
    split at h
    ·cases h
    ·rename_i c hb
     exact⟨fn,c,hf,hb⟩
 obtain⟨fn,c,hf,hb⟩:=hfn;refine callsIn_wide.1 (callsIn_of_wp_marks (n:=0) hf hb trivial ?_);refine h.wlk hP hf hb w (fun _=>none) _ w _ ⟨by simp,fun t v _ hv=>?_,?_,.nil,trivial⟩
 ·change xw (way 16 t) .lf=_ at hv
  rw[AAp]at hv;cases hv
 ·exact⟨Below.refl _ _,(fun _ _ h=>by cases h),(fun _ _ _ h=>by cases h),(fun _ _ _ _ h=>by change YA .lf _=_ at h;rw[AEr]at h;cases h),(fun _ _ _ _ _ _ _ h=>by change YA .lf _=_ at h;rw[AEr]at h;cases h),(fun _ h=>h.elim)⟩
end
end
end Go.Md.Cf
end
section
namespace Go.Md.Cf
open Go
def zfB(P:Program):Bool:=P.types.toList.all fun i=>match i.zero with|some z=>ABT z|none=>true
def nmB (P : Program) : Bool := P.funcs.toList.all fun fn => !(fn.name == "runtime.NumGoroutine")
theorem AGa{z:Value}(h:ABT z=true):z.cells.toList.all ADa=true:=by
 unfold ABT at h;split at h
 ·exact h
 ·rename_i h1
  unfold Value.cells;split
  ·rename_i c;exact absurd rfl (h1 c)
  ·simpa using h
theorem AM5{α σ:Type}(I:σ->Prop){f:α->σ->Option (ForInStep σ)}(hf:∀x s r,I s->f x s=some r->I r.value):∀(l:List α)(s r:σ),I s->(forIn l s f:Option σ)=some r->I r:=by
 intro l
 induction l with
 |nil=>intro s r h h1;cases h1;exact h
 |cons x l ih=>
  intro s r h h1;rw[List.forIn_cons]at h1;cases hx:f x s with
  |none=>rw[hx]at h1;cases h1
  |some y=>
   rw[hx]at h1;have hy:=hf x s y h hx;cases y with
   |done y=>cases h1;exact hy
   |yield y=>exact ih y r hy h1
theorem AKG{info:TypeId->Option TypeInfo}(hI:∀t i z,info t=some i->i.zero=some z->ABT z=true){fs:Array Field}{i:TypeInfo}{z:Value}(h:Made.reckonStruct info fs=some i)(hz:i.zero=some z):ABT z=true:=by
 unfold Made.reckonStruct at h;simp only[<-Array.forIn_toList]at h;cases hl:(forIn fs.toList _ _:Option _)with
 |none=>rw[hl]at h;cases h
 |some r=>
  rw[hl]at h;have hr:∀c,r.2.2.2.2.2.2.2.1=some c->c.toList.all ADa=true:=by
   refine AM5 (fun s=>∀c,s.2.2.2.2.2.2.2.1=some c->c.toList.all ADa=true) (fun x s r hs hx=>?_) fs.toList _ r (fun c hc=>by cases hc;rfl) hl;have key:∀(i:TypeInfo),info x.type=some i->∀c,(do pure ((<-s.2.2.2.2.2.2.2.1)++(<-i.zero).cells):Option (Array Value))=some c->c.toList.all ADa=true:=by
    intro i hi c hc;cases h1:s.2.2.2.2.2.2.2.1 with
    |none=>rw[h1]at hc;cases hc
    |some a=>
     rw[h1]at hc;cases h2:i.zero with
     |none=>rw[h2]at hc;cases hc
     |some z=>
      rw[h2]at hc;cases hc;have q1:=hs a h1;have q2:=AGa (hI _ _ _ hi h2);simp only[Array.toList_append,List.all_append,Bool.and_eq_true];exact⟨q1,q2⟩
   replace hx:=Option.bind_eq_some_iff.1 hx;obtain⟨i,hi,hx⟩:=hx
   repeat' first
    |split at hx
    |(cases hx;done)
    |(cases hx;intro c hc;first|(cases hc;done)|exact key i hi c hc)
    |(replace hx:=Option.bind_eq_some_iff.1 hx;obtain⟨_,_,hx⟩:=hx)
  simp only[bind,Option.bind]at h;have fin:∀c,r.2.2.2.2.2.2.2.1=some c->ABT (.agg c)=true:=fun c hc=>hr c hc;split at h<;>(cases h;dsimp only at hz;cases h1:r.2.2.2.2.2.2.2.1 with
   |none=>rw[h1]at hz;cases hz
   |some c=>rw[h1]at hz;cases hz;exact fin c h1)
theorem AKH{info:TypeId->Option TypeInfo}(hI:∀t i z,info t=some i->i.zero=some z->ABT z=true){d:TypeDesc}{i:TypeInfo}{z:Value}(h:Made.reckon info d=some i)(hz:i.zero=some z):ABT z=true:=by
 unfold Made.reckon at h;split at h
 iterate 5
  ·repeat' first
    |split at h
    |(cases h;done)
    |(cases h;cases hz;rfl)
    |(replace h:=Option.bind_eq_some_iff.1 h;obtain⟨_,_,h⟩:=h)
 ·rename_i n e
  cases hi:info e with
  |none=>rw[hi]at h;cases h
  |some j=>
   rw[hi]at h;simp only[bind,Option.bind]at h;split at h
   ·cases h
   ·cases h
    dsimp only at hz;split at hz
    ·cases hz
    ·split at hz
     ·cases hz;rfl
     ·cases h2:j.zero with
      |none=>rw[h2]at hz;cases hz
      |some u=>
       rw[h2]at hz;cases hz;have q:=AGa (hI _ _ _ hi h2);show List.all _ _=true;simp only[Array.toList_flatten,Array.toList_map,Array.toList_replicate,List.all_flatten,List.map_replicate,List.all_replicate];split<;>first|rfl|exact q
 ·exact AKG hI h hz
 ·cases h
theorem ASj{P:Program}(h:zfB P=true):Zf P:=by
 have tab:∀(t:TypeId)(i:TypeInfo)(z:Value),P.types[t]?=some i->i.zero=some z->ABT z=true:=fun t i z h1 h2=>by
  have:=List.all_eq_true.1 h i (Array.mem_toList_iff.2 (Array.mem_of_getElem? h1));rw[h2]at this;exact this
 have all:∀(f:Nat)(t:TypeId)(i:TypeInfo)(z:Value),Made.infoAt P.toTables f t=some i->i.zero=some z->ABT z=true:=by
  intro f
  induction f with
  |zero=>intro t i z h1;cases h1
  |succ f ih=>
   intro t i z h1 h2;unfold Made.infoAt at h1;split at h1
   ·exact tab t i z h1 h2
   ·cases hd:Made.decode (t-P.types.size)with
    |none=>rw[hd]at h1;cases h1
    |some d=>rw[hd]at h1;exact AKH ih h1 h2
 intro t i z h1 h2;unfold Tables.info? at h1;split at h1
 ·exact tab t i z h1 h2
 ·exact all _ t i z h1 h2
theorem AQw{P:Program}(h1:zfB P=true)(h2:nmB P=true)(h3:P.follows .mixedOrders=true):OkP P:=
 ⟨ASj h1,h3,fun f fn h=>by
  have:=List.all_eq_true.1 h2 fn (Array.mem_toList_iff.2 (Array.mem_of_getElem? h));simpa using this⟩
end Go.Md.Cf
end
section
namespace Go.Proofs.YtfmelbioccbdoaaGreat
open Go Go.Md Go.Md.Cf Go.RowKit Go.Proofs
theorem okP:OkP Tryz.prog:=AQw (by kernel_rfl) (by kernel_rfl) (by kernel_rfl)
end Go.Proofs.YtfmelbioccbdoaaGreat
end
