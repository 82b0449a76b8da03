/-
  Part 6 of 7 of what the last text stands on: lemmas about the model, pure functions, walks, laws in plain Lean; each part's own head says its condition. Merged by a program of our own.
-/
import Derived.Test.YtfmelbioccbdoaaGreatSharedEndsQe
import Derived.Maps.RangeRun
import Derived.IntWalk
import Derived.KernelRfl
set_option maxHeartbeats 0
set_option linter.all false
section
namespace Go.Md
open Go Go.RowKit
section
variable {κ ν:Type} [DecidableEq κ] [Enc κ] [Flat κ] [Key κ] [Enc ν] [Flat ν]
def Rg (w:World) (r b:Nat) (l:List (κ×ν)) (lf:κ→Bool):Prop :=
 ∃ es clock seen,w.heap[r]?=some (.mapIter (some b) clock seen clock)∧w.heap[b]?=some (.map es clock)∧es.toList.map (fun e=>(e.key,e.val))=l.map (fun p=>(fv p.1,fv p.2))∧(l.map (·.1)).Nodup∧(∀ p∈l,Key.ok p.1=true) ∧
  (es.toList.map (·.born)).Nodup∧(∀ e∈es.toList,e.born<clock)∧∀ (i:Nat) (e:MapEntry) (p:κ×ν),es.toList[i]?=some e→l[i]?=some p→seen.contains e.born=!lf p.1
variable {w w':World} {r b:Nat} {l:List (κ×ν)} {lf:κ→Bool}
omit [DecidableEq κ] in
theorem Rg.mps (h:Rg w r b l lf):MpS w b l:=by
 obtain ⟨es,c,s,_,h2,h3,h4,h5,h6,h7,_⟩:=h
 exact ⟨es,c,h2,h3,h4,h5,h6,h7⟩
omit [DecidableEq κ] in
theorem Rg.same (h:Rg w r b l lf) (k1:w'.heap[r]?=w.heap[r]?) (k2:w'.heap[b]?=w.heap[b]?):Rg w' r b l lf:=by
 obtain ⟨es,c,s,h1,h2,h⟩:=h
 exact ⟨es,c,s,k1.trans h1,k2.trans h2,h⟩
omit [DecidableEq κ] in
theorem Rg.ltr (h:Rg w r b l lf):r<w.heap.size:=by
 obtain ⟨es,c,s,h1,_⟩:=h
 exact (Array.getElem?_eq_some_iff.1 h1).1
omit [DecidableEq κ] in
theorem Rg.ext (h:Rg w r b l lf) (k:Ext w w'):Rg w' r b l lf:=h.same (k.block r h.ltr) (k.block b h.mps.lt)
omit [DecidableEq κ] in
theorem Rg.chg {c:Nat} (h:Rg w r b l lf) (k:Chg c w w') (h1:r≠c) (h2:b≠c):Rg w' r b l lf:=h.same (k.other r h1) (k.other b h2)
omit [DecidableEq κ] in
theorem Rg.new (h:MpS w b l):Rg (w.alloc (.mapIter (some b) ((match w.heap[b]? with | some (.map _ c)=>c | _=>0)) #[] (match w.heap[b]? with | some (.map _ c)=>c | _=>0))) w.heap.size b l (fun _=>true):=by
 obtain ⟨es,c,h1,h2,h3,h4,h5,h6⟩:=h
 rw [h1]
 refine ⟨es,c,#[],heap_alloc_new _ _,?_,h2,h3,h4,h5,h6,fun i e p _ _=>by simp⟩
 rw [heap_alloc_old _ _ (Array.getElem?_eq_some_iff.1 h1).1]
 exact h1
theorem Rg.next {P:Program} {ty:TypeId} (h:Rg w r b l lf) :
  ((∀ p∈l,lf p.1=false)∧(Instr.next (.pointer (some ⟨r,0,none⟩)) false ty).run P w=.ok (.tuple #[.bool false]) w) ∨
  ∃ p w',p∈l∧lf p.1=true∧(Instr.next (.pointer (some ⟨r,0,none⟩)) false ty).run P w=.ok (.tuple #[.bool true,fv p.1,fv p.2]) w'∧BelP (fun q=>q≠r) w.heap.size w w'∧w'.heap.size=w.heap.size ∧
   (Instr.entry (.pointer (some ⟨r,0,none⟩))).run P w'=.ok (.tuple #[fv p.1,fv p.2]) w'∧Rg w' r b l (fun k=>lf k && !decide (k=p.1)):=by
 obtain ⟨es,c,seen,h1,h2,h3,h4,h5,h6,h7,h8⟩:=h
 have hlen:es.toList.length=l.length:=by have:=congrArg List.length h3; simpa using this
 have hrb:r≠b:=by rintro rfl; rw [h1] at h2; cases h2
 rcases run_next_at (P:=P) w ty r b c c seen es c h1 h2 h7 (Nat.le_refl _) with ⟨g1,g2⟩ | ⟨e,he,w1,hw1,g2⟩
 ·refine .inl ⟨fun p hp=>?_,g2⟩
  obtain ⟨i,hi,rfl⟩:=List.getElem_of_mem hp
  have hi':i<es.toList.length:=by omega
  have:=h8 i es.toList[i] l[i] (List.getElem?_eq_getElem hi') (List.getElem?_eq_getElem hi)
  cases hlf:lf l[i].1 with
  | false=>rfl
  | true =>
   rw [hlf] at this
   have hm:es.toList[i]∈(leftOf es seen).toList:=by
    unfold leftOf
    simp only [Array.toList_filter,List.mem_filter]
    exact ⟨List.getElem_mem _,by rw [this]; rfl⟩
   have h0:(leftOf es seen).toList=[]:=by
    apply List.eq_nil_of_length_eq_zero
    simpa using g1
   rw [h0] at hm
   cases hm
 ·have hm:e∈es.toList∧seen.contains e.born=false:=by
   unfold leftOf at he
   simp only [Array.toList_filter,List.mem_filter] at he
   exact ⟨he.1,by simpa using he.2⟩
  obtain ⟨i,hi,rfl⟩:=List.getElem_of_mem hm.1
  have hil:i<l.length:=by omega
  obtain ⟨p,hp,e1,e2⟩:=es_at h3 (List.getElem?_eq_getElem hi)
  have hlf:=h8 i _ p (List.getElem?_eq_getElem hi) hp
  rw [hm.2] at hlf
  have hlt:lf p.1=true:=by
   cases h:lf p.1 with
   | true=>rfl
   | false=>rw [h] at hlf; cases hlf
  have hr1:w1.heap[r]?=some (.mapIter (some b) c seen c):=by rcases hw1 with rfl | rfl <;> exact h1
  have hb1:w1.heap[b]?=some (.map es c):=by rcases hw1 with rfl | rfl <;> exact h2
  have hrl:r<w1.heap.size:=(Array.getElem?_eq_some_iff.1 hr1).1
  have hset:(ChangeMaps.setBlock w1 r (.mapIter (some b) c (seen.push es.toList[i].born) c)).heap[r]?=some (.mapIter (some b) c (seen.push es.toList[i].born) c):=by
   simp [ChangeMaps.setBlock,hrl]
  have hoth:∀ q,q≠r→(ChangeMaps.setBlock w1 r (.mapIter (some b) c (seen.push es.toList[i].born) c)).heap[q]?=w.heap[q]?:=fun q hq=>by
   have:(ChangeMaps.setBlock w1 r (.mapIter (some b) c (seen.push es.toList[i].born) c)).heap[q]?=w1.heap[q]?:=by
    simp only [ChangeMaps.setBlock]
    rw [Array.getElem?_setIfInBounds_ne (Ne.symm hq)]
   rw [this]
   rcases hw1 with rfl | rfl <;> rfl
  have hsz:(ChangeMaps.setBlock w1 r (.mapIter (some b) c (seen.push es.toList[i].born) c)).heap.size=w.heap.size:=by
   simp only [ChangeMaps.setBlock,Array.size_setIfInBounds]
   rcases hw1 with rfl | rfl <;> rfl
  refine .inr ⟨p,_,List.mem_of_getElem? hp,hlt,by rw [← e1,← e2]; exact g2,⟨?_,?_,?_,by rw [hsz]; exact Nat.le_refl _,fun q _ hq=>hoth q hq⟩,hsz,?_,?_⟩
  ·rcases hw1 with rfl | rfl <;> rfl
  ·rcases hw1 with rfl | rfl <;> rfl
  ·rcases hw1 with rfl | rfl <;> rfl
  ·rw [← e1,← e2]
   exact run_entry_at _ r b c seen es c _ hset ((hoth b (Ne.symm hrb)).trans h2) hm.1 h6
  ·refine ⟨es,c,_,hset,(hoth b (Ne.symm hrb)).trans h2,h3,h4,h5,h6,h7,fun j e p2 he2 hp2=>?_⟩
   have hj:=h8 j e p2 he2 hp2
   by_cases hij:j=i
   ·subst hij
    rw [List.getElem?_eq_getElem hi] at he2
    cases he2
    rw [hp] at hp2
    cases hp2
    simp
   ·have hne:e.born≠es.toList[i].born:=fun eb=>by
     have h9:=List.pairwise_iff_getElem.1 h6
     have hjl:j<es.toList.length:=(List.getElem?_eq_some_iff.1 he2).1
     have he3:es.toList[j]=e:=by rw [List.getElem?_eq_getElem hjl] at he2; exact Option.some.inj he2
     rcases Nat.lt_or_gt_of_ne hij with h | h
     ·have:=h9 j i (by simpa using hjl) (by simpa using hi) h
      simp only [List.getElem_map] at this
      rw [he3] at this
      exact this eb
     ·have:=h9 i j (by simpa using hi) (by simpa using hjl) h
      simp only [List.getElem_map] at this
      rw [he3] at this
      exact this eb.symm
    have hnk:p2.1≠p.1:=fun ek=>by
     have h9:=List.pairwise_iff_getElem.1 h4
     have hjl:j<l.length:=(List.getElem?_eq_some_iff.1 hp2).1
     have hp3:l[j]=p2:=by rw [List.getElem?_eq_getElem hjl] at hp2; exact Option.some.inj hp2
     have hp4:l[i]=p:=by rw [List.getElem?_eq_getElem hil] at hp; exact Option.some.inj hp
     rcases Nat.lt_or_gt_of_ne hij with h | h
     ·have:=h9 j i (by simpa using hjl) (by simpa using hil) h
      simp only [List.getElem_map] at this
      rw [hp3,hp4] at this
      exact this ek
     ·have:=h9 i j (by simpa using hil) (by simpa using hjl) h
      simp only [List.getElem_map] at this
      rw [hp3,hp4] at this
      exact this ek.symm
    have:(seen.push es.toList[i].born).contains e.born=seen.contains e.born:=by
     have hb1:(e.born == es.toList[i].born)=false:=by simpa using hne
     have hb2:(es.toList[i].born == e.born)=false:=by simpa using Ne.symm hne
     rw [Array.contains_push]
     simp only [hb1,hb2,Bool.or_false,Bool.false_or]
    rw [this,hj]
    simp [hnk]
theorem Rg.del {P:Program} {t tk te ty:TypeId} {k:κ} (ht:P.underlying t=some (.map tk te)) (K:KT P tk κ) (h:Rg w r b l lf) (hk:Key.ok k=true) :
  ∃ w',(Builtin.delete_ #[t,tk] ty #[.map (some b),fv k]).run P w=.ok (.tuple #[]) w'∧Chg b w w'∧Rg w' r b (mdel l k) lf:=by
 obtain ⟨es,c,seen,h1,hb,he,hn,hok,hs,hc,h8⟩:=h
 have hrb:r≠b:=by rintro rfl; rw [h1] at hb; cases hb
 obtain ⟨lk,hlk⟩:=K.of k hk
 have hok':∀ p∈mdel l k,Key.ok p.1=true:=fun p hp=>hok p (mdel_mem hp)
 rcases Mp.find K he hok hk w with ⟨g1,g2⟩ | ⟨j,u,g1,g2,e,g3,g4⟩
 ·obtain ⟨h5,h6⟩:=chg_set (w:=w) (o:=.map es c) hb
  refine ⟨_,?_,h5,es,c,seen,(h5.other r hrb).trans h1,h6,?_⟩
  ·simp [Builtin.delete_,run_underlying ht,MapKept.run_getObj_map hb,K.kd.check w _ hlk,g1,MapKept.run_setObj_map _ hb,Result.andThen,ChangeMaps.setBlock]
  ·by_cases hl:l=[]
   ·subst hl
    exact ⟨he,by simp [mdel],by simp [mdel],hs,hc,fun i e p _ hp=>by simp [mdel] at hp⟩
   ·obtain ⟨p,hp⟩:=List.exists_mem_of_ne_nil l hl
    have hm:mdel l k=l:=(mget_no (d:=p.2) g2).2.2.2
    rw [hm]
    exact ⟨he,hn,hok,hs,hc,h8⟩
 ·obtain ⟨h5,h6⟩:=chg_set (w:=w) (o:=.map (es.eraseIdxIfInBounds j) c) hb
  have hjs:j<es.size:=(Array.getElem?_eq_some_iff.1 g3).1
  have hsub:(es.eraseIdxIfInBounds j).toList=es.toList.eraseIdx j:=by
   unfold Array.eraseIdxIfInBounds
   rw [dif_pos hjs]
   simp
  have hm:mdel l k=l.eraseIdx j:=(mget_at (d:=u) hn g2).2.2.2
  refine ⟨_,?_,h5,_,c,seen,(h5.other r hrb).trans h1,h6,?_,mdel_nodup hn,hok',?_,?_,?_⟩
  ·simp [Builtin.delete_,run_underlying ht,MapKept.run_getObj_map hb,K.kd.check w _ hlk,g1,MapKept.run_setObj_map _ hb,Result.andThen,ChangeMaps.setBlock]
  ·rw [hm,hsub,ChangeMaps.map_eraseIdx,he,ChangeMaps.map_eraseIdx]
  ·rw [hsub,ChangeMaps.map_eraseIdx]
   exact hs.sublist (List.eraseIdx_sublist _ _)
  ·intro e he2
   rw [hsub] at he2
   exact hc e (List.mem_of_mem_eraseIdx he2)
  ·intro i e p he2 hp2
   rw [hsub,List.getElem?_eraseIdx] at he2
   rw [hm,List.getElem?_eraseIdx] at hp2
   split at he2
   ·rename_i h; rw [if_pos h] at hp2; exact h8 i e p he2 hp2
   ·rename_i h; rw [if_neg h] at hp2; exact h8 (i + 1) e p he2 hp2
theorem mdel_filter {k:κ}:∀ {l:List (κ×ν)},(l.map (·.1)).Nodup→mdel l k=l.filter (fun p=>!decide (p.1=k))
 | [],_=>rfl
 | (a,c)::l,h=>by
  simp only [List.map_cons,List.nodup_cons] at h
  by_cases e:a=k
  ·subst e
   have:l.filter (fun p=>!decide (p.1=a))=l:=List.filter_eq_self.2 fun p hp=>by
    have:p.1≠a:=fun e=>h.1 (List.mem_map.2 ⟨p,hp,e⟩)
    simp [this]
   simp [mdel,this]
  ·simp [mdel,e,mdel_filter h.2]
end
section
variable {P:Program} {Q:Exit→Act→World→Prop} {n:Nat} {L:Fr} {D:List Deferred} {w:World} {ops:Array Oper} {rest:List Oper}
variable {ty:TypeId} {pos:String} {af:Array Edge} {x y:Operand} {t tk te:TypeId}
variable {κ ν:Type} [DecidableEq κ] [Enc κ] [Flat κ] [Key κ] [Enc ν] [Flat ν]
omit [DecidableEq κ] in
theorem srng {d b:Nat} {l:List (κ×ν)} (hx:ev n L x=.map (some b)) (ht:P.underlying t=some (.map tk te)) (h:MpS w b l)
  (cont:∀ r w',Ext w w'→w.heap.size≤r→Rg w' r b l (fun _=>true)→wpList P ops Q rest (act n (upd L d (.pointer (some ⟨r,0,none⟩))) D) w') :
  wpList P ops Q ({ dst:=some d,op:=.range t x,type:=ty,pos:=pos,after:=af,guard:=none }::rest) (act n L D) w:=by
 have hR:=Rg.new h
 obtain ⟨es,c,h1,_⟩:=h
 rw [h1] at hR
 exact Zv (by simp [execOp,hx,run_range_map w t tk te b es c ht h1]) (cont _ _ (Ext.alloc _ _) (Nat.le_refl _) hR)
theorem snxt {d r b:Nat} {l:List (κ×ν)} {lf:κ→Bool} (hx:ev n L x=.pointer (some ⟨r,0,none⟩)) (h:Rg w r b l lf)
  (h0:(∀ p∈l,lf p.1=false)→wpList P ops Q rest (act n (upd L d (.tuple #[.bool false])) D) w)
  (h1:∀ p w',p∈l→lf p.1=true→BelP (fun q=>q≠r) w.heap.size w w'→w'.heap.size=w.heap.size→(Instr.entry (.pointer (some ⟨r,0,none⟩))).run P w'=.ok (.tuple #[fv p.1,fv p.2]) w'→Rg w' r b l (fun k=>lf k && !decide (k=p.1)) →
   wpList P ops Q rest (act n (upd L d (.tuple #[.bool true,fv p.1,fv p.2])) D) w') :
  wpList P ops Q ({ dst:=some d,op:=.next x false,type:=ty,pos:=pos,after:=af,guard:=none }::rest) (act n L D) w:=by
 rcases h.next (P:=P) (ty:=ty) with ⟨g1,g2⟩ | ⟨p,w',g1,g2,g3,g4,g5,g6,g7⟩
 ·exact Zv (by simp [execOp,hx,g2]) (h0 g1)
 ·exact Zv (by simp [execOp,hx,g3]) (h1 p w' g1 g2 g4 g5 g6 g7)
omit [DecidableEq κ] [Key κ] in
theorem xent {d r:Nat} {k:κ} {v:ν} (hx:ev n L x=.pointer (some ⟨r,0,none⟩)) (h:(Instr.entry (.pointer (some ⟨r,0,none⟩))).run P w=.ok (.tuple #[fv k,fv v]) w) :
  (execOp (ev n L) { dst:=some d,op:=.entry x,type:=ty,pos:=pos,after:=af,guard:=none }).run P w=.ok (.value (.tuple #[fv k,fv v])) w:=by
 simp [execOp,hx,h]
theorem srdel {r b:Nat} {l:List (κ×ν)} {lf:κ→Bool} {k:κ} (hx:ev n L x=.map (some b)) (hy:ev n L y=fv k) (ht:P.underlying t=some (.map tk te)) (K:KT P tk κ) (h:Rg w r b l lf) (hk:Key.ok k=true)
  (cont:∀ w',Chg b w w'→Rg w' r b (mdel l k) lf→wpList P ops Q rest (act n L D) w') :
  wpList P ops Q ({ dst:=none,op:=.call { callee:=.builtin .delete,args:=#[x,y],argTypes:=#[t,tk] },type:=ty,pos:=pos,after:=af,guard:=none }::rest) (act n L D) w:=by
 obtain ⟨w',hr,h1,h2⟩:=h.del (P:=P) (ty:=ty) ht K hk
 refine wpList_plain rfl fun K hK=>?_
 simp only [Oper.wp,ev_act,execOp,resolve,invoke,Go.builtin,List.map_toArray,List.map_cons,List.map_nil,hx,hy,Sem.run_bind,Sem.run_pure,hr,Result.andThen,Oper.upon]
 exact hK _ _ (cont w' h1 h2)
end
end Go.Md
end
section
namespace Go.Proofs.YtfmelbioccbdoaaGreat
open Go Go.Md Go.RowKit
attribute [local irreducible] Go.wpList Go.Code.wp Go.Calls Go.Md.Rnd Go.Md.Mt Go.Md.MtM Go.Md.RndM Go.Code.wpIn Go.wpListIn
def jv_run (x:TTable) (O:TPM) (at_:Int):Nat→Nat→List TStep→Option (List TStep)
 | 0,_,out=>some out
 | n + 1,k,out =>
  (ix x.2.1 (k:Int)) >>= fun to=>(kok ((at_,(k:Int)):Int×Int)) >>= fun _ =>
  if decide (0<mget 0 O (at_,(k:Int)))=true then (app 16 out ([to]:List TStep)) >>= fun o=>jv_run x O at_ n (k + 1) o else jv_run x O at_ n (k + 1) out
def join_Rivals (F:Nat) (c:TCyl) (s:TStep):Option (List TStep×Int) :=
 (join_open F c ([s]:List TStep)) >>= fun o=>if (!decide (o.2=0))=true then some ([],o.2) else
 (o.1.v) >>= fun x=>(join_table_index F x s) >>= fun at_=>(join_joined x F [] [] at_) >>= fun j =>
 if (!j.1)=true then some ([],5) else
 (join_pairs x F j.2.1 j.2.2) >>= fun p=>(jv_run x p.1 at_ x.2.1.length 0 []) >>= fun out=>some (out,0)
theorem Tb.below {N B:Nat} {w w1:World} {b ma mu:Nat} {x:TTable} (h:Tb N w b ma mu x) (k:Below B w w1) (hB:N≤B):Tb N w1 b ma mu x :=
 h.belp (ok:=fun _=>True) (M:=B) ⟨k.os,k.tape,k.output,k.size,fun q hq _=>k.block q hq⟩ hB (fun _ _ _ _=>trivial)
set_option maxHeartbeats 8000000 in
theorem c187 {w0:World} {v0 v1:Value} {x0:TCyl} {x1:TStep} (r0:RV w0 v0 x0) (r1:RV w0 v1 x1) {F:Nat} {r:List TStep×Int} (hF:join_Rivals F x0 x1=some r) :
  Calls Tryz.prog 187 [v0,v1].toArray w0 (Ret fun v w'=>∃ u0:Value,v=.tuple #[u0,.int .i64 r.2]∧RV w' u0 r.1∧Ext w0 w'):=by
 unfold join_Rivals at hF
 have hz:=Md.bs hF; obtain ⟨o,Eo,hF⟩:=hz
 obtain ⟨cs,rfl,hrep⟩:=r0
 obtain ⟨cs1,rfl,hrep1⟩:=r1
 obtain rfl:=Flat.iff.1 hrep1
 refine entr (n:=54) Tryz.func187 rfl rfl rfl<|Zr<|sbx rfl (Enc.cells hrep) fun b1 w1 hx1 hg1 hb1=>sbx rfl (cells_fv x1) fun b3 w2 hx2 hg2 hb2=>?_
 have k2:=hx1.tr hx2
 have q0:RV w2 (.agg cs.toArray) x0:=RVo.ext ⟨cs,rfl,hrep⟩ k2
 have hb1:=hb1.ext hx2
 refine Za<|Za<|nl<|Zr<|Zv (xlda rfl ti48 (Enc.len hrep) (Bx.cs hb1))<|Zv (xlda rfl ti56 (Flat.len x1) (Bx.cs hb2))<|sbsv (cs:=[.int .i64 x1.1,.bool x1.2]) Tryz.underlying51 ti56 rfl (pc rfl pn) rfl rfl rfl rfl rfl fun b4 w3 hx3 hg3 hb3=>?_
 have o3:Row (α:=TStep) 56 w2.heap.size w3 (.slice (some ⟨b4,0,none⟩) 1 1) [x1]:=Row.lit hg3 hb3 rfl (ble rfl)
 have k3:=k2.tr hx3
 refine Zc (xc cb113 (mc rfl (mc rfl mn))) (c113m (x1:=([x1]:List TStep)) (q0.ext hx3) o3.rv Eo) ?_
 rintro _ w4 ⟨u1,rfl,r7,tM,hx4⟩
 have k4:=k3.tr hx4
 have hb2:=(hb2.ext hx3).ext hx4
 refine Zm<|Zv (xext (vs:=[u1,.int .i64 o.2]) rfl rfl)<|Zv (xext (vs:=[u1,.int .i64 o.2]) rfl rfl)<|Za<|Za<|nl<|wp_seq<|Zr<|Zm<|Zv (xneq rfl rfl)<|nl<|cnd rfl (fun h3=>?_) (fun h3=>?_)
 ·have hF:=ifp hF h3
  cases hF
  exact Zr<|Zm<|Za<|Za<|nl<|wp_ret<|rt rfl (.tmp rfl rfl (.tmp rfl rfl .nil)) ⟨_,rfl,RVo.nil (Nat.zero_le _),k4⟩
 have hF:=ifn hF h3
 have hz:=(tM (by simpa using h3)).get; obtain ⟨y,b,ma,mu,e,rfl,hT,hma,hmu,ga,gu⟩:=hz
 rw [e] at hF
 have hz:=Md.bs hF; obtain ⟨y',Ey,hF⟩:=hz
 cases Ey
 have hz:=Md.bs hF; obtain ⟨at_,Ea,hF⟩:=hz
 have hz:=Md.bs hF; obtain ⟨j,Ej,hF⟩:=hz
 have z3:=k3.size
 have z4:=hx4.size
 have hz:=hT.cs; obtain ⟨csT,hcT,hrT⟩:=hz
 refine wp_skip<|Zr<|Zm<|Zv (xlda rfl ti56 (Flat.len x1) (Bx.cs hb2))<|Zc (xc cb114 (mc rfl (mc rfl mn))) (c114 (x0:=y) hcT hrT (x1:=x1) ⟨_,rfl,Flat.iff.2 rfl⟩ Ea) ?_
 rintro _ w5 ⟨rfl,hx5⟩
 have T5:=hT.ext hx5
 have a5:=hma.ext hx5
 have u5:=hmu.ext hx5
 have k5:=k4.tr hx5
 have z5:=hx5.size
 refine Za<|nl<|wp_seq<|Zr<|Zm<|Zm<|Zc (xc cb273 (mc rfl (mc rfl mn))) (c273 T5 a5 u5 Ej) ?_
 rintro _ w6 ⟨rfl,a6,u6,hp6⟩
 have k6:=BelP.extO k5 hp6 (fun q h=>⟨by omega,by omega⟩)
 refine Zv (xnot rfl)<|nl<|cnd rfl (fun hf=>?_) (fun hf=>?_)
 ·have hF:=ifp hF hf
  cases hF
  exact Zr<|Za<|Za<|nl<|wp_ret<|rt rfl (.tmp rfl rfl (.tmp rfl rfl .nil)) ⟨_,rfl,RVo.nil (Nat.zero_le _),k6⟩
 have hF:=ifn hF hf
 have hz:=Md.bs hF; obtain ⟨p,Ep,hF⟩:=hz
 have hz:=Md.bs hF; obtain ⟨out0,Er,hF⟩:=hz
 cases hF
 have z6:=hp6.size
 have T6:=T5.belp hp6 z5 (fun q h1 h2 h3=>⟨h2,h3⟩)
 refine wp_skip<|Zr<|Zm<|Zc (xc cb118 (mc rfl mn)) (c118 T6 a6 u6 Ep) ?_
 rintro _ w7 ⟨bm,rfl,gm,mm,a7,u7,hp7⟩
 have z7:=hp7.size
 have k7:=BelP.extO k6 hp7 (fun q h=>⟨by omega,by omega⟩)
 have T7:=T6.belp hp7 T6.size (fun q h1 h2 h3=>⟨h2,h3⟩)
 have hz:=T7.steps; obtain ⟨aS,cs',h4,hs4⟩:=hz
 have hlen:=(RVo.rv hs4).cap
 have lm:=mm.lt
 have z07:=k7.size
 have hN7:=T7.size
 refine Za<|nl<|Zr<|Za<|nl<|wp_seq<|Zr<|Zm<|Zv (xnil rfl)<|Zv (xfa rfl fa199_1)<|Zv (xld rfl ti51 h4)<|Zv (xlen rfl Tryz.underlying51)<|Zm<|nl<|?_
 refine ct (fun L w=>∃ v,L 10=v∧Row 56 w7.heap.size w v out0∧Ext w0 w) ?_ ?_
 ·refine wp_block<|lp (I:=fun m' L w=>∃ (k:Nat) (out:List TStep) (v:Value),k + m'=y.2.1.length∧jv_run y p.1 at_ m' k out=some out0∧L 37=.int .i64 (k:Int)∧L 36=.int .i64 (y.2.1.length:Int)∧L 35=.slice aS y.2.1.length cs'∧L 9=.map (some bm)∧L 8=.int .i64 at_∧L 10=v ∧
    Row 56 w7.heap.size w v out∧Below w7.heap.size w7 w) y.2.1.length
   ⟨0,[],_,by simp,Er,rfl,rfl,rfl,rfl,rfl,rfl,Row.nil,Below.refl _ _⟩ ?_
  clear Er
  rintro m' L w ⟨k,out,v,hk,hB,l37,l36,l35,l9,l8,l10,ho,hx⟩
  have zw:=hx.size
  have sl:=(hs4.ext (w':=w) hx).rv
  refine Zr<|Zv (xlss l37 l36)<|nl<|wp_seq<|cnd rfl (fun hc0=>?_) (fun hc0=>?_)
  ·have hc0:(k:Int)<(y.2.1.length:Int):=by simpa using hc0
   obtain ⟨k',rfl⟩:∃ k',m'=k' + 1:=⟨m' - 1,by omega⟩
   rw [jv_run] at hB
   have hz:=Md.bs hB; obtain ⟨to,Et,hB⟩:=hz
   have hz:=Md.bs hB; obtain ⟨_,Ek,hB⟩:=hz
   have hkey:=kok_spec Ek
   have hadd:w64 ((k:Int) + 1)=((k + 1:Nat):Int):=by
    have hmx:y.2.1.length≤maxLen:=by omega
    rw [w64,IntWalk.i64_in _ (by unfold maxLen at hmx; omega)]
    rfl
   have hz:=(RV.els sl).ix Et; obtain ⟨bb,off,cs5,e5,i1,i2,q5,hc5⟩:=hz
   obtain rfl:=Flat.iff.1 q5
   refine wp_skip<|wp_seq<|wp_block<|Zr<|Zv (xmva l37)<|Zv (xixs (by rw [← e5]; exact l35) l37 Tryz.underlying51 ti56 i1 i2)<|Zv (xlda rfl ti56 (Flat.len to) hc5)<|sal ti56 fun b12 w9 hx9 hg9 hb9=>Za<|sstf (u:=to) rfl rfl ti56 rfl hb9 rfl fun w10 hch10 hb10=>?_
   have kx10:Ext w w10:=hx9.chg hch10 hg9
   have m10:=mm.below (hx.trans (kx10.mono zw)) lm
   refine nl<|Zr<|Zv (xmva l9)<|Zv (xmva l8)<|Zm<|Zv (xbdv (r:=[.int .i64 at_,.int .i64 (k:Int)]) ti206 sp206 (pc rfl (pc rfl pn)) rfl)<|Zv (v:=fv (mget 0 p.1 ((at_,(k:Int)):Int×Int))) (xlku (d:=(0:Int)) Tryz.underlying203 kt206 (zv2 _) m10.mp hkey rfl rfl)<|Zv (xgtr rfl rfl)<|nl<|cnd rfl (fun hf=>?_) (fun hf=>?_)
   ·have hB:=ifp hB hf
    have hz:=Md.bs hB; obtain ⟨o1,Eo1,hB⟩:=hz
    refine rg<|Zv (xmva l10)<|Zv (xlda rfl ti56 (Flat.len to) (Bx.cs hb10))<|sbsv (cs:=[.int .i64 to.1,.bool to.2]) Tryz.underlying51 ti56 rfl (pc rfl pn) rfl rfl rfl rfl rfl fun b13 w11 hx11 hg11 hb11=>?_
    have o11:Row (α:=TStep) 56 w10.heap.size w11 (.slice (some ⟨b13,0,none⟩) 1 1) [to]:=Row.lit hg11 hb11 rfl (ble rfl)
    have s10:=kx10.size
    have s11:=hx11.size
    refine sapx (l:=out) (k:=([to]:List TStep)) rfl rfl Tryz.underlying51 ti56 rfl rfl ((ho.ext kx10).ext hx11) (RV.els o11.rv) Eo1 (by omega) fun vF wF oF hBF hgF hwF=>?_
    refine Za<|nl<|rg<|Zv (xadd l37 rfl)<|Zm<|nl<|?_
    exact lq k' (Nat.lt_succ_self _) ⟨k + 1,o1,vF,by omega,hB,congrArg _ hadd,l36,l35,l9,l8,rfl,oF,hx.trans ((kx10.mono zw).trans ((hx11.mono (by omega)).trans hBF))⟩
   ·have hB:=ifn hB hf
    refine wp_skip<|rg<|Zv (xadd l37 rfl)<|Zm<|nl<|?_
    exact lq k' (Nat.lt_succ_self _) ⟨k + 1,out,v,by omega,hB,congrArg _ hadd,l36,l35,l9,l8,l10,ho.ext kx10,hx.trans (kx10.mono zw)⟩
  ·have hc0:¬ (k:Int)<(y.2.1.length:Int):=by simpa using hc0
   obtain rfl:m'=0:=by omega
   rw [jv_run] at hB
   cases hB
   exact wp_exit<|lf ⟨v,l10,ho,k7.trans (hx.mono z07)⟩
 rintro L w ⟨v,l10,ho,hx⟩
 exact Zr<|Zv (xmva l10)<|Za<|Za<|nl<|wp_ret<|rt rfl (.tmp rfl rfl (.tmp rfl rfl .nil)) ⟨_,rfl,ho.rv,hx⟩
end Go.Proofs.YtfmelbioccbdoaaGreat
end
section
namespace Go.Proofs.YtfmelbioccbdoaaGreat
open Go Go.Md Go.RowKit
attribute [local irreducible] Go.wpList Go.Code.wp Go.Calls Go.Md.Rnd Go.Md.Mt Go.Md.MtM Go.Md.RndM Go.Code.wpIn Go.wpListIn
abbrev TPair:=TStep×TStep
def jq_in (x:TTable) (O:TPM) (i:Int) (p:TStep):Nat→Nat→List TPair→Option (List TPair)
 | 0,_,out=>some out
 | n + 1,k,out =>
  (ix x.2.1 (k:Int)) >>= fun to=>(kok ((i,(k:Int)):Int×Int)) >>= fun _ =>
  if decide (0<mget 0 O (i,(k:Int)))=true then (app 32 out ([(p,to)]:List TPair)) >>= fun o=>jq_in x O i p n (k + 1) o else jq_in x O i p n (k + 1) out
def jq_out (x:TTable) (O:TPM):Nat→Nat→List TPair→Option (List TPair)
 | 0,_,out=>some out
 | n + 1,k,out=>(ix x.2.1 (k:Int)) >>= fun p=>(jq_in x O (k:Int) p x.2.1.length 0 out) >>= fun o=>jq_out x O n (k + 1) o
def join_Passages (F:Nat) (c:TCyl):Option (List TPair×Int) :=
 (join_open F c []) >>= fun o=>if (!decide (o.2=0))=true then some ([],o.2) else
 (o.1.v) >>= fun x=>(join_left x F [] (0,-1)) >>= fun q =>
 if decide (q.1=0)=true then some ([],5) else
 (join_pairs x F q.2 []) >>= fun p=>(jq_out x (p.1.filter fun z=>decide (q.1≤z.2)) x.2.1.length 0 []) >>= fun out=>some (out,0)
theorem key_one {κ ν:Type} {l:List (κ×ν)} (h:(l.map (·.1)).Nodup) {p z:κ×ν} (hp:p∈l) (hz:z∈l) (e:z.1=p.1):z=p:=by
 induction l with
 | nil=>cases hp
 | cons a l ih =>
  simp only [List.map_cons,List.nodup_cons] at h
  rcases List.mem_cons.1 hp with h1 | h1
  ·rcases List.mem_cons.1 hz with h2 | h2
   ·rw [h1,h2]
   ·exact (h.1 (List.mem_map.2 ⟨z,h2,by rw [e,h1]⟩)).elim
  ·rcases List.mem_cons.1 hz with h2 | h2
   ·exact (h.1 (List.mem_map.2 ⟨p,h1,by rw [← e,h2]⟩)).elim
   ·exact ih h.2 h1 h2
def keepL (O:TPM) (all:Int) (lf:Int×Int→Bool):TPM:=O.filter fun z=>lf z.1 || decide (all≤z.2)
theorem keepL_stay {O:TPM} (h:(O.map (·.1)).Nodup) {all:Int} {lf:Int×Int→Bool} {p:(Int×Int)×Int} (hp:p∈O) (ha:all≤p.2):keepL O all lf=keepL O all (fun k=>lf k && !decide (k=p.1)):=by
 refine List.filter_congr fun z hz=>?_
 by_cases e:z.1=p.1
 ·obtain rfl:=key_one h hp hz e
  simp [ha]
 ·simp [e]
theorem keepL_del {O:TPM} (h:(O.map (·.1)).Nodup) {all:Int} {lf:Int×Int→Bool} {p:(Int×Int)×Int} (hp:p∈O) (ha:¬ all≤p.2):mdel (keepL O all lf) p.1=keepL O all (fun k=>lf k && !decide (k=p.1)):=by
 have hn:((keepL O all lf).map (·.1)).Nodup:=h.sublist (List.filter_sublist.map _)
 rw [mdel_filter hn]
 unfold keepL
 rw [List.filter_filter]
 refine List.filter_congr fun z hz=>?_
 by_cases e:z.1=p.1
 ·obtain rfl:=key_one h hp hz e
  simp [ha]
 ·simp [e]
theorem keepL_end {O:TPM} {all:Int} {lf:Int×Int→Bool} (h:∀ p∈keepL O all lf,lf p.1=false):keepL O all lf=O.filter fun z=>decide (all≤z.2):=by
 refine List.filter_congr fun z hz=>?_
 cases hl:lf z.1 with
 | false=>simp
 | true =>
  have:=h z (List.mem_filter.2 ⟨hz,by simp [hl]⟩)
  rw [hl] at this
  cases this
theorem left_less {O:TPM} {lf:Int×Int→Bool} {p:(Int×Int)×Int} (hp:p∈O) (hl:lf p.1=true):(O.filter fun z=>lf z.1 && !decide (z.1=p.1)).length<(O.filter fun z=>lf z.1).length:=by
 have:(O.filter fun z=>lf z.1 && !decide (z.1=p.1))=(O.filter fun z=>lf z.1).filter fun z=>!decide (z.1=p.1):=by
  rw [List.filter_filter]
  refine List.filter_congr fun z _=>?_
  cases lf z.1 <;> simp
 rw [this]
 exact List.length_filter_lt_length_iff_exists.2 ⟨p,List.mem_filter.2 ⟨hp,hl⟩,by simp⟩
set_option maxHeartbeats 16000000 in
theorem c37 {w0:World} {v0:Value} {x0:TCyl} (r0:RV w0 v0 x0) {F:Nat} {r:List TPair×Int} (hF:join_Passages F x0=some r) :
  Calls Tryz.prog 37 [v0].toArray w0 (Ret fun v w'=>∃ u0:Value,v=.tuple #[u0,.int .i64 r.2]∧RV w' u0 r.1∧Ext w0 w'):=by
 unfold join_Passages at hF
 have hz:=Md.bs hF; obtain ⟨o,Eo,hF⟩:=hz
 obtain ⟨cs,rfl,hrep⟩:=r0
 refine entr (n:=76) Tryz.func37 rfl rfl rfl<|Zr<|sbx rfl (Enc.cells hrep) fun b1 w1 hx1 hg1 hb1=>?_
 have r1:RV w1 (.agg cs.toArray) x0:=RVo.ext ⟨cs,rfl,hrep⟩ hx1
 refine Za<|Za<|nl<|Zr<|Zv (xlda rfl ti48 (Enc.len hrep) (Bx.cs hb1))<|Zc (xc cb113 (mc rfl (mc rfl mn))) (c113m r1 (RVo.nil (Nat.zero_le _)) Eo) ?_
 rintro _ w2 ⟨u1,rfl,r7,tM,hx2⟩
 have k2:=hx1.tr hx2
 refine Zm<|Zv (xext (vs:=[u1,.int .i64 o.2]) rfl rfl)<|Zv (xext (vs:=[u1,.int .i64 o.2]) rfl rfl)<|Za<|Za<|nl<|wp_seq<|Zr<|Zm<|Zv (xneq rfl rfl)<|nl<|cnd rfl (fun h3=>?_) (fun h3=>?_)
 ·have hF:=ifp hF h3
  cases hF
  exact Zr<|Zm<|Za<|Za<|nl<|wp_ret<|rt rfl (.tmp rfl rfl (.tmp rfl rfl .nil)) ⟨_,rfl,RVo.nil (Nat.zero_le _),k2⟩
 have hF:=ifn hF h3
 have hz:=(tM (by simpa using h3)).get; obtain ⟨y,b,ma,mu,e,rfl,hT,hma,hmu,ga,gu⟩:=hz
 rw [e] at hF
 have hz:=Md.bs hF; obtain ⟨y',Ey,hF⟩:=hz
 cases Ey
 have s1:=hx1.size
 have s2:=hx2.size
 have hz:=Md.bs hF; obtain ⟨q,Eq,hF⟩:=hz
 refine wp_skip<|Zr<|Zm<|Zc (xc cb117 (mc rfl mn)) (c117 hT hma Eq) ?_
 rintro _ w3 ⟨rfl,hm3,hp3⟩
 have s3:=hp3.size
 have k3:=BelP.extO k2 hp3 (fun q h=>by omega)
 have T3:=hT.belp hp3 (Nat.le_refl _) (fun q h1 h2 h3=>h2)
 have u3:=hmu.belp hp3 hmu.lt (fun e=>hT.ne e.symm)
 refine Za<|nl<|wp_seq<|Zr<|Zm<|Zv (xeql rfl rfl)<|nl<|cnd rfl (fun hf=>?_) (fun hf=>?_)
 ·have hF:=ifp hF hf
  cases hF
  exact Zr<|Za<|Za<|nl<|wp_ret<|rt rfl (.tmp rfl rfl (.tmp rfl rfl .nil)) ⟨_,rfl,RVo.nil (Nat.zero_le _),k3⟩
 have hF:=ifn hF hf
 have hz:=Md.bs hF; obtain ⟨p,Ep,hF⟩:=hz
 have hz:=Md.bs hF; obtain ⟨out0,Er,hF⟩:=hz
 cases hF
 refine wp_skip<|Zr<|Zm<|Zc (xc cb118 (mc rfl mn)) (c118 T3 hm3 u3 Ep) ?_
 rintro _ w4 ⟨bm,rfl,gm,mm,a4,u4,hp4⟩
 have s4:=hp4.size
 have k4:=BelP.extO k3 hp4 (fun q h=>⟨by omega,by omega⟩)
 have T4:=T3.belp hp4 T3.size (fun q h1 h2 h3=>⟨h2,h3⟩)
 have hnd:(p.1.map (·.1)).Nodup:=by obtain ⟨_,_,_,_,h,_⟩:=mm; exact h
 have hN3:=hT.size
 refine Za<|nl<|wp_seq<|Zr<|Zm<|srng rfl Tryz.underlying203 mm fun br w5 hx5 hg5 hR5=>nl<|?_
 have k5:=k4.tr hx5
 have T5:=T4.ext hx5
 have s5:=hx5.size
 have gbm:w3.heap.size≤bm:=gm
 refine ct (fun L w=>L 4=.pointer (some ⟨b,0,none⟩)∧L 7=.map (some bm)∧MpS w bm (p.1.filter fun z=>decide (q.1≤z.2))∧Tb w2.heap.size w b ma mu y∧Ext w0 w) ?_ ?_
 ·refine wp_block<|lp (I:=fun m' L w=>∃ lf:Int×Int→Bool,(p.1.filter fun z=>lf z.1).length≤m'∧Rg w br bm (keepL p.1 q.1 lf) lf∧L 30=.pointer (some ⟨br,0,none⟩)∧L 4=.pointer (some ⟨b,0,none⟩)∧L 6=.int .i64 q.1∧L 7=.map (some bm)∧Tb w2.heap.size w b ma mu y∧Ext w0 w) p.1.length
   ⟨fun _=>true,List.length_filter_le _ _,?_,rfl,rfl,rfl,rfl,T5,k5⟩ ?_
  ·have:keepL p.1 q.1 (fun _=>true)=p.1:=List.filter_eq_self.2 fun _ _=>by simp
   rw [this]
   exact hR5
  rintro m' L w ⟨lf,hm',hR,l30,l4,l6,l7,T,hx⟩
  have hs:=hx.size
  have hok:=hR.mps.mp.ok
  have hrl:=hR.ltr
  have hbl:=hR.mps.lt
  have zT:=T.size
  refine Zr<|snxt l30 hR (fun hd=>?_) (fun z w' hz hlz hpz hsz hent hR'=>?_)
  ·refine Zv (xext (vs:=[.bool false]) rfl rfl)<|nl<|wp_seq<|cnd rfl (fun h=>by cases h) (fun _=>?_)
   rw [keepL_end hd] at hR
   exact wp_exit<|Md.lf ⟨l4,l7,hR.mps,T,hx⟩
  ·have hzO:z∈p.1:=(List.mem_filter.1 hz).1
   have hk:Key.ok z.1=true:=hok z hz
   have hx':Ext w0 w':=hx.trans (hpz.below hs fun q h=>by omega)
   have T':Tb w2.heap.size w' b ma mu y:=T.belp hpz zT (fun q h1 h2 h3=>by omega)
   have hlt:=left_less hzO hlz
   refine Zv (xext (vs:=[.bool true,fv z.1,fv z.2]) rfl rfl)<|nl<|wp_seq<|cnd rfl (fun _=>?_) (fun h=>by cases h)
   refine wp_skip<|wp_block<|Zr<|Zv (xent l30 hent)<|Zv (xext (vs:=[fv z.1,fv z.2]) rfl rfl)<|Zv (xext (vs:=[fv z.1,fv z.2]) rfl rfl)<|sal ti206 fun b8 w6 hx6 hg6 hb6=>sstf (u:=z.1) rfl rfl ti206 rfl hb6 rfl fun w7 hch7 hb7=>?_
   have kx7:Ext w' w7:=hx6.chg hch7 hg6
   have hR7:=hR'.ext kx7
   refine Za<|nl<|Zr<|Zm<|Zv (xmva l6)<|Zv (xlss rfl rfl)<|nl<|cnd rfl (fun hc=>?_) (fun hc=>?_)
   ·have hc:z.2<q.1:=by simpa using hc
    refine rg<|Zv (xmva l7)<|Zv (xlda rfl ti206 (Flat.len z.1) (Bx.cs hb7))<|srdel (k:=z.1) rfl rfl Tryz.underlying203 kt206 hR7 hk fun w8 hch8 hR8=>nl ?_
    rw [keepL_del hnd hzO (by omega)] at hR8
    have s7:=kx7.size
    refine lq (m' - 1) (by omega) ⟨_,by omega,hR8,l30,l4,l6,l7,?_,?_⟩
    ·exact (T'.ext kx7).belp (ok:=fun q=>q≠bm) (M:=w7.heap.size) (BelP.refl.chg hch8 (.inr fun h=>h rfl)) (T'.ext kx7).size (fun q h1 h2 h3=>by omega)
    ·exact (hx'.tr kx7).chg hch8 (by omega)
   ·have hc:¬ z.2<q.1:=by simpa using hc
    rw [keepL_stay hnd hzO (by omega)] at hR7
    exact wp_skip<|lq (m' - 1) (by omega) ⟨_,by omega,hR7,l30,l4,l6,l7,T'.ext kx7,hx'.tr kx7⟩
 clear hR5 T5
 rintro L w7 ⟨l4,l7,mm,T7,k7⟩
 generalize p.1.filter (fun z=>decide (q.1≤z.2))=O at mm Er
 have hz:=T7.steps; obtain ⟨aS,cs',h4,hs4⟩:=hz
 have hlen:=(RVo.rv hs4).cap
 have lm:=mm.lt
 have z07:=k7.size
 have hN7:=T7.size
 have hbl:=T7.lb
 refine Zr<|Za<|nl<|wp_seq<|Zr<|Zv (xmva l4)<|Zv (xnil rfl)<|Zv (xfa rfl fa199_1)<|Zv (xld rfl ti51 h4)<|Zv (xlen rfl Tryz.underlying51)<|Zm<|nl<|?_
 refine ct (fun L w=>∃ v,L 10=v∧Row 92 w7.heap.size w v out0∧Ext w0 w) ?_ ?_
 ·refine wp_block<|lp (I:=fun m' L w=>∃ (k:Nat) (out:List TPair) (v:Value),k + m'=y.2.1.length∧jq_out y O m' k out=some out0∧L 46=.int .i64 (k:Int)∧L 45=.int .i64 (y.2.1.length:Int)∧L 44=.slice aS y.2.1.length cs'∧L 7=.map (some bm)∧L 4=.pointer (some ⟨b,0,none⟩)∧L 10=v ∧
    Row 92 w7.heap.size w v out∧Below w7.heap.size w7 w) y.2.1.length
   ⟨0,[],_,by simp,Er,rfl,rfl,rfl,l7,l4,rfl,Row.nil,Below.refl _ _⟩ ?_
  clear Er l4 l7
  rintro m' L w ⟨i,out,v,hk,hB,l46,l45,l44,l7,l4,l10,ho,hx⟩
  have zw:=hx.size
  have sl:=(hs4.ext (w':=w) hx).rv
  refine Zr<|Zv (xlss l46 l45)<|nl<|wp_seq<|cnd rfl (fun hc0=>?_) (fun hc0=>?_)
  ·have hc0:(i:Int)<(y.2.1.length:Int):=by simpa using hc0
   obtain ⟨i',rfl⟩:∃ i',m'=i' + 1:=⟨m' - 1,by omega⟩
   rw [jq_out] at hB
   have hz:=Md.bs hB; obtain ⟨fr',Ef,hB⟩:=hz
   have hz:=Md.bs hB; obtain ⟨o1,E1,hB⟩:=hz
   have hadd:w64 ((i:Int) + 1)=((i + 1:Nat):Int):=by
    have hmx:y.2.1.length≤maxLen:=by omega
    rw [w64,IntWalk.i64_in _ (by unfold maxLen at hmx; omega)]
    rfl
   have hz:=(RV.els sl).ix Ef; obtain ⟨bb,off,cs5,e5,i1,i2,q5,hc5⟩:=hz
   obtain rfl:=Flat.iff.1 q5
   refine wp_skip<|wp_seq<|wp_block<|Zr<|Zv (xmva l46)<|Zv (xixs (by rw [← e5]; exact l44) l46 Tryz.underlying51 ti56 i1 i2)<|Zv (xlda rfl ti56 (Flat.len fr') hc5)<|sal ti56 fun b12 w9 hx9 hg9 hb9=>Za<|sstf (u:=fr') rfl rfl ti56 rfl hb9 rfl fun w10 hch10 hb10=>?_
   have kx10:Ext w w10:=hx9.chg hch10 hg9
   have s10:=kx10.size
   have lo12:=hb10.lt
   have hx10:=hx.trans (kx10.mono zw)
   have h4':w10.cell? ⟨b,4,none⟩=some (.slice aS y.2.1.length cs'):=(World.cell?_of_block (a:=⟨b,4,none⟩) (hx10.block b (by omega))).trans h4
   refine nl<|Zr<|Zv (xmva l4)<|Zv (xnil rfl)<|Zv (xfa rfl fa199_1)<|Zv (xld rfl ti51 h4')<|Zv (xlen rfl Tryz.underlying51)<|Zm<|nl<|?_
   refine ct (fun L w'=>∃ v,L 46=.int .i64 (i:Int)∧L 45=.int .i64 (y.2.1.length:Int)∧L 44=.slice aS y.2.1.length cs'∧L 7=.map (some bm)∧L 4=.pointer (some ⟨b,0,none⟩)∧L 10=v∧Row 92 w7.heap.size w' v o1∧Below w7.heap.size w7 w') ?_ ?_
   ·refine wp_block<|lp (I:=fun m' L w'=>∃ (k:Nat) (out:List TPair) (v:Value),k + m'=y.2.1.length∧jq_in y O (i:Int) fr' m' k out=some o1∧L 56=.int .i64 (k:Int)∧L 55=.int .i64 (y.2.1.length:Int)∧L 54=.slice aS y.2.1.length cs'∧L 11=.int .i64 (i:Int)∧L 12=.pointer (some ⟨b12,0,none⟩)∧Bx w' b12 56 (Flat.enc fr') ∧
      L 46=.int .i64 (i:Int)∧L 45=.int .i64 (y.2.1.length:Int)∧L 44=.slice aS y.2.1.length cs'∧L 7=.map (some bm)∧L 4=.pointer (some ⟨b,0,none⟩)∧L 10=v∧(∀ q,v.ownBlock=some q→q≠b12)∧Row 92 w7.heap.size w' v out∧Below w7.heap.size w7 w') y.2.1.length
     ⟨0,out,v,by simp,E1,rfl,rfl,rfl,rfl,rfl,hb10,l46,l45,l44,l7,l4,l10,fun q hq e=>by have:=ho.own_lt q hq; omega,ho.ext kx10,hx10⟩ ?_
    clear E1 hb10
    rintro m' L w' ⟨k,out,v,hk,hB2,l56,l55,l54,l11,l12,hb12,l46,l45,l44,l7,l4,l10,hno,ho,hx⟩
    have zw:=hx.size
    have sl:=(hs4.ext (w':=w') hx).rv
    refine Zr<|Zv (xlss l56 l55)<|nl<|wp_seq<|cnd rfl (fun hc1=>?_) (fun hc1=>?_)
    ·have hc1:(k:Int)<(y.2.1.length:Int):=by simpa using hc1
     obtain ⟨k',rfl⟩:∃ k',m'=k' + 1:=⟨m' - 1,by omega⟩
     rw [jq_in] at hB2
     have hz:=Md.bs hB2; obtain ⟨to,Et,hB2⟩:=hz
     have hz:=Md.bs hB2; obtain ⟨_,Ek,hB2⟩:=hz
     have hkey:=kok_spec Ek
     have hadd2:w64 ((k:Int) + 1)=((k + 1:Nat):Int):=by
      have hmx:y.2.1.length≤maxLen:=by omega
      rw [w64,IntWalk.i64_in _ (by unfold maxLen at hmx; omega)]
      rfl
     have hz:=(RV.els sl).ix Et; obtain ⟨bb,off,cs5,e5,i1,i2,q5,hc5⟩:=hz
     obtain rfl:=Flat.iff.1 q5
     refine wp_skip<|wp_seq<|wp_block<|Zr<|Zv (xmva l56)<|Zv (xixs (by rw [← e5]; exact l54) l56 Tryz.underlying51 ti56 i1 i2)<|Zv (xlda rfl ti56 (Flat.len to) hc5)<|sal ti56 fun b14 w9 hx9 hg9 hb9=>Za<|sstf (u:=to) rfl rfl ti56 rfl hb9 rfl fun w10 hch10 hb10=>?_
     have kx10:Ext w' w10:=hx9.chg hch10 hg9
     have m10:=mm.below (hx.trans (kx10.mono zw)) lm
     have d12:=hb12.ext kx10
     have l12':=hb12.lt
     refine nl<|Zr<|Zv (xmva l7)<|Zv (xmva l11)<|Zm<|Zv (xbdv (r:=[.int .i64 (i:Int),.int .i64 (k:Int)]) ti206 sp206 (pc rfl (pc rfl pn)) rfl)<|Zv (v:=fv (mget 0 O (((i:Int),(k:Int)):Int×Int))) (xlku (d:=(0:Int)) Tryz.underlying203 kt206 (zv2 _) m10.mp hkey rfl rfl)<|Zv (xgtr rfl rfl)<|nl<|cnd rfl (fun hf=>?_) (fun hf=>?_)
     ·have hB2:=ifp hB2 hf
      have hz:=Md.bs hB2; obtain ⟨o2,Eo2,hB2⟩:=hz
      refine rg<|Zv (xmva l10)<|Zv (xlda l12 ti56 (Flat.len fr') (Bx.cs d12))<|Zv (xlda rfl ti56 (Flat.len to) (Bx.cs hb10))<|Zv (xbdv (r:=[.int .i64 fr'.1,.bool fr'.2,.int .i64 to.1,.bool to.2]) ti92 sp92 (pc rfl (pc rfl pn)) rfl)<|sbsv (cs:=[.int .i64 fr'.1,.bool fr'.2,.int .i64 to.1,.bool to.2]) Tryz.underlying75 ti92 rfl (pc rfl pn) rfl rfl rfl rfl rfl fun b13 w11 hx11 hg11 hb11=>?_
      have o11:Row (α:=TPair) 92 w10.heap.size w11 (.slice (some ⟨b13,0,none⟩) 1 1) [(fr',to)]:=Row.lit hg11 hb11 rfl (ble rfl)
      have s10:=kx10.size
      have s11:=hx11.size
      refine sapx (l:=out) (k:=([(fr',to)]:List TPair)) rfl rfl Tryz.underlying75 ti92 rfl rfl ((ho.ext kx10).ext hx11) (RV.els o11.rv) Eo2 (by omega) fun vF wF oF hBF hgF hwF=>?_
      refine Za<|nl<|rg<|Zv (xadd l56 rfl)<|Zm<|nl<|?_
      refine lq k' (Nat.lt_succ_self _) ⟨k + 1,o2,vF,by omega,hB2,congrArg _ hadd2,l55,l54,l11,l12,(d12.ext hx11).gr hgF (fun e=>hno _ e.symm rfl),l46,l45,l44,l7,l4,rfl,fun q' hq e=>?_,oF,hx.trans ((kx10.mono zw).trans ((hx11.mono (by omega)).trans hBF))⟩
      rcases hwF with h | ⟨g,h,hg⟩
      ·exact hno q' (h.symm.trans hq) e
      ·rw [h] at hq
       cases hq
       omega
     ·have hB2:=ifn hB2 hf
      refine wp_skip<|rg<|Zv (xadd l56 rfl)<|Zm<|nl<|?_
      exact lq k' (Nat.lt_succ_self _) ⟨k + 1,out,v,by omega,hB2,congrArg _ hadd2,l55,l54,l11,l12,d12,l46,l45,l44,l7,l4,l10,hno,ho.ext kx10,hx.trans (kx10.mono zw)⟩
    ·have hc1:¬ (k:Int)<(y.2.1.length:Int):=by simpa using hc1
     obtain rfl:m'=0:=by omega
     rw [jq_in] at hB2
     cases hB2
     exact wp_exit<|lf ⟨v,l46,l45,l44,l7,l4,l10,ho,hx⟩
   ·rintro L w' ⟨v,l46,l45,l44,l7,l4,l10,ho,hx⟩
    refine rg<|Zv (xadd l46 rfl)<|Zm<|nl<|?_
    exact lq i' (Nat.lt_succ_self _) ⟨i + 1,o1,v,by omega,hB,congrArg _ hadd,l45,l44,l7,l4,l10,ho,hx⟩
  ·have hc0:¬ (i:Int)<(y.2.1.length:Int):=by simpa using hc0
   obtain rfl:m'=0:=by omega
   rw [jq_out] at hB
   cases hB
   exact wp_exit<|lf ⟨v,l10,ho,k7.trans (hx.mono z07)⟩
 rintro L w ⟨v,l10,ho,hx⟩
 exact Zr<|Zv (xmva l10)<|Za<|Za<|nl<|wp_ret<|rt rfl (.tmp rfl rfl (.tmp rfl rfl .nil)) ⟨_,rfl,ho.rv,hx⟩
end Go.Proofs.YtfmelbioccbdoaaGreat
end
section
namespace Go.Proofs.YtfmelbioccbdoaaGreat
open Go Go.Md Go.RowKit
attribute [local irreducible] Go.wpList Go.Code.wp Go.Calls Go.Md.Rnd Go.Md.Mt Go.Md.MtM Go.Md.RndM Go.Code.wpIn
theorem c182r {w0:World}  {r:((List ((((Int×Int)×Int)×((Int×Int)×Int))×Bool))×Int×(Int×Int))} (hF:law02_Cracked=some r) :
  Calls Tryz.prog 182 [].toArray w0 (Ret fun v w'=>∃ a:Option Addr,v=.agg [.slice a r.1.length 4,.int .i64 0,.int .i64 0,.int .i64 0].toArray∧Row (α:=TPiece) 176 w0.heap.size w' (.slice a r.1.length 4) r.1∧Ext w0 w'):=by
 unfold law02_Cracked at hF
 refine entr (n:=7) Tryz.func182 rfl rfl rfl<|Zr<|sal ti48 fun b1 w1 hx1 hg1 hb1=>?_
 refine nl<|Zr<|?_
 have hz:=bs hF; obtain ⟨x1,Ex1,hF⟩:=hz
 refine Zc (xc cb271 (mc rfl (mc rfl (mc rfl mn)))) (c271 Ex1) ?_
 rintro _ w2 ⟨u1,rfl,r1,hx2⟩
 have k1:=hx1.tr hx2
 have hb2:=hb1.ext hx2
 have hz:=id r1; obtain ⟨_,rfl,⟨_,_,rfl,⟨_,_,rfl,⟨_,_,rfl,⟨_,_,rfl,rfl,rfl⟩,rfl⟩,⟨_,_,rfl,⟨_,_,rfl,rfl,rfl⟩,rfl⟩⟩,rfl⟩⟩:=hz
 have hz:=bs hF; obtain ⟨x2,Ex2,hF⟩:=hz
 refine Zc (xc cb271 (mc rfl (mc rfl (mc rfl mn)))) (c271 Ex2) ?_
 rintro _ w3 ⟨u2,rfl,r2,hx3⟩
 have k2:=k1.tr hx3
 have hb3:=hb2.ext hx3
 have r3:=r1.ext hx3
 have hz:=id r2; obtain ⟨_,rfl,⟨_,_,rfl,⟨_,_,rfl,⟨_,_,rfl,⟨_,_,rfl,rfl,rfl⟩,rfl⟩,⟨_,_,rfl,⟨_,_,rfl,rfl,rfl⟩,rfl⟩⟩,rfl⟩⟩:=hz
 have hz:=bs hF; obtain ⟨x3,Ex3,hF⟩:=hz
 refine Zc (xc cb271 (mc rfl (mc rfl (mc rfl mn)))) (c271 Ex3) ?_
 rintro _ w4 ⟨u3,rfl,r4,hx4⟩
 have k3:=k2.tr hx4
 have hb4:=hb3.ext hx4
 have r5:=r3.ext hx4
 have r6:=r2.ext hx4
 have hz:=id r4; obtain ⟨_,rfl,⟨_,_,rfl,⟨_,_,rfl,⟨_,_,rfl,⟨_,_,rfl,rfl,rfl⟩,rfl⟩,⟨_,_,rfl,⟨_,_,rfl,rfl,rfl⟩,rfl⟩⟩,rfl⟩⟩:=hz
 have hz:=bs hF; obtain ⟨x4,Ex4,hF⟩:=hz
 refine Zc (xc cb271 (mc rfl (mc rfl (mc rfl mn)))) (c271 Ex4) ?_
 rintro _ w5 ⟨u4,rfl,r7,hx5⟩
 have k4:=k3.tr hx5
 have hb5:=hb4.ext hx5
 have r8:=r5.ext hx5
 have r9:=r6.ext hx5
 have r10:=r4.ext hx5
 have hz:=id r7; obtain ⟨_,rfl,⟨_,_,rfl,⟨_,_,rfl,⟨_,_,rfl,⟨_,_,rfl,rfl,rfl⟩,rfl⟩,⟨_,_,rfl,⟨_,_,rfl,rfl,rfl⟩,rfl⟩⟩,rfl⟩⟩:=hz
 refine sbsv (cs:=[.int .i64 x1.1.1.1.1,.int .i64 x1.1.1.1.2,.int .i64 x1.1.1.2,.int .i64 x1.1.2.1.1,.int .i64 x1.1.2.1.2,.int .i64 x1.1.2.2,.bool x1.2,.int .i64 x2.1.1.1.1,.int .i64 x2.1.1.1.2,.int .i64 x2.1.1.2,.int .i64 x2.1.2.1.1,.int .i64 x2.1.2.1.2,.int .i64 x2.1.2.2,.bool x2.2,.int .i64 x3.1.1.1.1,.int .i64 x3.1.1.1.2,.int .i64 x3.1.1.2,.int .i64 x3.1.2.1.1,.int .i64 x3.1.2.1.2,.int .i64 x3.1.2.2,.bool x3.2,.int .i64 x4.1.1.1.1,.int .i64 x4.1.1.1.2,.int .i64 x4.1.1.2,.int .i64 x4.1.2.1.1,.int .i64 x4.1.2.1.2,.int .i64 x4.1.2.2,.bool x4.2]) Tryz.underlying46 ti176 rfl (pc rfl (pc rfl (pc rfl (pc rfl pn)))) rfl rfl rfl rfl rfl fun b2 w6 hx6 hg2 hb6=>?_
 have k5:=k4.tr hx6
 have hb7:=hb5.ext hx6
 have o1:Row (α:=((((Int×Int)×Int)×((Int×Int)×Int))×Bool)) 176 w5.heap.size w6 (.slice (some ⟨b2,0,none⟩) 4 4) [x1,x2,x3,x4]:=Row.lit hg2 hb6 rfl (ble rfl)
 refine Zv (xbdv (r:=[.slice (some ⟨b2,0,none⟩) ([x1,x2,x3,x4]:List ((((Int×Int)×Int)×((Int×Int)×Int))×Bool)).length 4,.int .i64 0,.int .i64 0,.int .i64 0]) ti48 sp48 (pc rfl pn) rfl)<|sst rfl rfl rfl ti48 hb7 rfl rfl (ble rfl) fun w7 hch1 hb8=>?_
 have k6:=Ext.chg k5 hch1 (Nat.le_trans (Nat.le_refl _) hg1)
 have o2:=Row.chg o1 hch1 hb5.lt
 have hb9:Bx w7 b1 48 [.slice (some ⟨b2,0,none⟩) ([x1,x2,x3,x4]:List ((((Int×Int)×Int)×((Int×Int)×Int))×Bool)).length 4,.int .i64 0,.int .i64 0,.int .i64 0]:=hb8
 refine nl<|?_
 cases hF
 exact wp_ret<|rt rfl (.cell rfl rfl ti48 rfl (Bx.cs hb9) .nil) ⟨_,rfl,o2.bnd k4.size,k6⟩
theorem slhO {P:Program} {α:Type} [Enc α] {ok:Nat→Prop} {w:World} {t e:TypeId} {agg:Bool} {bytes:Nat} {zz:List Value} {a:Option Addr} {len cap:Nat} {l r:List α} {i:Int} (hl:RVo ok w (.slice a len cap) l) (hr:stake l i=some r) (ht:P.underlying t=some (.slice e)) (he:TI P e agg (Enc.n α) bytes zz) :
  ∃ a' c',RVo ok w (.slice a' r.length c') r∧∀ (w':World) (n:Nat) (L:Fr) (x y:Operand) (ty:TypeId) (pos:String) (af:Array Edge) (dst:Option Nat) (gdd:Option (Nat×Bool)),ev n L x=.slice a l.length cap→ev n L y=.int .i64 i →
   (execOp (ev n L) { dst:=dst,op:=.slice t x none (some y) none,type:=ty,pos:=pos,after:=af,guard:=gdd }).run P w'=.ok (.value (.slice a' r.length c')) w':=by
 obtain ⟨h0,h1,rfl⟩:=stake_spec hr
 obtain ⟨_,_,e1,h2,h3,h4⟩:=RVo.sl.1 hl
 cases e1
 have hlt:(l.take i.toNat).length=i.toNat:=by rw [List.length_take]; omega
 refine ⟨if cap=0 then a else a.map (·.add (0 * Enc.n α)),cap,?_,?_⟩
 ·refine RVo.sl.2 ⟨_,_,rfl,by rw [List.length_take]; omega,by omega,?_⟩
  rcases h4 with rfl | ⟨b,off,rfl,hb,hlt2,h⟩
  ·exact .inl (by simp)
  ·by_cases hc:cap=0
   ·exact .inl (List.eq_nil_of_length_eq_zero (by omega))
   ·refine .inr ⟨b,off,by simp [hc,Addr.add],hb,hlt2,fun j x hx=>?_⟩
    rw [List.getElem?_take] at hx
    split at hx
    ·exact h _ _ hx
    ·cases hx
 ·intro w' n L x y ty pos af dst gdd hx hy
  rw [hlt]
  have h4:i≤(cap:Int):=by omega
  simp [execOp,Instr.sliceAt,run_underlying ht,Instr.slice,hx,hy,Instr.sliceBounds,Instr.sliceBound,asIntOf,he.size,h0,h4]
def law02_whole:Option TCyl:=law02_Cracked >>= fun c=>(stake c.1 3) >>= fun p=>some (p,0,(0,0))
theorem c183 {w0:World} {r:TCyl} (hF:law02_whole=some r):Calls Tryz.prog 183 [].toArray w0 (Ret fun v w'=>∃ u0:Value,v=u0∧RV w' u0 r∧Ext w0 w'):=by
 unfold law02_whole at hF
 have hz:=bs hF; obtain ⟨c,Ec,hF⟩:=hz
 have hz:=bs hF; obtain ⟨p,Ep,hF⟩:=hz
 cases hF
 refine entr (n:=5) Tryz.func183 rfl rfl rfl<|Zr<|sal ti48 fun b1 w1 hx1 hg1 hb1=>?_
 refine nl<|Zr<|Zc (xc cb182 mn) (c182r Ec) ?_
 rintro _ w2 ⟨a,rfl,o2,hx2⟩
 have hb2:=hb1.ext hx2
 have hz:=slhO (t:=46) (e:=176) o2.rvo Ep Tryz.underlying46 ti176; obtain ⟨a',c',hr,hrun⟩:=hz
 refine Zv (xfl (off:=0) (cs:=[.slice a c.1.length 4,.int .i64 0,.int .i64 0,.int .i64 0]) rfl (by kernel_rfl) ti46 rfl)<|Zv (hrun _ _ _ _ _ _ _ _ _ _ rfl rfl)<|Zv (xbdv (r:=[.slice a' p.length c',.int .i64 0,.int .i64 0,.int .i64 0]) ti48 sp48 (pc rfl pn) rfl)<|sst rfl rfl rfl ti48 hb2 rfl rfl (ble rfl) fun w3 hch3 hb3=>?_
 have l1:=hb1.lt
 have hr3:RVo (fun b=>w1.heap.size≤b) w3 (.slice a' p.length c') p:=hr.chg hch3 (by omega)
 have hb4:Bx w3 b1 48 [.slice a' p.length c',.int .i64 0,.int .i64 0,.int .i64 0]:=hb3
 refine nl<|wp_ret<|rt rfl (.cell rfl rfl ti48 rfl (Bx.cs hb4) .nil) ⟨_,rfl,?_,(hx1.tr hx2).chg hch3 hg1⟩
 exact ⟨_,rfl,⟨[.slice a' p.length c'],[.int .i64 0]++([.int .i64 0]++[.int .i64 0]),rfl,hr3.rv.rep1,⟨[.int .i64 0],[.int .i64 0]++[.int .i64 0],rfl,rfl,⟨[.int .i64 0],[.int .i64 0],rfl,rfl,rfl⟩⟩⟩⟩
end Go.Proofs.YtfmelbioccbdoaaGreat
end
section
namespace Go.Proofs.YtfmelbioccbdoaaGreat
open Go Go.Md Go.RowKit
def law02_Works (F:Nat) :Option Bool :=
 (law02_Cracked) >>= fun x1 =>
 (law02_whole) >>= fun x2 =>
 (join_Count F (x1.1,x1.2.1,(x1.2.2.1,x1.2.2.2))) >>= fun x3 =>
 (join_Nth F (x1.1,x1.2.1,(x1.2.2.1,x1.2.2.2)) 1) >>= fun x4 =>
 (law02_On F ([0,3,1,2]:List Int)) >>= fun x5 =>
 (join_Rank F (x1.1,x1.2.1,(x1.2.2.1,x1.2.2.2)) x5) >>= fun x6 =>
 (join_Only F (x1.1,x1.2.1,(x1.2.2.1,x1.2.2.2))) >>= fun x7 =>
 (join_Only F (x2.1,x2.2.1,(x2.2.2.1,x2.2.2.2))) >>= fun x8 =>
 (join_Passages F (x1.1,x1.2.1,(x1.2.2.1,x1.2.2.2))) >>= fun x9 =>
 (join_Passages F (x2.1,x2.2.1,(x2.2.2.1,x2.2.2.2))) >>= fun x10 =>
 (join_Rivals F (x1.1,x1.2.1,(x1.2.2.1,x1.2.2.2)) (1,false)) >>= fun x11 =>
 (join_Fits F (x2.1,x2.2.1,(x2.2.2.1,x2.2.2.2)) (0,false) (2,false)) >>= fun x12 =>
 (law02_On F ([0,2,1,3]:List Int)) >>= fun x13 =>
 (join_CheckJoin F (x1.1,x1.2.1,(x1.2.2.1,x1.2.2.2)) x13) >>= fun x14 =>
 ((if (!decide (x3.2=0))=true then
  none
 else
  if (!decide (x4.2=0))=true then
   none
  else
   if (!decide (x6.2=0))=true then
    none
   else
    if (!decide (x7.2=6))=true then
     none
    else
     if (!decide (x8.2=0))=true then
      none
     else
      if (!decide (x9.2=0))=true then
       none
      else
       if (!decide (x10.2=0))=true then
        none
       else
        if (!decide (x11.2=0))=true then
         none
        else
         if (!decide (x12.2=0))=true then
          none
         else
          some (!decide (x14=18)):Option (Bool)) >>= fun y1 =>
 if y1=true then
  some false
 else
  ((if (decide (x3.1=4))=true then
   (ref02_Same F x4.1 ([(0,false),(1,false),(3,true),(2,false)]:List (Int×Bool))) >>= fun x15 =>
   if x15=true then
    if (decide (x6.1=2))=true then
     (law02_On F ([0,1,2]:List Int)) >>= fun x16 =>
     (ref02_Same F x8.1 x16) >>= fun x17 =>
     if x17=true then
      if (decide ((x9.1.length:Int)=0))=true then
       (law02_pairs F x10.1 ([((0,false),(1,false)),((1,false),(2,false))]:List ((Int×Bool)×(Int×Bool)))) >>= fun x18 =>
       if x18=true then
        (ref02_Same F x11.1 ([(2,false),(3,false),(3,true)]:List (Int×Bool))) >>= fun x19 =>
        if x19=true then
         some x12.1
        else
         none
       else
        none
      else
       none
     else
      none
    else
     none
   else
    none
  else
   none:Option (Bool)) >>= fun y2 =>
  some y2))
end Go.Proofs.YtfmelbioccbdoaaGreat
end
section
namespace Go.Proofs.YtfmelbioccbdoaaGreat
open Go Go.Md Go.RowKit
def scale_Apart (F:Nat) (x0:(List (Int×Int))):Option ((List Int)×Int) :=
 (scale_CheckSong F x0) >>= fun x2 =>
 if (!decide (x2=0))=true then
  some ([],x2)
 else
  (scale_newSong F x0) >>= fun x3 =>
  (x3.v) >>= fun x4 =>
  (scale_song_high F (⟨x4.v⟩:(Uno (List ((Int×Int)×Int)))) (1,0)) >>= fun x5 =>
  (mks 8 (x5.2.length:Int) (0)) >>= fun x6 =>
  (slices_Sort_int (rcopy x6 x5.2)) >>= fun x7 =>
  some (x7,0)
end Go.Proofs.YtfmelbioccbdoaaGreat
end
section
namespace Go.Proofs.YtfmelbioccbdoaaGreat
open Go Go.Md Go.RowKit
def scale_greatest__scale_best_l1 (F:Nat) (x1:((Int×Int)→Option Int)) (x4:(List (Int×Int))):Nat→Int→(Int×Int)→Option ((Int×Int))
 | 0,_,_=>none
 | m + 1,y1,y2 =>
  if (decide (y1<(x4.length:Int)))=true then
   (((ix x4 y1) >>= fun x5 =>
   (x1 (x5.1,x5.2)) >>= fun x6 =>
   (x1 (y2.1,y2.2)) >>= fun x7 =>
   ((if (decide (x7<x6))=true then
    some (x5.1,x5.2)
   else
    some (y2.1,y2.2):Option ((Int×Int))) >>= fun y4 =>
   some (y4.1,y4.2)):Option ((Int×Int))) >>= fun y3 =>
   scale_greatest__scale_best_l1 F x1 x4 m (w64 (y1 + 1)) (y3.1,y3.2))
  else
   some (y2.1,y2.2)
def scale_greatest__scale_best (F:Nat) (x0:(List (Int×Int))) (x1:((Int×Int)→Option Int)):Option (Int×Int) :=
 (ix x0 0) >>= fun x3 =>
 (sdrop x0 1) >>= fun x4 =>
 ((scale_greatest__scale_best_l1 F x1 x4 F 0 (x3.1,x3.2)) >>= fun z1 =>
 some (z1.1,z1.2))
end Go.Proofs.YtfmelbioccbdoaaGreat
end
section
namespace Go.Proofs.YtfmelbioccbdoaaGreat
open Go Go.Md Go.RowKit
def scale_song_most_1 (x0:(Int×Int)):Option Int :=
 some x0.1
def scale_song_most_l1 (F:Nat):List ((Int×Int)×Int)→(List Int)→Option ((List Int))
 | [],y1=>some y1
 | x4::us,y1 =>
  (app 8 y1 ([x4.1.2]:List Int)) >>= fun x5 =>
  scale_song_most_l1 F us x5
def scale_song_most_l5 (F:Nat) (x8:Int) (x9:Int):List ((Int×Int)×Int)→Int→Option (Int)
 | [],y10=>some y10
 | x12::us,y10 =>
  (gd (decide (x8<x12.1.1)) (scale_tone_on ((x12.1.1,x12.1.2),x12.2) x9) false) >>= fun x13 =>
  ((if ((decide (x8<x12.1.1)) && x13)=true then
   some (w64 (y10 + 1))
  else
   some y10:Option (Int)) >>= fun y11 =>
  scale_song_most_l5 F x8 x9 us y11)
def scale_song_most_l4 (F:Nat) (x0:(Uno (List ((Int×Int)×Int)))) (x7:(List Int)) (x8:Int) (y2:Int) (y6:(List ((Int×Int)×(Int×Int)))):Nat→(List (Int×Int))→Int→Option ((List (Int×Int)))
 | 0,_,_=>none
 | m + 1,y7,y8 =>
  if (decide (y8<(x7.length:Int)))=true then
   (((ix x7 y8) >>= fun x9 =>
   if ((decide (y2=0)) || (decide (x9≤x8)))=true then
    some y7
   else
    (kok (x9,w64 (y2 - 1))) >>= fun x10 =>
    (scale_song_tones (⟨x0.v⟩:(Uno (List ((Int×Int)×Int))))) >>= fun x11 =>
    ((scale_song_most_l5 F x8 x9 x11 ((mget (0,0) y6 (x9,w64 (y2 - 1))).1)) >>= fun z5 =>
    (app 16 y7 ([(z5,x9)]:List (Int×Int))) >>= fun x14 =>
    some x14):Option ((List (Int×Int)))) >>= fun y9 =>
   scale_song_most_l4 F x0 x7 x8 y2 y6 m y9 (w64 (y8 + 1)))
  else
   some y7
def scale_song_most_l3 (F:Nat) (x0:(Uno (List ((Int×Int)×Int)))) (x7:(List Int)) (y2:Int):Nat→(List Int)→Int→(List ((Int×Int)×(Int×Int)))→Option ((List ((Int×Int)×(Int×Int))))
 | 0,_,_,_=>none
 | m + 1,y4,y5,y6 =>
  if (decide (y5<(x7.length:Int)))=true then
   (ix y4 y5) >>= fun x8 =>
   ((scale_song_most_l4 F x0 x7 x8 y2 y6 F ([(0,(-1))]:List (Int×Int)) 0) >>= fun z4 =>
   (scale_greatest__scale_best F z4 (fun y=>scale_song_most_1 y)) >>= fun x15 =>
   (kok (x8,y2)) >>= fun x16 =>
   scale_song_most_l3 F x0 x7 y2 m y4 (w64 (y5 + 1)) (mput y6 (x8,y2) x15))
  else
   some y6
def scale_song_most_l2 (F:Nat) (x0:(Uno (List ((Int×Int)×Int)))) (x1:Int) (x7:(List Int)):Nat→Int→(List ((Int×Int)×(Int×Int)))→Option ((List ((Int×Int)×(Int×Int))))
 | 0,_,_=>none
 | m + 1,y2,y3 =>
  if (decide (y2<(w64 (x1 + 1))))=true then
   ((scale_song_most_l3 F x0 x7 y2 F x7 0 y3) >>= fun z3 =>
   scale_song_most_l2 F x0 x1 x7 m (w64 (y2 + 1)) z3)
  else
   some y3
def scale_song_most_l6 (F:Nat):Nat→(List Int)→(Int×Int)→(List ((Int×Int)×(Int×Int)))→Option ((List Int)×(List ((Int×Int)×(Int×Int))))
 | 0,_,_,_=>none
 | m + 1,y12,y13,y14 =>
  (kok (y13.1,y13.2)) >>= fun x18 =>
  if (!decide ((mget (0,0) y14 (y13.1,y13.2))=(0,(-1))))=true then
   (kok (y13.1,y13.2)) >>= fun x19 =>
   (kok (y13.1,y13.2)) >>= fun x20 =>
   (app 8 y12 ([(mget (0,0) y14 (y13.1,y13.2)).2]:List Int)) >>= fun x21 =>
   scale_song_most_l6 F m x21 ((mget (0,0) y14 (y13.1,y13.2)).2,w64 (y13.2 - 1)) (mdel y14 (y13.1,y13.2))
  else
   some (y12,y14)
def scale_song_most (F:Nat) (x0:(Uno (List ((Int×Int)×Int)))) (x1:Int):Option ((List Int)×Int) :=
 (scale_song_tones (⟨x0.v⟩:(Uno (List ((Int×Int)×Int))))) >>= fun x3 =>
 ((scale_song_most_l1 F x3 ([(-1)]:List Int)) >>= fun z1 =>
 (slices_Compact_int64 z1) >>= fun x6 =>
 (slices_Reverse_g x6) >>= fun x7 =>
 ((scale_song_most_l2 F x0 x1 x7 F 0 ([]:(List ((Int×Int)×(Int×Int))))) >>= fun z2 =>
 (kok ((-1),x1)) >>= fun x17 =>
 ((scale_song_most_l6 F F ([]) ((-1),x1) z2) >>= fun (z6,z7) =>
 some (z6,(mget (0,0) z2 ((-1),x1)).1))))
def scale_Most (F:Nat) (x0:(List (Int×Int))) (x1:Int):Option ((List Int)×Int×Int) :=
 (scale_CheckSong F x0) >>= fun x3 =>
 if (!decide (x3=0))=true then
  some ([],0,x3)
 else
  if ((decide (x1<0)) || (decide (24<x1)))=true then
   some ([],0,3)
  else
   (scale_newSong F x0) >>= fun x4 =>
   (x4.v) >>= fun x5 =>
   (scale_song_most F (⟨x5.v⟩:(Uno (List ((Int×Int)×Int)))) x1) >>= fun x6 =>
   some (x6.1,x6.2,0)
end Go.Proofs.YtfmelbioccbdoaaGreat
end
section
namespace Go.Proofs.YtfmelbioccbdoaaGreat
open Go Go.Md Go.RowKit
def law03_Works (F:Nat) :Option Bool :=
 (law03_Song) >>= fun x1 =>
 (scale_CheckScale F x1 ([130,200,320]:List Int)) >>= fun x2 =>
 (scale_CheckScale F x1 ([130,320]:List Int)) >>= fun x3 =>
 (scale_Apart F x1) >>= fun x4 =>
 (scale_Spans F x1) >>= fun x5 =>
 (scale_Share F x1 0 1) >>= fun x6 =>
 (stake x1 2) >>= fun x7 =>
 (scale_Share F x7 0 1) >>= fun x8 =>
 (scale_Fewest F x1) >>= fun x9 =>
 (scale_Most F x1 2) >>= fun x10 =>
 (scale_Met F x1 ([130,320]:List Int)) >>= fun x11 =>
 ((if (decide (x2=0))=true then
  if (decide (x3=19))=true then
   if (decide (x4.2=0))=true then
    if (decide (x5.2=0))=true then
     if (decide (x6.2=0))=true then
      if (decide (x8.2=0))=true then
       if (decide (x9.2=0))=true then
        if (decide (x10.2.2=0))=true then
         if (decide (x11.2=0))=true then
          if (decide ((x4.1.length:Int)=3))=true then
           (ref03_CheckApart F x1 x4.1) >>= fun x12 =>
           if (decide (x12=0))=true then
            (law03_rg 100 140) >>= fun x13 =>
            (law03_rg 190 310) >>= fun x14 =>
            (law03_rg 320 400) >>= fun x15 =>
            (law03_ranges F x5.1 ([x13,x14,x15]:List (Int×Int))) >>= fun x16 =>
            if x16=true then
             if (decide ((x6.1.1,x6.1.2)=(true,false)))=true then
              if (decide ((x8.1.1,x8.1.2)=(true,true)))=true then
               if (decide ((x9.1.length:Int)=3))=true then
                (ref03_CheckScale F x1 x9.1) >>= fun x17 =>
                if (decide (x17=0))=true then
                 if (decide (x10.2.1=4))=true then
                  (law03_ints F x11.1 ([0,1,2,4]:List Int)) >>= fun x18 =>
                  some x18
                 else
                  none
                else
                 none
               else
                none
              else
               none
             else
              none
            else
             none
           else
            none
          else
           none
         else
          none
        else
         none
       else
        none
      else
       none
     else
      none
    else
     none
   else
    none
  else
   none
 else
  none:Option (Bool)) >>= fun y1 =>
 some y1)
end Go.Proofs.YtfmelbioccbdoaaGreat
end
section
namespace Go.Proofs.YtfmelbioccbdoaaGreat
open Go Go.Md Go.RowKit
def top_cylinder03 (F:Nat) (x0:((List ((((Int×Int)×Int)×((Int×Int)×Int))×Bool))×Int×(Int×Int))):Option Bool :=
 (gd (decide ((x0.1.length:Int)≤20)) (ref02_CheckCylinder F (x0.1,x0.2.1,(x0.2.2.1,x0.2.2.2))) 0) >>= fun x2 =>
 some ((decide ((x0.1.length:Int)≤20)) && (decide (x2=0)))
def top_works03 (F:Nat) :Option Bool :=
 (law01_Works F) >>= fun x1 =>
 (gd x1 (law02_Works F) false) >>= fun x2 =>
 (gd (x1 && x2) (law03_Works F) false) >>= fun x3 =>
 some ((x1 && x2) && x3)
end Go.Proofs.YtfmelbioccbdoaaGreat
end
section
namespace Go.Proofs.YtfmelbioccbdoaaGreat
open Go Go.Md Go.RowKit
def top_TopSharedEnds_l1 (F:Nat) (x0:((List ((((Int×Int)×Int)×((Int×Int)×Int))×Bool))×Int×(Int×Int))) (x5:(List (Int×Bool))):Nat→(List (Int×Int))→Bool→Int→Option (Sum Bool ((List (Int×Int))×Bool))
 | 0,_,_,_=>none
 | m + 1,y1,y2,y3 =>
  if (decide (y3<(x5.length:Int)))=true then
   (((ix x5 (w64 (y3 - 1))) >>= fun x6 =>
   (top_ends03 (x0.1,0,((-100000),100000)) (x6.1,x6.2)) >>= fun x7 =>
   some (x7.2.1,x7.2.2):Option ((Int×Int))) >>= fun y4 =>
   (((ix x5 y3) >>= fun x8 =>
   (top_ends03 (x0.1,0,((-100000),100000)) (x8.1,x8.2)) >>= fun x9 =>
   some (x9.1.1,x9.1.2):Option ((Int×Int))) >>= fun y5 =>
   (ix x5 (w64 (y3 - 1))) >>= fun x10 =>
   (ix x5 y3) >>= fun x11 =>
   (join_Fits F (x0.1,0,((-100000),100000)) (x10.1,x10.2) (x11.1,x11.2)) >>= fun x12 =>
   (scale_Share F ([(y4.1,y4.2),(y5.1,y5.2)]:List (Int×Int)) 0 1) >>= fun x13 =>
   (scale_Fewest F ([(y4.1,y4.2),(y5.1,y5.2)]:List (Int×Int))) >>= fun x14 =>
   if (((((!decide (x12.2=0)) || (!decide (x13.2=0))) || (!decide (x14.2=0))) || (!decide ((x13.1.1,x13.1.2)=(x12.1,x12.1)))) || (!((decide ((x14.1.length:Int)=1)) == x12.1)))=true then
    some (.inl false)
   else
    (app 16 y1 ([(y4.1,y4.2),(y5.1,y5.2)]:List (Int×Int))) >>= fun x15 =>
    top_TopSharedEnds_l1 F x0 x5 m x15 (y2 && x12.1) (w64 (y3 + 1))))
  else
   some (.inr (y1,y2))
def top_TopSharedEnds (F:Nat) (x0:((List ((((Int×Int)×Int)×((Int×Int)×Int))×Bool))×Int×(Int×Int))) (x1:(List (KI .u8))):Option Bool :=
 (top_cylinder03 F (x0.1,x0.2.1,(x0.2.2.1,x0.2.2.2))) >>= fun x3 =>
 if ((!x3) || (decide (20<(x1.length:Int))))=true then
  (top_works03 F) >>= fun x4 =>
  some x4
 else
  (top_order03 F (x0.1,0,((-100000),100000)) x1) >>= fun x5 =>
  ((top_TopSharedEnds_l1 F x0 x5 F ([]) true 1) >>= fun o=>match o with
   | .inl r=>some r
   | .inr (z1,z2) =>
    (join_CheckJoin F (x0.1,0,((-100000),100000)) x5) >>= fun x16 =>
    if ((!((decide (x16=0)) == z2)) || ((!decide (x16=0)) && (!decide (x16=18))))=true then
     some false
    else
     if ((!z2) || (decide ((z1.length:Int)=0)))=true then
      (top_works03 F) >>= fun x17 =>
      some x17
     else
      (scale_Fewest F z1) >>= fun x18 =>
      (gd ((decide (x18.2=0)) && (decide ((x18.1.length:Int)≤(w64 ((x5.length:Int) - 1))))) (ref03_CheckScale F z1 x18.1) 0) >>= fun x19 =>
      (gd (((decide (x18.2=0)) && (decide ((x18.1.length:Int)≤(w64 ((x5.length:Int) - 1))))) && (decide (x19=0))) (top_works03 F) false) >>= fun x20 =>
      some ((((decide (x18.2=0)) && (decide ((x18.1.length:Int)≤(w64 ((x5.length:Int) - 1))))) && (decide (x19=0))) && x20))
end Go.Proofs.YtfmelbioccbdoaaGreat
end
section
namespace Go.Md
open Go Go.RowKit
end Go.Md
end
section
namespace Go.Proofs.YtfmelbioccbdoaaGreat
open Go Go.Md Go.RowKit
attribute [local irreducible] Go.wpList Go.Code.wp Go.Calls Go.Md.Rnd Go.Md.Mt Go.Md.MtM Go.Md.RndM Go.Code.wpIn
end Go.Proofs.YtfmelbioccbdoaaGreat
end
section
namespace Go.Proofs.YtfmelbioccbdoaaGreat
open Go Go.Md Go.RowKit
attribute [local irreducible] Go.wpList Go.Code.wp Go.Calls Go.Md.Rnd Go.Md.Mt Go.Md.MtM Go.Md.RndM Go.Code.wpIn
theorem c87 {w0:World}  {F:Nat} {r:Bool} (hF:law02_Works F=some r) :
  Calls Tryz.prog 87 [].toArray w0 (Ret fun v w'=>v=.bool r∧Ext w0 w'):=by
 unfold law02_Works at hF
 refine entr (n:=167) Tryz.func87 rfl rfl rfl<|Zr<|Za<|nl<|Zr<|?_
 have hz:=bs hF; obtain ⟨x1,Ex1,hF⟩:=hz
 refine Zc (xc cb182 mn) (c182 Ex1) ?_
 rintro _ w1 ⟨u1,rfl,r1,hx1⟩
 have hz:=id r1; obtain ⟨_,rfl,⟨_,_,rfl,⟨a1,cq1,rfl,p1,q1,e1⟩,⟨_,_,rfl,rfl,⟨_,_,rfl,rfl,rfl⟩⟩⟩⟩:=hz
 have r2:=RV.of1 p1 q1 e1
 have hz:=bs hF; obtain ⟨x2,Ex2,hF⟩:=hz
 refine Zc (xc cb183 mn) (c183 Ex2) ?_
 rintro _ w2 ⟨u2,rfl,r3,hx2⟩
 have k1:=hx1.tr hx2
 have r4:=r2.ext hx2
 have hz:=id r3; obtain ⟨_,rfl,⟨_,_,rfl,⟨a2,cq2,rfl,p2,q2,e2⟩,⟨_,_,rfl,rfl,⟨_,_,rfl,rfl,rfl⟩⟩⟩⟩:=hz
 have r6:=RV.of1 p2 q2 e2
 refine sal ti48 fun b1 w3 hx3 hg1 hb1=>?_
 have k2:=k1.tr hx3
 refine sal ti48 fun b2 w4 hx4 hg2 hb2=>?_
 have k3:=k2.tr hx4
 have k4:=hx3.tr hx4
 have hb3:=hb1.ext hx4
 refine sst rfl rfl rfl ti48 hb3 rfl rfl (ble rfl) fun w5 hch1 hb4=>?_
 have k5:=Ext.chg k3 hch1 (Nat.le_trans k1.size hg1)
 have k6:=Ext.chg k4 hch1 (Nat.le_trans (Nat.le_refl _) hg1)
 have hb5:=Bx.chg hb2 hch1 (Ne.symm (Nat.ne_of_lt (Nat.lt_of_lt_of_le hb1.lt hg2)))
 have hb6:Bx w5 b1 48 [.slice a1 x1.1.length cq1,.int .i64 x1.2.1,.int .i64 x1.2.2.1,.int .i64 x1.2.2.2]:=hb4
 refine sst rfl rfl rfl ti48 hb5 rfl rfl (ble rfl) fun w6 hch2 hb7=>?_
 have k7:=Ext.chg k5 hch2 (Nat.le_trans k1.size (Nat.le_trans hx3.size hg2))
 have k8:=Ext.chg k6 hch2 (Nat.le_trans (Nat.le_refl _) (Nat.le_trans hx3.size hg2))
 have hb8:=Bx.chg hb6 hch2 (Nat.ne_of_lt (Nat.lt_of_lt_of_le hb1.lt hg2))
 have r18:=r4.ext k8
 have r19:=r6.ext k8
 have hb9:Bx w6 b2 48 [.slice a2 x2.1.length cq2,.int .i64 x2.2.1,.int .i64 x2.2.2.1,.int .i64 x2.2.2.2]:=hb7
 refine nl<|Zr<|Zv (xlda rfl ti48 rfl (Bx.cs hb8))<|?_
 have hz:=bs hF; obtain ⟨x3,Ex3,hF⟩:=hz
 refine Zc (xc cb36 (mc rfl mn)) (c36 (show RV (α:=((List ((((Int×Int)×Int)×((Int×Int)×Int))×Bool))×Int×(Int×Int))) _ (.agg [.slice a1 x1.1.length cq1,.int .i64 x1.2.1,.int .i64 x1.2.2.1,.int .i64 x1.2.2.2].toArray) (x1.1,x1.2.1,(x1.2.2.1,x1.2.2.2)) from ⟨_,rfl,⟨[.slice a1 x1.1.length cq1],[.int .i64 x1.2.1]++([.int .i64 x1.2.2.1]++[.int .i64 x1.2.2.2]),rfl,r18.rep1,⟨[.int .i64 x1.2.1],[.int .i64 x1.2.2.1]++[.int .i64 x1.2.2.2],rfl,rfl,⟨[.int .i64 x1.2.2.1],[.int .i64 x1.2.2.2],rfl,rfl,rfl⟩⟩⟩⟩) Ex3) ?_
 rintro _ w7 ⟨rfl,hx5⟩
 have k9:=k7.tr hx5
 have hb10:=hb8.ext hx5
 have r20:=r18.ext hx5
 have hb11:=hb9.ext hx5
 have r21:=r19.ext hx5
 refine Zm<|Zv (xext rfl rfl)<|Zv (xext rfl rfl)<|Za<|Za<|nl<|Zr<|Zv (xlda rfl ti48 rfl (Bx.cs hb10))<|?_
 have hz:=bs hF; obtain ⟨x4,Ex4,hF⟩:=hz
 refine Zc (xc cb38 (mc rfl (mc rfl mn))) (c38 (show RV (α:=((List ((((Int×Int)×Int)×((Int×Int)×Int))×Bool))×Int×(Int×Int))) _ (.agg [.slice a1 x1.1.length cq1,.int .i64 x1.2.1,.int .i64 x1.2.2.1,.int .i64 x1.2.2.2].toArray) (x1.1,x1.2.1,(x1.2.2.1,x1.2.2.2)) from ⟨_,rfl,⟨[.slice a1 x1.1.length cq1],[.int .i64 x1.2.1]++([.int .i64 x1.2.2.1]++[.int .i64 x1.2.2.2]),rfl,r20.rep1,⟨[.int .i64 x1.2.1],[.int .i64 x1.2.2.1]++[.int .i64 x1.2.2.2],rfl,rfl,⟨[.int .i64 x1.2.2.1],[.int .i64 x1.2.2.2],rfl,rfl,rfl⟩⟩⟩⟩) Ex4) ?_
 rintro _ w8 ⟨u3,rfl,r22,hx6⟩
 have k11:=k9.tr hx6
 have hb12:=hb10.ext hx6
 have r23:=r20.ext hx6
 have hb13:=hb11.ext hx6
 have r24:=r21.ext hx6
 have hz:=RV.sl r22; obtain ⟨a3,cq3,rfl,-,-,-⟩:=hz
 refine Zm<|Zv (xext rfl rfl)<|Zv (xext rfl rfl)<|Za<|Za<|nl<|wp_seq<|wpl [] (.pure false 0 (.eff 1 (.eff 2 (.eff 3 (.pure true 4 (.pure true 5 (.pure true 6 (.pure true 7 (.pure true 8 .fin))))) .stop) .stop) .stop)) mixed (by kernel_rfl) (fun w9 hx7=>?_)
 have k13:=k11.tr hx7
 have hb14:=hb12.ext hx7
 have r25:=r23.ext hx7
 have hb15:=hb13.ext hx7
 have r26:=r24.ext hx7
 have r27:=r22.ext hx7
 refine Zq rfl (fun _ hS=>xlda rfl ti48 rfl (Bx.cs (hb14.ext (hS.resolve_left nofun)))) (Ext.refl _)<|pe1 rfl<|sbsv (cs:=[.int .i64 0,.int .i64 3,.int .i64 1,.int .i64 2]) Tryz.underlying41 ti3 rfl (pc rfl (pc rfl (pc rfl (pc rfl pn)))) rfl rfl rfl rfl rfl fun b3 w10 hx8 hg3 hb16=>?_
 have k15:=k13.tr hx8
 have hb17:=hb14.ext hx8
 have r28:=r25.ext hx8
 have hb18:=hb15.ext hx8
 have r29:=r26.ext hx8
 have r30:=r27.ext hx8
 have o1:Row (α:=Int) 3 w9.heap.size w10 (.slice (some ⟨b3,0,none⟩) 4 4) [0,3,1,2]:=Row.lit hg3 hb16 rfl (ble rfl)
 refine nl ⟨fun _ _=>hx8,?_⟩
 have hz:=bs hF; obtain ⟨x5,Ex5,hF⟩:=hz
 refine pe1 rfl<|Zc (xc cb185 (mc rfl mn)) (c185 o1.rv Ex5) ?_
 rintro _ w11 ⟨u4,rfl,r32,hx9⟩
 have k17:=k15.tr hx9
 have k19:=hx8.tr hx9
 have hb19:=hb17.ext hx9
 have r33:=r28.ext hx9
 have hb20:=hb18.ext hx9
 have r34:=r29.ext hx9
 have r35:=r30.ext hx9
 have hz:=RV.sl r32; obtain ⟨a4,cq4,rfl,-,-,-⟩:=hz
 refine nl ⟨fun _ _=>k19,?_⟩
 have hz:=bs hF; obtain ⟨x6,Ex6,hF⟩:=hz
 refine pe1 rfl<|Zc (xc cb184 (mc rfl (mc rfl mn))) (c184 (show RV (α:=((List ((((Int×Int)×Int)×((Int×Int)×Int))×Bool))×Int×(Int×Int))) _ (.agg [.slice a1 x1.1.length cq1,.int .i64 x1.2.1,.int .i64 x1.2.2.1,.int .i64 x1.2.2.2].toArray) (x1.1,x1.2.1,(x1.2.2.1,x1.2.2.2)) from ⟨_,rfl,⟨[.slice a1 x1.1.length cq1],[.int .i64 x1.2.1]++([.int .i64 x1.2.2.1]++[.int .i64 x1.2.2.2]),rfl,r33.rep1,⟨[.int .i64 x1.2.1],[.int .i64 x1.2.2.1]++[.int .i64 x1.2.2.2],rfl,rfl,⟨[.int .i64 x1.2.2.1],[.int .i64 x1.2.2.2],rfl,rfl,rfl⟩⟩⟩⟩) r32 Ex6) ?_
 rintro _ w12 ⟨rfl,hx10⟩
 have k20:=k17.tr hx10
 have k22:=k19.tr hx10
 have hb21:=hb19.ext hx10
 have r36:=r33.ext hx10
 have hb22:=hb20.ext hx10
 have r37:=r34.ext hx10
 have r38:=r35.ext hx10
 refine nl ⟨fun _ _=>k22,?_⟩
 refine Zn rfl<|Zp rfl (fun _=>xext rfl rfl)<|Zp rfl (fun _=>xext rfl rfl)<|Zp rfl (fun _=>xas)<|Zp rfl (fun _=>xas)<|Zr<|Zv (xlda rfl ti48 rfl (Bx.cs hb21))<|?_
 have hz:=bs hF; obtain ⟨x7,Ex7,hF⟩:=hz
 refine Zc (xc cb186 (mc rfl mn)) (c186 (show RV (α:=((List ((((Int×Int)×Int)×((Int×Int)×Int))×Bool))×Int×(Int×Int))) _ (.agg [.slice a1 x1.1.length cq1,.int .i64 x1.2.1,.int .i64 x1.2.2.1,.int .i64 x1.2.2.2].toArray) (x1.1,x1.2.1,(x1.2.2.1,x1.2.2.2)) from ⟨_,rfl,⟨[.slice a1 x1.1.length cq1],[.int .i64 x1.2.1]++([.int .i64 x1.2.2.1]++[.int .i64 x1.2.2.2]),rfl,r36.rep1,⟨[.int .i64 x1.2.1],[.int .i64 x1.2.2.1]++[.int .i64 x1.2.2.2],rfl,rfl,⟨[.int .i64 x1.2.2.1],[.int .i64 x1.2.2.2],rfl,rfl,rfl⟩⟩⟩⟩) Ex7) ?_
 rintro _ w13 ⟨u5,rfl,r39,hx11⟩
 have k23:=k20.tr hx11
 have hb23:=hb21.ext hx11
 have r40:=r36.ext hx11
 have hb24:=hb22.ext hx11
 have r41:=r37.ext hx11
 have r42:=r38.ext hx11
 have hz:=RV.sl r39; obtain ⟨a5,cq5,rfl,-,-,-⟩:=hz
 refine Zm<|Zv (xext rfl rfl)<|Zv (xext rfl rfl)<|Za<|Za<|nl<|Zr<|Zv (xlda rfl ti48 rfl (Bx.cs hb24))<|?_
 have hz:=bs hF; obtain ⟨x8,Ex8,hF⟩:=hz
 refine Zc (xc cb186 (mc rfl mn)) (c186 (show RV (α:=((List ((((Int×Int)×Int)×((Int×Int)×Int))×Bool))×Int×(Int×Int))) _ (.agg [.slice a2 x2.1.length cq2,.int .i64 x2.2.1,.int .i64 x2.2.2.1,.int .i64 x2.2.2.2].toArray) (x2.1,x2.2.1,(x2.2.2.1,x2.2.2.2)) from ⟨_,rfl,⟨[.slice a2 x2.1.length cq2],[.int .i64 x2.2.1]++([.int .i64 x2.2.2.1]++[.int .i64 x2.2.2.2]),rfl,r41.rep1,⟨[.int .i64 x2.2.1],[.int .i64 x2.2.2.1]++[.int .i64 x2.2.2.2],rfl,rfl,⟨[.int .i64 x2.2.2.1],[.int .i64 x2.2.2.2],rfl,rfl,rfl⟩⟩⟩⟩) Ex8) ?_
 rintro _ w14 ⟨u6,rfl,r43,hx12⟩
 have k26:=k23.tr hx12
 have hb25:=hb23.ext hx12
 have r44:=r40.ext hx12
 have hb26:=hb24.ext hx12
 have r45:=r41.ext hx12
 have r46:=r42.ext hx12
 have hz:=RV.sl r43; obtain ⟨a6,cq6,rfl,-,-,-⟩:=hz
 refine Zm<|Zv (xext rfl rfl)<|Zv (xext rfl rfl)<|Za<|Za<|nl<|Zr<|Zv (xlda rfl ti48 rfl (Bx.cs hb25))<|?_
 have hz:=bs hF; obtain ⟨x9,Ex9,hF⟩:=hz
 refine Zc (xc cb37 (mc rfl mn)) (c37 (show RV (α:=((List ((((Int×Int)×Int)×((Int×Int)×Int))×Bool))×Int×(Int×Int))) _ (.agg [.slice a1 x1.1.length cq1,.int .i64 x1.2.1,.int .i64 x1.2.2.1,.int .i64 x1.2.2.2].toArray) (x1.1,x1.2.1,(x1.2.2.1,x1.2.2.2)) from ⟨_,rfl,⟨[.slice a1 x1.1.length cq1],[.int .i64 x1.2.1]++([.int .i64 x1.2.2.1]++[.int .i64 x1.2.2.2]),rfl,r44.rep1,⟨[.int .i64 x1.2.1],[.int .i64 x1.2.2.1]++[.int .i64 x1.2.2.2],rfl,rfl,⟨[.int .i64 x1.2.2.1],[.int .i64 x1.2.2.2],rfl,rfl,rfl⟩⟩⟩⟩) Ex9) ?_
 rintro _ w15 ⟨u7,rfl,r47,hx13⟩
 have k29:=k26.tr hx13
 have hb27:=hb25.ext hx13
 have r48:=r44.ext hx13
 have hb28:=hb26.ext hx13
 have r49:=r45.ext hx13
 have r50:=r46.ext hx13
 have r51:=r43.ext hx13
 have hz:=RV.sl r47; obtain ⟨a7,cq7,rfl,-,-,-⟩:=hz
 refine Zm<|Zv (xext rfl rfl)<|Zv (xext rfl rfl)<|Za<|Za<|nl<|Zr<|Zv (xlda rfl ti48 rfl (Bx.cs hb28))<|?_
 have hz:=bs hF; obtain ⟨x10,Ex10,hF⟩:=hz
 refine Zc (xc cb37 (mc rfl mn)) (c37 (show RV (α:=((List ((((Int×Int)×Int)×((Int×Int)×Int))×Bool))×Int×(Int×Int))) _ (.agg [.slice a2 x2.1.length cq2,.int .i64 x2.2.1,.int .i64 x2.2.2.1,.int .i64 x2.2.2.2].toArray) (x2.1,x2.2.1,(x2.2.2.1,x2.2.2.2)) from ⟨_,rfl,⟨[.slice a2 x2.1.length cq2],[.int .i64 x2.2.1]++([.int .i64 x2.2.2.1]++[.int .i64 x2.2.2.2]),rfl,r49.rep1,⟨[.int .i64 x2.2.1],[.int .i64 x2.2.2.1]++[.int .i64 x2.2.2.2],rfl,rfl,⟨[.int .i64 x2.2.2.1],[.int .i64 x2.2.2.2],rfl,rfl,rfl⟩⟩⟩⟩) Ex10) ?_
 rintro _ w16 ⟨u8,rfl,r52,hx14⟩
 have k32:=k29.tr hx14
 have hb29:=hb27.ext hx14
 have r53:=r48.ext hx14
 have hb30:=hb28.ext hx14
 have r54:=r49.ext hx14
 have r55:=r50.ext hx14
 have r56:=r51.ext hx14
 have hz:=RV.sl r52; obtain ⟨a8,cq8,rfl,-,-,-⟩:=hz
 refine Zm<|Zv (xext rfl rfl)<|Zv (xext rfl rfl)<|Za<|Za<|nl<|Zr<|Zv (xlda rfl ti48 rfl (Bx.cs hb29))<|Zv (xbdv (r:=[.int .i64 1,.bool false]) ti56 sp56 (pc rfl pn) rfl)<|?_
 have hz:=bs hF; obtain ⟨x11,Ex11,hF⟩:=hz
 refine Zc (xc cb187 (mc rfl (mc rfl mn))) (c187 (show RV (α:=((List ((((Int×Int)×Int)×((Int×Int)×Int))×Bool))×Int×(Int×Int))) _ (.agg [.slice a1 x1.1.length cq1,.int .i64 x1.2.1,.int .i64 x1.2.2.1,.int .i64 x1.2.2.2].toArray) (x1.1,x1.2.1,(x1.2.2.1,x1.2.2.2)) from ⟨_,rfl,⟨[.slice a1 x1.1.length cq1],[.int .i64 x1.2.1]++([.int .i64 x1.2.2.1]++[.int .i64 x1.2.2.2]),rfl,r53.rep1,⟨[.int .i64 x1.2.1],[.int .i64 x1.2.2.1]++[.int .i64 x1.2.2.2],rfl,rfl,⟨[.int .i64 x1.2.2.1],[.int .i64 x1.2.2.2],rfl,rfl,rfl⟩⟩⟩⟩) (show RV (α:=(Int×Bool)) _ (.agg [.int .i64 1,.bool false].toArray) (1,false) from ⟨_,rfl,⟨[.int .i64 1],[.bool false],rfl,rfl,rfl⟩⟩) Ex11) ?_
 rintro _ w17 ⟨u9,rfl,r58,hx15⟩
 have k35:=k32.tr hx15
 have hb31:=hb29.ext hx15
 have r59:=r53.ext hx15
 have hb32:=hb30.ext hx15
 have r60:=r54.ext hx15
 have r61:=r55.ext hx15
 have r62:=r56.ext hx15
 have r64:=r52.ext hx15
 have hz:=RV.sl r58; obtain ⟨a9,cq9,rfl,-,-,-⟩:=hz
 refine Zm<|Zv (xext rfl rfl)<|Zv (xext rfl rfl)<|Za<|Za<|nl<|Zr<|Zv (xlda rfl ti48 rfl (Bx.cs hb32))<|Zv (xbdv (r:=[.int .i64 0,.bool false]) ti56 sp56 (pc rfl pn) rfl)<|Zv (xbdv (r:=[.int .i64 2,.bool false]) ti56 sp56 (pc rfl pn) rfl)<|?_
 have hz:=bs hF; obtain ⟨x12,Ex12,hF⟩:=hz
 refine Zc (xc cb33 (mc rfl (mc rfl (mc rfl mn)))) (c33 (show RV (α:=((List ((((Int×Int)×Int)×((Int×Int)×Int))×Bool))×Int×(Int×Int))) _ (.agg [.slice a2 x2.1.length cq2,.int .i64 x2.2.1,.int .i64 x2.2.2.1,.int .i64 x2.2.2.2].toArray) (x2.1,x2.2.1,(x2.2.2.1,x2.2.2.2)) from ⟨_,rfl,⟨[.slice a2 x2.1.length cq2],[.int .i64 x2.2.1]++([.int .i64 x2.2.2.1]++[.int .i64 x2.2.2.2]),rfl,r60.rep1,⟨[.int .i64 x2.2.1],[.int .i64 x2.2.2.1]++[.int .i64 x2.2.2.2],rfl,rfl,⟨[.int .i64 x2.2.2.1],[.int .i64 x2.2.2.2],rfl,rfl,rfl⟩⟩⟩⟩) (show RV (α:=(Int×Bool)) _ (.agg [.int .i64 0,.bool false].toArray) (0,false) from ⟨_,rfl,⟨[.int .i64 0],[.bool false],rfl,rfl,rfl⟩⟩) (show RV (α:=(Int×Bool)) _ (.agg [.int .i64 2,.bool false].toArray) (2,false) from ⟨_,rfl,⟨[.int .i64 2],[.bool false],rfl,rfl,rfl⟩⟩) Ex12) ?_
 rintro _ w18 ⟨rfl,hx16⟩
 have k38:=k35.tr hx16
 have hb33:=hb31.ext hx16
 have r65:=r59.ext hx16
 have r66:=r61.ext hx16
 have r67:=r62.ext hx16
 have r69:=r64.ext hx16
 have r70:=r58.ext hx16
 refine Zm<|Zv (xext rfl rfl)<|Zv (xext rfl rfl)<|Za<|Za<|nl<|wp_seq<|wpl [] (.pure false 0 (.eff 1 (.eff 2 (.eff 3 (.pure true 4 .fin) .stop) .stop) .stop)) mixed (by kernel_rfl) (fun w19 hx17=>?_)
 have k41:=k38.tr hx17
 have hb34:=hb33.ext hx17
 have r71:=r65.ext hx17
 have r72:=r66.ext hx17
 have r73:=r67.ext hx17
 have r75:=r69.ext hx17
 have r76:=r70.ext hx17
 refine Zq rfl (fun _ hS=>xlda rfl ti48 rfl (Bx.cs (hb34.ext (hS.resolve_left nofun)))) (Ext.refl _)<|pe1 rfl<|sbsv (cs:=[.int .i64 0,.int .i64 2,.int .i64 1,.int .i64 3]) Tryz.underlying41 ti3 rfl (pc rfl (pc rfl (pc rfl (pc rfl pn)))) rfl rfl rfl rfl rfl fun b4 w20 hx18 hg4 hb35=>?_
 have k44:=k41.tr hx18
 have r77:=r72.ext hx18
 have r78:=r73.ext hx18
 have r80:=r75.ext hx18
 have r81:=r76.ext hx18
 have r82:=r71.ext hx18
 have o2:Row (α:=Int) 3 w19.heap.size w20 (.slice (some ⟨b4,0,none⟩) 4 4) [0,2,1,3]:=Row.lit hg4 hb35 rfl (ble rfl)
 refine nl ⟨fun _ _=>hx18,?_⟩
 have hz:=bs hF; obtain ⟨x13,Ex13,hF⟩:=hz
 refine pe1 rfl<|Zc (xc cb185 (mc rfl mn)) (c185 o2.rv Ex13) ?_
 rintro _ w21 ⟨u10,rfl,r84,hx19⟩
 have k47:=k44.tr hx19
 have k50:=hx18.tr hx19
 have r85:=r77.ext hx19
 have r86:=r78.ext hx19
 have r88:=r80.ext hx19
 have r89:=r81.ext hx19
 have r90:=r82.ext hx19
 have hz:=RV.sl r84; obtain ⟨a10,cq10,rfl,-,-,-⟩:=hz
 refine nl ⟨fun _ _=>k50,?_⟩
 have hz:=bs hF; obtain ⟨x14,Ex14,hF⟩:=hz
 refine pe1 rfl<|Zc (xc cb28 (mc rfl (mc rfl mn))) (c28 (show RV (α:=((List ((((Int×Int)×Int)×((Int×Int)×Int))×Bool))×Int×(Int×Int))) _ (.agg [.slice a1 x1.1.length cq1,.int .i64 x1.2.1,.int .i64 x1.2.2.1,.int .i64 x1.2.2.2].toArray) (x1.1,x1.2.1,(x1.2.2.1,x1.2.2.2)) from ⟨_,rfl,⟨[.slice a1 x1.1.length cq1],[.int .i64 x1.2.1]++([.int .i64 x1.2.2.1]++[.int .i64 x1.2.2.2]),rfl,r90.rep1,⟨[.int .i64 x1.2.1],[.int .i64 x1.2.2.1]++[.int .i64 x1.2.2.2],rfl,rfl,⟨[.int .i64 x1.2.2.1],[.int .i64 x1.2.2.2],rfl,rfl,rfl⟩⟩⟩⟩) r84 Ex14) ?_
 rintro _ w22 ⟨rfl,hx20⟩
 have k51:=k47.tr hx20
 have k54:=k50.tr hx20
 have r91:=r85.ext hx20
 have r92:=r86.ext hx20
 have r94:=r88.ext hx20
 have r95:=r89.ext hx20
 refine nl ⟨fun _ _=>k54,?_⟩
 refine Zp rfl (fun _=>xas)<|wp_seq<|wp_seq<|?_
 have hz:=bs hF; obtain ⟨y1,hB1,hF⟩:=hz
 refine ct (fun L w=>L 117=.bool y1∧L 3=.int .i64 x3.1∧L 5=.slice a3 x4.1.length cq3∧L 7=.int .i64 x6.1∧L 11=.slice a6 x8.1.length cq6∧L 13=.slice a7 x9.1.length cq7∧L 15=.slice a8 x10.1.length cq8∧L 17=.slice a9 x11.1.length cq9∧L 19=.bool x12.1∧Ext w22 w) ?_ ?_
 ·
  refine rg<|Zm<|Zv (xneq rfl rfl)<|Zm<|?_
  have hz:=ifsn hB1; obtain ⟨h1,hB1⟩:=hz
  refine gtk rfl rfl rfl rfl rfl (bf h1)<|Zm<|gtk rfl rfl rfl rfl rfl (bf h1)<|Zv (xneq rfl rfl)<|Zv (xpf rfl h1 rfl)<|Zm<|?_
  have hz:=ifsn hB1; obtain ⟨h2,hB1⟩:=hz
  refine gtk rfl rfl rfl rfl rfl (bf h2)<|Zm<|gtk rfl rfl rfl rfl rfl (bf h2)<|Zv (xneq rfl rfl)<|Zv (xpf rfl h2 rfl)<|Zm<|?_
  have hz:=ifsn hB1; obtain ⟨h3,hB1⟩:=hz
  refine gtk rfl rfl rfl rfl rfl (bf h3)<|Zm<|gtk rfl rfl rfl rfl rfl (bf h3)<|Zv (xneq rfl rfl)<|Zv (xpf rfl h3 rfl)<|Zm<|?_
  have hz:=ifsn hB1; obtain ⟨h4,hB1⟩:=hz
  refine gtk rfl rfl rfl rfl rfl (bf h4)<|Zm<|gtk rfl rfl rfl rfl rfl (bf h4)<|Zv (xneq rfl rfl)<|Zv (xpf rfl h4 rfl)<|Zm<|?_
  have hz:=ifsn hB1; obtain ⟨h5,hB1⟩:=hz
  refine gtk rfl rfl rfl rfl rfl (bf h5)<|Zm<|gtk rfl rfl rfl rfl rfl (bf h5)<|Zv (xneq rfl rfl)<|Zv (xpf rfl h5 rfl)<|Zm<|?_
  have hz:=ifsn hB1; obtain ⟨h6,hB1⟩:=hz
  refine gtk rfl rfl rfl rfl rfl (bf h6)<|Zm<|gtk rfl rfl rfl rfl rfl (bf h6)<|Zv (xneq rfl rfl)<|Zv (xpf rfl h6 rfl)<|Zm<|?_
  have hz:=ifsn hB1; obtain ⟨h7,hB1⟩:=hz
  refine gtk rfl rfl rfl rfl rfl (bf h7)<|Zm<|gtk rfl rfl rfl rfl rfl (bf h7)<|Zv (xneq rfl rfl)<|Zv (xpf rfl h7 rfl)<|Zm<|?_
  have hz:=ifsn hB1; obtain ⟨h8,hB1⟩:=hz
  refine gtk rfl rfl rfl rfl rfl (bf h8)<|Zm<|gtk rfl rfl rfl rfl rfl (bf h8)<|Zv (xneq rfl rfl)<|Zv (xpf rfl h8 rfl)<|Zm<|?_
  have hz:=ifsn hB1; obtain ⟨h9,hB1⟩:=hz
  refine gtk rfl rfl rfl rfl rfl (bf h9)<|Zm<|gtk rfl rfl rfl rfl rfl (bf h9)<|Zv (xneq rfl rfl)<|Zv (xpf rfl h9 rfl)<|nl<|?_
  cases hB1
  refine lf<|?_
  exact ⟨rfl,rfl,rfl,rfl,rfl,rfl,rfl,rfl,rfl,(Ext.refl _)⟩
 rintro L w23 ⟨l117_j1,l3_j1,l5_j1,l7_j1,l11_j1,l13_j1,l15_j1,l17_j1,l19_j1,K0_j1⟩
 have k55:=k51.tr K0_j1
 have r96:=r91.ext K0_j1
 have r97:=r92.ext K0_j1
 have r99:=r94.ext K0_j1
 have r100:=r95.ext K0_j1
 refine cnd l117_j1 (fun h10=>?_) (fun h10=>?_)
 ·
  have hF:=ifp hF h10
  refine Zr<|Za<|nl<|?_
  cases hF
  exact wp_ret<|rt rfl (.tmp rfl rfl .nil) ⟨rfl,k55⟩
 ·
  have hF:=ifn hF h10
  refine wp_skip<|Zr<|Zv (xbdv (r:=[.int .i64 3,.bool true]) ti56 sp56 (pc rfl (pc rfl pn)) rfl)<|sal ti56 fun b5 w24 hx21 hg5 hb36=>?_
  have k59:=k55.tr hx21
  refine sst rfl rfl rfl ti56 hb36 rfl rfl (ble rfl) fun w25 hch3 hb37=>?_
  have k64:=Ext.chg k59 hch3 (Nat.le_trans k55.size hg5)
  have k69:=Ext.chg hx21 hch3 (Nat.le_trans (Nat.le_refl _) hg5)
  have r106:=r96.ext k69
  have r107:=r97.ext k69
  have r109:=r99.ext k69
  have r110:=r100.ext k69
  have hb38:Bx w25 b5 56 [.int .i64 3,.bool true]:=hb37
  refine nl<|Zr<|Zv (xbdv (r:=[.int .i64 0,.bool false]) ti56 sp56 (pc rfl pn) rfl)<|Zv (xbdv (r:=[.int .i64 1,.bool false]) ti56 sp56 (pc rfl pn) rfl)<|Zv (xlda rfl ti56 rfl (Bx.cs hb38))<|Zv (xbdv (r:=[.int .i64 2,.bool false]) ti56 sp56 (pc rfl pn) rfl)<|sbsv (cs:=[.int .i64 0,.bool false,.int .i64 1,.bool false,.int .i64 3,.bool true,.int .i64 2,.bool false]) Tryz.underlying51 ti56 rfl (pc rfl (pc rfl (pc rfl (pc rfl pn)))) rfl rfl rfl rfl rfl fun b6 w26 hx22 hg6 hb39=>?_
  have k70:=k64.tr hx22
  have hb40:=hb38.ext hx22
  have r111:=r106.ext hx22
  have r112:=r107.ext hx22
  have r114:=r109.ext hx22
  have r115:=r110.ext hx22
  have o3:Row (α:=(Int×Bool)) 56 w25.heap.size w26 (.slice (some ⟨b6,0,none⟩) 4 4) [(0,false),(1,false),(3,true),(2,false)]:=Row.lit hg6 hb39 rfl (ble rfl)
  refine Za<|nl<|wp_seq<|?_
  have hz:=bs hF; obtain ⟨y2,hB2,hF⟩:=hz
  refine ct (fun L w=>L 0=.bool y2∧Ext w26 w) ?_ ?_
  ·
   refine rg<|Zm<|Zv (xeql l3_j1 rfl)<|Zm<|?_
   have hz:=ifs hB2; obtain ⟨h11,hB2⟩:=hz
   refine gtk rfl rfl rfl rfl rfl (bt h11)<|Zm<|gtk rfl rfl rfl rfl rfl (bt h11)<|Zm<|?_
   have hz:=bs hB2; obtain ⟨x15,Ex15,hB2⟩:=hz
   refine gtk rfl rfl rfl rfl rfl (bt h11)<|Zc (xc cb188 (mc l5_j1 (mc rfl mn))) (c188 r111 o3.rv Ex15) ?_
   rintro _ w27 ⟨rfl,hx23⟩
   have hb41:=hb40.ext hx23
   have r117:=r112.ext hx23
   have r119:=r114.ext hx23
   have r120:=r115.ext hx23
   refine Zv (xpt rfl h11 rfl)<|Zm<|?_
   have hz:=ifs hB2; obtain ⟨h12,hB2⟩:=hz
   refine gtk rfl rfl rfl rfl rfl (bt h12)<|Zm<|gtk rfl rfl rfl rfl rfl (bt h12)<|Zv (xeql l7_j1 rfl)<|Zv (xpt rfl h12 rfl)<|Zm<|?_
   have hz:=ifs hB2; obtain ⟨h13,hB2⟩:=hz
   refine gtk rfl rfl rfl rfl rfl (bt h13)<|Zm<|gtk rfl rfl rfl rfl rfl (bt h13)<|sbsv (cs:=[.int .i64 0,.int .i64 1,.int .i64 2]) Tryz.underlying41 ti3 rfl (pc rfl (pc rfl (pc rfl pn))) rfl rfl rfl rfl rfl fun b7 w28 hx24 hg7 hb42=>?_
   have k90:=hx23.tr hx24
   have hb43:=hb41.ext hx24
   have r122:=r119.ext hx24
   have r123:=r120.ext hx24
   have r124:=r117.ext hx24
   have o4:Row (α:=Int) 3 w27.heap.size w28 (.slice (some ⟨b7,0,none⟩) 3 3) [0,1,2]:=Row.lit hg7 hb42 rfl (ble rfl)
   have hz:=bs hB2; obtain ⟨x16,Ex16,hB2⟩:=hz
   refine gtk rfl rfl rfl rfl rfl (bt h13)<|Zc (xc cb185 (mc rfl mn)) (c185 o4.rv Ex16) ?_
   rintro _ w29 ⟨u11,rfl,r126,hx25⟩
   have k98:=k90.tr hx25
   have hb44:=hb43.ext hx25
   have r128:=r122.ext hx25
   have r129:=r123.ext hx25
   have r130:=r124.ext hx25
   have hz:=RV.sl r126; obtain ⟨a11,cq11,rfl,-,-,-⟩:=hz
   have hz:=bs hB2; obtain ⟨x17,Ex17,hB2⟩:=hz
   refine gtk rfl rfl rfl rfl rfl (bt h13)<|Zc (xc cb188 (mc l11_j1 (mc rfl mn))) (c188 r130 r126 Ex17) ?_
   rintro _ w30 ⟨rfl,hx26⟩
   have k107:=k98.tr hx26
   have hb45:=hb44.ext hx26
   have r132:=r128.ext hx26
   have r133:=r129.ext hx26
   refine Zv (xpt rfl h13 rfl)<|Zm<|?_
   have hz:=ifs hB2; obtain ⟨h14,hB2⟩:=hz
   refine gtk rfl rfl rfl rfl rfl (bt h14)<|Zm<|gtk rfl rfl rfl rfl rfl (bt h14)<|Zv (xlen l13_j1 Tryz.underlying75)<|gtk rfl rfl rfl rfl rfl (bt h14)<|Zv (xeql rfl rfl)<|Zv (xpt rfl h14 rfl)<|Zm<|?_
   have hz:=ifs hB2; obtain ⟨h15,hB2⟩:=hz
   refine gtk rfl rfl rfl rfl rfl (bt h15)<|Zm<|gtk rfl rfl rfl rfl rfl (bt h15)<|Zv (xbdv (r:=[.int .i64 1,.bool false]) ti56 sp56 (pc rfl pn) rfl)<|gtk rfl rfl rfl rfl rfl (bt h15)<|Zv (xbdv (r:=[.int .i64 0,.bool false,.int .i64 1,.bool false]) ti92 sp92 (pc rfl pn) rfl)<|gtk rfl rfl rfl rfl rfl (bt h15)<|Zv (xbdv (r:=[.int .i64 1,.bool false]) ti56 sp56 (pc rfl pn) rfl)<|gtk rfl rfl rfl rfl rfl (bt h15)<|Zv (xbdv (r:=[.int .i64 2,.bool false]) ti56 sp56 (pc rfl pn) rfl)<|gtk rfl rfl rfl rfl rfl (bt h15)<|Zv (xbdv (r:=[.int .i64 1,.bool false,.int .i64 2,.bool false]) ti92 sp92 (pc rfl (pc rfl pn)) rfl)<|gtk rfl rfl rfl rfl rfl (bt h15)<|sbsv (cs:=[.int .i64 0,.bool false,.int .i64 1,.bool false,.int .i64 1,.bool false,.int .i64 2,.bool false]) Tryz.underlying75 ti92 rfl (pc rfl (pc rfl pn)) rfl rfl rfl rfl rfl fun b8 w31 hx27 hg8 hb46=>?_
   have k116:=k107.tr hx27
   have hb47:=hb45.ext hx27
   have r134:=r133.ext hx27
   have r135:=r132.ext hx27
   have o5:Row (α:=((Int×Bool)×(Int×Bool))) 92 w30.heap.size w31 (.slice (some ⟨b8,0,none⟩) 2 2) [((0,false),(1,false)),((1,false),(2,false))]:=Row.lit hg8 hb46 rfl (ble rfl)
   have hz:=bs hB2; obtain ⟨x18,Ex18,hB2⟩:=hz
   refine gtk rfl rfl rfl rfl rfl (bt h15)<|Zc (xc cb189 (mc l15_j1 (mc rfl mn))) (c189 r135 o5.rv Ex18) ?_
   rintro _ w32 ⟨rfl,hx28⟩
   have k125:=k116.tr hx28
   have hb48:=hb47.ext hx28
   have r137:=r134.ext hx28
   refine Zv (xpt rfl h15 rfl)<|Zm<|?_
   have hz:=ifs hB2; obtain ⟨h16,hB2⟩:=hz
   refine gtk rfl rfl rfl rfl rfl (bt h16)<|Zm<|gtk rfl rfl rfl rfl rfl (bt h16)<|Zv (xbdv (r:=[.int .i64 2,.bool false]) ti56 sp56 (pc rfl pn) rfl)<|gtk rfl rfl rfl rfl rfl (bt h16)<|Zv (xbdv (r:=[.int .i64 3,.bool false]) ti56 sp56 (pc rfl pn) rfl)<|gtk rfl rfl rfl rfl rfl (bt h16)<|Zv (xlda rfl ti56 rfl (Bx.cs hb48))<|gtk rfl rfl rfl rfl rfl (bt h16)<|sbsv (cs:=[.int .i64 2,.bool false,.int .i64 3,.bool false,.int .i64 3,.bool true]) Tryz.underlying51 ti56 rfl (pc rfl (pc rfl (pc rfl pn))) rfl rfl rfl rfl rfl fun b9 w33 hx29 hg9 hb49=>?_
   have k135:=k125.tr hx29
   have r138:=r137.ext hx29
   have o6:Row (α:=(Int×Bool)) 56 w32.heap.size w33 (.slice (some ⟨b9,0,none⟩) 3 3) [(2,false),(3,false),(3,true)]:=Row.lit hg9 hb49 rfl (ble rfl)
   have hz:=bs hB2; obtain ⟨x19,Ex19,hB2⟩:=hz
   refine gtk rfl rfl rfl rfl rfl (bt h16)<|Zc (xc cb188 (mc l17_j1 (mc rfl mn))) (c188 r138 o6.rv Ex19) ?_
   rintro _ w34 ⟨rfl,hx30⟩
   have k145:=k135.tr hx30
   refine Zv (xpt rfl h16 rfl)<|Zm<|?_
   have hz:=ifs hB2; obtain ⟨h17,hB2⟩:=hz
   refine gtk rfl rfl rfl rfl rfl (bt h17)<|Zm<|Zv (xpt rfl h17 l19_j1)<|Za<|nl<|?_
   cases hB2
   refine lf<|?_
   exact ⟨rfl,k145⟩
  rintro L w35 ⟨l0_j2,K0_j2⟩
  have k149:=k70.tr K0_j2
  cases hF
  exact wp_ret<|rt rfl (.tmp l0_j2 rfl .nil) ⟨rfl,k149⟩
end Go.Proofs.YtfmelbioccbdoaaGreat
end
section
namespace Go.Proofs.YtfmelbioccbdoaaGreat
open Go Go.Md Go.RowKit
attribute [local irreducible] Go.wpList Go.Code.wp Go.Calls Go.Md.Rnd Go.Md.Mt Go.Md.MtM Go.Md.RndM Go.Code.wpIn
theorem c21 {w0:World} {v0:Value} {x0:(List (Int×Int))} (r0:RV w0 v0 x0) {F:Nat} {r:((List Int)×Int)} (hF:scale_Apart F x0=some r) :
  Calls Tryz.prog 21 [v0].toArray w0 (Ret fun v w'=>∃ u0:Value,v=.tuple #[u0,.int .i64 r.2]∧RV w' u0 r.1∧Ext w0 w'):=by
 unfold scale_Apart at hF
 have hz:=r0.sl; obtain ⟨a1,cq1,rfl,-,-,-⟩:=hz
 refine entr (n:=29) Tryz.func21 rfl rfl rfl<|Zr<|Za<|Za<|nl<|wp_seq<|Zr<|Zm<|?_
 have hz:=bs hF; obtain ⟨x2,Ex2,hF⟩:=hz
 refine Zc (xc cb95 (mc rfl mn)) (c95 r0 Ex2) ?_
 rintro _ w1 ⟨rfl,hx1⟩
 have r2:=r0.ext hx1
 refine Za<|nl<|Zr<|Zm<|Zv (xneq rfl rfl)<|nl<|cnd rfl (fun h2=>?_) (fun h2=>?_)
 ·
  have hF:=ifp hF h2
  refine Zr<|Zm<|Za<|Za<|nl<|?_
  cases hF
  exact wp_ret<|rt rfl (.tmp rfl rfl (.tmp rfl rfl .nil)) ⟨_,rfl,(RVo.nil (Nat.zero_le _)),hx1⟩
 ·
  have hF:=ifn hF h2
  refine wp_skip<|Zr<|Zm<|?_
  have hz:=bs hF; obtain ⟨x3,Ex3,hF⟩:=hz
  refine Zc (xc cb96 (mc rfl mn)) (c96 r2 Ex3) ?_
  rintro _ w2 ⟨u1,rfl,r3,hx2⟩
  have k1:=hx1.tr hx2
  have hz:=obPtr r3; obtain ⟨a2,rfl⟩:=hz
  refine Zv (xbdv (r:=[.int .i64 1,.int .i64 0]) ti35 sp35 (pc rfl pn) rfl)<|?_
  have hz:=bs hF; obtain ⟨x4,Ex4,hF⟩:=hz
  have hz:=obGet r3 Ex4; obtain ⟨b2,cs2,e1,q2,hc1⟩:=hz
  cases e1
  obtain ⟨a3,cq2,rfl,p1,q3,e2⟩:=q2
  have r4:=RV.of1 p1 q3 e2
  have hz:=bs hF; obtain ⟨x5,Ex5,hF⟩:=hz
  refine Zc (xc cb97 (mc rfl (mc rfl mn))) (c97 (x0:=(⟨x4.v⟩:(Uno (List ((Int×Int)×Int))))) hc1 r4.rep1 (show RV (α:=(Int×Int)) _ (.agg [.int .i64 1,.int .i64 0].toArray) (1,0) from ⟨_,rfl,⟨[.int .i64 1],[.int .i64 0],rfl,rfl,rfl⟩⟩) Ex5) ?_
  rintro _ w3 ⟨u2,u3,rfl,r5,r6,hx3⟩
  have k2:=k1.tr hx3
  have hz:=RV.sl r5.rv; obtain ⟨a4,cq3,rfl,-,-,-⟩:=hz
  have hz:=RV.sl r6.rv; obtain ⟨a5,cq4,rfl,-,-,-⟩:=hz
  refine Zm<|Zv (xext rfl rfl)<|Zv (xext rfl rfl)<|Za<|Za<|nl<|Zr<|Zm<|Zv (xlen rfl Tryz.underlying41)<|?_
  have hz:=bs hF; obtain ⟨x6,Ex6,hF⟩:=hz
  refine smks (α:=Int) (z0:=0) rfl rfl Tryz.underlying41 ti3 rfl rfl rfl Ex6 fun b3 w4 hx4 o1=>?_
  have k3:=k2.tr hx4
  have r7:=r6.ext hx4
  refine Za<|nl<|Zr<|Zm<|Zm<|scpr (l:=x6) (k:=x5.2) rfl rfl Tryz.underlying41 ti3 o1 r7.rv fun w5 cq5 hch1 o2=>?_
  have k5:=Ext.chg k3 hch1 (Nat.le_trans k2.size (Row.ge o1))
  have k7:=Ext.chg hx4 hch1 (Nat.le_trans (Nat.le_refl _) (Row.ge o1))
  refine nl<|Zr<|Zm<|?_
  have hz:=bs hF; obtain ⟨x7,Ex7,hF⟩:=hz
  refine Zc (xc cb98 (mc rfl mn)) (c98g k7.size o2 Ex7) ?_
  rintro _ w6 ⟨rfl,o3,hB1,hgr1⟩
  have k8:=Ext.grow k5 k2.size hB1
  have k10:Ext w3 w6:=k7.trans hB1
  refine nl<|Zr<|Zm<|Za<|Za<|nl<|?_
  cases hF
  exact wp_ret<|rt rfl (.tmp rfl rfl (.tmp rfl rfl .nil)) ⟨_,rfl,o3.rv,k8⟩
end Go.Proofs.YtfmelbioccbdoaaGreat
end
section
namespace Go.Proofs.YtfmelbioccbdoaaGreat
open Go Go.Md Go.RowKit
attribute [local irreducible] Go.wpList Go.Code.wp Go.Calls Go.Md.Rnd Go.Md.Mt Go.Md.MtM Go.Md.RndM Go.Code.wpIn
theorem c327 {w0:World} {v0:Value} {x0:(List (Int×Int))} (r0:RV w0 v0 x0) {v1:Value} {x1:(Int×Int)→Option Int} (h1:FnI Tryz.prog (Int×Int) w0 v1 x1) {F:Nat} {r:(Int×Int)} (hF:scale_greatest__scale_best F x0 x1=some r) :
  Calls Tryz.prog 327 [v0,v1].toArray w0 (Ret fun v w'=>∃ u0:Value,v=u0∧RV w' u0 r∧Ext w0 w'):=by
 unfold scale_greatest__scale_best at hF
 have hz:=r0.sl; obtain ⟨a1,cq1,rfl,-,-,-⟩:=hz
 refine entr (n:=28) Tryz.func327 rfl rfl rfl<|Zr<|sal ti423 fun b3 w1 hx1 hg1 hb1=>?_
 have h3:=h1.ext hx1
 refine nl<|Zr<|Zm<|?_
 have hz:=bs hF; obtain ⟨x3,Ex3,hF⟩:=hz
 have hz:=(RV.els r0).ix Ex3; obtain ⟨b4,f1,cs3,e1,i1,i2,q3,hc1⟩:=hz
 cases e1
 obtain ⟨_,_,rfl,rfl,rfl⟩:=q3
 have hc2:=hc1.ext hx1
 refine Zv (xixs rfl rfl Tryz.underlying424 ti423 i1 i2)<|Zv (xlda rfl ti423 rfl hc2)<|sal ti423 fun b5 w2 hx2 hg2 hb2=>?_
 refine sst rfl rfl rfl ti423 hb2 rfl rfl (ble rfl) fun w3 hch1 hb4=>?_
 have k3:=Ext.chg hx2 hch1 (Nat.le_trans (Nat.le_refl _) hg2)
 have hb6:Bx w3 b5 423 [.int .i64 x3.1,.int .i64 x3.2]:=hb4
 refine nl<|wp_seq<|Zr<|Zm<|?_
 have hz:=bs hF; obtain ⟨x4,Ex4,hF⟩:=hz
 have hz:=slo r0 Ex4 Tryz.underlying424 ti423; obtain ⟨a2,cq2,r6,hr1⟩:=hz
 refine Zv (hr1 _ _ _ _ _ _ _ _ _ _ rfl rfl)<|Zv (xlen rfl Tryz.underlying424)<|Zm<|nl<|?_
 have hz:=bs hF; obtain ⟨z1,hB1,hF⟩:=hz
 refine ct (fun L w=>Bx w b5 423 (Flat.enc z1)∧L 4=.pointer (some ⟨b3,0,none⟩)∧L 5=.pointer (some ⟨b5,0,none⟩)∧Ext w1 w) ?_ ?_
 ·
  refine wp_block<|lp (I:=fun m L w=>∃ y1:Int,∃ y2:(Int×Int),scale_greatest__scale_best_l1 F x1 x4 m y1 y2 =some z1∧L 14=.int .i64 y1∧Bx w b5 423 (Flat.enc y2)∧L 1=v1∧L 4=.pointer (some ⟨b3,0,none⟩)∧L 5=.pointer (some ⟨b5,0,none⟩)∧L 12=.slice a2 x4.length cq2∧L 13=.int .i64 (x4.length:Int)∧Ext w1 w) F ⟨_,_,hB1,rfl,hb6,rfl,rfl,rfl,rfl,rfl,k3⟩ ?_
  rintro m L w4 ⟨y1,y2,hB1,l14_i3,B5_i3,l1_i3,l4_i3,l5_i3,l12_i3,l13_i3,K0_i3⟩
  rcases m with _ | m
  ·rw [scale_greatest__scale_best_l1] at hB1; cases hB1
  rw [scale_greatest__scale_best_l1] at hB1
  have k4:=hx1.tr K0_i3
  have h6:=h3.ext K0_i3
  refine Zr<|Zv (xlss l14_i3 l13_i3)<|nl<|wp_seq<|cnd rfl (fun h7=>?_) (fun h7=>?_)
  ·
   have hB1:=ifp hB1 h7
   refine wp_skip<|wp_seq<|?_
   have hz:=bs hB1; obtain ⟨y3,hB3,hB1⟩:=hz
   refine ct (fun L w=>Bx w b5 423 (Flat.enc y3)∧L 1=v1∧L 4=.pointer (some ⟨b3,0,none⟩)∧L 5=.pointer (some ⟨b5,0,none⟩)∧L 12=.slice a2 x4.length cq2∧L 13=.int .i64 (x4.length:Int)∧L 14=.int .i64 y1∧Ext w1 w) ?_ ?_
   ·
    refine wp_block<|Zr<|?_
    have hz:=bs hB3; obtain ⟨x5,Ex5,hB3⟩:=hz
    have hz:=(RV.els r6).ix Ex5; obtain ⟨b6,f2,cs4,e2,i4,i5,q4,hc3⟩:=hz
    cases e2
    obtain ⟨_,_,rfl,rfl,rfl⟩:=q4
    have hc4:=hc3.ext k4
    refine Zv (xixs l12_i3 l14_i3 Tryz.underlying424 ti423 i4 i5)<|Zv (xlda rfl ti423 rfl hc4)<|sal ti423 fun b7 w5 hx3 hg3 hb8=>?_
    have k6:=K0_i3.tr hx3
    refine sst rfl rfl rfl ti423 hb8 rfl rfl (ble rfl) fun w6 hch2 hb10=>?_
    have k8:=Ext.chg k6 hch2 (Nat.le_trans K0_i3.size hg3)
    have k9:=Ext.chg hx3 hch2 (Nat.le_trans (Nat.le_refl _) hg3)
    have B2:=B5_i3.ext k9
    have h9:=h6.ext k9
    have hb12:Bx w6 b7 423 [.int .i64 x5.1,.int .i64 x5.2]:=hb10
    refine nl<|wp_seq<|wpl [] (.pure true 0 (.pure false 1 (.pure true 3 (.pure false 4 (.eff 2 (.eff 5 (.pure true 6 .fin) .stop) .stop))))) mixed (by kernel_rfl) (fun w7 hx4=>?_)
    have k11:=k8.tr hx4
    have B3:=B2.ext hx4
    have hb14:=hb12.ext hx4
    have h10:=h9.ext hx4
    refine Zn rfl<|Zq rfl (fun _ hS=>xlda rfl ti423 rfl (Bx.cs (hb14.ext (hS.resolve_left nofun)))) (Ext.refl _)<|Zn rfl<|Zq rfl (fun _ hS=>xlda l5_i3 ti423 rfl (Bx.cs (B3.ext (hS.resolve_left nofun)))) (Ext.refl _)<|?_
    have hz:=bs hB3; obtain ⟨x6,Ex6,hB3⟩:=hz
    have hz:=id h10; obtain ⟨g1,fs1,cs5,e3,hg4,hu1⟩:=hz
    refine pe1 rfl<|Zc (xcv (l1_i3.trans e3) hg4 (mc rfl mn) rfl) (hu1 _ _ _ _ (Ext.refl _) (show RV (α:=(Int×Int)) _ (.agg [.int .i64 x5.1,.int .i64 x5.2].toArray) (x5.1,x5.2) from ⟨_,rfl,⟨[.int .i64 x5.1],[.int .i64 x5.2],rfl,rfl,rfl⟩⟩) Ex6) ?_
    rintro _ w8 ⟨rfl,hx5⟩
    have k14:=k11.tr hx5
    have B4:=B3.ext hx5
    have hb16:=hb14.ext hx5
    have h11:=h10.ext hx5
    refine nl ⟨fun _ _=>hx5,?_⟩
    have hz:=bs hB3; obtain ⟨x7,Ex7,hB3⟩:=hz
    have hz:=id h11; obtain ⟨g2,fs2,cs6,e4,hg5,hu2⟩:=hz
    refine pe1 rfl<|Zc (xcv (l1_i3.trans e4) hg5 (mc rfl mn) rfl) (hu2 _ _ _ _ (Ext.refl _) (show RV (α:=(Int×Int)) _ (.agg [.int .i64 y2.1,.int .i64 y2.2].toArray) (y2.1,y2.2) from ⟨_,rfl,⟨[.int .i64 y2.1],[.int .i64 y2.2],rfl,rfl,rfl⟩⟩) Ex7) ?_
    rintro _ w9 ⟨rfl,hx6⟩
    have k17:=k14.tr hx6
    have k19:=hx5.tr hx6
    have B5:=B4.ext hx6
    have hb18:=hb16.ext hx6
    refine nl ⟨fun _ _=>k19,?_⟩
    refine Zp rfl (fun _=>xgtr rfl rfl)<|?_
    have hz:=bs hB3; obtain ⟨y4,hB4,hB3⟩:=hz
    refine ct (fun L w=>Bx w b5 423 (Flat.enc y4)∧L 1=v1∧L 4=.pointer (some ⟨b3,0,none⟩)∧L 5=.pointer (some ⟨b5,0,none⟩)∧L 12=.slice (some ⟨b6,f2,none⟩) x4.length cq2∧L 13=.int .i64 (x4.length:Int)∧L 14=.int .i64 y1∧Ext w1 w) ?_ ?_
    ·
     refine cnd rfl (fun h13=>?_) (fun h13=>?_)
     ·
      have hB4:=ifp hB4 h13
      refine rg<|Zv (xlda rfl ti423 rfl (Bx.cs hb18))<|sst l5_i3 rfl rfl ti423 B5 rfl rfl (ble rfl) fun w10 hch3 hb19=>?_
      have k21:=Ext.chg k17 hch3 (Nat.le_trans (Nat.le_refl _) hg2)
      have hb21:Bx w10 b5 423 [.int .i64 x5.1,.int .i64 x5.2]:=hb19
      refine nl<|?_
      cases hB4
      refine lf<|?_
      exact ⟨hb21,l1_i3,l4_i3,l5_i3,l12_i3,l13_i3,l14_i3,k21⟩
     ·
      have hB4:=ifn hB4 h13
      refine wp_skip<|?_
      cases hB4
      refine lf<|?_
      exact ⟨B5,l1_i3,l4_i3,l5_i3,l12_i3,l13_i3,l14_i3,k17⟩
    rintro L w11 ⟨B5_j1,l1_j1,l4_j1,l5_j1,l12_j1,l13_j1,l14_j1,K0_j1⟩
    cases hB3
    refine lf<|?_
    exact ⟨B5_j1,l1_j1,l4_j1,l5_j1,l12_j1,l13_j1,l14_j1,K0_j1⟩
   rintro L w12 ⟨B5_j2,l1_j2,l4_j2,l5_j2,l12_j2,l13_j2,l14_j2,K0_j2⟩
   refine rg<|Zv (xadd l14_j2 rfl)<|Zm<|nl<|?_
   refine lq m (Nat.lt_succ_self _)<|?_
   exact ⟨_,_,hB1,rfl,B5_j2,l1_j2,l4_j2,l5_j2,l12_j2,l13_j2,K0_j2⟩
  ·
   have hB1:=ifn hB1 h7
   refine wp_exit<|?_
   cases hB1
   refine lf<|?_
   exact ⟨B5_i3,l4_i3,l5_i3,K0_i3⟩
 rintro L w13 ⟨B5_j3,l4_j3,l5_j3,K0_j3⟩
 have k24:=hx1.tr K0_j3
 have hb24:=hb1.ext K0_j3
 refine Zr<|Zv (xlda l5_j3 ti423 rfl (Bx.cs B5_j3))<|sst l4_j3 rfl rfl ti423 hb24 rfl rfl (ble rfl) fun w14 hch4 hb25=>?_
 have k25:=Ext.chg k24 hch4 (Nat.le_trans (Nat.le_refl _) hg1)
 have hb26:Bx w14 b3 423 [.int .i64 z1.1,.int .i64 z1.2]:=hb25
 refine nl<|?_
 cases hF
 exact wp_ret<|rt rfl (.cell l4_j3 rfl ti423 rfl (Bx.cs hb26) .nil) ⟨_,rfl,(show RV (α:=(Int×Int)) _ (.agg [.int .i64 z1.1,.int .i64 z1.2].toArray) (z1.1,z1.2) from ⟨_,rfl,⟨[.int .i64 z1.1],[.int .i64 z1.2],rfl,rfl,rfl⟩⟩),k25⟩
end Go.Proofs.YtfmelbioccbdoaaGreat
end
section
namespace Go.Proofs.YtfmelbioccbdoaaGreat
open Go Go.Md Go.RowKit
attribute [local irreducible] Go.wpList Go.Code.wp Go.Calls Go.Md.Rnd Go.Md.Mt Go.Md.MtM Go.Md.RndM Go.Code.wpIn
theorem c328 {w0:World} {v0:Value} {x0:(Int×Int)} (r0:RV w0 v0 x0) {r:Int} (hF:scale_song_most_1 x0=some r) :
  Calls Tryz.prog 328 [v0].toArray w0 (Ret fun v w'=>v=.int .i64 r∧Ext w0 w'):=by
 unfold scale_song_most_1 at hF
 have hz:=id r0; obtain ⟨_,rfl,⟨_,_,rfl,rfl,rfl⟩⟩:=hz
 refine entr (n:=5) Tryz.func328 rfl rfl rfl<|Zr<|sbx rfl rfl fun b2 w1 hx1 hg1 hb1=>?_
 refine Za<|nl<|Zr<|Zv (xfa rfl fa423_0)<|Zv (xld rfl ti3 ((Bx.cs hb1).at 0 rfl))<|Za<|nl<|?_
 cases hF
 exact wp_ret<|rt rfl (.tmp rfl rfl .nil) ⟨rfl,hx1⟩
theorem c276 {w0:World} {b0:Nat} {cs0:List Value} {x0:(Uno (List ((Int×Int)×Int)))} (h0:Cs w0 b0 0 cs0) (q0:Enc.rep (fun _=>True) w0 cs0 x0) {x1:Int} {F:Nat} {r:((List Int)×Int)} (hF:scale_song_most F x0 x1=some r) :
  Calls Tryz.prog 276 [.pointer (some ⟨b0,0,none⟩),.int .i64 x1].toArray w0 (Ret fun v w'=>∃ u0:Value,v=.tuple #[u0,.int .i64 r.2]∧RV w' u0 r.1∧Ext w0 w'):=by
 unfold scale_song_most at hF
 obtain ⟨a1,cq1,rfl,p1,q3,e1⟩:=q0
 have r3:=RV.of1 p1 q3 e1
 have M1:Mks w0.heap.size [] w0:=Mks.nil
 refine entrM (m:=12) (n:=128) Tryz.func276 rfl rfl rfl<|Zr<|Za<|Za<|nl<|Zr<|smmk (κ:=(Int×Int)) (ν:=(Int×Int)) fun b3 w1 hx1 hg1 hm1=>?_
 have M2:=M1.ext hx1
 refine Za<|nl<|Zr<|sbsv (cs:=[.int .i64 (-1)]) Tryz.underlying28 ti2 rfl (pc rfl pn) rfl rfl rfl rfl rfl fun b4 w2 hx2 hg2 hb1=>?_
 have k1:=hx1.tr hx2
 have M3:=M2.ext hx2
 have o1:Row (α:=Int) 2 w1.heap.size w2 (.slice (some ⟨b4,0,none⟩) 1 1) [(-1)]:=Row.lit hg2 hb1 rfl (ble rfl)
 refine sal ti28 fun b5 w3 hx3 hg3 hb2=>?_
 have k2:=k1.tr hx3
 have k3:=hx2.tr hx3
 have M4:=M3.ext hx3
 refine sst rfl rfl rfl ti28 hb2 rfl rfl (ble rfl) fun w4 hch1 hb3=>?_
 have k4:=Ext.chg k2 hch1 (Nat.le_trans k1.size hg3)
 have k5:=Ext.chg k3 hch1 (Nat.le_trans hx2.size hg3)
 have k6:=Ext.chg hx3 hch1 (Nat.le_trans (Nat.le_refl _) hg3)
 have M5:=M4.chg hch1 hb2.nd
 have o3:=o1.ext k6
 have hb4:Bx w4 b5 28 [.slice (some ⟨b4,0,none⟩) ([(-1)]:List Int).length 1]:=hb3
 refine nl<|wp_seq<|Zr<|Zm<|?_
 have q4:RVo (·<w0.heap.size) w4 (.pointer (some ⟨b0,0,none⟩)) (⟨some (⟨x0.v⟩:(Uno (List ((Int×Int)×Int))))⟩:Ob (Uno (List ((Int×Int)×Int)))):=RVo.ext (RV.old (w:=w0) (obNew h0 rfl r3.rep1)) k4
 have hz:=bs hF; obtain ⟨x3,Ex3,hF⟩:=hz
 refine Zc (xc cb205 (mc rfl mn)) (c205 (a:=w0.heap.size) q4 (Below.size k4) Ex3) ?_
 rintro v3 w5 ⟨sq1,hx4⟩
 have k7:=k4.tr hx4
 have k8:=k5.tr hx4
 have M6:=M5.ext hx4
 have hb5:=hb4.ext hx4
 have o4:=o3.ext hx4
 refine nl<|wp_block<|?_
 have hin1:w0.heap.size≤b5∧b5<w4.heap.size:=⟨(Nat.le_trans k1.size hg3),hb4.lt⟩
 have hz:=bs hF; obtain ⟨z1,hB1,hF⟩:=hz
 refine ctM w0.heap.size (fun L w=>∃ v5:Value,Bx w b5 28 [v5]∧Row 2 w1.heap.size w v5 z1∧some b5≠Value.ownBlock v5∧Ext w1 w∧L 0=.pointer (some ⟨b0,0,none⟩)∧L 1=.int .i64 x1∧L 6=.map (some b3)∧L 7=.pointer (some ⟨b5,0,none⟩)) ?_ ?_
 ·
  refine rangeB (α:=((Int×Int)×Int)) (xs:=x3) (m:=12) (by decide) rfl KpOk.beli (SeqV.go (by decide) sq1) rfl rfl rfl ti302 rfl (fun k w=>∃ y1:(List Int),∃ v4:Value,scale_song_most_l1 F (List.drop k x3) y1=some z1∧Bx w b5 28 [v4]∧Row 2 w1.heap.size w v4 y1∧some b5≠Value.ownBlock v4∧Ext w1 w∧Out w4.heap.size w5.heap.size v4∧Mks w0.heap.size [] w∧w5.heap.size≤w.heap.size) (fun _ _=>False) (fun k=>Okb.ex fun _=>Okb.ex fun _=>(Okb.and Okb.pure (Okb.and Okb.bx (Okb.and Okb.row (Okb.and Okb.pure (Okb.and (Okb.extw k8.size) (Okb.and Okb.pure (Okb.and (Okb.mks M6 rfl) Okb.size)))))))) (fun _=>Okb.pure) ⟨_,_,hB1,hb5,o4,(o1.ne_new hg3),k8,(Out.old o3 (Nat.le_refl _)),M6,(Nat.le_refl _)⟩ ?round (fun k A h=>by obtain ⟨_,_,_,_,_,_,_,_,_,_⟩:=h; assumption) ?done ?stop
  case round =>
   rintro _ k x4 w6 w7 b6 hx5 ⟨y1,v4,hB1,B7_i1a,O7c1_i1a,N7c1_i1,K0_i1a,U1,M7a,sz1a⟩ ha1 hA1 hg4 hb6
   rw [drop_at hx5] at hB1
   rw [scale_song_most_l1] at hB1
   have B7_i1:=B7_i1a.asg ha1
   have O7c1_i1:=O7c1_i1a.asg ha1
   have K0_i1:=Below.asg K0_i1a ha1 k8.size
   have M7:=M7a.asg ha1
   have sz1:=Nat.le_trans sz1a ha1.size
   have hz:=RV.sl O7c1_i1.rv; obtain ⟨a2,cq2,rfl,-,-,-⟩:=hz
   have kf1:KeepsFrom w5.heap.size w7 w7:=KeepsFrom.refl _ _
   have bi1:BelI w0.heap.size w4.heap.size w5.heap.size w7 w7:=BelI.refl
   refine wpIn_block<|rgR rfl<|Zv (xld rfl ti28 ((Bx.cs B7_i1).at 0 rfl))<|Zv (xfa rfl fa302_0)<|Zv (xfa rfl fa35_1)<|Zv (xld rfl ti2 ((Bx.cs hb6).at 1 rfl))<|sbsv (cs:=[.int .i64 x4.1.2]) Tryz.underlying28 ti2 rfl (pc rfl pn) rfl rfl rfl rfl rfl fun b7 w8 hx6 hg5 hb7=>?_
   have k12:=K0_i1.tr hx6
   have M8:=M7.ext hx6
   have kf2:=kf1.ext hx6
   have bi2:=bi1.ext hx6 sz1
   have B1:=B7_i1.ext hx6
   have O1:=O7c1_i1.ext hx6
   have o6:Row (α:=Int) 2 w7.heap.size w8 (.slice (some ⟨b7,0,none⟩) 1 1) [x4.1.2]:=Row.lit hg5 hb7 rfl (ble rfl)
   have hz:=bs hB1; obtain ⟨x5,Ex5,hB1⟩:=hz
   refine sapx (l:=y1) (k:=([x4.1.2]:List Int)) rfl rfl Tryz.underlying28 ti2 rfl rfl O1 (RV.els o6.rv) Ex5 k12.size fun v6 w9 o7 hB2 hgr1 how1=>?_
   have k14:Ext w1 w9:=k12.trans hB2
   have U2:=Out.app U1 how1 (Nat.le_trans sz1 kf2.size)
   have M9:=M8.gr hgr1 (Row.nd O1)
   have kf3:=kf2.grc hgr1 (fun q e=>Row.cells O1 e)
   have bi3:=bi2.gr hgr1 sz1 (Out.bi U1 O1 hx1.size)
   have ne1:=ne_app how1 N7c1_i1 B1.lt
   have hb8:=Bx.gr B1 hgr1 N7c1_i1
   have hz:=RV.sl o7.rv; obtain ⟨a3,cq3,rfl,-,-,-⟩:=hz
   refine sst rfl rfl rfl ti28 hb8 rfl rfl (ble rfl) fun w10 hch2 hb9=>?_
   have k16:=Ext.chg k14 hch2 (Nat.le_trans (Nat.le_refl _) (Nat.le_trans hx2.size hg3))
   have M10:=M9.chg hch2 hb8.nd
   have kf4:=kf3.chgc hch2 (.inr hb8.isc)
   have bi4:=bi3.chg hch2 (.inl hin1)
   have o8:=Row.chgn o7 hch2 ne1
   have hb10:Bx w10 b5 28 [.slice a3 x5.length cq3]:=hb9
   refine nl<|?_
   exact ⟨kf4,bi4,⟨_,_,hB1,hb10,o8,ne1,k16,U2,M10,(Nat.le_trans sz1 kf4.size)⟩⟩
  case done =>
   rintro D1 w11 hD1 ⟨y1,v4,hB1,B7_j1,O7c1_j1,N7c1_j1,K0_j1,_,M7,_⟩ hk1
   rw [List.drop_length,scale_song_most_l1] at hB1
   cases hB1
   exact lfM (Mks.cons M6 M7 (Below.size k7) hD1 hk1) ⟨_,B7_j1,O7c1_j1,N7c1_j1,K0_j1,rfl,rfl,rfl,rfl⟩
  case stop =>
   rintro _ _ _ _ h _
   exact h.elim
 rintro L D2 w12 M11 ⟨v5,B7_j2,O7c1_j2,N7c1_j2,K0_j2,l0_j2,l1_j2,l6_j2,l7_j2⟩
 have k17:=hx1.tr K0_j2
 have hz:=RV.sl O7c1_j2.rv; obtain ⟨a4,cq4,rfl,-,-,-⟩:=hz
 refine Zr<|Zv (xld l7_j2 ti28 ((Bx.cs B7_j2).at 0 rfl))<|?_
 have hz:=bs hF; obtain ⟨x6,Ex6,hF⟩:=hz
 refine Zc (xc cb326 (mc rfl mn)) (c326g K0_j2.size O7c1_j2 Ex6) ?_
 rintro v7 w13 ⟨o9,hB3,hgr2,how2⟩
 have k18:=Ext.grow k17 hx1.size hB3
 have k19:Ext w1 w13:=K0_j2.trans hB3
 have M12:=M11.gr hgr2 (Row.nd O7c1_j2)
 have hb11:=Bx.gr B7_j2 hgr2 N7c1_j2
 have hz:=RV.sl o9.rv; obtain ⟨a5,cq5,rfl,-,-,-⟩:=hz
 refine sst l7_j2 rfl rfl ti28 hb11 rfl rfl (ble rfl) fun w14 hch3 hb12=>?_
 have k20:=Ext.chg k18 hch3 (Nat.le_trans hx1.size (Nat.le_trans hx2.size hg3))
 have k21:=Ext.chg k19 hch3 (Nat.le_trans (Nat.le_refl _) (Nat.le_trans hx2.size hg3))
 have M13:=M12.chg hch3 hb11.nd
 have o10:=Row.chgn o9 hch3 (fun e=>N7c1_j2 (e.trans how2))
 have hb13:Bx w14 b5 28 [.slice a5 x6.length cq5]:=hb12
 refine nl<|Zr<|Zv (xld l7_j2 ti28 ((Bx.cs hb13).at 0 rfl))<|?_
 have hz:=bs hF; obtain ⟨x7,Ex7,hF⟩:=hz
 refine Zc (xc cb275 (mc rfl mn)) (c275g k21.size o10 Ex7) ?_
 rintro _ w15 ⟨rfl,o11,hB4,hgr3⟩
 have k22:=Ext.grow k20 hx1.size hB4
 have k23:Ext w1 w15:=k21.trans hB4
 have M14:=M13.gr hgr3 (Row.nd o10)
 have hm13:=hm1.ext k23
 have hb14:=Bx.gr hb13 hgr3 (fun e=>N7c1_j2 (e.trans how2))
 have hl1:=(RV.cap o11.rv).1
 rw [hl1] at o11 hb14
 refine nl<|wp_seq<|Zr<|Zm<|Zv (xadd l1_j2 rfl)<|Zm<|nl<|?_
 have hz:=bs hF; obtain ⟨z2,hB5,hF⟩:=hz
 refine ctM w0.heap.size (fun L w=>Mp w b3 z2∧L 1=.int .i64 x1∧L 6=.map (some b3)∧w1.heap.size≤w.heap.size∧Ext w0 w) ?_ ?_
 ·
  refine wp_block<|lpM w0.heap.size (I:=fun m L w=>∃ y2:Int,∃ y3:(List ((Int×Int)×(Int×Int))),scale_song_most_l2 F x0 x1 x7 m y2 y3 =some z2∧L 38=.int .i64 y2∧Bx w b5 28 [.slice a5 x7.length cq5]∧Row 2 w1.heap.size w (.slice a5 x7.length cq5) x7∧Mp w b3 y3∧L 0=.pointer (some ⟨b0,0,none⟩)∧L 1=.int .i64 x1∧L 6=.map (some b3)∧L 7=.pointer (some ⟨b5,0,none⟩)∧L 37=.int .i64 (w64 (x1 + 1))∧w1.heap.size≤w.heap.size∧Ext w0 w) F M14 ⟨_,_,hB5,rfl,hb14,o11,hm13,l0_j2,l1_j2,l6_j2,l7_j2,rfl,k23.size,k22⟩ ?_
  rintro m L D3 w16 M15 ⟨y2,y3,hB5,l38_i2,B7_i2,F7c0_i2,Q9000_i2,l0_i2,l1_i2,l6_i2,l7_i2,l37_i2,Z0_i2,K0_i2⟩
  rcases m with _ | m
  ·rw [scale_song_most_l2] at hB5; cases hB5
  rw [scale_song_most_l2] at hB5
  refine Zr<|Zv (xlss l38_i2 l37_i2)<|nl<|wp_seq<|cnd rfl (fun h17=>?_) (fun h17=>?_)
  ·
   have hB5:=ifp hB5 h17
   refine wp_skip<|wp_seq<|wp_block<|Zr<|Zm<|Za<|nl<|Zr<|Zv (xld l7_i2 ti28 ((Bx.cs B7_i2).at 0 rfl))<|Zv (xlen rfl Tryz.underlying28)<|Zm<|nl<|?_
   have hz:=bs hB5; obtain ⟨z3,hB7,hB5⟩:=hz
   refine ctM w0.heap.size (fun L w=>Bx w b5 28 [.slice a5 x7.length cq5]∧Row 2 w1.heap.size w (.slice a5 x7.length cq5) x7∧Mp w b3 z3∧L 0=.pointer (some ⟨b0,0,none⟩)∧L 1=.int .i64 x1∧L 6=.map (some b3)∧L 7=.pointer (some ⟨b5,0,none⟩)∧L 37=.int .i64 (w64 (x1 + 1))∧L 38=.int .i64 y2∧w1.heap.size≤w.heap.size∧Ext w0 w) ?_ ?_
   ·
    refine wp_block<|lpM w0.heap.size (I:=fun m L w=>∃ y4:(List Int),∃ y5:Int,∃ y6:(List ((Int×Int)×(Int×Int))),∃ v8:Value,scale_song_most_l3 F x0 x7 y2 m y4 y5 y6 =some z3∧L 41=v8∧Row 2 w1.heap.size w v8 y4∧L 43=.int .i64 y5∧Bx w b5 28 [.slice a5 x7.length cq5]∧Row 2 w1.heap.size w (.slice a5 x7.length cq5) x7∧Mp w b3 y6∧L 0=.pointer (some ⟨b0,0,none⟩)∧L 1=.int .i64 x1∧L 6=.map (some b3)∧L 7=.pointer (some ⟨b5,0,none⟩)∧L 9=.int .i64 y2∧L 37=.int .i64 (w64 (x1 + 1))∧L 38=.int .i64 y2∧L 42=.int .i64 (x7.length:Int)∧w1.heap.size≤w.heap.size∧Ext w0 w) F M15 ⟨_,_,_,_,hB7,rfl,F7c0_i2,rfl,B7_i2,F7c0_i2,Q9000_i2,l0_i2,l1_i2,l6_i2,l7_i2,l38_i2,l37_i2,l38_i2,rfl,Z0_i2,K0_i2⟩ ?_
    rintro m L D4 w17 M16 ⟨y4,y5,y6,v8,hB7,l41_i3,O41_i3,l43_i3,B7_i3,F7c0_i3,Q9000_i3,l0_i3,l1_i3,l6_i3,l7_i3,l9_i3,l37_i3,l38_i3,l42_i3,Z0_i3,K0_i3⟩
    rcases m with _ | m
    ·rw [scale_song_most_l3] at hB7; cases hB7
    rw [scale_song_most_l3] at hB7
    have hz:=RV.sl O41_i3.rv; obtain ⟨a6,cq6,rfl,-,-,-⟩:=hz
    refine Zr<|Zv (xlss l43_i3 l42_i3)<|nl<|wp_seq<|cnd rfl (fun h19=>?_) (fun h19=>?_)
    ·
     have hB7:=ifp hB7 h19
     refine wp_skip<|wp_seq<|wp_block<|Zr<|?_
     have hz:=bs hB7; obtain ⟨x8,Ex8,hB7⟩:=hz
     have hz:=(RV.els O41_i3.rv).ix Ex8; obtain ⟨b8,f1,cs3,e2,i4,i5,q5,hc1⟩:=hz
     cases e2
     obtain rfl:=q5
     refine Zv (xixs l41_i3 l43_i3 Tryz.underlying28 ti2 i4 i5)<|Zv (xld rfl ti2 (hc1.at 0 rfl))<|sal ti2 fun b9 w18 hx7 hg6 hb15=>?_
     have k24:=K0_i3.tr hx7
     have zs1:=Nat.le_trans Z0_i3 hx7.size
     have M17:=M16.ext hx7
     refine sst rfl rfl rfl ti2 hb15 rfl rfl (ble rfl) fun w19 hch4 hb17=>?_
     have k25:=Ext.chg k24 hch4 (Nat.le_trans K0_i3.size hg6)
     have k26:=Ext.chg hx7 hch4 (Nat.le_trans (Nat.le_refl _) hg6)
     have zs2:=Nat.le_trans zs1 (Nat.le_of_eq hch4.size.symm)
     have M18:=M17.chg hch4 hb15.nd
     have Q2:=Q9000_i3.ext k26
     have hb18:=B7_i3.ext k26
     have o15:=F7c0_i3.ext k26
     have O3:=O41_i3.ext k26
     have hb19:Bx w19 b9 2 [.int .i64 x8]:=hb17
     refine nl<|Zr<|Zv (xbdv (r:=[.int .i64 0,.int .i64 (-1)]) ti423 sp423 (pc rfl (pc rfl pn)) rfl)<|sbsv (cs:=[.int .i64 0,.int .i64 (-1)]) Tryz.underlying424 ti423 rfl (pc rfl pn) rfl rfl rfl rfl rfl fun b10 w20 hx8 hg7 hb20=>?_
     have zs3:=Nat.le_trans zs2 hx8.size
     have M19:=M18.ext hx8
     have hb21:=hb18.ext hx8
     have o17:Row (α:=(Int×Int)) 423 w19.heap.size w20 (.slice (some ⟨b10,0,none⟩) 1 1) [(0,(-1))]:=Row.lit hg7 hb20 rfl (ble rfl)
     refine Za<|nl<|wp_seq<|Zr<|Zv (xld l7_i3 ti28 ((Bx.cs hb21).at 0 rfl))<|Zv (xlen rfl Tryz.underlying28)<|Zm<|nl<|?_
     have hz:=bs hB7; obtain ⟨z4,hB9,hB7⟩:=hz
     refine ctM w0.heap.size (fun L w=>∃ v10:Value,L 12=v10∧Row 423 w19.heap.size w v10 z4∧Apart (v10) (.slice (some ⟨b8,f1,none⟩) y4.length cq6)∧Apart (v10) (.slice a5 x7.length cq5)∧L 0=.pointer (some ⟨b0,0,none⟩)∧L 1=.int .i64 x1∧L 6=.map (some b3)∧L 7=.pointer (some ⟨b5,0,none⟩)∧L 9=.int .i64 y2∧L 11=.pointer (some ⟨b9,0,none⟩)∧L 37=.int .i64 (w64 (x1 + 1))∧L 38=.int .i64 y2∧L 41=.slice (some ⟨b8,f1,none⟩) y4.length cq6∧L 42=.int .i64 (x7.length:Int)∧L 43=.int .i64 y5∧w1.heap.size≤w.heap.size∧Ext w19 w) ?_ ?_
     ·
      refine wp_block<|lpM w0.heap.size (I:=fun m L w=>∃ y7:(List (Int×Int)),∃ y8:Int,∃ v9:Value,scale_song_most_l4 F x0 x7 x8 y2 y6 m y7 y8 =some z4∧L 12=v9∧Row 423 w19.heap.size w v9 y7∧L 51=.int .i64 y8∧Apart (v9) (.slice (some ⟨b8,f1,none⟩) y4.length cq6)∧Apart (v9) (.slice a5 x7.length cq5)∧L 0=.pointer (some ⟨b0,0,none⟩)∧L 1=.int .i64 x1∧L 6=.map (some b3)∧L 7=.pointer (some ⟨b5,0,none⟩)∧L 9=.int .i64 y2∧L 11=.pointer (some ⟨b9,0,none⟩)∧L 37=.int .i64 (w64 (x1 + 1))∧L 38=.int .i64 y2∧L 41=.slice (some ⟨b8,f1,none⟩) y4.length cq6∧L 42=.int .i64 (x7.length:Int)∧L 43=.int .i64 y5∧L 49=.slice a5 x7.length cq5∧L 50=.int .i64 (x7.length:Int)∧w1.heap.size≤w.heap.size∧Ext w19 w) F M19 ⟨_,_,_,hB9,rfl,o17,rfl,(Apart.symm (Apart.old' O3.own_lt (fun q e=>(o17.lt q e).1))),(Apart.symm (Apart.old' o15.own_lt (fun q e=>(o17.lt q e).1))),l0_i3,l1_i3,l6_i3,l7_i3,l9_i3,rfl,l37_i3,l38_i3,l41_i3,l42_i3,l43_i3,rfl,rfl,zs3,hx8⟩ ?_
      rintro m L D5 w21 M20 ⟨y7,y8,v9,hB9,l12_i6,O12_i6,l51_i6,X0_i6,X1_i6,l0_i6,l1_i6,l6_i6,l7_i6,l9_i6,l11_i6,l37_i6,l38_i6,l41_i6,l42_i6,l43_i6,l49_i6,l50_i6,Z0_i6,K0_i6⟩
      rcases m with _ | m
      ·rw [scale_song_most_l4] at hB9; cases hB9
      rw [scale_song_most_l4] at hB9
      have k29:=k25.tr K0_i6
      have Q4:=Q2.ext K0_i6
      have o19:=o15.ext K0_i6
      have hb24:=hb19.ext K0_i6
      have O5:=O3.ext K0_i6
      have hz:=RV.sl O12_i6.rv; obtain ⟨a7,cq7,rfl,-,-,-⟩:=hz
      refine Zr<|Zv (xlss l51_i6 l50_i6)<|nl<|wp_seq<|cnd rfl (fun h24=>?_) (fun h24=>?_)
      ·
       have hB9:=ifp hB9 h24
       refine wp_skip<|wp_seq<|?_
       have hz:=bs hB9; obtain ⟨y9,hB11,hB9⟩:=hz
       refine ctM w0.heap.size (fun L w=>∃ v11:Value,L 12=v11∧Row 423 w19.heap.size w v11 y9∧Apart (v11) (.slice (some ⟨b8,f1,none⟩) y4.length cq6)∧Apart (v11) (.slice a5 x7.length cq5)∧L 0=.pointer (some ⟨b0,0,none⟩)∧L 1=.int .i64 x1∧L 6=.map (some b3)∧L 7=.pointer (some ⟨b5,0,none⟩)∧L 9=.int .i64 y2∧L 11=.pointer (some ⟨b9,0,none⟩)∧L 37=.int .i64 (w64 (x1 + 1))∧L 38=.int .i64 y2∧L 41=.slice (some ⟨b8,f1,none⟩) y4.length cq6∧L 42=.int .i64 (x7.length:Int)∧L 43=.int .i64 y5∧L 49=.slice a5 x7.length cq5∧L 50=.int .i64 (x7.length:Int)∧L 51=.int .i64 y8∧w1.heap.size≤w.heap.size∧Ext w19 w) ?_ ?_
       ·
        refine wp_block<|Zr<|?_
        have hz:=bs hB11; obtain ⟨x9,Ex9,hB11⟩:=hz
        have hz:=(RV.els o19.rv).ix Ex9; obtain ⟨b11,f2,cs4,e3,i7,i8,q6,hc2⟩:=hz
        cases e3
        obtain rfl:=q6
        refine Zv (xixs l49_i6 l51_i6 Tryz.underlying28 ti2 i7 i8)<|Zv (xld rfl ti2 (hc2.at 0 rfl))<|sal ti2 fun b12 w22 hx9 hg8 hb25=>?_
        have k31:=k29.tr hx9
        have k33:=K0_i6.tr hx9
        have zs4:=Nat.le_trans Z0_i6 hx9.size
        have M21:=M20.ext hx9
        refine sst rfl rfl rfl ti2 hb25 rfl rfl (ble rfl) fun w23 hch5 hb28=>?_
        have k34:=Ext.chg k31 hch5 (Nat.le_trans k29.size hg8)
        have k36:=Ext.chg k33 hch5 (Nat.le_trans K0_i6.size hg8)
        have k37:=Ext.chg hx9 hch5 (Nat.le_trans (Nat.le_refl _) hg8)
        have zs5:=Nat.le_trans zs4 (Nat.le_of_eq hch5.size.symm)
        have M22:=M21.chg hch5 hb25.nd
        have Q6:=Q4.ext k37
        have o21:=o19.ext k37
        have hb30:=hb24.ext k37
        have O8:=O5.ext k37
        have O9:=O12_i6.ext k37
        have hb31:Bx w23 b12 2 [.int .i64 x9]:=hb28
        refine nl<|wp_seq<|Zr<|Zm<|Zv (xeql l9_i6 rfl)<|Zm<|Zg rfl rfl (gw0 rfl) (fun hc=>xld rfl ti2 ((Bx.cs hb31).at 0 rfl))<|Zg rfl rfl (gw0 rfl) (fun hc=>xld l11_i6 ti2 ((Bx.cs hb30).at 0 rfl))<|Zg rfl rfl (gw0 rfl) (fun hc=>xleq (mv hc rfl) (mv hc rfl))<|Zv (xpo rfl rfl rfl)<|nl<|cnd rfl (fun h27=>?_) (fun h27=>?_)
        ·
         have hB11:=ifp hB11 h27
         refine wp_exit<|?_
         cases hB11
         refine lfM M22<|?_
         exact ⟨_,l12_i6,O9,X0_i6,X1_i6,l0_i6,l1_i6,l6_i6,l7_i6,l9_i6,l11_i6,l37_i6,l38_i6,l41_i6,l42_i6,l43_i6,l49_i6,l50_i6,l51_i6,zs5,k36⟩
        ·
         have hB11:=ifn hB11 h27
         refine wp_skip<|Zr<|Zm<|Zv (xld rfl ti2 ((Bx.cs hb31).at 0 rfl))<|Zm<|Zv (xsub l9_i6 rfl)<|Zv (xbdv (r:=[.int .i64 x9,.int .i64 (w64 (y2 - 1))]) ti426 sp426 (pc rfl (pc rfl pn)) rfl)<|?_
         have hz:=bs hB11; obtain ⟨x10,Ex10,hB11⟩:=hz
         refine Zv (xlku (k:=(x9,w64 (y2 - 1))) (d:=(0,0)) Tryz.underlying420 kt426 (TI.zv ti423 rfl rfl _) Q6 (kok_spec Ex10) l6_i6 rfl)<|Zv (xfl (off:=0) (v:=.int .i64 ((mget (0,0) y6 (x9,w64 (y2 - 1))).1)) rfl (by kernel_rfl) ti3 rfl)<|sal ti3 fun b13 w24 hx10 hg9 hb32=>?_
         have k38:=k34.tr hx10
         have k40:=k36.tr hx10
         have zs6:=Nat.le_trans zs5 hx10.size
         have M23:=M22.ext hx10
         refine sst rfl rfl rfl ti3 hb32 rfl rfl (ble rfl) fun w25 hch6 hb36=>?_
         have k42:=Ext.chg k38 hch6 (Nat.le_trans k34.size hg9)
         have k44:=Ext.chg k40 hch6 (Nat.le_trans k36.size hg9)
         have k46:=Ext.chg hx10 hch6 (Nat.le_trans (Nat.le_refl _) hg9)
         have zs7:=Nat.le_trans zs6 (Nat.le_of_eq hch6.size.symm)
         have M24:=M23.chg hch6 hb32.nd
         have hb40:Bx w25 b13 3 [.int .i64 ((mget (0,0) y6 (x9,w64 (y2 - 1))).1)]:=hb36
         refine nl<|wp_seq<|Zr<|Zm<|?_
         have q7:RVo (·<w0.heap.size) w25 (.pointer (some ⟨b0,0,none⟩)) (⟨some (⟨x0.v⟩:(Uno (List ((Int×Int)×Int))))⟩:Ob (Uno (List ((Int×Int)×Int)))):=RVo.ext (RV.old (w:=w0) (obNew h0 rfl r3.rep1)) k42
         have hz:=bs hB11; obtain ⟨x11,Ex11,hB11⟩:=hz
         refine Zc (xc cb205 (mc l0_i6 mn)) (c205 (a:=w0.heap.size) q7 (Below.size k42) Ex11) ?_
         rintro v12 w26 ⟨sq2,hx11⟩
         have k47:=k42.tr hx11
         have k49:=k44.tr hx11
         have k51:=k46.tr hx11
         have zs8:=Nat.le_trans zs7 hx11.size
         have M25:=M24.ext hx11
         have hb44:=hb40.ext hx11
         refine nl<|wp_block<|?_
         have hin2:w0.heap.size≤b13∧b13<w25.heap.size:=⟨(Nat.le_trans k34.size hg9),hb40.lt⟩
         have hz:=bs hB11; obtain ⟨z5,hB14,hB11⟩:=hz
         refine ctM w0.heap.size (fun L w=>Bx w b13 3 (Flat.enc z5)∧w1.heap.size≤w.heap.size∧w19.heap.size≤w.heap.size∧Ext w23 w∧L 0=.pointer (some ⟨b0,0,none⟩)∧L 1=.int .i64 x1∧L 6=.map (some b3)∧L 7=.pointer (some ⟨b5,0,none⟩)∧L 9=.int .i64 y2∧L 11=.pointer (some ⟨b9,0,none⟩)∧L 12=.slice a7 y7.length cq7∧L 14=.pointer (some ⟨b12,0,none⟩)∧L 15=.pointer (some ⟨b13,0,none⟩)∧L 37=.int .i64 (w64 (x1 + 1))∧L 38=.int .i64 y2∧L 41=.slice (some ⟨b8,f1,none⟩) y4.length cq6∧L 42=.int .i64 (x7.length:Int)∧L 43=.int .i64 y5∧L 49=.slice (some ⟨b11,f2,none⟩) x7.length cq5∧L 50=.int .i64 (x7.length:Int)∧L 51=.int .i64 y8) ?_ ?_
         ·
          refine rangeB (α:=((Int×Int)×Int)) (xs:=x11) (m:=12) (by decide) rfl KpOk.beli (SeqV.go (by decide) sq2) rfl rfl rfl ti302 rfl (fun k w=>∃ y10:Int,scale_song_most_l5 F x8 x9 (List.drop k x11) y10=some z5∧Bx w b13 3 (Flat.enc y10)∧w1.heap.size≤w.heap.size∧w19.heap.size≤w.heap.size∧Ext w23 w∧Mks w0.heap.size D5 w∧w26.heap.size≤w.heap.size) (fun _ _=>False) (fun k=>Okb.ex fun _=>(Okb.and Okb.pure (Okb.and Okb.bx (Okb.and Okb.size (Okb.and Okb.size (Okb.and (Okb.extw k51.size) (Okb.and (Okb.mks M25 rfl) Okb.size))))))) (fun _=>Okb.pure) ⟨_,hB14,hb44,zs8,k49.size,k51,M25,(Nat.le_refl _)⟩ ?round (fun k A h=>by obtain ⟨_,_,_,_,_,_,_,_⟩:=h; assumption) ?done ?stop
          case round =>
           rintro _ k x12 w27 w28 b14 hx12 ⟨y10,hB14,B15_i9a,Z0_i9a,Z1_i9a,K0_i9a,M26a,sz2a⟩ ha2 hA2 hg10 hb45
           rw [drop_at hx12] at hB14
           rw [scale_song_most_l5] at hB14
           have B15_i9:=B15_i9a.asg ha2
           have Z0_i9:=Nat.le_trans Z0_i9a ha2.size
           have Z1_i9:=Nat.le_trans Z1_i9a ha2.size
           have K0_i9:=Below.asg K0_i9a ha2 k51.size
           have M26:=M26a.asg ha2
           have sz2:=Nat.le_trans sz2a ha2.size
           have hb47:=hb30.ext K0_i9
           have hb48:=hb31.ext K0_i9
           have kf5:KeepsFrom w26.heap.size w28 w28:=KeepsFrom.refl _ _
           have bi5:BelI w0.heap.size w25.heap.size w26.heap.size w28 w28:=BelI.refl
           refine wpIn_block<|wpIn_seq<|rgR rfl<|Zv (xfa rfl fa302_0)<|Zv (xfa rfl fa35_0)<|Zv (xld rfl ti2 ((Bx.cs hb45).at 0 rfl))<|Zv (xld l11_i6 ti2 ((Bx.cs hb47).at 0 rfl))<|Zv (xgtr rfl rfl)<|Zm<|Zg rfl rfl (gw1 rfl) (fun hc=>xlda rfl ti302 rfl (Bx.cs hb45))<|Zg rfl rfl (gw1 rfl) (fun hc=>xld rfl ti2 ((Bx.cs hb48).at 0 rfl))<|?_
           have hz:=bs hB14; obtain ⟨x13,Ex13,hB14⟩:=hz
           refine gc rfl rfl rfl rfl (gw1 rfl) rfl (fun hc=>xc cb210 (mc (mv hc rfl) (mc (mv hc rfl) mn))) (fun hc=>(c210 (show RV (α:=((Int×Int)×Int)) _ (.agg [.int .i64 x12.1.1,.int .i64 x12.1.2,.int .i64 x12.2].toArray) ((x12.1.1,x12.1.2),x12.2) from ⟨_,rfl,⟨[.int .i64 x12.1.1]++[.int .i64 x12.1.2],[.int .i64 x12.2],rfl,⟨[.int .i64 x12.1.1],[.int .i64 x12.1.2],rfl,rfl,rfl⟩,rfl⟩⟩) (gdp Ex13 hc))) (fun v13 w29 hy1 hn1=>?_)
           have hx13:Ext w28 w29:=gx (fun h=>(hy1 h).2) (fun h=>(hn1 h).2 ▸ Ext.refl _)
           have e4:=mkw (fun h=>(hy1 h).1) (fun h=>(hn1 h).1)
           have k60:=K0_i9.tr hx13
           have zs9:=Nat.le_trans Z0_i9 hx13.size
           have zs10:=Nat.le_trans Z1_i9 hx13.size
           have M27:=M26.ext hx13
           have kf6:=kf5.ext hx13
           have bi6:=bi5.ext hx13 sz2
           have B2:=B15_i9.ext hx13
           refine Zv (xpa rfl e4 rfl)<|nl<|?_
           have hz:=bs hB14; obtain ⟨y11,hB15,hB14⟩:=hz
           refine ctR (fun L w=>Bx w b13 3 (Flat.enc y11)∧L 0=.pointer (some ⟨b0,0,none⟩)∧L 1=.int .i64 x1∧L 6=.map (some b3)∧L 7=.pointer (some ⟨b5,0,none⟩)∧L 9=.int .i64 y2∧L 11=.pointer (some ⟨b9,0,none⟩)∧L 14=.pointer (some ⟨b12,0,none⟩)∧L 15=.pointer (some ⟨b13,0,none⟩)∧L 37=.int .i64 (w64 (x1 + 1))∧L 38=.int .i64 y2∧L 41=.slice (some ⟨b8,f1,none⟩) y4.length cq6∧L 42=.int .i64 (x7.length:Int)∧L 43=.int .i64 y5∧L 49=.slice (some ⟨b11,f2,none⟩) x7.length cq5∧L 50=.int .i64 (x7.length:Int)∧L 51=.int .i64 y8∧w1.heap.size≤w.heap.size∧w19.heap.size≤w.heap.size∧Ext w23 w∧KeepsFrom w26.heap.size w28 w∧BelI w0.heap.size w25.heap.size w26.heap.size w28 w∧Mks w0.heap.size D5 w) ?_ ?_
           ·
            refine cndR rfl (fun h33=>?_) (fun h33=>?_)
            ·
             have hB15:=ifp hB15 h33
             refine rgR rfl<|Zv (xld rfl ti3 ((Bx.cs B2).at 0 rfl))<|Zv (xadd rfl rfl)<|sst rfl rfl rfl ti3 B2 rfl rfl (ble rfl) fun w30 hch7 hb52=>?_
             have k65:=Ext.chg k60 hch7 (Nat.le_trans (Nat.le_refl _) hg9)
             have zs11:=Nat.le_trans zs9 (Nat.le_of_eq hch7.size.symm)
             have zs12:=Nat.le_trans zs10 (Nat.le_of_eq hch7.size.symm)
             have M28:=M27.chg hch7 B2.nd
             have kf7:=kf6.chgc hch7 (.inr B2.isc)
             have bi7:=bi6.chg hch7 (.inl hin2)
             have hb56:Bx w30 b13 3 [.int .i64 (w64 (y10 + 1))]:=hb52
             refine nl<|?_
             cases hB15
             refine lf<|?_
             exact ⟨hb56,l0_i6,l1_i6,l6_i6,l7_i6,l9_i6,l11_i6,rfl,rfl,l37_i6,l38_i6,l41_i6,l42_i6,l43_i6,l49_i6,l50_i6,l51_i6,zs11,zs12,k65,kf7,bi7,M28⟩
            ·
             have hB15:=ifn hB15 h33
             refine wpIn_skip<|?_
             cases hB15
             refine lf<|?_
             exact ⟨B2,l0_i6,l1_i6,l6_i6,l7_i6,l9_i6,l11_i6,rfl,rfl,l37_i6,l38_i6,l41_i6,l42_i6,l43_i6,l49_i6,l50_i6,l51_i6,zs9,zs10,k60,kf6,bi6,M27⟩
           rintro L w31 ⟨B15_j3,l0_j3,l1_j3,l6_j3,l7_j3,l9_j3,l11_j3,l14_j3,l15_j3,l37_j3,l38_j3,l41_j3,l42_j3,l43_j3,l49_j3,l50_j3,l51_j3,Z0_j3,Z1_j3,K0_j3,kf8,bi8,M29⟩
           exact ⟨kf8,bi8,⟨_,hB14,B15_j3,Z0_j3,Z1_j3,K0_j3,M29,(Nat.le_trans sz2 kf8.size)⟩⟩
          case done =>
           rintro D6 w32 hD2 ⟨y10,hB14,B15_j4,Z0_j4,Z1_j4,K0_j4,M26,_⟩ hk2
           rw [List.drop_length,scale_song_most_l5] at hB14
           cases hB14
           exact lfM (Mks.cons M25 M26 (Below.size k47) hD2 hk2) ⟨B15_j4,Z0_j4,Z1_j4,K0_j4,l0_i6,l1_i6,l6_i6,l7_i6,l9_i6,l11_i6,l12_i6,rfl,rfl,l37_i6,l38_i6,l41_i6,l42_i6,l43_i6,l49_i6,l50_i6,l51_i6⟩
          case stop =>
           rintro _ _ _ _ h _
           exact h.elim
         rintro L D7 w33 M30 ⟨B15_j5,Z0_j5,Z1_j5,K0_j5,l0_j5,l1_j5,l6_j5,l7_j5,l9_j5,l11_j5,l12_j5,l14_j5,l15_j5,l37_j5,l38_j5,l41_j5,l42_j5,l43_j5,l49_j5,l50_j5,l51_j5⟩
         have k72:=k36.tr K0_j5
         have o30:=o21.ext K0_j5
         have O20:=O9.ext K0_j5
         have hb62:=hb31.ext K0_j5
         have O21:=O8.ext K0_j5
         refine rg<|Zm<|Zv (xld l15_j5 ti3 ((Bx.cs B15_j5).at 0 rfl))<|Zv (xld l14_j5 ti2 ((Bx.cs hb62).at 0 rfl))<|Zv (xbdv (r:=[.int .i64 z5,.int .i64 x9]) ti423 sp423 (pc rfl (pc rfl pn)) rfl)<|sbsv (cs:=[.int .i64 z5,.int .i64 x9]) Tryz.underlying424 ti423 rfl (pc rfl pn) rfl rfl rfl rfl rfl fun b15 w34 hx14 hg11 hb63=>?_
         have k76:=k72.tr hx14
         have zs13:=Nat.le_trans Z0_j5 hx14.size
         have M31:=M30.ext hx14
         have o31:=o30.ext hx14
         have O22:=O21.ext hx14
         have O23:=O20.ext hx14
         have o32:Row (α:=(Int×Int)) 423 w33.heap.size w34 (.slice (some ⟨b15,0,none⟩) 1 1) [(z5,x9)]:=Row.lit hg11 hb63 rfl (ble rfl)
         have hz:=bs hB11; obtain ⟨x14,Ex14,hB11⟩:=hz
         refine sapx (l:=y7) (k:=([(z5,x9)]:List (Int×Int))) l12_j5 rfl Tryz.underlying424 ti423 rfl rfl O23 (RV.els o32.rv) Ex14 k76.size fun v14 w35 o33 hB18 hgr4 how3=>?_
         have k81:Ext w19 w35:=k76.trans hB18
         have X1:=Apart.app how3 X0_i6 O22.own_lt
         have X2:=Apart.app how3 X1_i6 o31.own_lt
         have zs15:=Nat.le_trans zs13 hgr4.size
         have M32:=M31.gr hgr4 (Row.nd O23)
         have hz:=RV.sl o33.rv; obtain ⟨a8,cq8,rfl,-,-,-⟩:=hz
         refine Za<|nl<|?_
         cases hB11
         refine lfM M32<|?_
         exact ⟨_,rfl,o33,X1,X2,l0_j5,l1_j5,l6_j5,l7_j5,l9_j5,l11_j5,l37_j5,l38_j5,l41_j5,l42_j5,l43_j5,l49_j5,l50_j5,l51_j5,zs15,k81⟩
       rintro L D8 w36 M33 ⟨v11,l12_j6,O12_j6,X0_j6,X1_j6,l0_j6,l1_j6,l6_j6,l7_j6,l9_j6,l11_j6,l37_j6,l38_j6,l41_j6,l42_j6,l43_j6,l49_j6,l50_j6,l51_j6,Z0_j6,K0_j6⟩
       have hz:=RV.sl O12_j6.rv; obtain ⟨a9,cq9,rfl,-,-,-⟩:=hz
       refine rg<|Zv (xadd l51_j6 rfl)<|Zm<|nl<|?_
       refine lqM m (Nat.lt_succ_self _) M33<|?_
       exact ⟨_,_,_,hB9,l12_j6,O12_j6,rfl,X0_j6,X1_j6,l0_j6,l1_j6,l6_j6,l7_j6,l9_j6,l11_j6,l37_j6,l38_j6,l41_j6,l42_j6,l43_j6,l49_j6,l50_j6,Z0_j6,K0_j6⟩
      ·
       have hB9:=ifn hB9 h24
       refine wp_exit<|?_
       cases hB9
       refine lfM M20<|?_
       exact ⟨_,l12_i6,O12_i6,X0_i6,X1_i6,l0_i6,l1_i6,l6_i6,l7_i6,l9_i6,l11_i6,l37_i6,l38_i6,l41_i6,l42_i6,l43_i6,Z0_i6,K0_i6⟩
     rintro L D9 w37 M34 ⟨v10,l12_j7,O12_j7,X0_j7,X1_j7,l0_j7,l1_j7,l6_j7,l7_j7,l9_j7,l11_j7,l37_j7,l38_j7,l41_j7,l42_j7,l43_j7,Z0_j7,K0_j7⟩
     have k84:=k25.tr K0_j7
     have Q18:=Q2.ext K0_j7
     have o36:=o15.ext K0_j7
     have hb70:=hb18.ext K0_j7
     have hb71:=hb19.ext K0_j7
     have O26:=O3.ext K0_j7
     have hz:=RV.sl O12_j7.rv; obtain ⟨a10,cq10,rfl,-,-,-⟩:=hz
     refine wpl [6] (.pure true 0 (.pure false 1 (.pure true 2 (.pure true 3 (.pure true 4 (.eff 5 (.eff 6 .fin .stop) .stop)))))) mixed (by kernel_rfl) (fun w38 hx15=>?_)
     have k86:=k84.tr hx15
     have zs17:=Nat.le_trans Z0_j7 hx15.size
     have M35:=M34.ext hx15
     have Q19:=Q18.ext hx15
     have hb72:=hb70.ext hx15
     have o37:=o36.ext hx15
     have hb73:=hb71.ext hx15
     have O27:=O26.ext hx15
     have O28:=O12_j7.ext hx15
     refine Zn rfl<|Zq rfl (fun _ hS=>xld l11_j7 ti2 ((Bx.cs (hb73.ext (hS.resolve_left nofun))).at 0 rfl)) (Ext.refl _)<|Zn rfl<|Zp rfl (fun _=>xbdv (r:=[.int .i64 x8,.int .i64 y2]) ti426 sp426 (pc rfl (pc l9_j7 pn)) rfl)<|Zn rfl<|?_
     have hz:=bs hB7; obtain ⟨x15,Ex15,hB7⟩:=hz
     refine pe1 rfl<|Zc (xc cb327 (mc l12_j7 (mc rfl mn))) (c327 O28.rv ⟨328,[],[],rfl,cb328,fun w' u x b hk hu hp=>c328 hu  hp⟩ Ex15) ?_
     rintro _ w39 ⟨u1,rfl,r42,hx16⟩
     have k89:=k86.tr hx16
     have zs18:=Nat.le_trans zs17 hx16.size
     have M36:=M35.ext hx16
     have Q20:=Q19.ext hx16
     have hb74:=hb72.ext hx16
     have o38:=o37.ext hx16
     have O29:=O27.ext hx16
     have hz:=id r42; obtain ⟨_,rfl,⟨_,_,rfl,rfl,rfl⟩⟩:=hz
     refine nl ⟨fun _ _=>hx16,?_⟩
     have hz:=bs hB7; obtain ⟨x16,Ex16,hB7⟩:=hz
     refine pe1 rfl<|smup (k:=(x8,y2)) (v:=x15) l6_j7 rfl rfl Tryz.underlying420 kt426 Q20 (kok_spec Ex16) fun w40 hch8 hm14=>?_
     have k92:=Ext.chg k89 hch8 (Nat.le_trans (Nat.le_refl _) hg1)
     have zs19:=Nat.le_trans zs18 (Nat.le_of_eq hch8.size.symm)
     have M37:=M36.chg hch8 Q20.nd
     have hb75:=Bx.chgm hb74 hch8 Q20
     have o39:=Row.chgm o38 hch8 Q20
     have o40:=Row.chgm O29 hch8 Q20
     refine nl ⟨fun h=>(h (by decide)).elim,?_⟩
     refine rg<|Zv (xadd l43_j7 rfl)<|Zm<|nl<|?_
     refine lqM m (Nat.lt_succ_self _) M37<|?_
     exact ⟨_,_,_,_,hB7,l41_j7,o40,rfl,hb75,o39,hm14,l0_j7,l1_j7,l6_j7,l7_j7,l9_j7,l37_j7,l38_j7,l42_j7,zs19,k92⟩
    ·
     have hB7:=ifn hB7 h19
     refine wp_exit<|?_
     cases hB7
     refine lfM M16<|?_
     exact ⟨B7_i3,F7c0_i3,Q9000_i3,l0_i3,l1_i3,l6_i3,l7_i3,l37_i3,l38_i3,Z0_i3,K0_i3⟩
   rintro L D10 w41 M38 ⟨B7_j8,F7c0_j8,Q9000_j8,l0_j8,l1_j8,l6_j8,l7_j8,l37_j8,l38_j8,Z0_j8,K0_j8⟩
   refine rg<|Zv (xadd l38_j8 rfl)<|Zm<|nl<|?_
   refine lqM m (Nat.lt_succ_self _) M38<|?_
   exact ⟨_,_,hB5,rfl,B7_j8,F7c0_j8,Q9000_j8,l0_j8,l1_j8,l6_j8,l7_j8,l37_j8,Z0_j8,K0_j8⟩
  ·
   have hB5:=ifn hB5 h17
   refine wp_exit<|?_
   cases hB5
   refine lfM M15<|?_
   exact ⟨Q9000_i2,l1_i2,l6_i2,Z0_i2,K0_i2⟩
 rintro L D11 w42 M39 ⟨Q9000_j9,l1_j9,l6_j9,Z0_j9,K0_j9⟩
 refine Zr<|Zm<|Zv (xbdv (r:=[.int .i64 (-1),.int .i64 x1]) ti426 sp426 (pc rfl (pc l1_j9 pn)) rfl)<|sal ti426 fun b16 w43 hx17 hg12 hb76=>?_
 have k93:=K0_j9.tr hx17
 have zs20:=Nat.le_trans Z0_j9 hx17.size
 have M40:=M39.ext hx17
 refine sst rfl rfl rfl ti426 hb76 rfl rfl (ble rfl) fun w44 hch9 hb77=>?_
 have k94:=Ext.chg k93 hch9 (Nat.le_trans K0_j9.size hg12)
 have k95:=Ext.chg hx17 hch9 (Nat.le_trans (Nat.le_refl _) hg12)
 have zs21:=Nat.le_trans zs20 (Nat.le_of_eq hch9.size.symm)
 have M41:=M40.chg hch9 hb76.nd
 have Q22:=Q9000_j9.ext k95
 have hb78:Bx w44 b16 426 [.int .i64 (-1),.int .i64 x1]:=hb77
 refine nl<|Zr<|Zm<|Zv (xlda rfl ti426 rfl (Bx.cs hb78))<|?_
 have hz:=bs hF; obtain ⟨x17,Ex17,hF⟩:=hz
 refine Zv (xlku (k:=((-1),x1)) (d:=(0,0)) Tryz.underlying420 kt426 (TI.zv ti423 rfl rfl _) Q22 (kok_spec Ex17) l6_j9 rfl)<|Zv (xfl (off:=0) (v:=.int .i64 ((mget (0,0) z2 ((-1),x1)).1)) rfl (by kernel_rfl) ti3 rfl)<|Za<|nl<|Zr<|Za<|nl<|wp_seq<|?_
 have o41:Row (α:=Int) 2 w44.heap.size w44 (.slice none 0 0) []:=Row.nil
 have hz:=bs hF; obtain ⟨⟨z6,z7⟩,hB22,hF⟩:=hz
 refine ctM w0.heap.size (fun L w=>∃ v16:Value,L 19=v16∧Row 2 w44.heap.size w v16 z6∧Mp w b3 z7∧L 18=.int .i64 ((mget (0,0) z2 ((-1),x1)).1)∧w44.heap.size≤w.heap.size∧w1.heap.size≤w.heap.size∧Ext w0 w) ?_ ?_
 ·
  refine wp_block<|lpM w0.heap.size (I:=fun m L w=>∃ y12:(List Int),∃ y13:(Int×Int),∃ y14:(List ((Int×Int)×(Int×Int))),∃ v15:Value,scale_song_most_l6 F m y12 y13 y14 =some (z6,z7)∧L 19=v15∧Row 2 w44.heap.size w v15 y12∧Bx w b16 426 (Flat.enc y13)∧Mp w b3 y14∧L 6=.map (some b3)∧L 17=.pointer (some ⟨b16,0,none⟩)∧L 18=.int .i64 ((mget (0,0) z2 ((-1),x1)).1)∧w44.heap.size≤w.heap.size∧w1.heap.size≤w.heap.size∧Ext w0 w) F M41 ⟨_,_,_,_,hB22,rfl,o41,hb78,Q22,l6_j9,rfl,rfl,(Nat.le_refl _),zs21,k94⟩ ?_
  rintro m L D12 w45 M42 ⟨y12,y13,y14,v15,hB22,l19_i10,O19_i10,B17_i10,Q9000_i10,l6_i10,l17_i10,l18_i10,Z0_i10,Z1_i10,K0_i10⟩
  rcases m with _ | m
  ·rw [scale_song_most_l6] at hB22; cases hB22
  rw [scale_song_most_l6] at hB22
  have hz:=RV.sl O19_i10.rv; obtain ⟨a11,cq11,rfl,-,-,-⟩:=hz
  refine wp_seq<|Zr<|Zm<|Zv (xlda l17_i10 ti426 rfl (Bx.cs B17_i10))<|?_
  have hz:=bs hB22; obtain ⟨x18,Ex18,hB22⟩:=hz
  refine Zv (xlku (k:=(y13.1,y13.2)) (d:=(0,0)) Tryz.underlying420 kt426 (TI.zv ti423 rfl rfl _) Q9000_i10 (kok_spec Ex18) l6_i10 rfl)<|Zv (xbdv (r:=[.int .i64 0,.int .i64 (-1)]) ti423 sp423 (pc rfl (pc rfl pn)) rfl)<|Zv (xagn (α:=(Int×Int)) (a:=(mget (0,0) y14 (y13.1,y13.2))) (b:=(0,(-1))) rfl eg423 eq423 rfl rfl rfl rfl rfl)<|nl<|cnd rfl (fun h45=>?_) (fun h45=>?_)
  ·
   have hB22:=ifp hB22 h45
   refine wp_skip<|wp_block<|wp_seq<|wpl [] (.pure true 0 (.pure false 1 (.pure false 2 (.pure true 3 (.pure true 4 (.pure false 5 (.pure true 6 (.pure true 7 (.eff 8 (.eff 9 .fin .stop) .stop))))))))) mixed (by kernel_rfl) (fun w46 hx18=>?_)
   have k96:=K0_i10.tr hx18
   have zs22:=Nat.le_trans Z0_i10 hx18.size
   have zs23:=Nat.le_trans Z1_i10 hx18.size
   have M43:=M42.ext hx18
   have Q23:=Q9000_i10.ext hx18
   have B3:=B17_i10.ext hx18
   have O30:=O19_i10.ext hx18
   refine Zn rfl<|Zq rfl (fun _ hS=>xlda l17_i10 ti426 rfl (Bx.cs (B3.ext (hS.resolve_left nofun)))) (Ext.refl _)<|?_
   have hz:=bs hB22; obtain ⟨x19,Ex19,hB22⟩:=hz
   refine Zq rfl (fun _ hS=>xlku (k:=(y13.1,y13.2)) (d:=(0,0)) Tryz.underlying420 kt426 (TI.zv ti423 rfl rfl _) (Q23.ext (hS.resolve_left nofun)) (kok_spec Ex19) l6_i10 rfl) (Ext.refl _)<|Zp rfl (fun _=>xfl (off:=1) (v:=.int .i64 ((mget (0,0) y14 (y13.1,y13.2)).2)) rfl (by kernel_rfl) ti2 rfl)<|Zp rfl (fun _=>xfa l17_i10 fa426_1)<|Zq rfl (fun _ hS=>xld rfl ti3 ((Bx.cs (B3.ext (hS.resolve_left nofun))).at 1 rfl)) (Ext.refl _)<|Zp rfl (fun _=>xsub rfl rfl)<|Zp rfl (fun _=>xbdv (r:=[.int .i64 ((mget (0,0) y14 (y13.1,y13.2)).2),.int .i64 (w64 (y13.2 - 1))]) ti426 sp426 (pc rfl (pc rfl pn)) rfl)<|pe1 rfl<|sal ti426 fun b17 w47 hx19 hg13 hb79=>?_
   have k97:=k96.tr hx19
   have zs24:=Nat.le_trans zs22 hx19.size
   have zs25:=Nat.le_trans zs23 hx19.size
   have M44:=M43.ext hx19
   refine nl ⟨fun _ _=>hx19,?_⟩
   refine pe1 rfl<|sst rfl rfl rfl ti426 hb79 rfl rfl (ble rfl) fun w48 hch10 hb80=>?_
   have k98:=Ext.chg k97 hch10 (Nat.le_trans k96.size hg13)
   have k99:=Ext.chg hx19 hch10 (Nat.le_trans (Nat.le_refl _) hg13)
   have zs26:=Nat.le_trans zs24 (Nat.le_of_eq hch10.size.symm)
   have zs27:=Nat.le_trans zs25 (Nat.le_of_eq hch10.size.symm)
   have M45:=M44.chg hch10 hb79.nd
   have Q25:=Q23.ext k99
   have B5:=B3.ext k99
   have O32:=O30.ext k99
   have hb81:Bx w48 b17 426 [.int .i64 ((mget (0,0) y14 (y13.1,y13.2)).2),.int .i64 (w64 (y13.2 - 1))]:=hb80
   refine nl ⟨fun _ _=>k99,?_⟩
   refine Zr<|Zm<|Zv (xlda l17_i10 ti426 rfl (Bx.cs B5))<|?_
   have hz:=bs hB22; obtain ⟨x20,Ex20,hB22⟩:=hz
   refine smdn (k:=(y13.1,y13.2)) l6_i10 rfl Tryz.underlying420 kt426 Q25 (kok_spec Ex20) fun w49 hch11 hm15=>?_
   have k100:=Ext.chg k98 hch11 (Nat.le_trans (Nat.le_refl _) hg1)
   have zs28:=Nat.le_trans zs26 (Nat.le_of_eq hch11.size.symm)
   have zs29:=Nat.le_trans zs27 (Nat.le_of_eq hch11.size.symm)
   have M46:=M45.chg hch11 Q25.nd
   have hb82:=Bx.chgm B5 hch11 Q25
   have hb83:=Bx.chgm hb81 hch11 Q25
   have o43:=Row.chgm O32 hch11 Q25
   refine nl<|Zr<|Zm<|Zv (xfa rfl fa426_0)<|Zv (xld rfl ti2 ((Bx.cs hb83).at 0 rfl))<|sbsv (cs:=[.int .i64 ((mget (0,0) y14 (y13.1,y13.2)).2)]) Tryz.underlying28 ti2 rfl (pc rfl pn) rfl rfl rfl rfl rfl fun b18 w50 hx20 hg14 hb84=>?_
   have k101:=k100.tr hx20
   have zs30:=Nat.le_trans zs28 hx20.size
   have zs31:=Nat.le_trans zs29 hx20.size
   have M47:=M46.ext hx20
   have hm16:=hm15.ext hx20
   have B6:=hb82.ext hx20
   have hb85:=hb83.ext hx20
   have O33:=o43.ext hx20
   have o44:Row (α:=Int) 2 w49.heap.size w50 (.slice (some ⟨b18,0,none⟩) 1 1) [(mget (0,0) y14 (y13.1,y13.2)).2]:=Row.lit hg14 hb84 rfl (ble rfl)
   have hz:=bs hB22; obtain ⟨x21,Ex21,hB22⟩:=hz
   refine sapx (l:=y12) (k:=([(mget (0,0) y14 (y13.1,y13.2)).2]:List Int)) l19_i10 rfl Tryz.underlying28 ti2 rfl rfl O33 (RV.els o44.rv) Ex21 zs30 fun v17 w51 o45 hB24 hgr5 how4=>?_
   have k102:=Ext.grow k101 k94.size hB24
   have zs32:=Nat.le_trans zs30 hgr5.size
   have zs33:=Nat.le_trans zs31 hgr5.size
   have M48:=M47.gr hgr5 (Row.nd O33)
   have hm17:=Mp.grr hm16 hgr5 O33
   have ne4:=ne_app how4 (O33.ne_old hb78.lt) B6.lt
   have hb86:=Bx.gr B6 hgr5 (O33.ne_old hb78.lt)
   have hb87:=Bx.gr hb85 hgr5 (O30.ne_new hg13)
   have hz:=RV.sl o45.rv; obtain ⟨a12,cq12,rfl,-,-,-⟩:=hz
   refine Za<|nl<|rg<|Zv (xlda rfl ti426 rfl (Bx.cs hb87))<|sst l17_i10 rfl rfl ti426 hb86 rfl rfl (ble rfl) fun w52 hch12 hb88=>?_
   have k103:=Ext.chg k102 hch12 (Nat.le_trans (Nat.le_refl _) (Nat.le_trans K0_j9.size hg12))
   have zs34:=Nat.le_trans zs32 (Nat.le_of_eq hch12.size.symm)
   have zs35:=Nat.le_trans zs33 (Nat.le_of_eq hch12.size.symm)
   have M49:=M48.chg hch12 hb86.nd
   have hm18:=Mp.chgb hm17 hch12 hb86
   have o46:=Row.chgn o45 hch12 ne4
   have hb89:Bx w52 b16 426 [.int .i64 ((mget (0,0) y14 (y13.1,y13.2)).2),.int .i64 (w64 (y13.2 - 1))]:=hb88
   refine nl<|?_
   refine lqM m (Nat.lt_succ_self _) M49<|?_
   exact ⟨_,_,_,_,hB22,rfl,o46,hb89,hm18,l6_i10,l17_i10,l18_i10,zs34,zs35,k103⟩
  ·
   have hB22:=ifn hB22 h45
   refine wp_exit<|?_
   cases hB22
   refine lfM M42<|?_
   exact ⟨_,l19_i10,O19_i10,Q9000_i10,l18_i10,Z0_i10,Z1_i10,K0_i10⟩
 rintro L D13 w53 M50 ⟨v16,l19_j10,O19_j10,Q9000_j10,l18_j10,Z0_j10,Z1_j10,K0_j10⟩
 have hz:=RV.sl O19_j10.rv; obtain ⟨a13,cq13,rfl,-,-,-⟩:=hz
 refine Zr<|Zm<|Zm<|Za<|Za<|nl<|wp_ret<|rtMs rfl M50 fun w54 hT1=>?_
 have k104:Ext w0 w54:=Below.tak K0_j10 hT1 (Nat.le_refl _)
 have O34:=O19_j10.tak hT1
 cases hF
 exact ⟨_,(.tmp l19_j10 rfl (.tmp l18_j10 rfl .nil)),⟨_,rfl,O34.rv,k104⟩⟩
theorem c192 {w0:World} {v0:Value} {x0:(List (Int×Int))} (r0:RV w0 v0 x0) {x1:Int} {F:Nat} {r:((List Int)×Int×Int)} (hF:scale_Most F x0 x1=some r) :
  Calls Tryz.prog 192 [v0,.int .i64 x1].toArray w0 (Ret fun v w'=>∃ u0:Value,v=.tuple #[u0,.int .i64 r.2.1,.int .i64 r.2.2]∧RV w' u0 r.1∧Ext w0 w'):=by
 unfold scale_Most at hF
 have hz:=r0.sl; obtain ⟨a1,cq1,rfl,-,-,-⟩:=hz
 refine entr (n:=30) Tryz.func192 rfl rfl rfl<|Zr<|Za<|Za<|Za<|nl<|wp_seq<|Zr<|Zm<|?_
 have hz:=bs hF; obtain ⟨x3,Ex3,hF⟩:=hz
 refine Zc (xc cb95 (mc rfl mn)) (c95 r0 Ex3) ?_
 rintro _ w1 ⟨rfl,hx1⟩
 have r3:=r0.ext hx1
 refine Za<|nl<|Zr<|Zm<|Zv (xneq rfl rfl)<|nl<|cnd rfl (fun h3=>?_) (fun h3=>?_)
 ·
  have hF:=ifp hF h3
  refine Zr<|Zm<|Za<|Za<|Za<|nl<|?_
  cases hF
  exact wp_ret<|rt rfl (.tmp rfl rfl (.tmp rfl rfl (.tmp rfl rfl .nil))) ⟨_,rfl,(RVo.nil (Nat.zero_le _)),hx1⟩
 ·
  have hF:=ifn hF h3
  refine wp_skip<|wp_seq<|Zr<|Zm<|Zv (xlss rfl rfl)<|Zm<|Zg rfl rfl (gw0 rfl) (fun hc=>xmva rfl)<|Zg rfl rfl (gw0 rfl) (fun hc=>xgtr (mv hc rfl) rfl)<|Zv (xpo rfl rfl rfl)<|nl<|cnd rfl (fun h4=>?_) (fun h4=>?_)
  ·
   have hF:=ifp hF h4
   refine Zr<|Za<|Za<|Za<|nl<|?_
   cases hF
   exact wp_ret<|rt rfl (.tmp rfl rfl (.tmp rfl rfl (.tmp rfl rfl .nil))) ⟨_,rfl,(RVo.nil (Nat.zero_le _)),hx1⟩
  ·
   have hF:=ifn hF h4
   refine wp_skip<|Zr<|Zm<|?_
   have hz:=bs hF; obtain ⟨x4,Ex4,hF⟩:=hz
   refine Zc (xc cb96 (mc rfl mn)) (c96 r3 Ex4) ?_
   rintro _ w2 ⟨u1,rfl,r4,hx2⟩
   have k1:=hx1.tr hx2
   have hz:=obPtr r4; obtain ⟨a2,rfl⟩:=hz
   refine Zm<|?_
   have hz:=bs hF; obtain ⟨x5,Ex5,hF⟩:=hz
   have hz:=obGet r4 Ex5; obtain ⟨b3,cs3,e1,q3,hc1⟩:=hz
   cases e1
   obtain ⟨a3,cq2,rfl,p1,q4,e2⟩:=q3
   have r5:=RV.of1 p1 q4 e2
   have hz:=bs hF; obtain ⟨x6,Ex6,hF⟩:=hz
   refine Zc (xc cb276 (mc rfl (mc rfl mn))) (c276 (x0:=(⟨x5.v⟩:(Uno (List ((Int×Int)×Int))))) hc1 r5.rep1 Ex6) ?_
   rintro _ w3 ⟨u2,rfl,r6,hx3⟩
   have k2:=k1.tr hx3
   have hz:=RV.sl r6; obtain ⟨a4,cq3,rfl,-,-,-⟩:=hz
   refine Zm<|Zv (xext rfl rfl)<|Zv (xext rfl rfl)<|Za<|Za<|nl<|Zr<|Zm<|Zm<|Za<|Za<|Za<|nl<|?_
   cases hF
   exact wp_ret<|rt rfl (.tmp rfl rfl (.tmp rfl rfl (.tmp rfl rfl .nil))) ⟨_,rfl,r6,k2⟩
end Go.Proofs.YtfmelbioccbdoaaGreat
end
section
namespace Go.Proofs.YtfmelbioccbdoaaGreat
open Go Go.Md Go.RowKit
attribute [local irreducible] Go.wpList Go.Code.wp Go.Calls Go.Md.Rnd Go.Md.Mt Go.Md.MtM Go.Md.RndM Go.Code.wpIn
theorem c88 {w0:World}  {F:Nat} {r:Bool} (hF:law03_Works F=some r) :
  Calls Tryz.prog 88 [].toArray w0 (Ret fun v w'=>v=.bool r∧Ext w0 w'):=by
 unfold law03_Works at hF
 refine entr (n:=147) Tryz.func88 rfl rfl rfl<|Zr<|Za<|nl<|Zr<|?_
 have hz:=bs hF; obtain ⟨x1,Ex1,hF⟩:=hz
 refine Zc (xc cb190 mn) (c190 Ex1) ?_
 rintro _ w1 ⟨u1,rfl,r1,hx1⟩
 have hz:=RV.sl r1; obtain ⟨a1,cq1,rfl,-,-,-⟩:=hz
 refine Za<|nl<|Zr<|Zm<|sbsv (cs:=[.int .i64 130,.int .i64 200,.int .i64 320]) Tryz.underlying28 ti2 rfl (pc rfl (pc rfl (pc rfl pn))) rfl rfl rfl rfl rfl fun b1 w2 hx2 hg1 hb1=>?_
 have k1:=hx1.tr hx2
 have r2:=r1.ext hx2
 have o1:Row (α:=Int) 2 w1.heap.size w2 (.slice (some ⟨b1,0,none⟩) 3 3) [130,200,320]:=Row.lit hg1 hb1 rfl (ble rfl)
 have hz:=bs hF; obtain ⟨x2,Ex2,hF⟩:=hz
 refine Zc (xc cb22 (mc rfl (mc rfl mn))) (c22 r2 o1.rv Ex2) ?_
 rintro _ w3 ⟨rfl,hx3⟩
 have k2:=k1.tr hx3
 have k3:=hx2.tr hx3
 have r4:=r2.ext hx3
 refine Za<|nl<|Zr<|Zm<|sbsv (cs:=[.int .i64 130,.int .i64 320]) Tryz.underlying28 ti2 rfl (pc rfl (pc rfl pn)) rfl rfl rfl rfl rfl fun b2 w4 hx4 hg2 hb2=>?_
 have k4:=k2.tr hx4
 have k5:=k3.tr hx4
 have r5:=r4.ext hx4
 have o2:Row (α:=Int) 2 w3.heap.size w4 (.slice (some ⟨b2,0,none⟩) 2 2) [130,320]:=Row.lit hg2 hb2 rfl (ble rfl)
 have hz:=bs hF; obtain ⟨x3,Ex3,hF⟩:=hz
 refine Zc (xc cb22 (mc rfl (mc rfl mn))) (c22 r5 o2.rv Ex3) ?_
 rintro _ w5 ⟨rfl,hx5⟩
 have k6:=k4.tr hx5
 have k7:=k5.tr hx5
 have r7:=r5.ext hx5
 refine Za<|nl<|Zr<|Zm<|?_
 have hz:=bs hF; obtain ⟨x4,Ex4,hF⟩:=hz
 refine Zc (xc cb21 (mc rfl mn)) (c21 r7 Ex4) ?_
 rintro _ w6 ⟨u2,rfl,r8,hx6⟩
 have k9:=k6.tr hx6
 have k10:=k7.tr hx6
 have r9:=r7.ext hx6
 have hz:=RV.sl r8; obtain ⟨a2,cq2,rfl,-,-,-⟩:=hz
 refine Zm<|Zv (xext rfl rfl)<|Zv (xext rfl rfl)<|Za<|Za<|nl<|Zr<|Zm<|?_
 have hz:=bs hF; obtain ⟨x5,Ex5,hF⟩:=hz
 refine Zc (xc cb191 (mc rfl mn)) (c191 r9 Ex5) ?_
 rintro _ w7 ⟨u3,rfl,r10,hx7⟩
 have k12:=k9.tr hx7
 have k13:=k10.tr hx7
 have r11:=r9.ext hx7
 have r12:=r8.ext hx7
 have hz:=RV.sl r10; obtain ⟨a3,cq3,rfl,-,-,-⟩:=hz
 refine Zm<|Zv (xext rfl rfl)<|Zv (xext rfl rfl)<|Za<|Za<|nl<|Zr<|Zm<|?_
 have hz:=bs hF; obtain ⟨x6,Ex6,hF⟩:=hz
 refine Zc (xc cb34 (mc rfl (mc rfl (mc rfl mn)))) (c34 r11 Ex6) ?_
 rintro _ w8 ⟨u4,rfl,r13,hx8⟩
 have k15:=k12.tr hx8
 have k16:=k13.tr hx8
 have r14:=r11.ext hx8
 have r15:=r12.ext hx8
 have r16:=r10.ext hx8
 have hz:=id r13; obtain ⟨_,rfl,⟨_,_,rfl,rfl,rfl⟩⟩:=hz
 refine Zm<|Zv (xext rfl rfl)<|Zv (xext rfl rfl)<|sal ti68 fun b3 w9 hx9 hg3 hb3=>?_
 have k18:=k15.tr hx9
 have k19:=k16.tr hx9
 refine sst rfl rfl rfl ti68 hb3 rfl rfl (ble rfl) fun w10 hch1 hb4=>?_
 have k21:=Ext.chg k18 hch1 (Nat.le_trans k15.size hg3)
 have k22:=Ext.chg k19 hch1 (Nat.le_trans k16.size hg3)
 have k24:=Ext.chg hx9 hch1 (Nat.le_trans (Nat.le_refl _) hg3)
 have r21:=r14.ext k24
 have r22:=r15.ext k24
 have r23:=r16.ext k24
 have hb5:Bx w10 b3 68 [.bool x6.1.1,.bool x6.1.2]:=hb4
 refine Za<|nl<|Zr<|Zm<|?_
 have hz:=bs hF; obtain ⟨x7,Ex7,hF⟩:=hz
 have hz:=slh r1 Ex7 Tryz.underlying32 ti35; obtain ⟨a4,cq4,r24,hr1⟩:=hz
 have r25:=r24.ext k22
 refine Zv (hr1 _ _ _ _ _ _ _ _ _ _ rfl rfl)<|?_
 have hz:=bs hF; obtain ⟨x8,Ex8,hF⟩:=hz
 refine Zc (xc cb34 (mc rfl (mc rfl (mc rfl mn)))) (c34 r25 Ex8) ?_
 rintro _ w11 ⟨u5,rfl,r26,hx10⟩
 have k25:=k21.tr hx10
 have hb6:=hb5.ext hx10
 have r27:=r21.ext hx10
 have r28:=r22.ext hx10
 have r29:=r23.ext hx10
 have hz:=id r26; obtain ⟨_,rfl,⟨_,_,rfl,rfl,rfl⟩⟩:=hz
 refine Zm<|Zv (xext rfl rfl)<|Zv (xext rfl rfl)<|sal ti68 fun b4 w12 hx11 hg4 hb7=>?_
 have k29:=k25.tr hx11
 refine sst rfl rfl rfl ti68 hb7 rfl rfl (ble rfl) fun w13 hch2 hb9=>?_
 have k33:=Ext.chg k29 hch2 (Nat.le_trans k25.size hg4)
 have k37:=Ext.chg hx11 hch2 (Nat.le_trans (Nat.le_refl _) hg4)
 have hb10:=hb6.ext k37
 have r34:=r27.ext k37
 have r35:=r28.ext k37
 have r36:=r29.ext k37
 have hb11:Bx w13 b4 68 [.bool x8.1.1,.bool x8.1.2]:=hb9
 refine Za<|nl<|Zr<|Zm<|?_
 have hz:=bs hF; obtain ⟨x9,Ex9,hF⟩:=hz
 refine Zc (xc cb20 (mc rfl mn)) (c20 r34 Ex9) ?_
 rintro _ w14 ⟨u6,rfl,r37,hx12⟩
 have k38:=k33.tr hx12
 have hb12:=hb10.ext hx12
 have hb13:=hb11.ext hx12
 have r38:=r34.ext hx12
 have r39:=r35.ext hx12
 have r40:=r36.ext hx12
 have hz:=RV.sl r37; obtain ⟨a5,cq5,rfl,-,-,-⟩:=hz
 refine Zm<|Zv (xext rfl rfl)<|Zv (xext rfl rfl)<|Za<|Za<|nl<|Zr<|Zm<|?_
 have hz:=bs hF; obtain ⟨x10,Ex10,hF⟩:=hz
 refine Zc (xc cb192 (mc rfl (mc rfl mn))) (c192 r38 Ex10) ?_
 rintro _ w15 ⟨u7,rfl,r41,hx13⟩
 have k43:=k38.tr hx13
 have hb14:=hb12.ext hx13
 have hb15:=hb13.ext hx13
 have r42:=r38.ext hx13
 have r43:=r39.ext hx13
 have r44:=r40.ext hx13
 have r45:=r37.ext hx13
 have hz:=RV.sl r41; obtain ⟨a6,cq6,rfl,-,-,-⟩:=hz
 refine Zm<|Zv (xext rfl rfl)<|Zv (xext rfl rfl)<|Zv (xext rfl rfl)<|Za<|Za<|Za<|nl<|Zr<|Zm<|sbsv (cs:=[.int .i64 130,.int .i64 320]) Tryz.underlying28 ti2 rfl (pc rfl (pc rfl pn)) rfl rfl rfl rfl rfl fun b5 w16 hx14 hg5 hb16=>?_
 have k48:=k43.tr hx14
 have hb17:=hb14.ext hx14
 have hb18:=hb15.ext hx14
 have r46:=r42.ext hx14
 have r47:=r43.ext hx14
 have r48:=r44.ext hx14
 have r49:=r45.ext hx14
 have o3:Row (α:=Int) 2 w15.heap.size w16 (.slice (some ⟨b5,0,none⟩) 2 2) [130,320]:=Row.lit hg5 hb16 rfl (ble rfl)
 have hz:=bs hF; obtain ⟨x11,Ex11,hF⟩:=hz
 refine Zc (xc cb193 (mc rfl (mc rfl mn))) (c193 r46 o3.rv Ex11) ?_
 rintro _ w17 ⟨u8,rfl,r51,hx15⟩
 have k53:=k48.tr hx15
 have hb19:=hb17.ext hx15
 have hb20:=hb18.ext hx15
 have r52:=r46.ext hx15
 have r53:=r47.ext hx15
 have r54:=r48.ext hx15
 have r55:=r49.ext hx15
 have hz:=RV.sl r51; obtain ⟨a7,cq7,rfl,-,-,-⟩:=hz
 refine Zm<|Zv (xext rfl rfl)<|Zv (xext rfl rfl)<|Za<|Za<|nl<|wp_seq<|?_
 have hz:=bs hF; obtain ⟨y1,hB1,hF⟩:=hz
 refine ct (fun L w=>L 0=.bool y1∧Ext w17 w) ?_ ?_
 ·
  refine rg<|Zm<|Zv (xeql rfl rfl)<|Zm<|?_
  have hz:=ifs hB1; obtain ⟨h1,hB1⟩:=hz
  refine gtk rfl rfl rfl rfl rfl (bt h1)<|Zm<|gtk rfl rfl rfl rfl rfl (bt h1)<|Zv (xeql rfl rfl)<|Zv (xpt rfl h1 rfl)<|Zm<|?_
  have hz:=ifs hB1; obtain ⟨h2,hB1⟩:=hz
  refine gtk rfl rfl rfl rfl rfl (bt h2)<|Zm<|gtk rfl rfl rfl rfl rfl (bt h2)<|Zv (xeql rfl rfl)<|Zv (xpt rfl h2 rfl)<|Zm<|?_
  have hz:=ifs hB1; obtain ⟨h3,hB1⟩:=hz
  refine gtk rfl rfl rfl rfl rfl (bt h3)<|Zm<|gtk rfl rfl rfl rfl rfl (bt h3)<|Zv (xeql rfl rfl)<|Zv (xpt rfl h3 rfl)<|Zm<|?_
  have hz:=ifs hB1; obtain ⟨h4,hB1⟩:=hz
  refine gtk rfl rfl rfl rfl rfl (bt h4)<|Zm<|gtk rfl rfl rfl rfl rfl (bt h4)<|Zv (xeql rfl rfl)<|Zv (xpt rfl h4 rfl)<|Zm<|?_
  have hz:=ifs hB1; obtain ⟨h5,hB1⟩:=hz
  refine gtk rfl rfl rfl rfl rfl (bt h5)<|Zm<|gtk rfl rfl rfl rfl rfl (bt h5)<|Zv (xeql rfl rfl)<|Zv (xpt rfl h5 rfl)<|Zm<|?_
  have hz:=ifs hB1; obtain ⟨h6,hB1⟩:=hz
  refine gtk rfl rfl rfl rfl rfl (bt h6)<|Zm<|gtk rfl rfl rfl rfl rfl (bt h6)<|Zv (xeql rfl rfl)<|Zv (xpt rfl h6 rfl)<|Zm<|?_
  have hz:=ifs hB1; obtain ⟨h7,hB1⟩:=hz
  refine gtk rfl rfl rfl rfl rfl (bt h7)<|Zm<|gtk rfl rfl rfl rfl rfl (bt h7)<|Zv (xeql rfl rfl)<|Zv (xpt rfl h7 rfl)<|Zm<|?_
  have hz:=ifs hB1; obtain ⟨h8,hB1⟩:=hz
  refine gtk rfl rfl rfl rfl rfl (bt h8)<|Zm<|gtk rfl rfl rfl rfl rfl (bt h8)<|Zv (xeql rfl rfl)<|Zv (xpt rfl h8 rfl)<|Zm<|?_
  have hz:=ifs hB1; obtain ⟨h9,hB1⟩:=hz
  refine gtk rfl rfl rfl rfl rfl (bt h9)<|Zm<|gtk rfl rfl rfl rfl rfl (bt h9)<|Zv (xlen rfl Tryz.underlying41)<|gtk rfl rfl rfl rfl rfl (bt h9)<|Zv (xeql rfl rfl)<|Zv (xpt rfl h9 rfl)<|Zm<|?_
  have hz:=ifs hB1; obtain ⟨h10,hB1⟩:=hz
  refine gtk rfl rfl rfl rfl rfl (bt h10)<|Zm<|gtk rfl rfl rfl rfl rfl (bt h10)<|Zm<|?_
  have hz:=bs hB1; obtain ⟨x12,Ex12,hB1⟩:=hz
  refine gtk rfl rfl rfl rfl rfl (bt h10)<|Zc (xc cb66 (mc rfl (mc rfl mn))) (c66 r52 r53 Ex12) ?_
  rintro _ w18 ⟨rfl,hx16⟩
  have hb21:=hb19.ext hx16
  have hb22:=hb20.ext hx16
  have r56:=r52.ext hx16
  have r57:=r54.ext hx16
  have r58:=r55.ext hx16
  have r59:=r51.ext hx16
  refine gtk rfl rfl rfl rfl rfl (bt h10)<|Zv (xeql rfl rfl)<|Zv (xpt rfl h10 rfl)<|Zm<|?_
  have hz:=ifs hB1; obtain ⟨h11,hB1⟩:=hz
  refine gtk rfl rfl rfl rfl rfl (bt h11)<|Zm<|?_
  have hz:=bs hB1; obtain ⟨x13,Ex13,hB1⟩:=hz
  refine gtk rfl rfl rfl rfl rfl (bt h11)<|Zc (xc cb195 (mc rfl (mc rfl mn))) (c195 Ex13) ?_
  rintro _ w19 ⟨u9,rfl,r60,hx17⟩
  have k71:=hx16.tr hx17
  have hb23:=hb21.ext hx17
  have hb24:=hb22.ext hx17
  have r61:=r56.ext hx17
  have r62:=r58.ext hx17
  have r63:=r59.ext hx17
  have r64:=r57.ext hx17
  have hz:=id r60; obtain ⟨_,rfl,⟨_,_,rfl,rfl,rfl⟩⟩:=hz
  have hz:=bs hB1; obtain ⟨x14,Ex14,hB1⟩:=hz
  refine gtk rfl rfl rfl rfl rfl (bt h11)<|Zc (xc cb195 (mc rfl (mc rfl mn))) (c195 Ex14) ?_
  rintro _ w20 ⟨u10,rfl,r65,hx18⟩
  have k78:=k71.tr hx18
  have hb25:=hb23.ext hx18
  have hb26:=hb24.ext hx18
  have r66:=r61.ext hx18
  have r67:=r62.ext hx18
  have r68:=r63.ext hx18
  have r69:=r64.ext hx18
  have hz:=id r65; obtain ⟨_,rfl,⟨_,_,rfl,rfl,rfl⟩⟩:=hz
  have hz:=bs hB1; obtain ⟨x15,Ex15,hB1⟩:=hz
  refine gtk rfl rfl rfl rfl rfl (bt h11)<|Zc (xc cb195 (mc rfl (mc rfl mn))) (c195 Ex15) ?_
  rintro _ w21 ⟨u11,rfl,r71,hx19⟩
  have k85:=k78.tr hx19
  have hb27:=hb25.ext hx19
  have hb28:=hb26.ext hx19
  have r72:=r66.ext hx19
  have r73:=r67.ext hx19
  have r74:=r68.ext hx19
  have r75:=r69.ext hx19
  have hz:=id r71; obtain ⟨_,rfl,⟨_,_,rfl,rfl,rfl⟩⟩:=hz
  refine gtk rfl rfl rfl rfl rfl (bt h11)<|sbsv (cs:=[.int .i64 x13.1,.int .i64 x13.2,.int .i64 x14.1,.int .i64 x14.2,.int .i64 x15.1,.int .i64 x15.2]) Tryz.underlying32 ti35 rfl (pc rfl (pc rfl (pc rfl pn))) rfl rfl rfl rfl rfl fun b6 w22 hx20 hg6 hb29=>?_
  have k92:=k85.tr hx20
  have hb30:=hb27.ext hx20
  have hb31:=hb28.ext hx20
  have r78:=r72.ext hx20
  have r79:=r73.ext hx20
  have r80:=r74.ext hx20
  have r81:=r75.ext hx20
  have o4:Row (α:=(Int×Int)) 35 w21.heap.size w22 (.slice (some ⟨b6,0,none⟩) 3 3) [x13,x14,x15]:=Row.lit hg6 hb29 rfl (ble rfl)
  have hz:=bs hB1; obtain ⟨x16,Ex16,hB1⟩:=hz
  refine gtk rfl rfl rfl rfl rfl (bt h11)<|Zc (xc cb194 (mc rfl (mc rfl mn))) (c194 r81 o4.rv Ex16) ?_
  rintro _ w23 ⟨rfl,hx21⟩
  have k99:=k92.tr hx21
  have hb32:=hb30.ext hx21
  have hb33:=hb31.ext hx21
  have r83:=r78.ext hx21
  have r84:=r79.ext hx21
  have r85:=r80.ext hx21
  refine Zv (xpt rfl h11 rfl)<|Zm<|?_
  have hz:=ifs hB1; obtain ⟨h12,hB1⟩:=hz
  refine gtk rfl rfl rfl rfl rfl (bt h12)<|Zv (xlda rfl ti68 rfl (Bx.cs hb32))<|gtk rfl rfl rfl rfl rfl (bt h12)<|Zv (xbdv (r:=[.bool true,.bool false]) ti68 sp68 (pc rfl pn) rfl)<|gtk rfl rfl rfl rfl rfl (bt h12)<|Zv (xage (α:=(Bool×Bool)) (a:=(x6.1.1,x6.1.2)) (b:=(true,false)) rfl eg68 eq68 rfl rfl rfl rfl rfl)<|Zv (xpt rfl h12 rfl)<|Zm<|?_
  have hz:=ifs hB1; obtain ⟨h13,hB1⟩:=hz
  refine gtk rfl rfl rfl rfl rfl (bt h13)<|Zv (xlda rfl ti68 rfl (Bx.cs hb33))<|gtk rfl rfl rfl rfl rfl (bt h13)<|Zv (xbdv (r:=[.bool true,.bool true]) ti68 sp68 (pc rfl (pc rfl pn)) rfl)<|gtk rfl rfl rfl rfl rfl (bt h13)<|Zv (xage (α:=(Bool×Bool)) (a:=(x8.1.1,x8.1.2)) (b:=(true,true)) rfl eg68 eq68 rfl rfl rfl rfl rfl)<|Zv (xpt rfl h13 rfl)<|Zm<|?_
  have hz:=ifs hB1; obtain ⟨h14,hB1⟩:=hz
  refine gtk rfl rfl rfl rfl rfl (bt h14)<|Zm<|gtk rfl rfl rfl rfl rfl (bt h14)<|Zv (xlen rfl Tryz.underlying28)<|gtk rfl rfl rfl rfl rfl (bt h14)<|Zv (xeql rfl rfl)<|Zv (xpt rfl h14 rfl)<|Zm<|?_
  have hz:=ifs hB1; obtain ⟨h15,hB1⟩:=hz
  refine gtk rfl rfl rfl rfl rfl (bt h15)<|Zm<|gtk rfl rfl rfl rfl rfl (bt h15)<|Zm<|?_
  have hz:=bs hB1; obtain ⟨x17,Ex17,hB1⟩:=hz
  refine gtk rfl rfl rfl rfl rfl (bt h15)<|Zc (xc cb23 (mc rfl (mc rfl mn))) (c23 r83 r84 Ex17) ?_
  rintro _ w24 ⟨rfl,hx22⟩
  have k107:=k99.tr hx22
  have r86:=r85.ext hx22
  refine gtk rfl rfl rfl rfl rfl (bt h15)<|Zv (xeql rfl rfl)<|Zv (xpt rfl h15 rfl)<|Zm<|?_
  have hz:=ifs hB1; obtain ⟨h16,hB1⟩:=hz
  refine gtk rfl rfl rfl rfl rfl (bt h16)<|Zm<|gtk rfl rfl rfl rfl rfl (bt h16)<|Zv (xeql rfl rfl)<|Zv (xpt rfl h16 rfl)<|Zm<|?_
  have hz:=ifs hB1; obtain ⟨h17,hB1⟩:=hz
  refine gtk rfl rfl rfl rfl rfl (bt h17)<|Zm<|gtk rfl rfl rfl rfl rfl (bt h17)<|sbsv (cs:=[.int .i64 0,.int .i64 1,.int .i64 2,.int .i64 4]) Tryz.underlying41 ti3 rfl (pc rfl (pc rfl (pc rfl (pc rfl pn)))) rfl rfl rfl rfl rfl fun b7 w25 hx23 hg7 hb34=>?_
  have k115:=k107.tr hx23
  have r87:=r86.ext hx23
  have o5:Row (α:=Int) 3 w24.heap.size w25 (.slice (some ⟨b7,0,none⟩) 4 4) [0,1,2,4]:=Row.lit hg7 hb34 rfl (ble rfl)
  have hz:=bs hB1; obtain ⟨x18,Ex18,hB1⟩:=hz
  refine gtk rfl rfl rfl rfl rfl (bt h17)<|Zc (xc cb196 (mc rfl (mc rfl mn))) (c196 r87 o5.rv Ex18) ?_
  rintro _ w26 ⟨rfl,hx24⟩
  have k123:=k115.tr hx24
  refine Zv (xpt rfl h17 rfl)<|Za<|nl<|?_
  cases hB1
  refine lf<|?_
  exact ⟨rfl,k123⟩
 rintro L w27 ⟨l0_j1,K0_j1⟩
 have k126:=k53.tr K0_j1
 cases hF
 exact wp_ret<|rt rfl (.tmp l0_j1 rfl .nil) ⟨rfl,k126⟩
end Go.Proofs.YtfmelbioccbdoaaGreat
end
section
namespace Go.Proofs.YtfmelbioccbdoaaGreat
open Go Go.Md Go.RowKit
attribute [local irreducible] Go.wpList Go.Code.wp Go.Calls Go.Md.Rnd Go.Md.Mt Go.Md.MtM Go.Md.RndM Go.Code.wpIn
theorem c24 {w0:World} {v0:Value} {x0:((List ((((Int×Int)×Int)×((Int×Int)×Int))×Bool))×Int×(Int×Int))} (r0:RV w0 v0 x0) {F:Nat} {r:Bool} (hF:top_cylinder03 F x0=some r) :
  Calls Tryz.prog 24 [v0].toArray w0 (Ret fun v w'=>v=.bool r∧Ext w0 w'):=by
 unfold top_cylinder03 at hF
 have hz:=id r0; obtain ⟨_,rfl,⟨_,_,rfl,⟨a1,cq1,rfl,p1,q2,e1⟩,⟨_,_,rfl,rfl,⟨_,_,rfl,rfl,rfl⟩⟩⟩⟩:=hz
 have r2:=RV.of1 p1 q2 e1
 refine entr (n:=12) Tryz.func24 rfl rfl rfl<|Zr<|sbx rfl rfl fun b2 w1 hx1 hg1 hb1=>?_
 have r3:=r2.ext hx1
 refine Za<|nl<|Zr<|Zv (xfa rfl fa48_0)<|Zv (xld rfl ti46 ((Bx.cs hb1).at 0 rfl))<|Zv (xlen rfl Tryz.underlying46)<|Zv (xleq rfl rfl)<|Zm<|Zg rfl rfl (gw1 rfl) (fun hc=>xlda rfl ti48 rfl (Bx.cs hb1))<|?_
 have hz:=bs hF; obtain ⟨x2,Ex2,hF⟩:=hz
 refine gc rfl rfl rfl rfl (gw1 rfl) rfl (fun hc=>xc cb102 (mc (mv hc rfl) mn)) (fun hc=>(c102 (show RV (α:=((List ((((Int×Int)×Int)×((Int×Int)×Int))×Bool))×Int×(Int×Int))) _ (.agg [.slice a1 x0.1.length cq1,.int .i64 x0.2.1,.int .i64 x0.2.2.1,.int .i64 x0.2.2.2].toArray) (x0.1,x0.2.1,(x0.2.2.1,x0.2.2.2)) from ⟨_,rfl,⟨[.slice a1 x0.1.length cq1],[.int .i64 x0.2.1]++([.int .i64 x0.2.2.1]++[.int .i64 x0.2.2.2]),rfl,r3.rep1,⟨[.int .i64 x0.2.1],[.int .i64 x0.2.2.1]++[.int .i64 x0.2.2.2],rfl,rfl,⟨[.int .i64 x0.2.2.1],[.int .i64 x0.2.2.2],rfl,rfl,rfl⟩⟩⟩⟩) (gdp Ex2 hc))) (fun v2 w2 hy1 hn1=>?_)
 have hx2:Ext w1 w2:=gx (fun h=>(hy1 h).2) (fun h=>(hn1 h).2 ▸ Ext.refl _)
 have e2:=mkw (fun h=>(hy1 h).1) (fun h=>(hn1 h).1)
 have k1:=hx1.tr hx2
 refine Zg rfl rfl (gw1 rfl) (fun hc=>xeql (mv hc e2) rfl)<|Zv (xpa rfl rfl rfl)<|Za<|nl<|?_
 cases hF
 exact wp_ret<|rt rfl (.tmp rfl rfl .nil) ⟨rfl,k1⟩
theorem c15 {w0:World}  {F:Nat} {r:Bool} (hF:top_works03 F=some r) :
  Calls Tryz.prog 15 [].toArray w0 (Ret fun v w'=>v=.bool r∧Ext w0 w'):=by
 unfold top_works03 at hF
 refine entr (n:=8) Tryz.func15 rfl rfl rfl<|Zr<|Za<|nl<|Zr<|?_
 have hz:=bs hF; obtain ⟨x1,Ex1,hF⟩:=hz
 refine Zc (xc cb86 mn) (c86 Ex1) ?_
 rintro _ w1 ⟨rfl,hx1⟩
 refine Zm<|?_
 have hz:=bs hF; obtain ⟨x2,Ex2,hF⟩:=hz
 refine gc rfl rfl rfl rfl (gw1 rfl) rfl (fun hc=>xc cb87 mn) (fun hc=>(c87 (gdp Ex2 hc))) (fun v1 w2 hy1 hn1=>?_)
 have hx2:Ext w1 w2:=gx (fun h=>(hy1 h).2) (fun h=>(hn1 h).2 ▸ Ext.refl _)
 have e1:=mkw (fun h=>(hy1 h).1) (fun h=>(hn1 h).1)
 have k1:=hx1.tr hx2
 refine Zv (xpa rfl e1 rfl)<|Zm<|?_
 have hz:=bs hF; obtain ⟨x3,Ex3,hF⟩:=hz
 refine gc rfl rfl rfl rfl (gw1 rfl) rfl (fun hc=>xc cb88 mn) (fun hc=>(c88 (gdp Ex3 hc))) (fun v2 w3 hy2 hn2=>?_)
 have hx3:Ext w2 w3:=gx (fun h=>(hy2 h).2) (fun h=>(hn2 h).2 ▸ Ext.refl _)
 have e2:=mkw (fun h=>(hy2 h).1) (fun h=>(hn2 h).1)
 have k2:=k1.tr hx3
 refine Zv (xpa rfl e2 rfl)<|Za<|nl<|?_
 cases hF
 exact wp_ret<|rt rfl (.tmp rfl rfl .nil) ⟨rfl,k2⟩
end Go.Proofs.YtfmelbioccbdoaaGreat
end
section
namespace Go.Proofs.YtfmelbioccbdoaaGreat
open Go Go.Md Go.RowKit
attribute [local irreducible] Go.wpList Go.Code.wp Go.Calls Go.Md.Rnd Go.Md.Mt Go.Md.MtM Go.Md.RndM Go.Code.wpIn
theorem c5 {w0:World} {v0:Value} {x0:((List ((((Int×Int)×Int)×((Int×Int)×Int))×Bool))×Int×(Int×Int))} (r0:RV w0 v0 x0) {v1:Value} {x1:(List (KI .u8))} (r1:RV w0 v1 x1) {F:Nat} {r:Bool} (hF:top_TopSharedEnds F x0 x1=some r) :
  Calls Tryz.prog 5 [v0,v1].toArray w0 (Ret fun v w'=>v=.bool r∧Ext w0 w'):=by
 unfold top_TopSharedEnds at hF
 have hz:=id r0; obtain ⟨_,rfl,⟨_,_,rfl,⟨a1,cq1,rfl,p1,q3,e1⟩,⟨_,_,rfl,rfl,⟨_,_,rfl,rfl,rfl⟩⟩⟩⟩:=hz
 have r3:=RV.of1 p1 q3 e1
 have hz:=r1.sl; obtain ⟨a2,cq2,rfl,-,-,-⟩:=hz
 refine entr (n:=170) Tryz.func5 rfl rfl rfl<|Zr<|sbx rfl rfl fun b3 w1 hx1 hg1 hb1=>?_
 have r5:=r3.ext hx1
 refine Za<|nl<|wp_seq<|Zr<|Zv (xlda rfl ti48 rfl (Bx.cs hb1))<|?_
 have hz:=bs hF; obtain ⟨x3,Ex3,hF⟩:=hz
 refine Zc (xc cb24 (mc rfl mn)) (c24 (show RV (α:=((List ((((Int×Int)×Int)×((Int×Int)×Int))×Bool))×Int×(Int×Int))) _ (.agg [.slice a1 x0.1.length cq1,.int .i64 x0.2.1,.int .i64 x0.2.2.1,.int .i64 x0.2.2.2].toArray) (x0.1,x0.2.1,(x0.2.2.1,x0.2.2.2)) from ⟨_,rfl,⟨[.slice a1 x0.1.length cq1],[.int .i64 x0.2.1]++([.int .i64 x0.2.2.1]++[.int .i64 x0.2.2.2]),rfl,r5.rep1,⟨[.int .i64 x0.2.1],[.int .i64 x0.2.2.1]++[.int .i64 x0.2.2.2],rfl,rfl,⟨[.int .i64 x0.2.2.1],[.int .i64 x0.2.2.2],rfl,rfl,rfl⟩⟩⟩⟩) Ex3) ?_
 rintro _ w2 ⟨rfl,hx2⟩
 have k1:=hx1.tr hx2
 have hb2:=hb1.ext hx2
 refine Zv (xnot rfl)<|Zm<|Zg rfl rfl (gw0 rfl) (fun hc=>xmva rfl)<|Zg rfl rfl (gw0 rfl) (fun hc=>xlen (mv hc rfl) Tryz.underlying49)<|Zg rfl rfl (gw0 rfl) (fun hc=>xgtr (mv hc rfl) rfl)<|Zv (xpo rfl rfl rfl)<|nl<|cnd rfl (fun h3=>?_) (fun h3=>?_)
 ·
  have hF:=ifp hF h3
  refine Zr<|?_
  have hz:=bs hF; obtain ⟨x4,Ex4,hF⟩:=hz
  refine Zc (xc cb15 mn) (c15 Ex4) ?_
  rintro _ w3 ⟨rfl,hx3⟩
  have k2:=k1.tr hx3
  refine Za<|nl<|?_
  cases hF
  exact wp_ret<|rt rfl (.tmp rfl rfl .nil) ⟨rfl,k2⟩
 ·
  have hF:=ifn hF h3
  refine wp_skip<|Zr<|Zv (xfa rfl fa48_1)<|sst rfl rfl rfl ti2 hb2 rfl rfl (ble rfl) fun w4 hch1 hb3=>?_
  have k3:=Ext.chg k1 hch1 (Nat.le_trans (Nat.le_refl _) hg1)
  have hb4:Bx w4 b3 48 [.slice a1 x0.1.length cq1,.int .i64 0,.int .i64 x0.2.2.1,.int .i64 x0.2.2.2]:=hb3
  refine nl<|Zr<|Zv (xbdv (r:=[.int .i64 (-100000),.int .i64 100000]) ti35 sp35 (pc rfl (pc rfl pn)) rfl)<|Zv (xfa rfl fa48_2)<|sst rfl rfl rfl ti35 hb4 rfl rfl (ble rfl) fun w5 hch2 hb5=>?_
  have k4:=Ext.chg k3 hch2 (Nat.le_trans (Nat.le_refl _) hg1)
  have r11:=r1.ext k4
  have r12:=r3.ext k4
  have hb6:Bx w5 b3 48 [.slice a1 x0.1.length cq1,.int .i64 0,.int .i64 (-100000),.int .i64 100000]:=hb5
  refine nl<|Zr<|Zv (xlda rfl ti48 rfl (Bx.cs hb6))<|Zm<|?_
  have hz:=bs hF; obtain ⟨x5,Ex5,hF⟩:=hz
  refine Zc (xc cb25 (mc rfl (mc rfl mn))) (c25 (show RV (α:=((List ((((Int×Int)×Int)×((Int×Int)×Int))×Bool))×Int×(Int×Int))) _ (.agg [.slice a1 x0.1.length cq1,.int .i64 0,.int .i64 (-100000),.int .i64 100000].toArray) (x0.1,0,((-100000),100000)) from ⟨_,rfl,⟨[.slice a1 x0.1.length cq1],[.int .i64 0]++([.int .i64 (-100000)]++[.int .i64 100000]),rfl,r12.rep1,⟨[.int .i64 0],[.int .i64 (-100000)]++[.int .i64 100000],rfl,rfl,⟨[.int .i64 (-100000)],[.int .i64 100000],rfl,rfl,rfl⟩⟩⟩⟩) r11 Ex5) ?_
  rintro _ w6 ⟨u1,rfl,r13,hx4⟩
  have k5:=k4.tr hx4
  have hb7:=hb6.ext hx4
  have r14:=r12.ext hx4
  have hz:=RV.sl r13; obtain ⟨a3,cq3,rfl,-,-,-⟩:=hz
  refine Za<|nl<|Zr<|Za<|nl<|Zr<|Za<|nl<|wp_seq<|Zr<|Za<|nl<|?_
  have o1:Row (α:=(Int×Int)) 35 w6.heap.size w6 (.slice none 0 0) []:=Row.nil
  have hz:=bs hF; obtain ⟨o2,hB1,hF⟩:=hz
  refine ct (fun L w=>∃ z1:(List (Int×Int)),∃ z2:Bool,∃ v4:Value,o2=.inr (z1,z2)∧L 6=v4∧Row 35 w6.heap.size w v4 z1∧L 7=.bool z2∧L 2=.pointer (some ⟨b3,0,none⟩)∧L 5=.slice a3 x5.length cq3∧Ext w6 w) ?_ ?_
  ·
   refine wp_block<|lp (I:=fun m L w=>∃ y1:(List (Int×Int)),∃ y2:Bool,∃ y3:Int,∃ v3:Value,top_TopSharedEnds_l1 F x0 x5 m y1 y2 y3 =some o2∧L 6=v3∧Row 35 w6.heap.size w v3 y1∧L 7=.bool y2∧L 8=.int .i64 y3∧L 2=.pointer (some ⟨b3,0,none⟩)∧L 5=.slice a3 x5.length cq3∧Ext w6 w) F ⟨_,_,_,_,hB1,rfl,o1,rfl,rfl,rfl,rfl,(Ext.refl _)⟩ ?_
   rintro m L w7 ⟨y1,y2,y3,v3,hB1,l6_i1,O6_i1,l7_i1,l8_i1,l2_i1,l5_i1,K0_i1⟩
   rcases m with _ | m
   ·rw [top_TopSharedEnds_l1] at hB1; cases hB1
   rw [top_TopSharedEnds_l1] at hB1
   have k6:=k5.tr K0_i1
   have r15:=r14.ext K0_i1
   have hb8:=hb7.ext K0_i1
   have hz:=RV.sl O6_i1.rv; obtain ⟨a4,cq4,rfl,-,-,-⟩:=hz
   refine wp_seq<|Zr<|Zm<|Zm<|Zv (xlen l5_i1 Tryz.underlying51)<|Zv (xlss l8_i1 rfl)<|nl<|cnd rfl (fun h4=>?_) (fun h4=>?_)
   ·
    have hB1:=ifp hB1 h4
    refine wp_skip<|wp_seq<|wp_block<|wp_seq<|?_
    have hz:=bs hB1; obtain ⟨y4,hB3,hB1⟩:=hz
    refine ct (fun L w=>∃ v5:Value,L 10=v5∧PB 35 w7.heap.size w v5 y4∧L 2=.pointer (some ⟨b3,0,none⟩)∧L 5=.slice a3 x5.length cq3∧L 6=.slice a4 y1.length cq4∧L 7=.bool y2∧L 8=.int .i64 y3∧w6.heap.size≤w.heap.size∧Ext w7 w) ?_ ?_
    ·
     have hz:=bs hB3; obtain ⟨x6,Ex6,hB3⟩:=hz
     have hz:=bs hB3; obtain ⟨x7,Ex7,hB3⟩:=hz
     refine wpl [] (.pure false 0 (.pure true 1 (.pure true 2 (.pure true 3 (.pure true 4 (.pure false 5 (.eff 6 (.pure true 7 (.pure true 8 (.pure true 9 (.eff 10 (.eff 11 (.eff 12 (.eff 13 .fin .stop) .stop) .stop) (.eff 11 (.eff 10 (.eff 12 (.eff 13 .fin .stop) .stop) .stop) .stop))))) (.eff 10 (.eff 6 (.pure true 7 (.pure true 8 (.pure true 9 (.eff 11 (.eff 12 (.eff 13 .fin .stop) .stop) .stop)))) (.eff 11 (.eff 6 (.pure true 7 (.pure true 8 (.pure true 9 (.eff 12 (.eff 13 .fin .stop) .stop)))) .stop) .stop)) (.eff 11 (.eff 6 (.pure true 7 (.pure true 8 (.pure true 9 (.eff 10 (.eff 12 (.eff 13 .fin .stop) .stop) .stop)))) (.eff 10 (.eff 6 (.pure true 7 (.pure true 8 (.pure true 9 (.eff 12 (.eff 13 .fin .stop) .stop)))) .stop) .stop)) .stop))))))))) mixed (by kernel_rfl) (fun w14 hx9=>?_)
     have k32:=K0_i1.tr hx9
     have hb23:=hb8.ext hx9
     have r36:=r15.ext hx9
     refine Zq rfl (fun _ hS=>xlda l2_i1 ti48 rfl (Bx.cs (hb23.ext (hS.resolve_left nofun)))) (Ext.refl _)<|Zn rfl<|Zn rfl<|Zp rfl (fun _=>xsub l8_i1 rfl)<|?_
     have hz:=(RV.els r13).ix Ex6; obtain ⟨b7,f2,cs4,e3,i4,i5,q5,hc3⟩:=hz
     cases e3
     obtain ⟨_,_,rfl,rfl,rfl⟩:=q5
     have hc4:=hc3.ext k32
     refine Zp rfl (fun _=>xixs l5_i1 rfl Tryz.underlying51 ti56 i4 i5)<|Zq rfl (fun _ hS=>xlda rfl ti56 rfl (hc4.ext (hS.resolve_left nofun))) (Ext.refl _)<|?_
     refine pe rfl ?_ ?_
     ·
      refine Zc (xc cb26 (mc rfl (mc rfl mn))) (c26 (show RV (α:=((List ((((Int×Int)×Int)×((Int×Int)×Int))×Bool))×Int×(Int×Int))) _ (.agg [.slice a1 x0.1.length cq1,.int .i64 0,.int .i64 (-100000),.int .i64 100000].toArray) (x0.1,0,((-100000),100000)) from ⟨_,rfl,⟨[.slice a1 x0.1.length cq1],[.int .i64 0]++([.int .i64 (-100000)]++[.int .i64 100000]),rfl,r36.rep1,⟨[.int .i64 0],[.int .i64 (-100000)]++[.int .i64 100000],rfl,rfl,⟨[.int .i64 (-100000)],[.int .i64 100000],rfl,rfl,rfl⟩⟩⟩⟩) (show RV (α:=(Int×Bool)) _ (.agg [.int .i64 x6.1,.bool x6.2].toArray) (x6.1,x6.2) from ⟨_,rfl,⟨[.int .i64 x6.1],[.bool x6.2],rfl,rfl,rfl⟩⟩) Ex7) ?_
      rintro _ w15 ⟨u4,u5,rfl,r38,r39,hx10⟩
      have k34:=k32.tr hx10
      have k35:=hx9.tr hx10
      have hz:=id r38; obtain ⟨_,rfl,⟨_,_,rfl,rfl,rfl⟩⟩:=hz
      have hz:=id r39; obtain ⟨_,rfl,⟨_,_,rfl,rfl,rfl⟩⟩:=hz
      refine nl ⟨fun _ _=>hx10,?_⟩
      refine Zn rfl<|Zp rfl (fun _=>xext rfl rfl)<|Zp rfl (fun _=>xext rfl rfl)<|?_
      refine pe rfl ?_ ?_
      ·
       refine sal ti35 fun b8 w16 hx11 hg4 hb25=>?_
       have k37:=k34.tr hx11
       have k38:=k35.tr hx11
       have k39:=hx10.tr hx11
       refine nl ⟨fun _ _=>k39,?_⟩
       refine pe1 rfl<|sal ti35 fun b9 w17 hx12 hg5 hb27=>?_
       have k41:=k37.tr hx12
       have k42:=k38.tr hx12
       have k43:=k39.tr hx12
       have hb29:=hb25.ext hx12
       refine nl ⟨fun _ _=>k43,?_⟩
       refine pe1 rfl<|sst rfl rfl rfl ti35 hb29 rfl rfl (ble rfl) fun w18 hch5 hb30=>?_
       have k46:=Ext.chg k41 hch5 (Nat.le_trans k34.size hg4)
       have k47:=Ext.chg k42 hch5 (Nat.le_trans k35.size hg4)
       have k48:=Ext.chg k43 hch5 (Nat.le_trans hx10.size hg4)
       have hb32:=Bx.chg hb27 hch5 (Ne.symm (Nat.ne_of_lt (Nat.lt_of_lt_of_le hb25.lt hg5)))
       have hb33:Bx w18 b8 35 [.int .i64 x7.1.1,.int .i64 x7.1.2]:=hb30
       refine nl ⟨fun _ _=>k48,?_⟩
       refine pe1 rfl<|sst rfl rfl rfl ti35 hb32 rfl rfl (ble rfl) fun w19 hch6 hb34=>?_
       have k51:=Ext.chg k46 hch6 (Nat.le_trans k34.size (Nat.le_trans hx11.size hg5))
       have k52:=Ext.chg k47 hch6 (Nat.le_trans k35.size (Nat.le_trans hx11.size hg5))
       have k53:=Ext.chg k48 hch6 (Nat.le_trans hx10.size (Nat.le_trans hx11.size hg5))
       have hb36:Bx w19 b9 35 [.int .i64 x7.2.1,.int .i64 x7.2.2]:=hb34
       refine nl ⟨fun _ _=>k53,?_⟩
       cases hB3
       refine lf<|?_
       exact ⟨_,rfl,⟨_,_,rfl,(Nat.le_trans k35.size (Nat.le_trans hx11.size hg5)),hb36,⟨[.int .i64 x7.2.1],[.int .i64 x7.2.2],rfl,rfl,rfl⟩⟩,l2_i1,l5_i1,l6_i1,l7_i1,l8_i1,k51.size,k52⟩
      refine pm rfl ?_ ?_
      ·
       refine sal ti35 fun b10 w20 hx13 hg6 hb37=>?_
       have k56:=k34.tr hx13
       have k57:=k35.tr hx13
       have k58:=hx10.tr hx13
       refine nl ⟨fun _ _=>k58,?_⟩
       refine pe1 rfl<|sal ti35 fun b11 w21 hx14 hg7 hb39=>?_
       have k60:=k56.tr hx14
       have k61:=k57.tr hx14
       have k62:=k58.tr hx14
       refine nl ⟨fun _ _=>k62,?_⟩
       refine pe1 rfl<|sst rfl rfl rfl ti35 hb39 rfl rfl (ble rfl) fun w22 hch7 hb42=>?_
       have k65:=Ext.chg k60 hch7 (Nat.le_trans k56.size hg7)
       have k66:=Ext.chg k61 hch7 (Nat.le_trans k57.size hg7)
       have k67:=Ext.chg k62 hch7 (Nat.le_trans k58.size hg7)
       have k69:=Ext.chg hx14 hch7 (Nat.le_trans (Nat.le_refl _) hg7)
       have hb44:=hb37.ext k69
       have hb45:Bx w22 b11 35 [.int .i64 x7.1.1,.int .i64 x7.1.2]:=hb42
       refine nl ⟨fun _ _=>k67,?_⟩
       refine pe1 rfl<|sst rfl rfl rfl ti35 hb44 rfl rfl (ble rfl) fun w23 hch8 hb46=>?_
       have k71:=Ext.chg k65 hch8 (Nat.le_trans k34.size hg6)
       have k72:=Ext.chg k66 hch8 (Nat.le_trans k35.size hg6)
       have k73:=Ext.chg k67 hch8 (Nat.le_trans hx10.size hg6)
       have hb48:Bx w23 b10 35 [.int .i64 x7.2.1,.int .i64 x7.2.2]:=hb46
       refine nl ⟨fun _ _=>k73,?_⟩
       cases hB3
       refine lf<|?_
       exact ⟨_,rfl,⟨_,_,rfl,(Nat.le_trans k35.size hg6),hb48,⟨[.int .i64 x7.2.1],[.int .i64 x7.2.2],rfl,rfl,rfl⟩⟩,l2_i1,l5_i1,l6_i1,l7_i1,l8_i1,k71.size,k72⟩
      trivial
     refine pm rfl ?_ ?_
     ·
      refine sal ti35 fun b12 w24 hx15 hg8 hb49=>?_
      have k76:=k32.tr hx15
      have k77:=hx9.tr hx15
      have r68:=r36.ext hx15
      refine nl ⟨fun _ _=>hx15,?_⟩
      refine pe rfl ?_ ?_
      ·
       refine Zc (xc cb26 (mc rfl (mc rfl mn))) (c26 (show RV (α:=((List ((((Int×Int)×Int)×((Int×Int)×Int))×Bool))×Int×(Int×Int))) _ (.agg [.slice a1 x0.1.length cq1,.int .i64 0,.int .i64 (-100000),.int .i64 100000].toArray) (x0.1,0,((-100000),100000)) from ⟨_,rfl,⟨[.slice a1 x0.1.length cq1],[.int .i64 0]++([.int .i64 (-100000)]++[.int .i64 100000]),rfl,r68.rep1,⟨[.int .i64 0],[.int .i64 (-100000)]++[.int .i64 100000],rfl,rfl,⟨[.int .i64 (-100000)],[.int .i64 100000],rfl,rfl,rfl⟩⟩⟩⟩) (show RV (α:=(Int×Bool)) _ (.agg [.int .i64 x6.1,.bool x6.2].toArray) (x6.1,x6.2) from ⟨_,rfl,⟨[.int .i64 x6.1],[.bool x6.2],rfl,rfl,rfl⟩⟩) Ex7) ?_
       rintro _ w25 ⟨u6,u7,rfl,r70,r71,hx16⟩
       have k79:=k76.tr hx16
       have k80:=k77.tr hx16
       have k81:=hx15.tr hx16
       have hb52:=hb49.ext hx16
       have hz:=id r70; obtain ⟨_,rfl,⟨_,_,rfl,rfl,rfl⟩⟩:=hz
       have hz:=id r71; obtain ⟨_,rfl,⟨_,_,rfl,rfl,rfl⟩⟩:=hz
       refine nl ⟨fun _ _=>k81,?_⟩
       refine Zn rfl<|Zp rfl (fun _=>xext rfl rfl)<|Zp rfl (fun _=>xext rfl rfl)<|pe1 rfl<|sal ti35 fun b13 w26 hx17 hg9 hb53=>?_
       have k83:=k79.tr hx17
       have k84:=k80.tr hx17
       have k85:=k81.tr hx17
       have hb55:=hb52.ext hx17
       refine nl ⟨fun _ _=>k85,?_⟩
       refine pe1 rfl<|sst rfl rfl rfl ti35 hb55 rfl rfl (ble rfl) fun w27 hch9 hb56=>?_
       have k87:=Ext.chg k83 hch9 (Nat.le_trans k32.size hg8)
       have k88:=Ext.chg k84 hch9 (Nat.le_trans hx9.size hg8)
       have k89:=Ext.chg k85 hch9 (Nat.le_trans (Nat.le_refl _) hg8)
       have hb58:=Bx.chg hb53 hch9 (Ne.symm (Nat.ne_of_lt (Nat.lt_of_lt_of_le hb52.lt hg9)))
       have hb59:Bx w27 b12 35 [.int .i64 x7.1.1,.int .i64 x7.1.2]:=hb56
       refine nl ⟨fun _ _=>k89,?_⟩
       refine pe1 rfl<|sst rfl rfl rfl ti35 hb58 rfl rfl (ble rfl) fun w28 hch10 hb60=>?_
       have k91:=Ext.chg k87 hch10 (Nat.le_trans k32.size (Nat.le_trans k81.size hg9))
       have k92:=Ext.chg k88 hch10 (Nat.le_trans hx9.size (Nat.le_trans k81.size hg9))
       have k93:=Ext.chg k89 hch10 (Nat.le_trans (Nat.le_refl _) (Nat.le_trans k81.size hg9))
       have hb62:Bx w28 b13 35 [.int .i64 x7.2.1,.int .i64 x7.2.2]:=hb60
       refine nl ⟨fun _ _=>k93,?_⟩
       cases hB3
       refine lf<|?_
       exact ⟨_,rfl,⟨_,_,rfl,(Nat.le_trans hx9.size (Nat.le_trans k81.size hg9)),hb62,⟨[.int .i64 x7.2.1],[.int .i64 x7.2.2],rfl,rfl,rfl⟩⟩,l2_i1,l5_i1,l6_i1,l7_i1,l8_i1,k91.size,k92⟩
      refine pm rfl ?_ ?_
      ·
       refine sal ti35 fun b14 w29 hx18 hg10 hb63=>?_
       have k95:=k76.tr hx18
       have k96:=k77.tr hx18
       have k97:=hx15.tr hx18
       have r83:=r68.ext hx18
       have hb65:=hb49.ext hx18
       refine nl ⟨fun _ _=>k97,?_⟩
       refine pe1 rfl<|Zc (xc cb26 (mc rfl (mc rfl mn))) (c26 (show RV (α:=((List ((((Int×Int)×Int)×((Int×Int)×Int))×Bool))×Int×(Int×Int))) _ (.agg [.slice a1 x0.1.length cq1,.int .i64 0,.int .i64 (-100000),.int .i64 100000].toArray) (x0.1,0,((-100000),100000)) from ⟨_,rfl,⟨[.slice a1 x0.1.length cq1],[.int .i64 0]++([.int .i64 (-100000)]++[.int .i64 100000]),rfl,r83.rep1,⟨[.int .i64 0],[.int .i64 (-100000)]++[.int .i64 100000],rfl,rfl,⟨[.int .i64 (-100000)],[.int .i64 100000],rfl,rfl,rfl⟩⟩⟩⟩) (show RV (α:=(Int×Bool)) _ (.agg [.int .i64 x6.1,.bool x6.2].toArray) (x6.1,x6.2) from ⟨_,rfl,⟨[.int .i64 x6.1],[.bool x6.2],rfl,rfl,rfl⟩⟩) Ex7) ?_
       rintro _ w30 ⟨u8,u9,rfl,r85,r86,hx19⟩
       have k99:=k95.tr hx19
       have k100:=k96.tr hx19
       have k101:=k97.tr hx19
       have hb67:=hb65.ext hx19
       have hb68:=hb63.ext hx19
       have hz:=id r85; obtain ⟨_,rfl,⟨_,_,rfl,rfl,rfl⟩⟩:=hz
       have hz:=id r86; obtain ⟨_,rfl,⟨_,_,rfl,rfl,rfl⟩⟩:=hz
       refine nl ⟨fun _ _=>k101,?_⟩
       refine Zn rfl<|Zp rfl (fun _=>xext rfl rfl)<|Zp rfl (fun _=>xext rfl rfl)<|pe1 rfl<|sst rfl rfl rfl ti35 hb67 rfl rfl (ble rfl) fun w31 hch11 hb69=>?_
       have k104:=Ext.chg k99 hch11 (Nat.le_trans k32.size hg8)
       have k105:=Ext.chg k100 hch11 (Nat.le_trans hx9.size hg8)
       have k106:=Ext.chg k101 hch11 (Nat.le_trans (Nat.le_refl _) hg8)
       have hb71:=Bx.chg hb68 hch11 (Ne.symm (Nat.ne_of_lt (Nat.lt_of_lt_of_le hb49.lt hg10)))
       have hb72:Bx w31 b12 35 [.int .i64 x7.1.1,.int .i64 x7.1.2]:=hb69
       refine nl ⟨fun _ _=>k106,?_⟩
       refine pe1 rfl<|sst rfl rfl rfl ti35 hb71 rfl rfl (ble rfl) fun w32 hch12 hb73=>?_
       have k108:=Ext.chg k104 hch12 (Nat.le_trans k32.size (Nat.le_trans hx15.size hg10))
       have k109:=Ext.chg k105 hch12 (Nat.le_trans hx9.size (Nat.le_trans hx15.size hg10))
       have k110:=Ext.chg k106 hch12 (Nat.le_trans (Nat.le_refl _) (Nat.le_trans hx15.size hg10))
       have hb75:Bx w32 b14 35 [.int .i64 x7.2.1,.int .i64 x7.2.2]:=hb73
       refine nl ⟨fun _ _=>k110,?_⟩
       cases hB3
       refine lf<|?_
       exact ⟨_,rfl,⟨_,_,rfl,(Nat.le_trans hx9.size (Nat.le_trans hx15.size hg10)),hb75,⟨[.int .i64 x7.2.1],[.int .i64 x7.2.2],rfl,rfl,rfl⟩⟩,l2_i1,l5_i1,l6_i1,l7_i1,l8_i1,k108.size,k109⟩
      trivial
     refine pm rfl ?_ ?_
     ·
      refine sal ti35 fun b15 w33 hx20 hg11 hb76=>?_
      have k112:=k32.tr hx20
      have k113:=hx9.tr hx20
      have r94:=r36.ext hx20
      refine nl ⟨fun _ _=>hx20,?_⟩
      refine pe rfl ?_ ?_
      ·
       refine Zc (xc cb26 (mc rfl (mc rfl mn))) (c26 (show RV (α:=((List ((((Int×Int)×Int)×((Int×Int)×Int))×Bool))×Int×(Int×Int))) _ (.agg [.slice a1 x0.1.length cq1,.int .i64 0,.int .i64 (-100000),.int .i64 100000].toArray) (x0.1,0,((-100000),100000)) from ⟨_,rfl,⟨[.slice a1 x0.1.length cq1],[.int .i64 0]++([.int .i64 (-100000)]++[.int .i64 100000]),rfl,r94.rep1,⟨[.int .i64 0],[.int .i64 (-100000)]++[.int .i64 100000],rfl,rfl,⟨[.int .i64 (-100000)],[.int .i64 100000],rfl,rfl,rfl⟩⟩⟩⟩) (show RV (α:=(Int×Bool)) _ (.agg [.int .i64 x6.1,.bool x6.2].toArray) (x6.1,x6.2) from ⟨_,rfl,⟨[.int .i64 x6.1],[.bool x6.2],rfl,rfl,rfl⟩⟩) Ex7) ?_
       rintro _ w34 ⟨u10,u11,rfl,r96,r97,hx21⟩
       have k115:=k112.tr hx21
       have k116:=k113.tr hx21
       have k117:=hx20.tr hx21
       have hb79:=hb76.ext hx21
       have hz:=id r96; obtain ⟨_,rfl,⟨_,_,rfl,rfl,rfl⟩⟩:=hz
       have hz:=id r97; obtain ⟨_,rfl,⟨_,_,rfl,rfl,rfl⟩⟩:=hz
       refine nl ⟨fun _ _=>k117,?_⟩
       refine Zn rfl<|Zp rfl (fun _=>xext rfl rfl)<|Zp rfl (fun _=>xext rfl rfl)<|pe1 rfl<|sal ti35 fun b16 w35 hx22 hg12 hb80=>?_
       have k119:=k115.tr hx22
       have k120:=k116.tr hx22
       have k121:=k117.tr hx22
       refine nl ⟨fun _ _=>k121,?_⟩
       refine pe1 rfl<|sst rfl rfl rfl ti35 hb80 rfl rfl (ble rfl) fun w36 hch13 hb83=>?_
       have k123:=Ext.chg k119 hch13 (Nat.le_trans k115.size hg12)
       have k124:=Ext.chg k120 hch13 (Nat.le_trans k116.size hg12)
       have k125:=Ext.chg k121 hch13 (Nat.le_trans k117.size hg12)
       have k126:=Ext.chg hx22 hch13 (Nat.le_trans (Nat.le_refl _) hg12)
       have hb85:=hb79.ext k126
       have hb86:Bx w36 b16 35 [.int .i64 x7.1.1,.int .i64 x7.1.2]:=hb83
       refine nl ⟨fun _ _=>k125,?_⟩
       refine pe1 rfl<|sst rfl rfl rfl ti35 hb85 rfl rfl (ble rfl) fun w37 hch14 hb87=>?_
       have k128:=Ext.chg k123 hch14 (Nat.le_trans k32.size hg11)
       have k129:=Ext.chg k124 hch14 (Nat.le_trans hx9.size hg11)
       have k130:=Ext.chg k125 hch14 (Nat.le_trans (Nat.le_refl _) hg11)
       have hb89:Bx w37 b15 35 [.int .i64 x7.2.1,.int .i64 x7.2.2]:=hb87
       refine nl ⟨fun _ _=>k130,?_⟩
       cases hB3
       refine lf<|?_
       exact ⟨_,rfl,⟨_,_,rfl,(Nat.le_trans hx9.size hg11),hb89,⟨[.int .i64 x7.2.1],[.int .i64 x7.2.2],rfl,rfl,rfl⟩⟩,l2_i1,l5_i1,l6_i1,l7_i1,l8_i1,k128.size,k129⟩
      refine pm rfl ?_ ?_
      ·
       refine sal ti35 fun b17 w38 hx23 hg13 hb90=>?_
       have k132:=k112.tr hx23
       have k133:=k113.tr hx23
       have k134:=hx20.tr hx23
       have r109:=r94.ext hx23
       refine nl ⟨fun _ _=>k134,?_⟩
       refine pe1 rfl<|Zc (xc cb26 (mc rfl (mc rfl mn))) (c26 (show RV (α:=((List ((((Int×Int)×Int)×((Int×Int)×Int))×Bool))×Int×(Int×Int))) _ (.agg [.slice a1 x0.1.length cq1,.int .i64 0,.int .i64 (-100000),.int .i64 100000].toArray) (x0.1,0,((-100000),100000)) from ⟨_,rfl,⟨[.slice a1 x0.1.length cq1],[.int .i64 0]++([.int .i64 (-100000)]++[.int .i64 100000]),rfl,r109.rep1,⟨[.int .i64 0],[.int .i64 (-100000)]++[.int .i64 100000],rfl,rfl,⟨[.int .i64 (-100000)],[.int .i64 100000],rfl,rfl,rfl⟩⟩⟩⟩) (show RV (α:=(Int×Bool)) _ (.agg [.int .i64 x6.1,.bool x6.2].toArray) (x6.1,x6.2) from ⟨_,rfl,⟨[.int .i64 x6.1],[.bool x6.2],rfl,rfl,rfl⟩⟩) Ex7) ?_
       rintro _ w39 ⟨u12,u13,rfl,r111,r112,hx24⟩
       have k136:=k132.tr hx24
       have k137:=k133.tr hx24
       have k138:=k134.tr hx24
       have k139:=hx23.tr hx24
       have hb95:=hb90.ext hx24
       have hz:=id r111; obtain ⟨_,rfl,⟨_,_,rfl,rfl,rfl⟩⟩:=hz
       have hz:=id r112; obtain ⟨_,rfl,⟨_,_,rfl,rfl,rfl⟩⟩:=hz
       refine nl ⟨fun _ _=>k138,?_⟩
       refine Zn rfl<|Zp rfl (fun _=>xext rfl rfl)<|Zp rfl (fun _=>xext rfl rfl)<|pe1 rfl<|sst rfl rfl rfl ti35 hb95 rfl rfl (ble rfl) fun w40 hch15 hb96=>?_
       have k141:=Ext.chg k136 hch15 (Nat.le_trans k112.size hg13)
       have k142:=Ext.chg k137 hch15 (Nat.le_trans k113.size hg13)
       have k143:=Ext.chg k138 hch15 (Nat.le_trans hx20.size hg13)
       have k144:=Ext.chg k139 hch15 (Nat.le_trans (Nat.le_refl _) hg13)
       have hb98:=hb76.ext k144
       have hb99:Bx w40 b17 35 [.int .i64 x7.1.1,.int .i64 x7.1.2]:=hb96
       refine nl ⟨fun _ _=>k143,?_⟩
       refine pe1 rfl<|sst rfl rfl rfl ti35 hb98 rfl rfl (ble rfl) fun w41 hch16 hb100=>?_
       have k146:=Ext.chg k141 hch16 (Nat.le_trans k32.size hg11)
       have k147:=Ext.chg k142 hch16 (Nat.le_trans hx9.size hg11)
       have k148:=Ext.chg k143 hch16 (Nat.le_trans (Nat.le_refl _) hg11)
       have hb102:Bx w41 b15 35 [.int .i64 x7.2.1,.int .i64 x7.2.2]:=hb100
       refine nl ⟨fun _ _=>k148,?_⟩
       cases hB3
       refine lf<|?_
       exact ⟨_,rfl,⟨_,_,rfl,(Nat.le_trans hx9.size hg11),hb102,⟨[.int .i64 x7.2.1],[.int .i64 x7.2.2],rfl,rfl,rfl⟩⟩,l2_i1,l5_i1,l6_i1,l7_i1,l8_i1,k146.size,k147⟩
      trivial
     trivial
    rintro L w42 ⟨v5,l10_j1,P10_j1,l2_j1,l5_j1,l6_j1,l7_j1,l8_j1,Z0_j1,K0_j1⟩
    have k149:=k6.tr K0_j1
    have k150:=K0_i1.tr K0_j1
    have r120:=r15.ext K0_j1
    have hb103:=hb8.ext K0_j1
    have O35:=O6_i1.ext K0_j1
    obtain ⟨b18,cs5,rfl,hg14,hb104,q6⟩:=P10_j1
    obtain ⟨_,_,rfl,rfl,rfl⟩:=q6
    refine wp_seq<|?_
    have hz:=bs hB1; obtain ⟨y5,hB4,hB1⟩:=hz
    refine ct (fun L w=>∃ v6:Value,L 11=v6∧PB 35 w42.heap.size w v6 y5∧L 2=.pointer (some ⟨b3,0,none⟩)∧L 5=.slice a3 x5.length cq3∧L 6=.slice a4 y1.length cq4∧L 7=.bool y2∧L 8=.int .i64 y3∧L 10=.pointer (some ⟨b18,0,none⟩)∧w6.heap.size≤w.heap.size∧Ext w42 w) ?_ ?_
    ·
     have hz:=bs hB4; obtain ⟨x8,Ex8,hB4⟩:=hz
     have hz:=bs hB4; obtain ⟨x9,Ex9,hB4⟩:=hz
     refine wpl [] (.pure false 0 (.pure true 1 (.pure true 2 (.pure true 3 (.pure false 4 (.eff 5 (.pure true 6 (.pure true 7 (.pure true 8 (.eff 9 (.eff 10 (.eff 11 (.eff 12 .fin .stop) .stop) .stop) (.eff 10 (.eff 9 (.eff 11 (.eff 12 .fin .stop) .stop) .stop) .stop))))) (.eff 9 (.eff 5 (.pure true 6 (.pure true 7 (.pure true 8 (.eff 10 (.eff 11 (.eff 12 .fin .stop) .stop) .stop)))) (.eff 10 (.eff 5 (.pure true 6 (.pure true 7 (.pure true 8 (.eff 11 (.eff 12 .fin .stop) .stop)))) .stop) .stop)) (.eff 10 (.eff 5 (.pure true 6 (.pure true 7 (.pure true 8 (.eff 9 (.eff 11 (.eff 12 .fin .stop) .stop) .stop)))) (.eff 9 (.eff 5 (.pure true 6 (.pure true 7 (.pure true 8 (.eff 11 (.eff 12 .fin .stop) .stop)))) .stop) .stop)) .stop)))))))) mixed (by kernel_rfl) (fun w49 hx29=>?_)
     have k182:=k150.tr hx29
     have zs7:=Nat.le_trans Z0_j1 hx29.size
     have hb126:=hb103.ext hx29
     have r141:=r120.ext hx29
     refine Zq rfl (fun _ hS=>xlda l2_j1 ti48 rfl (Bx.cs (hb126.ext (hS.resolve_left nofun)))) (Ext.refl _)<|Zn rfl<|Zn rfl<|?_
     have hz:=(RV.els r13).ix Ex8; obtain ⟨b22,f4,cs7,e5,i8,i9,q8,hc7⟩:=hz
     cases e5
     obtain ⟨_,_,rfl,rfl,rfl⟩:=q8
     have hc8:=hc7.ext k182
     refine Zp rfl (fun _=>xixs l5_j1 l8_j1 Tryz.underlying51 ti56 i8 i9)<|Zq rfl (fun _ hS=>xlda rfl ti56 rfl (hc8.ext (hS.resolve_left nofun))) (Ext.refl _)<|?_
     refine pe rfl ?_ ?_
     ·
      refine Zc (xc cb26 (mc rfl (mc rfl mn))) (c26 (show RV (α:=((List ((((Int×Int)×Int)×((Int×Int)×Int))×Bool))×Int×(Int×Int))) _ (.agg [.slice a1 x0.1.length cq1,.int .i64 0,.int .i64 (-100000),.int .i64 100000].toArray) (x0.1,0,((-100000),100000)) from ⟨_,rfl,⟨[.slice a1 x0.1.length cq1],[.int .i64 0]++([.int .i64 (-100000)]++[.int .i64 100000]),rfl,r141.rep1,⟨[.int .i64 0],[.int .i64 (-100000)]++[.int .i64 100000],rfl,rfl,⟨[.int .i64 (-100000)],[.int .i64 100000],rfl,rfl,rfl⟩⟩⟩⟩) (show RV (α:=(Int×Bool)) _ (.agg [.int .i64 x8.1,.bool x8.2].toArray) (x8.1,x8.2) from ⟨_,rfl,⟨[.int .i64 x8.1],[.bool x8.2],rfl,rfl,rfl⟩⟩) Ex9) ?_
      rintro _ w50 ⟨u16,u17,rfl,r143,r144,hx30⟩
      have k187:=hx29.tr hx30
      have zs8:=Nat.le_trans zs7 hx30.size
      have hz:=id r143; obtain ⟨_,rfl,⟨_,_,rfl,rfl,rfl⟩⟩:=hz
      have hz:=id r144; obtain ⟨_,rfl,⟨_,_,rfl,rfl,rfl⟩⟩:=hz
      refine nl ⟨fun _ _=>hx30,?_⟩
      refine Zn rfl<|Zp rfl (fun _=>xext rfl rfl)<|Zp rfl (fun _=>xext rfl rfl)<|?_
      refine pe rfl ?_ ?_
      ·
       refine sal ti35 fun b23 w51 hx31 hg17 hb130=>?_
       have k191:=k187.tr hx31
       have k192:=hx30.tr hx31
       have zs9:=Nat.le_trans zs8 hx31.size
       refine nl ⟨fun _ _=>k192,?_⟩
       refine pe1 rfl<|sal ti35 fun b24 w52 hx32 hg18 hb133=>?_
       have k196:=k191.tr hx32
       have k197:=k192.tr hx32
       have zs10:=Nat.le_trans zs9 hx32.size
       have hb136:=hb130.ext hx32
       refine nl ⟨fun _ _=>k197,?_⟩
       refine pe1 rfl<|sst rfl rfl rfl ti35 hb136 rfl rfl (ble rfl) fun w53 hch19 hb137=>?_
       have k202:=Ext.chg k196 hch19 (Nat.le_trans k187.size hg17)
       have k203:=Ext.chg k197 hch19 (Nat.le_trans hx30.size hg17)
       have zs11:=Nat.le_trans zs10 (Nat.le_of_eq hch19.size.symm)
       have hb140:=Bx.chg hb133 hch19 (Ne.symm (Nat.ne_of_lt (Nat.lt_of_lt_of_le hb130.lt hg18)))
       have hb141:Bx w53 b23 35 [.int .i64 x9.1.1,.int .i64 x9.1.2]:=hb137
       refine nl ⟨fun _ _=>k203,?_⟩
       refine pe1 rfl<|sst rfl rfl rfl ti35 hb140 rfl rfl (ble rfl) fun w54 hch20 hb142=>?_
       have k208:=Ext.chg k202 hch20 (Nat.le_trans k187.size (Nat.le_trans hx31.size hg18))
       have k209:=Ext.chg k203 hch20 (Nat.le_trans hx30.size (Nat.le_trans hx31.size hg18))
       have zs12:=Nat.le_trans zs11 (Nat.le_of_eq hch20.size.symm)
       have hb145:=Bx.chg hb141 hch20 (Nat.ne_of_lt (Nat.lt_of_lt_of_le hb130.lt hg18))
       have hb146:Bx w54 b24 35 [.int .i64 x9.2.1,.int .i64 x9.2.2]:=hb142
       refine nl ⟨fun _ _=>k209,?_⟩
       cases hB4
       refine lf<|?_
       exact ⟨_,rfl,⟨_,_,rfl,(Nat.le_trans k187.size hg17),hb145,⟨[.int .i64 x9.1.1],[.int .i64 x9.1.2],rfl,rfl,rfl⟩⟩,l2_j1,l5_j1,l6_j1,l7_j1,l8_j1,l10_j1,zs12,k208⟩
      refine pm rfl ?_ ?_
      ·
       refine sal ti35 fun b25 w55 hx33 hg19 hb147=>?_
       have k214:=k187.tr hx33
       have k215:=hx30.tr hx33
       have zs13:=Nat.le_trans zs8 hx33.size
       refine nl ⟨fun _ _=>k215,?_⟩
       refine pe1 rfl<|sal ti35 fun b26 w56 hx34 hg20 hb150=>?_
       have k219:=k214.tr hx34
       have k220:=k215.tr hx34
       have zs14:=Nat.le_trans zs13 hx34.size
       refine nl ⟨fun _ _=>k220,?_⟩
       refine pe1 rfl<|sst rfl rfl rfl ti35 hb150 rfl rfl (ble rfl) fun w57 hch21 hb154=>?_
       have k225:=Ext.chg k219 hch21 (Nat.le_trans k214.size hg20)
       have k226:=Ext.chg k220 hch21 (Nat.le_trans k215.size hg20)
       have k228:=Ext.chg hx34 hch21 (Nat.le_trans (Nat.le_refl _) hg20)
       have zs15:=Nat.le_trans zs14 (Nat.le_of_eq hch21.size.symm)
       have hb157:=hb147.ext k228
       have hb158:Bx w57 b26 35 [.int .i64 x9.1.1,.int .i64 x9.1.2]:=hb154
       refine nl ⟨fun _ _=>k226,?_⟩
       refine pe1 rfl<|sst rfl rfl rfl ti35 hb157 rfl rfl (ble rfl) fun w58 hch22 hb159=>?_
       have k232:=Ext.chg k225 hch22 (Nat.le_trans k187.size hg19)
       have k233:=Ext.chg k226 hch22 (Nat.le_trans hx30.size hg19)
       have zs16:=Nat.le_trans zs15 (Nat.le_of_eq hch22.size.symm)
       have hb162:=Bx.chg hb158 hch22 (Ne.symm (Nat.ne_of_lt (Nat.lt_of_lt_of_le hb147.lt hg20)))
       have hb163:Bx w58 b25 35 [.int .i64 x9.2.1,.int .i64 x9.2.2]:=hb159
       refine nl ⟨fun _ _=>k233,?_⟩
       cases hB4
       refine lf<|?_
       exact ⟨_,rfl,⟨_,_,rfl,(Nat.le_trans k187.size (Nat.le_trans hx33.size hg20)),hb162,⟨[.int .i64 x9.1.1],[.int .i64 x9.1.2],rfl,rfl,rfl⟩⟩,l2_j1,l5_j1,l6_j1,l7_j1,l8_j1,l10_j1,zs16,k232⟩
      trivial
     refine pm rfl ?_ ?_
     ·
      refine sal ti35 fun b27 w59 hx35 hg21 hb164=>?_
      have k238:=hx29.tr hx35
      have zs17:=Nat.le_trans zs7 hx35.size
      have r173:=r141.ext hx35
      refine nl ⟨fun _ _=>hx35,?_⟩
      refine pe rfl ?_ ?_
      ·
       refine Zc (xc cb26 (mc rfl (mc rfl mn))) (c26 (show RV (α:=((List ((((Int×Int)×Int)×((Int×Int)×Int))×Bool))×Int×(Int×Int))) _ (.agg [.slice a1 x0.1.length cq1,.int .i64 0,.int .i64 (-100000),.int .i64 100000].toArray) (x0.1,0,((-100000),100000)) from ⟨_,rfl,⟨[.slice a1 x0.1.length cq1],[.int .i64 0]++([.int .i64 (-100000)]++[.int .i64 100000]),rfl,r173.rep1,⟨[.int .i64 0],[.int .i64 (-100000)]++[.int .i64 100000],rfl,rfl,⟨[.int .i64 (-100000)],[.int .i64 100000],rfl,rfl,rfl⟩⟩⟩⟩) (show RV (α:=(Int×Bool)) _ (.agg [.int .i64 x8.1,.bool x8.2].toArray) (x8.1,x8.2) from ⟨_,rfl,⟨[.int .i64 x8.1],[.bool x8.2],rfl,rfl,rfl⟩⟩) Ex9) ?_
       rintro _ w60 ⟨u18,u19,rfl,r175,r176,hx36⟩
       have k242:=k238.tr hx36
       have k243:=hx35.tr hx36
       have zs18:=Nat.le_trans zs17 hx36.size
       have hb169:=hb164.ext hx36
       have hz:=id r175; obtain ⟨_,rfl,⟨_,_,rfl,rfl,rfl⟩⟩:=hz
       have hz:=id r176; obtain ⟨_,rfl,⟨_,_,rfl,rfl,rfl⟩⟩:=hz
       refine nl ⟨fun _ _=>k243,?_⟩
       refine Zn rfl<|Zp rfl (fun _=>xext rfl rfl)<|Zp rfl (fun _=>xext rfl rfl)<|pe1 rfl<|sal ti35 fun b28 w61 hx37 hg22 hb170=>?_
       have k247:=k242.tr hx37
       have k248:=k243.tr hx37
       have zs19:=Nat.le_trans zs18 hx37.size
       have hb173:=hb169.ext hx37
       refine nl ⟨fun _ _=>k248,?_⟩
       refine pe1 rfl<|sst rfl rfl rfl ti35 hb173 rfl rfl (ble rfl) fun w62 hch23 hb174=>?_
       have k252:=Ext.chg k247 hch23 (Nat.le_trans hx29.size hg21)
       have k253:=Ext.chg k248 hch23 (Nat.le_trans (Nat.le_refl _) hg21)
       have zs20:=Nat.le_trans zs19 (Nat.le_of_eq hch23.size.symm)
       have hb177:=Bx.chg hb170 hch23 (Ne.symm (Nat.ne_of_lt (Nat.lt_of_lt_of_le hb169.lt hg22)))
       have hb178:Bx w62 b27 35 [.int .i64 x9.1.1,.int .i64 x9.1.2]:=hb174
       refine nl ⟨fun _ _=>k253,?_⟩
       refine pe1 rfl<|sst rfl rfl rfl ti35 hb177 rfl rfl (ble rfl) fun w63 hch24 hb179=>?_
       have k257:=Ext.chg k252 hch24 (Nat.le_trans hx29.size (Nat.le_trans k243.size hg22))
       have k258:=Ext.chg k253 hch24 (Nat.le_trans (Nat.le_refl _) (Nat.le_trans k243.size hg22))
       have zs21:=Nat.le_trans zs20 (Nat.le_of_eq hch24.size.symm)
       have hb182:=Bx.chg hb178 hch24 (Nat.ne_of_lt (Nat.lt_of_lt_of_le hb169.lt hg22))
       have hb183:Bx w63 b28 35 [.int .i64 x9.2.1,.int .i64 x9.2.2]:=hb179
       refine nl ⟨fun _ _=>k258,?_⟩
       cases hB4
       refine lf<|?_
       exact ⟨_,rfl,⟨_,_,rfl,(Nat.le_trans hx29.size hg21),hb182,⟨[.int .i64 x9.1.1],[.int .i64 x9.1.2],rfl,rfl,rfl⟩⟩,l2_j1,l5_j1,l6_j1,l7_j1,l8_j1,l10_j1,zs21,k257⟩
      refine pm rfl ?_ ?_
      ·
       refine sal ti35 fun b29 w64 hx38 hg23 hb184=>?_
       have k262:=k238.tr hx38
       have k263:=hx35.tr hx38
       have zs22:=Nat.le_trans zs17 hx38.size
       have r188:=r173.ext hx38
       have hb187:=hb164.ext hx38
       refine nl ⟨fun _ _=>k263,?_⟩
       refine pe1 rfl<|Zc (xc cb26 (mc rfl (mc rfl mn))) (c26 (show RV (α:=((List ((((Int×Int)×Int)×((Int×Int)×Int))×Bool))×Int×(Int×Int))) _ (.agg [.slice a1 x0.1.length cq1,.int .i64 0,.int .i64 (-100000),.int .i64 100000].toArray) (x0.1,0,((-100000),100000)) from ⟨_,rfl,⟨[.slice a1 x0.1.length cq1],[.int .i64 0]++([.int .i64 (-100000)]++[.int .i64 100000]),rfl,r188.rep1,⟨[.int .i64 0],[.int .i64 (-100000)]++[.int .i64 100000],rfl,rfl,⟨[.int .i64 (-100000)],[.int .i64 100000],rfl,rfl,rfl⟩⟩⟩⟩) (show RV (α:=(Int×Bool)) _ (.agg [.int .i64 x8.1,.bool x8.2].toArray) (x8.1,x8.2) from ⟨_,rfl,⟨[.int .i64 x8.1],[.bool x8.2],rfl,rfl,rfl⟩⟩) Ex9) ?_
       rintro _ w65 ⟨u20,u21,rfl,r190,r191,hx39⟩
       have k267:=k262.tr hx39
       have k268:=k263.tr hx39
       have zs23:=Nat.le_trans zs22 hx39.size
       have hb190:=hb187.ext hx39
       have hb191:=hb184.ext hx39
       have hz:=id r190; obtain ⟨_,rfl,⟨_,_,rfl,rfl,rfl⟩⟩:=hz
       have hz:=id r191; obtain ⟨_,rfl,⟨_,_,rfl,rfl,rfl⟩⟩:=hz
       refine nl ⟨fun _ _=>k268,?_⟩
       refine Zn rfl<|Zp rfl (fun _=>xext rfl rfl)<|Zp rfl (fun _=>xext rfl rfl)<|pe1 rfl<|sst rfl rfl rfl ti35 hb190 rfl rfl (ble rfl) fun w66 hch25 hb192=>?_
       have k273:=Ext.chg k267 hch25 (Nat.le_trans hx29.size hg21)
       have k274:=Ext.chg k268 hch25 (Nat.le_trans (Nat.le_refl _) hg21)
       have zs24:=Nat.le_trans zs23 (Nat.le_of_eq hch25.size.symm)
       have hb195:=Bx.chg hb191 hch25 (Ne.symm (Nat.ne_of_lt (Nat.lt_of_lt_of_le hb164.lt hg23)))
       have hb196:Bx w66 b27 35 [.int .i64 x9.1.1,.int .i64 x9.1.2]:=hb192
       refine nl ⟨fun _ _=>k274,?_⟩
       refine pe1 rfl<|sst rfl rfl rfl ti35 hb195 rfl rfl (ble rfl) fun w67 hch26 hb197=>?_
       have k278:=Ext.chg k273 hch26 (Nat.le_trans hx29.size (Nat.le_trans hx35.size hg23))
       have k279:=Ext.chg k274 hch26 (Nat.le_trans (Nat.le_refl _) (Nat.le_trans hx35.size hg23))
       have zs25:=Nat.le_trans zs24 (Nat.le_of_eq hch26.size.symm)
       have hb200:=Bx.chg hb196 hch26 (Nat.ne_of_lt (Nat.lt_of_lt_of_le hb164.lt hg23))
       have hb201:Bx w67 b29 35 [.int .i64 x9.2.1,.int .i64 x9.2.2]:=hb197
       refine nl ⟨fun _ _=>k279,?_⟩
       cases hB4
       refine lf<|?_
       exact ⟨_,rfl,⟨_,_,rfl,(Nat.le_trans hx29.size hg21),hb200,⟨[.int .i64 x9.1.1],[.int .i64 x9.1.2],rfl,rfl,rfl⟩⟩,l2_j1,l5_j1,l6_j1,l7_j1,l8_j1,l10_j1,zs25,k278⟩
      trivial
     refine pm rfl ?_ ?_
     ·
      refine sal ti35 fun b30 w68 hx40 hg24 hb202=>?_
      have k283:=hx29.tr hx40
      have zs26:=Nat.le_trans zs7 hx40.size
      have r199:=r141.ext hx40
      refine nl ⟨fun _ _=>hx40,?_⟩
      refine pe rfl ?_ ?_
      ·
       refine Zc (xc cb26 (mc rfl (mc rfl mn))) (c26 (show RV (α:=((List ((((Int×Int)×Int)×((Int×Int)×Int))×Bool))×Int×(Int×Int))) _ (.agg [.slice a1 x0.1.length cq1,.int .i64 0,.int .i64 (-100000),.int .i64 100000].toArray) (x0.1,0,((-100000),100000)) from ⟨_,rfl,⟨[.slice a1 x0.1.length cq1],[.int .i64 0]++([.int .i64 (-100000)]++[.int .i64 100000]),rfl,r199.rep1,⟨[.int .i64 0],[.int .i64 (-100000)]++[.int .i64 100000],rfl,rfl,⟨[.int .i64 (-100000)],[.int .i64 100000],rfl,rfl,rfl⟩⟩⟩⟩) (show RV (α:=(Int×Bool)) _ (.agg [.int .i64 x8.1,.bool x8.2].toArray) (x8.1,x8.2) from ⟨_,rfl,⟨[.int .i64 x8.1],[.bool x8.2],rfl,rfl,rfl⟩⟩) Ex9) ?_
       rintro _ w69 ⟨u22,u23,rfl,r201,r202,hx41⟩
       have k287:=k283.tr hx41
       have k288:=hx40.tr hx41
       have zs27:=Nat.le_trans zs26 hx41.size
       have hb207:=hb202.ext hx41
       have hz:=id r201; obtain ⟨_,rfl,⟨_,_,rfl,rfl,rfl⟩⟩:=hz
       have hz:=id r202; obtain ⟨_,rfl,⟨_,_,rfl,rfl,rfl⟩⟩:=hz
       refine nl ⟨fun _ _=>k288,?_⟩
       refine Zn rfl<|Zp rfl (fun _=>xext rfl rfl)<|Zp rfl (fun _=>xext rfl rfl)<|pe1 rfl<|sal ti35 fun b31 w70 hx42 hg25 hb208=>?_
       have k292:=k287.tr hx42
       have k293:=k288.tr hx42
       have zs28:=Nat.le_trans zs27 hx42.size
       refine nl ⟨fun _ _=>k293,?_⟩
       refine pe1 rfl<|sst rfl rfl rfl ti35 hb208 rfl rfl (ble rfl) fun w71 hch27 hb212=>?_
       have k297:=Ext.chg k292 hch27 (Nat.le_trans k287.size hg25)
       have k298:=Ext.chg k293 hch27 (Nat.le_trans k288.size hg25)
       have k299:=Ext.chg hx42 hch27 (Nat.le_trans (Nat.le_refl _) hg25)
       have zs29:=Nat.le_trans zs28 (Nat.le_of_eq hch27.size.symm)
       have hb215:=hb207.ext k299
       have hb216:Bx w71 b31 35 [.int .i64 x9.1.1,.int .i64 x9.1.2]:=hb212
       refine nl ⟨fun _ _=>k298,?_⟩
       refine pe1 rfl<|sst rfl rfl rfl ti35 hb215 rfl rfl (ble rfl) fun w72 hch28 hb217=>?_
       have k303:=Ext.chg k297 hch28 (Nat.le_trans hx29.size hg24)
       have k304:=Ext.chg k298 hch28 (Nat.le_trans (Nat.le_refl _) hg24)
       have zs30:=Nat.le_trans zs29 (Nat.le_of_eq hch28.size.symm)
       have hb220:=Bx.chg hb216 hch28 (Ne.symm (Nat.ne_of_lt (Nat.lt_of_lt_of_le hb207.lt hg25)))
       have hb221:Bx w72 b30 35 [.int .i64 x9.2.1,.int .i64 x9.2.2]:=hb217
       refine nl ⟨fun _ _=>k304,?_⟩
       cases hB4
       refine lf<|?_
       exact ⟨_,rfl,⟨_,_,rfl,(Nat.le_trans hx29.size (Nat.le_trans k288.size hg25)),hb220,⟨[.int .i64 x9.1.1],[.int .i64 x9.1.2],rfl,rfl,rfl⟩⟩,l2_j1,l5_j1,l6_j1,l7_j1,l8_j1,l10_j1,zs30,k303⟩
      refine pm rfl ?_ ?_
      ·
       refine sal ti35 fun b32 w73 hx43 hg26 hb222=>?_
       have k308:=k283.tr hx43
       have k309:=hx40.tr hx43
       have zs31:=Nat.le_trans zs26 hx43.size
       have r214:=r199.ext hx43
       refine nl ⟨fun _ _=>k309,?_⟩
       refine pe1 rfl<|Zc (xc cb26 (mc rfl (mc rfl mn))) (c26 (show RV (α:=((List ((((Int×Int)×Int)×((Int×Int)×Int))×Bool))×Int×(Int×Int))) _ (.agg [.slice a1 x0.1.length cq1,.int .i64 0,.int .i64 (-100000),.int .i64 100000].toArray) (x0.1,0,((-100000),100000)) from ⟨_,rfl,⟨[.slice a1 x0.1.length cq1],[.int .i64 0]++([.int .i64 (-100000)]++[.int .i64 100000]),rfl,r214.rep1,⟨[.int .i64 0],[.int .i64 (-100000)]++[.int .i64 100000],rfl,rfl,⟨[.int .i64 (-100000)],[.int .i64 100000],rfl,rfl,rfl⟩⟩⟩⟩) (show RV (α:=(Int×Bool)) _ (.agg [.int .i64 x8.1,.bool x8.2].toArray) (x8.1,x8.2) from ⟨_,rfl,⟨[.int .i64 x8.1],[.bool x8.2],rfl,rfl,rfl⟩⟩) Ex9) ?_
       rintro _ w74 ⟨u24,u25,rfl,r216,r217,hx44⟩
       have k313:=k308.tr hx44
       have k314:=k309.tr hx44
       have k315:=hx43.tr hx44
       have zs32:=Nat.le_trans zs31 hx44.size
       have hb229:=hb222.ext hx44
       have hz:=id r216; obtain ⟨_,rfl,⟨_,_,rfl,rfl,rfl⟩⟩:=hz
       have hz:=id r217; obtain ⟨_,rfl,⟨_,_,rfl,rfl,rfl⟩⟩:=hz
       refine nl ⟨fun _ _=>k314,?_⟩
       refine Zn rfl<|Zp rfl (fun _=>xext rfl rfl)<|Zp rfl (fun _=>xext rfl rfl)<|pe1 rfl<|sst rfl rfl rfl ti35 hb229 rfl rfl (ble rfl) fun w75 hch29 hb230=>?_
       have k319:=Ext.chg k313 hch29 (Nat.le_trans k283.size hg26)
       have k320:=Ext.chg k314 hch29 (Nat.le_trans hx40.size hg26)
       have k321:=Ext.chg k315 hch29 (Nat.le_trans (Nat.le_refl _) hg26)
       have zs33:=Nat.le_trans zs32 (Nat.le_of_eq hch29.size.symm)
       have hb233:=hb202.ext k321
       have hb234:Bx w75 b32 35 [.int .i64 x9.1.1,.int .i64 x9.1.2]:=hb230
       refine nl ⟨fun _ _=>k320,?_⟩
       refine pe1 rfl<|sst rfl rfl rfl ti35 hb233 rfl rfl (ble rfl) fun w76 hch30 hb235=>?_
       have k325:=Ext.chg k319 hch30 (Nat.le_trans hx29.size hg24)
       have k326:=Ext.chg k320 hch30 (Nat.le_trans (Nat.le_refl _) hg24)
       have zs34:=Nat.le_trans zs33 (Nat.le_of_eq hch30.size.symm)
       have hb238:=Bx.chg hb234 hch30 (Ne.symm (Nat.ne_of_lt (Nat.lt_of_lt_of_le hb202.lt hg26)))
       have hb239:Bx w76 b30 35 [.int .i64 x9.2.1,.int .i64 x9.2.2]:=hb235
       refine nl ⟨fun _ _=>k326,?_⟩
       cases hB4
       refine lf<|?_
       exact ⟨_,rfl,⟨_,_,rfl,(Nat.le_trans hx29.size (Nat.le_trans hx40.size hg26)),hb238,⟨[.int .i64 x9.1.1],[.int .i64 x9.1.2],rfl,rfl,rfl⟩⟩,l2_j1,l5_j1,l6_j1,l7_j1,l8_j1,l10_j1,zs34,k325⟩
      trivial
     trivial
    rintro L w77 ⟨v6,l11_j2,P11_j2,l2_j2,l5_j2,l6_j2,l7_j2,l8_j2,l10_j2,Z0_j2,K0_j2⟩
    have k327:=k149.tr K0_j2
    have k328:=k150.tr K0_j2
    have r225:=r120.ext K0_j2
    have hb240:=hb103.ext K0_j2
    have O70:=O35.ext K0_j2
    have hb241:=hb104.ext K0_j2
    obtain ⟨b33,cs8,rfl,hg27,hb242,q9⟩:=P11_j2
    obtain ⟨_,_,rfl,rfl,rfl⟩:=q9
    refine wp_seq<|wpl [] (.pure false 0 (.pure true 1 (.pure true 2 (.pure true 3 (.pure true 4 (.pure false 5 (.pure true 6 (.pure true 7 (.pure true 8 (.pure false 9 (.eff 10 (.pure true 11 (.pure true 12 (.pure true 13 (.pure true 14 (.pure true 15 .fin))))) .stop))))))))))) mixed (by kernel_rfl) (fun w78 hx45=>?_)
    have k330:=k327.tr hx45
    have k331:=k328.tr hx45
    have hb243:=hb240.ext hx45
    have r227:=r225.ext hx45
    have hb244:=hb241.ext hx45
    have hb245:=hb242.ext hx45
    have O71:=O70.ext hx45
    refine Zq rfl (fun _ hS=>xlda l2_j2 ti48 rfl (Bx.cs (hb243.ext (hS.resolve_left nofun)))) (Ext.refl _)<|Zn rfl<|Zn rfl<|Zp rfl (fun _=>xsub l8_j2 rfl)<|?_
    have hz:=bs hB1; obtain ⟨x10,Ex10,hB1⟩:=hz
    have hz:=(RV.els r13).ix Ex10; obtain ⟨b34,f5,cs9,e6,i10,i11,q10,hc9⟩:=hz
    cases e6
    obtain ⟨_,_,rfl,rfl,rfl⟩:=q10
    have hc10:=hc9.ext k331
    refine Zp rfl (fun _=>xixs l5_j2 rfl Tryz.underlying51 ti56 i10 i11)<|Zq rfl (fun _ hS=>xlda rfl ti56 rfl (hc10.ext (hS.resolve_left nofun))) (Ext.refl _)<|Zn rfl<|Zn rfl<|?_
    have hz:=bs hB1; obtain ⟨x11,Ex11,hB1⟩:=hz
    have hz:=ix2 r13 Ex11; obtain ⟨cs10,i12,i13,q11,hc11⟩:=hz
    obtain ⟨_,_,rfl,rfl,rfl⟩:=q11
    have hc12:=hc11.ext k331
    refine Zp rfl (fun _=>xixs l5_j2 l8_j2 Tryz.underlying51 ti56 i12 i13)<|Zq rfl (fun _ hS=>xlda rfl ti56 rfl (hc12.ext (hS.resolve_left nofun))) (Ext.refl _)<|?_
    have hz:=bs hB1; obtain ⟨x12,Ex12,hB1⟩:=hz
    refine pe1 rfl<|Zc (xc cb33 (mc rfl (mc rfl (mc rfl mn)))) (c33 (show RV (α:=((List ((((Int×Int)×Int)×((Int×Int)×Int))×Bool))×Int×(Int×Int))) _ (.agg [.slice a1 x0.1.length cq1,.int .i64 0,.int .i64 (-100000),.int .i64 100000].toArray) (x0.1,0,((-100000),100000)) from ⟨_,rfl,⟨[.slice a1 x0.1.length cq1],[.int .i64 0]++([.int .i64 (-100000)]++[.int .i64 100000]),rfl,r227.rep1,⟨[.int .i64 0],[.int .i64 (-100000)]++[.int .i64 100000],rfl,rfl,⟨[.int .i64 (-100000)],[.int .i64 100000],rfl,rfl,rfl⟩⟩⟩⟩) (show RV (α:=(Int×Bool)) _ (.agg [.int .i64 x10.1,.bool x10.2].toArray) (x10.1,x10.2) from ⟨_,rfl,⟨[.int .i64 x10.1],[.bool x10.2],rfl,rfl,rfl⟩⟩) (show RV (α:=(Int×Bool)) _ (.agg [.int .i64 x11.1,.bool x11.2].toArray) (x11.1,x11.2) from ⟨_,rfl,⟨[.int .i64 x11.1],[.bool x11.2],rfl,rfl,rfl⟩⟩) Ex12) ?_
    rintro _ w79 ⟨rfl,hx46⟩
    have k334:=k330.tr hx46
    have k335:=k331.tr hx46
    have hb247:=hb244.ext hx46
    have hb248:=hb245.ext hx46
    have O72:=O71.ext hx46
    refine nl ⟨fun _ _=>hx46,?_⟩
    refine Zn rfl<|Zp rfl (fun _=>xext rfl rfl)<|Zp rfl (fun _=>xext rfl rfl)<|Zp rfl (fun _=>xas)<|Zp rfl (fun _=>xas)<|Zr<|Zv (xlda l10_j2 ti35 rfl (Bx.cs hb247))<|Zv (xlda l11_j2 ti35 rfl (Bx.cs hb248))<|sbsv (cs:=[.int .i64 y4.1,.int .i64 y4.2,.int .i64 y5.1,.int .i64 y5.2]) Tryz.underlying32 ti35 rfl (pc rfl (pc rfl pn)) rfl rfl rfl rfl rfl fun b35 w80 hx47 hg28 hb249=>?_
    have k338:=k334.tr hx47
    have k339:=k335.tr hx47
    have hb251:=hb247.ext hx47
    have hb252:=hb248.ext hx47
    have O73:=O72.ext hx47
    have o3:Row (α:=(Int×Int)) 35 w79.heap.size w80 (.slice (some ⟨b35,0,none⟩) 2 2) [(y4.1,y4.2),(y5.1,y5.2)]:=Row.lit hg28 hb249 rfl (ble rfl)
    refine Za<|nl<|Zr<|Zm<|?_
    have hz:=bs hB1; obtain ⟨x13,Ex13,hB1⟩:=hz
    refine Zc (xc cb34 (mc rfl (mc rfl (mc rfl mn)))) (c34 o3.rv Ex13) ?_
    rintro _ w81 ⟨u26,rfl,r234,hx48⟩
    have k343:=k338.tr hx48
    have k344:=k339.tr hx48
    have hb254:=hb251.ext hx48
    have hb255:=hb252.ext hx48
    have O74:=O73.ext hx48
    have o4:=o3.ext hx48
    have hz:=id r234; obtain ⟨_,rfl,⟨_,_,rfl,rfl,rfl⟩⟩:=hz
    refine Zm<|Zv (xext rfl rfl)<|Zv (xext rfl rfl)<|sal ti68 fun b36 w82 hx49 hg29 hb256=>?_
    have k349:=k343.tr hx49
    have k350:=k344.tr hx49
    refine sst rfl rfl rfl ti68 hb256 rfl rfl (ble rfl) fun w83 hch31 hb260=>?_
    have k355:=Ext.chg k349 hch31 (Nat.le_trans k343.size hg29)
    have k356:=Ext.chg k350 hch31 (Nat.le_trans k344.size hg29)
    have k361:=Ext.chg hx49 hch31 (Nat.le_trans (Nat.le_refl _) hg29)
    have hb262:=hb254.ext k361
    have hb263:=hb255.ext k361
    have O76:=O74.ext k361
    have o6:=o4.ext k361
    have hb264:Bx w83 b36 68 [.bool x13.1.1,.bool x13.1.2]:=hb260
    refine Za<|nl<|Zr<|Zm<|?_
    have hz:=bs hB1; obtain ⟨x14,Ex14,hB1⟩:=hz
    refine Zc (xc cb20 (mc rfl mn)) (c20 o6.rv Ex14) ?_
    rintro _ w84 ⟨u27,rfl,r242,hx50⟩
    have k362:=k355.tr hx50
    have k363:=k356.tr hx50
    have hb266:=hb262.ext hx50
    have hb267:=hb263.ext hx50
    have hb268:=hb264.ext hx50
    have O77:=O76.ext hx50
    have hz:=RV.sl r242; obtain ⟨a5,cq5,rfl,-,-,-⟩:=hz
    refine Zm<|Zv (xext rfl rfl)<|Zv (xext rfl rfl)<|Za<|Za<|nl<|wp_seq<|Zr<|Zm<|Zv (xneq rfl rfl)<|Zm<|Zg rfl rfl (gw0 rfl) (fun hc=>xmva rfl)<|Zg rfl rfl (gw0 rfl) (fun hc=>xneq (mv hc rfl) rfl)<|Zv (xpo rfl rfl rfl)<|Zm<|Zg rfl rfl (gw0 rfl) (fun hc=>xmva rfl)<|Zg rfl rfl (gw0 rfl) (fun hc=>xneq (mv hc rfl) rfl)<|Zv (xpo rfl rfl rfl)<|Zm<|Zg rfl rfl (gw0 rfl) (fun hc=>xlda rfl ti68 rfl (Bx.cs hb268))<|Zg rfl rfl (gw0 rfl) (fun hc=>xmva rfl)<|Zg rfl rfl (gw0 rfl) (fun hc=>xmva rfl)<|Zg rfl rfl (gw0 rfl) (fun hc=>xbdv (r:=[.bool x12.1,.bool x12.1]) ti68 sp68 (pc (mv hc rfl) (pc (mv hc rfl) pn)) rfl)<|Zg rfl rfl (gw0 rfl) (fun hc=>xagn (α:=(Bool×Bool)) (a:=(x13.1.1,x13.1.2)) (b:=(x12.1,x12.1)) rfl eg68 eq68 rfl (mv hc rfl) (mv hc rfl) rfl rfl)<|Zv (xpo rfl rfl rfl)<|Zm<|Zg rfl rfl (gw0 rfl) (fun hc=>xmva rfl)<|Zg rfl rfl (gw0 rfl) (fun hc=>xlen (mv hc rfl) Tryz.underlying28)<|Zg rfl rfl (gw0 rfl) (fun hc=>xeql (mv hc rfl) rfl)<|Zg rfl rfl (gw0 rfl) (fun hc=>xmva rfl)<|Zg rfl rfl (gw0 rfl) (fun hc=>xneb Tryz.underlying4 (mv hc rfl) (mv hc rfl))<|Zv (xpo rfl rfl rfl)<|nl<|cnd rfl (fun h5=>?_) (fun h5=>?_)
    ·
     have hB1:=ifp hB1 h5
     refine Zr<|Za<|nl<|?_
     cases hB1
     have hF:=(show some _=some _ from hF); cases hF
     exact wp_ret<|rt rfl (.tmp rfl rfl .nil) ⟨rfl,k362⟩
    ·
     have hB1:=ifn hB1 h5
     refine wp_skip<|Zr<|Zm<|Zm<|Zg rfl rfl (gw1 l7_j2) (fun hc=>xmva rfl)<|Zv (xpa l7_j2 rfl rfl)<|Za<|nl<|rg<|Zm<|Zv (xlda l10_j2 ti35 rfl (Bx.cs hb266))<|Zv (xlda l11_j2 ti35 rfl (Bx.cs hb267))<|sbsv (cs:=[.int .i64 y4.1,.int .i64 y4.2,.int .i64 y5.1,.int .i64 y5.2]) Tryz.underlying32 ti35 rfl (pc rfl (pc rfl pn)) rfl rfl rfl rfl rfl fun b37 w85 hx51 hg30 hb269=>?_
     have k370:=k363.tr hx51
     have O78:=O77.ext hx51
     have o7:Row (α:=(Int×Int)) 35 w84.heap.size w85 (.slice (some ⟨b37,0,none⟩) 2 2) [(y4.1,y4.2),(y5.1,y5.2)]:=Row.lit hg30 hb269 rfl (ble rfl)
     have hz:=bs hB1; obtain ⟨x15,Ex15,hB1⟩:=hz
     refine sapx (l:=y1) (k:=([(y4.1,y4.2),(y5.1,y5.2)]:List (Int×Int))) l6_j2 rfl Tryz.underlying32 ti35 rfl rfl O78 (RV.els o7.rv) Ex15 k370.size fun v7 w86 o8 hB7 hgr1 how1=>?_
     have k377:Ext w6 w86:=k370.trans hB7
     have hz:=RV.sl o8.rv; obtain ⟨a6,cq6,rfl,-,-,-⟩:=hz
     refine Za<|nl<|rg<|Zm<|Zv (xadd l8_j2 rfl)<|Za<|nl<|?_
     refine lq m (Nat.lt_succ_self _)<|?_
     exact ⟨_,_,_,_,hB1,rfl,o8,rfl,rfl,l2_j2,l5_j2,k377⟩
   ·
    have hB1:=ifn hB1 h4
    refine wp_exit<|?_
    cases hB1
    refine lf<|?_
    exact ⟨_,_,_,rfl,l6_i1,O6_i1,l7_i1,l2_i1,l5_i1,K0_i1⟩
  rintro L w87 ⟨z1,z2,v4,rfl,l6_j3,O6_j3,l7_j3,l2_j3,l5_j3,K0_j3⟩
  have k378:=k5.tr K0_j3
  have r250:=r14.ext K0_j3
  have hb272:=hb7.ext K0_j3
  have r251:=r13.ext K0_j3
  have hz:=RV.sl O6_j3.rv; obtain ⟨a7,cq7,rfl,-,-,-⟩:=hz
  refine Zr<|Zv (xlda l2_j3 ti48 rfl (Bx.cs hb272))<|Zm<|?_
  have hz:=bs hF; obtain ⟨x16,Ex16,hF⟩:=hz
  refine Zc (xc cb28 (mc rfl (mc l5_j3 mn))) (c28 (show RV (α:=((List ((((Int×Int)×Int)×((Int×Int)×Int))×Bool))×Int×(Int×Int))) _ (.agg [.slice a1 x0.1.length cq1,.int .i64 0,.int .i64 (-100000),.int .i64 100000].toArray) (x0.1,0,((-100000),100000)) from ⟨_,rfl,⟨[.slice a1 x0.1.length cq1],[.int .i64 0]++([.int .i64 (-100000)]++[.int .i64 100000]),rfl,r250.rep1,⟨[.int .i64 0],[.int .i64 (-100000)]++[.int .i64 100000],rfl,rfl,⟨[.int .i64 (-100000)],[.int .i64 100000],rfl,rfl,rfl⟩⟩⟩⟩) r251 Ex16) ?_
  rintro _ w88 ⟨rfl,hx52⟩
  have k379:=k378.tr hx52
  have O79:=O6_j3.ext hx52
  refine Za<|nl<|wp_seq<|Zr<|Zm<|Zv (xeql rfl rfl)<|Zm<|Zv (xneb Tryz.underlying4 rfl l7_j3)<|Zm<|Zg rfl rfl (gw0 rfl) (fun hc=>xmva rfl)<|Zg rfl rfl (gw0 rfl) (fun hc=>xneq (mv hc rfl) rfl)<|Zg rfl rfl (gw0 rfl) (fun hc=>xmva (mv hc rfl))<|Zg rfl rfl (gn1 rfl) (fun hc=>xmva rfl)<|Zg rfl rfl (gn1 rfl) (fun hc=>xneq (mv hc rfl) rfl)<|Zg rfl rfl (gw0 rfl) (fun hc=>xpa (mv hc rfl) (mvn hc rfl) rfl)<|Zv (xpo rfl rfl rfl)<|nl<|cnd rfl (fun h6=>?_) (fun h6=>?_)
  ·
   have hF:=ifp hF h6
   refine Zr<|Za<|nl<|?_
   cases hF
   exact wp_ret<|rt rfl (.tmp rfl rfl .nil) ⟨rfl,k379⟩
  ·
   have hF:=ifn hF h6
   refine wp_skip<|wp_seq<|Zr<|Zm<|Zv (xnot l7_j3)<|Zm<|Zg rfl rfl (gw0 rfl) (fun hc=>xmva l6_j3)<|Zg rfl rfl (gw0 rfl) (fun hc=>xlen (mv hc rfl) Tryz.underlying32)<|Zg rfl rfl (gw0 rfl) (fun hc=>xeql (mv hc rfl) rfl)<|Zv (xpo rfl rfl rfl)<|nl<|cnd rfl (fun h7=>?_) (fun h7=>?_)
   ·
    have hF:=ifp hF h7
    refine Zr<|?_
    have hz:=bs hF; obtain ⟨x17,Ex17,hF⟩:=hz
    refine Zc (xc cb15 mn) (c15 Ex17) ?_
    rintro _ w89 ⟨rfl,hx53⟩
    have k381:=k379.tr hx53
    refine Za<|nl<|?_
    cases hF
    exact wp_ret<|rt rfl (.tmp rfl rfl .nil) ⟨rfl,k381⟩
   ·
    have hF:=ifn hF h7
    refine wp_skip<|Zr<|Zm<|?_
    have hz:=bs hF; obtain ⟨x18,Ex18,hF⟩:=hz
    refine Zc (xc cb20 (mc l6_j3 mn)) (c20 O79.rv Ex18) ?_
    rintro _ w90 ⟨u28,rfl,r253,hx54⟩
    have k383:=k379.tr hx54
    have O80:=O79.ext hx54
    have hz:=RV.sl r253; obtain ⟨a8,cq8,rfl,-,-,-⟩:=hz
    refine Zm<|Zv (xext rfl rfl)<|Zv (xext rfl rfl)<|Za<|Za<|nl<|Zr<|Zm<|Zv (xeql rfl rfl)<|Zm<|Zg rfl rfl (gw1 rfl) (fun hc=>xmva rfl)<|Zg rfl rfl (gw1 rfl) (fun hc=>xlen (mv hc rfl) Tryz.underlying28)<|Zg rfl rfl (gw1 rfl) (fun hc=>xmva l5_j3)<|Zg rfl rfl (gw1 rfl) (fun hc=>xlen (mv hc rfl) Tryz.underlying51)<|Zg rfl rfl (gw1 rfl) (fun hc=>xsub (mv hc rfl) rfl)<|Zg rfl rfl (gw1 rfl) (fun hc=>xleq (mv hc rfl) (mv hc rfl))<|Zv (xpa rfl rfl rfl)<|Zm<|Zg rfl rfl (gw1 rfl) (fun hc=>xmva l6_j3)<|Zg rfl rfl (gw1 rfl) (fun hc=>xmva rfl)<|?_
    have hz:=bs hF; obtain ⟨x19,Ex19,hF⟩:=hz
    refine gc rfl rfl rfl rfl (gw1 rfl) rfl (fun hc=>xc cb23 (mc (mv hc rfl) (mc (mv hc rfl) mn))) (fun hc=>(c23 O80.rv r253 (gdp Ex19 hc))) (fun v8 w91 hy1 hn1=>?_)
    have hx55:Ext w90 w91:=gx (fun h=>(hy1 h).2) (fun h=>(hn1 h).2 ▸ Ext.refl _)
    have e7:=mkw (fun h=>(hy1 h).1) (fun h=>(hn1 h).1)
    have k385:=k383.tr hx55
    refine Zg rfl rfl (gw1 rfl) (fun hc=>xeql (mv hc e7) rfl)<|Zv (xpa rfl rfl rfl)<|Zm<|?_
    have hz:=bs hF; obtain ⟨x20,Ex20,hF⟩:=hz
    refine gc rfl rfl rfl rfl (gw1 rfl) rfl (fun hc=>xc cb15 mn) (fun hc=>(c15 (gdp Ex20 hc))) (fun v9 w92 hy2 hn2=>?_)
    have hx56:Ext w91 w92:=gx (fun h=>(hy2 h).2) (fun h=>(hn2 h).2 ▸ Ext.refl _)
    have e8:=mkw (fun h=>(hy2 h).1) (fun h=>(hn2 h).1)
    have k387:=k385.tr hx56
    refine Zv (xpa rfl e8 rfl)<|Za<|nl<|?_
    cases hF
    exact wp_ret<|rt rfl (.tmp rfl rfl .nil) ⟨rfl,k387⟩
end Go.Proofs.YtfmelbioccbdoaaGreat
end
section
namespace Go.Proofs.YtfmelbioccbdoaaGreat
open Go Go.Md Go.RowKit
theorem w64_in {n:Int} (h:-9223372036854775808≤n∧n≤9223372036854775807):w64 n=n:=IntWalk.i64_in n h
def idxL {α:Type} (l:List α) (f:α→Option Bool):Nat→Int→Option (Sum Int Unit)
 | 0,_=>none
 | m + 1,k =>
  if (decide (k<(l.length:Int)))=true then
   (ix l k) >>= fun x=>(f x) >>= fun b=>if b=true then some (.inl k) else idxL l f m (w64 (k + 1))
  else some (.inr ())
theorem ix_nat {α:Type} {l:List α} {k:Nat} (h:k<l.length):ix l (k:Int)=some l[k]:=by
 simp [ix,List.getElem?_eq_getElem h]
theorem idxL_any {α:Type} {l:List α} {f:α→Option Bool} {p:α→Bool} (hf:∀ x∈l,f x=some (p x)) (hl:l.length<4611686018427387904) :
  ∀ (m k:Nat),k≤l.length→l.length - k<m→∃ r,idxL l f m (k:Int)=some r∧((l.drop k).any p=true→∃ j:Nat,r=.inl (j:Int))∧((l.drop k).any p=false→r=.inr ())
 | 0,k,_,h=>by omega
 | m + 1,k,hk,h=>by
  unfold idxL
  by_cases hlt:k<l.length
  ·have e:decide ((k:Int)<(l.length:Int))=true:=by simpa using hlt
   rw [if_pos e,ix_nat hlt]
   have hd:l.drop k=l[k]::l.drop (k + 1):=List.drop_eq_getElem_cons hlt
   have hfx:=hf l[k] (List.getElem_mem hlt)
   simp only [Option.bind_eq_bind,Option.bind_some,hfx]
   cases hp:p l[k] with
   | true =>
    refine ⟨_,if_pos rfl,fun _=>⟨k,rfl⟩,fun h=>?_⟩
    rw [hd,List.any_cons,hp] at h
    cases h
   | false =>
    rw [if_neg (by simp),w64_in (by omega)]
    obtain ⟨r,h1,h2,h3⟩:=idxL_any hf hl m (k + 1) (by omega) (by omega)
    refine ⟨r,h1,?_,?_⟩ <;> rw [hd,List.any_cons,hp,Bool.false_or] <;> assumption
  ·have e:¬ decide ((k:Int)<(l.length:Int))=true:=by simpa using hlt
   rw [if_neg e]
   have:l.drop k=[]:=List.drop_of_length_le (by omega)
   refine ⟨_,rfl,?_,fun _=>rfl⟩
   rw [this]
   intro h
   cases h
section
variable {α:Type} {f:α→Option Bool} {p:α→Bool}
theorem idx_int {l:List Int} {f:Int→Option Bool} (F:Nat):∀ m k,slices_IndexFunc_int_l1 F l f m k=idxL l f m k
 | 0,_=>rfl
 | m + 1,k=>by unfold slices_IndexFunc_int_l1 idxL; simp only [idx_int F m]
theorem idx_int64 {l:List Int} {f:Int→Option Bool} (F:Nat):∀ m k,slices_IndexFunc_int64_l1 F l f m k=idxL l f m k
 | 0,_=>rfl
 | m + 1,k=>by unfold slices_IndexFunc_int64_l1 idxL; simp only [idx_int64 F m]
theorem idx_rule {l:List (Int×Int×Int)} {f:(Int×Int×Int)→Option Bool} (F:Nat):∀ m k,slices_IndexFunc_api_SpeedRule_l1 F l f m k=idxL l f m k
 | 0,_=>rfl
 | m + 1,k=>by unfold slices_IndexFunc_api_SpeedRule_l1 idxL; simp only [idx_rule F m]
theorem con_int {l:List Int} {f:Int→Option Bool} {p:Int→Bool} {F:Nat} (hf:∀ x∈l,f x=some (p x)) (hF:l.length<F) (hl:l.length<4611686018427387904):slices_ContainsFunc_int F l f=some (l.any p):=by
 obtain ⟨r,h1,h2,h3⟩:=idxL_any hf hl F 0 (Nat.zero_le _) (by omega)
 unfold slices_ContainsFunc_int slices_IndexFunc_int
 rw [idx_int]
 simp only [Int.natCast_zero,List.drop_zero] at h1 h2 h3
 rw [h1]
 cases hp:l.any p with
 | true=>obtain ⟨j,rfl⟩:=h2 hp; simp [Option.bind_eq_bind]
 | false=>obtain rfl:=h3 hp; simp [Option.bind_eq_bind]
theorem con_int64 {l:List Int} {f:Int→Option Bool} {p:Int→Bool} {F:Nat} (hf:∀ x∈l,f x=some (p x)) (hF:l.length<F) (hl:l.length<4611686018427387904):slices_ContainsFunc_int64 F l f=some (l.any p):=by
 obtain ⟨r,h1,h2,h3⟩:=idxL_any hf hl F 0 (Nat.zero_le _) (by omega)
 unfold slices_ContainsFunc_int64 slices_IndexFunc_int64
 rw [idx_int64]
 simp only [Int.natCast_zero,List.drop_zero] at h1 h2 h3
 rw [h1]
 cases hp:l.any p with
 | true=>obtain ⟨j,rfl⟩:=h2 hp; simp [Option.bind_eq_bind]
 | false=>obtain rfl:=h3 hp; simp [Option.bind_eq_bind]
theorem con_rule {l:List (Int×Int×Int)} {f:(Int×Int×Int)→Option Bool} {p:(Int×Int×Int)→Bool} {F:Nat} (hf:∀ x∈l,f x=some (p x)) (hF:l.length<F) (hl:l.length<4611686018427387904):slices_ContainsFunc_api_SpeedRule F l f=some (l.any p):=by
 obtain ⟨r,h1,h2,h3⟩:=idxL_any hf hl F 0 (Nat.zero_le _) (by omega)
 unfold slices_ContainsFunc_api_SpeedRule slices_IndexFunc_api_SpeedRule
 rw [idx_rule]
 simp only [Int.natCast_zero,List.drop_zero] at h1 h2 h3
 rw [h1]
 cases hp:l.any p with
 | true=>obtain ⟨j,rfl⟩:=h2 hp; simp [Option.bind_eq_bind]
 | false=>obtain rfl:=h3 hp; simp [Option.bind_eq_bind]
end
def inR (lo hi n:Int):Bool:=decide (lo≤n) && decide (n≤hi)
theorem any_inR {lo hi:Int} (l:List Int):(!l.any fun n=>decide (n<lo) || decide (hi<n))=l.all (inR lo hi):=by
 induction l with
 | nil=>rfl
 | cons a l ih =>
  simp only [List.any_cons,List.all_cons,Bool.not_or,ih,inR]
  congr 1
  by_cases h1:a<lo <;> by_cases h2:hi<a <;> simp [h1,h2] <;> omega
theorem turns_eq {F:Nat} {lo hi:Int} {l:List Int} (hF:l.length<F) (hl:l.length<4611686018427387904):speed_turns F lo hi l=some (l.all (inR lo hi)):=by
 unfold speed_turns
 rw [con_int (f:=fun y=>speed_turns_1 y lo hi) (p:=fun n=>decide (n<lo) || decide (hi<n)) (fun x _=>rfl) hF hl]
 simp only [Option.bind_eq_bind,Option.bind_some,any_inR]
theorem within_eq {F:Nat} {lo hi:Int} {l:List Int} (hF:l.length<F) (hl:l.length<4611686018427387904):speed_within F lo hi l=some (l.all (inR lo hi)):=by
 unfold speed_within
 rw [con_int64 (f:=fun y=>speed_within_1 y lo hi) (p:=fun n=>decide (n<lo) || decide (hi<n)) (fun x _=>rfl) hF hl]
 simp only [Option.bind_eq_bind,Option.bind_some,any_inR]
theorem works:law01_Works 1000=some true:=by kernel_rfl
end Go.Proofs.YtfmelbioccbdoaaGreat
end
section
namespace Go.Proofs.YtfmelbioccbdoaaGreat
open Go Go.Md Go.RowKit
def okRule (T:Int) (r:Int×Int×Int):Bool:=inR 0 T r.1 && inR 0 T r.2.1 && !decide (r.1=r.2.1) && inR (-100000) 100000 r.2.2
def csheet (x:Int×List (Int×Int×Int)):Int :=
 if 60<x.2.length then 6 else if inR 1 20 x.1=true then (if x.2.all (okRule x.1)=true then 0 else 3) else 2
theorem bad_eq {F:Nat} (hF:3<F) (T:Int) (s:List (Int×Int×Int)) (r:Int×Int×Int):speed_CheckSheet_1 F r (T,s)=some (!okRule T r):=by
 unfold speed_CheckSheet_1
 rw [turns_eq (by simp; omega) (by simp),within_eq (by simp; omega) (by simp)]
 simp only [Option.bind_eq_bind,Option.bind_some,List.all_cons,List.all_nil,Bool.and_true,okRule]
 cases h1:inR 0 T r.1 <;> cases h2:inR 0 T r.2.1 <;> by_cases h3:r.1=r.2.1 <;> cases h4:inR (-100000) 100000 r.2.2 <;> simp [gd,h3]
theorem any_not {α:Type} {p:α→Bool} (l:List α):(l.any fun x=>!p x)=!l.all p:=by
 induction l with
 | nil=>rfl
 | cons a l ih=>simp [ih,Bool.not_and]
theorem checkSheet_eq {F:Nat} (hF:100<F) (x:Int×List (Int×Int×Int)):speed_CheckSheet F x=some (csheet x):=by
 unfold speed_CheckSheet csheet
 by_cases h1:60<x.2.length
 ·rw [if_pos (by simp; omega),if_pos h1]
 ·rw [if_neg (by simp; omega),if_neg h1,turns_eq (by simp; omega) (by simp)]
  simp only [Option.bind_eq_bind,Option.bind_some,List.all_cons,List.all_nil,Bool.and_true]
  cases h2:inR 1 20 x.1 with
  | false=>simp
  | true =>
   rw [con_rule (p:=fun r=>!okRule x.1 r) (fun r _=>bad_eq (by omega) x.1 x.2 r) (by omega) (by omega),any_not]
   simp only [Option.bind_some]
   cases x.2.all (okRule x.1) <;> simp
theorem csheet_ok {x:Int×List (Int×Int×Int)} (h:csheet x=0):x.2.length≤60∧1≤x.1∧x.1≤20∧∀ r∈x.2,okRule x.1 r=true:=by
 unfold csheet at h
 split at h
 ·cases h
 ·rename_i h1
  split at h
  ·rename_i h2
   split at h
   ·rename_i h3
    simp only [inR,Bool.and_eq_true,decide_eq_true_eq] at h2
    exact ⟨by omega,h2.1,h2.2,List.all_eq_true.1 h3⟩
   ·cases h
  ·cases h
def turnR (n:Nat):List (Int×Int×Int):=(List.range n).flatMap fun (t:Nat)=>[(0,(t:Int) + 1,100000),((t:Int) + 1,0,0)]
theorem turnR_succ (n:Nat):turnR (n + 1)=turnR n++[(0,(n:Int) + 1,100000),((n:Int) + 1,0,0)]:=by simp [turnR,List.range_succ]
theorem turnR_len (n:Nat):(turnR n).length=2 * n:=by
 induction n with
 | zero=>rfl
 | succ n ih=>rw [turnR_succ,List.length_append,ih]; simp; omega
def whole (x:Int×List (Int×Int×Int)):List (Int×Int×Int):=x.2++turnR x.1.toNat
theorem app_some {α:Type} {b:Nat} {l k:List α} (h:(l.length + k.length) * b≤140737488355328):app b l k=some (l++k):=by
 unfold app
 rw [if_pos h]
theorem newNet_l1 {F:Nat} {x:Int×List (Int×Int×Int)} {N:Nat} (hN:x.1=N) (h20:N≤20) (hl:x.2.length≤60) (y:(Int×List (Int×Int×Int))×List (Int×Int×Int)):∀ (m k:Nat),k≤N→N - k<m →
  speed_newNet_l1 F x m (k:Int) ((x.1,x.2),x.2++turnR k)=some ((x.1,x.2),x.2++turnR N)
 | 0,k,_,h=>by omega
 | m + 1,k,hk,h=>by
  unfold speed_newNet_l1
  by_cases hlt:k<N
  ·rw [if_pos (by simp; omega)]
   have hlen:=turnR_len k
   rw [app_some (by simp only [List.length_append,List.length_cons,List.length_nil,hlen]; omega)]
   simp only [Option.bind_eq_bind,Option.bind_some]
   rw [w64_in (by omega),List.append_assoc,← turnR_succ]
   exact newNet_l1 hN h20 hl y m (k + 1) (by omega) (by omega)
  ·have:k=N:=by omega
   subst this
   rw [if_neg (by simp; omega)]
theorem newNet_eq {F:Nat} (hF:100<F) {x:Int×List (Int×Int×Int)} (h0:0≤x.1) (h20:x.1≤20) (hl:x.2.length≤60):speed_newNet F x=some ⟨some ((x.1,x.2),whole x)⟩:=by
 unfold speed_newNet slices_Clone_rules
 rw [app_some (by simp; omega)]
 simp only [Option.bind_eq_bind,Option.bind_some,List.nil_append]
 have:=newNet_l1 (F:=F) (x:=x) (N:=x.1.toNat) (by omega) (by omega) hl ((x.1,x.2),[]) F 0 (Nat.zero_le _) (by omega)
 simp only [Int.natCast_zero,turnR,List.range_zero,List.flatMap_nil,List.append_nil] at this
 rw [this]
 rfl
theorem whole_len {x:Int×List (Int×Int×Int)} (h:csheet x=0):(whole x).length≤100:=by
 obtain ⟨h1,h2,h3,_⟩:=csheet_ok h
 simp only [whole,List.length_append,turnR_len]
 omega
def ofS (s:List Int) (t:Int):Int:=if t=0 then 0 else (ix s (t - 1)).getD 0
end Go.Proofs.YtfmelbioccbdoaaGreat
end
section
namespace Go.Proofs.YtfmelbioccbdoaaGreat
namespace BF
abbrev Rl:=Int×Int×Int×Int
def NEV:Int:=1125899906842624
structure St where
 f:Int→Int
 b:Int→Option Rl
 r:Int→Nat
def up {α:Type} (g:Int→α) (i:Int) (v:α):Int→α:=fun t=>if t=i then v else g t
theorem up_same {α:Type} {g:Int→α} {i:Int} {v:α}:up g i v i=v:=by simp [up]
theorem up_ne {α:Type} {g:Int→α} {i t:Int} {v:α} (h:t≠i):up g i v t=g t:=by simp [up,h]
def cnd (f:Int→Int) (p:Rl):Prop:=f p.2.1≠NEV∧f p.2.1 + p.2.2.2<f p.2.2.1
instance {f:Int→Int} {p:Rl}:Decidable (cnd f p):=by unfold cnd; infer_instance
def rel (K:Nat) (s:St) (p:Rl):St:=if cnd s.f p then ⟨up s.f p.2.2.1 (s.f p.2.1 + p.2.2.2),up s.b p.2.2.1 (some p),up s.r p.2.2.1 K⟩ else s
def pass (R:List Rl) (K:Nat) (s:St):St:=R.foldl (rel K) s
def start:St:=⟨fun _=>0,fun _=>none,fun _=>0⟩
inductive Back (b:Int→Option Rl):Int→Int→Int→Nat→Prop
 | one {v:Int} {p:Rl} (h:b v=some p):Back b v p.2.1 p.2.2.2 1
 | more {v u c:Int} {n:Nat} {p:Rl} (h:b v=some p) (k:Back b p.2.1 u c n):Back b v u (p.2.2.2 + c) (n + 1)
theorem Back.snoc {b:Int→Option Rl} {v u c:Int} {n:Nat} (h:Back b v u c n) {p:Rl} (hp:b u=some p):Back b v p.2.1 (c + p.2.2.2) (n + 1):=by
 induction h with
 | one h=>exact .more h (.one hp)
 | more h k ih =>
  have:=ih hp
  rw [Int.add_assoc]
  exact .more h this
theorem Back.pos {b:Int→Option Rl} {v u c:Int} {n:Nat} (h:Back b v u c n):1≤n:=by cases h <;> omega
theorem Back.start {b:Int→Option Rl} {v u c:Int} {n:Nat} (h:Back b v u c n):∃ p,b v=some p:=by cases h <;> exact ⟨_,by assumption⟩
structure Inv (N:Int→Prop) (K:Nat) (done left:List Rl) (s:St):Prop where
 i1:∀ v,s.b v=none↔s.r v=0
 i2:∀ v p,s.b v=some p→p∈done++left∧p.2.2.1=v∧s.f p.2.1 + p.2.2.2≤s.f v
 i3:∀ v p,s.b v=some p→s.r v≤s.r p.2.1 + 1
 i4d:∀ q∈done,s.r q.2.1 + 1≤K→s.f q.2.2.1≤s.f q.2.1 + q.2.2.2
 i4l:∀ q∈left,s.r q.2.1 + 2≤K→s.f q.2.2.1≤s.f q.2.1 + q.2.2.2
 i5:∀ v c n,Back s.b v v c n→c<0
 i6:∀ v,s.r v≤K
 i7:∀ v,s.f v≤0
theorem cyc {s:St} {p:Rl} (h:∀ v q,s.b v=some q→s.f q.2.1 + q.2.2.2≤s.f v) (hne:p.2.1≠p.2.2.1) (hc:cnd s.f p) :
  ∀ {v u c n},Back (up s.b p.2.2.1 (some p)) v u c n →
   up s.f p.2.2.1 (s.f p.2.1 + p.2.2.2) u + c<up s.f p.2.2.1 (s.f p.2.1 + p.2.2.2) v ∨
   (up s.f p.2.2.1 (s.f p.2.1 + p.2.2.2) u + c≤up s.f p.2.2.1 (s.f p.2.1 + p.2.2.2) v∧u≠p.2.2.1∧(v≠p.2.2.1→Back s.b v u c n)):=by
 obtain ⟨_,hlt⟩:=hc
 intro v u c n hb
 induction hb with
 | @one v q hq =>
  by_cases hv:v=p.2.2.1
  ·subst hv
   rw [up_same] at hq
   cases hq
   refine .inr ⟨?_,hne,fun h=>(h rfl).elim⟩
   rw [up_same,up_ne hne]
   exact Int.le_refl _
  ·rw [up_ne hv] at hq
   have h2:=h v q hq
   rw [up_ne hv]
   by_cases hu:q.2.1=p.2.2.1
   ·left
    rw [hu,up_same]
    rw [hu] at h2
    omega
   ·right
    rw [up_ne hu]
    exact ⟨h2,hu,fun _=>.one hq⟩
 | @more v u c n q hq k ih =>
  have step:up s.f p.2.2.1 (s.f p.2.1 + p.2.2.2) q.2.1 + q.2.2.2<up s.f p.2.2.1 (s.f p.2.1 + p.2.2.2) v ∨
    (up s.f p.2.2.1 (s.f p.2.1 + p.2.2.2) q.2.1 + q.2.2.2≤up s.f p.2.2.1 (s.f p.2.1 + p.2.2.2) v∧q.2.1≠p.2.2.1):=by
   by_cases hv:v=p.2.2.1
   ·subst hv
    rw [up_same] at hq
    cases hq
    right
    rw [up_same,up_ne hne]
    exact ⟨Int.le_refl _,hne⟩
   ·rw [up_ne hv] at hq
    have h2:=h v q hq
    rw [up_ne hv]
    by_cases hu:q.2.1=p.2.2.1
    ·left
     rw [hu,up_same]
     rw [hu] at h2
     omega
    ·right
     rw [up_ne hu]
     exact ⟨h2,hu⟩
  rcases ih with ih | ⟨ih1,ih2,ih3⟩
  ·left
   rcases step with h1 | ⟨h1,_⟩ <;> omega
  ·rcases step with h1 | ⟨h1,h2⟩
   ·left; omega
   ·right
    refine ⟨by omega,ih2,fun hv=>?_⟩
    rw [up_ne hv] at hq
    exact .more hq (ih3 h2)
theorem Inv.rel {N:Int→Prop} {K:Nat} {done left:List Rl} {s:St} {p:Rl} (hK:1≤K) (h:Inv N K done (p::left) s) (hne:p.2.1≠p.2.2.1):Inv N K (done++[p]) left (rel K s p):=by
 unfold BF.rel
 by_cases hc:cnd s.f p
 ·rw [if_pos hc]
  have hc':=hc
  obtain ⟨_,hlt⟩:=hc'
  have hmono:∀ v,up s.f p.2.2.1 (s.f p.2.1 + p.2.2.2) v≤s.f v:=fun v=>by
   by_cases hv:v=p.2.2.1
   ·subst hv; rw [up_same]; omega
   ·rw [up_ne hv]; exact Int.le_refl _
  have hr:K≤s.r p.2.1 + 1:=by
   rcases Nat.lt_or_ge (s.r p.2.1 + 1) K with h' | h'
   ·have:=h.i4l p (by simp) (by omega)
    omega
   ·exact h'
  refine ⟨?_,?_,?_,?_,?_,?_,?_,?_⟩
  ·intro v
   by_cases hv:v=p.2.2.1
   ·subst hv; simp only [up_same]; constructor
    ·intro h; cases h
    ·intro h; omega
   ·simp only [up_ne hv]; exact h.i1 v
  ·intro v q hq
   dsimp only at hq ⊢
   by_cases hv:v=p.2.2.1
   ·subst hv
    rw [up_same] at hq
    cases hq
    refine ⟨by simp,rfl,?_⟩
    simp only [up_same,up_ne hne]
    exact Int.le_refl _
   ·rw [up_ne hv] at hq
    obtain ⟨h1,h2,h3⟩:=h.i2 v q hq
    refine ⟨by simp only [List.mem_append,List.mem_cons,List.not_mem_nil,or_false] at h1 ⊢; rcases h1 with h1 | h1 | h1 <;> simp [h1],h2,?_⟩
    simp only [up_ne hv]
    have:=hmono q.2.1
    omega
  ·intro v q hq
   dsimp only at hq ⊢
   by_cases hv:v=p.2.2.1
   ·subst hv
    rw [up_same] at hq
    cases hq
    simp only [up_same,up_ne hne]
    exact hr
   ·rw [up_ne hv] at hq
    have h3:=h.i3 v q hq
    simp only [up_ne hv]
    by_cases hu:q.2.1=p.2.2.1
    ·rw [hu,up_same]
     have:=h.i6 v
     omega
    ·rw [up_ne hu]; exact h3
  ·intro q hq hrq
   dsimp only at hrq ⊢
   have hu:q.2.1≠p.2.2.1:=fun e=>by rw [e,up_same] at hrq; omega
   simp only [up_ne hu] at hrq ⊢
   have:=hmono q.2.2.1
   rcases List.mem_append.1 hq with hq | hq
   ·have:=h.i4d q hq hrq
    omega
   ·simp only [List.mem_singleton] at hq
    subst hq
    rw [up_same]
    exact Int.le_refl _
  ·intro q hq hrq
   dsimp only at hrq ⊢
   have hu:q.2.1≠p.2.2.1:=fun e=>by rw [e,up_same] at hrq; omega
   simp only [up_ne hu] at hrq ⊢
   have:=hmono q.2.2.1
   have:=h.i4l q (by simp [hq]) hrq
   omega
  ·intro v c n hb
   dsimp only at hb
   rcases cyc (fun v q hq=>(h.i2 v q hq).2.2) hne hc hb with h1 | ⟨h1,h2,h3⟩
   ·omega
   ·by_cases hv:v=p.2.2.1
    ·exact (h2 hv).elim
    ·exact h.i5 v c n (h3 hv)
  ·intro v
   by_cases hv:v=p.2.2.1
   ·subst hv; simp only [up_same]; exact Nat.le_refl _
   ·simp only [up_ne hv]; exact h.i6 v
  ·intro v
   exact Int.le_trans (hmono v) (h.i7 v)
 ·rw [if_neg hc]
  have hle:s.f p.2.2.1≤s.f p.2.1 + p.2.2.2:=by
   have h7:=h.i7 p.2.1
   unfold cnd at hc
   have:s.f p.2.1≠NEV:=by unfold NEV; omega
   simp only [not_and,Int.not_lt] at hc
   exact hc this
  refine ⟨h.i1,fun v q hq=>?_,h.i3,fun q hq hrq=>?_,fun q hq=>h.i4l q (by simp [hq]),h.i5,h.i6,h.i7⟩
  ·obtain ⟨h1,h2,h3⟩:=h.i2 v q hq
   exact ⟨by simp only [List.mem_append,List.mem_cons,List.not_mem_nil,or_false] at h1 ⊢; rcases h1 with h1 | h1 | h1 <;> simp [h1],h2,h3⟩
  ·rcases List.mem_append.1 hq with hq | hq
   ·exact h.i4d q hq hrq
   ·simp only [List.mem_singleton] at hq
    subst hq
    exact hle
theorem Inv.go {N:Int→Prop} {K:Nat} (hK:1≤K):∀ (left done:List Rl) (s:St),(∀ p∈left,p.2.1≠p.2.2.1)→Inv N K done left s→Inv N K (done++left) [] (left.foldl (BF.rel K) s)
 | [],done,s,_,h=>by simpa using h
 | p::left,done,s,hne,h=>by
  have h1:=h.rel hK (hne p (by simp))
  have:=Inv.go hK left (done++[p]) _ (fun q hq=>hne q (by simp [hq])) h1
  simpa using this
theorem Inv.pass {N:Int→Prop} {K:Nat} {R:List Rl} {s:St} (hne:∀ p∈R,p.2.1≠p.2.2.1) (h:Inv N K R [] s):Inv N (K + 1) R [] (pass R (K + 1) s):=by
 have h0:Inv N (K + 1) [] R s:=⟨h.i1,by simpa using h.i2,h.i3,by simp,fun q hq hr=>h.i4d q hq (by omega),h.i5,fun v=>Nat.le_succ_of_le (h.i6 v),h.i7⟩
 have:=Inv.go (by omega) R [] s hne h0
 simpa [BF.pass] using this
theorem Inv.zero {N:Int→Prop} {R:List Rl}:Inv N 0 R [] start:=by
 refine ⟨fun v=>by simp [start],fun v p h=>by simp [start] at h,fun v p h=>by simp [start] at h,fun q _ h=>by omega,by simp,fun v c n h=>?_,fun v=>by simp [start],fun v=>by simp [start]⟩
 obtain ⟨p,hp⟩:=h.start
 simp [start] at hp
def passes (R:List Rl):Nat→St
 | 0=>start
 | K + 1=>pass R (K + 1) (passes R K)
theorem Inv.passes {N:Int→Prop} {R:List Rl} (hne:∀ p∈R,p.2.1≠p.2.2.1):∀ K,Inv N K R [] (passes R K)
 | 0=>Inv.zero
 | K + 1=>(Inv.passes hne K).pass hne
theorem pass_same {K:Nat} {v:Int}:∀ (R:List Rl) (s:St),(R.foldl (rel K) s).r v≠K→(R.foldl (rel K) s).f v=s.f v∧(R.foldl (rel K) s).r v=s.r v∧(R.foldl (rel K) s).b v=s.b v
 | [],s,_=>⟨rfl,rfl,rfl⟩
 | p::R,s,h=>by
  simp only [List.foldl_cons] at h ⊢
  have ih:=pass_same (K:=K) R (rel K s p) h
  unfold rel at ih h ⊢
  by_cases hc:cnd s.f p
  ·simp only [if_pos hc] at ih h ⊢
   by_cases hv:v=p.2.2.1
   ·subst hv
    simp only [up_same] at ih
    exact (h ih.2.1).elim
   ·simpa only [up_ne hv] using ih
  ·simp only [if_neg hc] at ih h ⊢
   exact ih
theorem pass_le {K:Nat} {v:Int}:∀ (R:List Rl) (s:St),(R.foldl (rel K) s).f v≤s.f v∧(s.r v≠K→(R.foldl (rel K) s).r v=K→(R.foldl (rel K) s).f v<s.f v)
 | [],s=>⟨Int.le_refl _,fun h k=>(h k).elim⟩
 | p::R,s=>by
  simp only [List.foldl_cons]
  have ih:=pass_le (K:=K) (v:=v) R (rel K s p)
  unfold rel at ih ⊢
  by_cases hc:cnd s.f p
  ·simp only [if_pos hc] at ih ⊢
   have hlt:=hc.2
   by_cases hv:v=p.2.2.1
   ·subst hv
    simp only [up_same] at ih
    exact ⟨by omega,fun _ _=>by omega⟩
   ·simpa only [up_ne hv] using ih
  ·simp only [if_neg hc] at ih ⊢
   exact ih
end BF
end Go.Proofs.YtfmelbioccbdoaaGreat
end
