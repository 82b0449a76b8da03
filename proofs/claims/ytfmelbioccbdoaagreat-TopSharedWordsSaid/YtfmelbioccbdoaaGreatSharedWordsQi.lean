/-
  Part 9 of 11 of what the last text stands on: lemmas about the model, pure functions, walks, laws in plain Lean; each part's own head says its condition. Merged by a program of our own.
-/
import Derived.Test.YtfmelbioccbdoaaGreatSharedWordsQh
import Derived.Maps.RangeRun
import Derived.IntWalk
import Derived.KernelRfl
set_option maxHeartbeats 0
set_option linter.all false
section
namespace Go.Md
open Go Go.RowKit
section
section
variable {κ ν:Type}[DecidableEq κ][Enc κ][Flat κ][Key κ][Enc ν][Flat ν]
def Rg(w:World)(r b:Nat)(l:List (κ×ν))(lf:κ->Bool):Prop:=
 ∃es clock seen,w.heap[r]?=some (.mapIter (some b) clock seen clock)/\w.heap[b]?=some (.map es clock)/\es.toList.map (fun e=>(e.key,e.val))=l.map (fun p=>(fv p.1,fv p.2))/\(l.map (·.1)).Nodup/\(∀p∈l,Key.ok p.1=true)/\
  (es.toList.map (·.born)).Nodup/\(∀e∈es.toList,e.born<clock)/\∀(i:Nat)(e:MapEntry)(p:κ×ν),es.toList[i]?=some e->l[i]?=some p->seen.contains e.born=!lf p.1
variable {w w':World}{r b:Nat}{l:List (κ×ν)}{lf:κ->Bool}
omit [DecidableEq κ]in
theorem Rg.mps(h:Rg w r b l lf):MpS w b l:=by
 obtain⟨es,c,s,_,h2,h3,h4,h5,h6,h7,_⟩:=h;exact⟨es,c,h2,h3,h4,h5,h6,h7⟩
omit [DecidableEq κ]in
theorem Rg.same(h:Rg w r b l lf)(k1:w'.heap[r]?=w.heap[r]?)(k2:w'.heap[b]?=w.heap[b]?):Rg w' r b l lf:=by
 obtain⟨es,c,s,h1,h2,h⟩:=h;exact⟨es,c,s,k1.trans h1,k2.trans h2,h⟩
omit [DecidableEq κ]in
theorem Rg.ltr(h:Rg w r b l lf):r<w.heap.size:=by
 obtain⟨es,c,s,h1,_⟩:=h;exact(Array.getElem?_eq_some_iff.1 h1).1
omit [DecidableEq κ]in
theorem Rg.ext(h:Rg w r b l lf)(k:Ext w w'):Rg w' r b l lf:=h.same (k.block r h.ltr) (k.block b h.mps.lt)
omit [DecidableEq κ]in
theorem Rg.chg{c:Nat}(h:Rg w r b l lf)(k:Chg c w w')(h1:r≠c)(h2:b≠c):Rg w' r b l lf:=h.same (k.other r h1) (k.other b h2)
omit [DecidableEq κ]in
theorem Rg.new(h:MpS w b l):Rg (w.alloc (.mapIter (some b) ((match w.heap[b]? with|some (.map _ c)=>c|_=>0)) #[] (match w.heap[b]? with|some (.map _ c)=>c|_=>0))) w.heap.size b l (fun _=>true):=by
 obtain⟨es,c,h1,h2,h3,h4,h5,h6⟩:=h;rw[h1];refine⟨es,c,#[],heap_alloc_new _ _,?_,h2,h3,h4,h5,h6,fun i e p _ _=>by simp⟩;rw[heap_alloc_old _ _ (Array.getElem?_eq_some_iff.1 h1).1];exact h1
theorem Rg.next{P:Program}{ty:TypeId}(h:Rg w r b l lf):
  ((∀p∈l,lf p.1=false)/\(Instr.next (.pointer (some ⟨r,0,none⟩)) false ty).run P w=.ok (.tuple #[.bool false]) w)\/
  ∃p w',p∈l/\lf p.1=true/\(Instr.next (.pointer (some ⟨r,0,none⟩)) false ty).run P w=.ok (.tuple #[.bool true,fv p.1,fv p.2]) w'/\BelP (fun q=>q≠r) w.heap.size w w'/\w'.heap.size=w.heap.size/\
   (Instr.entry (.pointer (some ⟨r,0,none⟩))).run P w'=.ok (.tuple #[fv p.1,fv p.2]) w'/\Rg w' r b l (fun k=>lf k&& !decide (k=p.1)):=by
 obtain⟨es,c,seen,h1,h2,h3,h4,h5,h6,h7,h8⟩:=h;have hlen:es.toList.length=l.length:=by have:=congrArg List.length h3;simpa using this
 have hrb:r≠b:=by rintro rfl;rw[h1]at h2;cases h2
 rcases run_next_at (P:=P) w ty r b c c seen es c h1 h2 h7 (Nat.le_refl _)with⟨g1,g2⟩|⟨e,he,w1,hw1,g2⟩
 ·refine .inl ⟨fun p hp=>?_,g2⟩
  obtain⟨i,hi,rfl⟩:=List.getElem_of_mem hp;have hi':i<es.toList.length:=by omega
  have:=h8 i es.toList[i] l[i] (List.getElem?_eq_getElem hi') (List.getElem?_eq_getElem hi);cases hlf:lf l[i].1 with
  |false=>rfl
  |true=>
   rw[hlf]at this;have hm:es.toList[i]∈(leftOf es seen).toList:=by
    unfold leftOf;simp only[Array.toList_filter,List.mem_filter];exact⟨List.getElem_mem _,by rw[this];rfl⟩
   have h0:(leftOf es seen).toList=[]:=by
    apply List.eq_nil_of_length_eq_zero;simpa using g1
   rw[h0]at hm;cases hm
 ·have hm:e∈es.toList/\seen.contains e.born=false:=by
   unfold leftOf at he;simp only[Array.toList_filter,List.mem_filter]at he;exact⟨he.1,by simpa using he.2⟩
  obtain⟨i,hi,rfl⟩:=List.getElem_of_mem hm.1;have hil:i<l.length:=by omega
  obtain⟨p,hp,e1,e2⟩:=RN h3 (List.getElem?_eq_getElem hi);have hlf:=h8 i _ p (List.getElem?_eq_getElem hi) hp;rw[hm.2]at hlf;have hlt:lf p.1=true:=by
   cases h:lf p.1 with
   |true=>rfl
   |false=>rw[h]at hlf;cases hlf
  have hr1:w1.heap[r]?=some (.mapIter (some b) c seen c):=by rcases hw1 with rfl|rfl<;>exact h1
  have hb1:w1.heap[b]?=some (.map es c):=by rcases hw1 with rfl|rfl<;>exact h2
  have hrl:r<w1.heap.size:=(Array.getElem?_eq_some_iff.1 hr1).1;have hset:(ChangeMaps.setBlock w1 r (.mapIter (some b) c (seen.push es.toList[i].born) c)).heap[r]?=some (.mapIter (some b) c (seen.push es.toList[i].born) c):=by
   simp[ChangeMaps.setBlock,hrl]
  have hoth:∀q,q≠r->(ChangeMaps.setBlock w1 r (.mapIter (some b) c (seen.push es.toList[i].born) c)).heap[q]?=w.heap[q]?:=fun q hq=>by
   have:(ChangeMaps.setBlock w1 r (.mapIter (some b) c (seen.push es.toList[i].born) c)).heap[q]?=w1.heap[q]?:=by
    simp only[ChangeMaps.setBlock];rw[Array.getElem?_setIfInBounds_ne (Ne.symm hq)]
   rw[this];rcases hw1 with rfl|rfl<;>rfl
  have hsz:(ChangeMaps.setBlock w1 r (.mapIter (some b) c (seen.push es.toList[i].born) c)).heap.size=w.heap.size:=by
   simp only[ChangeMaps.setBlock,Array.size_setIfInBounds];rcases hw1 with rfl|rfl<;>rfl
  refine .inr ⟨p,_,List.mem_of_getElem? hp,hlt,by rw[<-e1,<-e2];exact g2,⟨?_,?_,?_,by rw[hsz];exact Nat.le_refl _,fun q _ hq=>hoth q hq⟩,hsz,?_,?_⟩
  ·rcases hw1 with rfl|rfl<;>rfl
  ·rcases hw1 with rfl|rfl<;>rfl
  ·rcases hw1 with rfl|rfl<;>rfl
  ·rw[<-e1,<-e2]
   exact run_entry_at _ r b c seen es c _ hset ((hoth b (Ne.symm hrb)).trans h2) hm.1 h6
  ·refine⟨es,c,_,hset,(hoth b (Ne.symm hrb)).trans h2,h3,h4,h5,h6,h7,fun j e p2 he2 hp2=>?_⟩
   have hj:=h8 j e p2 he2 hp2;by_cases hij:j=i
   ·subst hij
    rw[List.getElem?_eq_getElem hi]at he2;cases he2;rw[hp]at hp2;cases hp2;simp
   ·have hne:e.born≠es.toList[i].born:=fun eb=>by
     have h9:=List.pairwise_iff_getElem.1 h6;have hjl:j<es.toList.length:=(List.getElem?_eq_some_iff.1 he2).1;have he3:es.toList[j]=e:=by rw[List.getElem?_eq_getElem hjl]at he2;exact Option.some.inj he2
     rcases Nat.lt_or_gt_of_ne hij with h|h
     ·have:=h9 j i (by simpa using hjl) (by simpa using hi) h
      simp only[List.getElem_map]at this;rw[he3]at this;exact this eb
     ·have:=h9 i j (by simpa using hi) (by simpa using hjl) h
      simp only[List.getElem_map]at this;rw[he3]at this;exact this eb.symm
    have hnk:p2.1≠p.1:=fun ek=>by
     have h9:=List.pairwise_iff_getElem.1 h4;have hjl:j<l.length:=(List.getElem?_eq_some_iff.1 hp2).1;have hp3:l[j]=p2:=by rw[List.getElem?_eq_getElem hjl]at hp2;exact Option.some.inj hp2
     have hp4:l[i]=p:=by rw[List.getElem?_eq_getElem hil]at hp;exact Option.some.inj hp
     rcases Nat.lt_or_gt_of_ne hij with h|h
     ·have:=h9 j i (by simpa using hjl) (by simpa using hil) h
      simp only[List.getElem_map]at this;rw[hp3,hp4]at this;exact this ek
     ·have:=h9 i j (by simpa using hil) (by simpa using hjl) h
      simp only[List.getElem_map]at this;rw[hp3,hp4]at this;exact this ek.symm
    have:(seen.push es.toList[i].born).contains e.born=seen.contains e.born:=by
     have hb1:(e.born==es.toList[i].born)=false:=by simpa using hne
     have hb2:(es.toList[i].born==e.born)=false:=by simpa using Ne.symm hne
     rw[Array.contains_push];simp only[hb1,hb2,Bool.or_false,Bool.false_or]
    rw[this,hj];simp[hnk]
theorem Rg.del{P:Program}{t tk te ty:TypeId}{k:κ}(ht:P.underlying t=some (.map tk te))(K:KT P tk κ)(h:Rg w r b l lf)(hk:Key.ok k=true):
  ∃w',(Builtin.delete_ #[t,tk] ty #[.map (some b),fv k]).run P w=.ok (.tuple #[]) w'/\Chg b w w'/\Rg w' r b (EF l k) lf:=by
 obtain⟨es,c,seen,h1,hb,he,hn,hok,hs,hc,h8⟩:=h;have hrb:r≠b:=by rintro rfl;rw[h1]at hb;cases hb
 obtain⟨lk,hlk⟩:=K.of k hk;have hok':∀p∈EF l k,Key.ok p.1=true:=fun p hp=>hok p (Oe hp);rcases Mp.find K he hok hk w with⟨g1,g2⟩|⟨j,u,g1,g2,e,g3,g4⟩
 ·obtain⟨h5,h6⟩:=J3 (w:=w) (o:=.map es c) hb
  refine⟨_,?_,h5,es,c,seen,(h5.other r hrb).trans h1,h6,?_⟩
  ·simp[Builtin.delete_,run_underlying ht,MapKept.run_getObj_map hb,K.kd.check w _ hlk,g1,MapKept.run_setObj_map _ hb,Result.andThen,ChangeMaps.setBlock]
  ·by_cases hl:l=[]
   ·subst hl
    exact⟨he,by simp[EF],by simp[EF],hs,hc,fun i e p _ hp=>by simp[EF]at hp⟩
   ·obtain⟨p,hp⟩:=List.exists_mem_of_ne_nil l hl
    have hm:EF l k=l:=(JH (d:=p.2) g2).2.2.2;rw[hm];exact⟨he,hn,hok,hs,hc,h8⟩
 ·obtain⟨h5,h6⟩:=J3 (w:=w) (o:=.map (es.eraseIdxIfInBounds j) c) hb
  have hjs:j<es.size:=(Array.getElem?_eq_some_iff.1 g3).1;have hsub:(es.eraseIdxIfInBounds j).toList=es.toList.eraseIdx j:=by
   unfold Array.eraseIdxIfInBounds;rw[dif_pos hjs];simp
  have hm:EF l k=l.eraseIdx j:=(J2 (d:=u) hn g2).2.2.2;refine⟨_,?_,h5,_,c,seen,(h5.other r hrb).trans h1,h6,?_,ME hn,hok',?_,?_,?_⟩
  ·simp[Builtin.delete_,run_underlying ht,MapKept.run_getObj_map hb,K.kd.check w _ hlk,g1,MapKept.run_setObj_map _ hb,Result.andThen,ChangeMaps.setBlock]
  ·rw[hm,hsub,ChangeMaps.map_eraseIdx,he,ChangeMaps.map_eraseIdx]
  ·rw[hsub,ChangeMaps.map_eraseIdx]
   exact hs.sublist (List.eraseIdx_sublist _ _)
  ·intro e he2
   rw[hsub]at he2;exact hc e (List.mem_of_mem_eraseIdx he2)
  ·intro i e p he2 hp2
   rw[hsub,List.getElem?_eraseIdx]at he2;rw[hm,List.getElem?_eraseIdx]at hp2;split at he2
   ·rename_i h;rw[if_pos h]at hp2;exact h8 i e p he2 hp2
   ·rename_i h;rw[if_neg h]at hp2;exact h8 (i+1) e p he2 hp2
theorem Qj{k:κ}:∀{l:List (κ×ν)},(l.map (·.1)).Nodup->EF l k=l.filter (fun p=>!decide (p.1=k))
 |[],_=>rfl
 |(a,c)::l,h=>by
  simp only[List.map_cons,List.nodup_cons]at h;by_cases e:a=k
  ·subst e
   have:l.filter (fun p=>!decide (p.1=a))=l:=List.filter_eq_self.2 fun p hp=>by
    have:p.1≠a:=fun e=>h.1 (List.mem_map.2 ⟨p,hp,e⟩);simp[this]
   simp[EF,this]
  ·simp[EF,e,Qj h.2]
end
section
variable {P:Program}{Q:Exit->Act->World->Prop}{n:Nat}{L:Fr}{D:List Deferred}{w:World}{ops:Array Oper}{rest:List Oper}
variable {ty:TypeId}{pos:String}{af:Array Edge}{x y:Operand}{t tk te:TypeId}
variable {κ ν:Type}[DecidableEq κ][Enc κ][Flat κ][Key κ][Enc ν][Flat ν]
omit [DecidableEq κ]in
theorem yC{d b:Nat}{l:List (κ×ν)}(hx:ev n L x=.map (some b))(ht:P.underlying t=some (.map tk te))(h:MpS w b l)
  (cont:∀r w',Ext w w'->w.heap.size<=r->Rg w' r b l (fun _=>true)->wpList P ops Q rest (act n (upd L d (.pointer (some ⟨r,0,none⟩))) D) w'):
  wpList P ops Q ({dst:=some d,op:=.range t x,type:=ty,pos:=pos,after:=af,guard:=none}::rest) (act n L D) w:=by
 have hR:=Rg.new h;obtain⟨es,c,h1,_⟩:=h;rw[h1]at hR;exact Zv (by simp[execOp,hx,run_range_map w t tk te b es c ht h1]) (cont _ _ (Ext.alloc _ _) (Nat.le_refl _) hR)
theorem yD{d r b:Nat}{l:List (κ×ν)}{lf:κ->Bool}(hx:ev n L x=.pointer (some ⟨r,0,none⟩))(h:Rg w r b l lf)
  (h0:(∀p∈l,lf p.1=false)->wpList P ops Q rest (act n (upd L d (.tuple #[.bool false])) D) w)
  (h1:∀p w',p∈l->lf p.1=true->BelP (fun q=>q≠r) w.heap.size w w'->w'.heap.size=w.heap.size->(Instr.entry (.pointer (some ⟨r,0,none⟩))).run P w'=.ok (.tuple #[fv p.1,fv p.2]) w'->Rg w' r b l (fun k=>lf k&& !decide (k=p.1))->
   wpList P ops Q rest (act n (upd L d (.tuple #[.bool true,fv p.1,fv p.2])) D) w'):
  wpList P ops Q ({dst:=some d,op:=.next x false,type:=ty,pos:=pos,after:=af,guard:=none}::rest) (act n L D) w:=by
 rcases h.next (P:=P) (ty:=ty)with⟨g1,g2⟩|⟨p,w',g1,g2,g3,g4,g5,g6,g7⟩
 ·exact Zv (by simp[execOp,hx,g2]) (h0 g1)
 ·exact Zv (by simp[execOp,hx,g3]) (h1 p w' g1 g2 g4 g5 g6 g7)
omit [DecidableEq κ] [Key κ]in
theorem yE{d r:Nat}{k:κ}{v:ν}(hx:ev n L x=.pointer (some ⟨r,0,none⟩))(h:(Instr.entry (.pointer (some ⟨r,0,none⟩))).run P w=.ok (.tuple #[fv k,fv v]) w):
  (execOp (ev n L) {dst:=some d,op:=.entry x,type:=ty,pos:=pos,after:=af,guard:=none}).run P w=.ok (.value (.tuple #[fv k,fv v])) w:=by
 simp[execOp,hx,h]
theorem tQ{r b:Nat}{l:List (κ×ν)}{lf:κ->Bool}{k:κ}(hx:ev n L x=.map (some b))(hy:ev n L y=fv k)(ht:P.underlying t=some (.map tk te))(K:KT P tk κ)(h:Rg w r b l lf)(hk:Key.ok k=true)
  (cont:∀w',Chg b w w'->Rg w' r b (EF l k) lf->wpList P ops Q rest (act n L D) w'):
  wpList P ops Q ({dst:=none,op:=.call {callee:=.builtin .delete,args:=#[x,y],argTypes:=#[t,tk]},type:=ty,pos:=pos,after:=af,guard:=none}::rest) (act n L D) w:=by
 obtain⟨w',hr,h1,h2⟩:=h.del (P:=P) (ty:=ty) ht K hk;refine wpList_plain rfl fun K hK=>?_;simp only[Oper.wp,Ew,execOp,resolve,invoke,Go.builtin,List.map_toArray,List.map_cons,List.map_nil,hx,hy,Sem.run_bind,Sem.run_pure,hr,Result.andThen,Oper.upon];exact hK _ _ (cont w' h1 h2)
end
end
end Go.Md
end
section
namespace Go.Proofs.YtfmelbioccbdoaaGreat
open Go Go.Md Go.RowKit
attribute [local irreducible] Go.wpList Go.Code.wp Go.Calls Go.Md.Fh Go.Md.Mt Go.Md.Gq Go.Md.FC Go.Code.wpIn Go.wpListIn
theorem Tb.below{N B:Nat}{w w1:World}{b ma mu:Nat}{x:Ba}(h:Tb N w b ma mu x)(k:Below B w w1)(hB:N<=B):Tb N w1 b ma mu x:=
 h.belp (ok:=fun _=>True) (M:=B) ⟨k.os,k.tape,k.output,k.size,fun q hq _=>k.block q hq⟩ hB (fun _ _ _ _=>trivial)
abbrev Jb:=Ap×Ap
def MQ(x:Ba)(O:IZ)(i:Int)(p:Ap):Nat->Nat->List Jb->Option (List Jb)
 |0,_,out=>some out
 |n+1,k,out=>
  (ix x.2.1 (k:Int))>>=fun to=>(MB ((i,(k:Int)):Int×Int))>>=fun _=>
  if decide (0<BD 0 O (i,(k:Int)))=true then(app 32 out ([(p,to)]:List Jb))>>=fun o=>MQ x O i p n (k+1) o else MQ x O i p n (k+1) out
def Lu(x:Ba)(O:IZ):Nat->Nat->List Jb->Option (List Jb)
 |0,_,out=>some out
 |n+1,k,out=>(ix x.2.1 (k:Int))>>=fun p=>(MQ x O (k:Int) p x.2.1.length 0 out)>>=fun o=>Lu x O n (k+1) o
def H7(F:Nat)(c:BJ):Option (List Jb×Int):=
 (Jo F c [])>>=fun o=>if(!decide (o.2=0))=true then some ([],o.2)else
 (o.1.v)>>=fun x=>(Ck x F [] (0,-1))>>=fun q=>
 if decide (q.1=0)=true then some ([],5)else
 (MP x F q.2 [])>>=fun p=>(Lu x (p.1.filter fun z=>decide (q.1<=z.2)) x.2.1.length 0 [])>>=fun out=>some (out,0)
theorem Xk{κ ν:Type}{l:List (κ×ν)}(h:(l.map (·.1)).Nodup){p z:κ×ν}(hp:p∈l)(hz:z∈l)(e:z.1=p.1):z=p:=by
 induction l with
 |nil=>cases hp
 |cons a l ih=>
  simp only[List.map_cons,List.nodup_cons]at h;rcases List.mem_cons.1 hp with h1|h1
  ·rcases List.mem_cons.1 hz with h2|h2
   ·rw[h1,h2]
   ·exact(h.1 (List.mem_map.2 ⟨z,h2,by rw[e,h1]⟩)).elim
  ·rcases List.mem_cons.1 hz with h2|h2
   ·exact(h.1 (List.mem_map.2 ⟨p,h1,by rw[<-e,h2]⟩)).elim
   ·exact ih h.2 h1 h2
def Le(O:IZ)(all:Int)(lf:Int×Int->Bool):IZ:=O.filter fun z=>lf z.1||decide (all<=z.2)
theorem Zd{O:IZ}(h:(O.map (·.1)).Nodup){all:Int}{lf:Int×Int->Bool}{p:(Int×Int)×Int}(hp:p∈O)(ha:all<=p.2):Le O all lf=Le O all (fun k=>lf k&& !decide (k=p.1)):=by
 refine List.filter_congr fun z hz=>?_;by_cases e:z.1=p.1
 ·obtain rfl:=Xk h hp hz e
  simp[ha]
 ·simp[e]
theorem bT{O:IZ}(h:(O.map (·.1)).Nodup){all:Int}{lf:Int×Int->Bool}{p:(Int×Int)×Int}(hp:p∈O)(ha:¬all<=p.2):EF (Le O all lf) p.1=Le O all (fun k=>lf k&& !decide (k=p.1)):=by
 have hn:((Le O all lf).map (·.1)).Nodup:=h.sublist (List.filter_sublist.map _);rw[Qj hn];unfold Le;rw[List.filter_filter];refine List.filter_congr fun z hz=>?_;by_cases e:z.1=p.1
 ·obtain rfl:=Xk h hp hz e
  simp[ha]
 ·simp[e]
theorem bU{O:IZ}{all:Int}{lf:Int×Int->Bool}(h:∀p∈Le O all lf,lf p.1=false):Le O all lf=O.filter fun z=>decide (all<=z.2):=by
 refine List.filter_congr fun z hz=>?_;cases hl:lf z.1 with
 |false=>simp
 |true=>
  have:=h z (List.mem_filter.2 ⟨hz,by simp[hl]⟩);rw[hl]at this;cases this
theorem bV{O:IZ}{lf:Int×Int->Bool}{p:(Int×Int)×Int}(hp:p∈O)(hl:lf p.1=true):(O.filter fun z=>lf z.1&& !decide (z.1=p.1)).length<(O.filter fun z=>lf z.1).length:=by
 have:(O.filter fun z=>lf z.1&& !decide (z.1=p.1))=(O.filter fun z=>lf z.1).filter fun z=>!decide (z.1=p.1):=by
  rw[List.filter_filter];refine List.filter_congr fun z _=>?_;cases lf z.1<;>simp
 rw[this];exact List.length_filter_lt_length_iff_exists.2 ⟨p,List.mem_filter.2 ⟨hp,hl⟩,by simp⟩
set_option maxHeartbeats 16000000 in
theorem zN{w0:World}{v0:Value}{x0:BJ}(r0:RV w0 v0 x0){F:Nat}{r:List Jb×Int}(hF:H7 F x0=some r):
  Calls Tryz.prog 37 [v0].toArray w0 (BQ fun v w'=>∃u0:Value,v=.tuple #[u0,.int .i64 r.2]/\RV w' u0 r.1/\Ext w0 w'):=by
 unfold H7 at hF;refine bS hF fun o Eo hF=>?_;obtain⟨cs,rfl,hrep⟩:=r0;refine BM (n:=76) Tryz.func37 rfl rfl rfl<|Zr<|C8 rfl (Enc.cells hrep) fun b1 w1 hx1 hg1 hb1=>?_;have r1:RV w1 (.agg cs.toArray) x0:=RVo.ext ⟨cs,rfl,hrep⟩ hx1;refine Za<|Za<|nl<|Zr<|Zv (Al rfl JU (Enc.len hrep) (Bx.cs hb1))<|Zc (xc YH (mc rfl (mc rfl mn))) (Zb r1 (RVo.nil (Nat.zero_le _)) Eo) ?_;rintro _ w2⟨u1,rfl,r7,tM,hx2⟩;have k2:=hx1.tr hx2;refine Zm<|Zv (Dm (vs:=[u1,.int .i64 o.2]) rfl rfl)<|Zv (Dm (vs:=[u1,.int .i64 o.2]) rfl rfl)<|Za<|Za<|nl<|wp_seq<|Zr<|Zm<|Zv (Dq rfl rfl)<|nl<|cnd rfl (fun h3=>?_) (fun h3=>?_)
 ·have hF:=Ab hF h3
  cases hF;exact Zr<|Zm<|Za<|Za<|nl<|wp_ret<|rt rfl (.tmp rfl rfl (.tmp rfl rfl .nil)) ⟨_,rfl,RVo.nil (Nat.zero_le _),k2⟩
 have hF:=Ac hF h3;have hz:=(tM (by simpa using h3)).get;obtain⟨y,b,ma,mu,e,rfl,hT,hma,hmu,ga,gu⟩:=hz;rw[e]at hF;have hz:=Md.bs hF;obtain⟨y',Ey,hF⟩:=hz;cases Ey;have s1:=hx1.size;have s2:=hx2.size;refine bS hF fun q Eq hF=>wp_skip<|Zr<|Zm<|Zc (xc YI (mc rfl mn)) (gq hT hma Eq) ?_;rintro _ w3⟨rfl,hm3,hp3⟩;have s3:=hp3.size;have k3:=BelP.extO k2 hp3 (fun q h=>by omega);have T3:=hT.belp hp3 (Nat.le_refl _) (fun q h1 h2 h3=>h2);have u3:=hmu.belp hp3 hmu.lt (fun e=>hT.ne e.symm);refine Za<|nl<|wp_seq<|Zr<|Zm<|Zv (FO rfl rfl)<|nl<|cnd rfl (fun hf=>?_) (fun hf=>?_)
 ·have hF:=Ab hF hf
  cases hF;exact Zr<|Za<|Za<|nl<|wp_ret<|rt rfl (.tmp rfl rfl (.tmp rfl rfl .nil)) ⟨_,rfl,RVo.nil (Nat.zero_le _),k3⟩
 have hF:=Ac hF hf;refine bS hF fun p Ep hF=>bS hF fun out0 Er hF=>?_;cases hF;refine wp_skip<|Zr<|Zm<|Zc (xc qf (mc rfl mn)) (yB T3 hm3 u3 Ep) ?_;rintro _ w4⟨bm,rfl,gm,mm,a4,u4,hp4⟩;have s4:=hp4.size;have k4:=BelP.extO k3 hp4 (fun q h=>⟨by omega,by omega⟩);have T4:=T3.belp hp4 T3.size (fun q h1 h2 h3=>⟨h2,h3⟩);have hnd:(p.1.map (·.1)).Nodup:=by obtain⟨_,_,_,_,h,_⟩:=mm;exact h
 have hN3:=hT.size;refine Za<|nl<|wp_seq<|Zr<|Zm<|yC rfl Tryz.underlying203 mm fun br w5 hx5 hg5 hR5=>nl<|?_;have k5:=k4.tr hx5;have T5:=T4.ext hx5;have s5:=hx5.size;have gbm:w3.heap.size<=bm:=gm;refine ct (fun L w=>L 4=.pointer (some ⟨b,0,none⟩)/\L 7=.map (some bm)/\MpS w bm (p.1.filter fun z=>decide (q.1<=z.2))/\Tb w2.heap.size w b ma mu y/\Ext w0 w) ?_ ?_
 ·refine wp_block<|lp (I:=fun m' L w=>∃lf:Int×Int->Bool,(p.1.filter fun z=>lf z.1).length<=m'/\Rg w br bm (Le p.1 q.1 lf) lf/\L 30=.pointer (some ⟨br,0,none⟩)/\L 4=.pointer (some ⟨b,0,none⟩)/\L 6=.int .i64 q.1/\L 7=.map (some bm)/\Tb w2.heap.size w b ma mu y/\Ext w0 w) p.1.length
   ⟨fun _=>true,List.length_filter_le _ _,?_,rfl,rfl,rfl,rfl,T5,k5⟩ ?_
  ·have:Le p.1 q.1 (fun _=>true)=p.1:=List.filter_eq_self.2 fun _ _=>by simp
   rw[this];exact hR5
  rintro m' L w⟨lf,hm',hR,l30,l4,l6,l7,T,hx⟩;have hs:=hx.size;have hok:=hR.mps.mp.ok;have hrl:=hR.ltr;have hbl:=hR.mps.lt;have zT:=T.size;refine Zr<|yD l30 hR (fun hd=>?_) (fun z w' hz hlz hpz hsz hent hR'=>?_)
  ·refine Zv (Dm (vs:=[.bool false]) rfl rfl)<|nl<|wp_seq<|cnd rfl (fun h=>by cases h) (fun _=>?_)
   rw[bU hd]at hR;exact wp_exit<|Md.lf ⟨l4,l7,hR.mps,T,hx⟩
  ·have hzO:z∈p.1:=(List.mem_filter.1 hz).1
   have hk:Key.ok z.1=true:=hok z hz;have hx':Ext w0 w':=hx.trans (hpz.below hs fun q h=>by omega);have T':Tb w2.heap.size w' b ma mu y:=T.belp hpz zT (fun q h1 h2 h3=>by omega);have hlt:=bV hzO hlz;refine Zv (Dm (vs:=[.bool true,fv z.1,fv z.2]) rfl rfl)<|nl<|wp_seq<|cnd rfl (fun _=>?_) (fun h=>by cases h);refine wp_skip<|wp_block<|Zr<|Zv (yE l30 hent)<|Zv (Dm (vs:=[fv z.1,fv z.2]) rfl rfl)<|Zv (Dm (vs:=[fv z.1,fv z.2]) rfl rfl)<|EA RB fun b8 w6 hx6 hg6 hb6=>Sk (u:=z.1) rfl rfl RB rfl hb6 rfl fun w7 hch7 hb7=>?_;have kx7:Ext w' w7:=hx6.chg hch7 hg6;have hR7:=hR'.ext kx7;refine Za<|nl<|Zr<|Zm<|Zv (BU l6)<|Zv (BA rfl rfl)<|nl<|cnd rfl (fun hc=>?_) (fun hc=>?_)
   ·have hc:z.2<q.1:=by simpa using hc
    refine rg<|Zv (BU l7)<|Zv (Al rfl RB (Flat.len z.1) (Bx.cs hb7))<|tQ (k:=z.1) rfl rfl Tryz.underlying203 Un hR7 hk fun w8 hch8 hR8=>nl ?_;rw[bT hnd hzO (by omega)]at hR8;have s7:=kx7.size;refine lq (m'-1) (by omega) ⟨_,by omega,hR8,l30,l4,l6,l7,?_,?_⟩
    ·exact(T'.ext kx7).belp (ok:=fun q=>q≠bm) (M:=w7.heap.size) (BelP.refl.chg hch8 (.inr fun h=>h rfl)) (T'.ext kx7).size (fun q h1 h2 h3=>by omega)
    ·exact(hx'.tr kx7).chg hch8 (by omega)
   ·have hc:¬z.2<q.1:=by simpa using hc
    rw[Zd hnd hzO (by omega)]at hR7;exact wp_skip<|lq (m'-1) (by omega) ⟨_,by omega,hR7,l30,l4,l6,l7,T'.ext kx7,hx'.tr kx7⟩
 clear hR5 T5;rintro L w7⟨l4,l7,mm,T7,k7⟩;generalize p.1.filter (fun z=>decide (q.1<=z.2))=O at mm Er;have hz:=T7.steps;obtain⟨aS,cs',h4,hs4⟩:=hz;have hlen:=(RVo.rv hs4).cap;have lm:=mm.lt;have z07:=k7.size;have hN7:=T7.size;have hbl:=T7.lb;refine Zr<|Za<|nl<|wp_seq<|Zr<|Zv (BU l4)<|Zv (Bl rfl)<|Zv (AY rfl FZ)<|Zv (AR rfl Jf h4)<|Zv (Ao rfl Tryz.underlying51)<|Zm<|nl<|ct (fun L w=>∃v,L 10=v/\Row 92 w7.heap.size w v out0/\Ext w0 w) ?_ ?_
 ·refine wp_block<|lp (I:=fun m' L w=>∃(k:Nat)(out:List Jb)(v:Value),k+m'=y.2.1.length/\Lu y O m' k out=some out0/\L 46=.int .i64 (k:Int)/\L 45=.int .i64 (y.2.1.length:Int)/\L 44=.slice aS y.2.1.length cs'/\L 7=.map (some bm)/\L 4=.pointer (some ⟨b,0,none⟩)/\L 10=v/\
    Row 92 w7.heap.size w v out/\Below w7.heap.size w7 w) y.2.1.length
   ⟨0,[],_,by simp,Er,rfl,rfl,rfl,l7,l4,rfl,Row.nil,Below.refl _ _⟩ ?_
  clear Er l4 l7;rintro m' L w⟨i,out,v,hk,hB,l46,l45,l44,l7,l4,l10,ho,hx⟩;have zw:=hx.size;have sl:=(hs4.ext (w':=w) hx).rv;refine Zr<|Zv (BA l46 l45)<|nl<|wp_seq<|cnd rfl (fun hc0=>?_) (fun hc0=>?_)
  ·have hc0:(i:Int)<(y.2.1.length:Int):=by simpa using hc0
   obtain⟨i',rfl⟩:∃i',m'=i'+1:=⟨m'-1,by omega⟩;rw[Lu]at hB;have hz:=Md.bs hB;obtain⟨fr',Ef,hB⟩:=hz;refine bS hB fun o1 E1 hB=>?_;have hadd:AZ ((i:Int)+1)=((i+1:Nat):Int):=by
    have hmx:y.2.1.length<=maxLen:=by omega
    rw[AZ,IntWalk.i64_in _ (by unfold maxLen at hmx;omega)]
    rfl
   have hz:=(RV.els sl).ix Ef;obtain⟨bb,off,cs5,e5,i1,i2,q5,hc5⟩:=hz;obtain rfl:=Flat.iff.1 q5;refine wp_skip<|wp_seq<|wp_block<|Zr<|Zv (BU l46)<|Zv (Aj (by rw[<-e5];exact l44) l46 Tryz.underlying51 Bj i1 i2)<|Zv (Al rfl Bj (Flat.len fr') hc5)<|EA Bj fun b12 w9 hx9 hg9 hb9=>Za<|Sk (u:=fr') rfl rfl Bj rfl hb9 rfl fun w10 hch10 hb10=>?_;have kx10:Ext w w10:=hx9.chg hch10 hg9;have s10:=kx10.size;have lo12:=hb10.lt;have hx10:=hx.trans (kx10.mono zw);have h4':w10.cell? ⟨b,4,none⟩=some (.slice aS y.2.1.length cs'):=(World.cell?_of_block (a:=⟨b,4,none⟩) (hx10.block b (by omega))).trans h4;refine nl<|Zr<|Zv (BU l4)<|Zv (Bl rfl)<|Zv (AY rfl FZ)<|Zv (AR rfl Jf h4')<|Zv (Ao rfl Tryz.underlying51)<|Zm<|nl<|ct (fun L w'=>∃v,L 46=.int .i64 (i:Int)/\L 45=.int .i64 (y.2.1.length:Int)/\L 44=.slice aS y.2.1.length cs'/\L 7=.map (some bm)/\L 4=.pointer (some ⟨b,0,none⟩)/\L 10=v/\Row 92 w7.heap.size w' v o1/\Below w7.heap.size w7 w') ?_ ?_
   ·refine wp_block<|lp (I:=fun m' L w'=>∃(k:Nat)(out:List Jb)(v:Value),k+m'=y.2.1.length/\MQ y O (i:Int) fr' m' k out=some o1/\L 56=.int .i64 (k:Int)/\L 55=.int .i64 (y.2.1.length:Int)/\L 54=.slice aS y.2.1.length cs'/\L 11=.int .i64 (i:Int)/\L 12=.pointer (some ⟨b12,0,none⟩)/\Bx w' b12 56 (Flat.enc fr')/\
      L 46=.int .i64 (i:Int)/\L 45=.int .i64 (y.2.1.length:Int)/\L 44=.slice aS y.2.1.length cs'/\L 7=.map (some bm)/\L 4=.pointer (some ⟨b,0,none⟩)/\L 10=v/\(∀q,v.ownBlock=some q->q≠b12)/\Row 92 w7.heap.size w' v out/\Below w7.heap.size w7 w') y.2.1.length
     ⟨0,out,v,by simp,E1,rfl,rfl,rfl,rfl,rfl,hb10,l46,l45,l44,l7,l4,l10,fun q hq e=>by have:=ho.own_lt q hq;omega,ho.ext kx10,hx10⟩ ?_
    clear E1 hb10;rintro m' L w'⟨k,out,v,hk,hB2,l56,l55,l54,l11,l12,hb12,l46,l45,l44,l7,l4,l10,hno,ho,hx⟩;have zw:=hx.size;have sl:=(hs4.ext (w':=w') hx).rv;refine Zr<|Zv (BA l56 l55)<|nl<|wp_seq<|cnd rfl (fun hc1=>?_) (fun hc1=>?_)
    ·have hc1:(k:Int)<(y.2.1.length:Int):=by simpa using hc1
     obtain⟨k',rfl⟩:∃k',m'=k'+1:=⟨m'-1,by omega⟩;rw[MQ]at hB2;refine bS hB2 fun to Et hB2=>bS hB2 fun _ Ek hB2=>?_;have hkey:=Ji Ek;have hadd2:AZ ((k:Int)+1)=((k+1:Nat):Int):=by
      have hmx:y.2.1.length<=maxLen:=by omega
      rw[AZ,IntWalk.i64_in _ (by unfold maxLen at hmx;omega)]
      rfl
     have hz:=(RV.els sl).ix Et;obtain⟨bb,off,cs5,e5,i1,i2,q5,hc5⟩:=hz;obtain rfl:=Flat.iff.1 q5;refine wp_skip<|wp_seq<|wp_block<|Zr<|Zv (BU l56)<|Zv (Aj (by rw[<-e5];exact l54) l56 Tryz.underlying51 Bj i1 i2)<|Zv (Al rfl Bj (Flat.len to) hc5)<|EA Bj fun b14 w9 hx9 hg9 hb9=>Za<|Sk (u:=to) rfl rfl Bj rfl hb9 rfl fun w10 hch10 hb10=>?_;have kx10:Ext w' w10:=hx9.chg hch10 hg9;have m10:=mm.below (hx.trans (kx10.mono zw)) lm;have d12:=hb12.ext kx10;have l12':=hb12.lt;refine nl<|Zr<|Zv (BU l7)<|Zv (BU l11)<|Zm<|Zv (Ke (r:=[.int .i64 (i:Int),.int .i64 (k:Int)]) RB iV (pc rfl (pc rfl pn)) rfl)<|Zv (v:=fv (BD 0 O (((i:Int),(k:Int)):Int×Int))) (YS (d:=(0:Int)) Tryz.underlying203 Un (bN _) m10.mp hkey rfl rfl)<|Zv (IU rfl rfl)<|nl<|cnd rfl (fun hf=>?_) (fun hf=>?_)
     ·have hB2:=Ab hB2 hf
      refine bS hB2 fun o2 Eo2 hB2=>rg<|Zv (BU l10)<|Zv (Al l12 Bj (Flat.len fr') (Bx.cs d12))<|Zv (Al rfl Bj (Flat.len to) (Bx.cs hb10))<|Zv (Ke (r:=[.int .i64 fr'.1,.bool fr'.2,.int .i64 to.1,.bool to.2]) VD vS (pc rfl (pc rfl pn)) rfl)<|Ii (cs:=[.int .i64 fr'.1,.bool fr'.2,.int .i64 to.1,.bool to.2]) Tryz.underlying75 VD rfl (pc rfl pn) rfl rfl rfl rfl rfl fun b13 w11 hx11 hg11 hb11=>?_;have o11:Row (α:=Jb) 92 w10.heap.size w11 (.slice (some ⟨b13,0,none⟩) 1 1) [(fr',to)]:=Row.lit hg11 hb11 rfl (ble rfl);have s10:=kx10.size;have s11:=hx11.size;refine Od (l:=out) (k:=([(fr',to)]:List Jb)) rfl rfl Tryz.underlying75 VD rfl rfl ((ho.ext kx10).ext hx11) (RV.els o11.rv) Eo2 (by omega) fun vF wF oF hBF hgF hwF=>?_;refine Za<|nl<|rg<|Zv (Aw l56 rfl)<|Zm<|nl<|lq k' (Nat.lt_succ_self _) ⟨k+1,o2,vF,by omega,hB2,congrArg _ hadd2,l55,l54,l11,l12,(d12.ext hx11).gr hgF (fun e=>hno _ e.symm rfl),l46,l45,l44,l7,l4,rfl,fun q' hq e=>?_,oF,hx.trans ((kx10.mono zw).trans ((hx11.mono (by omega)).trans hBF))⟩;rcases hwF with h|⟨g,h,hg⟩
      ·exact hno q' (h.symm.trans hq) e
      ·rw[h]at hq
       cases hq;omega
     ·have hB2:=Ac hB2 hf
      refine wp_skip<|rg<|Zv (Aw l56 rfl)<|Zm<|nl<|lq k' (Nat.lt_succ_self _) ⟨k+1,out,v,by omega,hB2,congrArg _ hadd2,l55,l54,l11,l12,d12,l46,l45,l44,l7,l4,l10,hno,ho.ext kx10,hx.trans (kx10.mono zw)⟩
    ·have hc1:¬(k:Int)<(y.2.1.length:Int):=by simpa using hc1
     obtain rfl:m'=0:=by omega
     rw[MQ]at hB2;cases hB2;exact wp_exit<|lf ⟨v,l46,l45,l44,l7,l4,l10,ho,hx⟩
   ·rintro L w'⟨v,l46,l45,l44,l7,l4,l10,ho,hx⟩
    refine rg<|Zv (Aw l46 rfl)<|Zm<|nl<|lq i' (Nat.lt_succ_self _) ⟨i+1,o1,v,by omega,hB,congrArg _ hadd,l45,l44,l7,l4,l10,ho,hx⟩
  ·have hc0:¬(i:Int)<(y.2.1.length:Int):=by simpa using hc0
   obtain rfl:m'=0:=by omega
   rw[Lu]at hB;cases hB;exact wp_exit<|lf ⟨v,l10,ho,k7.trans (hx.mono z07)⟩
 rintro L w⟨v,l10,ho,hx⟩;exact Zr<|Zv (BU l10)<|Za<|Za<|nl<|wp_ret<|rt rfl (.tmp rfl rfl (.tmp rfl rfl .nil)) ⟨_,rfl,ho.rv,hx⟩
end Go.Proofs.YtfmelbioccbdoaaGreat
end
section
namespace Go.Proofs.YtfmelbioccbdoaaGreat
open Go Go.Md Go.RowKit
def Ff(F:Nat)(x0:Di):Option Bool:=
 (gd (decide ((x0.1.length:Int)<=20)) (DL F (x0.1,x0.2.1,(x0.2.2.1,x0.2.2.2))) 0)>>=fun x2=>
 some ((decide ((x0.1.length:Int)<=20))&&(decide (x2=0)))
def EW(F:Nat)(x0:Di)(x1:(List (Int×Bool))):Nat->Int->Option (Sum Int (Unit))
 |0,_=>none
 |m+1,y1=>
  if(decide (y1<(x1.length:Int)))=true then
   (ix x1 y1)>>=fun x5=>
   (Ir (x0.1,x0.2.1,(x0.2.2.1,x0.2.2.2)) (x5.1,x5.2))>>=fun x6=>
   if(!x6)=true then
    some (.inl 2)
   else
    EW F x0 x1 m (AZ (y1+1))
  else
   some (.inr ())
def EX(F:Nat)(x1:(List (Int×Bool)))(y2:Int):Nat->Int->Option (Sum Int (Unit))
 |0,_=>none
 |m+1,y3=>
  if(decide (y3<y2))=true then
   (ix x1 y2)>>=fun x7=>
   (ix x1 y3)>>=fun x8=>
   if(decide (x7.1=x8.1))=true then
    some (.inl 11)
   else
    EX F x1 y2 m (AZ (y3+1))
  else
   some (.inr ())
def EY(F:Nat)(x1:(List (Int×Bool))):Nat->Int->Option (Sum Int (Unit))
 |0,_=>none
 |m+1,y2=>
  if(decide (y2<(x1.length:Int)))=true then
   ((EX F x1 y2 F 0)>>=fun o=>match o with
    |.inl r=>some (.inl r)
    |.inr ()=>
     EY F x1 m (AZ (y2+1)))
  else
   some (.inr ())
def EZ(F:Nat)(x0:Di)(x1:(List (Int×Bool))):Nat->Int->Option (Sum Int (Unit))
 |0,_=>none
 |m+1,y4=>
  if(decide (y4<(x1.length:Int)))=true then
   (ix x1 (AZ (y4-1)))>>=fun x9=>
   (ix x1 y4)>>=fun x10=>
   (KA (x0.1,x0.2.1,(x0.2.2.1,x0.2.2.2)) (x9.1,x9.2) (x10.1,x10.2))>>=fun x11=>
   if(!x11)=true then
    some (.inl 18)
   else
    EZ F x0 x1 m (AZ (y4+1))
  else
   some (.inr ())
def Gj(F:Nat)(x0:Di)(x1:(List (Int×Bool))):Option Int:=
 (DL F (x0.1,x0.2.1,(x0.2.2.1,x0.2.2.2)))>>=fun x3=>
 if(!decide (x3=0))=true then
  (DL F (x0.1,x0.2.1,(x0.2.2.1,x0.2.2.2)))>>=fun x4=>
  some x4
 else
  if(!decide ((x1.length:Int)=(x0.1.length:Int)))=true then
   some 15
  else
   ((EW F x0 x1 F 0)>>=fun o=>match o with
    |.inl r=>some r
    |.inr ()=>
     ((EY F x1 F 0)>>=fun o=>match o with
      |.inl r=>some r
      |.inr ()=>
       ((EZ F x0 x1 F 1)>>=fun o=>match o with
        |.inl r=>some r
        |.inr ()=>
         some 0)))
def Gp(F:Nat)(x0:(List (Int×Bool))):Nat->(List Int)->Int->Option ((List Int))
 |0,_,_=>none
 |m+1,y1,y2=>
  if(decide (y2<(x0.length:Int)))=true then
   (ix x0 y2)>>=fun x2=>
   (ix x0 y2)>>=fun x3=>
   ((if x3.2=true then
    some (AZ ((AZ ((AZ (2*x2.1))+1))+1))
   else
    some (AZ ((AZ (2*x2.1))+1)):Option (Int))>>=fun y3=>
   (app 8 y1 ([y3]:List Int))>>=fun x4=>
   Gp F x0 m x4 (AZ (y2+1)))
  else
   some y1
def KD(F:Nat)(x0:(List (Int×Bool))):Option (List Int):=
 ((Gp F x0 F ([]) 0)>>=fun z1=>
 some z1)
def DU(F:Nat)(x1:(List (List Int)))(x2:(List (List Int))):Nat->Int->Option (Sum Int (Unit))
 |0,_=>none
 |m+1,y1=>
  if(decide (y1<(x2.length:Int)))=true then
   (ix x2 y1)>>=fun x6=>
   if(!decide ((x6.length:Int)=(x1.length:Int)))=true then
    some (.inl 15)
   else
    DU F x1 x2 m (AZ (y1+1))
  else
   some (.inr ())
def DV(F:Nat)(x1:(List (List Int)))(x2:(List (List Int)))(y2:Int):Nat->Int->Option (Sum Int (Unit))
 |0,_=>none
 |m+1,y3=>
  if(decide (y3<(x1.length:Int)))=true then
   (((ix x2 y2)>>=fun x9=>
   (ix x9 y3)>>=fun x10=>
   if(decide (x10<0))=true then
    some true
   else
    (ix x2 y2)>>=fun x11=>
    (ix x11 y3)>>=fun x12=>
    (ix x1 y3)>>=fun x13=>
    some (decide ((x13.length:Int)<=x12)):Option (Bool))>>=fun y4=>
   if y4=true then
    some (.inl 3)
   else
    DV F x1 x2 y2 m (AZ (y3+1)))
  else
   some (.inr ())
def DW(F:Nat)(x1:(List (List Int)))(x2:(List (List Int))):Nat->Int->Option (Sum Int (Unit))
 |0,_=>none
 |m+1,y2=>
  if(decide (y2<(x2.length:Int)))=true then
   ((DV F x1 x2 y2 F 0)>>=fun o=>match o with
    |.inl r=>some (.inl r)
    |.inr ()=>
     DW F x1 x2 m (AZ (y2+1)))
  else
   some (.inr ())
def DX(F:Nat)(x1:(List (List Int)))(x2:(List (List Int)))(x14:(List Int))(y5:Int):Nat->Int->Option (Sum Int (Unit))
 |0,_=>none
 |m+1,y6=>
  if(decide (y6<(x1.length:Int)))=true then
   (ix x1 y6)>>=fun x15=>
   (ix x2 y5)>>=fun x16=>
   (ix x16 y6)>>=fun x17=>
   (ix x15 x17)>>=fun x18=>
   (ix x14 x18)>>=fun x19=>
   (ix x1 0)>>=fun x20=>
   (ix x2 y5)>>=fun x21=>
   (ix x21 0)>>=fun x22=>
   (ix x20 x22)>>=fun x23=>
   (ix x14 x23)>>=fun x24=>
   if(!decide (x19=x24))=true then
    some (.inl 20)
   else
    DX F x1 x2 x14 y5 m (AZ (y6+1))
  else
   some (.inr ())
def DY(F:Nat)(x1:(List (List Int)))(x2:(List (List Int)))(x14:(List Int)):Nat->Int->Option (Sum Int (Unit))
 |0,_=>none
 |m+1,y5=>
  if(decide (y5<(x2.length:Int)))=true then
   ((DX F x1 x2 x14 y5 F 1)>>=fun o=>match o with
    |.inl r=>some (.inl r)
    |.inr ()=>
     DY F x1 x2 x14 m (AZ (y5+1)))
  else
   some (.inr ())
def DZ(F:Nat)(x2:(List (List Int))):Nat->Int->Option (Sum Int (Unit))
 |0,_=>none
 |m+1,y7=>
  if(decide (y7<(x2.length:Int)))=true then
   (ix x2 (AZ (y7-1)))>>=fun x25=>
   (ix x2 y7)>>=fun x26=>
   (Jj F x25 x26)>>=fun x27=>
   if(!x27)=true then
    some (.inl 24)
   else
    DZ F x2 m (AZ (y7+1))
  else
   some (.inr ())
def Dk(F:Nat)(x0:(Uno (List (Ar 2 Int))))(x1:(List (List Int)))(x2:(List (List Int))):Option Int:=
 (GJ F (⟨x0.v⟩:(Uno (List (Ar 2 Int)))) x1)>>=fun x4=>
 if(!decide (x4=0))=true then
  (GJ F (⟨x0.v⟩:(Uno (List (Ar 2 Int)))) x1)>>=fun x5=>
  some x5
 else
  if(decide (8<(x2.length:Int)))=true then
   some 6
  else
   ((DU F x1 x2 F 0)>>=fun o=>match o with
    |.inl r=>some r
    |.inr ()=>
     ((DW F x1 x2 F 0)>>=fun o=>match o with
      |.inl r=>some r
      |.inr ()=>
       (JC F (⟨x0.v⟩:(Uno (List (Ar 2 Int)))))>>=fun x14=>
       ((DY F x1 x2 x14 F 0)>>=fun o=>match o with
        |.inl r=>some r
        |.inr ()=>
         ((DZ F x2 F 1)>>=fun o=>match o with
          |.inl r=>some r
          |.inr ()=>
           some 0))))
def Da(F:Nat)(x0:Di)(x1:(Ar 4 (KI .u32)))(x2:Int)(x7:(Int×Int)):Nat->(List (List Int))->Bool->Int->Option (Sum Bool ((List (List Int))×Bool))
 |0,_,_,_=>none
 |m+1,y1,y2,y3=>
  if(decide (y3<(AZ (2+(Int.tmod (AZ x2) 3)))))=true then
   (ix x1.l y3)>>=fun x10=>
   (rem (AZ x10.v) x7.1)>>=fun x11=>
   (LY F (x0.1,x0.2.1,(x0.2.2.1,x0.2.2.2)) x11)>>=fun x12=>
   (gd (!(!decide (x12.2=0))) (Gj F (x0.1,x0.2.1,(x0.2.2.1,x0.2.2.2)) x12.1) 0)>>=fun x13=>
   if((!decide (x12.2=0))||(!decide (x13=0)))=true then
    some (.inl false)
   else
    (KD F x12.1)>>=fun x14=>
    (app 24 y1 ([x14]:List (List Int)))>>=fun x15=>
    ((if y2=true then
     (ix x1.l y3)>>=fun x16=>
     (rem (AZ x16.v) x7.1)>>=fun x17=>
     (ix x1.l 0)>>=fun x18=>
     (rem (AZ x18.v) x7.1)>>=fun x19=>
     some (decide (x17=x19))
    else
     some false:Option (Bool))>>=fun y4=>
    Da F x0 x1 x2 x7 m x15 y4 (AZ (y3+1)))
  else
   some (.inr (y1,y2))
def Db(F:Nat)(x20:Int)(x36:(List Int))(z1:(List (List Int))):Nat->Int->Int->Option (Int)
 |0,_,_=>none
 |m+1,y8,y9=>
  (ix z1 x20)>>=fun x37=>
  if(decide ((AZ (y9+1))<(x37.length:Int)))=true then
   (((((ix z1 x20)>>=fun x41=>
   (ix x41 y9)>>=fun x42=>
   (ix x36 0)>>=fun x43=>
   if(decide (x42=x43))=true then
    (ix z1 x20)>>=fun x44=>
    (ix x44 (AZ (y9+1)))>>=fun x45=>
    (ix x36 1)>>=fun x46=>
    some (decide (x45=x46))
   else
    some false:Option (Bool))>>=fun y11=>
   ((if y11=true then
    some y9
   else
    some y8:Option (Int))>>=fun y12=>
   some y12)):Option (Int))>>=fun y10=>
   Db F x20 x36 z1 m y10 (AZ (y9+1)))
  else
   some y8
def Df(F:Nat)(x9:((List ((Int×Bool)×(Int×Bool)))×Int))(x20:Int)(x21:((List (List Int))×Int))(x22:((List Int)×Int))(z1:(List (List Int))):Nat->Int->Option (Sum Bool (Unit))
 |0,_=>none
 |m+1,y7=>
  if(decide (y7<(x9.1.length:Int)))=true then
   (ix x9.1 y7)>>=fun x34=>
   (ix x9.1 y7)>>=fun x35=>
   (KD F ([(x34.1.1,x34.1.2),(x35.2.1,x35.2.2)]:List (Int×Bool)))>>=fun x36=>
   ((Db F x20 x36 z1 F (-1) 0)>>=fun z3=>
   ((if(decide (z3<0))=true then
    if true=true then
     some true
    else
     (G5 F x21.1 x20 z3)>>=fun x47=>
     (G5 F x21.1 x20 (AZ (z3+1)))>>=fun x48=>
     some (!(x47==x48))
   else
    (ix x22.1 z3)>>=fun x49=>
    (ix x22.1 (AZ (z3+1)))>>=fun x50=>
    if(!decide (x49=x50))=true then
     some true
    else
     (G5 F x21.1 x20 z3)>>=fun x51=>
     (G5 F x21.1 x20 (AZ (z3+1)))>>=fun x52=>
     some (!(x51==x52)):Option (Bool))>>=fun y13=>
   if y13=true then
    some (.inl false)
   else
    Df F x9 x20 x21 x22 z1 m (AZ (y7+1))))
  else
   some (.inr ())
def Gb(F:Nat)(x0:Di)(x1:(Ar 4 (KI .u32)))(x2:Int)(x3:Int):Option Bool:=
 (Ff F (x0.1,x0.2.1,(x0.2.2.1,x0.2.2.2)))>>=fun x5=>
 if(!x5)=true then
  (JM F)>>=fun x6=>
  some x6
 else
  (KC F (x0.1,x0.2.1,(x0.2.2.1,x0.2.2.2)))>>=fun x7=>
  if((!decide (x7.2=0))||(decide (x7.1<0)))=true then
   some false
  else
   if(decide (x7.1=0))=true then
    (JM F)>>=fun x8=>
    some x8
   else
    (H7 F (x0.1,x0.2.1,(x0.2.2.1,x0.2.2.2)))>>=fun x9=>
    if(!decide (x9.2=0))=true then
     some false
    else
     ((Da F x0 x1 x2 x7 F ([]) true 0)>>=fun o=>match o with
      |.inl r=>some r
      |.inr (z1,z2)=>
       (rem (AZ x3) (AZ (2+(Int.tmod (AZ x2) 3))))>>=fun x20=>
       (Jk F (⟨[]⟩:(Uno (List (Ar 2 Int)))) z1)>>=fun x21=>
       (KP F (⟨[]⟩:(Uno (List (Ar 2 Int)))) z1 x20)>>=fun x22=>
       (LA F (⟨[]⟩:(Uno (List (Ar 2 Int)))) z1)>>=fun x23=>
       ((if(!decide (x21.2=0))=true then
        if true=true then
         some true
        else
         if(!decide (x23.2=0))=true then
          (ix z1 x20)>>=fun x25=>
          some (!decide ((x22.1.length:Int)=(x25.length:Int)))
         else
          (Dk F (⟨[]⟩:(Uno (List (Ar 2 Int)))) z1 x21.1)>>=fun x26=>
          if(!decide (x26=0))=true then
           some true
          else
           (ix z1 x20)>>=fun x27=>
           some (!decide ((x22.1.length:Int)=(x27.length:Int)))
       else
        if(!decide (x22.2=0))=true then
         if true=true then
          some true
         else
          (Dk F (⟨[]⟩:(Uno (List (Ar 2 Int)))) z1 x21.1)>>=fun x28=>
          if(!decide (x28=0))=true then
           some true
          else
           (ix z1 x20)>>=fun x29=>
           some (!decide ((x22.1.length:Int)=(x29.length:Int)))
        else
         if(!decide (x23.2=0))=true then
          if true=true then
           some true
          else
           (ix z1 x20)>>=fun x30=>
           some (!decide ((x22.1.length:Int)=(x30.length:Int)))
         else
          (Dk F (⟨[]⟩:(Uno (List (Ar 2 Int)))) z1 x21.1)>>=fun x31=>
          if(!decide (x31=0))=true then
           some true
          else
           (ix z1 x20)>>=fun x32=>
           some (!decide ((x22.1.length:Int)=(x32.length:Int))):Option (Bool))>>=fun y5=>
       if y5=true then
        some false
       else
        ((if z2=true then
         (ix z1 0)>>=fun x33=>
         if(!decide ((x21.1.length:Int)=(x33.length:Int)))=true then
          if true=true then
           some true
          else
           if(decide (0<(x9.1.length:Int)))=true then
            some (decide ((x21.1.length:Int)<2))
           else
            some false
         else
          if(!decide (x23.1=1))=true then
           some true
          else
           if(decide (0<(x9.1.length:Int)))=true then
            some (decide ((x21.1.length:Int)<2))
           else
            some false
        else
         if false=true then
          some true
         else
          if(decide (0<(x9.1.length:Int)))=true then
           some (decide ((x21.1.length:Int)<2))
          else
           some false:Option (Bool))>>=fun y6=>
        if y6=true then
         some false
        else
         ((Df F x9 x20 x21 x22 z1 F 0)>>=fun o=>match o with
          |.inl r=>some r
          |.inr ()=>
           (JM F)>>=fun x53=>
           some x53))))
end Go.Proofs.YtfmelbioccbdoaaGreat
end
section
namespace Go.Proofs.YtfmelbioccbdoaaGreat
open Go Go.Md Go.RowKit
attribute [local irreducible] Go.wpList Go.Code.wp Go.Calls Go.Md.Fh Go.Md.Mt Go.Md.Gq Go.Md.FC Go.Code.wpIn
theorem tT(F:Nat):∀(mr:Nat){w0 wi:World}(hk:Ext w0 wi){b0:Nat}{cs0:List Value}{x0:((Ob ((Uno (List (Ar 2 Int)))×(Ar 101 Int)))×(List (List Int))×(List (Ar 4 Int)))}(h0:Cs w0 b0 0 cs0)(q0:Enc.rep (fun _=>True) w0 cs0 x0){v1:Value}{x1:(Ar 4 Int)}(r1:RV w0 v1 x1){b2:Nat}{x2:(List ((Ar 4 Int)×Int))}(g2:w0.heap.size<=b2)(m2:Mp wi b2 x2){r:(Int×(List ((Ar 4 Int)×Int)))}(hF:Ca F mr x0 x1 x2=some r),
  Calls Tryz.prog 238 [.pointer (some ⟨b0,0,none⟩),v1,.map (some b2)].toArray wi (BQ fun v w'=>v=.int .i64 r.1/\Mp w' b2 r.2/\BelP (fun q=>q≠b2) wi.heap.size wi w'):=by
 intro mr
 induction mr with
 |zero=>
  intro w0 wi hk b0 cs0 x0 h0 q0 v1 x1 r1 b2 x2 g2 m2 r hF;rw[Ca]at hF;cases hF
 |succ mr ih=>
 intro w0 wi hk b0 cs0 x0 h0 q0 v1 x1 r1 b2 x2 g2 m2 r hF;rw[Ca]at hF;obtain⟨_,_,rfl,q4,_,_,rfl,⟨a2,cq1,rfl,p1,q5,e1⟩,a3,cq2,rfl,p2,q6,e2⟩:=q0;have hz:=Jz q4;obtain⟨a1,rfl,r4⟩:=hz;have r5:=RV.of1 p1 q5 e1;have r6:=RV.of1 p2 q6 e2;have hz:=id r1;obtain⟨_,rfl,rfl⟩:=hz;have r7:=r4.ext hk;have r8:=r5.ext hk;have r9:=r6.ext hk;have h4:=h0.ext hk;have Z0:wi.heap.size<=wi.heap.size:=Nat.le_refl _;have BP0:BelP (fun q=>q≠b2) wi.heap.size wi wi:=BelP.refl;refine BM (n:=77) Tryz.func238 rfl rfl rfl<|Zr<|C8 rfl rfl fun b4 w1 hx1 hg1 hb1=>?_;have k1:=hk.tr hx1;have zs1:=Nat.le_trans Z0 hx1.size;have BP1:=BP0.ext hx1 BP0.size;have m1:=m2.ext hx1;have r11:=r7.ext hx1;have r12:=r8.ext hx1;have r13:=r9.ext hx1;have h5:=h4.ext hx1;refine Za<|nl<|wp_seq<|Zr<|Zv (Al rfl A8 (BN _) (Bx.cs hb1))<|Zv (iU (r:=List.flatMap Flat.enc (Ar.fill 4 0:(Ar 4 Int)).l) A8 Tryz.underlying223 Aa pn rfl)<|Zv (eH (α:=(Ar 4 Int)) (a:=x1) (b:=(Ar.fill 4 0:(Ar 4 Int))) rfl qZ qY rfl rfl rfl rfl rfl)<|nl<|cnd rfl (fun h6=>?_) (fun h6=>?_)
 ·have hF:=Ab hF h6;refine Zr<|Za<|nl<|?_;cases hF;exact wp_ret<|Zw rfl rfl rfl ⟨rfl,m1,BP1⟩
 ·have hF:=Ac hF h6;refine wp_skip<|wp_seq<|Zr<|Zm<|Zv (Al rfl A8 (BN _) (Bx.cs hb1))<|bS hF fun x4 Ex4 hF=>Zv (YT (k:=x1) (d:=0) Tryz.underlying341 jJ (TI.zv Aa rfl rfl _) m1 (Ji Ex4) rfl rfl)<|Zm<|Zv (Dm rfl rfl)<|Zv (Dm rfl rfl)<|Za<|Za<|nl<|Zr<|Zm<|nl<|cnd rfl (fun h7=>?_) (fun h7=>?_)
  ·have hF:=Ab hF h7;refine Zr<|Zm<|Za<|nl<|?_;cases hF;exact wp_ret<|Zw rfl rfl rfl ⟨rfl,m1,BP1⟩
  ·have hF:=Ac hF h7;refine wp_skip<|Zr<|Za<|nl<|Zr<|Zv (Al rfl A8 (BN _) (Bx.cs hb1))<|EA A8 fun b5 w2 hx2 hg2 hb2=>?_;have zs2:=Nat.le_trans zs1 hx2.size;have BP2:=BP1.ext hx2 BP1.size;have hb4:Bx w2 b5 223 (List.flatMap Flat.enc ((Ar.fill 4 0:(Ar 4 Int))).l):=hb2;refine Nt rfl rfl A8 hb4 (BN _) (BN _) (IW _) fun w3 hch1 hb5=>?_;have k6:=Ext.chg hx2 hch1 (Nat.le_trans (Nat.le_refl _) hg2);have zs3:=Nat.le_trans zs2 (Nat.le_of_eq hch1.size.symm);have BP3:=BP2.chg hch1 (.inl (Nat.le_trans hx1.size hg2));have h9:=h5.ext k6;have hb7:Bx w3 b5 223 (List.flatMap Flat.enc x1.l):=hb5;refine nl<|wp_seq<|Zr<|Zm<|Zv (Bl rfl)<|Zv (AY rfl Jy)<|Zv (AR rfl Oc (h9.at 1 rfl))<|Zv (Ao rfl Tryz.underlying78)<|Zm<|nl<|bS hF fun o1 hB1 hF=>ct (fun L w=>∃z1:(Ar 4 Int),o1=.inr z1/\Bx w b5 223 (List.flatMap Flat.enc z1.l)/\L 0=.pointer (some ⟨b0,0,none⟩)/\L 2=.map (some b2)/\L 4=.pointer (some ⟨b4,0,none⟩)/\L 9=.int .i64 0/\L 10=.pointer (some ⟨b5,0,none⟩)/\wi.heap.size<=w.heap.size/\Ext w1 w/\BelP (fun q=>q≠b2) wi.heap.size wi w) ?_ ?_
   ·refine wp_block<|lp (I:=fun m L w=>∃y1:Int,∃y2:(Ar 4 Int),DK F x0 x1 x2 m y1 y2=some o1/\L 31=.int .i64 y1/\Bx w b5 223 (List.flatMap Flat.enc y2.l)/\L 0=.pointer (some ⟨b0,0,none⟩)/\L 2=.map (some b2)/\L 4=.pointer (some ⟨b4,0,none⟩)/\L 9=.int .i64 0/\L 10=.pointer (some ⟨b5,0,none⟩)/\L 30=.int .i64 (x0.2.1.length:Int)/\wi.heap.size<=w.heap.size/\Ext w1 w/\BelP (fun q=>q≠b2) wi.heap.size wi w) F ⟨_,_,hB1,rfl,hb7,rfl,rfl,rfl,rfl,rfl,rfl,zs3,k6,BP3⟩ ?_;rintro m L w4⟨y1,y2,hB1,l31_i1,B10_i1,l0_i1,l2_i1,l4_i1,l9_i1,l10_i1,l30_i1,Z0_i1,K0_i1,BP_i1⟩;rcases m with _|m
    ·rw[DK]at hB1;cases hB1
    rw[DK]at hB1;have m4:=m1.ext K0_i1;have hb8:=hb1.ext K0_i1;refine Zr<|Zv (BA l31_i1 l30_i1)<|nl<|wp_seq<|cnd rfl (fun h11=>?_) (fun h11=>?_)
    ·have hB1:=Ab hB1 h11;refine wp_skip<|wp_seq<|wp_block<|Zr<|Zm<|Za<|nl<|wp_seq<|Zr<|Zm<|bS hB1 fun x5 Ex5 hB1=>?_;have hz:=Dj (Bx.cs hb8) Ex5;obtain⟨i2,i3,hc1⟩:=hz;refine Zv (Cq l4_i1 l31_i1 Tryz.underlying223 Aa i2 i3)<|Zv (AR rfl Aa (hc1.at 0 rfl))<|Zv (FO rfl rfl)<|nl<|cnd rfl (fun h12=>?_) (fun h12=>?_)
     ·have hB1:=Ab hB1 h12;refine Zr<|Za<|nl<|?_;cases hB1;have hF:=(show some _=some _ from hF);cases hF;exact wp_ret<|Zw rfl rfl rfl ⟨rfl,m4,BP_i1⟩
     ·have hB1:=Ac hB1 h12;refine wp_skip<|rg<|Zm<|bS hB1 fun x6 Ex6 hB1=>?_;have hz:=Dj (Bx.cs B10_i1) Ex6;obtain⟨i4,i5,hc2⟩:=hz;refine Zv (Cq l10_i1 l31_i1 Tryz.underlying223 Aa i4 i5)<|Zv (AR rfl Aa (hc2.at 0 rfl))<|Zv (Ig rfl rfl)<|bS hB1 fun x7 Ex7 hB1=>?_;have hz:=Dj (Bx.cs B10_i1) Ex7;obtain⟨i6,i7,hc3⟩:=hz;refine Zv (Cq l10_i1 l31_i1 Tryz.underlying223 Aa i6 i7)<|YC (X:=y2) (v:=AZ (x6-1)) rfl rfl rfl Aa B10_i1 Ex7 fun w5 hch2 hb9=>?_;have k11:=Ext.chg K0_i1 hch2 (Nat.le_trans (Nat.le_refl _) hg2);have zs4:=Nat.le_trans Z0_i1 (Nat.le_of_eq hch2.size.symm);have BP4:=BP_i1.chg hch2 (.inl (Nat.le_trans hx1.size hg2));refine nl<|rg<|Zv (Aw l31_i1 rfl)<|Zm<|nl<|lq m (Nat.lt_succ_self _)<|?_;exact⟨_,_,hB1,rfl,hb9,l0_i1,l2_i1,l4_i1,l9_i1,l10_i1,l30_i1,zs4,k11,BP4⟩
    ·have hB1:=Ac hB1 h11;refine wp_exit<|?_;cases hB1;refine lf<|?_;exact⟨_,rfl,B10_i1,l0_i1,l2_i1,l4_i1,l9_i1,l10_i1,Z0_i1,K0_i1,BP_i1⟩
   rintro L w6⟨z1,rfl,B10_j1,l0_j1,l2_j1,l4_j1,l9_j1,l10_j1,Z0_j1,K0_j1,BP_j1⟩;have k12:=k1.tr K0_j1;have r27:=r11.ext K0_j1;have r28:=r12.ext K0_j1;have r29:=r13.ext K0_j1;have h14:=h5.ext K0_j1;have m6:=m1.ext K0_j1;have hb11:=hb1.ext K0_j1;refine wp_seq<|Zr<|Zm<|Zv (Al l10_j1 A8 (BN _) (Bx.cs B10_j1))<|bS hF fun x8 Ex8 hF=>Zc (xc iq (mc l0_j1 (mc rfl mn))) (nV (x0:=(x0.1,x0.2.1,x0.2.2)) h14 ⟨[.pointer a1],[.slice a2 x0.2.1.length cq1]++[.slice a3 x0.2.2.length cq2],rfl,(EC r27),[.slice a2 x0.2.1.length cq1],[.slice a3 x0.2.2.length cq2],rfl,r28.rep1,r29.rep1⟩ (show RV (α:=(Ar 4 Int)) _ (.agg (List.flatMap Flat.enc z1.l).toArray) z1 from⟨_,rfl,rfl⟩) Ex8) ?_;rintro _ w7⟨rfl,hx3⟩;have k14:=k12.tr hx3;have zs5:=Nat.le_trans Z0_j1 hx3.size;have BP5:=BP_j1.ext hx3 BP_j1.size;have m7:=m6.ext hx3;have hb12:=hb11.ext hx3;have B1:=B10_j1.ext hx3;have h15:=h14.ext hx3;refine nl<|?_;have hz:=bs hF;obtain⟨⟨y3,y4⟩,hB6,hF⟩:=hz;refine ct (fun L w=>L 9=.int .i64 y3/\Bx w b4 223 (List.flatMap Flat.enc (x1).l)/\Mp w b2 y4/\L 2=.map (some b2)/\L 4=.pointer (some ⟨b4,0,none⟩)/\wi.heap.size<=w.heap.size/\Ext w0 w/\BelP (fun q=>q≠b2) wi.heap.size wi w) ?_ ?_
   ·refine cnd rfl (fun h16=>?_) (fun h16=>?_)
    ·have hB6:=Ab hB6 h16;refine rg<|Zm<|Zv (Al l10_j1 A8 (BN _) (Bx.cs B1))<|Zm<|bS hB6 fun x9 Ex9 hB6=>Zc (xc YO (mc l0_j1 (mc rfl (mc l2_j1 mn)))) (ih k14 h0 ⟨[.pointer a1],[.slice a2 x0.2.1.length cq1]++[.slice a3 x0.2.2.length cq2],rfl,(EC r4),[.slice a2 x0.2.1.length cq1],[.slice a3 x0.2.2.length cq2],rfl,r5.rep1,r6.rep1⟩ (show RV (α:=(Ar 4 Int)) _ (.agg (List.flatMap Flat.enc z1.l).toArray) z1 from⟨_,rfl,rfl⟩) g2 m7 Ex9) ?_;rintro _ w8⟨rfl,hm1,hB8⟩;have hz:=BelP.split hB8 m7.lt;obtain⟨w9,hx4,hch3⟩:=hz;have k17:=k14.tr hx4;have zs6:=Nat.le_trans zs5 hx4.size;have BP6:=BP5.ext hx4 BP5.size;have m8:=m7.ext hx4;have hb13:=hb12.ext hx4;have k20:=Ext.chg k17 hch3 (Nat.le_trans (Nat.le_refl _) g2);have zs7:=Nat.le_trans zs6 (Nat.le_of_eq hch3.size.symm);have BP7:=BP6.chg hch3 (.inr fun h=>h rfl);have hb14:=Bx.chgm hb13 hch3 m8;refine Zv (Aw rfl rfl)<|Za<|nl<|?_;cases hB6;refine lf<|?_;exact⟨rfl,hb14,hm1,l2_j1,l4_j1,zs7,k20,BP7⟩
    ·have hB6:=Ac hB6 h16;refine Zr<|Zm<|Zv (Bl l0_j1)<|Zv (AY rfl Jy)<|Zv (AR rfl Oc (h15.at 1 rfl))<|Zv (Ao rfl Tryz.underlying78)<|Zm<|nl<|?_;have hz:=bs hB6;obtain⟨⟨z2,z3⟩,hB10,hB6⟩:=hz;refine ct (fun L w=>L 9=.int .i64 z2/\Bx w b4 223 (List.flatMap Flat.enc (x1).l)/\Mp w b2 z3/\L 2=.map (some b2)/\L 4=.pointer (some ⟨b4,0,none⟩)/\wi.heap.size<=w.heap.size/\Ext w0 w/\BelP (fun q=>q≠b2) wi.heap.size wi w) ?_ ?_
     ·refine wp_block<|lp (I:=fun m L w=>∃y5:Int,∃y6:Int,∃y7:(List ((Ar 4 Int)×Int)),D7 F (Ca F mr) x0 x1 m y5 y6 y7=some (z2,z3)/\L 9=.int .i64 y5/\L 57=.int .i64 y6/\Bx w b4 223 (List.flatMap Flat.enc (x1).l)/\Mp w b2 y7/\L 0=.pointer (some ⟨b0,0,none⟩)/\L 2=.map (some b2)/\L 4=.pointer (some ⟨b4,0,none⟩)/\L 56=.int .i64 (x0.2.1.length:Int)/\wi.heap.size<=w.heap.size/\Ext w0 w/\BelP (fun q=>q≠b2) wi.heap.size wi w) F ⟨_,_,_,hB10,l9_j1,rfl,hb12,m7,l0_j1,l2_j1,l4_j1,rfl,zs5,k14,BP5⟩ ?_;rintro m L w10⟨y5,y6,y7,hB10,l9_i8,l57_i8,B4_i8,Q9000_i8,l0_i8,l2_i8,l4_i8,l56_i8,Z0_i8,K0_i8,BP_i8⟩;rcases m with _|m
      ·rw[D7]at hB10;cases hB10
      rw[D7]at hB10;refine Zr<|Zv (BA l57_i8 l56_i8)<|nl<|wp_seq<|cnd rfl (fun h18=>?_) (fun h18=>?_)
      ·have hB10:=Ab hB10 h18;refine wp_skip<|wp_seq<|wp_block<|Zr<|Zm<|Za<|nl<|Zr<|Zv (Al l4_i8 A8 (BN _) (Bx.cs B4_i8))<|EA A8 fun b6 w11 hx5 hg3 hb15=>?_;have k21:=K0_i8.tr hx5;have zs8:=Nat.le_trans Z0_i8 hx5.size;have BP8:=BP_i8.ext hx5 BP_i8.size;have hb17:Bx w11 b6 223 (List.flatMap Flat.enc ((Ar.fill 4 0:(Ar 4 Int))).l):=hb15;refine Nt rfl rfl A8 hb17 (BN _) (BN _) (IW _) fun w12 hch4 hb18=>?_;have k22:=Ext.chg k21 hch4 (Nat.le_trans K0_i8.size hg3);have k23:=Ext.chg hx5 hch4 (Nat.le_trans (Nat.le_refl _) hg3);have zs9:=Nat.le_trans zs8 (Nat.le_of_eq hch4.size.symm);have BP9:=BP8.chg hch4 (.inl (Nat.le_trans Z0_i8 hg3));have hb20:Bx w12 b6 223 (List.flatMap Flat.enc x1.l):=hb18;refine nl<|Zr<|Zm<|bS hB10 fun x10 Ex10 hB10=>?_;have hz:=Dj (Bx.cs hb20) Ex10;obtain⟨i9,i10,hc4⟩:=hz;refine Zv (Cq rfl l57_i8 Tryz.underlying223 Aa i9 i10)<|Zv (AR rfl Aa (hc4.at 0 rfl))<|Zv (Ig rfl rfl)<|bS hB10 fun x11 Ex11 hB10=>?_;have hz:=Dj (Bx.cs hb20) Ex11;obtain⟨i11,i12,hc5⟩:=hz;refine Zv (Cq rfl l57_i8 Tryz.underlying223 Aa i11 i12)<|YC (X:=x1) (v:=AZ (x10-1)) rfl rfl rfl Aa hb20 Ex11 fun w13 hch5 hb21=>?_;have k24:=Ext.chg k22 hch5 (Nat.le_trans K0_i8.size hg3);have k25:=Ext.chg k23 hch5 (Nat.le_trans (Nat.le_refl _) hg3);have zs10:=Nat.le_trans zs9 (Nat.le_of_eq hch5.size.symm);have BP10:=BP9.chg hch5 (.inl (Nat.le_trans Z0_i8 hg3));have Q3:=Q9000_i8.ext k25;have hb22:=B4_i8.ext k25;refine nl<|rg<|Zm<|Zm<|Zv (Al rfl A8 (BN _) (Bx.cs hb21))<|Zm<|bS hB10 fun x12 Ex12 hB10=>Zc (xc YO (mc l0_i8 (mc rfl (mc l2_i8 mn)))) (ih k24 h0 ⟨[.pointer a1],[.slice a2 x0.2.1.length cq1]++[.slice a3 x0.2.2.length cq2],rfl,(EC r4),[.slice a2 x0.2.1.length cq1],[.slice a3 x0.2.2.length cq2],rfl,r5.rep1,r6.rep1⟩ (show RV (α:=(Ar 4 Int)) _ (.agg (List.flatMap Flat.enc (Ei x1 y6 (AZ (x10-1))).l).toArray) (Ei x1 y6 (AZ (x10-1)))from⟨_,rfl,rfl⟩) g2 Q3 Ex12) ?_;rintro _ w14⟨rfl,hm2,hB12⟩;have hz:=BelP.split hB12 Q3.lt;obtain⟨w15,hx6,hch6⟩:=hz;have k26:=k24.tr hx6;have zs11:=Nat.le_trans zs10 hx6.size;have BP11:=BP10.ext hx6 BP10.size;have Q4:=Q3.ext hx6;have hb23:=hb22.ext hx6;have k28:=Ext.chg k26 hch6 (Nat.le_trans (Nat.le_refl _) g2);have zs12:=Nat.le_trans zs11 (Nat.le_of_eq hch6.size.symm);have BP12:=BP11.chg hch6 (.inr fun h=>h rfl);have hb24:=Bx.chgm hb23 hch6 Q4;refine bS hB10 fun x13 Ex13 hB10=>Zc (xc iw (mc l9_i8 (mc rfl mn))) (nT Ex13) ?_;rintro _ w16⟨rfl,hx7⟩;have k29:=k28.tr hx7;have zs13:=Nat.le_trans zs12 hx7.size;have BP13:=BP12.ext hx7 BP12.size;have hm3:=hm2.ext hx7;have hb25:=hb24.ext hx7;refine Za<|nl<|rg<|Zv (Aw l57_i8 rfl)<|Zm<|nl<|lq m (Nat.lt_succ_self _)<|?_;exact⟨_,_,_,hB10,rfl,rfl,hb25,hm3,l0_i8,l2_i8,l4_i8,l56_i8,zs13,k29,BP13⟩
      ·have hB10:=Ac hB10 h18;refine wp_exit<|?_;cases hB10;refine lf<|?_;exact⟨l9_i8,B4_i8,Q9000_i8,l2_i8,l4_i8,Z0_i8,K0_i8,BP_i8⟩
     rintro L w17⟨l9_j2,B4_j2,Q9000_j2,l2_j2,l4_j2,Z0_j2,K0_j2,BP_j2⟩;cases hB6;refine lf<|?_;exact⟨l9_j2,B4_j2,Q9000_j2,l2_j2,l4_j2,Z0_j2,K0_j2,BP_j2⟩
   rintro L w18⟨l9_j3,B4_j3,Q9000_j3,l2_j3,l4_j3,Z0_j3,K0_j3,BP_j3⟩;refine Zr<|Zm<|Zv (Al l4_j3 A8 (BN _) (Bx.cs B4_j3))<|Zm<|bS hF fun x14 Ex14 hF=>VE (k:=x1) (v:=y3) l2_j3 rfl (uP l9_j3) Tryz.underlying341 jJ Q9000_j3 (Ji Ex14) fun w19 hch7 hm4=>?_;have BP14:=BP_j3.chg hch7 (.inr fun h=>h rfl);refine nl<|Zr<|Zm<|Za<|nl<|?_;cases hF;exact wp_ret<|rt rfl (.tmp l9_j3 rfl .nil) ⟨rfl,hm4,BP14⟩
theorem yF{w0 wi:World}(hk:Ext w0 wi){b0:Nat}{cs0:List Value}{x0:((Ob ((Uno (List (Ar 2 Int)))×(Ar 101 Int)))×(List (List Int))×(List (Ar 4 Int)))}(h0:Cs w0 b0 0 cs0)(q0:Enc.rep (fun _=>True) w0 cs0 x0){v1:Value}{x1:(Ar 4 Int)}(r1:RV w0 v1 x1){b2:Nat}{x2:(List ((Ar 4 Int)×Int))}(g2:w0.heap.size<=b2)(m2:Mp wi b2 x2){F:Nat}{r:(Int×(List ((Ar 4 Int)×Int)))}(hF:Kg F x0 x1 x2=some r):
  Calls Tryz.prog 238 [.pointer (some ⟨b0,0,none⟩),v1,.map (some b2)].toArray wi (BQ fun v w'=>v=.int .i64 r.1/\Mp w' b2 r.2/\BelP (fun q=>q≠b2) wi.heap.size wi w'):=tT F F hk h0 q0 r1 g2 m2 hF
theorem gy{w0:World}{b0:Nat}{cs0:List Value}{x0:((Ob ((Uno (List (Ar 2 Int)))×(Ar 101 Int)))×(List (List Int))×(List (Ar 4 Int)))}(h0:Cs w0 b0 0 cs0)(q0:Enc.rep (fun _=>True) w0 cs0 x0){F:Nat}{r:(List Int)}(hF:BI F x0=some r):
  Calls Tryz.prog 130 [.pointer (some ⟨b0,0,none⟩)].toArray w0 (BQ fun v w'=>∃u0:Value,v=u0/\RV w' u0 r/\Ext w0 w'):=by
 unfold BI at hF;obtain⟨_,_,rfl,q2,_,_,rfl,⟨a2,cq1,rfl,p1,q3,e1⟩,a3,cq2,rfl,p2,q4,e2⟩:=q0;have hz:=Jz q2;obtain⟨a1,rfl,r2⟩:=hz;have r3:=RV.of1 p1 q3 e1;have r4:=RV.of1 p2 q4 e2;refine BM (n:=27) Tryz.func130 rfl rfl rfl<|Zr<|Za<|nl<|Zr<|YU (κ:=(Ar 4 Int)) (ν:=Int) fun b2 w1 hx1 hg1 hm1=>?_;have h2:=h0.ext hx1;refine Za<|nl<|Zr<|Za<|nl<|wp_seq<|Zr<|Zm<|Zv (Bl rfl)<|Zv (AY rfl Gd)<|Zv (AR rfl JY (h2.at 2 rfl))<|Zv (Ao rfl Tryz.underlying214)<|Zm<|nl<|?_;have o1:Row (α:=Int) 3 w1.heap.size w1 (.slice none 0 0) []:=Row.nil;have hz:=bs hF;obtain⟨⟨z1,z2⟩,hB1,hF⟩:=hz;refine ct (fun L w=>∃v3:Value,L 4=v3/\Row 3 w1.heap.size w v3 z1/\Mp w b2 z2/\w1.heap.size<=w.heap.size/\Ext w0 w) ?_ ?_
 ·refine wp_block<|lp (I:=fun m L w=>∃y1:(List Int),∃y2:Int,∃y3:(List ((Ar 4 Int)×Int)),∃v2:Value,D8 F x0 m y1 y2 y3=some (z1,z2)/\L 4=v2/\Row 3 w1.heap.size w v2 y1/\L 13=.int .i64 y2/\Mp w b2 y3/\L 0=.pointer (some ⟨b0,0,none⟩)/\L 3=.map (some b2)/\L 11=.slice a3 x0.2.2.length cq2/\L 12=.int .i64 (x0.2.2.length:Int)/\w1.heap.size<=w.heap.size/\Ext w0 w) F ⟨_,_,_,_,hB1,rfl,o1,rfl,hm1,rfl,rfl,rfl,rfl,(Nat.le_refl _),hx1⟩ ?_;rintro m L w2⟨y1,y2,y3,v2,hB1,l4_i1,O4_i1,l13_i1,Q9000_i1,l0_i1,l3_i1,l11_i1,l12_i1,Z0_i1,K0_i1⟩;rcases m with _|m
  ·rw[D8]at hB1;cases hB1
  rw[D8]at hB1;have hz:=RV.sl O4_i1.rv;obtain⟨a4,cq3,rfl,-,-,-⟩:=hz;refine Zr<|Zv (BA l13_i1 l12_i1)<|nl<|wp_seq<|cnd rfl (fun h4=>?_) (fun h4=>?_)
  ·have hB1:=Ab hB1 h4;refine wp_skip<|wp_seq<|wp_block<|Zr<|bS hB1 fun x2 Ex2 hB1=>?_;have hz:=(RV.els r4).ix Ex2;obtain⟨b3,f1,cs2,e3,i2,i3,q5,hc1⟩:=hz;cases e3;obtain rfl:=q5;have hc2:=hc1.ext K0_i1;refine Zv (Aj l11_i1 l13_i1 Tryz.underlying214 A8 i2 i3)<|Zv (Al rfl A8 (BN _) hc2)<|EA A8 fun b4 w3 hx2 hg2 hb1=>?_;have k1:=K0_i1.tr hx2;have zs1:=Nat.le_trans Z0_i1 hx2.size;have hb2:Bx w3 b4 223 (List.flatMap Flat.enc ((Ar.fill 4 0:(Ar 4 Int))).l):=hb1;refine Nt rfl rfl A8 hb2 (BN _) (BN _) (IW _) fun w4 hch1 hb3=>?_;have k2:=Ext.chg k1 hch1 (Nat.le_trans K0_i1.size hg2);have k3:=Ext.chg hx2 hch1 (Nat.le_trans (Nat.le_refl _) hg2);have zs2:=Nat.le_trans zs1 (Nat.le_of_eq hch1.size.symm);have Q2:=Q9000_i1.ext k3;have O2:=O4_i1.ext k3;have hb4:Bx w4 b4 223 (List.flatMap Flat.enc x2.l):=hb3;refine nl<|rg<|Zm<|Zm<|Zv (Al rfl A8 (BN _) (Bx.cs hb4))<|Zm<|bS hB1 fun x3 Ex3 hB1=>Zc (xc YO (mc l0_i1 (mc rfl (mc l3_i1 mn)))) (yF k2 h0 ⟨[.pointer a1],[.slice a2 x0.2.1.length cq1]++[.slice (some ⟨b3,f1,none⟩) x0.2.2.length cq2],rfl,(EC r2),[.slice a2 x0.2.1.length cq1],[.slice (some ⟨b3,f1,none⟩) x0.2.2.length cq2],rfl,r3.rep1,r4.rep1⟩ (show RV (α:=(Ar 4 Int)) _ (.agg (List.flatMap Flat.enc x2.l).toArray) x2 from⟨_,rfl,rfl⟩) hg1 Q2 Ex3) ?_;rintro _ w5⟨rfl,hm2,hB3⟩;have hz:=BelP.split hB3 Q2.lt;obtain⟨w6,hx3,hch2⟩:=hz;have k4:=k2.tr hx3;have zs3:=Nat.le_trans zs2 hx3.size;have Q3:=Q2.ext hx3;have O3:=O2.ext hx3;have k6:=Ext.chg k4 hch2 (Nat.le_trans (Nat.le_refl _) hg1);have zs4:=Nat.le_trans zs3 (Nat.le_of_eq hch2.size.symm);have o3:=Row.chgm O3 hch2 Q3;refine Zv (Aw rfl rfl)<|Ii (cs:=[.int .i64 (AZ (1+x3.1))]) Tryz.underlying41 Aa rfl (pc rfl pn) rfl rfl rfl rfl rfl fun b5 w7 hx4 hg3 hb5=>?_;have k7:=k6.tr hx4;have zs5:=Nat.le_trans zs4 hx4.size;have hm3:=hm2.ext hx4;have O4:=o3.ext hx4;have o4:Row (α:=Int) 3 w5.heap.size w7 (.slice (some ⟨b5,0,none⟩) 1 1) [AZ (1+x3.1)]:=Row.lit hg3 hb5 rfl (ble rfl);refine bS hB1 fun x4 Ex4 hB1=>Od (l:=y1) (k:=([AZ (1+x3.1)]:List Int)) l4_i1 rfl Tryz.underlying41 Aa rfl rfl O4 (RV.els o4.rv) Ex4 zs5 fun v4 w8 o5 hB4 hgr1 how1=>?_;have k8:=Ext.grow k7 hx1.size hB4;have zs6:=Nat.le_trans zs5 hgr1.size;have hm4:=Mp.grr hm3 hgr1 O4;have hz:=RV.sl o5.rv;obtain⟨a5,cq4,rfl,-,-,-⟩:=hz;refine Za<|nl<|rg<|Zv (Aw l13_i1 rfl)<|Zm<|nl<|lq m (Nat.lt_succ_self _)<|?_;exact⟨_,_,_,_,hB1,rfl,o5,rfl,hm4,l0_i1,l3_i1,l11_i1,l12_i1,zs6,k8⟩
  ·have hB1:=Ac hB1 h4;refine wp_exit<|?_;cases hB1;refine lf<|?_;exact⟨_,l4_i1,O4_i1,Q9000_i1,Z0_i1,K0_i1⟩
 rintro L w9⟨v3,l4_j1,O4_j1,Q9000_j1,Z0_j1,K0_j1⟩;have hz:=RV.sl O4_j1.rv;obtain⟨a6,cq5,rfl,-,-,-⟩:=hz;refine Zr<|Zm<|Za<|nl<|?_;cases hF;exact wp_ret<|rt rfl (.tmp l4_j1 rfl .nil) ⟨_,rfl,O4_j1.rv,K0_j1⟩
theorem iA{w0:World}{b0:Nat}{cs0:List Value}{x0:((Ob ((Uno (List (Ar 2 Int)))×(Ar 101 Int)))×(List (List Int))×(List (Ar 4 Int)))}(h0:Cs w0 b0 0 cs0)(q0:Enc.rep (fun _=>True) w0 cs0 x0){F:Nat}{r:(List (Int×Int))}(hF:CW F x0=some r):
  Calls Tryz.prog 125 [.pointer (some ⟨b0,0,none⟩)].toArray w0 (BQ fun v w'=>∃u0:Value,v=u0/\RV w' u0 r/\Ext w0 w'):=by
 unfold CW at hF;obtain⟨_,_,rfl,q2,_,_,rfl,⟨a2,cq1,rfl,p1,q3,e1⟩,a3,cq2,rfl,p2,q4,e2⟩:=q0;have hz:=Jz q2;obtain⟨a1,rfl,r2⟩:=hz;have r3:=RV.of1 p1 q3 e1;have r4:=RV.of1 p2 q4 e2;refine BM (n:=181) Tryz.func125 rfl rfl rfl<|Zr<|Za<|nl<|Zr<|Zm<|bS hF fun x2 Ex2 hF=>Zc (xc YL (mc rfl mn)) (gy (x0:=(x0.1,x0.2.1,x0.2.2)) h0 ⟨[.pointer a1],[.slice a2 x0.2.1.length cq1]++[.slice a3 x0.2.2.length cq2],rfl,(EC r2),[.slice a2 x0.2.1.length cq1],[.slice a3 x0.2.2.length cq2],rfl,r3.rep1,r4.rep1⟩ Ex2) ?_;rintro _ w1⟨u1,rfl,r5,hx1⟩;have r6:=r2.ext hx1;have r7:=r3.ext hx1;have r8:=r4.ext hx1;have h2:=h0.ext hx1;have hz:=RV.sl r5;obtain⟨a4,cq3,rfl,-,-,-⟩:=hz;refine Za<|nl<|Zr<|Za<|nl<|wp_seq<|Zr<|Zm<|Zv (Ao rfl Tryz.underlying41)<|Zm<|nl<|bS hF fun z1 hB1 hF=>ct (fun L w=>L 4=.int .i64 z1/\L 0=.pointer (some ⟨b0,0,none⟩)/\L 3=.slice a4 x2.length cq3/\Ext w1 w) ?_ ?_
 ·refine wp_block<|lp (I:=fun m L w=>∃y1:Int,∃y2:Int,FE F x2 m y1 y2=some z1/\L 4=.int .i64 y1/\L 18=.int .i64 y2/\L 0=.pointer (some ⟨b0,0,none⟩)/\L 3=.slice a4 x2.length cq3/\L 16=.slice a4 x2.length cq3/\L 17=.int .i64 (x2.length:Int)/\Ext w1 w) F ⟨_,_,hB1,rfl,rfl,rfl,rfl,rfl,rfl,(Ext.refl _)⟩ ?_;rintro m L w2⟨y1,y2,hB1,l4_i1,l18_i1,l0_i1,l3_i1,l16_i1,l17_i1,K0_i1⟩;rcases m with _|m
  ·rw[FE]at hB1;cases hB1
  rw[FE]at hB1;refine Zr<|Zv (BA l18_i1 l17_i1)<|nl<|wp_seq<|cnd rfl (fun h4=>?_) (fun h4=>?_)
  ·have hB1:=Ab hB1 h4;refine wp_skip<|wp_seq<|wp_block<|Zr<|bS hB1 fun x3 Ex3 hB1=>?_;have hz:=(RV.els r5).ix Ex3;obtain⟨b2,f1,cs2,e3,i2,i3,q5,hc1⟩:=hz;cases e3;obtain rfl:=q5;have hc2:=hc1.ext K0_i1;refine Zv (Aj l16_i1 l18_i1 Tryz.underlying41 Aa i2 i3)<|Zv (AR rfl Aa (hc2.at 0 rfl))<|Za<|nl<|rg<|Zm<|Zm<|bS hB1 fun x4 Ex4 hB1=>Zc (xc iw (mc l4_i1 (mc rfl mn))) (nT Ex4) ?_;rintro _ w3⟨rfl,hx2⟩;have k3:=K0_i1.tr hx2;refine Za<|nl<|rg<|Zv (Aw l18_i1 rfl)<|Zm<|nl<|lq m (Nat.lt_succ_self _)<|?_;exact⟨_,_,hB1,rfl,rfl,l0_i1,l3_i1,l16_i1,l17_i1,k3⟩
  ·have hB1:=Ac hB1 h4;refine wp_exit<|?_;cases hB1;refine lf<|?_;exact⟨l4_i1,l0_i1,l3_i1,K0_i1⟩
 rintro L w4⟨l4_j1,l0_j1,l3_j1,K0_j1⟩;have k4:=hx1.tr K0_j1;have r17:=r6.ext K0_j1;have r18:=r7.ext K0_j1;have r19:=r8.ext K0_j1;have h6:=h2.ext K0_j1;refine Zr<|Zm<|Zv (Bl l0_j1)<|Zv (AY rfl Gd)<|Zv (AR rfl JY (h6.at 2 rfl))<|Zv (Ao rfl Tryz.underlying214)<|bS hF fun x5 Ex5 hF=>VJ (α:=(Int×Int)) (z0:=(0,0)) rfl rfl Tryz.underlying216 Hg rfl rfl rfl Ex5 fun b3 w5 hx3 o2=>?_;have h7:=h6.ext hx3;refine Za<|nl<|wp_seq<|Zr<|Zm<|Zv (Bl l0_j1)<|Zv (AY rfl Gd)<|Zv (AR rfl JY (h7.at 2 rfl))<|Zv (Ao rfl Tryz.underlying214)<|Zm<|nl<|bS hF fun z2 hB4 hF=>ct (fun L w=>L 7=(.slice (some ⟨b3,0,none⟩) x5.length x5.length)/\Row 225 w4.heap.size w (.slice (some ⟨b3,0,none⟩) x5.length x5.length) z2/\L 0=.pointer (some ⟨b0,0,none⟩)/\L 3=.slice a4 x2.length cq3/\L 4=.int .i64 z1/\Ext w4 w) ?_ ?_
 ·refine wp_block<|lp (I:=fun m L w=>∃y3:(List (Int×Int)),∃y4:Int,FI F x0 x2 m y3 y4=some z2/\L 7=(.slice (some ⟨b3,0,none⟩) x5.length x5.length)/\Row 225 w4.heap.size w (.slice (some ⟨b3,0,none⟩) x5.length x5.length) y3/\L 37=.int .i64 y4/\L 0=.pointer (some ⟨b0,0,none⟩)/\L 3=.slice a4 x2.length cq3/\L 4=.int .i64 z1/\L 35=.slice a3 x0.2.2.length cq2/\L 36=.int .i64 (x0.2.2.length:Int)/\Ext w4 w) F ⟨_,_,hB4,rfl,o2,rfl,l0_j1,l3_j1,l4_j1,rfl,rfl,hx3⟩ ?_;rintro m L w6⟨y3,y4,hB4,l7_i4,O7_i4,l37_i4,l0_i4,l3_i4,l4_i4,l35_i4,l36_i4,K0_i4⟩;rcases m with _|m
  ·rw[FI]at hB4;cases hB4
  rw[FI]at hB4;have k7:=k4.tr K0_i4;have k8:=K0_j1.tr K0_i4;refine Zr<|Zv (BA l37_i4 l36_i4)<|nl<|wp_seq<|cnd rfl (fun h9=>?_) (fun h9=>?_)
  ·have hB4:=Ab hB4 h9;refine wp_skip<|wp_seq<|wp_block<|Zr<|Zm<|bS hB4 fun x6 Ex6 hB4=>?_;have hz:=(RV.els r4).ix Ex6;obtain⟨b4,f2,cs3,e4,i5,i6,q6,hc3⟩:=hz;cases e4;obtain rfl:=q6;have hc4:=hc3.ext k7;refine Zv (Aj l35_i4 l37_i4 Tryz.underlying214 A8 i5 i6)<|Zv (Al rfl A8 (BN _) hc4)<|EA A8 fun b5 w7 hx4 hg1 hb1=>?_;have k10:=k8.tr hx4;have k11:=K0_i4.tr hx4;have hb2:Bx w7 b5 223 (List.flatMap Flat.enc ((Ar.fill 4 0:(Ar 4 Int))).l):=hb1;refine Za<|Nt rfl rfl A8 hb2 (BN _) (BN _) (IW _) fun w8 hch1 hb3=>?_;have k13:=Ext.chg k10 hch1 (Nat.le_trans k8.size hg1);have k14:=Ext.chg k11 hch1 (Nat.le_trans K0_i4.size hg1);have k15:=Ext.chg hx4 hch1 (Nat.le_trans (Nat.le_refl _) hg1);have O2:=O7_i4.ext k15;have hb4:Bx w8 b5 223 (List.flatMap Flat.enc x6.l):=hb3;refine nl<|wp_seq<|Zr<|Zm<|Zm<|bS hB4 fun x7 Ex7 hB4=>?_;have hz:=(RV.els r5).ix Ex7;obtain⟨b6,f3,cs4,e5,i7,i8,q7,hc5⟩:=hz;cases e5;obtain rfl:=q7;have hc6:=hc5.ext k13;refine Zv (Aj l3_i4 l37_i4 Tryz.underlying41 Aa i7 i8)<|Zv (AR rfl Aa (hc6.at 0 rfl))<|Zv (FO rfl rfl)<|nl<|bS hB4 fun y5 hB6 hB4=>ct (fun L w=>L 7=(.slice (some ⟨b3,0,none⟩) x5.length x5.length)/\Row 225 w4.heap.size w (.slice (some ⟨b3,0,none⟩) x5.length x5.length) y5/\Bx w b5 223 (List.flatMap Flat.enc (x6).l)/\L 0=.pointer (some ⟨b0,0,none⟩)/\L 3=.slice (some ⟨b6,f3,none⟩) x2.length cq3/\L 4=.int .i64 z1/\L 8=.int .i64 y4/\L 9=.pointer (some ⟨b5,0,none⟩)/\L 35=.slice (some ⟨b4,f2,none⟩) x0.2.2.length cq2/\L 36=.int .i64 (x0.2.2.length:Int)/\L 37=.int .i64 y4/\Ext w4 w) ?_ ?_
   ·refine cnd rfl (fun h12=>?_) (fun h12=>?_)
    ·have hB6:=Ab hB6 h12;refine rg<|Zm<|Zm<|bS hB6 fun x8 Ex8 hB6=>?_;have hz:=Fq O2.rv Ex8;obtain⟨cs5,i9,i10,q8,hc7⟩:=hz;obtain⟨_,_,rfl,rfl,rfl⟩:=q8;have i11:y4<(x5.length:Int):=by rw[(RV.cap O2.rv).1];exact i10
     refine Zv (Aj l7_i4 l37_i4 Tryz.underlying216 Hg i9 i11)<|Zv (AY rfl MX)<|Ur (l:=y3) (1,x8.2) 0 rfl rfl rfl rfl rfl CJ O2 Ex8 rfl (by decide) fun w9 hch2 o4=>?_;have k18:=Ext.chg k14 hch2 (Nat.le_trans (Nat.le_refl _) (Row.ge O2));have hb5:=Bx.chg hb4 hch2 (fun e=>(O7_i4.ne_new hg1) (congrArg some e));refine nl<|?_;cases hB6;refine lf<|?_;exact⟨l7_i4,o4,hb5,l0_i4,l3_i4,l4_i4,l37_i4,rfl,l35_i4,l36_i4,l37_i4,k18⟩
    ·have hB6:=Ac hB6 h12;refine wp_skip<|?_;cases hB6;refine lf<|?_;exact⟨l7_i4,O2,hb4,l0_i4,l3_i4,l4_i4,l37_i4,rfl,l35_i4,l36_i4,l37_i4,k14⟩
   rintro L w10⟨l7_j2,O7_j2,B9_j2,l0_j2,l3_j2,l4_j2,l8_j2,l9_j2,l35_j2,l36_j2,l37_j2,K0_j2⟩;have h14:=h6.ext K0_j2;refine Zr<|Zm<|Zv (Bl l0_j2)<|Zv (AY rfl Gd)<|Zv (AR rfl JY (h14.at 2 rfl))<|Zm<|Zm<|bS hB4 fun x9 Ex9 hB4=>?_;have hz:=wW r4 Ex9 Tryz.underlying214 A8;obtain⟨a5,r45,hr1⟩:=hz;refine Zv (hr1 _ _ _ _ _ _ _ _ _ _ _ rfl l8_j2 l8_j2)<|Zv (Ao rfl Tryz.underlying214)<|Zm<|nl<|bS hB4 fun z3 hB9 hB4=>ct (fun L w=>L 7=(.slice (some ⟨b3,0,none⟩) x5.length x5.length)/\Row 225 w4.heap.size w (.slice (some ⟨b3,0,none⟩) x5.length x5.length) z3/\L 0=.pointer (some ⟨b0,0,none⟩)/\L 3=.slice (some ⟨b6,f3,none⟩) x2.length cq3/\L 4=.int .i64 z1/\L 35=.slice (some ⟨b4,f2,none⟩) x0.2.2.length cq2/\L 36=.int .i64 (x0.2.2.length:Int)/\L 37=.int .i64 y4/\Ext w4 w) ?_ ?_
   ·refine wp_block<|lp (I:=fun m L w=>∃y6:(List (Int×Int)),∃y7:Int,FH F x0 x2 x6 x9 y4 m y6 y7=some z3/\L 7=(.slice (some ⟨b3,0,none⟩) x5.length x5.length)/\Row 225 w4.heap.size w (.slice (some ⟨b3,0,none⟩) x5.length x5.length) y6/\L 59=.int .i64 y7/\Bx w b5 223 (List.flatMap Flat.enc (x6).l)/\L 0=.pointer (some ⟨b0,0,none⟩)/\L 3=.slice (some ⟨b6,f3,none⟩) x2.length cq3/\L 4=.int .i64 z1/\L 8=.int .i64 y4/\L 9=.pointer (some ⟨b5,0,none⟩)/\L 35=.slice (some ⟨b4,f2,none⟩) x0.2.2.length cq2/\L 36=.int .i64 (x0.2.2.length:Int)/\L 37=.int .i64 y4/\L 57=.slice a5 x9.length x9.length/\L 58=.int .i64 (x9.length:Int)/\Ext w4 w) F ⟨_,_,hB9,l7_j2,O7_j2,rfl,B9_j2,l0_j2,l3_j2,l4_j2,l8_j2,l9_j2,l35_j2,l36_j2,l37_j2,rfl,rfl,K0_j2⟩ ?_;rintro m L w11⟨y6,y7,hB9,l7_i12,O7_i12,l59_i12,B9_i12,l0_i12,l3_i12,l4_i12,l8_i12,l9_i12,l35_i12,l36_i12,l37_i12,l57_i12,l58_i12,K0_i12⟩;rcases m with _|m
    ·rw[FH]at hB9;cases hB9
    rw[FH]at hB9;have k21:=k4.tr K0_i12;have k22:=K0_j1.tr K0_i12;have r47:=r17.ext K0_i12;have r48:=r18.ext K0_i12;have r49:=r19.ext K0_i12;have h15:=h6.ext K0_i12;refine Zr<|Zv (BA l59_i12 l58_i12)<|nl<|wp_seq<|cnd rfl (fun h16=>?_) (fun h16=>?_)
    ·have hB9:=Ab hB9 h16;refine wp_skip<|wp_seq<|bS hB9 fun y8 hB11 hB9=>ct (fun L w=>L 7=(.slice (some ⟨b3,0,none⟩) x5.length x5.length)/\Row 225 w4.heap.size w (.slice (some ⟨b3,0,none⟩) x5.length x5.length) y8/\Bx w b5 223 (List.flatMap Flat.enc (x6).l)/\L 0=.pointer (some ⟨b0,0,none⟩)/\L 3=.slice (some ⟨b6,f3,none⟩) x2.length cq3/\L 4=.int .i64 z1/\L 8=.int .i64 y4/\L 9=.pointer (some ⟨b5,0,none⟩)/\L 35=.slice (some ⟨b4,f2,none⟩) x0.2.2.length cq2/\L 36=.int .i64 (x0.2.2.length:Int)/\L 37=.int .i64 y4/\L 57=.slice a5 x9.length x9.length/\L 58=.int .i64 (x9.length:Int)/\L 59=.int .i64 y7/\Ext w4 w) ?_ ?_
     ·refine wp_block<|Zr<|Zm<|bS hB11 fun x10 Ex10 hB11=>?_;have hz:=(RV.els r45).ix Ex10;obtain⟨b7,f4,cs6,e6,i13,i14,q9,hc8⟩:=hz;cases e6;obtain rfl:=q9;have hc9:=hc8.ext k21;refine Zv (Aj l57_i12 l59_i12 Tryz.underlying214 A8 i13 i14)<|Zv (Al rfl A8 (BN _) hc9)<|EA A8 fun b8 w12 hx5 hg2 hb6=>?_;have k24:=k22.tr hx5;have k25:=K0_i12.tr hx5;have hb8:Bx w12 b8 223 (List.flatMap Flat.enc ((Ar.fill 4 0:(Ar 4 Int))).l):=hb6;refine Za<|Nt rfl rfl A8 hb8 (BN _) (BN _) (IW _) fun w13 hch3 hb9=>?_;have k27:=Ext.chg k24 hch3 (Nat.le_trans k22.size hg2);have k28:=Ext.chg k25 hch3 (Nat.le_trans K0_i12.size hg2);have k29:=Ext.chg hx5 hch3 (Nat.le_trans (Nat.le_refl _) hg2);have hb10:=B9_i12.ext k29;have r57:=r47.ext k29;have r58:=r48.ext k29;have r59:=r49.ext k29;have h18:=h15.ext k29;have O4:=O7_i12.ext k29;have hb11:Bx w13 b8 223 (List.flatMap Flat.enc x10.l):=hb9;refine nl<|wp_seq<|FY [] (.pure true 0 (.pure true 1 (.pure true 2 (.pure false 3 (.pure true 4 (.pure true 5 (.pure true 6 (.pure true 7 (.pure false 8 (.pure true 9 (.pure true 10 (.pure true 11 (.pure false 12 (.pure false 13 (.eff 14 (.pure true 15 .fin) .stop))))))))))))))) mixed (by kernel_rfl) (fun w14 hx6=>?_);have k31:=k27.tr hx6;have k32:=k28.tr hx6;have hb12:=hb10.ext hx6;have hb13:=hb11.ext hx6;have r62:=r57.ext hx6;have r63:=r58.ext hx6;have r64:=r59.ext hx6;have h19:=h18.ext hx6;have O5:=O4.ext hx6;refine Zn rfl<|Zn rfl<|bS hB11 fun x11 Ex11 hB11=>?_;have hz:=Fq r5 Ex11;obtain⟨cs7,i15,i16,q10,hc10⟩:=hz;obtain rfl:=q10;have hc11:=hc10.ext k31;refine Zp rfl (fun _=>Aj l3_i12 l59_i12 Tryz.underlying41 Aa i15 i16)<|Zq rfl (fun _ hS=>AR rfl Aa ((hc11.ext (hS.resolve_left nofun)).at 0 rfl)) (Ext.refl _)<|Zp rfl (fun _=>Aw rfl rfl)<|Zn rfl<|Zn rfl<|bS hB11 fun x12 Ex12 hB11=>?_;have hz:=Fq r5 Ex12;obtain⟨cs8,i17,i18,q11,hc12⟩:=hz;obtain rfl:=q11;have hc13:=hc12.ext k31;refine Zp rfl (fun _=>Aj l3_i12 l8_i12 Tryz.underlying41 Aa i17 i18)<|Zq rfl (fun _ hS=>AR rfl Aa ((hc13.ext (hS.resolve_left nofun)).at 0 rfl)) (Ext.refl _)<|Zp rfl (fun _=>FO rfl rfl)<|Zn rfl<|mU rfl rfl rfl rfl rfl (CO rfl) rfl (fun hc=>(fun _ _=>BU l0_i12)) (.inl rfl)<|mU rfl rfl rfl rfl rfl (CO rfl) rfl (fun hc=>(fun _ hS=>Al rfl A8 (BN _) (Bx.cs (hb13.ext (hS.resolve_left nofun))))) (.inr (Ext.refl _))<|mU rfl rfl rfl rfl rfl (CO rfl) rfl (fun hc=>(fun _ hS=>Al l9_i12 A8 (BN _) (Bx.cs (hb12.ext (hS.resolve_left nofun))))) (.inr (Ext.refl _))<|bS hB11 fun x13 Ex13 hB11=>Br rfl<|gc rfl rfl rfl rfl (CO rfl) rfl (fun hc=>xc RG (mc (mv hc rfl) (mc (mv hc rfl) (mc (mv hc rfl) mn)))) (fun hc=>(VT (x0:=(x0.1,x0.2.1,x0.2.2)) h19 ⟨[.pointer a1],[.slice a2 x0.2.1.length cq1]++[.slice (some ⟨b4,f2,none⟩) x0.2.2.length cq2],rfl,(EC r62),[.slice a2 x0.2.1.length cq1],[.slice (some ⟨b4,f2,none⟩) x0.2.2.length cq2],rfl,r63.rep1,r64.rep1⟩ (show RV (α:=(Ar 4 Int)) _ (.agg (List.flatMap Flat.enc x10.l).toArray) x10 from⟨_,rfl,rfl⟩) (show RV (α:=(Ar 4 Int)) _ (.agg (List.flatMap Flat.enc x6.l).toArray) x6 from⟨_,rfl,rfl⟩) (Ta Ex13 hc))) (fun v2 w15 hy1 hn1=>?_);have hx7:Ext w14 w15:=gx (fun h=>(hy1 h).2) (fun h=>(hn1 h).2▸Ext.refl _);have e7:=Tc (fun h=>(hy1 h).1) (fun h=>(hn1 h).1);have k36:=k32.tr hx7;have hb14:=hb12.ext hx7;have O6:=O5.ext hx7;refine nl ⟨fun _ _=>hx7,?_⟩;refine Zp rfl (fun _=>Mk rfl e7 rfl)<|bS hB11 fun y9 hB12 hB11=>ct (fun L w=>L 7=(.slice (some ⟨b3,0,none⟩) x5.length x5.length)/\Row 225 w4.heap.size w (.slice (some ⟨b3,0,none⟩) x5.length x5.length) y9/\Bx w b5 223 (List.flatMap Flat.enc (x6).l)/\L 0=.pointer (some ⟨b0,0,none⟩)/\L 3=.slice (some ⟨b6,f3,none⟩) x2.length cq3/\L 4=.int .i64 z1/\L 8=.int .i64 y4/\L 9=.pointer (some ⟨b5,0,none⟩)/\L 35=.slice (some ⟨b4,f2,none⟩) x0.2.2.length cq2/\L 36=.int .i64 (x0.2.2.length:Int)/\L 37=.int .i64 y4/\L 57=.slice (some ⟨b7,f4,none⟩) x9.length x9.length/\L 58=.int .i64 (x9.length:Int)/\L 59=.int .i64 y7/\Ext w4 w) ?_ ?_
      ·refine cnd rfl (fun h21=>?_) (fun h21=>?_)
       ·have hB12:=Ab hB12 h21;refine FY [13] (.pure true 0 (.pure true 1 (.pure true 2 (.pure true 3 (.pure false 4 (.pure true 5 (.pure true 6 (.pure true 7 (.pure true 8 (.pure false 9 (.pure true 10 (.pure true 11 (.pure true 12 (.eff 13 .fin .stop)))))))))))))) mixed (by kernel_rfl) (fun w16 hx8=>?_);have k40:=k36.tr hx8;have hb15:=hb14.ext hx8;have O7:=O6.ext hx8;refine Zn rfl<|Zn rfl<|bS hB12 fun x14 Ex14 hB12=>?_;have hz:=Fq O7.rv Ex14;obtain⟨cs9,i19,i20,q12,hc14⟩:=hz;obtain⟨_,_,rfl,rfl,rfl⟩:=q12;have i21:y4<(x5.length:Int):=by rw[(RV.cap O7.rv).1];exact i20
        refine Zp rfl (fun _=>Aj l7_i12 l8_i12 Tryz.underlying216 Hg i19 i21)<|Zp rfl (fun _=>AY rfl MX)<|Zq rfl (fun _ hS=>AR rfl CJ ((hc14.ext (hS.resolve_left nofun)).at 0 rfl)) (Ext.refl _)<|Zn rfl<|Zn rfl<|bS hB12 fun x15 Ex15 hB12=>?_;have hz:=Fq O7.rv Ex15;obtain⟨cs10,i22,i23,q13,hc15⟩:=hz;obtain⟨_,_,rfl,rfl,rfl⟩:=q13;have i24:y7<(x5.length:Int):=by rw[(RV.cap O7.rv).1];exact i23
        refine Zp rfl (fun _=>Aj l7_i12 l59_i12 Tryz.underlying216 Hg i22 i24)<|Zp rfl (fun _=>AY rfl MX)<|Zq rfl (fun _ hS=>AR rfl CJ ((hc15.ext (hS.resolve_left nofun)).at 0 rfl)) (Ext.refl _)<|Zp rfl (fun _=>Aw rfl rfl)<|bS hB12 fun x16 Ex16 hB12=>?_;have hz:=Fq O7.rv Ex16;obtain⟨cs11,i25,i26,q14,hc16⟩:=hz;obtain⟨_,_,rfl,rfl,rfl⟩:=q14;have i27:y4<(x5.length:Int):=by rw[(RV.cap O7.rv).1];exact i26
        refine Zp rfl (fun _=>Aj l7_i12 l8_i12 Tryz.underlying216 Hg i25 i27)<|Zp rfl (fun _=>AY rfl MX)<|Br rfl<|Ur (l:=y6) (AZ (x14.1+x15.1),x16.2) 0 rfl rfl rfl rfl rfl CJ O7 Ex16 rfl (by decide) fun w17 hch4 o6=>?_;have k45:=Ext.chg k40 hch4 (Nat.le_trans (Nat.le_refl _) (Row.ge O7));have hb16:=Bx.chg hb15 hch4 (fun e=>(O7_i4.ne_new hg1) (congrArg some e));refine nl ⟨fun h=>(h (by decide)).elim,?_⟩;cases hB12;refine lf<|?_;exact⟨l7_i12,o6,hb16,l0_i12,l3_i12,l4_i12,l8_i12,l9_i12,l35_i12,l36_i12,l37_i12,l57_i12,l58_i12,l59_i12,k45⟩
       ·have hB12:=Ac hB12 h21;refine wp_skip<|?_;cases hB12;refine lf<|?_;exact⟨l7_i12,O6,hb14,l0_i12,l3_i12,l4_i12,l8_i12,l9_i12,l35_i12,l36_i12,l37_i12,l57_i12,l58_i12,l59_i12,k36⟩
      rintro L w18⟨l7_j3,O7_j3,B9_j3,l0_j3,l3_j3,l4_j3,l8_j3,l9_j3,l35_j3,l36_j3,l37_j3,l57_j3,l58_j3,l59_j3,K0_j3⟩;cases hB11;refine lf<|?_;exact⟨l7_j3,O7_j3,B9_j3,l0_j3,l3_j3,l4_j3,l8_j3,l9_j3,l35_j3,l36_j3,l37_j3,l57_j3,l58_j3,l59_j3,K0_j3⟩
     rintro L w19⟨l7_j4,O7_j4,B9_j4,l0_j4,l3_j4,l4_j4,l8_j4,l9_j4,l35_j4,l36_j4,l37_j4,l57_j4,l58_j4,l59_j4,K0_j4⟩;refine rg<|Zv (Aw l59_j4 rfl)<|Zm<|nl<|lq m (Nat.lt_succ_self _)<|?_;exact⟨_,_,hB9,l7_j4,O7_j4,rfl,B9_j4,l0_j4,l3_j4,l4_j4,l8_j4,l9_j4,l35_j4,l36_j4,l37_j4,l57_j4,l58_j4,K0_j4⟩
    ·have hB9:=Ac hB9 h16;refine wp_exit<|?_;cases hB9;refine lf<|?_;exact⟨l7_i12,O7_i12,l0_i12,l3_i12,l4_i12,l35_i12,l36_i12,l37_i12,K0_i12⟩
   rintro L w20⟨l7_j5,O7_j5,l0_j5,l3_j5,l4_j5,l35_j5,l36_j5,l37_j5,K0_j5⟩;refine rg<|Zv (Aw l37_j5 rfl)<|Zm<|nl<|lq m (Nat.lt_succ_self _)<|?_;exact⟨_,_,hB4,l7_j5,O7_j5,rfl,l0_j5,l3_j5,l4_j5,l35_j5,l36_j5,K0_j5⟩
  ·have hB4:=Ac hB4 h9;refine wp_exit<|?_;cases hB4;refine lf<|?_;exact⟨l7_i4,O7_i4,l0_i4,l3_i4,l4_i4,K0_i4⟩
 rintro L w21⟨l7_j6,O7_j6,l0_j6,l3_j6,l4_j6,K0_j6⟩;have h27:=h6.ext K0_j6;refine wp_seq<|Zr<|Zm<|Zv (Bl l0_j6)<|Zv (AY rfl Gd)<|Zv (AR rfl JY (h27.at 2 rfl))<|Zv (Ao rfl Tryz.underlying214)<|Zv (Ig rfl rfl)<|Za<|nl<|bS hF fun z4 hB17 hF=>ct (fun L w=>L 7=(.slice (some ⟨b3,0,none⟩) x5.length x5.length)/\Row 225 w4.heap.size w (.slice (some ⟨b3,0,none⟩) x5.length x5.length) z4/\Ext w4 w) ?_ ?_
 ·refine wp_block<|lp (I:=fun m L w=>∃y10:(List (Int×Int)),∃y11:Int,Dv F x0 x2 z1 m y10 y11=some z4/\L 7=(.slice (some ⟨b3,0,none⟩) x5.length x5.length)/\Row 225 w4.heap.size w (.slice (some ⟨b3,0,none⟩) x5.length x5.length) y10/\L 12=.int .i64 y11/\L 0=.pointer (some ⟨b0,0,none⟩)/\L 3=.slice a4 x2.length cq3/\L 4=.int .i64 z1/\Ext w4 w) F ⟨_,_,hB17,l7_j6,O7_j6,rfl,l0_j6,l3_j6,l4_j6,K0_j6⟩ ?_;rintro m L w22⟨y10,y11,hB17,l7_i28,O7_i28,l12_i28,l0_i28,l3_i28,l4_i28,K0_i28⟩;rcases m with _|m
  ·rw[Dv]at hB17;cases hB17
  rw[Dv]at hB17;have k55:=K0_j1.tr K0_i28;refine wp_seq<|Zr<|Zm<|Zv (Kc l12_i28 rfl)<|nl<|cnd rfl (fun h29=>?_) (fun h29=>?_)
  ·have hB17:=Ab hB17 h29;refine wp_skip<|wp_seq<|wp_block<|wp_seq<|Zr<|Zm<|Zm<|bS hB17 fun x17 Ex17 hB17=>?_;have hz:=(RV.els r5).ix Ex17;obtain⟨b9,f5,cs12,e8,i29,i30,q15,hc17⟩:=hz;cases e8;obtain rfl:=q15;have hc18:=hc17.ext k55;refine Zv (Aj l3_i28 l12_i28 Tryz.underlying41 Aa i29 i30)<|Zv (AR rfl Aa (hc18.at 0 rfl))<|Zm<|Zv (FO rfl l4_i28)<|nl<|bS hB17 fun y12 hB19 hB17=>ct (fun L w=>L 7=(.slice (some ⟨b3,0,none⟩) x5.length x5.length)/\Row 225 w4.heap.size w (.slice (some ⟨b3,0,none⟩) x5.length x5.length) y12/\L 0=.pointer (some ⟨b0,0,none⟩)/\L 3=.slice (some ⟨b9,f5,none⟩) x2.length cq3/\L 4=.int .i64 z1/\L 12=.int .i64 y11/\Ext w4 w) ?_ ?_
   ·refine cnd rfl (fun h30=>?_) (fun h30=>?_)
    ·have hB19:=Ab hB19 h30;refine rg<|Zm<|Zm<|bS hB19 fun x18 Ex18 hB19=>?_;have hz:=Fq O7_i28.rv Ex18;obtain⟨cs13,i31,i32,q16,hc19⟩:=hz;obtain⟨_,_,rfl,rfl,rfl⟩:=q16;have i33:y11<(x5.length:Int):=by rw[(RV.cap O7_i28.rv).1];exact i32
     refine Zv (Aj l7_i28 l12_i28 Tryz.underlying216 Hg i31 i33)<|Zv (AY rfl MZ)<|Ur (l:=y10) (x18.1,1) 1 rfl rfl rfl rfl rfl CJ O7_i28 Ex18 rfl (by decide) fun w23 hch5 o8=>?_;have k58:=Ext.chg K0_i28 hch5 (Nat.le_trans (Nat.le_refl _) (Row.ge O7_i28));refine nl<|?_;cases hB19;refine lf<|?_;exact⟨l7_i28,o8,l0_i28,l3_i28,l4_i28,l12_i28,k58⟩
    ·have hB19:=Ac hB19 h30;refine wp_skip<|?_;cases hB19;refine lf<|?_;exact⟨l7_i28,O7_i28,l0_i28,l3_i28,l4_i28,l12_i28,K0_i28⟩
   rintro L w24⟨l7_j7,O7_j7,l0_j7,l3_j7,l4_j7,l12_j7,K0_j7⟩;refine Zr<|Zm<|Zv (Aw l12_j7 rfl)<|Za<|nl<|bS hB17 fun z5 hB22 hB17=>ct (fun L w=>L 7=(.slice (some ⟨b3,0,none⟩) x5.length x5.length)/\Row 225 w4.heap.size w (.slice (some ⟨b3,0,none⟩) x5.length x5.length) z5/\L 0=.pointer (some ⟨b0,0,none⟩)/\L 3=.slice (some ⟨b9,f5,none⟩) x2.length cq3/\L 4=.int .i64 z1/\L 12=.int .i64 y11/\Ext w4 w) ?_ ?_
   ·refine wp_block<|lp (I:=fun m L w=>∃y13:(List (Int×Int)),∃y14:Int,FJ F x0 x2 y11 m y13 y14=some z5/\L 7=(.slice (some ⟨b3,0,none⟩) x5.length x5.length)/\Row 225 w4.heap.size w (.slice (some ⟨b3,0,none⟩) x5.length x5.length) y13/\L 13=.int .i64 y14/\L 0=.pointer (some ⟨b0,0,none⟩)/\L 3=.slice (some ⟨b9,f5,none⟩) x2.length cq3/\L 4=.int .i64 z1/\L 12=.int .i64 y11/\Ext w4 w) F ⟨_,_,hB22,l7_j7,O7_j7,rfl,l0_j7,l3_j7,l4_j7,l12_j7,K0_j7⟩ ?_;rintro m L w25⟨y13,y14,hB22,l7_i34,O7_i34,l13_i34,l0_i34,l3_i34,l4_i34,l12_i34,K0_i34⟩;rcases m with _|m
    ·rw[FJ]at hB22;cases hB22
    rw[FJ]at hB22;have k61:=k4.tr K0_i34;have k62:=K0_j1.tr K0_i34;have r112:=r17.ext K0_i34;have r113:=r18.ext K0_i34;have r114:=r19.ext K0_i34;have h33:=h6.ext K0_i34;refine wp_seq<|Zr<|Zm<|Zm<|Zv (Bl l0_i34)<|Zv (AY rfl Gd)<|Zv (AR rfl JY (h33.at 2 rfl))<|Zv (Ao rfl Tryz.underlying214)<|Zv (BA l13_i34 rfl)<|nl<|cnd rfl (fun h34=>?_) (fun h34=>?_)
    ·have hB22:=Ab hB22 h34;refine wp_skip<|wp_seq<|bS hB22 fun y15 hB24 hB22=>ct (fun L w=>L 7=(.slice (some ⟨b3,0,none⟩) x5.length x5.length)/\Row 225 w4.heap.size w (.slice (some ⟨b3,0,none⟩) x5.length x5.length) y15/\L 0=.pointer (some ⟨b0,0,none⟩)/\L 3=.slice (some ⟨b9,f5,none⟩) x2.length cq3/\L 4=.int .i64 z1/\L 12=.int .i64 y11/\L 13=.int .i64 y14/\Ext w4 w) ?_ ?_
     ·refine wp_block<|wp_seq<|bS hB24 fun y16 hB25 hB24=>ct (fun L w=>L 166=.bool y16/\L 0=.pointer (some ⟨b0,0,none⟩)/\L 3=.slice (some ⟨b9,f5,none⟩) x2.length cq3/\L 4=.int .i64 z1/\L 7=.slice (some ⟨b3,0,none⟩) x5.length x5.length/\L 12=.int .i64 y11/\L 13=.int .i64 y14/\w4.heap.size<=w.heap.size/\Ext w25 w) ?_ ?_
      ·refine FY [] (.pure true 0 (.pure true 1 (.pure true 2 (.pure false 3 (.pure true 4 (.pure true 5 (.pure true 6 (.pure true 7 (.pure false 8 (.pure true 9 (.pure true 10 (.pure true 11 (.pure true 12 (.pure true 13 (.pure true 14 (.pure false 15 (.pure true 16 (.pure true 17 (.pure true 18 (.pure true 19 (.pure false 20 (.pure true 21 (.pure true 22 (.pure true 23 (.pure true 24 (.pure true 25 (.pure true 26 (.pure true 27 (.pure false 28 (.pure true 29 (.pure true 30 (.pure false 31 (.pure true 32 (.pure true 33 (.pure true 34 (.pure false 35 (.pure true 36 (.pure true 37 (.pure false 38 (.eff 39 (.pure true 40 .fin) .stop)))))))))))))))))))))))))))))))))))))))) mixed (by kernel_rfl) (fun w27 hx10=>?_);have k66:=k61.tr hx10;have k67:=k62.tr hx10;have k68:=K0_i34.tr hx10;have r120:=r112.ext hx10;have r121:=r113.ext hx10;have r122:=r114.ext hx10;have h36:=h33.ext hx10;have O9:=O7_i34.ext hx10;refine Zn rfl<|Zn rfl<|bS hB25 fun x21 Ex21 hB25=>?_;have hz:=Fq O9.rv Ex21;obtain⟨cs16,i41,i42,q19,hc22⟩:=hz;obtain⟨_,_,rfl,rfl,rfl⟩:=q19;have i43:y14<(x5.length:Int):=by rw[(RV.cap O9.rv).1];exact i42
       refine Zp rfl (fun _=>Aj l7_i34 l13_i34 Tryz.underlying216 Hg i41 i43)<|Zq rfl (fun _ hS=>Al rfl Hg rfl (hc22.ext (hS.resolve_left nofun))) (Ext.refl _)<|Zn rfl<|Zn rfl<|bS hB25 fun x22 Ex22 hB25=>?_;have hz:=Fq O9.rv Ex22;obtain⟨cs17,i44,i45,q20,hc23⟩:=hz;obtain⟨_,_,rfl,rfl,rfl⟩:=q20;have i46:y14<(x5.length:Int):=by rw[(RV.cap O9.rv).1];exact i45
       refine Zp rfl (fun _=>Aj l7_i34 l13_i34 Tryz.underlying216 Hg i44 i46)<|Zp rfl (fun _=>AY rfl MX)<|Zq rfl (fun _ hS=>AR rfl CJ ((hc23.ext (hS.resolve_left nofun)).at 0 rfl)) (Ext.refl _)<|Zp rfl (fun _=>Ke (r:=[.int .i64 x22.1,.int .i64 0]) Hg qR (pc rfl (pc rfl pn)) rfl)<|Zp rfl (fun _=>vQ (α:=(Int×Int)) (a:=(x21.1,x21.2)) (b:=(x22.1,0)) rfl qb qa rfl rfl rfl rfl rfl)<|Zn rfl<|Or.elim (Bool.eq_false_or_eq_true (!decide ((x21.1,x21.2)=(x22.1,0)))) (fun h37=>?_) (fun h37=>?_)
       ·have hB25:=Ab hB25 h37;refine Yt rfl (bt h37) (fun _=>CB)<|Yt rfl (bt h37) (fun _=>CB)<|bS hB25 fun x23 Ex23 hB25=>?_;have hz:=Fq r5 Ex23;obtain⟨cs18,i47,i48,q21,hc24⟩:=hz;obtain rfl:=q21;have hc25:=hc24.ext k67;refine Yt rfl (bt h37) (fun _=>Aj l3_i34 l12_i34 Tryz.underlying41 Aa i47 i48)<|Yi rfl (bt h37) (fun _ hS=>AR rfl Aa ((hc25.ext (hS.resolve_left nofun)).at 0 rfl)) (Ext.refl _)<|Yt rfl (bt h37) (fun _=>Aw rfl rfl)<|Yt rfl (bt h37) (fun _=>CB)<|Yt rfl (bt h37) (fun _=>CB)<|bS hB25 fun x24 Ex24 hB25=>?_;have hz:=Fq r5 Ex24;obtain⟨cs19,i49,i50,q22,hc26⟩:=hz;obtain rfl:=q22;have hc27:=hc26.ext k67;refine Yt rfl (bt h37) (fun _=>Aj l3_i34 l13_i34 Tryz.underlying41 Aa i49 i50)<|Yi rfl (bt h37) (fun _ hS=>AR rfl Aa ((hc27.ext (hS.resolve_left nofun)).at 0 rfl)) (Ext.refl _)<|Yt rfl (bt h37) (fun _=>FO rfl rfl)<|Zp rfl (fun _=>Cg rfl h37 rfl)<|Zn rfl<|Or.elim (Bool.eq_false_or_eq_true (decide ((AZ (x23+1))=x24))) (fun h38=>?_) (fun h38=>?_)
        ·have hB25:=Ab hB25 h38;refine Yt rfl (bt h38) (fun _=>CB)<|Yt rfl (bt h38) (fun _=>CB)<|Yt rfl (bt h38) (fun _=>Bl l0_i34)<|Yt rfl (bt h38) (fun _=>AY rfl Gd)<|Yi rfl (bt h38) (fun _ hS=>AR rfl JY ((h36.ext (hS.resolve_left nofun)).at 2 rfl)) (Ext.refl _)<|Yt rfl (bt h38) (fun _=>CB)<|bS hB25 fun x25 Ex25 hB25=>?_;have hz:=(RV.els r4).ix Ex25;obtain⟨b10,f6,cs20,e9,i51,i52,q23,hc28⟩:=hz;cases e9;obtain rfl:=q23;have hc29:=hc28.ext k66;refine Yt rfl (bt h38) (fun _=>Aj rfl l12_i34 Tryz.underlying214 A8 i51 i52)<|Yi rfl (bt h38) (fun _ hS=>Al rfl A8 (BN _) (hc29.ext (hS.resolve_left nofun))) (Ext.refl _)<|Yt rfl (bt h38) (fun _=>CB)<|Yt rfl (bt h38) (fun _=>Bl l0_i34)<|Yt rfl (bt h38) (fun _=>AY rfl Gd)<|Yi rfl (bt h38) (fun _ hS=>AR rfl JY ((h36.ext (hS.resolve_left nofun)).at 2 rfl)) (Ext.refl _)<|Yt rfl (bt h38) (fun _=>CB)<|bS hB25 fun x26 Ex26 hB25=>?_;have hz:=Fq r4 Ex26;obtain⟨cs21,i53,i54,q24,hc30⟩:=hz;obtain rfl:=q24;have hc31:=hc30.ext k66;refine Yt rfl (bt h38) (fun _=>Aj rfl l13_i34 Tryz.underlying214 A8 i53 i54)<|Yi rfl (bt h38) (fun _ hS=>Al rfl A8 (BN _) (hc31.ext (hS.resolve_left nofun))) (Ext.refl _)<|bS hB25 fun x27 Ex27 hB25=>Br rfl<|Gt rfl (bt h38)<|Zc (xc RG (mc l0_i34 (mc rfl (mc rfl mn)))) (VT (x0:=(x0.1,x0.2.1,x0.2.2)) h36 ⟨[.pointer a1],[.slice a2 x0.2.1.length cq1]++[.slice (some ⟨b10,f6,none⟩) x0.2.2.length cq2],rfl,(EC r120),[.slice a2 x0.2.1.length cq1],[.slice (some ⟨b10,f6,none⟩) x0.2.2.length cq2],rfl,r121.rep1,r122.rep1⟩ (show RV (α:=(Ar 4 Int)) _ (.agg (List.flatMap Flat.enc x25.l).toArray) x25 from⟨_,rfl,rfl⟩) (show RV (α:=(Ar 4 Int)) _ (.agg (List.flatMap Flat.enc x26.l).toArray) x26 from⟨_,rfl,rfl⟩) Ex27) ?_;rintro _ w28⟨rfl,hx11⟩;have k71:=k68.tr hx11;have k72:=hx10.tr hx11;refine nl ⟨fun _ _=>hx11,?_⟩;refine Zp rfl (fun _=>Cg rfl h38 rfl)<|?_;cases hB25;refine lf<|?_;exact⟨rfl,l0_i34,l3_i34,l4_i34,l7_i34,l12_i34,l13_i34,k71.size,k72⟩
        ·have hB25:=Ac hB25 h38;refine Yf rfl (AX h38)<|Yf rfl (AX h38)<|Yf rfl (AX h38)<|Yf rfl (AX h38)<|Yh rfl (AX h38) (Ext.refl _)<|Yf rfl (AX h38)<|Yf rfl (AX h38)<|Yh rfl (AX h38) (Ext.refl _)<|Yf rfl (AX h38)<|Yf rfl (AX h38)<|Yf rfl (AX h38)<|Yh rfl (AX h38) (Ext.refl _)<|Yf rfl (AX h38)<|Yf rfl (AX h38)<|Yh rfl (AX h38) (Ext.refl _)<|Br rfl<|Gk rfl (AX h38)<|nl ⟨fun _ _=>(Ext.refl _),?_⟩;refine Zp rfl (fun _=>DN rfl h38 rfl)<|?_;cases hB25;refine lf<|?_;exact⟨rfl,l0_i34,l3_i34,l4_i34,l7_i34,l12_i34,l13_i34,k68.size,hx10⟩
       ·have hB25:=Ac hB25 h37;refine Yf rfl (AX h37)<|Yf rfl (AX h37)<|Yf rfl (AX h37)<|Yh rfl (AX h37) (Ext.refl _)<|Yf rfl (AX h37)<|Yf rfl (AX h37)<|Yf rfl (AX h37)<|Yf rfl (AX h37)<|Yh rfl (AX h37) (Ext.refl _)<|Yf rfl (AX h37)<|Zp rfl (fun _=>DN rfl h37 rfl)<|Zn rfl<|Or.elim (Bool.eq_false_or_eq_true false) (fun h40=>?_) (fun h40=>?_)
        ·have hB25:=Ab hB25 h40;refine Yt rfl (bt h40) (fun _=>CB)<|Yt rfl (bt h40) (fun _=>CB)<|Yt rfl (bt h40) (fun _=>Bl l0_i34)<|Yt rfl (bt h40) (fun _=>AY rfl Gd)<|Yi rfl (bt h40) (fun _ hS=>AR rfl JY ((h36.ext (hS.resolve_left nofun)).at 2 rfl)) (Ext.refl _)<|Yt rfl (bt h40) (fun _=>CB)<|bS hB25 fun x28 Ex28 hB25=>?_;have hz:=(RV.els r4).ix Ex28;obtain⟨b11,f7,cs22,e10,i55,i56,q25,hc32⟩:=hz;cases e10;obtain rfl:=q25;have hc33:=hc32.ext k66;refine Yt rfl (bt h40) (fun _=>Aj rfl l12_i34 Tryz.underlying214 A8 i55 i56)<|Yi rfl (bt h40) (fun _ hS=>Al rfl A8 (BN _) (hc33.ext (hS.resolve_left nofun))) (Ext.refl _)<|Yt rfl (bt h40) (fun _=>CB)<|Yt rfl (bt h40) (fun _=>Bl l0_i34)<|Yt rfl (bt h40) (fun _=>AY rfl Gd)<|Yi rfl (bt h40) (fun _ hS=>AR rfl JY ((h36.ext (hS.resolve_left nofun)).at 2 rfl)) (Ext.refl _)<|Yt rfl (bt h40) (fun _=>CB)<|bS hB25 fun x29 Ex29 hB25=>?_;have hz:=Fq r4 Ex29;obtain⟨cs23,i57,i58,q26,hc34⟩:=hz;obtain rfl:=q26;have hc35:=hc34.ext k66;refine Yt rfl (bt h40) (fun _=>Aj rfl l13_i34 Tryz.underlying214 A8 i57 i58)<|Yi rfl (bt h40) (fun _ hS=>Al rfl A8 (BN _) (hc35.ext (hS.resolve_left nofun))) (Ext.refl _)<|bS hB25 fun x30 Ex30 hB25=>Br rfl<|Gt rfl (bt h40)<|Zc (xc RG (mc l0_i34 (mc rfl (mc rfl mn)))) (VT (x0:=(x0.1,x0.2.1,x0.2.2)) h36 ⟨[.pointer a1],[.slice a2 x0.2.1.length cq1]++[.slice (some ⟨b11,f7,none⟩) x0.2.2.length cq2],rfl,(EC r120),[.slice a2 x0.2.1.length cq1],[.slice (some ⟨b11,f7,none⟩) x0.2.2.length cq2],rfl,r121.rep1,r122.rep1⟩ (show RV (α:=(Ar 4 Int)) _ (.agg (List.flatMap Flat.enc x28.l).toArray) x28 from⟨_,rfl,rfl⟩) (show RV (α:=(Ar 4 Int)) _ (.agg (List.flatMap Flat.enc x29.l).toArray) x29 from⟨_,rfl,rfl⟩) Ex30) ?_;rintro _ w29⟨rfl,hx12⟩;have k75:=k68.tr hx12;have k76:=hx10.tr hx12;refine nl ⟨fun _ _=>hx12,?_⟩;refine Zp rfl (fun _=>Cg rfl h40 rfl)<|?_;cases hB25;refine lf<|?_;exact⟨rfl,l0_i34,l3_i34,l4_i34,l7_i34,l12_i34,l13_i34,k75.size,k76⟩
        ·have hB25:=Ac hB25 h40;refine Yf rfl (AX h40)<|Yf rfl (AX h40)<|Yf rfl (AX h40)<|Yf rfl (AX h40)<|Yh rfl (AX h40) (Ext.refl _)<|Yf rfl (AX h40)<|Yf rfl (AX h40)<|Yh rfl (AX h40) (Ext.refl _)<|Yf rfl (AX h40)<|Yf rfl (AX h40)<|Yf rfl (AX h40)<|Yh rfl (AX h40) (Ext.refl _)<|Yf rfl (AX h40)<|Yf rfl (AX h40)<|Yh rfl (AX h40) (Ext.refl _)<|Br rfl<|Gk rfl (AX h40)<|nl ⟨fun _ _=>(Ext.refl _),?_⟩;refine Zp rfl (fun _=>DN rfl h40 rfl)<|?_;cases hB25;refine lf<|?_;exact⟨rfl,l0_i34,l3_i34,l4_i34,l7_i34,l12_i34,l13_i34,k68.size,hx10⟩
      rintro L w30⟨l166_j8,l0_j8,l3_j8,l4_j8,l7_j8,l12_j8,l13_j8,Z0_j8,K0_j8⟩;have k79:=K0_i34.tr K0_j8;have O12:=O7_i34.ext K0_j8;refine bS hB24 fun y17 hB26 hB24=>ct (fun L w=>L 7=(.slice (some ⟨b3,0,none⟩) x5.length x5.length)/\Row 225 w4.heap.size w (.slice (some ⟨b3,0,none⟩) x5.length x5.length) y17/\L 0=.pointer (some ⟨b0,0,none⟩)/\L 3=.slice (some ⟨b9,f5,none⟩) x2.length cq3/\L 4=.int .i64 z1/\L 12=.int .i64 y11/\L 13=.int .i64 y14/\Ext w4 w) ?_ ?_
      ·refine cnd l166_j8 (fun h43=>?_) (fun h43=>?_)
       ·have hB26:=Ab hB26 h43;refine FY [13] (.pure true 0 (.pure true 1 (.pure true 2 (.pure true 3 (.pure false 4 (.pure true 5 (.pure true 6 (.pure true 7 (.pure true 8 (.pure false 9 (.pure true 10 (.pure true 11 (.pure true 12 (.eff 13 .fin .stop)))))))))))))) mixed (by kernel_rfl) (fun w31 hx13=>?_);have k82:=k79.tr hx13;have O13:=O12.ext hx13;refine Zn rfl<|Zn rfl<|bS hB26 fun x31 Ex31 hB26=>?_;have hz:=Fq O13.rv Ex31;obtain⟨cs24,i59,i60,q27,hc36⟩:=hz;obtain⟨_,_,rfl,rfl,rfl⟩:=q27;have i61:y11<(x5.length:Int):=by rw[(RV.cap O13.rv).1];exact i60
        refine Zp rfl (fun _=>Aj l7_j8 l12_j8 Tryz.underlying216 Hg i59 i61)<|Zp rfl (fun _=>AY rfl MZ)<|Zq rfl (fun _ hS=>AR rfl CJ ((hc36.ext (hS.resolve_left nofun)).at 1 rfl)) (Ext.refl _)<|Zn rfl<|Zn rfl<|bS hB26 fun x32 Ex32 hB26=>?_;have hz:=Fq O13.rv Ex32;obtain⟨cs25,i62,i63,q28,hc37⟩:=hz;obtain⟨_,_,rfl,rfl,rfl⟩:=q28;have i64:y14<(x5.length:Int):=by rw[(RV.cap O13.rv).1];exact i63
        refine Zp rfl (fun _=>Aj l7_j8 l13_j8 Tryz.underlying216 Hg i62 i64)<|Zp rfl (fun _=>AY rfl MZ)<|Zq rfl (fun _ hS=>AR rfl CJ ((hc37.ext (hS.resolve_left nofun)).at 1 rfl)) (Ext.refl _)<|Zp rfl (fun _=>Aw rfl rfl)<|bS hB26 fun x33 Ex33 hB26=>?_;have hz:=Fq O13.rv Ex33;obtain⟨cs26,i65,i66,q29,hc38⟩:=hz;obtain⟨_,_,rfl,rfl,rfl⟩:=q29;have i67:y11<(x5.length:Int):=by rw[(RV.cap O13.rv).1];exact i66
        refine Zp rfl (fun _=>Aj l7_j8 l12_j8 Tryz.underlying216 Hg i65 i67)<|Zp rfl (fun _=>AY rfl MZ)<|Br rfl<|Ur (l:=y13) (x33.1,AZ (x31.2+x32.2)) 1 rfl rfl rfl rfl rfl CJ O13 Ex33 rfl (by decide) fun w32 hch6 o10=>?_;have k86:=Ext.chg k82 hch6 (Nat.le_trans (Nat.le_refl _) (Row.ge O13));refine nl ⟨fun h=>(h (by decide)).elim,?_⟩;cases hB26;refine lf<|?_;exact⟨l7_j8,o10,l0_j8,l3_j8,l4_j8,l12_j8,l13_j8,k86⟩
       ·have hB26:=Ac hB26 h43;refine wp_skip<|?_;cases hB26;refine lf<|?_;exact⟨l7_j8,O12,l0_j8,l3_j8,l4_j8,l12_j8,l13_j8,k79⟩
      rintro L w33⟨l7_j9,O7_j9,l0_j9,l3_j9,l4_j9,l12_j9,l13_j9,K0_j9⟩;cases hB24;refine lf<|?_;exact⟨l7_j9,O7_j9,l0_j9,l3_j9,l4_j9,l12_j9,l13_j9,K0_j9⟩
     rintro L w34⟨l7_j10,O7_j10,l0_j10,l3_j10,l4_j10,l12_j10,l13_j10,K0_j10⟩;refine rg<|Zm<|Zv (Aw l13_j10 rfl)<|Za<|nl<|lq m (Nat.lt_succ_self _)<|?_;exact⟨_,_,hB22,l7_j10,O7_j10,rfl,l0_j10,l3_j10,l4_j10,l12_j10,K0_j10⟩
    ·have hB22:=Ac hB22 h34;refine wp_exit<|?_;cases hB22;refine lf<|?_;exact⟨l7_i34,O7_i34,l0_i34,l3_i34,l4_i34,l12_i34,K0_i34⟩
   rintro L w35⟨l7_j11,O7_j11,l0_j11,l3_j11,l4_j11,l12_j11,K0_j11⟩;refine rg<|Zm<|Zv (Ig l12_j11 rfl)<|Za<|nl<|lq m (Nat.lt_succ_self _)<|?_;exact⟨_,_,hB17,l7_j11,O7_j11,rfl,l0_j11,l3_j11,l4_j11,K0_j11⟩
  ·have hB17:=Ac hB17 h29;refine wp_exit<|?_;cases hB17;refine lf<|?_;exact⟨l7_i28,O7_i28,K0_i28⟩
 rintro L w36⟨l7_j12,O7_j12,K0_j12⟩;have k93:=k4.tr K0_j12;refine Zr<|Zm<|Za<|nl<|?_;cases hF;exact wp_ret<|rt rfl (.tmp l7_j12 rfl .nil) ⟨_,rfl,O7_j12.rv,k93⟩
theorem yG{w0:World}{b0:Nat}{cs0:List Value}{x0:((Ob ((Uno (List (Ar 2 Int)))×(Ar 101 Int)))×(List (List Int))×(List (Ar 4 Int)))}(h0:Cs w0 b0 0 cs0)(q0:Enc.rep (fun _=>True) w0 cs0 x0){F:Nat}{r:(List (Ar 4 Int))}(hF:F4 F x0=some r):
  Calls Tryz.prog 124 [.pointer (some ⟨b0,0,none⟩)].toArray w0 (BQ fun v w'=>∃u0:Value,v=u0/\RV w' u0 r/\Ext w0 w'):=by
 unfold F4 at hF;obtain⟨_,_,rfl,q2,_,_,rfl,⟨a2,cq1,rfl,p1,q3,e1⟩,a3,cq2,rfl,p2,q4,e2⟩:=q0;have hz:=Jz q2;obtain⟨a1,rfl,r2⟩:=hz;have r3:=RV.of1 p1 q3 e1;have r4:=RV.of1 p2 q4 e2;refine BM (n:=65) Tryz.func124 rfl rfl rfl<|Zr<|Za<|nl<|Zr<|Zm<|bS hF fun x2 Ex2 hF=>Zc (xc YK (mc rfl mn)) (iA (x0:=(x0.1,x0.2.1,x0.2.2)) h0 ⟨[.pointer a1],[.slice a2 x0.2.1.length cq1]++[.slice a3 x0.2.2.length cq2],rfl,(EC r2),[.slice a2 x0.2.1.length cq1],[.slice a3 x0.2.2.length cq2],rfl,r3.rep1,r4.rep1⟩ Ex2) ?_;rintro _ w1⟨u1,rfl,r5,hx1⟩;have r6:=r2.ext hx1;have r7:=r3.ext hx1;have r8:=r4.ext hx1;have h2:=h0.ext hx1;have hz:=RV.sl r5;obtain⟨a4,cq3,rfl,-,-,-⟩:=hz;refine Za<|nl<|Zr<|Zm<|bS hF fun x3 Ex3 hF=>Zc (xc YL (mc rfl mn)) (gy (x0:=(x0.1,x0.2.1,x0.2.2)) h2 ⟨[.pointer a1],[.slice a2 x0.2.1.length cq1]++[.slice a3 x0.2.2.length cq2],rfl,(EC r6),[.slice a2 x0.2.1.length cq1],[.slice a3 x0.2.2.length cq2],rfl,r7.rep1,r8.rep1⟩ Ex3) ?_;rintro _ w2⟨u2,rfl,r9,hx2⟩;have k1:=hx1.tr hx2;have r10:=r6.ext hx2;have r11:=r7.ext hx2;have r12:=r8.ext hx2;have h3:=h2.ext hx2;have r13:=r5.ext hx2;have hz:=RV.sl r9;obtain⟨a5,cq4,rfl,-,-,-⟩:=hz;refine Za<|nl<|Zr<|Za<|nl<|wp_seq<|Zr<|Zm<|Zv (Bl rfl)<|Zv (AY rfl Gd)<|Zv (AR rfl JY (h3.at 2 rfl))<|Zv (Ao rfl Tryz.underlying214)<|Zm<|nl<|?_;have o1:Row (α:=(Ar 4 Int)) 223 w2.heap.size w2 (.slice none 0 0) []:=Row.nil;refine bS hF fun z1 hB1 hF=>ct (fun L w=>∃v3:Value,L 5=v3/\Row 223 w2.heap.size w v3 z1/\Ext w2 w) ?_ ?_
 ·refine wp_block<|lp (I:=fun m L w=>∃y1:(List (Ar 4 Int)),∃y2:Int,∃v2:Value,Dp F x0 x2 x3 m y1 y2=some z1/\L 5=v2/\Row 223 w2.heap.size w v2 y1/\L 17=.int .i64 y2/\L 0=.pointer (some ⟨b0,0,none⟩)/\L 3=.slice a4 x2.length cq3/\L 4=.slice a5 x3.length cq4/\L 15=.slice a3 x0.2.2.length cq2/\L 16=.int .i64 (x0.2.2.length:Int)/\Ext w2 w) F ⟨_,_,_,hB1,rfl,o1,rfl,rfl,rfl,rfl,rfl,rfl,(Ext.refl _)⟩ ?_;rintro m L w3⟨y1,y2,v2,hB1,l5_i1,O5_i1,l17_i1,l0_i1,l3_i1,l4_i1,l15_i1,l16_i1,K0_i1⟩;rcases m with _|m
  ·rw[Dp]at hB1;cases hB1
  rw[Dp]at hB1;have k2:=k1.tr K0_i1;have r14:=r10.ext K0_i1;have r15:=r11.ext K0_i1;have r16:=r12.ext K0_i1;have h4:=h3.ext K0_i1;have hz:=RV.sl O5_i1.rv;obtain⟨a6,cq5,rfl,-,-,-⟩:=hz;refine Zr<|Zv (BA l17_i1 l16_i1)<|nl<|wp_seq<|cnd rfl (fun h5=>?_) (fun h5=>?_)
  ·have hB1:=Ab hB1 h5;refine wp_skip<|wp_seq<|bS hB1 fun y3 hB3 hB1=>ct (fun L w=>∃v4:Value,L 5=v4/\Row 223 w2.heap.size w v4 y3/\L 0=.pointer (some ⟨b0,0,none⟩)/\L 3=.slice a4 x2.length cq3/\L 4=.slice a5 x3.length cq4/\L 15=.slice a3 x0.2.2.length cq2/\L 16=.int .i64 (x0.2.2.length:Int)/\L 17=.int .i64 y2/\Ext w2 w) ?_ ?_
   ·refine wp_block<|Zr<|Zm<|bS hB3 fun x4 Ex4 hB3=>?_;have hz:=(RV.els r4).ix Ex4;obtain⟨b2,f1,cs2,e3,i2,i3,q5,hc1⟩:=hz;cases e3;obtain rfl:=q5;have hc2:=hc1.ext k2;refine Zv (Aj l15_i1 l17_i1 Tryz.underlying214 A8 i2 i3)<|Zv (Al rfl A8 (BN _) hc2)<|EA A8 fun b3 w4 hx3 hg1 hb1=>?_;have k4:=K0_i1.tr hx3;have hb2:Bx w4 b3 223 (List.flatMap Flat.enc ((Ar.fill 4 0:(Ar 4 Int))).l):=hb1;refine Za<|Nt rfl rfl A8 hb2 (BN _) (BN _) (IW _) fun w5 hch1 hb3=>?_;have k6:=Ext.chg k4 hch1 (Nat.le_trans K0_i1.size hg1);have k7:=Ext.chg hx3 hch1 (Nat.le_trans (Nat.le_refl _) hg1);have r24:=r14.ext k7;have r25:=r15.ext k7;have r26:=r16.ext k7;have h7:=h4.ext k7;have O2:=O5_i1.ext k7;have hb4:Bx w5 b3 223 (List.flatMap Flat.enc x4.l):=hb3;refine nl<|wp_seq<|bS hB3 fun y4 hB4 hB3=>ct (fun L w=>L 53=.bool y4/\L 0=.pointer (some ⟨b0,0,none⟩)/\L 3=.slice a4 x2.length cq3/\L 4=.slice a5 x3.length cq4/\L 5=.slice a6 y1.length cq5/\L 7=.pointer (some ⟨b3,0,none⟩)/\L 15=.slice (some ⟨b2,f1,none⟩) x0.2.2.length cq2/\L 16=.int .i64 (x0.2.2.length:Int)/\L 17=.int .i64 y2/\w2.heap.size<=w.heap.size/\Ext w5 w) ?_ ?_
    ·refine FY [] (.pure true 0 (.pure true 1 (.pure true 2 (.pure true 3 (.pure false 4 (.pure true 5 (.pure true 6 (.pure true 7 (.pure true 8 (.pure true 9 (.pure false 10 (.pure true 11 (.pure false 12 (.pure true 13 (.pure true 14 (.pure true 15 (.pure true 16 (.pure true 17 (.pure false 18 (.pure true 19 (.pure true 20 (.pure true 21 (.pure true 22 (.pure true 23 (.pure false 24 (.pure true 25 (.pure true 26 (.pure false 27 (.pure false 28 (.eff 29 (.pure true 30 (.pure true 31 .fin)) .stop)))))))))))))))))))))))))))))) mixed (by kernel_rfl) (fun w7 hx5=>?_);have k12:=k6.tr hx5;have hb6:=hb4.ext hx5;have r34:=r24.ext hx5;have r35:=r25.ext hx5;have r36:=r26.ext hx5;have h9:=h7.ext hx5;have O4:=O2.ext hx5;refine Zn rfl<|Zn rfl<|bS hB4 fun x6 Ex6 hB4=>?_;have hz:=(RV.els r13).ix Ex6;obtain⟨b5,f3,cs4,e5,i6,i7,q7,hc5⟩:=hz;cases e5;obtain⟨_,_,rfl,rfl,rfl⟩:=q7;have hc6:=hc5.ext k12;refine Zp rfl (fun _=>Aj l3_i1 l17_i1 Tryz.underlying216 Hg i6 i7)<|Zp rfl (fun _=>AY rfl MZ)<|Zq rfl (fun _ hS=>AR rfl CJ ((hc6.ext (hS.resolve_left nofun)).at 1 rfl)) (Ext.refl _)<|Zp rfl (fun _=>IU rfl rfl)<|Zn rfl<|Or.elim (Bool.eq_false_or_eq_true (decide (0<x6.2))) (fun h10=>?_) (fun h10=>?_)
     ·have hB4:=Ab hB4 h10;refine Yt rfl (bt h10) (fun _=>CB)<|Yt rfl (bt h10) (fun _=>CB)<|bS hB4 fun x7 Ex7 hB4=>?_;have hz:=(RV.els r9).ix Ex7;obtain⟨b6,f4,cs5,e6,i8,i9,q8,hc7⟩:=hz;cases e6;obtain rfl:=q8;have hc8:=hc7.ext k12;refine Yt rfl (bt h10) (fun _=>Aj l4_i1 l17_i1 Tryz.underlying41 Aa i8 i9)<|Yi rfl (bt h10) (fun _ hS=>AR rfl Aa ((hc8.ext (hS.resolve_left nofun)).at 0 rfl)) (Ext.refl _)<|Yt rfl (bt h10) (fun _=>CB)<|Yi rfl (bt h10) (fun _ hS=>Ao l5_i1 Tryz.underlying214) (Ext.refl _)<|Yt rfl (bt h10) (fun _=>Aw rfl rfl)<|Yt rfl (bt h10) (fun _=>FO rfl rfl)<|Zp rfl (fun _=>Cg rfl h10 rfl)<|Zn rfl<|Or.elim (Bool.eq_false_or_eq_true (decide (x7=(AZ ((y1.length:Int)+1))))) (fun h11=>?_) (fun h11=>?_)
      ·have hB4:=Ab hB4 h11;refine Yt rfl (bt h11) (fun _=>CB)<|Yi rfl (bt h11) (fun _ hS=>Ao l5_i1 Tryz.underlying214) (Ext.refl _)<|Yt rfl (bt h11) (fun _=>FO rfl rfl)<|Yt rfl (bt h11) (fun _=>CB)<|Or.elim (Bool.eq_false_or_eq_true (decide ((y1.length:Int)=0))) (fun h12=>?_) (fun h12=>?_)
       ·have hB4:=Ab hB4 h12;refine Yf rfl (Ad h12)<|Yf rfl (Ad h12)<|Yf rfl (Ad h12)<|Yh rfl (Ad h12) (Ext.refl _)<|Yf rfl (Ad h12)<|Yf rfl (Ad h12)<|Yh rfl (Ad h12) (Ext.refl _)<|Yh rfl (Ad h12) (Ext.refl _)<|Br rfl<|Gk rfl (Ad h12)<|nl ⟨fun _ _=>(Ext.refl _),?_⟩;refine Yt rfl (bt h11) (fun _=>Cg rfl h12 rfl)<|Zp rfl (fun _=>Cg rfl h11 rfl)<|?_;cases hB4;refine lf<|?_;exact⟨rfl,l0_i1,l3_i1,l4_i1,l5_i1,rfl,l15_i1,l16_i1,l17_i1,k12.size,hx5⟩
       ·have hB4:=Ac hB4 h12;refine Yt rfl (bf h12) (fun _=>CB)<|Yt rfl (bf h12) (fun _=>CB)<|Yt rfl (bf h12) (fun _=>CB)<|Yi rfl (bf h12) (fun _ hS=>Ao l5_i1 Tryz.underlying214) (Ext.refl _)<|Yt rfl (bf h12) (fun _=>Ig rfl rfl)<|bS hB4 fun x8 Ex8 hB4=>?_;have hz:=(RV.els O4.rv).ix Ex8;obtain⟨b7,f5,cs6,e7,i10,i11,q9,hc9⟩:=hz;cases e7;obtain rfl:=q9;refine Yt rfl (bf h12) (fun _=>Aj l5_i1 rfl Tryz.underlying214 A8 i10 i11)<|Yi rfl (bf h12) (fun _ hS=>Al rfl A8 (BN _) (hc9.ext (hS.resolve_left nofun))) (Ext.refl _)<|Yi rfl (bf h12) (fun _ hS=>Al rfl A8 (BN _) (Bx.cs (hb6.ext (hS.resolve_left nofun)))) (Ext.refl _)<|bS hB4 fun x9 Ex9 hB4=>Br rfl<|Gt rfl (bf h12)<|Zc (xc RG (mc l0_i1 (mc rfl (mc rfl mn)))) (VT (x0:=(x0.1,x0.2.1,x0.2.2)) h9 ⟨[.pointer a1],[.slice a2 x0.2.1.length cq1]++[.slice (some ⟨b2,f1,none⟩) x0.2.2.length cq2],rfl,(EC r34),[.slice a2 x0.2.1.length cq1],[.slice (some ⟨b2,f1,none⟩) x0.2.2.length cq2],rfl,r35.rep1,r36.rep1⟩ (show RV (α:=(Ar 4 Int)) _ (.agg (List.flatMap Flat.enc x8.l).toArray) x8 from⟨_,rfl,rfl⟩) (show RV (α:=(Ar 4 Int)) _ (.agg (List.flatMap Flat.enc x4.l).toArray) x4 from⟨_,rfl,rfl⟩) Ex9) ?_;rintro _ w8⟨rfl,hx6⟩;have k15:=k12.tr hx6;have k17:=hx5.tr hx6;refine nl ⟨fun _ _=>hx6,?_⟩;refine Yt rfl (bt h11) (fun _=>DN rfl h12 rfl)<|Zp rfl (fun _=>Cg rfl h11 rfl)<|?_;cases hB4;refine lf<|?_;exact⟨rfl,l0_i1,l3_i1,l4_i1,l5_i1,rfl,l15_i1,l16_i1,l17_i1,k15.size,k17⟩
      ·have hB4:=Ac hB4 h11;refine Yf rfl (AX h11)<|Yh rfl (AX h11) (Ext.refl _)<|Yf rfl (AX h11)<|Yf rfl (AX h11)<|Yf rfl bu<|Yf rfl bu<|Yf rfl bu<|Yh rfl bu (Ext.refl _)<|Yf rfl bu<|Yf rfl bu<|Yh rfl bu (Ext.refl _)<|Yh rfl bu (Ext.refl _)<|Br rfl<|Gk rfl bu<|nl ⟨fun _ _=>(Ext.refl _),?_⟩;refine Yf rfl (AX h11)<|Zp rfl (fun _=>DN rfl h11 rfl)<|?_;cases hB4;refine lf<|?_;exact⟨rfl,l0_i1,l3_i1,l4_i1,l5_i1,rfl,l15_i1,l16_i1,l17_i1,k12.size,hx5⟩
     ·have hB4:=Ac hB4 h10;refine Yf rfl (AX h10)<|Yf rfl (AX h10)<|Yf rfl (AX h10)<|Yh rfl (AX h10) (Ext.refl _)<|Yf rfl (AX h10)<|Yh rfl (AX h10) (Ext.refl _)<|Yf rfl (AX h10)<|Yf rfl (AX h10)<|Zp rfl (fun _=>DN rfl h10 rfl)<|Zn rfl<|Or.elim (Bool.eq_false_or_eq_true false) (fun h14=>?_) (fun h14=>?_)
      ·have hB4:=Ab hB4 h14;refine Yt rfl (bt h14) (fun _=>CB)<|Yi rfl (bt h14) (fun _ hS=>Ao l5_i1 Tryz.underlying214) (Ext.refl _)<|Yt rfl (bt h14) (fun _=>FO rfl rfl)<|Yt rfl (bt h14) (fun _=>CB)<|Or.elim (Bool.eq_false_or_eq_true (decide ((y1.length:Int)=0))) (fun h15=>?_) (fun h15=>?_)
       ·have hB4:=Ab hB4 h15;refine Yf rfl (Ad h15)<|Yf rfl (Ad h15)<|Yf rfl (Ad h15)<|Yh rfl (Ad h15) (Ext.refl _)<|Yf rfl (Ad h15)<|Yf rfl (Ad h15)<|Yh rfl (Ad h15) (Ext.refl _)<|Yh rfl (Ad h15) (Ext.refl _)<|Br rfl<|Gk rfl (Ad h15)<|nl ⟨fun _ _=>(Ext.refl _),?_⟩;refine Yt rfl (bt h14) (fun _=>Cg rfl h15 rfl)<|Zp rfl (fun _=>Cg rfl h14 rfl)<|?_;cases hB4;refine lf<|?_;exact⟨rfl,l0_i1,l3_i1,l4_i1,l5_i1,rfl,l15_i1,l16_i1,l17_i1,k12.size,hx5⟩
       ·have hB4:=Ac hB4 h15;refine Yt rfl (bf h15) (fun _=>CB)<|Yt rfl (bf h15) (fun _=>CB)<|Yt rfl (bf h15) (fun _=>CB)<|Yi rfl (bf h15) (fun _ hS=>Ao l5_i1 Tryz.underlying214) (Ext.refl _)<|Yt rfl (bf h15) (fun _=>Ig rfl rfl)<|bS hB4 fun x10 Ex10 hB4=>?_;have hz:=(RV.els O4.rv).ix Ex10;obtain⟨b8,f6,cs7,e8,i12,i13,q10,hc10⟩:=hz;cases e8;obtain rfl:=q10;refine Yt rfl (bf h15) (fun _=>Aj l5_i1 rfl Tryz.underlying214 A8 i12 i13)<|Yi rfl (bf h15) (fun _ hS=>Al rfl A8 (BN _) (hc10.ext (hS.resolve_left nofun))) (Ext.refl _)<|Yi rfl (bf h15) (fun _ hS=>Al rfl A8 (BN _) (Bx.cs (hb6.ext (hS.resolve_left nofun)))) (Ext.refl _)<|bS hB4 fun x11 Ex11 hB4=>Br rfl<|Gt rfl (bf h15)<|Zc (xc RG (mc l0_i1 (mc rfl (mc rfl mn)))) (VT (x0:=(x0.1,x0.2.1,x0.2.2)) h9 ⟨[.pointer a1],[.slice a2 x0.2.1.length cq1]++[.slice (some ⟨b2,f1,none⟩) x0.2.2.length cq2],rfl,(EC r34),[.slice a2 x0.2.1.length cq1],[.slice (some ⟨b2,f1,none⟩) x0.2.2.length cq2],rfl,r35.rep1,r36.rep1⟩ (show RV (α:=(Ar 4 Int)) _ (.agg (List.flatMap Flat.enc x10.l).toArray) x10 from⟨_,rfl,rfl⟩) (show RV (α:=(Ar 4 Int)) _ (.agg (List.flatMap Flat.enc x4.l).toArray) x4 from⟨_,rfl,rfl⟩) Ex11) ?_;rintro _ w9⟨rfl,hx7⟩;have k19:=k12.tr hx7;have k21:=hx5.tr hx7;refine nl ⟨fun _ _=>hx7,?_⟩;refine Yt rfl (bt h14) (fun _=>DN rfl h15 rfl)<|Zp rfl (fun _=>Cg rfl h14 rfl)<|?_;cases hB4;refine lf<|?_;exact⟨rfl,l0_i1,l3_i1,l4_i1,l5_i1,rfl,l15_i1,l16_i1,l17_i1,k19.size,k21⟩
      ·have hB4:=Ac hB4 h14;refine Yf rfl (AX h14)<|Yh rfl (AX h14) (Ext.refl _)<|Yf rfl (AX h14)<|Yf rfl (AX h14)<|Yf rfl bu<|Yf rfl bu<|Yf rfl bu<|Yh rfl bu (Ext.refl _)<|Yf rfl bu<|Yf rfl bu<|Yh rfl bu (Ext.refl _)<|Yh rfl bu (Ext.refl _)<|Br rfl<|Gk rfl bu<|nl ⟨fun _ _=>(Ext.refl _),?_⟩;refine Yf rfl (AX h14)<|Zp rfl (fun _=>DN rfl h14 rfl)<|?_;cases hB4;refine lf<|?_;exact⟨rfl,l0_i1,l3_i1,l4_i1,l5_i1,rfl,l15_i1,l16_i1,l17_i1,k12.size,hx5⟩
    rintro L w10⟨l53_j1,l0_j1,l3_j1,l4_j1,l5_j1,l7_j1,l15_j1,l16_j1,l17_j1,Z0_j1,K0_j1⟩;have k23:=k6.tr K0_j1;have O7:=O2.ext K0_j1;have hb9:=hb4.ext K0_j1;refine bS hB3 fun y5 hB5 hB3=>ct (fun L w=>∃v5:Value,L 5=v5/\Row 223 w2.heap.size w v5 y5/\L 0=.pointer (some ⟨b0,0,none⟩)/\L 3=.slice a4 x2.length cq3/\L 4=.slice a5 x3.length cq4/\L 15=.slice (some ⟨b2,f1,none⟩) x0.2.2.length cq2/\L 16=.int .i64 (x0.2.2.length:Int)/\L 17=.int .i64 y2/\Ext w2 w) ?_ ?_
    ·refine cnd l53_j1 (fun h18=>?_) (fun h18=>?_)
     ·have hB5:=Ab hB5 h18;refine FY [] (.pure true 0 (.pure true 1 (.pure false 2 (.pure true 3 (.pure false 4 (.pure true 5 (.pure false 6 (.eff 7 (.eff 8 (.pure true 9 .fin) .stop) .stop)))))))) mixed (by kernel_rfl) (fun w11 hx8=>?_);have k26:=k23.tr hx8;have hb10:=hb9.ext hx8;have O8:=O7.ext hx8;refine Zn rfl<|Zn rfl<|Zq rfl (fun _ hS=>Ao l5_j1 Tryz.underlying214) (Ext.refl _)<|Zn rfl<|Zq rfl (fun _ hS=>Ao l5_j1 Tryz.underlying214) (Ext.refl _)<|?_;have r59:=RV.full O8.rv;refine Zp rfl (fun _=>wI l5_j1 (RV.cap O8.rv).2.1 Tryz.underlying214 A8 rfl rfl)<|Zq rfl (fun _ hS=>Al l7_j1 A8 (BN _) (Bx.cs (hb10.ext (hS.resolve_left nofun)))) (Ext.refl _)<|Br rfl<|Ii (r:=[(0,.agg (List.flatMap Flat.enc x4.l).toArray)]) (cs:=(List.flatMap Flat.enc x4.l++[])) Tryz.underlying214 A8 rfl (pc rfl pn) rfl rfl rfl (aB x4 rfl) rfl fun b9 w12 hx9 hg2 hb11=>?_;have k30:=k26.tr hx9;have r65:=r59.ext hx9;have o3:Row (α:=(Ar 4 Int)) 223 w11.heap.size w12 (.slice (some ⟨b9,0,none⟩) 1 1) [x4]:=Row.lit hg2 hb11 rfl (ble rfl);refine nl ⟨fun _ _=>hx9,?_⟩;refine bS hB5 fun x12 Ex12 hB5=>Br rfl<|wJ (l:=y1) (k:=([x4]:List (Ar 4 Int))) rfl rfl Tryz.underlying214 A8 rfl rfl r65 o3.rv rfl Ex12 fun v6 w13 o4 hx10=>?_;have k35:=k30.tr hx10;have k39:=hx9.tr hx10;have hz:=RV.sl o4.rv;obtain⟨a7,cq6,rfl,-,-,-⟩:=hz;refine nl ⟨fun _ _=>k39,?_⟩;refine Zp rfl (fun _=>Ie)<|?_;cases hB5;refine lf<|?_;exact⟨_,rfl,(o4.bnd k30.size),l0_j1,l3_j1,l4_j1,l15_j1,l16_j1,l17_j1,k35⟩
     ·have hB5:=Ac hB5 h18;refine wp_skip<|?_;cases hB5;refine lf<|?_;exact⟨_,l5_j1,O7,l0_j1,l3_j1,l4_j1,l15_j1,l16_j1,l17_j1,k23⟩
    rintro L w14⟨v5,l5_j2,O5_j2,l0_j2,l3_j2,l4_j2,l15_j2,l16_j2,l17_j2,K0_j2⟩;have hz:=RV.sl O5_j2.rv;obtain⟨a8,cq7,rfl,-,-,-⟩:=hz;cases hB3;refine lf<|?_;exact⟨_,l5_j2,O5_j2,l0_j2,l3_j2,l4_j2,l15_j2,l16_j2,l17_j2,K0_j2⟩
   rintro L w15⟨v4,l5_j3,O5_j3,l0_j3,l3_j3,l4_j3,l15_j3,l16_j3,l17_j3,K0_j3⟩;have hz:=RV.sl O5_j3.rv;obtain⟨a9,cq8,rfl,-,-,-⟩:=hz;refine rg<|Zv (Aw l17_j3 rfl)<|Zm<|nl<|lq m (Nat.lt_succ_self _)<|?_;exact⟨_,_,_,hB1,l5_j3,O5_j3,rfl,l0_j3,l3_j3,l4_j3,l15_j3,l16_j3,K0_j3⟩
  ·have hB1:=Ac hB1 h5;refine wp_exit<|?_;cases hB1;refine lf<|?_;exact⟨_,l5_i1,O5_i1,K0_i1⟩
 rintro L w16⟨v3,l5_j4,O5_j4,K0_j4⟩;have k42:=k1.tr K0_j4;have hz:=RV.sl O5_j4.rv;obtain⟨a10,cq9,rfl,-,-,-⟩:=hz;refine Zr<|Zm<|Za<|nl<|?_;cases hF;exact wp_ret<|rt rfl (.tmp l5_j4 rfl .nil) ⟨_,rfl,O5_j4.rv,k42⟩
theorem om{w0:World}{b0:Nat}{cs0:List Value}{x0:((Ob ((Uno (List (Ar 2 Int)))×(Ar 101 Int)))×(List (List Int))×(List (Ar 4 Int)))}(h0:Cs w0 b0 0 cs0)(q0:Enc.rep (fun _=>True) w0 cs0 x0){v1:Value}{x1:(List (Int×Int))}(r1:RV w0 v1 x1){F:Nat}{r:Int}(hF:FL F x0 x1=some r):
  Calls Tryz.prog 126 [.pointer (some ⟨b0,0,none⟩),v1].toArray w0 (BQ fun v w'=>v=.int .i64 r/\Ext w0 w'):=by
 unfold FL at hF;obtain⟨_,_,rfl,q3,_,_,rfl,⟨a2,cq1,rfl,p1,q4,e1⟩,a3,cq2,rfl,p2,q5,e2⟩:=q0;have hz:=Jz q3;obtain⟨a1,rfl,r3⟩:=hz;have r4:=RV.of1 p1 q4 e1;have r5:=RV.of1 p2 q5 e2;have hz:=r1.sl;obtain⟨a4,cq3,rfl,-,-,-⟩:=hz;refine BM (n:=30) Tryz.func126 rfl rfl rfl<|Zr<|Za<|nl<|wp_seq<|Zr<|Zm<|Zv (Ao rfl Tryz.underlying216)<|Zv (FO rfl rfl)<|nl<|cnd rfl (fun h3=>?_) (fun h3=>?_)
 ·have hF:=Ab hF h3;refine Zr<|Za<|nl<|?_;cases hF;exact wp_ret<|Zw rfl rfl rfl ⟨rfl,(Ext.refl _)⟩
 ·have hF:=Ac hF h3;refine wp_skip<|Zr<|Za<|nl<|wp_seq<|Zr<|Zm<|bS hF fun x3 Ex3 hF=>Zc (xc YL (mc rfl mn)) (gy (x0:=(x0.1,x0.2.1,x0.2.2)) h0 ⟨[.pointer a1],[.slice a2 x0.2.1.length cq1]++[.slice a3 x0.2.2.length cq2],rfl,(EC r3),[.slice a2 x0.2.1.length cq1],[.slice a3 x0.2.2.length cq2],rfl,r4.rep1,r5.rep1⟩ Ex3) ?_;rintro _ w1⟨u1,rfl,r6,hx1⟩;have hz:=RV.sl r6;obtain⟨a5,cq4,rfl,-,-,-⟩:=hz;refine Zv (Ao rfl Tryz.underlying41)<|Zm<|nl<|bS hF fun z1 hB1 hF=>ct (fun L w=>L 5=.int .i64 z1/\Ext w1 w) ?_ ?_
  ·refine wp_block<|lp (I:=fun m L w=>∃y1:Int,∃y2:Int,EP F x1 x3 m y1 y2=some z1/\L 5=.int .i64 y1/\L 14=.int .i64 y2/\L 1=.slice a4 x1.length cq3/\L 12=.slice a5 x3.length cq4/\L 13=.int .i64 (x3.length:Int)/\Ext w1 w) F ⟨_,_,hB1,rfl,rfl,rfl,rfl,rfl,(Ext.refl _)⟩ ?_;rintro m L w2⟨y1,y2,hB1,l5_i1,l14_i1,l1_i1,l12_i1,l13_i1,K0_i1⟩;rcases m with _|m
   ·rw[EP]at hB1;cases hB1
   rw[EP]at hB1;have k1:=hx1.tr K0_i1;refine Zr<|Zv (BA l14_i1 l13_i1)<|nl<|wp_seq<|cnd rfl (fun h4=>?_) (fun h4=>?_)
   ·have hB1:=Ab hB1 h4;refine wp_skip<|wp_seq<|bS hB1 fun y3 hB3 hB1=>ct (fun L w=>L 5=.int .i64 y3/\L 1=.slice a4 x1.length cq3/\L 12=.slice a5 x3.length cq4/\L 13=.int .i64 (x3.length:Int)/\L 14=.int .i64 y2/\Ext w2 w) ?_ ?_
    ·refine wp_block<|Zr<|Zm<|bS hB3 fun x4 Ex4 hB3=>?_;have hz:=(RV.els r6).ix Ex4;obtain⟨b3,f1,cs3,e3,i2,i3,q6,hc1⟩:=hz;cases e3;obtain rfl:=q6;have hc2:=hc1.ext K0_i1;refine Zv (Aj l12_i1 l14_i1 Tryz.underlying41 Aa i2 i3)<|Zv (AR rfl Aa (hc2.at 0 rfl))<|Za<|Za<|nl<|Zr<|Zm<|Zv (FO rfl rfl)<|nl<|bS hB3 fun y4 hB4 hB3=>ct (fun L w=>L 5=.int .i64 y4/\L 1=.slice a4 x1.length cq3/\L 12=.slice (some ⟨b3,f1,none⟩) x3.length cq4/\L 13=.int .i64 (x3.length:Int)/\L 14=.int .i64 y2/\Ext w2 w) ?_ ?_
     ·refine cnd rfl (fun h5=>?_) (fun h5=>?_)
      ·have hB4:=Ab hB4 h5;refine rg<|Zm<|Zm<|Zm<|bS hB4 fun x5 Ex5 hB4=>?_;have hz:=(RV.els r1).ix Ex5;obtain⟨b4,f2,cs4,e4,i4,i5,q7,hc3⟩:=hz;cases e4;obtain⟨_,_,rfl,rfl,rfl⟩:=q7;have hc4:=hc3.ext k1;refine Zv (Aj l1_i1 l14_i1 Tryz.underlying216 Hg i4 i5)<|Zv (Al rfl Hg rfl hc4)<|bS hB4 fun x6 Ex6 hB4=>Zc (xc iX (mc rfl mn)) (nU (show RV (α:=(Int×Int)) _ (.agg [.int .i64 x5.1,.int .i64 x5.2].toArray) (x5.1,x5.2)from⟨_,rfl,[.int .i64 x5.1],[.int .i64 x5.2],rfl,rfl,rfl⟩) Ex6) ?_;rintro _ w3⟨rfl,hx2⟩;refine Zv (Aw l5_i1 rfl)<|Za<|nl<|?_;cases hB4;refine lf<|?_;exact⟨rfl,l1_i1,l12_i1,l13_i1,l14_i1,hx2⟩
      ·have hB4:=Ac hB4 h5;refine wp_skip<|?_;cases hB4;refine lf<|?_;exact⟨l5_i1,l1_i1,l12_i1,l13_i1,l14_i1,(Ext.refl _)⟩
     rintro L w4⟨l5_j1,l1_j1,l12_j1,l13_j1,l14_j1,K0_j1⟩;cases hB3;refine lf<|?_;exact⟨l5_j1,l1_j1,l12_j1,l13_j1,l14_j1,K0_j1⟩
    rintro L w5⟨l5_j2,l1_j2,l12_j2,l13_j2,l14_j2,K0_j2⟩;have k7:=K0_i1.tr K0_j2;refine rg<|Zv (Aw l14_j2 rfl)<|Zm<|nl<|lq m (Nat.lt_succ_self _)<|?_;exact⟨_,_,hB1,l5_j2,rfl,l1_j2,l12_j2,l13_j2,k7⟩
   ·have hB1:=Ac hB1 h4;refine wp_exit<|?_;cases hB1;refine lf<|?_;exact⟨l5_i1,K0_i1⟩
  rintro L w6⟨l5_j3,K0_j3⟩;have k8:=hx1.tr K0_j3;refine Zr<|Zm<|Za<|nl<|?_;cases hF;exact wp_ret<|rt rfl (.tmp l5_j3 rfl .nil) ⟨rfl,k8⟩
theorem zO{w0:World}{v0:Value}{x0:(Uno (List (Ar 2 Int)))}(r0:RV w0 v0 x0){v1:Value}{x1:(List (List Int))}(r1:RV w0 v1 x1){F:Nat}{r:((List (List Int))×Int)}(hF:Jk F x0 x1=some r):
  Calls Tryz.prog 41 [v0,v1].toArray w0 (BQ fun v w'=>∃u0:Value,v=.tuple #[u0,.int .i64 r.2]/\RV w' u0 r.1/\Ext w0 w'):=by
 unfold Jk at hF;have hz:=id r0;obtain⟨_,rfl,a1,cq1,rfl,p1,q3,e1⟩:=hz;have r3:=RV.of1 p1 q3 e1;have hz:=r1.sl;obtain⟨a2,cq2,rfl,-,-,-⟩:=hz;refine BM (n:=21) Tryz.func41 rfl rfl rfl<|Zr<|C8 rfl rfl fun b3 w1 hx1 hg1 hb1=>?_;have r4:=r1.ext hx1;have r5:=r3.ext hx1;refine Za<|Za<|nl<|Zr<|Zv (Al rfl I5 rfl (Bx.cs hb1))<|Zm<|bS hF fun x3 Ex3 hF=>Zc (xc YJ (mc rfl (mc rfl mn))) (fH (show RV (α:=(Uno (List (Ar 2 Int)))) _ (.agg [.slice a1 x0.v.length cq1].toArray) (⟨x0.v⟩:(Uno (List (Ar 2 Int))))from⟨_,rfl,r5.rep1⟩) r4 Ex3) ?_;rintro _ w2⟨u1,rfl,r7,hx2⟩;have k1:=hx1.tr hx2;have hz:=RL r7;obtain⟨a3,rfl⟩:=hz;refine Zm<|Zv (Dm rfl rfl)<|Zv (Dm rfl rfl)<|Za<|Za<|nl<|wp_seq<|Zr<|Zm<|Zv (Dq rfl rfl)<|nl<|cnd rfl (fun h3=>?_) (fun h3=>?_)
 ·have hF:=Ab hF h3;refine Zr<|Zm<|Za<|Za<|nl<|?_;cases hF;exact wp_ret<|rt rfl (.tmp rfl rfl (.tmp rfl rfl .nil)) ⟨_,rfl,(RVo.nil (Nat.zero_le _)),k1⟩
 ·have hF:=Ac hF h3;refine wp_skip<|Zr<|Zm<|Zm<|bS hF fun x4 Ex4 hF=>?_;have hz:=QH r7 Ex4;obtain⟨b4,cs3,e2,q4,hc1⟩:=hz;cases e2;obtain⟨_,_,rfl,q5,_,_,rfl,⟨a5,cq3,rfl,p2,q6,e3⟩,a6,cq4,rfl,p3,q7,e4⟩:=q4;have hz:=Jz q5;obtain⟨a4,rfl,r8⟩:=hz;have r9:=RV.of1 p2 q6 e3;have r10:=RV.of1 p3 q7 e4;refine bS hF fun x5 Ex5 hF=>Zc (xc ql (mc rfl mn)) (yG (x0:=(x4.1,x4.2.1,x4.2.2)) hc1 ⟨[.pointer a4],[.slice a5 x4.2.1.length cq3]++[.slice a6 x4.2.2.length cq4],rfl,(EC r8),[.slice a5 x4.2.1.length cq3],[.slice a6 x4.2.2.length cq4],rfl,r9.rep1,r10.rep1⟩ Ex5) ?_;rintro _ w3⟨u2,rfl,r11,hx3⟩;have k2:=k1.tr hx3;have r12:=r8.ext hx3;have r13:=r9.ext hx3;have r14:=r10.ext hx3;have hc2:=hc1.ext hx3;have hz:=RV.sl r11;obtain⟨a7,cq5,rfl,-,-,-⟩:=hz;refine bS hF fun x6 Ex6 hF=>Zc (xc qj (mc rfl (mc rfl mn))) (xC (x0:=(x4.1,x4.2.1,x4.2.2)) hc2 ⟨[.pointer a4],[.slice a5 x4.2.1.length cq3]++[.slice a6 x4.2.2.length cq4],rfl,(EC r12),[.slice a5 x4.2.1.length cq3],[.slice a6 x4.2.2.length cq4],rfl,r13.rep1,r14.rep1⟩ r11 Ex6) ?_;rintro _ w4⟨u3,rfl,r15,hx4⟩;have k3:=k2.tr hx4;have hz:=RV.sl r15;obtain⟨a8,cq6,rfl,-,-,-⟩:=hz;refine Za<|Za<|nl<|?_;cases hF;exact wp_ret<|rt rfl (.tmp rfl rfl (.tmp rfl rfl .nil)) ⟨_,rfl,r15,k3⟩
theorem zP{w0:World}{v0:Value}{x0:(Uno (List (Ar 2 Int)))}(r0:RV w0 v0 x0){v1:Value}{x1:(List (List Int))}(r1:RV w0 v1 x1){x2:Int}{F:Nat}{r:((List Int)×Int)}(hF:KP F x0 x1 x2=some r):
  Calls Tryz.prog 42 [v0,v1,.int .i64 x2].toArray w0 (BQ fun v w'=>∃u0:Value,v=.tuple #[u0,.int .i64 r.2]/\RV w' u0 r.1/\Ext w0 w'):=by
 unfold KP at hF;have hz:=id r0;obtain⟨_,rfl,a1,cq1,rfl,p1,q4,e1⟩:=hz;have r4:=RV.of1 p1 q4 e1;have hz:=r1.sl;obtain⟨a2,cq2,rfl,-,-,-⟩:=hz;refine BM (n:=94) Tryz.func42 rfl rfl rfl<|Zr<|C8 rfl rfl fun b4 w1 hx1 hg1 hb1=>?_;have r5:=r1.ext hx1;have r6:=r4.ext hx1;refine Za<|Za<|nl<|Zr<|Zv (Al rfl I5 rfl (Bx.cs hb1))<|Zm<|bS hF fun x4 Ex4 hF=>Zc (xc YJ (mc rfl (mc rfl mn))) (fH (show RV (α:=(Uno (List (Ar 2 Int)))) _ (.agg [.slice a1 x0.v.length cq1].toArray) (⟨x0.v⟩:(Uno (List (Ar 2 Int))))from⟨_,rfl,r6.rep1⟩) r5 Ex4) ?_;rintro _ w2⟨u1,rfl,r8,hx2⟩;have k1:=hx1.tr hx2;have hz:=RL r8;obtain⟨a3,rfl⟩:=hz;refine Zm<|Zv (Dm rfl rfl)<|Zv (Dm rfl rfl)<|Za<|Za<|nl<|wp_seq<|Zr<|Zm<|Zv (Dq rfl rfl)<|nl<|cnd rfl (fun h4=>?_) (fun h4=>?_)
 ·have hF:=Ab hF h4;refine Zr<|Zm<|Za<|Za<|nl<|?_;cases hF;exact wp_ret<|rt rfl (.tmp rfl rfl (.tmp rfl rfl .nil)) ⟨_,rfl,(RVo.nil (Nat.zero_le _)),k1⟩
 ·have hF:=Ac hF h4;refine wp_skip<|wp_seq<|Zr<|Zm<|Zv (BA rfl rfl)<|Zm<|Zg rfl rfl (EH rfl) (fun hc=>BU rfl)<|Zg rfl rfl (EH rfl) (fun hc=>BU rfl)<|Zg rfl rfl (EH rfl) (fun hc=>Ao (mv hc rfl) Tryz.underlying78)<|Zg rfl rfl (EH rfl) (fun hc=>Kc (mv hc rfl) (mv hc rfl))<|Zv (NU rfl rfl rfl)<|nl<|cnd rfl (fun h5=>?_) (fun h5=>?_)
  ·have hF:=Ab hF h5;refine Zr<|Za<|Za<|nl<|?_;cases hF;exact wp_ret<|rt rfl (.tmp rfl rfl (.tmp rfl rfl .nil)) ⟨_,rfl,(RVo.nil (Nat.zero_le _)),k1⟩
  ·have hF:=Ac hF h5;refine wp_skip<|Zr<|Zm<|bS hF fun x5 Ex5 hF=>?_;have hz:=QH r8 Ex5;obtain⟨b5,cs4,e2,q5,hc1⟩:=hz;cases e2;obtain⟨_,_,rfl,q6,_,_,rfl,⟨a5,cq3,rfl,p2,q7,e3⟩,a6,cq4,rfl,p3,q8,e4⟩:=q5;have hz:=Jz q6;obtain⟨a4,rfl,r10⟩:=hz;have r11:=RV.of1 p2 q7 e3;have r12:=RV.of1 p3 q8 e4;refine bS hF fun x6 Ex6 hF=>Zc (xc YK (mc rfl mn)) (iA (x0:=(x5.1,x5.2.1,x5.2.2)) hc1 ⟨[.pointer a4],[.slice a5 x5.2.1.length cq3]++[.slice a6 x5.2.2.length cq4],rfl,(EC r10),[.slice a5 x5.2.1.length cq3],[.slice a6 x5.2.2.length cq4],rfl,r11.rep1,r12.rep1⟩ Ex6) ?_;rintro _ w3⟨u2,rfl,r13,hx3⟩;have k2:=k1.tr hx3;have r15:=r10.ext hx3;have r16:=r11.ext hx3;have r17:=r12.ext hx3;have hc2:=hc1.ext hx3;have hz:=RV.sl r13;obtain⟨a7,cq5,rfl,-,-,-⟩:=hz;refine Za<|nl<|Zr<|Zm<|Zm<|bS hF fun x7 Ex7 hF=>Zc (xc iW (mc rfl (mc rfl mn))) (om (x0:=(x5.1,x5.2.1,x5.2.2)) hc2 ⟨[.pointer a4],[.slice a5 x5.2.1.length cq3]++[.slice a6 x5.2.2.length cq4],rfl,(EC r15),[.slice a5 x5.2.1.length cq3],[.slice a6 x5.2.2.length cq4],rfl,r16.rep1,r17.rep1⟩ r13 Ex7) ?_;rintro _ w4⟨rfl,hx4⟩;have k3:=k2.tr hx4;have r21:=r17.ext hx4;have hc3:=hc2.ext hx4;have r22:=r13.ext hx4;refine Za<|nl<|Zr<|Zm<|Zm<|bS hF fun x8 Ex8 hF=>?_;have hz:=(RV.els r1).ix Ex8;obtain⟨b6,f1,cs5,e5,i1,i2,q9,hc4⟩:=hz;cases e5;obtain⟨a8,cq6,rfl,p4,q10,e6⟩:=q9;have hc5:=hc4.ext k3;refine Zv (Aj rfl rfl Tryz.underlying78 Cy i1 i2)<|Zv (AR rfl Cy (hc5.at 0 rfl))<|Zv (Ao rfl Tryz.underlying41)<|bS hF fun x9 Ex9 hF=>VJ (α:=Int) (z0:=0) rfl rfl Tryz.underlying28 CJ rfl rfl rfl Ex9 fun b7 w5 hx5 o1=>?_;have hc6:=hc3.ext hx5;refine Za<|nl<|wp_seq<|Zr<|Zm<|Zv (Bl rfl)<|Zv (AY rfl Gd)<|Zv (AR rfl JY (hc6.at 2 rfl))<|Zv (Ao rfl Tryz.underlying214)<|Zm<|nl<|bS hF fun z1 hB1 hF=>ct (fun L w=>∃v5:Value,L 12=v5/\Row 2 w4.heap.size w v5 z1/\L 11=.int .i64 x7/\Ext w4 w) ?_ ?_
   ·refine wp_block<|lp (I:=fun m L w=>∃y1:(List Int),∃y2:Int,∃v4:Value,Fb F x2 x5 x6 m y1 y2=some z1/\L 12=v4/\Row 2 w4.heap.size w v4 y1/\L 51=.int .i64 y2/\L 2=.int .i64 x2/\L 10=.slice a7 x6.length cq5/\L 11=.int .i64 x7/\L 49=.slice a6 x5.2.2.length cq4/\L 50=.int .i64 (x5.2.2.length:Int)/\Ext w4 w) F ⟨_,_,_,hB1,rfl,o1,rfl,rfl,rfl,rfl,rfl,rfl,hx5⟩ ?_;rintro m L w6⟨y1,y2,v4,hB1,l12_i3,O12_i3,l51_i3,l2_i3,l10_i3,l11_i3,l49_i3,l50_i3,K0_i3⟩;rcases m with _|m
    ·rw[Fb]at hB1;cases hB1
    rw[Fb]at hB1;have hz:=RV.sl O12_i3.rv;obtain⟨a9,cq7,rfl,-,-,-⟩:=hz;refine Zr<|Zv (BA l51_i3 l50_i3)<|nl<|wp_seq<|cnd rfl (fun h6=>?_) (fun h6=>?_)
    ·have hB1:=Ab hB1 h6;refine wp_skip<|wp_seq<|wp_block<|Zr<|Zm<|bS hB1 fun x10 Ex10 hB1=>?_;have hz:=(RV.els r21).ix Ex10;obtain⟨b8,f2,cs6,e7,i4,i5,q11,hc7⟩:=hz;cases e7;obtain rfl:=q11;have hc8:=hc7.ext K0_i3;refine Zv (Aj l49_i3 l51_i3 Tryz.underlying214 A8 i4 i5)<|Zv (Al rfl A8 (BN _) hc8)<|EA A8 fun b9 w7 hx6 hg2 hb2=>?_;have k7:=K0_i3.tr hx6;have hb3:Bx w7 b9 223 (List.flatMap Flat.enc ((Ar.fill 4 0:(Ar 4 Int))).l):=hb2;refine Za<|Nt rfl rfl A8 hb3 (BN _) (BN _) (IW _) fun w8 hch1 hb4=>?_;have k9:=Ext.chg k7 hch1 (Nat.le_trans K0_i3.size hg2);have k10:=Ext.chg hx6 hch1 (Nat.le_trans (Nat.le_refl _) hg2);have O2:=O12_i3.ext k10;have hb5:Bx w8 b9 223 (List.flatMap Flat.enc x10.l):=hb4;refine nl<|FY [13] (.pure true 0 (.pure true 1 (.pure true 2 (.pure false 3 (.pure true 4 (.pure false 5 (.pure true 6 (.pure true 7 (.pure true 8 (.pure false 9 (.eff 10 (.pure true 11 (.pure true 12 (.eff 13 .fin .stop))) .stop))))))))))) mixed (by kernel_rfl) (fun w9 hx7=>?_);have k12:=k9.tr hx7;have hb6:=hb5.ext hx7;have O3:=O2.ext hx7;refine Zn rfl<|Zn rfl<|bS hB1 fun x11 Ex11 hB1=>?_;have hz:=Dj (Bx.cs hb6) Ex11;obtain⟨i6,i7,hc9⟩:=hz;refine Zp rfl (fun _=>Cq rfl l2_i3 Tryz.underlying223 Aa i6 i7)<|Zq rfl (fun _ hS=>AR rfl Aa ((hc9.ext (hS.resolve_left nofun)).at 0 rfl)) (Ext.refl _)<|bS hB1 fun x12 Ex12 hB1=>?_;have hz:=(RV.els O3.rv).ix Ex12;obtain⟨b10,f3,cs7,e8,i8,i9,q12,hc10⟩:=hz;cases e8;obtain rfl:=q12;refine Zp rfl (fun _=>Aj l12_i3 rfl Tryz.underlying28 CJ i8 i9)<|Zq rfl (fun _ hS=>AR rfl CJ ((hc10.ext (hS.resolve_left nofun)).at 0 rfl)) (Ext.refl _)<|Zn rfl<|Zn rfl<|bS hB1 fun x13 Ex13 hB1=>?_;have hz:=(RV.els r22).ix Ex13;obtain⟨b11,f4,cs8,e9,i10,i11,q13,hc11⟩:=hz;cases e9;obtain⟨_,_,rfl,rfl,rfl⟩:=q13;have hc12:=hc11.ext k12;refine Zp rfl (fun _=>Aj l10_i3 l51_i3 Tryz.underlying216 Hg i10 i11)<|Zq rfl (fun _ hS=>Al rfl Hg rfl (hc12.ext (hS.resolve_left nofun))) (Ext.refl _)<|bS hB1 fun x14 Ex14 hB1=>Br rfl<|Zc (xc iX (mc rfl mn)) (nU (show RV (α:=(Int×Int)) _ (.agg [.int .i64 x13.1,.int .i64 x13.2].toArray) (x13.1,x13.2)from⟨_,rfl,[.int .i64 x13.1],[.int .i64 x13.2],rfl,rfl,rfl⟩) Ex14) ?_;rintro _ w10⟨rfl,hx8⟩;have k15:=k12.tr hx8;have O4:=O3.ext hx8;refine nl ⟨fun _ _=>hx8,?_⟩;refine Zp rfl (fun _=>Aw rfl rfl)<|bS hB1 fun x15 Ex15 hB1=>?_;have hz:=Fq O4.rv Ex15;obtain⟨cs9,i12,i13,q14,hc13⟩:=hz;obtain rfl:=q14;refine Zp rfl (fun _=>Aj l12_i3 rfl Tryz.underlying28 CJ i12 i13)<|Br rfl<|VA (l:=y1) (v:=AZ (x12+x14)) rfl rfl rfl CJ O4 Ex15 fun w11 hch2 o3=>?_;have k18:=Ext.chg k15 hch2 (Nat.le_trans (Nat.le_refl _) (Row.ge O4));refine nl ⟨fun h=>(h (by decide)).elim,?_⟩;refine rg<|Zv (Aw l51_i3 rfl)<|Zm<|nl<|lq m (Nat.lt_succ_self _)<|?_;exact⟨_,_,_,hB1,l12_i3,o3,rfl,l2_i3,l10_i3,l11_i3,l49_i3,l50_i3,k18⟩
    ·have hB1:=Ac hB1 h6;refine wp_exit<|?_;cases hB1;refine lf<|?_;exact⟨_,l12_i3,O12_i3,l11_i3,K0_i3⟩
   rintro L w12⟨v5,l12_j1,O12_j1,l11_j1,K0_j1⟩;have k19:=k3.tr K0_j1;have hz:=RV.sl O12_j1.rv;obtain⟨a10,cq8,rfl,-,-,-⟩:=hz;refine Zr<|Zm<|Zv (Ao l12_j1 Tryz.underlying28)<|bS hF fun x16 Ex16 hF=>VJ (α:=Int) (z0:=0) rfl rfl Tryz.underlying41 Aa rfl rfl rfl Ex16 fun b12 w13 hx9 o4=>?_;have k21:=K0_j1.tr hx9;refine Za<|nl<|wp_seq<|Zr<|Zm<|Zv (Ao l12_j1 Tryz.underlying28)<|Zm<|nl<|bS hF fun z2 hB4 hF=>ct (fun L w=>∃v7:Value,L 15=v7/\Row 3 w12.heap.size w v7 z2/\Apart (v7) (.slice a10 z1.length cq8)/\w4.heap.size<=w.heap.size/\Ext w12 w) ?_ ?_
   ·refine wp_block<|lp (I:=fun m L w=>∃y3:(List Int),∃y4:Int,∃v6:Value,GL F x7 z1 m y3 y4=some z2/\L 15=v6/\Row 3 w12.heap.size w v6 y3/\L 75=.int .i64 y4/\Apart (v6) (.slice a10 z1.length cq8)/\L 11=.int .i64 x7/\L 73=.slice a10 z1.length cq8/\L 74=.int .i64 (z1.length:Int)/\w4.heap.size<=w.heap.size/\Ext w12 w) F ⟨_,_,_,hB4,rfl,o4,rfl,(Apart.symm (Apart.old' O12_j1.own_lt (fun q e=>(o4.lt q e).1))),l11_j1,l12_j1,rfl,k21.size,hx9⟩ ?_;rintro m L w14⟨y3,y4,v6,hB4,l15_i14,O15_i14,l75_i14,X0_i14,l11_i14,l73_i14,l74_i14,Z0_i14,K0_i14⟩;rcases m with _|m
    ·rw[GL]at hB4;cases hB4
    rw[GL]at hB4;have O6:=O12_j1.ext K0_i14;have hz:=RV.sl O15_i14.rv;obtain⟨a11,cq9,rfl,-,-,-⟩:=hz;refine Zr<|Zv (BA l75_i14 l74_i14)<|nl<|wp_seq<|cnd rfl (fun h7=>?_) (fun h7=>?_)
    ·have hB4:=Ab hB4 h7;refine wp_skip<|wp_seq<|wp_block<|Zr<|Zm<|bS hB4 fun x17 Ex17 hB4=>?_;have hz:=(RV.els O6.rv).ix Ex17;obtain⟨b13,f5,cs10,e10,i15,i16,q15,hc14⟩:=hz;cases e10;obtain rfl:=q15;refine Zv (Aj l73_i14 l75_i14 Tryz.underlying28 CJ i15 i16)<|Zv (AR rfl CJ (hc14.at 0 rfl))<|Za<|Za<|nl<|Zr<|Zm<|nl<|bS hB4 fun y5 hB6 hB4=>ct (fun L w=>∃v8:Value,L 15=v8/\Row 3 w12.heap.size w v8 y5/\Apart (v8) (.slice (some ⟨b13,f5,none⟩) z1.length cq8)/\L 11=.int .i64 x7/\L 73=.slice (some ⟨b13,f5,none⟩) z1.length cq8/\L 74=.int .i64 (z1.length:Int)/\L 75=.int .i64 y4/\w4.heap.size<=w.heap.size/\Ext w12 w) ?_ ?_
     ·refine wp_block<|Zr<|Zv (FO rfl rfl)<|Za<|nl<|bS hB6 fun y6 hB7 hB6=>ct (fun L w=>∃v9:Value,L 15=v9/\Row 3 w12.heap.size w v9 y6/\Apart (v9) (.slice (some ⟨b13,f5,none⟩) z1.length cq8)/\L 11=.int .i64 x7/\L 73=.slice (some ⟨b13,f5,none⟩) z1.length cq8/\L 74=.int .i64 (z1.length:Int)/\L 75=.int .i64 y4/\w4.heap.size<=w.heap.size/\Ext w12 w) ?_ ?_
      ·refine cnd rfl (fun h8=>?_) (fun h8=>?_)
       ·have hB7:=Ab hB7 h8;refine wp_skip<|?_;cases hB7;refine lf<|?_;exact⟨_,l15_i14,O15_i14,X0_i14,l11_i14,l73_i14,l74_i14,l75_i14,Z0_i14,K0_i14⟩
       ·have hB7:=Ac hB7 h8;refine Zr<|Zm<|Zv (FO rfl l11_i14)<|Za<|nl<|bS hB7 fun y7 hB10 hB7=>ct (fun L w=>∃v10:Value,L 15=v10/\Row 3 w12.heap.size w v10 y7/\Apart (v10) (.slice (some ⟨b13,f5,none⟩) z1.length cq8)/\L 11=.int .i64 x7/\L 73=.slice (some ⟨b13,f5,none⟩) z1.length cq8/\L 74=.int .i64 (z1.length:Int)/\L 75=.int .i64 y4/\w4.heap.size<=w.heap.size/\Ext w12 w) ?_ ?_
        ·refine cnd rfl (fun h9=>?_) (fun h9=>?_)
         ·have hB10:=Ab hB10 h9;refine rg<|Zm<|Zm<|bS hB10 fun x18 Ex18 hB10=>?_;have hz:=(RV.els O15_i14.rv).ix Ex18;obtain⟨b14,f6,cs11,e11,i17,i18,q16,hc15⟩:=hz;cases e11;obtain rfl:=q16;refine Zv (Aj l15_i14 l75_i14 Tryz.underlying41 Aa i17 i18)<|VA (l:=y3) (v:=2) rfl rfl rfl Aa O15_i14 Ex18 fun w15 hch3 o6=>?_;have k26:=Ext.chg K0_i14 hch3 (Nat.le_trans (Nat.le_refl _) (Row.ge O15_i14));have zs1:=Nat.le_trans Z0_i14 (Nat.le_of_eq hch3.size.symm);refine nl<|?_;cases hB10;refine lf<|?_;exact⟨_,l15_i14,o6,(Apart.symm (Apart.old' O12_j1.own_lt (fun q e=>(o6.lt q e).1))),l11_i14,l73_i14,l74_i14,l75_i14,zs1,k26⟩
         ·have hB10:=Ac hB10 h9;refine rg<|Zm<|Zm<|bS hB10 fun x19 Ex19 hB10=>?_;have hz:=(RV.els O15_i14.rv).ix Ex19;obtain⟨b15,f7,cs12,e12,i19,i20,q17,hc16⟩:=hz;cases e12;obtain rfl:=q17;refine Zv (Aj l15_i14 l75_i14 Tryz.underlying41 Aa i19 i20)<|VA (l:=y3) (v:=1) rfl rfl rfl Aa O15_i14 Ex19 fun w16 hch4 o7=>?_;have k29:=Ext.chg K0_i14 hch4 (Nat.le_trans (Nat.le_refl _) (Row.ge O15_i14));have zs2:=Nat.le_trans Z0_i14 (Nat.le_of_eq hch4.size.symm);refine nl<|?_;cases hB10;refine lf<|?_;exact⟨_,l15_i14,o7,(Apart.symm (Apart.old' O12_j1.own_lt (fun q e=>(o7.lt q e).1))),l11_i14,l73_i14,l74_i14,l75_i14,zs2,k29⟩
        rintro L w17⟨v10,l15_j2,O15_j2,X0_j2,l11_j2,l73_j2,l74_j2,l75_j2,Z0_j2,K0_j2⟩;have hz:=RV.sl O15_j2.rv;obtain⟨a12,cq10,rfl,-,-,-⟩:=hz;cases hB7;refine lf<|?_;exact⟨_,l15_j2,O15_j2,X0_j2,l11_j2,l73_j2,l74_j2,l75_j2,Z0_j2,K0_j2⟩
      rintro L w18⟨v9,l15_j3,O15_j3,X0_j3,l11_j3,l73_j3,l74_j3,l75_j3,Z0_j3,K0_j3⟩;have hz:=RV.sl O15_j3.rv;obtain⟨a13,cq11,rfl,-,-,-⟩:=hz;cases hB6;refine lf<|?_;exact⟨_,l15_j3,O15_j3,X0_j3,l11_j3,l73_j3,l74_j3,l75_j3,Z0_j3,K0_j3⟩
     rintro L w19⟨v8,l15_j4,O15_j4,X0_j4,l11_j4,l73_j4,l74_j4,l75_j4,Z0_j4,K0_j4⟩;have hz:=RV.sl O15_j4.rv;obtain⟨a14,cq12,rfl,-,-,-⟩:=hz;refine rg<|Zv (Aw l75_j4 rfl)<|Zm<|nl<|lq m (Nat.lt_succ_self _)<|?_;exact⟨_,_,_,hB4,l15_j4,O15_j4,rfl,X0_j4,l11_j4,l73_j4,l74_j4,Z0_j4,K0_j4⟩
    ·have hB4:=Ac hB4 h7;refine wp_exit<|?_;cases hB4;refine lf<|?_;exact⟨_,l15_i14,O15_i14,X0_i14,Z0_i14,K0_i14⟩
   rintro L w20⟨v7,l15_j5,O15_j5,X0_j5,Z0_j5,K0_j5⟩;have k36:=k19.tr K0_j5;have hz:=RV.sl O15_j5.rv;obtain⟨a15,cq13,rfl,-,-,-⟩:=hz;refine Zr<|Zm<|Za<|Za<|nl<|?_;cases hF;exact wp_ret<|rt rfl (.tmp l15_j5 rfl (.tmp rfl rfl .nil)) ⟨_,rfl,O15_j5.rv,k36⟩
theorem zQ{w0:World}{v0:Value}{x0:(Uno (List (Ar 2 Int)))}(r0:RV w0 v0 x0){v1:Value}{x1:(List (List Int))}(r1:RV w0 v1 x1){F:Nat}{r:(Int×Int)}(hF:LA F x0 x1=some r):
  Calls Tryz.prog 43 [v0,v1].toArray w0 (BQ fun v w'=>v=.tuple #[.int .i64 r.1,.int .i64 r.2]/\Ext w0 w'):=by
 unfold LA at hF;have hz:=id r0;obtain⟨_,rfl,a1,cq1,rfl,p1,q3,e1⟩:=hz;have r3:=RV.of1 p1 q3 e1;have hz:=r1.sl;obtain⟨a2,cq2,rfl,-,-,-⟩:=hz;refine BM (n:=21) Tryz.func43 rfl rfl rfl<|Zr<|C8 rfl rfl fun b3 w1 hx1 hg1 hb1=>?_;have r4:=r1.ext hx1;have r5:=r3.ext hx1;refine Za<|Za<|nl<|Zr<|Zv (Al rfl I5 rfl (Bx.cs hb1))<|Zm<|bS hF fun x3 Ex3 hF=>Zc (xc YJ (mc rfl (mc rfl mn))) (fH (show RV (α:=(Uno (List (Ar 2 Int)))) _ (.agg [.slice a1 x0.v.length cq1].toArray) (⟨x0.v⟩:(Uno (List (Ar 2 Int))))from⟨_,rfl,r5.rep1⟩) r4 Ex3) ?_;rintro _ w2⟨u1,rfl,r7,hx2⟩;have k1:=hx1.tr hx2;have hz:=RL r7;obtain⟨a3,rfl⟩:=hz;refine Zm<|Zv (Dm rfl rfl)<|Zv (Dm rfl rfl)<|Za<|Za<|nl<|wp_seq<|Zr<|Zm<|Zv (Dq rfl rfl)<|nl<|cnd rfl (fun h3=>?_) (fun h3=>?_)
 ·have hF:=Ab hF h3;refine Zr<|Zm<|Za<|Za<|nl<|?_;cases hF;exact wp_ret<|rt rfl (.tmp rfl rfl (.tmp rfl rfl .nil)) ⟨rfl,k1⟩
 ·have hF:=Ac hF h3;refine wp_skip<|Zr<|Zm<|Zm<|bS hF fun x4 Ex4 hF=>?_;have hz:=QH r7 Ex4;obtain⟨b4,cs3,e2,q4,hc1⟩:=hz;cases e2;obtain⟨_,_,rfl,q5,_,_,rfl,⟨a5,cq3,rfl,p2,q6,e3⟩,a6,cq4,rfl,p3,q7,e4⟩:=q4;have hz:=Jz q5;obtain⟨a4,rfl,r8⟩:=hz;have r9:=RV.of1 p2 q6 e3;have r10:=RV.of1 p3 q7 e4;refine bS hF fun x5 Ex5 hF=>Zc (xc YK (mc rfl mn)) (iA (x0:=(x4.1,x4.2.1,x4.2.2)) hc1 ⟨[.pointer a4],[.slice a5 x4.2.1.length cq3]++[.slice a6 x4.2.2.length cq4],rfl,(EC r8),[.slice a5 x4.2.1.length cq3],[.slice a6 x4.2.2.length cq4],rfl,r9.rep1,r10.rep1⟩ Ex5) ?_;rintro _ w3⟨u2,rfl,r11,hx3⟩;have k2:=k1.tr hx3;have r12:=r8.ext hx3;have r13:=r9.ext hx3;have r14:=r10.ext hx3;have hc2:=hc1.ext hx3;have hz:=RV.sl r11;obtain⟨a7,cq5,rfl,-,-,-⟩:=hz;refine bS hF fun x6 Ex6 hF=>Zc (xc iW (mc rfl (mc rfl mn))) (om (x0:=(x4.1,x4.2.1,x4.2.2)) hc2 ⟨[.pointer a4],[.slice a5 x4.2.1.length cq3]++[.slice a6 x4.2.2.length cq4],rfl,(EC r12),[.slice a5 x4.2.1.length cq3],[.slice a6 x4.2.2.length cq4],rfl,r13.rep1,r14.rep1⟩ r11 Ex6) ?_;rintro _ w4⟨rfl,hx4⟩;have k3:=k2.tr hx4;refine Za<|Za<|nl<|?_;cases hF;exact wp_ret<|rt rfl (.tmp rfl rfl (.tmp rfl rfl .nil)) ⟨rfl,k3⟩
theorem zR{w0:World}{F:Nat}{r:Bool}(hF:N8 F=some r):
  Calls Tryz.prog 15 [].toArray w0 (BQ fun v w'=>v=.bool r/\Ext w0 w'):=by
 unfold N8 at hF;refine BM (n:=8) Tryz.func15 rfl rfl rfl<|Zr<|Za<|nl<|Zr<|bS hF fun x1 Ex1 hF=>Zc (xc wB mn) (xN Ex1) ?_;rintro _ w1⟨rfl,hx1⟩;refine Zm<|bS hF fun x2 Ex2 hF=>gc rfl rfl rfl rfl (CO rfl) rfl (fun hc=>xc wC mn) (fun hc=>(xO (Ta Ex2 hc))) (fun v1 w2 hy1 hn1=>?_);have hx2:Ext w1 w2:=gx (fun h=>(hy1 h).2) (fun h=>(hn1 h).2▸Ext.refl _);have e1:=Tc (fun h=>(hy1 h).1) (fun h=>(hn1 h).1);have k1:=hx1.tr hx2;refine Zv (Mk rfl e1 rfl)<|Zm<|bS hF fun x3 Ex3 hF=>gc rfl rfl rfl rfl (CO rfl) rfl (fun hc=>xc wD mn) (fun hc=>(xP (Ta Ex3 hc))) (fun v2 w3 hy2 hn2=>?_);have hx3:Ext w2 w3:=gx (fun h=>(hy2 h).2) (fun h=>(hn2 h).2▸Ext.refl _);have e2:=Tc (fun h=>(hy2 h).1) (fun h=>(hn2 h).1);have k2:=k1.tr hx3;refine Zv (Mk rfl e2 rfl)<|Za<|nl<|?_;cases hF;exact wp_ret<|Zw rfl rfl rfl ⟨rfl,k2⟩
theorem oo{w0:World}{F:Nat}{r:Bool}(hF:JM F=some r):
  Calls Tryz.prog 35 [].toArray w0 (BQ fun v w'=>v=.bool r/\Ext w0 w'):=by
 unfold JM at hF;refine BM (n:=5) Tryz.func35 rfl rfl rfl<|Zr<|Za<|nl<|Zr<|bS hF fun x1 Ex1 hF=>Zc (xc vV mn) (zR Ex1) ?_;rintro _ w1⟨rfl,hx1⟩;refine Zm<|bS hF fun x2 Ex2 hF=>gc rfl rfl rfl rfl (CO rfl) rfl (fun hc=>xc qd mn) (fun hc=>(tF (Ta Ex2 hc))) (fun v1 w2 hy1 hn1=>?_);have hx2:Ext w1 w2:=gx (fun h=>(hy1 h).2) (fun h=>(hn1 h).2▸Ext.refl _);have e1:=Tc (fun h=>(hy1 h).1) (fun h=>(hn1 h).1);have k1:=hx1.tr hx2;refine Zv (Mk rfl e1 rfl)<|Za<|nl<|?_;cases hF;exact wp_ret<|Zw rfl rfl rfl ⟨rfl,k1⟩
theorem zS{w0:World}{v0:Value}{x0:Di}(r0:RV w0 v0 x0){F:Nat}{r:Bool}(hF:Ff F x0=some r):
  Calls Tryz.prog 24 [v0].toArray w0 (BQ fun v w'=>v=.bool r/\Ext w0 w'):=by
 unfold Ff at hF;have hz:=id r0;obtain⟨_,rfl,_,_,rfl,⟨a1,cq1,rfl,p1,q2,e1⟩,_,_,rfl,rfl,_,_,rfl,rfl,rfl⟩:=hz;have r2:=RV.of1 p1 q2 e1;refine BM (n:=12) Tryz.func24 rfl rfl rfl<|Zr<|C8 rfl rfl fun b2 w1 hx1 hg1 hb1=>?_;have r3:=r2.ext hx1;refine Za<|nl<|Zr<|Zv (AY rfl GA)<|Zv (AR rfl JS ((Bx.cs hb1).at 0 rfl))<|Zv (Ao rfl Tryz.underlying46)<|Zv (Mj rfl rfl)<|Zm<|Zg rfl rfl (CO rfl) (fun hc=>Al rfl JU rfl (Bx.cs hb1))<|bS hF fun x2 Ex2 hF=>gc rfl rfl rfl rfl (CO rfl) rfl (fun hc=>xc YG (mc (mv hc rfl) mn)) (fun hc=>(gX (show RV (α:=Di) _ (.agg [.slice a1 x0.1.length cq1,.int .i64 x0.2.1,.int .i64 x0.2.2.1,.int .i64 x0.2.2.2].toArray) (x0.1,x0.2.1,(x0.2.2.1,x0.2.2.2))from⟨_,rfl,[.slice a1 x0.1.length cq1],[.int .i64 x0.2.1]++([.int .i64 x0.2.2.1]++[.int .i64 x0.2.2.2]),rfl,r3.rep1,[.int .i64 x0.2.1],[.int .i64 x0.2.2.1]++[.int .i64 x0.2.2.2],rfl,rfl,[.int .i64 x0.2.2.1],[.int .i64 x0.2.2.2],rfl,rfl,rfl⟩) (Ta Ex2 hc))) (fun v2 w2 hy1 hn1=>?_);have hx2:Ext w1 w2:=gx (fun h=>(hy1 h).2) (fun h=>(hn1 h).2▸Ext.refl _);have e2:=Tc (fun h=>(hy1 h).1) (fun h=>(hn1 h).1);have k1:=hx1.tr hx2;refine Zg rfl rfl (CO rfl) (fun hc=>FO (mv hc e2) rfl)<|Zv (Mk rfl rfl rfl)<|Za<|nl<|?_;cases hF;exact wp_ret<|Zw rfl rfl rfl ⟨rfl,k1⟩
theorem zU{w0:World}{v0:Value}{x0:Di}(r0:RV w0 v0 x0){v1:Value}{x1:(List (Int×Bool))}(r1:RV w0 v1 x1){F:Nat}{r:Int}(hF:Gj F x0 x1=some r):
  Calls Tryz.prog 39 [v0,v1].toArray w0 (BQ fun v w'=>v=.int .i64 r/\Ext w0 w'):=by
 unfold Gj at hF;have hz:=id r0;obtain⟨_,rfl,_,_,rfl,⟨a1,cq1,rfl,p1,q3,e1⟩,_,_,rfl,rfl,_,_,rfl,rfl,rfl⟩:=hz;have r3:=RV.of1 p1 q3 e1;have hz:=r1.sl;obtain⟨a2,cq2,rfl,-,-,-⟩:=hz;refine BM (n:=73) Tryz.func39 rfl rfl rfl<|Zr<|C8 rfl rfl fun b3 w1 hx1 hg1 hb1=>?_;have r5:=r3.ext hx1;refine Za<|nl<|wp_seq<|Zr<|Zv (Al rfl JU rfl (Bx.cs hb1))<|bS hF fun x3 Ex3 hF=>Zc (xc YG (mc rfl mn)) (gX (show RV (α:=Di) _ (.agg [.slice a1 x0.1.length cq1,.int .i64 x0.2.1,.int .i64 x0.2.2.1,.int .i64 x0.2.2.2].toArray) (x0.1,x0.2.1,(x0.2.2.1,x0.2.2.2))from⟨_,rfl,[.slice a1 x0.1.length cq1],[.int .i64 x0.2.1]++([.int .i64 x0.2.2.1]++[.int .i64 x0.2.2.2]),rfl,r5.rep1,[.int .i64 x0.2.1],[.int .i64 x0.2.2.1]++[.int .i64 x0.2.2.2],rfl,rfl,[.int .i64 x0.2.2.1],[.int .i64 x0.2.2.2],rfl,rfl,rfl⟩) Ex3) ?_;rintro _ w2⟨rfl,hx2⟩;have k1:=hx1.tr hx2;have hb2:=hb1.ext hx2;have r7:=r5.ext hx2;refine Zv (Dq rfl rfl)<|nl<|cnd rfl (fun h3=>?_) (fun h3=>?_)
 ·have hF:=Ab hF h3;refine Zr<|Zv (Al rfl JU rfl (Bx.cs hb2))<|bS hF fun x4 Ex4 hF=>Zc (xc YG (mc rfl mn)) (gX (show RV (α:=Di) _ (.agg [.slice a1 x0.1.length cq1,.int .i64 x0.2.1,.int .i64 x0.2.2.1,.int .i64 x0.2.2.2].toArray) (x0.1,x0.2.1,(x0.2.2.1,x0.2.2.2))from⟨_,rfl,[.slice a1 x0.1.length cq1],[.int .i64 x0.2.1]++([.int .i64 x0.2.2.1]++[.int .i64 x0.2.2.2]),rfl,r7.rep1,[.int .i64 x0.2.1],[.int .i64 x0.2.2.1]++[.int .i64 x0.2.2.2],rfl,rfl,[.int .i64 x0.2.2.1],[.int .i64 x0.2.2.2],rfl,rfl,rfl⟩) Ex4) ?_;rintro _ w3⟨rfl,hx3⟩;have k2:=k1.tr hx3;refine Za<|nl<|?_;cases hF;exact wp_ret<|Zw rfl rfl rfl ⟨rfl,k2⟩
 ·have hF:=Ac hF h3;refine wp_skip<|wp_seq<|Zr<|Zm<|Zv (Ao rfl Tryz.underlying51)<|Zv (AY rfl GA)<|Zv (AR rfl JS ((Bx.cs hb2).at 0 rfl))<|Zv (Ao rfl Tryz.underlying46)<|Zv (Dq rfl rfl)<|nl<|cnd rfl (fun h4=>?_) (fun h4=>?_)
  ·have hF:=Ab hF h4;refine Zr<|Za<|nl<|?_;cases hF;exact wp_ret<|Zw rfl rfl rfl ⟨rfl,k1⟩
  ·have hF:=Ac hF h4;refine wp_skip<|wp_seq<|Zr<|Za<|nl<|bS hF fun o1 hB1 hF=>ct (fun L w=>o1=.inr ()/\L 1=.slice a2 x1.length cq2/\L 2=.pointer (some ⟨b3,0,none⟩)/\Ext w2 w) ?_ ?_
   ·refine wp_block<|lp (I:=fun m L w=>∃y1:Int,EW F x0 x1 m y1=some o1/\L 5=.int .i64 y1/\L 1=.slice a2 x1.length cq2/\L 2=.pointer (some ⟨b3,0,none⟩)/\Ext w2 w) F ⟨_,hB1,rfl,rfl,rfl,(Ext.refl _)⟩ ?_;rintro m L w4⟨y1,hB1,l5_i1,l1_i1,l2_i1,K0_i1⟩;rcases m with _|m
    ·rw[EW]at hB1;cases hB1
    rw[EW]at hB1;have k3:=k1.tr K0_i1;have r10:=r7.ext K0_i1;have hb3:=hb2.ext K0_i1;refine wp_seq<|Zr<|Zm<|Zm<|Zv (Ao l1_i1 Tryz.underlying51)<|Zv (BA l5_i1 rfl)<|nl<|cnd rfl (fun h5=>?_) (fun h5=>?_)
    ·have hB1:=Ab hB1 h5;refine wp_skip<|wp_seq<|wp_block<|wp_seq<|FY [] (.pure false 0 (.pure true 1 (.pure true 2 (.pure true 3 (.pure false 4 (.eff 5 (.pure true 6 .fin) .stop)))))) mixed (by kernel_rfl) (fun w5 hx4=>?_);have k4:=k3.tr hx4;have k5:=K0_i1.tr hx4;have hb4:=hb3.ext hx4;have r11:=r10.ext hx4;refine Zq rfl (fun _ hS=>Al l2_i1 JU rfl (Bx.cs (hb4.ext (hS.resolve_left nofun)))) (Ext.refl _)<|Zn rfl<|Zn rfl<|bS hB1 fun x5 Ex5 hB1=>?_;have hz:=(RV.els r1).ix Ex5;obtain⟨b4,f1,cs3,e2,i2,i3,q4,hc1⟩:=hz;cases e2;obtain⟨_,_,rfl,rfl,rfl⟩:=q4;have hc2:=hc1.ext k4;refine Zp rfl (fun _=>Aj l1_i1 l5_i1 Tryz.underlying51 Bj i2 i3)<|Zq rfl (fun _ hS=>Al rfl Bj rfl (hc2.ext (hS.resolve_left nofun))) (Ext.refl _)<|bS hB1 fun x6 Ex6 hB1=>Br rfl<|Zc (xc qh (mc rfl (mc rfl mn))) (xS (show RV (α:=Di) _ (.agg [.slice a1 x0.1.length cq1,.int .i64 x0.2.1,.int .i64 x0.2.2.1,.int .i64 x0.2.2.2].toArray) (x0.1,x0.2.1,(x0.2.2.1,x0.2.2.2))from⟨_,rfl,[.slice a1 x0.1.length cq1],[.int .i64 x0.2.1]++([.int .i64 x0.2.2.1]++[.int .i64 x0.2.2.2]),rfl,r11.rep1,[.int .i64 x0.2.1],[.int .i64 x0.2.2.1]++[.int .i64 x0.2.2.2],rfl,rfl,[.int .i64 x0.2.2.1],[.int .i64 x0.2.2.2],rfl,rfl,rfl⟩) (show RV (α:=(Int×Bool)) _ (.agg [.int .i64 x5.1,.bool x5.2].toArray) (x5.1,x5.2)from⟨_,rfl,[.int .i64 x5.1],[.bool x5.2],rfl,rfl,rfl⟩) Ex6) ?_;rintro _ w6⟨rfl,hx5⟩;have k6:=k4.tr hx5;have k7:=k5.tr hx5;refine nl ⟨fun _ _=>hx5,?_⟩;refine Zp rfl (fun _=>Gm rfl)<|cnd rfl (fun h6=>?_) (fun h6=>?_)
     ·have hB1:=Ab hB1 h6;refine Zr<|Za<|nl<|?_;cases hB1;have hF:=(show some _=some _ from hF);cases hF;exact wp_ret<|Zw rfl rfl rfl ⟨rfl,k6⟩
     ·have hB1:=Ac hB1 h6;refine wp_skip<|rg<|Zm<|Zv (Aw l5_i1 rfl)<|Za<|nl<|lq m (Nat.lt_succ_self _)<|?_;exact⟨_,hB1,rfl,l1_i1,l2_i1,k7⟩
    ·have hB1:=Ac hB1 h5;refine wp_exit<|?_;cases hB1;refine lf<|?_;exact⟨rfl,l1_i1,l2_i1,K0_i1⟩
   rintro L w7⟨rfl,l1_j1,l2_j1,K0_j1⟩;have k8:=k1.tr K0_j1;have r16:=r7.ext K0_j1;have hb6:=hb2.ext K0_j1;refine wp_seq<|Zr<|Za<|nl<|bS hF fun o2 hB6 hF=>ct (fun L w=>o2=.inr ()/\L 1=.slice a2 x1.length cq2/\L 2=.pointer (some ⟨b3,0,none⟩)/\Ext w7 w) ?_ ?_
   ·refine wp_block<|lp (I:=fun m L w=>∃y2:Int,EY F x1 m y2=some o2/\L 6=.int .i64 y2/\L 1=.slice a2 x1.length cq2/\L 2=.pointer (some ⟨b3,0,none⟩)/\Ext w7 w) F ⟨_,hB6,rfl,l1_j1,l2_j1,(Ext.refl _)⟩ ?_;rintro m L w8⟨y2,hB6,l6_i4,l1_i4,l2_i4,K0_i4⟩;rcases m with _|m
    ·rw[EY]at hB6;cases hB6
    rw[EY]at hB6;have k9:=k8.tr K0_i4;refine wp_seq<|Zr<|Zm<|Zm<|Zv (Ao l1_i4 Tryz.underlying51)<|Zv (BA l6_i4 rfl)<|nl<|cnd rfl (fun h7=>?_) (fun h7=>?_)
    ·have hB6:=Ab hB6 h7;refine wp_skip<|wp_seq<|wp_block<|Zr<|Za<|nl<|bS hB6 fun o3 hB8 hB6=>ct (fun L w=>o3=.inr ()/\L 1=.slice a2 x1.length cq2/\L 2=.pointer (some ⟨b3,0,none⟩)/\L 6=.int .i64 y2/\Ext w8 w) ?_ ?_
     ·refine wp_block<|lp (I:=fun m L w=>∃y3:Int,EX F x1 y2 m y3=some o3/\L 7=.int .i64 y3/\L 1=.slice a2 x1.length cq2/\L 2=.pointer (some ⟨b3,0,none⟩)/\L 6=.int .i64 y2/\Ext w8 w) F ⟨_,hB8,rfl,l1_i4,l2_i4,l6_i4,(Ext.refl _)⟩ ?_;rintro m L w9⟨y3,hB8,l7_i5,l1_i5,l2_i5,l6_i5,K0_i5⟩;rcases m with _|m
      ·rw[EX]at hB8;cases hB8
      rw[EX]at hB8;have k11:=k9.tr K0_i5;refine wp_seq<|Zr<|Zm<|Zm<|Zv (BA l7_i5 l6_i5)<|nl<|cnd rfl (fun h8=>?_) (fun h8=>?_)
      ·have hB8:=Ab hB8 h8;refine wp_skip<|wp_seq<|wp_block<|wp_seq<|FY [] (.pure true 0 (.pure true 1 (.pure true 2 (.pure true 3 (.pure false 4 (.pure true 5 (.pure true 6 (.pure true 7 (.pure true 8 (.pure false 9 (.pure true 10 .fin))))))))))) mixed (by kernel_rfl) (fun w10 hx6=>?_);have k14:=k11.tr hx6;have k17:=K0_i5.tr hx6;refine Zn rfl<|Zn rfl<|bS hB8 fun x7 Ex7 hB8=>?_;have hz:=(RV.els r1).ix Ex7;obtain⟨b5,f2,cs4,e3,i6,i7,q5,hc3⟩:=hz;cases e3;obtain⟨_,_,rfl,rfl,rfl⟩:=q5;have hc4:=hc3.ext k14;refine Zp rfl (fun _=>Aj l1_i5 l6_i5 Tryz.underlying51 Bj i6 i7)<|Zp rfl (fun _=>AY rfl GD)<|Zq rfl (fun _ hS=>AR rfl Aa ((hc4.ext (hS.resolve_left nofun)).at 0 rfl)) (Ext.refl _)<|Zn rfl<|Zn rfl<|bS hB8 fun x8 Ex8 hB8=>?_;have hz:=Fq r1 Ex8;obtain⟨cs5,i8,i9,q6,hc5⟩:=hz;obtain⟨_,_,rfl,rfl,rfl⟩:=q6;have hc6:=hc5.ext k14;refine Zp rfl (fun _=>Aj l1_i5 l7_i5 Tryz.underlying51 Bj i8 i9)<|Zp rfl (fun _=>AY rfl GD)<|Zq rfl (fun _ hS=>AR rfl Aa ((hc6.ext (hS.resolve_left nofun)).at 0 rfl)) (Ext.refl _)<|Zp rfl (fun _=>FO rfl rfl)<|cnd rfl (fun h9=>?_) (fun h9=>?_)
       ·have hB8:=Ab hB8 h9;refine Zr<|Za<|nl<|?_;cases hB8;have hB6:=(show some _=some _ from hB6);cases hB6;have hF:=(show some _=some _ from hF);cases hF;exact wp_ret<|Zw rfl rfl rfl ⟨rfl,k14⟩
       ·have hB8:=Ac hB8 h9;refine wp_skip<|rg<|Zm<|Zv (Aw l7_i5 rfl)<|Za<|nl<|lq m (Nat.lt_succ_self _)<|?_;exact⟨_,hB8,rfl,l1_i5,l2_i5,l6_i5,k17⟩
      ·have hB8:=Ac hB8 h8;refine wp_exit<|?_;cases hB8;refine lf<|?_;exact⟨rfl,l1_i5,l2_i5,l6_i5,K0_i5⟩
     rintro L w11⟨rfl,l1_j2,l2_j2,l6_j2,K0_j2⟩;have k20:=K0_i4.tr K0_j2;refine rg<|Zm<|Zv (Aw l6_j2 rfl)<|Za<|nl<|lq m (Nat.lt_succ_self _)<|?_;exact⟨_,hB6,rfl,l1_j2,l2_j2,k20⟩
    ·have hB6:=Ac hB6 h7;refine wp_exit<|?_;cases hB6;refine lf<|?_;exact⟨rfl,l1_i4,l2_i4,K0_i4⟩
   rintro L w12⟨rfl,l1_j3,l2_j3,K0_j3⟩;have k21:=k8.tr K0_j3;have r26:=r16.ext K0_j3;have hb11:=hb6.ext K0_j3;refine wp_seq<|Zr<|Za<|nl<|bS hF fun o4 hB14 hF=>ct (fun L w=>o4=.inr ()/\Ext w12 w) ?_ ?_
   ·refine wp_block<|lp (I:=fun m L w=>∃y4:Int,EZ F x0 x1 m y4=some o4/\L 8=.int .i64 y4/\L 1=.slice a2 x1.length cq2/\L 2=.pointer (some ⟨b3,0,none⟩)/\Ext w12 w) F ⟨_,hB14,rfl,l1_j3,l2_j3,(Ext.refl _)⟩ ?_;rintro m L w13⟨y4,hB14,l8_i10,l1_i10,l2_i10,K0_i10⟩;rcases m with _|m
    ·rw[EZ]at hB14;cases hB14
    rw[EZ]at hB14;have k23:=k21.tr K0_i10;have r28:=r26.ext K0_i10;have hb12:=hb11.ext K0_i10;refine wp_seq<|Zr<|Zm<|Zm<|Zv (Ao l1_i10 Tryz.underlying51)<|Zv (BA l8_i10 rfl)<|nl<|cnd rfl (fun h10=>?_) (fun h10=>?_)
    ·have hB14:=Ab hB14 h10;refine wp_skip<|wp_seq<|wp_block<|wp_seq<|FY [] (.pure false 0 (.pure true 1 (.pure true 2 (.pure true 3 (.pure true 4 (.pure false 5 (.pure true 6 (.pure true 7 (.pure true 8 (.pure false 9 (.eff 10 (.pure true 11 .fin) .stop))))))))))) mixed (by kernel_rfl) (fun w14 hx7=>?_);have k26:=k23.tr hx7;have k29:=K0_i10.tr hx7;have hb13:=hb12.ext hx7;have r29:=r28.ext hx7;refine Zq rfl (fun _ hS=>Al l2_i10 JU rfl (Bx.cs (hb13.ext (hS.resolve_left nofun)))) (Ext.refl _)<|Zn rfl<|Zn rfl<|Zp rfl (fun _=>Ig l8_i10 rfl)<|bS hB14 fun x9 Ex9 hB14=>?_;have hz:=(RV.els r1).ix Ex9;obtain⟨b6,f3,cs6,e4,i11,i12,q7,hc7⟩:=hz;cases e4;obtain⟨_,_,rfl,rfl,rfl⟩:=q7;have hc8:=hc7.ext k26;refine Zp rfl (fun _=>Aj l1_i10 rfl Tryz.underlying51 Bj i11 i12)<|Zq rfl (fun _ hS=>Al rfl Bj rfl (hc8.ext (hS.resolve_left nofun))) (Ext.refl _)<|Zn rfl<|Zn rfl<|bS hB14 fun x10 Ex10 hB14=>?_;have hz:=Fq r1 Ex10;obtain⟨cs7,i13,i14,q8,hc9⟩:=hz;obtain⟨_,_,rfl,rfl,rfl⟩:=q8;have hc10:=hc9.ext k26;refine Zp rfl (fun _=>Aj l1_i10 l8_i10 Tryz.underlying51 Bj i13 i14)<|Zq rfl (fun _ hS=>Al rfl Bj rfl (hc10.ext (hS.resolve_left nofun))) (Ext.refl _)<|bS hB14 fun x11 Ex11 hB14=>Br rfl<|Zc (xc qi (mc rfl (mc rfl (mc rfl mn)))) (xU (show RV (α:=Di) _ (.agg [.slice a1 x0.1.length cq1,.int .i64 x0.2.1,.int .i64 x0.2.2.1,.int .i64 x0.2.2.2].toArray) (x0.1,x0.2.1,(x0.2.2.1,x0.2.2.2))from⟨_,rfl,[.slice a1 x0.1.length cq1],[.int .i64 x0.2.1]++([.int .i64 x0.2.2.1]++[.int .i64 x0.2.2.2]),rfl,r29.rep1,[.int .i64 x0.2.1],[.int .i64 x0.2.2.1]++[.int .i64 x0.2.2.2],rfl,rfl,[.int .i64 x0.2.2.1],[.int .i64 x0.2.2.2],rfl,rfl,rfl⟩) (show RV (α:=(Int×Bool)) _ (.agg [.int .i64 x9.1,.bool x9.2].toArray) (x9.1,x9.2)from⟨_,rfl,[.int .i64 x9.1],[.bool x9.2],rfl,rfl,rfl⟩) (show RV (α:=(Int×Bool)) _ (.agg [.int .i64 x10.1,.bool x10.2].toArray) (x10.1,x10.2)from⟨_,rfl,[.int .i64 x10.1],[.bool x10.2],rfl,rfl,rfl⟩) Ex11) ?_;rintro _ w15⟨rfl,hx8⟩;have k30:=k26.tr hx8;have k33:=k29.tr hx8;refine nl ⟨fun _ _=>hx8,?_⟩;refine Zp rfl (fun _=>Gm rfl)<|cnd rfl (fun h11=>?_) (fun h11=>?_)
     ·have hB14:=Ab hB14 h11;refine Zr<|Za<|nl<|?_;cases hB14;have hF:=(show some _=some _ from hF);cases hF;exact wp_ret<|Zw rfl rfl rfl ⟨rfl,k30⟩
     ·have hB14:=Ac hB14 h11;refine wp_skip<|rg<|Zm<|Zv (Aw l8_i10 rfl)<|Za<|nl<|lq m (Nat.lt_succ_self _)<|?_;exact⟨_,hB14,rfl,l1_i10,l2_i10,k33⟩
    ·have hB14:=Ac hB14 h10;refine wp_exit<|?_;cases hB14;refine lf<|?_;exact⟨rfl,K0_i10⟩
   rintro L w16⟨rfl,K0_j4⟩;have k34:=k21.tr K0_j4;refine Zr<|Za<|nl<|?_;cases hF;exact wp_ret<|Zw rfl rfl rfl ⟨rfl,k34⟩
theorem uS{w0:World}{v0:Value}{x0:(List (Int×Bool))}(r0:RV w0 v0 x0){F:Nat}{r:(List Int)}(hF:KD F x0=some r):
  Calls Tryz.prog 40 [v0].toArray w0 (BQ fun v w'=>∃u0:Value,v=u0/\Row 3 w0.heap.size w' u0 r/\Ext w0 w'):=by
 unfold KD at hF;have hz:=r0.sl;obtain⟨a1,cq1,rfl,-,-,-⟩:=hz;refine BM (n:=31) Tryz.func40 rfl rfl rfl<|Zr<|Za<|nl<|Zr<|Za<|nl<|wp_seq<|Zr<|Za<|nl<|?_;have o1:Row (α:=Int) 3 w0.heap.size w0 (.slice none 0 0) []:=Row.nil;refine bS hF fun z1 hB1 hF=>ct (fun L w=>∃v3:Value,L 3=v3/\Row 3 w0.heap.size w v3 z1/\Ext w0 w) ?_ ?_
 ·refine wp_block<|lp (I:=fun m L w=>∃y1:(List Int),∃y2:Int,∃v2:Value,Gp F x0 m y1 y2=some z1/\L 3=v2/\Row 3 w0.heap.size w v2 y1/\L 4=.int .i64 y2/\L 0=.slice a1 x0.length cq1/\Ext w0 w) F ⟨_,_,_,hB1,rfl,o1,rfl,rfl,(Ext.refl _)⟩ ?_;rintro m L w1⟨y1,y2,v2,hB1,l3_i1,O3_i1,l4_i1,l0_i1,K0_i1⟩;rcases m with _|m
  ·rw[Gp]at hB1;cases hB1
  rw[Gp]at hB1;have hz:=RV.sl O3_i1.rv;obtain⟨a2,cq2,rfl,-,-,-⟩:=hz;refine wp_seq<|Zr<|Zm<|Zm<|Zv (Ao l0_i1 Tryz.underlying51)<|Zv (BA l4_i1 rfl)<|nl<|cnd rfl (fun h2=>?_) (fun h2=>?_)
  ·have hB1:=Ab hB1 h2;refine wp_skip<|wp_seq<|wp_block<|Zr<|Zm<|Zm<|bS hB1 fun x2 Ex2 hB1=>?_;have hz:=(RV.els r0).ix Ex2;obtain⟨b2,f1,cs2,e1,i2,i3,q2,hc1⟩:=hz;cases e1;obtain⟨_,_,rfl,rfl,rfl⟩:=q2;have hc2:=hc1.ext K0_i1;refine Zv (Aj l0_i1 l4_i1 Tryz.underlying51 Bj i2 i3)<|Zv (AY rfl GD)<|Zv (AR rfl Aa (hc2.at 0 rfl))<|Zv (eF rfl rfl)<|Zv (Aw rfl rfl)<|Za<|nl<|wp_seq<|Zr<|Zm<|Zm<|bS hB1 fun x3 Ex3 hB1=>?_;have hz:=Fq r0 Ex3;obtain⟨cs3,i4,i5,q3,hc3⟩:=hz;obtain⟨_,_,rfl,rfl,rfl⟩:=q3;have hc4:=hc3.ext K0_i1;refine Zv (Aj l0_i1 l4_i1 Tryz.underlying51 Bj i4 i5)<|Zv (AY rfl Pd)<|Zv (AR rfl RA (hc4.at 1 rfl))<|nl<|bS hB1 fun y3 hB3 hB1=>ct (fun L w=>L 5=.int .i64 y3/\L 0=.slice (some ⟨b2,f1,none⟩) x0.length cq1/\L 3=.slice a2 y1.length cq2/\L 4=.int .i64 y2/\Ext w1 w) ?_ ?_
   ·refine cnd rfl (fun h3=>?_) (fun h3=>?_)
    ·have hB3:=Ab hB3 h3;refine rg<|Zm<|Zv (Aw rfl rfl)<|Za<|nl<|?_;cases hB3;refine lf<|?_;exact⟨rfl,l0_i1,l3_i1,l4_i1,(Ext.refl _)⟩
    ·have hB3:=Ac hB3 h3;refine wp_skip<|?_;cases hB3;refine lf<|?_;exact⟨rfl,l0_i1,l3_i1,l4_i1,(Ext.refl _)⟩
   rintro L w2⟨l5_j1,l0_j1,l3_j1,l4_j1,K0_j1⟩;have k1:=K0_i1.tr K0_j1;have O1:=O3_i1.ext K0_j1;refine rg<|Zm<|Zm<|Ii (cs:=[.int .i64 y3]) Tryz.underlying41 Aa rfl (pc l5_j1 pn) rfl rfl rfl rfl rfl fun b3 w3 hx1 hg1 hb1=>?_;have k2:=k1.tr hx1;have O2:=O1.ext hx1;have o3:Row (α:=Int) 3 w2.heap.size w3 (.slice (some ⟨b3,0,none⟩) 1 1) [y3]:=Row.lit hg1 hb1 rfl (ble rfl);refine bS hB1 fun x4 Ex4 hB1=>Od (l:=y1) (k:=([y3]:List Int)) l3_j1 rfl Tryz.underlying41 Aa rfl rfl O2 (RV.els o3.rv) Ex4 k2.size fun v4 w4 o4 hB6 hgr1 how1=>?_;have k4:Ext w0 w4:=k2.trans hB6;have hz:=RV.sl o4.rv;obtain⟨a3,cq3,rfl,-,-,-⟩:=hz;refine Za<|nl<|rg<|Zm<|Zv (Aw l4_j1 rfl)<|Za<|nl<|lq m (Nat.lt_succ_self _)<|?_;exact⟨_,_,_,hB1,rfl,o4,rfl,l0_j1,k4⟩
  ·have hB1:=Ac hB1 h2;refine wp_exit<|?_;cases hB1;refine lf<|?_;exact⟨_,l3_i1,O3_i1,K0_i1⟩
 rintro L w5⟨v3,l3_j2,O3_j2,K0_j2⟩;have hz:=RV.sl O3_j2.rv;obtain⟨a4,cq4,rfl,-,-,-⟩:=hz;refine Zr<|Zm<|Za<|nl<|?_;cases hF;exact wp_ret<|rt rfl (.tmp l3_j2 rfl .nil) ⟨_,rfl,O3_j2,K0_j2⟩
theorem oq{w0:World}{v0:Value}{x0:(Uno (List (Ar 2 Int)))}(r0:RV w0 v0 x0){v1:Value}{x1:(List (List Int))}(r1:RV w0 v1 x1){v2:Value}{x2:(List (List Int))}(r2:RV w0 v2 x2){F:Nat}{r:Int}(hF:Dk F x0 x1 x2=some r):
  Calls Tryz.prog 44 [v0,v1,v2].toArray w0 (BQ fun v w'=>v=.int .i64 r/\Ext w0 w'):=by
 unfold Dk at hF;have hz:=id r0;obtain⟨_,rfl,a1,cq1,rfl,p1,q4,e1⟩:=hz;have r4:=RV.of1 p1 q4 e1;have hz:=r1.sl;obtain⟨a2,cq2,rfl,-,-,-⟩:=hz;have hz:=r2.sl;obtain⟨a3,cq3,rfl,-,-,-⟩:=hz;refine BM (n:=135) Tryz.func44 rfl rfl rfl<|Zr<|C8 rfl rfl fun b4 w1 hx1 hg1 hb1=>?_;have r5:=r1.ext hx1;have r7:=r4.ext hx1;refine Za<|nl<|wp_seq<|Zr<|Zv (Al rfl I5 rfl (Bx.cs hb1))<|Zm<|bS hF fun x4 Ex4 hF=>Zc (xc iY (mc rfl (mc rfl mn))) (nS (show RV (α:=(Uno (List (Ar 2 Int)))) _ (.agg [.slice a1 x0.v.length cq1].toArray) (⟨x0.v⟩:(Uno (List (Ar 2 Int))))from⟨_,rfl,r7.rep1⟩) r5 Ex4) ?_;rintro _ w2⟨rfl,hx2⟩;have k1:=hx1.tr hx2;have hb2:=hb1.ext hx2;have r9:=r7.ext hx2;have r10:=r5.ext hx2;refine Zv (Dq rfl rfl)<|nl<|cnd rfl (fun h4=>?_) (fun h4=>?_)
 ·have hF:=Ab hF h4;refine Zr<|Zv (Al rfl I5 rfl (Bx.cs hb2))<|Zm<|bS hF fun x5 Ex5 hF=>Zc (xc iY (mc rfl (mc rfl mn))) (nS (show RV (α:=(Uno (List (Ar 2 Int)))) _ (.agg [.slice a1 x0.v.length cq1].toArray) (⟨x0.v⟩:(Uno (List (Ar 2 Int))))from⟨_,rfl,r9.rep1⟩) r10 Ex5) ?_;rintro _ w3⟨rfl,hx3⟩;have k2:=k1.tr hx3;refine Za<|nl<|?_;cases hF;exact wp_ret<|Zw rfl rfl rfl ⟨rfl,k2⟩
 ·have hF:=Ac hF h4;refine wp_skip<|wp_seq<|Zr<|Zm<|Zv (Ao rfl Tryz.underlying85)<|Zv (IU rfl rfl)<|nl<|cnd rfl (fun h5=>?_) (fun h5=>?_)
  ·have hF:=Ab hF h5;refine Zr<|Za<|nl<|?_;cases hF;exact wp_ret<|Zw rfl rfl rfl ⟨rfl,k1⟩
  ·have hF:=Ac hF h5;refine wp_skip<|wp_seq<|Zr<|Za<|nl<|bS hF fun o1 hB1 hF=>ct (fun L w=>o1=.inr ()/\L 1=.slice a2 x1.length cq2/\L 2=.slice a3 x2.length cq3/\L 3=.pointer (some ⟨b4,0,none⟩)/\Ext w2 w) ?_ ?_
   ·refine wp_block<|lp (I:=fun m L w=>∃y1:Int,DU F x1 x2 m y1=some o1/\L 7=.int .i64 y1/\L 1=.slice a2 x1.length cq2/\L 2=.slice a3 x2.length cq3/\L 3=.pointer (some ⟨b4,0,none⟩)/\Ext w2 w) F ⟨_,hB1,rfl,rfl,rfl,rfl,(Ext.refl _)⟩ ?_;rintro m L w4⟨y1,hB1,l7_i1,l1_i1,l2_i1,l3_i1,K0_i1⟩;rcases m with _|m
    ·rw[DU]at hB1;cases hB1
    rw[DU]at hB1;have k3:=k1.tr K0_i1;refine wp_seq<|Zr<|Zm<|Zm<|Zv (Ao l2_i1 Tryz.underlying85)<|Zv (BA l7_i1 rfl)<|nl<|cnd rfl (fun h6=>?_) (fun h6=>?_)
    ·have hB1:=Ab hB1 h6;refine wp_skip<|wp_seq<|wp_block<|Zr<|Zm<|Zm<|bS hB1 fun x6 Ex6 hB1=>?_;have hz:=(RV.els r2).ix Ex6;obtain⟨b5,f1,cs4,e2,i2,i3,q5,hc1⟩:=hz;cases e2;obtain⟨a4,cq4,rfl,p2,q6,e3⟩:=q5;have hc2:=hc1.ext k3;refine Zv (Aj l2_i1 l7_i1 Tryz.underlying85 JV i2 i3)<|Zv (AR rfl JV (hc2.at 0 rfl))<|Zv (Ao rfl Tryz.underlying98)<|Zm<|Zv (Ao l1_i1 Tryz.underlying78)<|Zv (Dq rfl rfl)<|nl<|cnd rfl (fun h7=>?_) (fun h7=>?_)
     ·have hB1:=Ab hB1 h7;refine Zr<|Za<|nl<|?_;cases hB1;have hF:=(show some _=some _ from hF);cases hF;exact wp_ret<|Zw rfl rfl rfl ⟨rfl,k3⟩
     ·have hB1:=Ac hB1 h7;refine wp_skip<|rg<|Zm<|Zv (Aw l7_i1 rfl)<|Za<|nl<|lq m (Nat.lt_succ_self _)<|?_;exact⟨_,hB1,rfl,l1_i1,l2_i1,l3_i1,K0_i1⟩
    ·have hB1:=Ac hB1 h6;refine wp_exit<|?_;cases hB1;refine lf<|?_;exact⟨rfl,l1_i1,l2_i1,l3_i1,K0_i1⟩
   rintro L w5⟨rfl,l1_j1,l2_j1,l3_j1,K0_j1⟩;have k4:=k1.tr K0_j1;have r19:=r9.ext K0_j1;have hb4:=hb2.ext K0_j1;refine wp_seq<|Zr<|Za<|nl<|bS hF fun o2 hB6 hF=>ct (fun L w=>o2=.inr ()/\L 1=.slice a2 x1.length cq2/\L 2=.slice a3 x2.length cq3/\L 3=.pointer (some ⟨b4,0,none⟩)/\Ext w5 w) ?_ ?_
   ·refine wp_block<|lp (I:=fun m L w=>∃y2:Int,DW F x1 x2 m y2=some o2/\L 8=.int .i64 y2/\L 1=.slice a2 x1.length cq2/\L 2=.slice a3 x2.length cq3/\L 3=.pointer (some ⟨b4,0,none⟩)/\Ext w5 w) F ⟨_,hB6,rfl,l1_j1,l2_j1,l3_j1,(Ext.refl _)⟩ ?_;rintro m L w6⟨y2,hB6,l8_i4,l1_i4,l2_i4,l3_i4,K0_i4⟩;rcases m with _|m
    ·rw[DW]at hB6;cases hB6
    rw[DW]at hB6;have k5:=k4.tr K0_i4;refine wp_seq<|Zr<|Zm<|Zm<|Zv (Ao l2_i4 Tryz.underlying85)<|Zv (BA l8_i4 rfl)<|nl<|cnd rfl (fun h8=>?_) (fun h8=>?_)
    ·have hB6:=Ab hB6 h8;refine wp_skip<|wp_seq<|wp_block<|Zr<|Za<|nl<|bS hB6 fun o3 hB8 hB6=>ct (fun L w=>o3=.inr ()/\L 1=.slice a2 x1.length cq2/\L 2=.slice a3 x2.length cq3/\L 3=.pointer (some ⟨b4,0,none⟩)/\L 8=.int .i64 y2/\Ext w6 w) ?_ ?_
     ·refine wp_block<|lp (I:=fun m L w=>∃y3:Int,DV F x1 x2 y2 m y3=some o3/\L 9=.int .i64 y3/\L 1=.slice a2 x1.length cq2/\L 2=.slice a3 x2.length cq3/\L 3=.pointer (some ⟨b4,0,none⟩)/\L 8=.int .i64 y2/\Ext w6 w) F ⟨_,hB8,rfl,l1_i4,l2_i4,l3_i4,l8_i4,(Ext.refl _)⟩ ?_;rintro m L w7⟨y3,hB8,l9_i5,l1_i5,l2_i5,l3_i5,l8_i5,K0_i5⟩;rcases m with _|m
      ·rw[DV]at hB8;cases hB8
      rw[DV]at hB8;have k7:=k5.tr K0_i5;refine wp_seq<|Zr<|Zm<|Zm<|Zv (Ao l1_i5 Tryz.underlying78)<|Zv (BA l9_i5 rfl)<|nl<|cnd rfl (fun h9=>?_) (fun h9=>?_)
      ·have hB8:=Ab hB8 h9;refine wp_skip<|wp_seq<|wp_block<|wp_seq<|bS hB8 fun y4 hB10 hB8=>ct (fun L w=>L 72=.bool y4/\L 1=.slice a2 x1.length cq2/\L 2=.slice a3 x2.length cq3/\L 3=.pointer (some ⟨b4,0,none⟩)/\L 8=.int .i64 y2/\L 9=.int .i64 y3/\Ext w7 w) ?_ ?_
       ·refine FY [] (.pure true 0 (.pure true 1 (.pure true 2 (.pure false 3 (.pure true 4 (.pure true 5 (.pure false 6 (.pure true 7 (.pure true 8 (.pure true 9 (.pure true 10 (.pure true 11 (.pure false 12 (.pure true 13 (.pure true 14 (.pure false 15 (.pure true 16 (.pure true 17 (.pure true 18 (.pure false 19 (.pure false 20 (.pure true 21 (.pure true 22 .fin))))))))))))))))))))))) mixed (by kernel_rfl) (fun w9 hx5=>?_);have k14:=k7.tr hx5;refine Zn rfl<|Zn rfl<|bS hB10 fun x9 Ex9 hB10=>?_;have hz:=(RV.els r2).ix Ex9;obtain⟨b8,f4,cs7,e7,i10,i11,q10,hc7⟩:=hz;cases e7;obtain⟨a6,cq6,rfl,p4,q11,e8⟩:=q10;have r34:=RV.of1 p4 q11 e8;have hc8:=hc7.ext k14;refine Zp rfl (fun _=>Aj l2_i5 l8_i5 Tryz.underlying85 JV i10 i11)<|Zq rfl (fun _ hS=>AR rfl JV ((hc8.ext (hS.resolve_left nofun)).at 0 rfl)) (Ext.refl _)<|Zn rfl<|bS hB10 fun x10 Ex10 hB10=>?_;have hz:=(RV.els r34).ix Ex10;obtain⟨b9,f5,cs8,e9,i12,i13,q12,hc9⟩:=hz;cases e9;obtain rfl:=q12;have hc10:=hc9.ext k14;refine Zp rfl (fun _=>Aj rfl l9_i5 Tryz.underlying98 Aa i12 i13)<|Zq rfl (fun _ hS=>AR rfl Aa ((hc10.ext (hS.resolve_left nofun)).at 0 rfl)) (Ext.refl _)<|Zp rfl (fun _=>BA rfl rfl)<|Zn rfl<|Or.elim (Bool.eq_false_or_eq_true (decide (x10<0))) (fun h10=>?_) (fun h10=>?_)
        ·have hB10:=Ab hB10 h10;refine Yf rfl (Ad h10)<|Yf rfl (Ad h10)<|Yf rfl (Ad h10)<|Yh rfl (Ad h10) (Ext.refl _)<|Yf rfl (Ad h10)<|Yf rfl (Ad h10)<|Yh rfl (Ad h10) (Ext.refl _)<|Yf rfl (Ad h10)<|Yf rfl (Ad h10)<|Yf rfl (Ad h10)<|Yh rfl (Ad h10) (Ext.refl _)<|Yh rfl (Ad h10) (Ext.refl _)<|Yf rfl (Ad h10)<|Zp rfl (fun _=>Cg rfl h10 rfl)<|?_;cases hB10;refine lf<|?_;exact⟨rfl,l1_i5,l2_i5,l3_i5,l8_i5,l9_i5,hx5⟩
        ·have hB10:=Ac hB10 h10;refine Yt rfl (bf h10) (fun _=>CB)<|Yt rfl (bf h10) (fun _=>CB)<|bS hB10 fun x11 Ex11 hB10=>?_;have hz:=Fq r2 Ex11;obtain⟨cs9,i14,i15,q13,hc11⟩:=hz;obtain⟨a7,cq7,rfl,p5,q14,e10⟩:=q13;have r36:=RV.of1 p5 q14 e10;have hc12:=hc11.ext k14;refine Yt rfl (bf h10) (fun _=>Aj l2_i5 l8_i5 Tryz.underlying85 JV i14 i15)<|Yi rfl (bf h10) (fun _ hS=>AR rfl JV ((hc12.ext (hS.resolve_left nofun)).at 0 rfl)) (Ext.refl _)<|Yt rfl (bf h10) (fun _=>CB)<|bS hB10 fun x12 Ex12 hB10=>?_;have hz:=(RV.els r36).ix Ex12;obtain⟨b10,f6,cs10,e11,i16,i17,q15,hc13⟩:=hz;cases e11;obtain rfl:=q15;have hc14:=hc13.ext k14;refine Yt rfl (bf h10) (fun _=>Aj rfl l9_i5 Tryz.underlying98 Aa i16 i17)<|Yi rfl (bf h10) (fun _ hS=>AR rfl Aa ((hc14.ext (hS.resolve_left nofun)).at 0 rfl)) (Ext.refl _)<|Yt rfl (bf h10) (fun _=>CB)<|Yt rfl (bf h10) (fun _=>CB)<|bS hB10 fun x13 Ex13 hB10=>?_;have hz:=(RV.els r1).ix Ex13;obtain⟨b11,f7,cs11,e12,i18,i19,q16,hc15⟩:=hz;cases e12;obtain⟨a8,cq8,rfl,p6,q17,e13⟩:=q16;have hc16:=hc15.ext k14;refine Yt rfl (bf h10) (fun _=>Aj l1_i5 l9_i5 Tryz.underlying78 Cy i18 i19)<|Yi rfl (bf h10) (fun _ hS=>AR rfl Cy ((hc16.ext (hS.resolve_left nofun)).at 0 rfl)) (Ext.refl _)<|Yi rfl (bf h10) (fun _ hS=>Ao rfl Tryz.underlying41) (Ext.refl _)<|Yt rfl (bf h10) (fun _=>Kc rfl rfl)<|Zp rfl (fun _=>DN rfl h10 rfl)<|?_;cases hB10;refine lf<|?_;exact⟨rfl,l1_i5,l2_i5,l3_i5,l8_i5,l9_i5,hx5⟩
       rintro L w10⟨l72_j2,l1_j2,l2_j2,l3_j2,l8_j2,l9_j2,K0_j2⟩;have k18:=k7.tr K0_j2;have k21:=K0_i5.tr K0_j2;refine cnd l72_j2 (fun h11=>?_) (fun h11=>?_)
       ·have hB8:=Ab hB8 h11;refine Zr<|Za<|nl<|?_;cases hB8;have hB6:=(show some _=some _ from hB6);cases hB6;have hF:=(show some _=some _ from hF);cases hF;exact wp_ret<|Zw rfl rfl rfl ⟨rfl,k18⟩
       ·have hB8:=Ac hB8 h11;refine wp_skip<|rg<|Zm<|Zv (Aw l9_j2 rfl)<|Za<|nl<|lq m (Nat.lt_succ_self _)<|?_;exact⟨_,hB8,rfl,l1_j2,l2_j2,l3_j2,l8_j2,k21⟩
      ·have hB8:=Ac hB8 h9;refine wp_exit<|?_;cases hB8;refine lf<|?_;exact⟨rfl,l1_i5,l2_i5,l3_i5,l8_i5,K0_i5⟩
     rintro L w11⟨rfl,l1_j3,l2_j3,l3_j3,l8_j3,K0_j3⟩;have k24:=K0_i4.tr K0_j3;refine rg<|Zm<|Zv (Aw l8_j3 rfl)<|Za<|nl<|lq m (Nat.lt_succ_self _)<|?_;exact⟨_,hB6,rfl,l1_j3,l2_j3,l3_j3,k24⟩
    ·have hB6:=Ac hB6 h8;refine wp_exit<|?_;cases hB6;refine lf<|?_;exact⟨rfl,l1_i4,l2_i4,l3_i4,K0_i4⟩
   rintro L w12⟨rfl,l1_j4,l2_j4,l3_j4,K0_j4⟩;have k25:=k4.tr K0_j4;have r48:=r19.ext K0_j4;have hb11:=hb4.ext K0_j4;refine Zr<|Zv (Al l3_j4 I5 rfl (Bx.cs hb11))<|bS hF fun x14 Ex14 hF=>Zc (xc qm (mc rfl mn)) (xB (show RV (α:=(Uno (List (Ar 2 Int)))) _ (.agg [.slice a1 x0.v.length cq1].toArray) (⟨x0.v⟩:(Uno (List (Ar 2 Int))))from⟨_,rfl,r48.rep1⟩) Ex14) ?_;rintro _ w13⟨u1,rfl,r49,hx6⟩;have k27:=k25.tr hx6;have hz:=RV.sl r49;obtain⟨a9,cq9,rfl,-,-,-⟩:=hz;refine Za<|nl<|wp_seq<|Zr<|Za<|nl<|bS hF fun o4 hB15 hF=>ct (fun L w=>o4=.inr ()/\L 2=.slice a3 x2.length cq3/\Ext w13 w) ?_ ?_
   ·refine wp_block<|lp (I:=fun m L w=>∃y5:Int,DY F x1 x2 x14 m y5=some o4/\L 11=.int .i64 y5/\L 1=.slice a2 x1.length cq2/\L 2=.slice a3 x2.length cq3/\L 10=.slice a9 x14.length cq9/\Ext w13 w) F ⟨_,hB15,rfl,l1_j4,l2_j4,rfl,(Ext.refl _)⟩ ?_;rintro m L w14⟨y5,hB15,l11_i20,l1_i20,l2_i20,l10_i20,K0_i20⟩;rcases m with _|m
    ·rw[DY]at hB15;cases hB15
    rw[DY]at hB15;have k30:=k27.tr K0_i20;refine wp_seq<|Zr<|Zm<|Zm<|Zv (Ao l2_i20 Tryz.underlying85)<|Zv (BA l11_i20 rfl)<|nl<|cnd rfl (fun h12=>?_) (fun h12=>?_)
    ·have hB15:=Ab hB15 h12;refine wp_skip<|wp_seq<|wp_block<|Zr<|Za<|nl<|bS hB15 fun o5 hB17 hB15=>ct (fun L w=>o5=.inr ()/\L 1=.slice a2 x1.length cq2/\L 2=.slice a3 x2.length cq3/\L 10=.slice a9 x14.length cq9/\L 11=.int .i64 y5/\Ext w14 w) ?_ ?_
     ·refine wp_block<|lp (I:=fun m L w=>∃y6:Int,DX F x1 x2 x14 y5 m y6=some o5/\L 12=.int .i64 y6/\L 1=.slice a2 x1.length cq2/\L 2=.slice a3 x2.length cq3/\L 10=.slice a9 x14.length cq9/\L 11=.int .i64 y5/\Ext w14 w) F ⟨_,hB17,rfl,l1_i20,l2_i20,l10_i20,l11_i20,(Ext.refl _)⟩ ?_;rintro m L w15⟨y6,hB17,l12_i21,l1_i21,l2_i21,l10_i21,l11_i21,K0_i21⟩;rcases m with _|m
      ·rw[DX]at hB17;cases hB17
      rw[DX]at hB17;have k33:=k30.tr K0_i21;have k36:=K0_i20.tr K0_i21;refine wp_seq<|Zr<|Zm<|Zm<|Zv (Ao l1_i21 Tryz.underlying78)<|Zv (BA l12_i21 rfl)<|nl<|cnd rfl (fun h13=>?_) (fun h13=>?_)
      ·have hB17:=Ab hB17 h13;refine wp_skip<|wp_seq<|wp_block<|wp_seq<|FY [] (.pure true 0 (.pure true 1 (.pure true 2 (.pure true 3 (.pure false 4 (.pure true 5 (.pure true 6 (.pure true 7 (.pure false 8 (.pure true 9 (.pure true 10 (.pure false 11 (.pure true 12 (.pure false 13 (.pure true 14 (.pure false 15 (.pure true 16 (.pure true 17 (.pure true 18 (.pure false 19 (.pure true 20 (.pure true 21 (.pure true 22 (.pure false 23 (.pure true 24 (.pure false 25 (.pure true 26 (.pure false 27 (.pure true 28 (.pure false 29 (.pure true 30 .fin))))))))))))))))))))))))))))))) mixed (by kernel_rfl) (fun w16 hx7=>?_);have k37:=k33.tr hx7;have k40:=k36.tr hx7;have k41:=K0_i21.tr hx7;refine Zn rfl<|Zn rfl<|Zn rfl<|bS hB17 fun x15 Ex15 hB17=>?_;have hz:=(RV.els r1).ix Ex15;obtain⟨b12,f8,cs12,e14,i22,i23,q18,hc17⟩:=hz;cases e14;obtain⟨a10,cq10,rfl,p7,q19,e15⟩:=q18;have r61:=RV.of1 p7 q19 e15;have hc18:=hc17.ext k37;refine Zp rfl (fun _=>Aj l1_i21 l12_i21 Tryz.underlying78 Cy i22 i23)<|Zq rfl (fun _ hS=>AR rfl Cy ((hc18.ext (hS.resolve_left nofun)).at 0 rfl)) (Ext.refl _)<|Zn rfl<|Zn rfl<|bS hB17 fun x16 Ex16 hB17=>?_;have hz:=(RV.els r2).ix Ex16;obtain⟨b13,f9,cs13,e16,i24,i25,q20,hc19⟩:=hz;cases e16;obtain⟨a11,cq11,rfl,p8,q21,e17⟩:=q20;have r63:=RV.of1 p8 q21 e17;have hc20:=hc19.ext k37;refine Zp rfl (fun _=>Aj l2_i21 l11_i21 Tryz.underlying85 JV i24 i25)<|Zq rfl (fun _ hS=>AR rfl JV ((hc20.ext (hS.resolve_left nofun)).at 0 rfl)) (Ext.refl _)<|Zn rfl<|bS hB17 fun x17 Ex17 hB17=>?_;have hz:=(RV.els r63).ix Ex17;obtain⟨b14,f10,cs14,e18,i26,i27,q22,hc21⟩:=hz;cases e18;obtain rfl:=q22;have hc22:=hc21.ext k37;refine Zp rfl (fun _=>Aj rfl l12_i21 Tryz.underlying98 Aa i26 i27)<|Zq rfl (fun _ hS=>AR rfl Aa ((hc22.ext (hS.resolve_left nofun)).at 0 rfl)) (Ext.refl _)<|bS hB17 fun x18 Ex18 hB17=>?_;have hz:=(RV.els r61).ix Ex18;obtain⟨b15,f11,cs15,e19,i28,i29,q23,hc23⟩:=hz;cases e19;obtain rfl:=q23;have hc24:=hc23.ext k37;refine Zp rfl (fun _=>Aj rfl rfl Tryz.underlying41 Aa i28 i29)<|Zq rfl (fun _ hS=>AR rfl Aa ((hc24.ext (hS.resolve_left nofun)).at 0 rfl)) (Ext.refl _)<|bS hB17 fun x19 Ex19 hB17=>?_;have hz:=(RV.els r49).ix Ex19;obtain⟨b16,f12,cs16,e20,i30,i31,q24,hc25⟩:=hz;cases e20;obtain rfl:=q24;have hc26:=hc25.ext k40;refine Zp rfl (fun _=>Aj l10_i21 rfl Tryz.underlying41 Aa i30 i31)<|Zq rfl (fun _ hS=>AR rfl Aa ((hc26.ext (hS.resolve_left nofun)).at 0 rfl)) (Ext.refl _)<|Zn rfl<|Zn rfl<|bS hB17 fun x20 Ex20 hB17=>?_;have hz:=Fq r1 Ex20;obtain⟨cs17,i32,i33,q25,hc27⟩:=hz;obtain⟨a12,cq12,rfl,p9,q26,e21⟩:=q25;have r65:=RV.of1 p9 q26 e21;have hc28:=hc27.ext k37;refine Zp rfl (fun _=>Aj l1_i21 rfl Tryz.underlying78 Cy i32 i33)<|Zq rfl (fun _ hS=>AR rfl Cy ((hc28.ext (hS.resolve_left nofun)).at 0 rfl)) (Ext.refl _)<|Zn rfl<|Zn rfl<|bS hB17 fun x21 Ex21 hB17=>?_;have hz:=Fq r2 Ex21;obtain⟨cs18,i34,i35,q27,hc29⟩:=hz;obtain⟨a13,cq13,rfl,p10,q28,e22⟩:=q27;have r67:=RV.of1 p10 q28 e22;have hc30:=hc29.ext k37;refine Zp rfl (fun _=>Aj l2_i21 l11_i21 Tryz.underlying85 JV i34 i35)<|Zq rfl (fun _ hS=>AR rfl JV ((hc30.ext (hS.resolve_left nofun)).at 0 rfl)) (Ext.refl _)<|bS hB17 fun x22 Ex22 hB17=>?_;have hz:=(RV.els r67).ix Ex22;obtain⟨b17,f13,cs19,e23,i36,i37,q29,hc31⟩:=hz;cases e23;obtain rfl:=q29;have hc32:=hc31.ext k37;refine Zp rfl (fun _=>Aj rfl rfl Tryz.underlying98 Aa i36 i37)<|Zq rfl (fun _ hS=>AR rfl Aa ((hc32.ext (hS.resolve_left nofun)).at 0 rfl)) (Ext.refl _)<|bS hB17 fun x23 Ex23 hB17=>?_;have hz:=(RV.els r65).ix Ex23;obtain⟨b18,f14,cs20,e24,i38,i39,q30,hc33⟩:=hz;cases e24;obtain rfl:=q30;have hc34:=hc33.ext k37;refine Zp rfl (fun _=>Aj rfl rfl Tryz.underlying41 Aa i38 i39)<|Zq rfl (fun _ hS=>AR rfl Aa ((hc34.ext (hS.resolve_left nofun)).at 0 rfl)) (Ext.refl _)<|bS hB17 fun x24 Ex24 hB17=>?_;have hz:=Fq r49 Ex24;obtain⟨cs21,i40,i41,q31,hc35⟩:=hz;obtain rfl:=q31;have hc36:=hc35.ext k40;refine Zp rfl (fun _=>Aj l10_i21 rfl Tryz.underlying41 Aa i40 i41)<|Zq rfl (fun _ hS=>AR rfl Aa ((hc36.ext (hS.resolve_left nofun)).at 0 rfl)) (Ext.refl _)<|Zp rfl (fun _=>Dq rfl rfl)<|cnd rfl (fun h14=>?_) (fun h14=>?_)
       ·have hB17:=Ab hB17 h14;refine Zr<|Za<|nl<|?_;cases hB17;have hB15:=(show some _=some _ from hB15);cases hB15;have hF:=(show some _=some _ from hF);cases hF;exact wp_ret<|Zw rfl rfl rfl ⟨rfl,k37⟩
       ·have hB17:=Ac hB17 h14;refine wp_skip<|rg<|Zm<|Zv (Aw l12_i21 rfl)<|Za<|nl<|lq m (Nat.lt_succ_self _)<|?_;exact⟨_,hB17,rfl,l1_i21,l2_i21,l10_i21,l11_i21,k41⟩
      ·have hB17:=Ac hB17 h13;refine wp_exit<|?_;cases hB17;refine lf<|?_;exact⟨rfl,l1_i21,l2_i21,l10_i21,l11_i21,K0_i21⟩
     rintro L w17⟨rfl,l1_j5,l2_j5,l10_j5,l11_j5,K0_j5⟩;have k45:=K0_i20.tr K0_j5;refine rg<|Zm<|Zv (Aw l11_j5 rfl)<|Za<|nl<|lq m (Nat.lt_succ_self _)<|?_;exact⟨_,hB15,rfl,l1_j5,l2_j5,l10_j5,k45⟩
    ·have hB15:=Ac hB15 h12;refine wp_exit<|?_;cases hB15;refine lf<|?_;exact⟨rfl,l2_i20,K0_i20⟩
   rintro L w18⟨rfl,l2_j6,K0_j6⟩;have k46:=k27.tr K0_j6;refine wp_seq<|Zr<|Za<|nl<|bS hF fun o6 hB23 hF=>ct (fun L w=>o6=.inr ()/\Ext w18 w) ?_ ?_
   ·refine wp_block<|lp (I:=fun m L w=>∃y7:Int,DZ F x2 m y7=some o6/\L 13=.int .i64 y7/\L 2=.slice a3 x2.length cq3/\Ext w18 w) F ⟨_,hB23,rfl,l2_j6,(Ext.refl _)⟩ ?_;rintro m L w19⟨y7,hB23,l13_i42,l2_i42,K0_i42⟩;rcases m with _|m
    ·rw[DZ]at hB23;cases hB23
    rw[DZ]at hB23;have k49:=k46.tr K0_i42;refine wp_seq<|Zr<|Zm<|Zm<|Zv (Ao l2_i42 Tryz.underlying85)<|Zv (BA l13_i42 rfl)<|nl<|cnd rfl (fun h15=>?_) (fun h15=>?_)
    ·have hB23:=Ab hB23 h15;refine wp_skip<|wp_seq<|wp_block<|wp_seq<|FY [] (.pure true 0 (.pure true 1 (.pure true 2 (.pure true 3 (.pure false 4 (.pure true 5 (.pure true 6 (.pure true 7 (.pure false 8 (.eff 9 (.pure true 10 .fin) .stop)))))))))) mixed (by kernel_rfl) (fun w20 hx8=>?_);have k53:=k49.tr hx8;have k57:=K0_i42.tr hx8;refine Zn rfl<|Zn rfl<|Zp rfl (fun _=>Ig l13_i42 rfl)<|bS hB23 fun x25 Ex25 hB23=>?_;have hz:=(RV.els r2).ix Ex25;obtain⟨b19,f15,cs22,e25,i43,i44,q32,hc37⟩:=hz;cases e25;obtain⟨a14,cq14,rfl,p11,q33,e26⟩:=q32;have r75:=RV.of1 p11 q33 e26;have hc38:=hc37.ext k53;have r76:=r75.ext k53;refine Zp rfl (fun _=>Aj l2_i42 rfl Tryz.underlying85 JV i43 i44)<|Zq rfl (fun _ hS=>AR rfl JV ((hc38.ext (hS.resolve_left nofun)).at 0 rfl)) (Ext.refl _)<|Zn rfl<|Zn rfl<|bS hB23 fun x26 Ex26 hB23=>?_;have hz:=Fq r2 Ex26;obtain⟨cs23,i45,i46,q34,hc39⟩:=hz;obtain⟨a15,cq15,rfl,p12,q35,e27⟩:=q34;have r77:=RV.of1 p12 q35 e27;have hc40:=hc39.ext k53;have r78:=r77.ext k53;refine Zp rfl (fun _=>Aj l2_i42 l13_i42 Tryz.underlying85 JV i45 i46)<|Zq rfl (fun _ hS=>AR rfl JV ((hc40.ext (hS.resolve_left nofun)).at 0 rfl)) (Ext.refl _)<|bS hB23 fun x27 Ex27 hB23=>Br rfl<|Zc (xc vz (mc rfl (mc rfl mn))) (zH r76 r78 Ex27) ?_;rintro _ w21⟨rfl,hx9⟩;have k58:=k53.tr hx9;have k62:=k57.tr hx9;refine nl ⟨fun _ _=>hx9,?_⟩;refine Zp rfl (fun _=>Gm rfl)<|cnd rfl (fun h16=>?_) (fun h16=>?_)
     ·have hB23:=Ab hB23 h16;refine Zr<|Za<|nl<|?_;cases hB23;have hF:=(show some _=some _ from hF);cases hF;exact wp_ret<|Zw rfl rfl rfl ⟨rfl,k58⟩
     ·have hB23:=Ac hB23 h16;refine wp_skip<|rg<|Zm<|Zv (Aw l13_i42 rfl)<|Za<|nl<|lq m (Nat.lt_succ_self _)<|?_;exact⟨_,hB23,rfl,l2_i42,k62⟩
    ·have hB23:=Ac hB23 h15;refine wp_exit<|?_;cases hB23;refine lf<|?_;exact⟨rfl,K0_i42⟩
   rintro L w22⟨rfl,K0_j7⟩;have k63:=k46.tr K0_j7;refine Zr<|Za<|nl<|?_;cases hF;exact wp_ret<|Zw rfl rfl rfl ⟨rfl,k63⟩
theorem c6{w0:World}{v0:Value}{x0:Di}(r0:RV w0 v0 x0){v1:Value}{x1:(Ar 4 (KI .u32))}(r1:RV w0 v1 x1){x2:Int}{x3:Int}{F:Nat}{r:Bool}(hF:Gb F x0 x1 x2 x3=some r):
  Calls Tryz.prog 6 [v0,v1,.int .u8 x2,.int .u8 x3].toArray w0 (BQ fun v w'=>v=.bool r/\Ext w0 w'):=by
 unfold Gb at hF;have hz:=id r0;obtain⟨_,rfl,_,_,rfl,⟨a1,cq1,rfl,p1,q5,e1⟩,_,_,rfl,rfl,_,_,rfl,rfl,rfl⟩:=hz;have r5:=RV.of1 p1 q5 e1;have hz:=id r1;obtain⟨_,rfl,rfl⟩:=hz;refine BM (n:=258) Tryz.func6 rfl rfl rfl<|Zr<|C8 rfl rfl fun b5 w1 hx1 hg1 hb1=>?_;have r7:=r5.ext hx1;refine C8 rfl rfl fun b6 w2 hx2 hg2 hb2=>?_;have k1:=hx1.tr hx2;have hb3:=hb1.ext hx2;have r9:=r7.ext hx2;refine Za<|nl<|wp_seq<|Zr<|Zv (Al rfl JU rfl (Bx.cs hb3))<|bS hF fun x5 Ex5 hF=>Zc (xc vW (mc rfl mn)) (zS (show RV (α:=Di) _ (.agg [.slice a1 x0.1.length cq1,.int .i64 x0.2.1,.int .i64 x0.2.2.1,.int .i64 x0.2.2.2].toArray) (x0.1,x0.2.1,(x0.2.2.1,x0.2.2.2))from⟨_,rfl,[.slice a1 x0.1.length cq1],[.int .i64 x0.2.1]++([.int .i64 x0.2.2.1]++[.int .i64 x0.2.2.2]),rfl,r9.rep1,[.int .i64 x0.2.1],[.int .i64 x0.2.2.1]++[.int .i64 x0.2.2.2],rfl,rfl,[.int .i64 x0.2.2.1],[.int .i64 x0.2.2.2],rfl,rfl,rfl⟩) Ex5) ?_;rintro _ w3⟨rfl,hx3⟩;have k2:=k1.tr hx3;have hb4:=hb3.ext hx3;have r11:=r9.ext hx3;have hb5:=hb2.ext hx3;refine Zv (Gm rfl)<|nl<|cnd rfl (fun h5=>?_) (fun h5=>?_)
 ·have hF:=Ab hF h5;refine Zr<|bS hF fun x6 Ex6 hF=>Zc (xc eO mn) (oo Ex6) ?_;rintro _ w4⟨rfl,hx4⟩;have k4:=k2.tr hx4;refine Za<|nl<|?_;cases hF;exact wp_ret<|Zw rfl rfl rfl ⟨rfl,k4⟩
 ·have hF:=Ac hF h5;refine wp_skip<|Zr<|Zv (Al rfl JU rfl (Bx.cs hb4))<|bS hF fun x7 Ex7 hF=>Zc (xc vX (mc rfl mn)) (zL (show RV (α:=Di) _ (.agg [.slice a1 x0.1.length cq1,.int .i64 x0.2.1,.int .i64 x0.2.2.1,.int .i64 x0.2.2.2].toArray) (x0.1,x0.2.1,(x0.2.2.1,x0.2.2.2))from⟨_,rfl,[.slice a1 x0.1.length cq1],[.int .i64 x0.2.1]++([.int .i64 x0.2.2.1]++[.int .i64 x0.2.2.2]),rfl,r11.rep1,[.int .i64 x0.2.1],[.int .i64 x0.2.2.1]++[.int .i64 x0.2.2.2],rfl,rfl,[.int .i64 x0.2.2.1],[.int .i64 x0.2.2.2],rfl,rfl,rfl⟩) Ex7) ?_;rintro _ w5⟨rfl,hx5⟩;have k6:=k2.tr hx5;have hb6:=hb4.ext hx5;have r12:=r11.ext hx5;have hb7:=hb5.ext hx5;refine Zm<|Zv (Dm rfl rfl)<|Zv (Dm rfl rfl)<|Za<|Za<|nl<|wp_seq<|Zr<|Zm<|Zv (Dq rfl rfl)<|Zm<|Zg rfl rfl (EH rfl) (fun hc=>BU rfl)<|Zg rfl rfl (EH rfl) (fun hc=>BA (mv hc rfl) rfl)<|Zv (NU rfl rfl rfl)<|nl<|cnd rfl (fun h6=>?_) (fun h6=>?_)
  ·have hF:=Ab hF h6;refine Zr<|Za<|nl<|?_;cases hF;exact wp_ret<|Zw rfl rfl rfl ⟨rfl,k6⟩
  ·have hF:=Ac hF h6;refine wp_skip<|wp_seq<|Zr<|Zm<|Zv (FO rfl rfl)<|nl<|cnd rfl (fun h7=>?_) (fun h7=>?_)
   ·have hF:=Ab hF h7;refine Zr<|bS hF fun x8 Ex8 hF=>Zc (xc eO mn) (oo Ex8) ?_;rintro _ w6⟨rfl,hx6⟩;have k8:=k6.tr hx6;refine Za<|nl<|?_;cases hF;exact wp_ret<|Zw rfl rfl rfl ⟨rfl,k8⟩
   ·have hF:=Ac hF h7;refine wp_skip<|Zr<|Zv (Al rfl JU rfl (Bx.cs hb6))<|bS hF fun x9 Ex9 hF=>Zc (xc vY (mc rfl mn)) (zN (show RV (α:=Di) _ (.agg [.slice a1 x0.1.length cq1,.int .i64 x0.2.1,.int .i64 x0.2.2.1,.int .i64 x0.2.2.2].toArray) (x0.1,x0.2.1,(x0.2.2.1,x0.2.2.2))from⟨_,rfl,[.slice a1 x0.1.length cq1],[.int .i64 x0.2.1]++([.int .i64 x0.2.2.1]++[.int .i64 x0.2.2.2]),rfl,r12.rep1,[.int .i64 x0.2.1],[.int .i64 x0.2.2.1]++[.int .i64 x0.2.2.2],rfl,rfl,[.int .i64 x0.2.2.1],[.int .i64 x0.2.2.2],rfl,rfl,rfl⟩) Ex9) ?_;rintro _ w7⟨u1,rfl,r13,hx7⟩;have k10:=k6.tr hx7;have hb8:=hb6.ext hx7;have r14:=r12.ext hx7;have hb9:=hb7.ext hx7;have hz:=RV.sl r13;obtain⟨a2,cq2,rfl,-,-,-⟩:=hz;refine Zm<|Zv (Dm rfl rfl)<|Zv (Dm rfl rfl)<|Za<|Za<|nl<|wp_seq<|Zr<|Zm<|Zv (Dq rfl rfl)<|nl<|cnd rfl (fun h8=>?_) (fun h8=>?_)
    ·have hF:=Ab hF h8;refine Zr<|Za<|nl<|?_;cases hF;exact wp_ret<|Zw rfl rfl rfl ⟨rfl,k10⟩
    ·have hF:=Ac hF h8;refine wp_skip<|Zr<|Zm<|Zv (U6 rfl Tryz.underlying5 Tryz.underlying3)<|Zv (mQ rfl rfl (by decide))<|Zv (Aw rfl rfl)<|Za<|nl<|Zr<|Za<|nl<|Zr<|Za<|nl<|wp_seq<|Zr<|Za<|nl<|?_;have o1:DRow (α:=(List Int)) w0.heap.size 41 w7.heap.size w7 (.slice none 0 0) []:=DRow.nil;refine bS hF fun o2 hB1 hF=>ct (fun L w=>∃z1:(List (List Int)),∃z2:Bool,∃v6:Value,o2=.inr (z1,z2)/\L 13=v6/\DRow w0.heap.size 41 w7.heap.size w v6 z1/\L 14=.bool z2/\L 3=.int .u8 x3/\L 11=.slice a2 x9.1.length cq2/\L 12=.int .i64 (AZ (2+(Int.tmod (AZ x2) 3)))/\Ext w7 w) ?_ ?_
     ·refine wp_block<|lp (I:=fun m L w=>∃y1:(List (List Int)),∃y2:Bool,∃y3:Int,∃v5:Value,Da F x0 x1 x2 x7 m y1 y2 y3=some o2/\L 13=v5/\DRow w0.heap.size 41 w7.heap.size w v5 y1/\L 14=.bool y2/\L 15=.int .i64 y3/\L 3=.int .u8 x3/\L 4=.pointer (some ⟨b5,0,none⟩)/\L 5=.pointer (some ⟨b6,0,none⟩)/\L 9=.int .i64 x7.1/\L 11=.slice a2 x9.1.length cq2/\L 12=.int .i64 (AZ (2+(Int.tmod (AZ x2) 3)))/\Ext w7 w) F ⟨_,_,_,_,hB1,rfl,o1,rfl,rfl,rfl,rfl,rfl,rfl,rfl,rfl,(Ext.refl _)⟩ ?_;rintro m L w8⟨y1,y2,y3,v5,hB1,l13_i1,O13_i1,l14_i1,l15_i1,l3_i1,l4_i1,l5_i1,l9_i1,l11_i1,l12_i1,K0_i1⟩;rcases m with _|m
      ·rw[Da]at hB1;cases hB1
      rw[Da]at hB1;have k12:=k10.tr K0_i1;have r15:=r14.ext K0_i1;have hb10:=hb8.ext K0_i1;have hb11:=hb9.ext K0_i1;have hz:=RV.sl O13_i1.rv;obtain⟨a3,cq3,rfl,-,-,-⟩:=hz;refine wp_seq<|Zr<|Zm<|Zm<|Zv (BA l15_i1 l12_i1)<|nl<|cnd rfl (fun h9=>?_) (fun h9=>?_)
      ·have hB1:=Ab hB1 h9;refine wp_skip<|wp_seq<|wp_block<|wp_seq<|FY [] (.pure false 0 (.pure true 1 (.pure true 2 (.pure false 3 (.pure true 4 (.pure true 5 (.pure true 6 (.eff 7 (.pure true 8 (.pure true 9 (.pure true 10 (.pure true 11 (.pure true 12 .fin))))) .stop)))))))) mixed (by kernel_rfl) (fun w9 hx8=>?_);have k14:=k12.tr hx8;have k16:=K0_i1.tr hx8;have hb12:=hb10.ext hx8;have r17:=r15.ext hx8;have hb13:=hb11.ext hx8;have O1:=O13_i1.ext hx8;refine Zq rfl (fun _ hS=>Al l4_i1 JU rfl (Bx.cs (hb12.ext (hS.resolve_left nofun)))) (Ext.refl _)<|Zn rfl<|bS hB1 fun x10 Ex10 hB1=>?_;have hz:=Dj (Bx.cs hb13) Ex10;obtain⟨i2,i3,hc1⟩:=hz;refine Zp rfl (fun _=>Cq l5_i1 l15_i1 Tryz.underlying72 Sd i2 i3)<|Zq rfl (fun _ hS=>AR rfl Sd ((hc1.ext (hS.resolve_left nofun)).at 0 rfl)) (Ext.refl _)<|Zp rfl (fun _=>U6 rfl Tryz.underlying71 Tryz.underlying2)<|Zn rfl<|bS hB1 fun x11 Ex11 hB1=>Zp rfl (fun _=>Uh rfl l9_i1 Ex11)<|bS hB1 fun x12 Ex12 hB1=>Br rfl<|Zc (xc vZ (mc rfl (mc rfl mn))) (zM (show RV (α:=Di) _ (.agg [.slice a1 x0.1.length cq1,.int .i64 x0.2.1,.int .i64 x0.2.2.1,.int .i64 x0.2.2.2].toArray) (x0.1,x0.2.1,(x0.2.2.1,x0.2.2.2))from⟨_,rfl,[.slice a1 x0.1.length cq1],[.int .i64 x0.2.1]++([.int .i64 x0.2.2.1]++[.int .i64 x0.2.2.2]),rfl,r17.rep1,[.int .i64 x0.2.1],[.int .i64 x0.2.2.1]++[.int .i64 x0.2.2.2],rfl,rfl,[.int .i64 x0.2.2.1],[.int .i64 x0.2.2.2],rfl,rfl,rfl⟩) Ex12) ?_;rintro _ w10⟨u2,rfl,r19,hx9⟩;have k17:=k14.tr hx9;have k19:=k16.tr hx9;have hb14:=hb12.ext hx9;have r20:=r17.ext hx9;have O2:=O1.ext hx9;have hz:=RV.sl r19;obtain⟨a4,cq4,rfl,-,-,-⟩:=hz;refine nl ⟨fun _ _=>hx9,?_⟩;refine Zn rfl<|Zp rfl (fun _=>Dm rfl rfl)<|Zp rfl (fun _=>Dm rfl rfl)<|Zp rfl (fun _=>Ie)<|Zp rfl (fun _=>Ie)<|wp_seq<|Zr<|Zm<|Zv (Dq rfl rfl)<|Zm<|Zg rfl rfl (EH rfl) (fun hc=>Al l4_i1 JU rfl (Bx.cs hb14))<|Zg rfl rfl (EH rfl) (fun hc=>BU rfl)<|bS hB1 fun x13 Ex13 hB1=>gc rfl rfl rfl rfl (EH rfl) rfl (fun hc=>xc vg (mc (mv hc rfl) (mc (mv hc rfl) mn))) (fun hc=>(zU (show RV (α:=Di) _ (.agg [.slice a1 x0.1.length cq1,.int .i64 x0.2.1,.int .i64 x0.2.2.1,.int .i64 x0.2.2.2].toArray) (x0.1,x0.2.1,(x0.2.2.1,x0.2.2.2))from⟨_,rfl,[.slice a1 x0.1.length cq1],[.int .i64 x0.2.1]++([.int .i64 x0.2.2.1]++[.int .i64 x0.2.2.2]),rfl,r20.rep1,[.int .i64 x0.2.1],[.int .i64 x0.2.2.1]++[.int .i64 x0.2.2.2],rfl,rfl,[.int .i64 x0.2.2.1],[.int .i64 x0.2.2.2],rfl,rfl,rfl⟩) r19 (Ta Ex13 hc))) (fun v7 w11 hy1 hn1=>?_);have hx10:Ext w10 w11:=gx (fun h=>(hy1 h).2) (fun h=>(hn1 h).2▸Ext.refl _);have e2:=Tc (fun h=>(hy1 h).1) (fun h=>(hn1 h).1);have k20:=k17.tr hx10;have k22:=k19.tr hx10;have O3:=O2.ext hx10;have r24:=r19.ext hx10;refine Zg rfl rfl (EH rfl) (fun hc=>Dq (mv hc e2) rfl)<|Zv (NU rfl rfl rfl)<|nl<|cnd rfl (fun h10=>?_) (fun h10=>?_)
       ·have hB1:=Ab hB1 h10;refine Zr<|Za<|nl<|?_;cases hB1;have hF:=(show some _=some _ from hF);cases hF;exact wp_ret<|Zw rfl rfl rfl ⟨rfl,k20⟩
       ·have hB1:=Ac hB1 h10;refine wp_skip<|Zr<|Zm<|Zm<|bS hB1 fun x14 Ex14 hB1=>Zc (xc mh (mc rfl mn)) (uS r24 Ex14) ?_;rintro _ w12⟨u3,rfl,r25,hx11⟩;have k26:=k22.tr hx11;have O4:=O3.ext hx11;have hz:=RV.sl r25.rv;obtain⟨a5,cq5,rfl,-,-,-⟩:=hz;refine Ii (cs:=[.slice a5 x14.length cq5]) Tryz.underlying78 Cy rfl (pc rfl pn) rfl rfl rfl rfl rfl fun b7 w13 hx12 hg3 hb20=>?_;have k30:=k26.tr hx12;have O5:=O4.ext hx12;have r31:=r25.ext hx12;have r28:RV w13 (.slice (some ⟨b7,0,none⟩) 1 1) ([x14]:List (List Int)):=RV.lit hb20 (css:=[[.slice a5 x14.length cq5]]) rfl ⟨r31.rv.rep1,trivial⟩ rfl (ble rfl);refine bS hB1 fun x15 Ex15 hB1=>nI (l:=y1) (k:=([x14]:List (List Int))) l13_i1 rfl Tryz.underlying78 Cy rfl rfl O5 (ElsD.lit1 hb20 (RVo.rep1 (RVo.okn (Row.rvob r31) k22.size O3.own_lt))) Ex15 k30.size fun v8 w14 o3 hB5 hgr1 how1=>?_;have k35:Ext w7 w14:=k30.trans hB5;have hb24:=hb9.ext k35;have hz:=RV.sl o3.rv;obtain⟨a6,cq6,rfl,-,-,-⟩:=hz;refine Za<|nl<|bS hB1 fun y4 hB6 hB1=>ct (fun L w=>L 14=.bool y4/\L 3=.int .u8 x3/\L 4=.pointer (some ⟨b5,0,none⟩)/\L 5=.pointer (some ⟨b6,0,none⟩)/\L 9=.int .i64 x7.1/\L 11=.slice a2 x9.1.length cq2/\L 12=.int .i64 (AZ (2+(Int.tmod (AZ x2) 3)))/\L 13=.slice a6 x15.length cq6/\L 15=.int .i64 y3/\w7.heap.size<=w.heap.size/\Ext w14 w) ?_ ?_
        ·refine FY [] (.pure true 0 (.pure true 1 (.pure true 2 (.pure true 3 (.pure false 4 (.pure true 5 (.pure true 6 (.pure true 7 (.pure true 8 (.pure false 9 (.pure true 10 (.pure true 11 (.pure true 12 (.pure true 13 (.pure true 14 (.pure true 15 .fin)))))))))))))))) mixed (by kernel_rfl) (fun w16 hx14=>?_);have k41:=k35.tr hx14;have hb28:=hb24.ext hx14;refine Zn rfl<|Zn rfl<|Or.elim (Bool.eq_false_or_eq_true y2) (fun h11=>?_) (fun h11=>?_)
         ·have hB6:=Ab hB6 h11;refine LJ rfl rfl rfl rfl rfl l14_i1 (bt h11) rfl (fun _ _=>CB) (.inl rfl)<|bS hB6 fun x16 Ex16 hB6=>?_;have hz:=Dj (Bx.cs hb28) Ex16;obtain⟨i4,i5,hc2⟩:=hz;refine LJ rfl rfl rfl rfl rfl l14_i1 (bt h11) rfl (fun _ _=>Cq l5_i1 l15_i1 Tryz.underlying72 Sd i4 i5) (.inl rfl)<|LJ rfl rfl rfl rfl rfl l14_i1 (bt h11) rfl (fun _ hS=>AR rfl Sd ((hc2.ext (hS.resolve_left nofun)).at 0 rfl)) (.inr (Ext.refl _))<|LJ rfl rfl rfl rfl rfl l14_i1 (bt h11) rfl (fun _ _=>U6 rfl Tryz.underlying71 Tryz.underlying2) (.inl rfl)<|LJ rfl rfl rfl rfl rfl l14_i1 (bt h11) rfl (fun _ _=>CB) (.inl rfl)<|bS hB6 fun x17 Ex17 hB6=>LJ rfl rfl rfl rfl rfl l14_i1 (bt h11) rfl (fun _ _=>Uh rfl l9_i1 Ex17) (.inl rfl)<|bS hB6 fun x18 Ex18 hB6=>?_;have hz:=Dj (Bx.cs hb28) Ex18;obtain⟨i6,i7,hc3⟩:=hz;refine LJ rfl rfl rfl rfl rfl l14_i1 (bt h11) rfl (fun _ _=>Cq l5_i1 rfl Tryz.underlying72 Sd i6 i7) (.inl rfl)<|LJ rfl rfl rfl rfl rfl l14_i1 (bt h11) rfl (fun _ hS=>AR rfl Sd ((hc3.ext (hS.resolve_left nofun)).at 0 rfl)) (.inr (Ext.refl _))<|LJ rfl rfl rfl rfl rfl l14_i1 (bt h11) rfl (fun _ _=>U6 rfl Tryz.underlying71 Tryz.underlying2) (.inl rfl)<|LJ rfl rfl rfl rfl rfl l14_i1 (bt h11) rfl (fun _ _=>CB) (.inl rfl)<|bS hB6 fun x19 Ex19 hB6=>LJ rfl rfl rfl rfl rfl l14_i1 (bt h11) rfl (fun _ _=>Uh rfl l9_i1 Ex19) (.inl rfl)<|LJ rfl rfl rfl rfl rfl l14_i1 (bt h11) rfl (fun _ _=>FO rfl rfl) (.inl rfl)<|Zp rfl (fun _=>Cg l14_i1 h11 rfl)<|Zp rfl (fun _=>Ie)<|?_;cases hB6;refine lf<|?_;exact⟨rfl,l3_i1,l4_i1,l5_i1,l9_i1,l11_i1,l12_i1,rfl,l15_i1,k41.size,hx14⟩
         ·have hB6:=Ac hB6 h11;refine K3 rfl rfl rfl rfl rfl l14_i1 (AX h11) rfl (.inl rfl)<|K3 rfl rfl rfl rfl rfl l14_i1 (AX h11) rfl (.inl rfl)<|K3 rfl rfl rfl rfl rfl l14_i1 (AX h11) rfl (.inr (Ext.refl _))<|K3 rfl rfl rfl rfl rfl l14_i1 (AX h11) rfl (.inl rfl)<|K3 rfl rfl rfl rfl rfl l14_i1 (AX h11) rfl (.inl rfl)<|K3 rfl rfl rfl rfl rfl l14_i1 (AX h11) rfl (.inl rfl)<|K3 rfl rfl rfl rfl rfl l14_i1 (AX h11) rfl (.inl rfl)<|K3 rfl rfl rfl rfl rfl l14_i1 (AX h11) rfl (.inr (Ext.refl _))<|K3 rfl rfl rfl rfl rfl l14_i1 (AX h11) rfl (.inl rfl)<|K3 rfl rfl rfl rfl rfl l14_i1 (AX h11) rfl (.inl rfl)<|K3 rfl rfl rfl rfl rfl l14_i1 (AX h11) rfl (.inl rfl)<|K3 rfl rfl rfl rfl rfl l14_i1 (AX h11) rfl (.inl rfl)<|Zp rfl (fun _=>DN l14_i1 h11 rfl)<|Zp rfl (fun _=>Ie)<|?_;cases hB6;refine lf<|?_;exact⟨rfl,l3_i1,l4_i1,l5_i1,l9_i1,l11_i1,l12_i1,rfl,l15_i1,k41.size,hx14⟩
        rintro L w17⟨l14_j1,l3_j1,l4_j1,l5_j1,l9_j1,l11_j1,l12_j1,l13_j1,l15_j1,Z0_j1,K0_j1⟩;have k44:=k35.tr K0_j1;have o6:=o3.ext K0_j1;refine rg<|Zm<|Zv (Aw l15_j1 rfl)<|Za<|nl<|lq m (Nat.lt_succ_self _)<|?_;exact⟨_,_,_,_,hB1,l13_j1,o6,l14_j1,rfl,l3_j1,l4_j1,l5_j1,l9_j1,l11_j1,l12_j1,k44⟩
      ·have hB1:=Ac hB1 h9;refine wp_exit<|?_;cases hB1;refine lf<|?_;exact⟨_,_,_,rfl,l13_i1,O13_i1,l14_i1,l3_i1,l11_i1,l12_i1,K0_i1⟩
     rintro L w18⟨z1,z2,v6,rfl,l13_j2,O13_j2,l14_j2,l3_j2,l11_j2,l12_j2,K0_j2⟩;have k45:=k10.tr K0_j2;have hz:=RV.sl O13_j2.rv;obtain⟨a7,cq7,rfl,-,-,-⟩:=hz;refine Zr<|EA I5 fun b8 w19 hx15 hg4 hb31=>?_;have k47:=k45.tr hx15;have k49:=K0_j2.tr hx15;have O6:=O13_j2.ext hx15;refine nl<|Zr<|Zm<|Zv (U6 l3_j2 Tryz.underlying5 Tryz.underlying3)<|Zm<|bS hF fun x20 Ex20 hF=>Zv (Uh rfl l12_j2 Ex20)<|Za<|nl<|Zr<|Zv (Al rfl I5 rfl (Bx.cs hb31))<|Zm<|bS hF fun x21 Ex21 hF=>Zc (xc vk (mc rfl (mc l13_j2 mn))) (zO (show RV (α:=(Uno (List (Ar 2 Int)))) _ (.agg [.slice none 0 0].toArray) (⟨[]⟩:(Uno (List (Ar 2 Int))))from⟨_,rfl,(RVo.nil (Nat.zero_le _)).rep1⟩) O6.rv Ex21) ?_;rintro _ w20⟨u4,rfl,r42,hx16⟩;have k50:=k47.tr hx16;have k52:=k49.tr hx16;have hb32:=hb31.ext hx16;have O7:=O6.ext hx16;have hz:=RV.sl r42;obtain⟨a8,cq8,rfl,-,-,-⟩:=hz;refine Zm<|Zv (Dm rfl rfl)<|Zv (Dm rfl rfl)<|Za<|Za<|nl<|Zr<|Zv (Al rfl I5 rfl (Bx.cs hb32))<|Zm<|Zm<|bS hF fun x22 Ex22 hF=>Zc (xc vo (mc rfl (mc l13_j2 (mc rfl mn)))) (zP (show RV (α:=(Uno (List (Ar 2 Int)))) _ (.agg [.slice none 0 0].toArray) (⟨[]⟩:(Uno (List (Ar 2 Int))))from⟨_,rfl,(RVo.nil (Nat.zero_le _)).rep1⟩) O7.rv Ex22) ?_;rintro _ w21⟨u5,rfl,r44,hx17⟩;have k54:=k50.tr hx17;have k56:=k52.tr hx17;have hb33:=hb32.ext hx17;have O8:=O7.ext hx17;have r46:=r42.ext hx17;have hz:=RV.sl r44;obtain⟨a9,cq9,rfl,-,-,-⟩:=hz;refine Zm<|Zv (Dm rfl rfl)<|Zv (Dm rfl rfl)<|Za<|Za<|nl<|Zr<|Zv (Al rfl I5 rfl (Bx.cs hb33))<|Zm<|bS hF fun x23 Ex23 hF=>Zc (xc vw (mc rfl (mc l13_j2 mn))) (zQ (show RV (α:=(Uno (List (Ar 2 Int)))) _ (.agg [.slice none 0 0].toArray) (⟨[]⟩:(Uno (List (Ar 2 Int))))from⟨_,rfl,(RVo.nil (Nat.zero_le _)).rep1⟩) O8.rv Ex23) ?_;rintro _ w22⟨rfl,hx18⟩;have k58:=k54.tr hx18;have k60:=k56.tr hx18;have hb34:=hb33.ext hx18;have O9:=O8.ext hx18;have r48:=r46.ext hx18;have r49:=r44.ext hx18;refine Zm<|Zv (Dm rfl rfl)<|Zv (Dm rfl rfl)<|Za<|Za<|nl<|wp_seq<|wp_seq<|bS hF fun y5 hB8 hF=>ct (fun L w=>L 152=.bool y5/\L 11=.slice a2 x9.1.length cq2/\L 13=.slice a7 z1.length cq7/\L 14=.bool z2/\L 19=.int .i64 x20/\L 20=.slice a8 x21.1.length cq8/\L 22=.slice a9 x22.1.length cq9/\L 24=.int .i64 x23.1/\w7.heap.size<=w.heap.size/\Ext w22 w) ?_ ?_
     ·refine rg<|Zm<|Zv (Dq rfl rfl)<|Zm<|Or.elim (Bool.eq_false_or_eq_true (!decide (x21.2=0))) (fun h12=>?_) (fun h12=>?_)
      ·have hB8:=Ab hB8 h12;refine Gk rfl (Ad h12)<|Gk rfl (Ad h12)<|Zv (Cg rfl h12 rfl)<|Zm<|Or.elim (Bool.eq_false_or_eq_true true) (fun h13=>?_) (fun h13=>?_)
       ·have hB8:=Ab hB8 h13;refine Gk rfl (Ad h13)<|Gk rfl (Ad h13)<|Zv (Cg rfl h13 rfl)<|Zm<|Gk rfl (Ad h13)<|Gk rfl (Ad h13)<|Gk rfl (Ad h13)<|Gk rfl (Ad h13)<|Gk rfl (Ad h13)<|Zv (Cg rfl h13 rfl)<|Zm<|Gk rfl (Ad h13)<|Gk rfl (Ad h13)<|Gk rfl (Ad h13)<|Gk rfl (Ad h13)<|Gk rfl (Ad h13)<|Gk rfl (Ad h13)<|Gk rfl (Ad h13)<|Gk rfl (Ad h13)<|Zv (Cg rfl h13 rfl)<|nl<|?_;cases hB8;refine lf<|?_;exact⟨rfl,l11_j2,l13_j2,l14_j2,rfl,rfl,rfl,rfl,k60.size,(Ext.refl _)⟩
       ·have hB8:=Ac hB8 h13;refine Gt rfl (bf h13)<|Zm<|Gt rfl (bf h13)<|Zv (Dq rfl rfl)<|Zv (DN rfl h13 rfl)<|Zm<|Or.elim (Bool.eq_false_or_eq_true (!decide (x23.2=0))) (fun h14=>?_) (fun h14=>?_)
        ·have hB8:=Ab hB8 h14;refine Gk rfl (Ad h14)<|Gk rfl (Ad h14)<|Gk rfl (Ad h14)<|Gk rfl (Ad h14)<|Gk rfl (Ad h14)<|Zv (Cg rfl h14 rfl)<|Zm<|Gt rfl (bf h13)<|Zm<|Gt rfl (bf h13)<|Zv (Ao rfl Tryz.underlying41)<|Gt rfl (bf h13)<|Zm<|Gt rfl (bf h13)<|Zm<|bS hB8 fun x25 Ex25 hB8=>?_;have hz:=(RV.els O9.rv).ix Ex25;obtain⟨b9,f1,cs5,e4,i8,i9,q6,hc4⟩:=hz;cases e4;obtain⟨a10,cq10,rfl,p2,q7,e5⟩:=q6;refine Gt rfl (bf h13)<|Zv (Aj l13_j2 rfl Tryz.underlying78 Cy i8 i9)<|Gt rfl (bf h13)<|Zv (AR rfl Cy (hc4.at 0 rfl))<|Gt rfl (bf h13)<|Zv (Ao rfl Tryz.underlying41)<|Gt rfl (bf h13)<|Zv (Dq rfl rfl)<|Zv (DN rfl h13 rfl)<|nl<|?_;cases hB8;refine lf<|?_;exact⟨rfl,l11_j2,l13_j2,l14_j2,rfl,rfl,rfl,rfl,k60.size,(Ext.refl _)⟩
        ·have hB8:=Ac hB8 h14;refine Gt rfl (bf h14)<|Zv (Al rfl I5 rfl (Bx.cs hb34))<|Gt rfl (bf h14)<|Zm<|Gt rfl (bf h14)<|Zm<|bS hB8 fun x26 Ex26 hB8=>Gt rfl (bf h14)<|Zc (xc eP (mc rfl (mc l13_j2 (mc rfl mn)))) (oq (show RV (α:=(Uno (List (Ar 2 Int)))) _ (.agg [.slice none 0 0].toArray) (⟨[]⟩:(Uno (List (Ar 2 Int))))from⟨_,rfl,(RVo.nil (Nat.zero_le _)).rep1⟩) O9.rv r48 Ex26) ?_;rintro _ w24⟨rfl,hx20⟩;have k68:=k60.tr hx20;have O11:=O9.ext hx20;refine Gt rfl (bf h14)<|Zv (Dq rfl rfl)<|Zv (DN rfl h14 rfl)<|Zm<|Or.elim (Bool.eq_false_or_eq_true (!decide (x26=0))) (fun h15=>?_) (fun h15=>?_)
         ·have hB8:=Ab hB8 h15;refine Gk rfl (Ad h15)<|Gk rfl (Ad h15)<|Gk rfl (Ad h15)<|Gk rfl (Ad h15)<|Gk rfl (Ad h15)<|Gk rfl (Ad h15)<|Gk rfl (Ad h15)<|Gk rfl (Ad h15)<|Zv (Cg rfl h15 rfl)<|nl<|?_;cases hB8;refine lf<|?_;exact⟨rfl,l11_j2,l13_j2,l14_j2,rfl,rfl,rfl,rfl,k68.size,hx20⟩
         ·have hB8:=Ac hB8 h15;refine Gt rfl (bf h15)<|Zm<|Gt rfl (bf h15)<|Zv (Ao rfl Tryz.underlying41)<|Gt rfl (bf h15)<|Zm<|Gt rfl (bf h15)<|Zm<|bS hB8 fun x27 Ex27 hB8=>?_;have hz:=(RV.els O11.rv).ix Ex27;obtain⟨b10,f2,cs6,e6,i10,i11,q8,hc5⟩:=hz;cases e6;obtain⟨a11,cq11,rfl,p3,q9,e7⟩:=q8;refine Gt rfl (bf h15)<|Zv (Aj l13_j2 rfl Tryz.underlying78 Cy i10 i11)<|Gt rfl (bf h15)<|Zv (AR rfl Cy (hc5.at 0 rfl))<|Gt rfl (bf h15)<|Zv (Ao rfl Tryz.underlying41)<|Gt rfl (bf h15)<|Zv (Dq rfl rfl)<|Zv (DN rfl h15 rfl)<|nl<|?_;cases hB8;refine lf<|?_;exact⟨rfl,l11_j2,l13_j2,l14_j2,rfl,rfl,rfl,rfl,k68.size,hx20⟩
      ·have hB8:=Ac hB8 h12;refine Gt rfl (bf h12)<|Zm<|Gt rfl (bf h12)<|Zv (Dq rfl rfl)<|Zv (DN rfl h12 rfl)<|Zm<|Or.elim (Bool.eq_false_or_eq_true (!decide (x22.2=0))) (fun h16=>?_) (fun h16=>?_)
       ·have hB8:=Ab hB8 h16;refine Gk rfl (Ad h16)<|Gk rfl (Ad h16)<|Zv (Cg rfl h16 rfl)<|Zm<|Or.elim (Bool.eq_false_or_eq_true true) (fun h17=>?_) (fun h17=>?_)
        ·have hB8:=Ab hB8 h17;refine Gk rfl (Ad h17)<|Gk rfl (Ad h17)<|Gk rfl (Ad h17)<|Gk rfl (Ad h17)<|Gk rfl (Ad h17)<|Zv (Cg rfl h17 rfl)<|Zm<|Gk rfl (Ad h17)<|Gk rfl (Ad h17)<|Gk rfl (Ad h17)<|Gk rfl (Ad h17)<|Gk rfl (Ad h17)<|Gk rfl (Ad h17)<|Gk rfl (Ad h17)<|Gk rfl (Ad h17)<|Zv (Cg rfl h17 rfl)<|nl<|?_;cases hB8;refine lf<|?_;exact⟨rfl,l11_j2,l13_j2,l14_j2,rfl,rfl,rfl,rfl,k60.size,(Ext.refl _)⟩
        ·have hB8:=Ac hB8 h17;refine Gt rfl (bf h17)<|Zv (Al rfl I5 rfl (Bx.cs hb34))<|Gt rfl (bf h17)<|Zm<|Gt rfl (bf h17)<|Zm<|bS hB8 fun x28 Ex28 hB8=>Gt rfl (bf h17)<|Zc (xc eP (mc rfl (mc l13_j2 (mc rfl mn)))) (oq (show RV (α:=(Uno (List (Ar 2 Int)))) _ (.agg [.slice none 0 0].toArray) (⟨[]⟩:(Uno (List (Ar 2 Int))))from⟨_,rfl,(RVo.nil (Nat.zero_le _)).rep1⟩) O9.rv r48 Ex28) ?_;rintro _ w25⟨rfl,hx21⟩;have k72:=k60.tr hx21;have O12:=O9.ext hx21;refine Gt rfl (bf h17)<|Zv (Dq rfl rfl)<|Zv (DN rfl h17 rfl)<|Zm<|Or.elim (Bool.eq_false_or_eq_true (!decide (x28=0))) (fun h18=>?_) (fun h18=>?_)
         ·have hB8:=Ab hB8 h18;refine Gk rfl (Ad h18)<|Gk rfl (Ad h18)<|Gk rfl (Ad h18)<|Gk rfl (Ad h18)<|Gk rfl (Ad h18)<|Gk rfl (Ad h18)<|Gk rfl (Ad h18)<|Gk rfl (Ad h18)<|Zv (Cg rfl h18 rfl)<|nl<|?_;cases hB8;refine lf<|?_;exact⟨rfl,l11_j2,l13_j2,l14_j2,rfl,rfl,rfl,rfl,k72.size,hx21⟩
         ·have hB8:=Ac hB8 h18;refine Gt rfl (bf h18)<|Zm<|Gt rfl (bf h18)<|Zv (Ao rfl Tryz.underlying41)<|Gt rfl (bf h18)<|Zm<|Gt rfl (bf h18)<|Zm<|bS hB8 fun x29 Ex29 hB8=>?_;have hz:=(RV.els O12.rv).ix Ex29;obtain⟨b11,f3,cs7,e8,i12,i13,q10,hc6⟩:=hz;cases e8;obtain⟨a12,cq12,rfl,p4,q11,e9⟩:=q10;refine Gt rfl (bf h18)<|Zv (Aj l13_j2 rfl Tryz.underlying78 Cy i12 i13)<|Gt rfl (bf h18)<|Zv (AR rfl Cy (hc6.at 0 rfl))<|Gt rfl (bf h18)<|Zv (Ao rfl Tryz.underlying41)<|Gt rfl (bf h18)<|Zv (Dq rfl rfl)<|Zv (DN rfl h18 rfl)<|nl<|?_;cases hB8;refine lf<|?_;exact⟨rfl,l11_j2,l13_j2,l14_j2,rfl,rfl,rfl,rfl,k72.size,hx21⟩
       ·have hB8:=Ac hB8 h16;refine Gt rfl (bf h16)<|Zm<|Gt rfl (bf h16)<|Zv (Dq rfl rfl)<|Zv (DN rfl h16 rfl)<|Zm<|Or.elim (Bool.eq_false_or_eq_true (!decide (x23.2=0))) (fun h19=>?_) (fun h19=>?_)
        ·have hB8:=Ab hB8 h19;refine Gk rfl (Ad h19)<|Gk rfl (Ad h19)<|Gk rfl (Ad h19)<|Gk rfl (Ad h19)<|Gk rfl (Ad h19)<|Zv (Cg rfl h19 rfl)<|Zm<|Or.elim (Bool.eq_false_or_eq_true true) (fun h20=>?_) (fun h20=>?_)
         ·have hB8:=Ab hB8 h20;refine Gk rfl (Ad h20)<|Gk rfl (Ad h20)<|Gk rfl (Ad h20)<|Gk rfl (Ad h20)<|Gk rfl (Ad h20)<|Gk rfl (Ad h20)<|Gk rfl (Ad h20)<|Gk rfl (Ad h20)<|Zv (Cg rfl h20 rfl)<|nl<|?_;cases hB8;refine lf<|?_;exact⟨rfl,l11_j2,l13_j2,l14_j2,rfl,rfl,rfl,rfl,k60.size,(Ext.refl _)⟩
         ·have hB8:=Ac hB8 h20;refine Gt rfl (bf h20)<|Zm<|Gt rfl (bf h20)<|Zv (Ao rfl Tryz.underlying41)<|Gt rfl (bf h20)<|Zm<|Gt rfl (bf h20)<|Zm<|bS hB8 fun x30 Ex30 hB8=>?_;have hz:=(RV.els O9.rv).ix Ex30;obtain⟨b12,f4,cs8,e10,i14,i15,q12,hc7⟩:=hz;cases e10;obtain⟨a13,cq13,rfl,p5,q13,e11⟩:=q12;refine Gt rfl (bf h20)<|Zv (Aj l13_j2 rfl Tryz.underlying78 Cy i14 i15)<|Gt rfl (bf h20)<|Zv (AR rfl Cy (hc7.at 0 rfl))<|Gt rfl (bf h20)<|Zv (Ao rfl Tryz.underlying41)<|Gt rfl (bf h20)<|Zv (Dq rfl rfl)<|Zv (DN rfl h20 rfl)<|nl<|?_;cases hB8;refine lf<|?_;exact⟨rfl,l11_j2,l13_j2,l14_j2,rfl,rfl,rfl,rfl,k60.size,(Ext.refl _)⟩
        ·have hB8:=Ac hB8 h19;refine Gt rfl (bf h19)<|Zv (Al rfl I5 rfl (Bx.cs hb34))<|Gt rfl (bf h19)<|Zm<|Gt rfl (bf h19)<|Zm<|bS hB8 fun x31 Ex31 hB8=>Gt rfl (bf h19)<|Zc (xc eP (mc rfl (mc l13_j2 (mc rfl mn)))) (oq (show RV (α:=(Uno (List (Ar 2 Int)))) _ (.agg [.slice none 0 0].toArray) (⟨[]⟩:(Uno (List (Ar 2 Int))))from⟨_,rfl,(RVo.nil (Nat.zero_le _)).rep1⟩) O9.rv r48 Ex31) ?_;rintro _ w26⟨rfl,hx22⟩;have k76:=k60.tr hx22;have O13:=O9.ext hx22;refine Gt rfl (bf h19)<|Zv (Dq rfl rfl)<|Zv (DN rfl h19 rfl)<|Zm<|Or.elim (Bool.eq_false_or_eq_true (!decide (x31=0))) (fun h21=>?_) (fun h21=>?_)
         ·have hB8:=Ab hB8 h21;refine Gk rfl (Ad h21)<|Gk rfl (Ad h21)<|Gk rfl (Ad h21)<|Gk rfl (Ad h21)<|Gk rfl (Ad h21)<|Gk rfl (Ad h21)<|Gk rfl (Ad h21)<|Gk rfl (Ad h21)<|Zv (Cg rfl h21 rfl)<|nl<|?_;cases hB8;refine lf<|?_;exact⟨rfl,l11_j2,l13_j2,l14_j2,rfl,rfl,rfl,rfl,k76.size,hx22⟩
         ·have hB8:=Ac hB8 h21;refine Gt rfl (bf h21)<|Zm<|Gt rfl (bf h21)<|Zv (Ao rfl Tryz.underlying41)<|Gt rfl (bf h21)<|Zm<|Gt rfl (bf h21)<|Zm<|bS hB8 fun x32 Ex32 hB8=>?_;have hz:=(RV.els O13.rv).ix Ex32;obtain⟨b13,f5,cs9,e12,i16,i17,q14,hc8⟩:=hz;cases e12;obtain⟨a14,cq14,rfl,p6,q15,e13⟩:=q14;refine Gt rfl (bf h21)<|Zv (Aj l13_j2 rfl Tryz.underlying78 Cy i16 i17)<|Gt rfl (bf h21)<|Zv (AR rfl Cy (hc8.at 0 rfl))<|Gt rfl (bf h21)<|Zv (Ao rfl Tryz.underlying41)<|Gt rfl (bf h21)<|Zv (Dq rfl rfl)<|Zv (DN rfl h21 rfl)<|nl<|?_;cases hB8;refine lf<|?_;exact⟨rfl,l11_j2,l13_j2,l14_j2,rfl,rfl,rfl,rfl,k76.size,hx22⟩
     rintro L w27⟨l152_j3,l11_j3,l13_j3,l14_j3,l19_j3,l20_j3,l22_j3,l24_j3,Z0_j3,K0_j3⟩;have k78:=k58.tr K0_j3;have k80:=k60.tr K0_j3;have O14:=O9.ext K0_j3;have r68:=r48.ext K0_j3;refine cnd l152_j3 (fun h22=>?_) (fun h22=>?_)
     ·have hF:=Ab hF h22;refine Zr<|Za<|nl<|?_;cases hF;exact wp_ret<|Zw rfl rfl rfl ⟨rfl,k78⟩
     ·have hF:=Ac hF h22;refine wp_skip<|wp_seq<|wp_seq<|bS hF fun y6 hB9 hF=>ct (fun L w=>L 176=.bool y6/\L 11=.slice a2 x9.1.length cq2/\L 13=.slice a7 z1.length cq7/\L 19=.int .i64 x20/\L 20=.slice a8 x21.1.length cq8/\L 22=.slice a9 x22.1.length cq9/\w7.heap.size<=w.heap.size/\Ext w27 w) ?_ ?_
      ·refine rg<|Zm<|Zm<|Or.elim (Bool.eq_false_or_eq_true z2) (fun h23=>?_) (fun h23=>?_)
       ·have hB9:=Ab hB9 h23;refine OA rfl rfl rfl rfl l14_j3 (bt h23)<|Zm<|OA rfl rfl rfl rfl l14_j3 (bt h23)<|Zv (Ao l20_j3 Tryz.underlying85)<|OA rfl rfl rfl rfl l14_j3 (bt h23)<|Zm<|bS hB9 fun x33 Ex33 hB9=>?_;have hz:=(RV.els O14.rv).ix Ex33;obtain⟨b14,f6,cs10,e14,i18,i19,q16,hc9⟩:=hz;cases e14;obtain⟨a15,cq15,rfl,p7,q17,e15⟩:=q16;refine OA rfl rfl rfl rfl l14_j3 (bt h23)<|Zv (Aj l13_j3 rfl Tryz.underlying78 Cy i18 i19)<|OA rfl rfl rfl rfl l14_j3 (bt h23)<|Zv (AR rfl Cy (hc9.at 0 rfl))<|OA rfl rfl rfl rfl l14_j3 (bt h23)<|Zv (Ao rfl Tryz.underlying41)<|OA rfl rfl rfl rfl l14_j3 (bt h23)<|Zv (Dq rfl rfl)<|OA rfl rfl rfl rfl l14_j3 (bt h23)<|Zm<|Or.elim (Bool.eq_false_or_eq_true (!decide ((x21.1.length:Int)=(x33.length:Int)))) (fun h24=>?_) (fun h24=>?_)
        ·have hB9:=Ab hB9 h24;refine Gk rfl (Ad h24)<|Gk rfl (Ad h24)<|OA rfl rfl rfl rfl l14_j3 (bt h23)<|Zv (Cg rfl h24 rfl)<|Zv (Cg l14_j3 h23 rfl)<|Zm<|Or.elim (Bool.eq_false_or_eq_true true) (fun h25=>?_) (fun h25=>?_)
         ·have hB9:=Ab hB9 h25;refine Gk rfl (Ad h25)<|Gk rfl (Ad h25)<|Gk rfl (Ad h25)<|Gk rfl (Ad h25)<|Gk rfl bu<|Gk rfl bu<|Gk rfl bu<|Gk rfl (Ad h25)<|Zv (Cg rfl h25 rfl)<|nl<|?_;cases hB9;refine lf<|?_;exact⟨rfl,l11_j3,l13_j3,l19_j3,l20_j3,l22_j3,Z0_j3,(Ext.refl _)⟩
         ·have hB9:=Ac hB9 h25;refine Gt rfl (bf h25)<|Zm<|Gt rfl (bf h25)<|Zv (Ao l11_j3 Tryz.underlying75)<|Gt rfl (bf h25)<|Zv (IU rfl rfl)<|Gt rfl (bf h25)<|Zm<|Or.elim (Bool.eq_false_or_eq_true (decide (0<(x9.1.length:Int)))) (fun h26=>?_) (fun h26=>?_)
          ·have hB9:=Ab hB9 h26;refine Gt rfl (bt h26)<|Zm<|Gt rfl (bt h26)<|Zv (Ao l20_j3 Tryz.underlying85)<|Gt rfl (bt h26)<|Zv (BA rfl rfl)<|Gt rfl (bf h25)<|Zv (Cg rfl h26 rfl)<|Zv (DN rfl h25 rfl)<|nl<|?_;cases hB9;refine lf<|?_;exact⟨rfl,l11_j3,l13_j3,l19_j3,l20_j3,l22_j3,Z0_j3,(Ext.refl _)⟩
          ·have hB9:=Ac hB9 h26;refine Gk rfl (AX h26)<|Gk rfl (AX h26)<|Gk rfl (AX h26)<|Gt rfl (bf h25)<|Zv (DN rfl h26 rfl)<|Zv (DN rfl h25 rfl)<|nl<|?_;cases hB9;refine lf<|?_;exact⟨rfl,l11_j3,l13_j3,l19_j3,l20_j3,l22_j3,Z0_j3,(Ext.refl _)⟩
        ·have hB9:=Ac hB9 h24;refine Gt rfl (bf h24)<|Zm<|Gt rfl (bf h24)<|Zv (Dq l24_j3 rfl)<|OA rfl rfl rfl rfl l14_j3 (bt h23)<|Zv (DN rfl h24 rfl)<|Zv (Cg l14_j3 h23 rfl)<|Zm<|Or.elim (Bool.eq_false_or_eq_true (!decide (x23.1=1))) (fun h27=>?_) (fun h27=>?_)
         ·have hB9:=Ab hB9 h27;refine Gk rfl (Ad h27)<|Gk rfl (Ad h27)<|Gk rfl (Ad h27)<|Gk rfl (Ad h27)<|Gk rfl bu<|Gk rfl bu<|Gk rfl bu<|Gk rfl (Ad h27)<|Zv (Cg rfl h27 rfl)<|nl<|?_;cases hB9;refine lf<|?_;exact⟨rfl,l11_j3,l13_j3,l19_j3,l20_j3,l22_j3,Z0_j3,(Ext.refl _)⟩
         ·have hB9:=Ac hB9 h27;refine Gt rfl (bf h27)<|Zm<|Gt rfl (bf h27)<|Zv (Ao l11_j3 Tryz.underlying75)<|Gt rfl (bf h27)<|Zv (IU rfl rfl)<|Gt rfl (bf h27)<|Zm<|Or.elim (Bool.eq_false_or_eq_true (decide (0<(x9.1.length:Int)))) (fun h28=>?_) (fun h28=>?_)
          ·have hB9:=Ab hB9 h28;refine Gt rfl (bt h28)<|Zm<|Gt rfl (bt h28)<|Zv (Ao l20_j3 Tryz.underlying85)<|Gt rfl (bt h28)<|Zv (BA rfl rfl)<|Gt rfl (bf h27)<|Zv (Cg rfl h28 rfl)<|Zv (DN rfl h27 rfl)<|nl<|?_;cases hB9;refine lf<|?_;exact⟨rfl,l11_j3,l13_j3,l19_j3,l20_j3,l22_j3,Z0_j3,(Ext.refl _)⟩
          ·have hB9:=Ac hB9 h28;refine Gk rfl (AX h28)<|Gk rfl (AX h28)<|Gk rfl (AX h28)<|Gt rfl (bf h27)<|Zv (DN rfl h28 rfl)<|Zv (DN rfl h27 rfl)<|nl<|?_;cases hB9;refine lf<|?_;exact⟨rfl,l11_j3,l13_j3,l19_j3,l20_j3,l22_j3,Z0_j3,(Ext.refl _)⟩
       ·have hB9:=Ac hB9 h23;refine OB rfl rfl rfl rfl l14_j3 (AX h23) rfl<|OB rfl rfl rfl rfl l14_j3 (AX h23) rfl<|OB rfl rfl rfl rfl l14_j3 (AX h23) rfl<|OB rfl rfl rfl rfl l14_j3 (AX h23) rfl<|OB rfl rfl rfl rfl l14_j3 (AX h23) rfl<|OB rfl rfl rfl rfl l14_j3 (AX h23) rfl<|OB rfl rfl rfl rfl l14_j3 (AX h23) rfl<|OB rfl rfl rfl rfl l14_j3 (AX h23) rfl<|Gk rfl bu<|Gk rfl bu<|OB rfl rfl rfl rfl l14_j3 (AX h23) rfl<|Zv (DN l14_j3 h23 rfl)<|Zm<|Or.elim (Bool.eq_false_or_eq_true false) (fun h29=>?_) (fun h29=>?_)
        ·have hB9:=Ab hB9 h29;refine Gk rfl (Ad h29)<|Gk rfl (Ad h29)<|Gk rfl (Ad h29)<|Gk rfl (Ad h29)<|Gk rfl bu<|Gk rfl bu<|Gk rfl bu<|Gk rfl (Ad h29)<|Zv (Cg rfl h29 rfl)<|nl<|?_;cases hB9;refine lf<|?_;exact⟨rfl,l11_j3,l13_j3,l19_j3,l20_j3,l22_j3,Z0_j3,(Ext.refl _)⟩
        ·have hB9:=Ac hB9 h29;refine Gt rfl (bf h29)<|Zm<|Gt rfl (bf h29)<|Zv (Ao l11_j3 Tryz.underlying75)<|Gt rfl (bf h29)<|Zv (IU rfl rfl)<|Gt rfl (bf h29)<|Zm<|Or.elim (Bool.eq_false_or_eq_true (decide (0<(x9.1.length:Int)))) (fun h30=>?_) (fun h30=>?_)
         ·have hB9:=Ab hB9 h30;refine Gt rfl (bt h30)<|Zm<|Gt rfl (bt h30)<|Zv (Ao l20_j3 Tryz.underlying85)<|Gt rfl (bt h30)<|Zv (BA rfl rfl)<|Gt rfl (bf h29)<|Zv (Cg rfl h30 rfl)<|Zv (DN rfl h29 rfl)<|nl<|?_;cases hB9;refine lf<|?_;exact⟨rfl,l11_j3,l13_j3,l19_j3,l20_j3,l22_j3,Z0_j3,(Ext.refl _)⟩
         ·have hB9:=Ac hB9 h30;refine Gk rfl (AX h30)<|Gk rfl (AX h30)<|Gk rfl (AX h30)<|Gt rfl (bf h29)<|Zv (DN rfl h30 rfl)<|Zv (DN rfl h29 rfl)<|nl<|?_;cases hB9;refine lf<|?_;exact⟨rfl,l11_j3,l13_j3,l19_j3,l20_j3,l22_j3,Z0_j3,(Ext.refl _)⟩
      rintro L w28⟨l176_j4,l11_j4,l13_j4,l19_j4,l20_j4,l22_j4,Z0_j4,K0_j4⟩;have k82:=k78.tr K0_j4;have k84:=k80.tr K0_j4;have k86:=K0_j3.tr K0_j4;have O15:=O14.ext K0_j4;have r72:=r68.ext K0_j4;refine cnd l176_j4 (fun h31=>?_) (fun h31=>?_)
      ·have hF:=Ab hF h31;refine Zr<|Za<|nl<|?_;cases hF;exact wp_ret<|Zw rfl rfl rfl ⟨rfl,k82⟩
      ·have hF:=Ac hF h31;refine wp_skip<|wp_seq<|Zr<|Za<|nl<|bS hF fun o7 hB10 hF=>ct (fun L w=>o7=.inr ()/\w7.heap.size<=w.heap.size/\Ext w28 w) ?_ ?_
       ·refine wp_block<|lp (I:=fun m L w=>∃y7:Int,Df F x9 x20 x21 x22 z1 m y7=some o7/\L 26=.int .i64 y7/\L 11=.slice a2 x9.1.length cq2/\L 13=.slice a7 z1.length cq7/\L 19=.int .i64 x20/\L 20=.slice a8 x21.1.length cq8/\L 22=.slice a9 x22.1.length cq9/\w7.heap.size<=w.heap.size/\Ext w28 w) F ⟨_,hB10,rfl,l11_j4,l13_j4,l19_j4,l20_j4,l22_j4,Z0_j4,(Ext.refl _)⟩ ?_;rintro m L w29⟨y7,hB10,l26_i20,l11_i20,l13_i20,l19_i20,l20_i20,l22_i20,Z0_i20,K0_i20⟩;rcases m with _|m
        ·rw[Df]at hB10;cases hB10
        rw[Df]at hB10;have k87:=k82.tr K0_i20;have k89:=k84.tr K0_i20;have k91:=k86.tr K0_i20;have O16:=O15.ext K0_i20;have r75:=r72.ext K0_i20;refine wp_seq<|Zr<|Zm<|Zm<|Zv (Ao l11_i20 Tryz.underlying75)<|Zv (BA l26_i20 rfl)<|nl<|cnd rfl (fun h32=>?_) (fun h32=>?_)
        ·have hB10:=Ab hB10 h32;refine wp_skip<|wp_seq<|wp_block<|wp_seq<|FY [] (.pure true 0 (.pure true 1 (.pure true 2 (.pure true 3 (.pure false 4 (.pure true 5 (.pure true 6 (.pure true 7 (.pure true 8 (.pure false 9 (.eff 10 (.eff 11 (.pure true 12 .fin) .stop) .stop))))))))))) mixed (by kernel_rfl) (fun w30 hx23=>?_);have k93:=k87.tr hx23;have k95:=k89.tr hx23;have k97:=k91.tr hx23;have k99:=K0_i20.tr hx23;have zs1:=Nat.le_trans Z0_i20 hx23.size;have O17:=O16.ext hx23;have r78:=r75.ext hx23;refine Zn rfl<|Zn rfl<|bS hB10 fun x34 Ex34 hB10=>?_;have hz:=(RV.els r13).ix Ex34;obtain⟨b15,f7,cs11,e16,i21,i22,q18,hc10⟩:=hz;cases e16;obtain⟨_,_,rfl,⟨_,_,rfl,rfl,rfl⟩,_,_,rfl,rfl,rfl⟩:=q18;have hc11:=hc10.ext k95;refine Zp rfl (fun _=>Aj l11_i20 l26_i20 Tryz.underlying75 VD i21 i22)<|Zp rfl (fun _=>AY rfl mX)<|Zq rfl (fun _ hS=>Al rfl Bj rfl ((hc11.ext (hS.resolve_left nofun)).sub 0 2)) (Ext.refl _)<|Zn rfl<|Zn rfl<|bS hB10 fun x35 Ex35 hB10=>?_;have hz:=Fq r13 Ex35;obtain⟨cs12,i23,i24,q19,hc12⟩:=hz;obtain⟨_,_,rfl,⟨_,_,rfl,rfl,rfl⟩,_,_,rfl,rfl,rfl⟩:=q19;have hc13:=hc12.ext k95;refine Zp rfl (fun _=>Aj l11_i20 l26_i20 Tryz.underlying75 VD i23 i24)<|Zp rfl (fun _=>AY rfl mY)<|Zq rfl (fun _ hS=>Al rfl Bj rfl ((hc13.ext (hS.resolve_left nofun)).sub 2 2)) (Ext.refl _)<|Br rfl<|Ii (cs:=[.int .i64 x34.1.1,.bool x34.1.2,.int .i64 x35.2.1,.bool x35.2.2]) Tryz.underlying51 Bj rfl (pc rfl (pc rfl pn)) rfl rfl rfl rfl rfl fun b16 w31 hx24 hg5 hb35=>?_;have k100:=k93.tr hx24;have k104:=k97.tr hx24;have k106:=k99.tr hx24;have zs2:=Nat.le_trans zs1 hx24.size;have O18:=O17.ext hx24;have r81:=r78.ext hx24;have o8:Row (α:=(Int×Bool)) 56 w30.heap.size w31 (.slice (some ⟨b16,0,none⟩) 2 2) [(x34.1.1,x34.1.2),(x35.2.1,x35.2.2)]:=Row.lit hg5 hb35 rfl (ble rfl);refine nl ⟨fun _ _=>hx24,?_⟩;refine bS hB10 fun x36 Ex36 hB10=>Br rfl<|Zc (xc mh (mc rfl mn)) (uS o8.rv Ex36) ?_;rintro _ w32⟨u6,rfl,r84,hx25⟩;have k107:=k100.tr hx25;have k111:=k104.tr hx25;have k113:=k106.tr hx25;have k114:=hx24.tr hx25;have zs3:=Nat.le_trans zs2 hx25.size;have O19:=O18.ext hx25;have r86:=r81.ext hx25;have hz:=RV.sl r84.rv;obtain⟨a16,cq16,rfl,-,-,-⟩:=hz;refine nl ⟨fun _ _=>k114,?_⟩;refine Zp rfl (fun _=>Ie)<|Zr<|Za<|nl<|wp_seq<|Zr<|Za<|nl<|bS hB10 fun z3 hB12 hB10=>ct (fun L w=>L 28=.int .i64 z3/\L 11=.slice (some ⟨b15,f7,none⟩) x9.1.length cq2/\L 13=.slice a7 z1.length cq7/\L 19=.int .i64 x20/\L 20=.slice a8 x21.1.length cq8/\L 22=.slice a9 x22.1.length cq9/\L 26=.int .i64 y7/\w7.heap.size<=w.heap.size/\w31.heap.size<=w.heap.size/\Ext w32 w) ?_ ?_
         ·refine wp_block<|lp (I:=fun m L w=>∃y8:Int,∃y9:Int,Db F x20 x36 z1 m y8 y9=some z3/\L 28=.int .i64 y8/\L 29=.int .i64 y9/\L 11=.slice (some ⟨b15,f7,none⟩) x9.1.length cq2/\L 13=.slice a7 z1.length cq7/\L 19=.int .i64 x20/\L 20=.slice a8 x21.1.length cq8/\L 22=.slice a9 x22.1.length cq9/\L 26=.int .i64 y7/\L 27=.slice a16 x36.length cq16/\w7.heap.size<=w.heap.size/\w31.heap.size<=w.heap.size/\Ext w32 w) F ⟨_,_,hB12,rfl,rfl,l11_i20,l13_i20,l19_i20,l20_i20,l22_i20,l26_i20,rfl,zs3,hx25.size,(Ext.refl _)⟩ ?_;rintro m L w33⟨y8,y9,hB12,l28_i25,l29_i25,l11_i25,l13_i25,l19_i25,l20_i25,l22_i25,l26_i25,l27_i25,Z0_i25,Z1_i25,K0_i25⟩;rcases m with _|m
          ·rw[Db]at hB12;cases hB12
          rw[Db]at hB12;have O20:=O19.ext K0_i25;have r91:=r84.ext K0_i25;refine wp_seq<|Zr<|Zm<|Zv (Aw l29_i25 rfl)<|Zm<|Zm<|bS hB12 fun x37 Ex37 hB12=>?_;have hz:=(RV.els O20.rv).ix Ex37;obtain⟨b17,f8,cs13,e17,i26,i27,q20,hc14⟩:=hz;cases e17;obtain⟨a17,cq17,rfl,p8,q21,e18⟩:=q20;refine Zv (Aj l13_i25 l19_i25 Tryz.underlying78 Cy i26 i27)<|Zv (AR rfl Cy (hc14.at 0 rfl))<|Zv (Ao rfl Tryz.underlying41)<|Zv (BA rfl rfl)<|nl<|cnd rfl (fun h33=>?_) (fun h33=>?_)
          ·have hB12:=Ab hB12 h33;refine wp_skip<|wp_seq<|bS hB12 fun y10 hB14 hB12=>ct (fun L w=>L 28=.int .i64 y10/\L 11=.slice (some ⟨b15,f7,none⟩) x9.1.length cq2/\L 13=.slice (some ⟨b17,f8,none⟩) z1.length cq7/\L 19=.int .i64 x20/\L 20=.slice a8 x21.1.length cq8/\L 22=.slice a9 x22.1.length cq9/\L 26=.int .i64 y7/\L 27=.slice a16 x36.length cq16/\L 29=.int .i64 y9/\w7.heap.size<=w.heap.size/\w31.heap.size<=w.heap.size/\Ext w33 w) ?_ ?_
           ·refine wp_block<|wp_seq<|bS hB14 fun y11 hB15 hB14=>ct (fun L w=>L 229=.bool y11/\L 11=.slice (some ⟨b15,f7,none⟩) x9.1.length cq2/\L 13=.slice (some ⟨b17,f8,none⟩) z1.length cq7/\L 19=.int .i64 x20/\L 20=.slice a8 x21.1.length cq8/\L 22=.slice a9 x22.1.length cq9/\L 26=.int .i64 y7/\L 27=.slice a16 x36.length cq16/\L 28=.int .i64 y8/\L 29=.int .i64 y9/\w7.heap.size<=w.heap.size/\w31.heap.size<=w.heap.size/\Ext w33 w) ?_ ?_
            ·refine FY [] (.pure true 0 (.pure true 1 (.pure true 2 (.pure false 3 (.pure true 4 (.pure true 5 (.pure false 6 (.pure true 7 (.pure true 8 (.pure false 9 (.pure true 10 (.pure true 11 (.pure true 12 (.pure true 13 (.pure true 14 (.pure false 15 (.pure true 16 (.pure true 17 (.pure true 18 (.pure false 19 (.pure true 20 (.pure true 21 (.pure false 22 (.pure true 23 (.pure true 24 .fin))))))))))))))))))))))))) mixed (by kernel_rfl) (fun w35 hx27=>?_);have zs6:=Nat.le_trans Z0_i25 hx27.size;have zs7:=Nat.le_trans Z1_i25 hx27.size;have O22:=O20.ext hx27;have r101:=r91.ext hx27;refine Zn rfl<|Zn rfl<|bS hB15 fun x41 Ex41 hB15=>?_;have hz:=Fq O22.rv Ex41;obtain⟨cs17,i34,i35,q26,hc18⟩:=hz;obtain⟨a19,cq19,rfl,p10,q27,e22⟩:=q26;have r102:=RV.of1 p10 q27 e22;refine Zp rfl (fun _=>Aj l13_i25 l19_i25 Tryz.underlying78 Cy i34 i35)<|Zq rfl (fun _ hS=>AR rfl Cy ((hc18.ext (hS.resolve_left nofun)).at 0 rfl)) (Ext.refl _)<|Zn rfl<|bS hB15 fun x42 Ex42 hB15=>?_;have hz:=(RV.els r102).ix Ex42;obtain⟨b20,f11,cs18,e23,i36,i37,q28,hc19⟩:=hz;cases e23;obtain rfl:=q28;refine Zp rfl (fun _=>Aj rfl l29_i25 Tryz.underlying41 Aa i36 i37)<|Zq rfl (fun _ hS=>AR rfl Aa ((hc19.ext (hS.resolve_left nofun)).at 0 rfl)) (Ext.refl _)<|Zn rfl<|bS hB15 fun x43 Ex43 hB15=>?_;have hz:=(RV.els r101.rv).ix Ex43;obtain⟨b21,f12,cs19,e24,i38,i39,q29,hc20⟩:=hz;cases e24;obtain rfl:=q29;refine Zp rfl (fun _=>Aj l27_i25 rfl Tryz.underlying41 Aa i38 i39)<|Zq rfl (fun _ hS=>AR rfl Aa ((hc20.ext (hS.resolve_left nofun)).at 0 rfl)) (Ext.refl _)<|Zp rfl (fun _=>FO rfl rfl)<|Zn rfl<|Or.elim (Bool.eq_false_or_eq_true (decide (x42=x43))) (fun h34=>?_) (fun h34=>?_)
             ·have hB15:=Ab hB15 h34;refine Yt rfl (bt h34) (fun _=>CB)<|Yt rfl (bt h34) (fun _=>CB)<|bS hB15 fun x44 Ex44 hB15=>?_;have hz:=Fq O22.rv Ex44;obtain⟨cs20,i40,i41,q30,hc21⟩:=hz;obtain⟨a20,cq20,rfl,p11,q31,e25⟩:=q30;have r103:=RV.of1 p11 q31 e25;refine Yt rfl (bt h34) (fun _=>Aj l13_i25 l19_i25 Tryz.underlying78 Cy i40 i41)<|Yi rfl (bt h34) (fun _ hS=>AR rfl Cy ((hc21.ext (hS.resolve_left nofun)).at 0 rfl)) (Ext.refl _)<|Yt rfl (bt h34) (fun _=>CB)<|Yt rfl (bt h34) (fun _=>Aw l29_i25 rfl)<|bS hB15 fun x45 Ex45 hB15=>?_;have hz:=(RV.els r103).ix Ex45;obtain⟨b22,f13,cs21,e26,i42,i43,q32,hc22⟩:=hz;cases e26;obtain rfl:=q32;refine Yt rfl (bt h34) (fun _=>Aj rfl rfl Tryz.underlying41 Aa i42 i43)<|Yi rfl (bt h34) (fun _ hS=>AR rfl Aa ((hc22.ext (hS.resolve_left nofun)).at 0 rfl)) (Ext.refl _)<|Yt rfl (bt h34) (fun _=>CB)<|bS hB15 fun x46 Ex46 hB15=>?_;have hz:=Fq r101.rv Ex46;obtain⟨cs22,i44,i45,q33,hc23⟩:=hz;obtain rfl:=q33;refine Yt rfl (bt h34) (fun _=>Aj l27_i25 rfl Tryz.underlying41 Aa i44 i45)<|Yi rfl (bt h34) (fun _ hS=>AR rfl Aa ((hc23.ext (hS.resolve_left nofun)).at 0 rfl)) (Ext.refl _)<|Yt rfl (bt h34) (fun _=>FO rfl rfl)<|Zp rfl (fun _=>Cg rfl h34 rfl)<|?_;cases hB15;refine lf<|?_;exact⟨rfl,l11_i25,l13_i25,l19_i25,l20_i25,l22_i25,l26_i25,l27_i25,l28_i25,l29_i25,zs6,zs7,hx27⟩
             ·have hB15:=Ac hB15 h34;refine Yf rfl (AX h34)<|Yf rfl (AX h34)<|Yf rfl (AX h34)<|Yh rfl (AX h34) (Ext.refl _)<|Yf rfl (AX h34)<|Yf rfl (AX h34)<|Yf rfl (AX h34)<|Yh rfl (AX h34) (Ext.refl _)<|Yf rfl (AX h34)<|Yf rfl (AX h34)<|Yh rfl (AX h34) (Ext.refl _)<|Yf rfl (AX h34)<|Zp rfl (fun _=>DN rfl h34 rfl)<|?_;cases hB15;refine lf<|?_;exact⟨rfl,l11_i25,l13_i25,l19_i25,l20_i25,l22_i25,l26_i25,l27_i25,l28_i25,l29_i25,zs6,zs7,hx27⟩
            rintro L w36⟨l229_j5,l11_j5,l13_j5,l19_j5,l20_j5,l22_j5,l26_j5,l27_j5,l28_j5,l29_j5,Z0_j5,Z1_j5,K0_j5⟩;refine bS hB14 fun y12 hB16 hB14=>ct (fun L w=>L 28=.int .i64 y12/\L 11=.slice (some ⟨b15,f7,none⟩) x9.1.length cq2/\L 13=.slice (some ⟨b17,f8,none⟩) z1.length cq7/\L 19=.int .i64 x20/\L 20=.slice a8 x21.1.length cq8/\L 22=.slice a9 x22.1.length cq9/\L 26=.int .i64 y7/\L 27=.slice a16 x36.length cq16/\L 29=.int .i64 y9/\w7.heap.size<=w.heap.size/\w31.heap.size<=w.heap.size/\Ext w36 w) ?_ ?_
            ·refine cnd l229_j5 (fun h35=>?_) (fun h35=>?_)
             ·have hB16:=Ab hB16 h35;refine rg<|Zm<|Za<|nl<|?_;cases hB16;refine lf<|?_;exact⟨l29_j5,l11_j5,l13_j5,l19_j5,l20_j5,l22_j5,l26_j5,l27_j5,l29_j5,Z0_j5,Z1_j5,(Ext.refl _)⟩
             ·have hB16:=Ac hB16 h35;refine wp_skip<|?_;cases hB16;refine lf<|?_;exact⟨l28_j5,l11_j5,l13_j5,l19_j5,l20_j5,l22_j5,l26_j5,l27_j5,l29_j5,Z0_j5,Z1_j5,(Ext.refl _)⟩
            rintro L w37⟨l28_j6,l11_j6,l13_j6,l19_j6,l20_j6,l22_j6,l26_j6,l27_j6,l29_j6,Z0_j6,Z1_j6,K0_j6⟩;have k164:=K0_j5.tr K0_j6;cases hB14;refine lf<|?_;exact⟨l28_j6,l11_j6,l13_j6,l19_j6,l20_j6,l22_j6,l26_j6,l27_j6,l29_j6,Z0_j6,Z1_j6,k164⟩
           rintro L w38⟨l28_j7,l11_j7,l13_j7,l19_j7,l20_j7,l22_j7,l26_j7,l27_j7,l29_j7,Z0_j7,Z1_j7,K0_j7⟩;have k174:=K0_i25.tr K0_j7;refine rg<|Zm<|Zv (Aw l29_j7 rfl)<|Za<|nl<|lq m (Nat.lt_succ_self _)<|?_;exact⟨_,_,hB12,l28_j7,rfl,l11_j7,l13_j7,l19_j7,l20_j7,l22_j7,l26_j7,l27_j7,Z0_j7,Z1_j7,k174⟩
          ·have hB12:=Ac hB12 h33;refine wp_exit<|?_;cases hB12;refine lf<|?_;exact⟨l28_i25,l11_i25,l13_i25,l19_i25,l20_i25,l22_i25,l26_i25,Z0_i25,Z1_i25,K0_i25⟩
         rintro L w39⟨l28_j8,l11_j8,l13_j8,l19_j8,l20_j8,l22_j8,l26_j8,Z0_j8,Z1_j8,K0_j8⟩;have k175:=k107.tr K0_j8;have k179:=k111.tr K0_j8;have k181:=k113.tr K0_j8;have r117:=r86.ext K0_j8;refine wp_seq<|bS hB10 fun y13 hB20 hB10=>ct (fun L w=>L 256=.bool y13/\L 11=.slice (some ⟨b15,f7,none⟩) x9.1.length cq2/\L 13=.slice a7 z1.length cq7/\L 19=.int .i64 x20/\L 20=.slice a8 x21.1.length cq8/\L 22=.slice a9 x22.1.length cq9/\L 26=.int .i64 y7/\w7.heap.size<=w.heap.size/\w31.heap.size<=w.heap.size/\Ext w39 w) ?_ ?_
         ·refine FY [] (.pure true 0 (.pure true 1 (.pure true 2 (.pure true 3 (.pure true 4 (.pure true 5 (.pure false 6 (.pure true 7 (.pure true 8 (.pure true 9 (.pure true 10 (.pure false 11 (.pure true 12 (.pure true 13 (.pure true 14 (.pure true 15 (.pure true 16 (.pure true 17 (.pure true 19 (.pure true 20 (.pure true 21 (.pure true 22 (.eff 18 (.eff 23 (.pure true 24 (.pure true 25 .fin)) .stop) .stop))))))))))))))))))))))) mixed (by kernel_rfl) (fun w41 hx29=>?_);have k198:=k179.tr hx29;have zs10:=Nat.le_trans Z0_j8 hx29.size;have zs11:=Nat.le_trans Z1_j8 hx29.size;have r123:=r117.ext hx29;refine Zn rfl<|Zp rfl (fun _=>BA l28_j8 rfl)<|Zn rfl<|Or.elim (Bool.eq_false_or_eq_true (decide (z3<0))) (fun h36=>?_) (fun h36=>?_)
          ·have hB20:=Ab hB20 h36;refine Yf rfl (Ad h36)<|Yf rfl (Ad h36)<|Yf rfl (Ad h36)<|Yh rfl (Ad h36) (Ext.refl _)<|Yf rfl (Ad h36)<|Yf rfl (Ad h36)<|Yf rfl (Ad h36)<|Yf rfl (Ad h36)<|Yh rfl (Ad h36) (Ext.refl _)<|Yf rfl (Ad h36)<|Zp rfl (fun _=>Cg rfl h36 rfl)<|Zn rfl<|Or.elim (Bool.eq_false_or_eq_true true) (fun h37=>?_) (fun h37=>?_)
           ·have hB20:=Ab hB20 h37;refine Yf rfl (Ad h37)<|Yf rfl (Ad h37)<|Yf rfl (Ad h37)<|Yf rfl (Ad h37)<|Yf rfl (Ad h37)<|Yf rfl (Ad h37)<|Yf rfl (Ad h37)<|Br rfl<|Gk rfl (Ad h37)<|nl ⟨fun _ _=>(Ext.refl _),?_⟩;refine Br rfl<|Gk rfl (Ad h37)<|nl ⟨fun _ _=>(Ext.refl _),?_⟩;refine Yf rfl (Ad h37)<|Zp rfl (fun _=>Cg rfl h37 rfl)<|?_;cases hB20;refine lf<|?_;exact⟨rfl,l11_j8,l13_j8,l19_j8,l20_j8,l22_j8,l26_j8,zs10,zs11,hx29⟩
           ·have hB20:=Ac hB20 h37;refine Yt rfl (bf h37) (fun _=>CB)<|Yt rfl (bf h37) (fun _=>CB)<|Yt rfl (bf h37) (fun _=>CB)<|Yt rfl (bf h37) (fun _=>CB)<|Yt rfl (bf h37) (fun _=>CB)<|Yt rfl (bf h37) (fun _=>CB)<|Yt rfl (bf h37) (fun _=>Aw l28_j8 rfl)<|bS hB20 fun x47 Ex47 hB20=>Br rfl<|Gt rfl (bf h37)<|Zc (xc YF (mc l20_j8 (mc l19_j8 (mc l28_j8 mn)))) (jL r123 Ex47) ?_;rintro _ w42⟨rfl,hx30⟩;have k214:=hx29.tr hx30;have zs12:=Nat.le_trans zs10 hx30.size;have zs13:=Nat.le_trans zs11 hx30.size;have r126:=r123.ext hx30;refine nl ⟨fun _ _=>hx30,?_⟩;refine bS hB20 fun x48 Ex48 hB20=>Br rfl<|Gt rfl (bf h37)<|Zc (xc YF (mc l20_j8 (mc l19_j8 (mc rfl mn)))) (jL r126 Ex48) ?_;rintro _ w43⟨rfl,hx31⟩;have k225:=k214.tr hx31;have k226:=hx30.tr hx31;have zs14:=Nat.le_trans zs12 hx31.size;have zs15:=Nat.le_trans zs13 hx31.size;refine nl ⟨fun _ _=>k226,?_⟩;refine Yt rfl (bf h37) (fun _=>mV Tryz.underlying4 rfl rfl)<|Zp rfl (fun _=>DN rfl h37 rfl)<|?_;cases hB20;refine lf<|?_;exact⟨rfl,l11_j8,l13_j8,l19_j8,l20_j8,l22_j8,l26_j8,zs14,zs15,k225⟩
          ·have hB20:=Ac hB20 h36;refine Yt rfl (bf h36) (fun _=>CB)<|Yt rfl (bf h36) (fun _=>CB)<|bS hB20 fun x49 Ex49 hB20=>?_;have hz:=(RV.els r49).ix Ex49;obtain⟨b23,f14,cs23,e27,i46,i47,q34,hc24⟩:=hz;cases e27;obtain rfl:=q34;have hc25:=hc24.ext k198;refine Yt rfl (bf h36) (fun _=>Aj l22_j8 l28_j8 Tryz.underlying41 Aa i46 i47)<|Yi rfl (bf h36) (fun _ hS=>AR rfl Aa ((hc25.ext (hS.resolve_left nofun)).at 0 rfl)) (Ext.refl _)<|Yt rfl (bf h36) (fun _=>CB)<|Yt rfl (bf h36) (fun _=>CB)<|Yt rfl (bf h36) (fun _=>Aw l28_j8 rfl)<|bS hB20 fun x50 Ex50 hB20=>?_;have hz:=Fq r49 Ex50;obtain⟨cs24,i48,i49,q35,hc26⟩:=hz;obtain rfl:=q35;have hc27:=hc26.ext k198;refine Yt rfl (bf h36) (fun _=>Aj l22_j8 rfl Tryz.underlying41 Aa i48 i49)<|Yi rfl (bf h36) (fun _ hS=>AR rfl Aa ((hc27.ext (hS.resolve_left nofun)).at 0 rfl)) (Ext.refl _)<|Yt rfl (bf h36) (fun _=>Dq rfl rfl)<|Zp rfl (fun _=>DN rfl h36 rfl)<|Zn rfl<|Or.elim (Bool.eq_false_or_eq_true (!decide (x49=x50))) (fun h38=>?_) (fun h38=>?_)
           ·have hB20:=Ab hB20 h38;refine Yf rfl (Ad h38)<|Yf rfl (Ad h38)<|Yf rfl (Ad h38)<|Yf rfl (Ad h38)<|Yf rfl (Ad h38)<|Yf rfl (Ad h38)<|Yf rfl (Ad h38)<|Br rfl<|Gk rfl (Ad h38)<|nl ⟨fun _ _=>(Ext.refl _),?_⟩;refine Br rfl<|Gk rfl (Ad h38)<|nl ⟨fun _ _=>(Ext.refl _),?_⟩;refine Yf rfl (Ad h38)<|Zp rfl (fun _=>Cg rfl h38 rfl)<|?_;cases hB20;refine lf<|?_;exact⟨rfl,l11_j8,l13_j8,l19_j8,l20_j8,l22_j8,l26_j8,zs10,zs11,hx29⟩
           ·have hB20:=Ac hB20 h38;refine Yt rfl (bf h38) (fun _=>CB)<|Yt rfl (bf h38) (fun _=>CB)<|Yt rfl (bf h38) (fun _=>CB)<|Yt rfl (bf h38) (fun _=>CB)<|Yt rfl (bf h38) (fun _=>CB)<|Yt rfl (bf h38) (fun _=>CB)<|Yt rfl (bf h38) (fun _=>Aw l28_j8 rfl)<|bS hB20 fun x51 Ex51 hB20=>Br rfl<|Gt rfl (bf h38)<|Zc (xc YF (mc l20_j8 (mc l19_j8 (mc l28_j8 mn)))) (jL r123 Ex51) ?_;rintro _ w44⟨rfl,hx32⟩;have k237:=hx29.tr hx32;have zs16:=Nat.le_trans zs10 hx32.size;have zs17:=Nat.le_trans zs11 hx32.size;have r132:=r123.ext hx32;refine nl ⟨fun _ _=>hx32,?_⟩;refine bS hB20 fun x52 Ex52 hB20=>Br rfl<|Gt rfl (bf h38)<|Zc (xc YF (mc l20_j8 (mc l19_j8 (mc rfl mn)))) (jL r132 Ex52) ?_;rintro _ w45⟨rfl,hx33⟩;have k248:=k237.tr hx33;have k249:=hx32.tr hx33;have zs18:=Nat.le_trans zs16 hx33.size;have zs19:=Nat.le_trans zs17 hx33.size;refine nl ⟨fun _ _=>k249,?_⟩;refine Yt rfl (bf h38) (fun _=>mV Tryz.underlying4 rfl rfl)<|Zp rfl (fun _=>DN rfl h38 rfl)<|?_;cases hB20;refine lf<|?_;exact⟨rfl,l11_j8,l13_j8,l19_j8,l20_j8,l22_j8,l26_j8,zs18,zs19,k248⟩
         rintro L w46⟨l256_j9,l11_j9,l13_j9,l19_j9,l20_j9,l22_j9,l26_j9,Z0_j9,Z1_j9,K0_j9⟩;have k250:=k175.tr K0_j9;have k256:=k181.tr K0_j9;refine cnd l256_j9 (fun h39=>?_) (fun h39=>?_)
         ·have hB10:=Ab hB10 h39;refine Zr<|Za<|nl<|?_;cases hB10;have hF:=(show some _=some _ from hF);cases hF;exact wp_ret<|Zw rfl rfl rfl ⟨rfl,k250⟩
         ·have hB10:=Ac hB10 h39;refine wp_skip<|rg<|Zm<|Zv (Aw l26_j9 rfl)<|Za<|nl<|lq m (Nat.lt_succ_self _)<|?_;exact⟨_,hB10,rfl,l11_j9,l13_j9,l19_j9,l20_j9,l22_j9,Z0_j9,k256⟩
        ·have hB10:=Ac hB10 h32;refine wp_exit<|?_;cases hB10;refine lf<|?_;exact⟨rfl,Z0_i20,K0_i20⟩
       rintro L w47⟨rfl,Z0_j10,K0_j10⟩;have k260:=k82.tr K0_j10;refine Zr<|bS hF fun x53 Ex53 hF=>Zc (xc eO mn) (oo Ex53) ?_;rintro _ w48⟨rfl,hx34⟩;have k266:=k260.tr hx34;refine Za<|nl<|?_;cases hF;exact wp_ret<|Zw rfl rfl rfl ⟨rfl,k266⟩
end Go.Proofs.YtfmelbioccbdoaaGreat
end
section
namespace Go.Proofs.YtfmelbioccbdoaaGreat
open Go Go.Md Go.RowKit
section
theorem BK{n:Int}(h:-9223372036854775808<=n/\n<=9223372036854775807):AZ n=n:=IntWalk.i64_in n h
def Jq{α:Type}(l:List α)(f:α->Option Bool):Nat->Int->Option (Sum Int Unit)
 |0,_=>none
 |m+1,k=>
  if(decide (k<(l.length:Int)))=true then
   (ix l k)>>=fun x=>(f x)>>=fun b=>if b=true then some (.inl k)else Jq l f m (AZ (k+1))
  else some (.inr ())
theorem Az{α:Type}{l:List α}{k:Nat}(h:k<l.length):ix l (k:Int)=some l[k]:=by
 simp[ix,List.getElem?_eq_getElem h]
theorem NJ{α:Type}{l:List α}{f:α->Option Bool}{p:α->Bool}(hf:∀x∈l,f x=some (p x))(hl:l.length<4611686018427387904):
  ∀(m k:Nat),k<=l.length->l.length-k<m->∃r,Jq l f m (k:Int)=some r/\((l.drop k).any p=true->∃j:Nat,r=.inl (j:Int))/\((l.drop k).any p=false->r=.inr ())
 |0,k,_,h=>by omega
 |m+1,k,hk,h=>by
  unfold Jq;by_cases hlt:k<l.length
  ·have e:decide ((k:Int)<(l.length:Int))=true:=by simpa using hlt
   rw[if_pos e,Az hlt];have hd:l.drop k=l[k]::l.drop (k+1):=List.drop_eq_getElem_cons hlt;have hfx:=hf l[k] (List.getElem_mem hlt);simp only[Ah,AJ,hfx];cases hp:p l[k]with
   |true=>
    refine⟨_,if_pos rfl,fun _=>⟨k,rfl⟩,fun h=>?_⟩;rw[hd,List.any_cons,hp]at h;cases h
   |false=>
    rw[if_neg (by simp),BK (by omega)];obtain⟨r,h1,h2,h3⟩:=NJ hf hl m (k+1) (by omega) (by omega);refine⟨r,h1,?_,?_⟩<;>rw[hd,List.any_cons,hp,Bool.false_or]<;>assumption
  ·have e:¬decide ((k:Int)<(l.length:Int))=true:=by simpa using hlt
   rw[if_neg e];have:l.drop k=[]:=List.drop_of_length_le (by omega);refine⟨_,rfl,?_,fun _=>rfl⟩;rw[this];intro h;cases h
section
variable {α:Type}{f:α->Option Bool}{p:α->Bool}
theorem Xl{l:List Int}{f:Int->Option Bool}(F:Nat):∀m k,Cz F l f m k=Jq l f m k
 |0,_=>rfl
 |m+1,k=>by unfold Cz Jq;simp only[Xl F m]
theorem lG{l:List Int}{f:Int->Option Bool}{p:Int->Bool}{F:Nat}(hf:∀x∈l,f x=some (p x))(hF:l.length<F)(hl:l.length<4611686018427387904):FB F l f=some (l.any p):=by
 obtain⟨r,h1,h2,h3⟩:=NJ hf hl F 0 (Nat.zero_le _) (by omega);unfold FB Gw;rw[Xl];simp only[Int.natCast_zero,List.drop_zero]at h1 h2 h3;rw[h1];cases hp:l.any p with
 |true=>obtain⟨j,rfl⟩:=h2 hp;simp[Ah]
 |false=>obtain rfl:=h3 hp;simp[Ah]
end
def UH(lo hi n:Int):Bool:=decide (lo<=n)&&decide (n<=hi)
theorem lH{lo hi:Int}(l:List Int):(!l.any fun n=>decide (n<lo)||decide (hi<n))=l.all (UH lo hi):=by
 induction l with
 |nil=>rfl
 |cons a l ih=>
  simp only[List.any_cons,List.all_cons,Bool.not_or,ih,UH]
  congr 1
  by_cases h1:a<lo<;>by_cases h2:hi<a<;>simp[h1,h2]<;>omega
end

end Go.Proofs.YtfmelbioccbdoaaGreat
end
section
namespace Go.Proofs.YtfmelbioccbdoaaGreat
open Go Go.Md Go.RowKit
namespace Sg
abbrev To:=(Int×Int)×Int
def hi(l:List To)(p:Nat):Int:=(l[p]?.getD default).1.2
def Bd(l:List To):Prop:=∀x∈l,0<=x.1.2/\x.1.2<=10000
theorem ou{l:List To}{p:Nat}(h:p<l.length):hi l p=l[p].1.2:=by simp[hi,List.getElem?_eq_getElem h]
theorem Bd.hi{l:List To}(h:Bd l){p:Nat}(hp:p<l.length):0<=hi l p/\hi l p<=10000:=by rw[ou hp];exact h _ (List.getElem_mem hp)
theorem rset_nat{α:Type}{l:List α}{k:Nat}{x:α}:EM l (k:Int) x=l.set k x:=by simp[EM]
end Sg
end Go.Proofs.YtfmelbioccbdoaaGreat
end
section
namespace Go.Proofs.YtfmelbioccbdoaaGreat
open Go Go.Md Go.RowKit
def V9(T:Int)(r:Int×Int×Int):Bool:=UH 0 T r.1&&UH 0 T r.2.1&& !decide (r.1=r.2.1)&&UH (-100000) 100000 r.2.2
def JE(x:Int×List (Int×Int×Int)):Int:=
 if 60<x.2.length then 6 else if UH 1 20 x.1=true then(if x.2.all (V9 x.1)=true then 0 else 3)else 2
theorem lI{α:Type}{p:α->Bool}(l:List α):(l.any fun x=>!p x)=!l.all p:=by
 induction l with
 |nil=>rfl
 |cons a l ih=>simp[ih,Bool.not_and]
theorem bW{x:Int×List (Int×Int×Int)}(h:JE x=0):x.2.length<=60/\1<=x.1/\x.1<=20/\∀r∈x.2,V9 x.1 r=true:=by
 unfold JE at h;split at h
 ·cases h
 ·rename_i h1
  split at h
  ·rename_i h2
   split at h
   ·rename_i h3
    simp only[UH,Bool.and_eq_true,decide_eq_true_eq]at h2;exact⟨by omega,h2.1,h2.2,List.all_eq_true.1 h3⟩
   ·cases h
  ·cases h
def Np(n:Nat):List (Int×Int×Int):=(List.range n).flatMap fun(t:Nat)=>[(0,(t:Int)+1,100000),((t:Int)+1,0,0)]
theorem SA(n:Nat):Np (n+1)=Np n++[(0,(n:Int)+1,100000),((n:Int)+1,0,0)]:=by simp[Np,List.range_succ]
theorem bX(n:Nat):(Np n).length=2*n:=by
 induction n with
 |zero=>rfl
 |succ n ih=>rw[SA,List.length_append,ih];simp;omega
def Gl(x:Int×List (Int×Int×Int)):List (Int×Int×Int):=x.2++Np x.1.toNat
theorem GQ{α:Type}{b:Nat}{l k:List α}(h:(l.length+k.length)*b<=140737488355328):app b l k=some (l++k):=by
 unfold app;rw[if_pos h]
theorem bZ{F:Nat}{x:Int×List (Int×Int×Int)}{N:Nat}(hN:x.1=N)(h20:N<=20)(hl:x.2.length<=60):∀(m k:Nat),k<=N->N-k<m->
  K6 F x m (x.2++Np k) ((k:Int)+1)=some (x.2++Np N)
 |0,k,_,h=>by omega
 |m+1,k,hk,h=>by
  unfold K6;by_cases hlt:k<N
  ·rw[if_pos (by simp;omega)]
   have hlen:=bX k;rw[GQ (by simp only[List.length_append,List.length_cons,List.length_nil,hlen];omega)];simp only[Ah,AJ];rw[BK (by omega),List.append_assoc,<-SA];exact bZ hN h20 hl m (k+1) (by omega) (by omega)
  ·have:k=N:=by omega
   subst this;rw[if_neg (by simp;omega)]
theorem all_eq{F:Nat}(hF:100<F){x:Int×List (Int×Int×Int)}(h0:0<=x.1)(h20:x.1<=20)(hl:x.2.length<=60):Tm F x=some (Gl x):=by
 unfold Tm;rw[GQ (by simp;omega)];simp only[Ah,AJ,List.nil_append];have:=bZ (F:=F) (x:=x) (N:=x.1.toNat) (by omega) (by omega) hl F 0 (Nat.zero_le _) (by omega);simp only[Int.natCast_zero,Np,List.range_zero,List.flatMap_nil,List.append_nil,Int.zero_add]at this;rw[this]
 rfl
end Go.Proofs.YtfmelbioccbdoaaGreat
end
section
namespace Go.Proofs.YtfmelbioccbdoaaGreat
open Go Go.Md Go.RowKit
namespace Sg
theorem UI{l:List (Int×Int)}{f:(Int×Int)->Option Bool}(F:Nat):∀m k,CG F l f m k=Jq l f m k
 |0,_=>rfl
 |m+1,k=>by unfold CG Jq;simp only[UI F m]
theorem bg{l:List (Int×Int)}{f:(Int×Int)->Option Bool}{p:(Int×Int)->Bool}{F:Nat}(hf:∀x∈l,f x=some (p x))(hF:l.length<F)(hl:l.length<4611686018427387904):DJ F l f=some (l.any p):=by
 obtain⟨r,h1,h2,h3⟩:=NJ hf hl F 0 (Nat.zero_le _) (by omega);unfold DJ FQ;rw[UI];simp only[Int.natCast_zero,List.drop_zero]at h1 h2 h3;rw[h1];cases hp:l.any p with
 |true=>obtain⟨j,rfl⟩:=h2 hp;simp
 |false=>rw[h3 hp];simp
end Sg
end Go.Proofs.YtfmelbioccbdoaaGreat
end
section
namespace Go.Proofs.YtfmelbioccbdoaaGreat
open Go Go.Md Go.RowKit
namespace Jn
def Ht(e:P5):Bool:=(decide (0<=e.1.1)&&decide (e.1.1<=e.1.2)&&decide (e.1.2<=1000))&&(decide (0<=e.2)&&decide (e.2<=100000))
theorem Mg{e:P5}:Ht e=true↔(0<=e.1.1/\e.1.1<=e.1.2/\e.1.2<=1000)/\0<=e.2/\e.2<=100000:=by
 unfold Ht;simp[and_assoc]
structure VC(c:BJ):Prop where
 n1:1<=c.1.length
 n8:c.1.length<=8
 ends:∀p∈c.1,Ht p.1.1=true/\Ht p.1.2=true
 off:0<=c.2.1/\c.2.1<=1000
 step:-100000<=c.2.2.1/\c.2.2.1<=c.2.2.2/\c.2.2.2<=100000
def WA(c:BJ):Int:=
 if c.1.length<1\/8<c.1.length then 6 else if(c.1.all fun p=>Ht p.1.1&&Ht p.1.2)=false then 2 else
 if 0<=c.2.1/\c.2.1<=1000/\-100000<=c.2.2.1/\c.2.2.1<=c.2.2.2/\c.2.2.2<=100000 then 0 else 2
theorem TA{c:BJ}:WA c=0↔VC c:=by
 unfold WA;by_cases h0:c.1.length<1\/8<c.1.length
 ·rw[if_pos h0];exact⟨fun h=>by(cases h),fun h=>by(have:=h.n1;have:=h.n8;omega)⟩
 rw[if_neg h0];by_cases h1:(c.1.all fun p=>Ht p.1.1&&Ht p.1.2)=false
 ·rw[if_pos h1]
  refine⟨fun h=>by(cases h),fun h=>?_⟩;have:(c.1.all fun p=>Ht p.1.1&&Ht p.1.2)=true:=List.all_eq_true.2 fun p hp=>by have:=h.ends p hp;rw[this.1,this.2];rfl
  rw[this]at h1;cases h1
 rw[if_neg h1];by_cases h2:0<=c.2.1/\c.2.1<=1000/\-100000<=c.2.2.1/\c.2.2.1<=c.2.2.2/\c.2.2.2<=100000
 ·rw[if_pos h2]
  refine⟨fun _=>⟨by omega,by omega,fun p hp=>?_,⟨h2.1,h2.2.1⟩,h2.2.2⟩,fun _=>rfl⟩;have:=List.all_eq_true.1 (show(c.1.all fun p=>Ht p.1.1&&Ht p.1.2)=true by revert h1;cases(c.1.all fun p=>Ht p.1.1&&Ht p.1.2)<;>simp) p hp;simpa using this
 ·rw[if_neg h2];exact⟨fun h=>by(cases h),fun h=>absurd ⟨h.off.1,h.off.2,h.step⟩ h2⟩
theorem rl2{F:Nat}{c:BJ}{k:Nat}(hk:k<c.1.length)(m:Nat):Bu F c (k:Int) (m+3) 0=some (if(Ht (c.1[k]).1.1&&Ht (c.1[k]).1.2)=true then .inr ()else .inl 2):=by
 have step:∀(e:P5)(y:Int)(n:Nat),ix [(c.1[k]).1.1,(c.1[k]).1.2] y=some e->y<2->Bu F c (k:Int) (n+1) y=if Ht e=true then Bu F c (k:Int) n (AZ (y+1))else some (.inl 2):=by
  intro e y n he hy
  conv=>lhs;unfold Bu
  rw[if_pos (by simpa using hy),Az hk];simp only[Ah,AJ];rw[he];simp only[AJ,JN];unfold Ht;by_cases c1:0<=e.1.1/\e.1.1<=e.1.2/\e.1.2<=1000/\0<=e.2/\e.2<=100000
  ·rw[if_neg (by simp;omega),if_pos (by simp;omega)]
  ·rw[if_pos (by simp;omega),if_neg (by simp;omega)]
 rw[step _ 0 (m+2) rfl (by omega)];cases h0:Ht (c.1[k]).1.1 with
 |false=>rfl
 |true=>
  rw[if_pos rfl,show AZ (0+1)=1 from rfl,step _ 1 (m+1) rfl (by omega)];cases h1:Ht (c.1[k]).1.2 with
  |false=>rfl
  |true=>
   rw[if_pos rfl,show AZ (1+1)=2 from rfl];unfold Bu;rw[if_neg (by decide)];rfl
theorem rl1{F:Nat}(hF:1000<F){c:BJ}(hl:c.1.length<=1000):∀(m k:Nat),k<=c.1.length->c.1.length-k<m->
  DF F c m (k:Int)=some (if((c.1.drop k).all fun p=>Ht p.1.1&&Ht p.1.2)=true then .inr ()else .inl 2)
 |0,k,_,h=>by omega
 |m+1,k,hk,h=>by
  unfold DF;by_cases hlt:k<c.1.length
  ·obtain⟨G,rfl⟩:∃G,F=G+3:=⟨F-3,by omega⟩
   have hd:c.1.drop k=c.1[k]::c.1.drop (k+1):=List.drop_eq_getElem_cons hlt;rw[if_pos (by simpa using hlt),rl2 hlt G,hd,List.all_cons];cases Ht (c.1[k]).1.1&&Ht (c.1[k]).1.2 with
   |false=>rfl
   |true=>
    rw[if_pos rfl,Bool.true_and];simp only[Ah,AJ];rw[show AZ ((k:Int)+1)=((k+1:Nat):Int) by rw[BK (by omega)];rfl,rl1 hF hl m (k+1) (by omega) (by omega)]
  ·rw[if_neg (by simpa using hlt),List.drop_of_length_le (by omega)];rfl
theorem Xm{F:Nat}(hF:1000<F)(c:BJ):DL F c=some (WA c):=by
 unfold DL WA;by_cases h0:c.1.length<1\/8<c.1.length
 ·rw[if_pos h0,if_pos (by simp;omega)]
 ·rw[if_neg h0,if_neg (by simp;omega)]
  have:=rl1 hF (c:=c) (by omega) F 0 (by omega) (by omega);rw[show((0:Nat):Int)=0 from rfl,List.drop_zero]at this;rw[this];cases h1:c.1.all fun p=>Ht p.1.1&&Ht p.1.2 with
  |false=>rfl
  |true=>
   rw[if_pos rfl,if_neg (by simp)];simp only[Ah,AJ];by_cases h2:0<=c.2.1/\c.2.1<=1000
   ·have e1:(!((decide (c.2.1<0))||(decide (1000<c.2.1))))=true:=by simp;omega
    rw[e1];simp only[gd,cond_true,JN,AJ];by_cases h3:-100000<=c.2.2.1/\c.2.2.1<=c.2.2.2/\c.2.2.2<=100000
    ·rw[if_neg (by simp;omega),if_pos ⟨h2.1,h2.2,h3⟩]
    ·rw[if_pos (by simp;omega),if_neg (fun h=>h3 h.2.2)]
   ·have e1:(!((decide (c.2.1<0))||(decide (1000<c.2.1))))=false:=by simp;omega
    rw[e1];simp only[gd,cond_false,AJ];rw[if_pos (by simp),if_neg (fun h=>h2 ⟨h.1,h.2.1⟩)]
theorem Uy{F:Nat}{lo hi:Int}{l:List (Int×Int)}(hF:l.length<F)(hl:l.length<4611686018427387904):GV F lo hi l=some (l.all fun r=>decide (lo<=r.1)&&decide (r.1<=r.2)&&decide (r.2<=hi)):=by
 unfold GV;rw[Sg.bg (p:=fun r=>!(decide (lo<=r.1)&&decide (r.1<=r.2)&&decide (r.2<=hi))) (fun x _=>by
  unfold KY;congr 1;rw[Bool.eq_iff_iff];simp<;>omega) hF hl]
 simp only[Ah,AJ];rw[lI,Bool.not_not]
theorem uT{F:Nat}(hF:1000<F){c:BJ}(hl:c.1.length<=1000)(hv:∀p∈c.1,Ht p.1.1=true/\Ht p.1.2=true):∀(m k:Nat),k<=c.1.length->c.1.length-k<m->
  Cj F c m true (k:Int)=some true
 |0,k,_,h=>by omega
 |m+1,k,hk,h=>by
  unfold Cj;by_cases hlt:k<c.1.length
  ·have h1:=hv _ (List.getElem_mem hlt)
   have a:=Mg.1 h1.1;have b:=Mg.1 h1.2;rw[if_pos (by simpa using hlt),Az hlt];simp only[Ah,AJ,if_true];rw[Uy (by simp;omega) (by simp)];simp only[AJ,List.all_cons,List.all_nil,Bool.and_true];rw[if_pos (by simp;omega)];simp only[CZ,AJ];rw[Uy (by simp;omega) (by simp)];simp only[AJ,List.all_cons,List.all_nil,Bool.and_true];have e:((decide (0<=(c.1[k]).1.1.2)&&decide ((c.1[k]).1.1.2<=(c.1[k]).1.1.2)&&decide ((c.1[k]).1.1.2<=100000))&&(decide (0<=(c.1[k]).1.2.2)&&decide ((c.1[k]).1.2.2<=(c.1[k]).1.2.2)&&decide ((c.1[k]).1.2.2<=100000)))=true:=by simp;omega
   rw[e,show AZ ((k:Int)+1)=((k+1:Nat):Int) by rw[BK (by omega)];rfl,uT hF hl hv m (k+1) (by omega) (by omega)]
  ·rw[if_neg (by simpa using hlt)]
theorem lJ{F:Nat}(hF:1000<F){c:BJ}(h:VC c):GZ F c=some 0:=by
 unfold GZ;have h1:=h.n1;have h2:=h.n8;have h3:=h.off;have h4:=h.step;rw[if_neg (by simp only[Bool.or_eq_true,decide_eq_true_eq];omega)];simp only[CZ,Ah,AJ];rw[Uy (by simp;omega) (by simp)];simp only[AJ,List.all_cons,List.all_nil,Bool.and_true];have e:(decide (0<=c.2.1)&&decide (c.2.1<=c.2.1)&&decide (c.2.1<=1000))=true:=by simp;omega
 rw[e];simp only[gd,cond_true];rw[Uy (by simp;omega) (by simp)];simp only[AJ,List.all_cons,List.all_nil,Bool.and_true];have e:(decide (-100000<=c.2.2.1)&&decide (c.2.2.1<=c.2.2.2)&&decide (c.2.2.2<=100000))=true:=by simp;omega
 rw[e,Bool.true_and];have:=uT hF (c:=c) (by omega) h.ends F 0 (by omega) (by omega);rw[show Cj F c F true 0=some true from this]
 rfl
def Ev:Nat->List OL->List Ap
 |_,[]=>[]
 |k,p::P=>((k:Int),false)::((if p.2=true then[((k:Int),true)]else[])++Ev (k+1) P)
theorem O0:∀(P:List OL)(k:Nat),(Ev k P).length<=2*P.length
 |[],_=>by simp[Ev]
 |p::P,k=>by
  have:=O0 P (k+1);unfold Ev;cases p.2<;>simp<;>omega
theorem WB{s:Ap}:∀(P:List OL)(k:Nat),s∈Ev k P↔∃i:Nat,s.1=((k+i:Nat):Int)/\∃p,P[i]?=some p/\(s.2=true->p.2=true)
 |[],k=>by simp[Ev]
 |p::P,k=>by
  unfold Ev;rw[List.mem_cons,List.mem_append,WB P (k+1)];constructor
  ·rintro(rfl|h|⟨i,h1,q,h2,h3⟩)
   ·exact⟨0,rfl,p,rfl,fun h=>by cases h⟩
   ·cases hp:p.2 with
    |false=>rw[hp]at h;simp at h
    |true=>
     rw[hp]at h;have:s=((k:Int),true):=by simpa using h
     subst this;exact⟨0,rfl,p,rfl,fun _=>hp⟩
   ·exact⟨i+1,by rw[h1];congr 1;omega,q,by simpa using h2,h3⟩
  ·rintro⟨i,h1,q,h2,h3⟩
   cases i with
   |zero=>
    have:p=q:=by simpa using h2
    subst this;cases hs:s.2 with
    |false=>left;exact Prod.ext h1 hs
    |true=>right;left;rw[h3 hs];simp;exact Prod.ext h1 hs
   |succ i=>right;right;exact⟨i,by rw[h1];congr 1;omega,q,by simpa using h2,h3⟩
theorem ow{P:List OL}(hP:P.length<=1000):∀(m k:Nat)(st:List Ap),k<=P.length->P.length-k<m->st.length<=2*k->MN P m (k:Int) st=some (st++Ev k (P.drop k))
 |0,k,_,_,h,_=>by omega
 |m+1,k,st,hk,h,hs=>by
  unfold MN;by_cases hlt:k<P.length
  ·have hd:P.drop k=P[k]::P.drop (k+1):=List.drop_eq_getElem_cons hlt
   rw[if_pos (by simpa using hlt),Az hlt];simp only[Ah,AJ];rw[GQ (by simp;omega)];simp only[AJ];rw[show AZ ((k:Int)+1)=((k+1:Nat):Int) by rw[BK (by omega)];rfl,hd,Ev];cases(P[k]).2 with
   |true=>
    rw[if_pos rfl,GQ (by simp;omega)];simp only[AJ];rw[ow hP m (k+1) _ (by omega) (by omega) (by simp;omega)];simp
   |false=>rw[if_neg (by simp),ow hP m (k+1) _ (by omega) (by omega) (by simp;omega)];simp
  ·rw[if_neg (by simpa using hlt),List.drop_of_length_le (by omega)];simp[Ev]
def IsStep(c:BJ)(s:Ap):Prop:=∃i:Nat,s.1=(i:Int)/\∃p,c.1[i]?=some p/\(s.2=true->p.2=true)
theorem KE{c:BJ}{s:Ap}:s∈Ev 0 c.1↔IsStep c s:=by
 rw[WB];simp only[Nat.zero_add];rfl
def UJ(c:BJ)(s:Ap):P5:=if s.2=true then((ix c.1 s.1).getD default).1.2 else((ix c.1 s.1).getD default).1.1
def fin(c:BJ)(s:Ap):P5:=if s.2=true then((ix c.1 s.1).getD default).1.1 else((ix c.1 s.1).getD default).1.2
theorem IsStep.ix{c:BJ}{s:Ap}(h:IsStep c s):∃p,Md.ix c.1 s.1=some p/\p∈c.1/\(s.2=true->p.2=true):=by
 obtain⟨i,h1,p,h2,h3⟩:=h;exact⟨p,by rw[h1];simpa[Md.ix]using h2,List.mem_of_getElem? h2,h3⟩
theorem IsStep.ok{c:BJ}(hv:VC c){s:Ap}(h:IsStep c s):Ht (UJ c s)=true/\Ht (fin c s)=true:=by
 obtain⟨p,h1,h2,-⟩:=h.ix;have:=hv.ends p h2;unfold UJ fin;rw[h1];cases s.2
 ·exact this
 ·exact⟨this.2,this.1⟩
def iB(c:BJ)(e d:P5):Bool:=decide (e.1.1-d.1.2<=c.2.1)&&decide (d.1.1-e.1.2<=c.2.1)&&(decide (c.2.2.1<=d.2-e.2)&&decide (d.2-e.2<=c.2.2.2))
def fit(c:BJ)(p q:Ap):Bool:=!decide (p.1=q.1)&&iB c (fin c p) (UJ c q)
theorem oz{c:BJ}(hv:VC c){st:List Ap}{X:Em}{p q:Ap}(hp:IsStep c p)(hq:IsStep c q):V8 (c,st,X,.mk,.mk) p q=some (fit c p q):=by
 unfold V8 fit;by_cases h:p.1=q.1
 ·rw[if_neg (by simpa using h),decide_eq_true h];rfl
 ·rw[if_pos (by simpa using h),decide_eq_false h,Bool.not_false,Bool.true_and]
  obtain⟨x,hx,-,-⟩:=hp.ix;obtain⟨y,hy,-,-⟩:=hq.ix;have e1:Dr (c,st,X,.mk,.mk) p 1=some (fin c p):=by
   unfold Dr fin;rw[hx];cases p.2
   ·rfl
   ·rfl
  have e2:Dr (c,st,X,.mk,.mk) q 0=some (UJ c q):=by
   unfold Dr UJ;rw[hy];cases q.2
   ·rfl
   ·rfl
  rw[e1,e2];have a:=Mg.1 (hp.ok hv).2;have b:=Mg.1 (hq.ok hv).1;simp only[Ah,AJ];unfold HZ iB;generalize fin c p=e at a⊢;generalize UJ c q=d at b⊢;rw[BK (n:=e.1.1-d.1.2) (by omega),BK (n:=d.1.1-e.1.2) (by omega),BK (n:=d.2-e.2) (by omega)]
  congr 1
  rw[Bool.eq_iff_iff];split<;>simp<;>omega
end Jn
end Go.Proofs.YtfmelbioccbdoaaGreat
end
