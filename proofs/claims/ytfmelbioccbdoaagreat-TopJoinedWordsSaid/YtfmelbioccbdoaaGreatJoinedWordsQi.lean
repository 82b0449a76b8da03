/-
  Part 9 of 12 of what the last text stands on: lemmas about the model, pure functions, walks, laws in plain Lean; each part's own head says its condition. Merged by a program of our own.
-/
import Derived.Test.YtfmelbioccbdoaaGreatJoinedWordsQh
import Derived.Maps.RangeRun
set_option maxHeartbeats 0
set_option linter.all false
section
namespace Go.Md
open Go Go.RowKit
section
section
variable {κ ν:Type}[DecidableEq κ][Enc κ][Flat κ][Key κ][Enc ν][Flat ν]
def Rg(w:World)(r b:Nat)(l:List (κ×ν))(lf:κ->Bool):Prop:=
 ∃es clock seen,w.heap[r]?=some (.mapIter (some b) clock seen clock)/\w.heap[b]?=some (.map es clock)/\es.toList.map (fun e=>(e.key,e.val))=l.map (fun p=>(fv p.1,fv p.2))/\(l.map (·.1)).Nodup/\(∀p∈l,Key.ok p.1=true)/\
  (es.toList.map (·.born)).Nodup/\(∀e∈es.toList,e.born<clock)/\∀(i:Nat)(e:MapEntry)(p:κ×ν),es.toList[i]?=some e->l[i]?=some p->seen.contains e.born=!lf p.1
variable {w w':World}{r b:Nat}{l:List (κ×ν)}{lf:κ->Bool}
omit [DecidableEq κ]in
theorem Rg.mps(h:Rg w r b l lf):MpS w b l:=by
 obtain⟨es,c,s,_,h2,h3,h4,h5,h6,h7,_⟩:=h;exact⟨es,c,h2,h3,h4,h5,h6,h7⟩
omit [DecidableEq κ]in
theorem Rg.same(h:Rg w r b l lf)(k1:w'.heap[r]?=w.heap[r]?)(k2:w'.heap[b]?=w.heap[b]?):Rg w' r b l lf:=by
 obtain⟨es,c,s,h1,h2,h⟩:=h;exact⟨es,c,s,k1.trans h1,k2.trans h2,h⟩
omit [DecidableEq κ]in
theorem Rg.ltr(h:Rg w r b l lf):r<w.heap.size:=by
 obtain⟨es,c,s,h1,_⟩:=h;exact(Array.getElem?_eq_some_iff.1 h1).1
omit [DecidableEq κ]in
theorem Rg.ext(h:Rg w r b l lf)(k:Ext w w'):Rg w' r b l lf:=h.same (k.block r h.ltr) (k.block b h.mps.lt)
omit [DecidableEq κ]in
theorem Rg.chg{c:Nat}(h:Rg w r b l lf)(k:Chg c w w')(h1:r≠c)(h2:b≠c):Rg w' r b l lf:=h.same (k.other r h1) (k.other b h2)
omit [DecidableEq κ]in
theorem Rg.new(h:MpS w b l):Rg (w.alloc (.mapIter (some b) ((match w.heap[b]? with|some (.map _ c)=>c|_=>0)) #[] (match w.heap[b]? with|some (.map _ c)=>c|_=>0))) w.heap.size b l (fun _=>true):=by
 obtain⟨es,c,h1,h2,h3,h4,h5,h6⟩:=h;rw[h1];refine⟨es,c,#[],heap_alloc_new _ _,?_,h2,h3,h4,h5,h6,fun i e p _ _=>by simp⟩;rw[heap_alloc_old _ _ (Array.getElem?_eq_some_iff.1 h1).1];exact h1
theorem Rg.next{P:Program}{ty:TypeId}(h:Rg w r b l lf):
  ((∀p∈l,lf p.1=false)/\(Instr.next (.pointer (some ⟨r,0,none⟩)) false ty).run P w=.ok (.tuple #[.bool false]) w)\/
  ∃p w',p∈l/\lf p.1=true/\(Instr.next (.pointer (some ⟨r,0,none⟩)) false ty).run P w=.ok (.tuple #[.bool true,fv p.1,fv p.2]) w'/\BelP (fun q=>q≠r) w.heap.size w w'/\w'.heap.size=w.heap.size/\
   (Instr.entry (.pointer (some ⟨r,0,none⟩))).run P w'=.ok (.tuple #[fv p.1,fv p.2]) w'/\Rg w' r b l (fun k=>lf k&& !decide (k=p.1)):=by
 obtain⟨es,c,seen,h1,h2,h3,h4,h5,h6,h7,h8⟩:=h;have hlen:es.toList.length=l.length:=by have:=congrArg List.length h3;simpa using this
 have hrb:r≠b:=by rintro rfl;rw[h1]at h2;cases h2
 rcases run_next_at (P:=P) w ty r b c c seen es c h1 h2 h7 (Nat.le_refl _)with⟨g1,g2⟩|⟨e,he,w1,hw1,g2⟩
 ·refine .inl ⟨fun p hp=>?_,g2⟩
  obtain⟨i,hi,rfl⟩:=List.getElem_of_mem hp;have hi':i<es.toList.length:=by omega
  have:=h8 i es.toList[i] l[i] (List.getElem?_eq_getElem hi') (List.getElem?_eq_getElem hi);cases hlf:lf l[i].1 with
  |false=>rfl
  |true=>
   rw[hlf]at this;have hm:es.toList[i]∈(leftOf es seen).toList:=by
    unfold leftOf;simp only[Array.toList_filter,List.mem_filter];exact⟨List.getElem_mem _,by rw[this];rfl⟩
   have h0:(leftOf es seen).toList=[]:=by
    apply List.eq_nil_of_length_eq_zero;simpa using g1
   rw[h0]at hm;cases hm
 ·have hm:e∈es.toList/\seen.contains e.born=false:=by
   unfold leftOf at he;simp only[Array.toList_filter,List.mem_filter]at he;exact⟨he.1,by simpa using he.2⟩
  obtain⟨i,hi,rfl⟩:=List.getElem_of_mem hm.1;have hil:i<l.length:=by omega
  obtain⟨p,hp,e1,e2⟩:=Qz h3 (List.getElem?_eq_getElem hi);have hlf:=h8 i _ p (List.getElem?_eq_getElem hi) hp;rw[hm.2]at hlf;have hlt:lf p.1=true:=by
   cases h:lf p.1 with
   |true=>rfl
   |false=>rw[h]at hlf;cases hlf
  have hr1:w1.heap[r]?=some (.mapIter (some b) c seen c):=by rcases hw1 with rfl|rfl<;>exact h1
  have hb1:w1.heap[b]?=some (.map es c):=by rcases hw1 with rfl|rfl<;>exact h2
  have hrl:r<w1.heap.size:=(Array.getElem?_eq_some_iff.1 hr1).1;have hset:(ChangeMaps.setBlock w1 r (.mapIter (some b) c (seen.push es.toList[i].born) c)).heap[r]?=some (.mapIter (some b) c (seen.push es.toList[i].born) c):=by
   simp[ChangeMaps.setBlock,hrl]
  have hoth:∀q,q≠r->(ChangeMaps.setBlock w1 r (.mapIter (some b) c (seen.push es.toList[i].born) c)).heap[q]?=w.heap[q]?:=fun q hq=>by
   have:(ChangeMaps.setBlock w1 r (.mapIter (some b) c (seen.push es.toList[i].born) c)).heap[q]?=w1.heap[q]?:=by
    simp only[ChangeMaps.setBlock];rw[Array.getElem?_setIfInBounds_ne (Ne.symm hq)]
   rw[this];rcases hw1 with rfl|rfl<;>rfl
  have hsz:(ChangeMaps.setBlock w1 r (.mapIter (some b) c (seen.push es.toList[i].born) c)).heap.size=w.heap.size:=by
   simp only[ChangeMaps.setBlock,Array.size_setIfInBounds];rcases hw1 with rfl|rfl<;>rfl
  refine .inr ⟨p,_,List.mem_of_getElem? hp,hlt,by rw[<-e1,<-e2];exact g2,⟨?_,?_,?_,by rw[hsz];exact Nat.le_refl _,fun q _ hq=>hoth q hq⟩,hsz,?_,?_⟩
  ·rcases hw1 with rfl|rfl<;>rfl
  ·rcases hw1 with rfl|rfl<;>rfl
  ·rcases hw1 with rfl|rfl<;>rfl
  ·rw[<-e1,<-e2]
   exact run_entry_at _ r b c seen es c _ hset ((hoth b (Ne.symm hrb)).trans h2) hm.1 h6
  ·refine⟨es,c,_,hset,(hoth b (Ne.symm hrb)).trans h2,h3,h4,h5,h6,h7,fun j e p2 he2 hp2=>?_⟩
   have hj:=h8 j e p2 he2 hp2;by_cases hij:j=i
   ·subst hij
    rw[List.getElem?_eq_getElem hi]at he2;cases he2;rw[hp]at hp2;cases hp2;simp
   ·have hne:e.born≠es.toList[i].born:=fun eb=>by
     have h9:=List.pairwise_iff_getElem.1 h6;have hjl:j<es.toList.length:=(List.getElem?_eq_some_iff.1 he2).1;have he3:es.toList[j]=e:=by rw[List.getElem?_eq_getElem hjl]at he2;exact Option.some.inj he2
     rcases Nat.lt_or_gt_of_ne hij with h|h
     ·have:=h9 j i (by simpa using hjl) (by simpa using hi) h
      simp only[List.getElem_map]at this;rw[he3]at this;exact this eb
     ·have:=h9 i j (by simpa using hi) (by simpa using hjl) h
      simp only[List.getElem_map]at this;rw[he3]at this;exact this eb.symm
    have hnk:p2.1≠p.1:=fun ek=>by
     have h9:=List.pairwise_iff_getElem.1 h4;have hjl:j<l.length:=(List.getElem?_eq_some_iff.1 hp2).1;have hp3:l[j]=p2:=by rw[List.getElem?_eq_getElem hjl]at hp2;exact Option.some.inj hp2
     have hp4:l[i]=p:=by rw[List.getElem?_eq_getElem hil]at hp;exact Option.some.inj hp
     rcases Nat.lt_or_gt_of_ne hij with h|h
     ·have:=h9 j i (by simpa using hjl) (by simpa using hil) h
      simp only[List.getElem_map]at this;rw[hp3,hp4]at this;exact this ek
     ·have:=h9 i j (by simpa using hil) (by simpa using hjl) h
      simp only[List.getElem_map]at this;rw[hp3,hp4]at this;exact this ek.symm
    have:(seen.push es.toList[i].born).contains e.born=seen.contains e.born:=by
     have hb1:(e.born==es.toList[i].born)=false:=by simpa using hne
     have hb2:(es.toList[i].born==e.born)=false:=by simpa using Ne.symm hne
     rw[Array.contains_push];simp only[hb1,hb2,Bool.or_false,Bool.false_or]
    rw[this,hj];simp[hnk]
theorem Rg.del{P:Program}{t tk te ty:TypeId}{k:κ}(ht:P.underlying t=some (.map tk te))(K:KT P tk κ)(h:Rg w r b l lf)(hk:Key.ok k=true):
  ∃w',(Builtin.delete_ #[t,tk] ty #[.map (some b),fv k]).run P w=.ok (.tuple #[]) w'/\Chg b w w'/\Rg w' r b (Dz l k) lf:=by
 obtain⟨es,c,seen,h1,hb,he,hn,hok,hs,hc,h8⟩:=h;have hrb:r≠b:=by rintro rfl;rw[h1]at hb;cases hb
 obtain⟨lk,hlk⟩:=K.of k hk;have hok':∀p∈Dz l k,Key.ok p.1=true:=fun p hp=>hok p (OO hp);rcases Mp.find K he hok hk w with⟨g1,g2⟩|⟨j,u,g1,g2,e,g3,g4⟩
 ·obtain⟨h5,h6⟩:=J3 (w:=w) (o:=.map es c) hb
  refine⟨_,?_,h5,es,c,seen,(h5.other r hrb).trans h1,h6,?_⟩
  ·simp[Builtin.delete_,run_underlying ht,MapKept.run_getObj_map hb,K.kd.check w _ hlk,g1,MapKept.run_setObj_map _ hb,Result.andThen,ChangeMaps.setBlock]
  ·by_cases hl:l=[]
   ·subst hl
    exact⟨he,by simp[Dz],by simp[Dz],hs,hc,fun i e p _ hp=>by simp[Dz]at hp⟩
   ·obtain⟨p,hp⟩:=List.exists_mem_of_ne_nil l hl
    have hm:Dz l k=l:=(JM (d:=p.2) g2).2.2.2;rw[hm];exact⟨he,hn,hok,hs,hc,h8⟩
 ·obtain⟨h5,h6⟩:=J3 (w:=w) (o:=.map (es.eraseIdxIfInBounds j) c) hb
  have hjs:j<es.size:=(Array.getElem?_eq_some_iff.1 g3).1;have hsub:(es.eraseIdxIfInBounds j).toList=es.toList.eraseIdx j:=by
   unfold Array.eraseIdxIfInBounds;rw[dif_pos hjs];simp
  have hm:Dz l k=l.eraseIdx j:=(J2 (d:=u) hn g2).2.2.2;refine⟨_,?_,h5,_,c,seen,(h5.other r hrb).trans h1,h6,?_,L8 hn,hok',?_,?_,?_⟩
  ·simp[Builtin.delete_,run_underlying ht,MapKept.run_getObj_map hb,K.kd.check w _ hlk,g1,MapKept.run_setObj_map _ hb,Result.andThen,ChangeMaps.setBlock]
  ·rw[hm,hsub,ChangeMaps.map_eraseIdx,he,ChangeMaps.map_eraseIdx]
  ·rw[hsub,ChangeMaps.map_eraseIdx]
   exact hs.sublist (List.eraseIdx_sublist _ _)
  ·intro e he2
   rw[hsub]at he2;exact hc e (List.mem_of_mem_eraseIdx he2)
  ·intro i e p he2 hp2
   rw[hsub,List.getElem?_eraseIdx]at he2;rw[hm,List.getElem?_eraseIdx]at hp2;split at he2
   ·rename_i h;rw[if_pos h]at hp2;exact h8 i e p he2 hp2
   ·rename_i h;rw[if_neg h]at hp2;exact h8 (i+1) e p he2 hp2
theorem QW{k:κ}:∀{l:List (κ×ν)},(l.map (·.1)).Nodup->Dz l k=l.filter (fun p=>!decide (p.1=k))
 |[],_=>rfl
 |(a,c)::l,h=>by
  simp only[List.map_cons,List.nodup_cons]at h;by_cases e:a=k
  ·subst e
   have:l.filter (fun p=>!decide (p.1=a))=l:=List.filter_eq_self.2 fun p hp=>by
    have:p.1≠a:=fun e=>h.1 (List.mem_map.2 ⟨p,hp,e⟩);simp[this]
   simp[Dz,this]
  ·simp[Dz,e,QW h.2]
end
section
variable {P:Program}{Q:Exit->Act->World->Prop}{n:Nat}{L:Fr}{D:List Deferred}{w:World}{ops:Array Oper}{rest:List Oper}
variable {ty:TypeId}{pos:String}{af:Array Edge}{x y:Operand}{t tk te:TypeId}
variable {κ ν:Type}[DecidableEq κ][Enc κ][Flat κ][Key κ][Enc ν][Flat ν]
omit [DecidableEq κ]in
theorem yB{d b:Nat}{l:List (κ×ν)}(hx:ev n L x=.map (some b))(ht:P.underlying t=some (.map tk te))(h:MpS w b l)
  (cont:∀r w',Ext w w'->w.heap.size<=r->Rg w' r b l (fun _=>true)->wpList P ops Q rest (act n (upd L d (.pointer (some ⟨r,0,none⟩))) D) w'):
  wpList P ops Q ({dst:=some d,op:=.range t x,type:=ty,pos:=pos,after:=af,guard:=none}::rest) (act n L D) w:=by
 have hR:=Rg.new h;obtain⟨es,c,h1,_⟩:=h;rw[h1]at hR;exact Zv (by simp[execOp,hx,run_range_map w t tk te b es c ht h1]) (cont _ _ (Ext.alloc _ _) (Nat.le_refl _) hR)
theorem yC{d r b:Nat}{l:List (κ×ν)}{lf:κ->Bool}(hx:ev n L x=.pointer (some ⟨r,0,none⟩))(h:Rg w r b l lf)
  (h0:(∀p∈l,lf p.1=false)->wpList P ops Q rest (act n (upd L d (.tuple #[.bool false])) D) w)
  (h1:∀p w',p∈l->lf p.1=true->BelP (fun q=>q≠r) w.heap.size w w'->w'.heap.size=w.heap.size->(Instr.entry (.pointer (some ⟨r,0,none⟩))).run P w'=.ok (.tuple #[fv p.1,fv p.2]) w'->Rg w' r b l (fun k=>lf k&& !decide (k=p.1))->
   wpList P ops Q rest (act n (upd L d (.tuple #[.bool true,fv p.1,fv p.2])) D) w'):
  wpList P ops Q ({dst:=some d,op:=.next x false,type:=ty,pos:=pos,after:=af,guard:=none}::rest) (act n L D) w:=by
 rcases h.next (P:=P) (ty:=ty)with⟨g1,g2⟩|⟨p,w',g1,g2,g3,g4,g5,g6,g7⟩
 ·exact Zv (by simp[execOp,hx,g2]) (h0 g1)
 ·exact Zv (by simp[execOp,hx,g3]) (h1 p w' g1 g2 g4 g5 g6 g7)
omit [DecidableEq κ] [Key κ]in
theorem yD{d r:Nat}{k:κ}{v:ν}(hx:ev n L x=.pointer (some ⟨r,0,none⟩))(h:(Instr.entry (.pointer (some ⟨r,0,none⟩))).run P w=.ok (.tuple #[fv k,fv v]) w):
  (execOp (ev n L) {dst:=some d,op:=.entry x,type:=ty,pos:=pos,after:=af,guard:=none}).run P w=.ok (.value (.tuple #[fv k,fv v])) w:=by
 simp[execOp,hx,h]
theorem tL{r b:Nat}{l:List (κ×ν)}{lf:κ->Bool}{k:κ}(hx:ev n L x=.map (some b))(hy:ev n L y=fv k)(ht:P.underlying t=some (.map tk te))(K:KT P tk κ)(h:Rg w r b l lf)(hk:Key.ok k=true)
  (cont:∀w',Chg b w w'->Rg w' r b (Dz l k) lf->wpList P ops Q rest (act n L D) w'):
  wpList P ops Q ({dst:=none,op:=.call {callee:=.builtin .delete,args:=#[x,y],argTypes:=#[t,tk]},type:=ty,pos:=pos,after:=af,guard:=none}::rest) (act n L D) w:=by
 obtain⟨w',hr,h1,h2⟩:=h.del (P:=P) (ty:=ty) ht K hk;refine wpList_plain rfl fun K hK=>?_;simp only[Oper.wp,EX,execOp,resolve,invoke,Go.builtin,List.map_toArray,List.map_cons,List.map_nil,hx,hy,Sem.run_bind,Sem.run_pure,hr,Result.andThen,Oper.upon];exact hK _ _ (cont w' h1 h2)
end
end
end Go.Md
end
section
namespace Go.Proofs.YtfmelbioccbdoaaGreat
open Go Go.Md Go.RowKit
attribute [local irreducible] Go.wpList Go.Code.wp Go.Calls Go.Md.FN Go.Md.Mt Go.Md.Gf Go.Md.EO Go.Code.wpIn Go.wpListIn
theorem Tb.below{N B:Nat}{w w1:World}{b ma mu:Nat}{x:BV}(h:Tb N w b ma mu x)(k:Below B w w1)(hB:N<=B):Tb N w1 b ma mu x:=
 h.belp (ok:=fun _=>True) (M:=B) ⟨k.os,k.tape,k.output,k.size,fun q hq _=>k.block q hq⟩ hB (fun _ _ _ _=>trivial)
abbrev JC:=Am×Am
def MK(x:BV)(O:Ia)(i:Int)(p:Am):Nat->Nat->List JC->Option (List JC)
 |0,_,out=>some out
 |n+1,k,out=>
  (ix x.2.1 (k:Int))>>=fun to=>(L6 ((i,(k:Int)):Int×Int))>>=fun _=>
  if decide (0<A8 0 O (i,(k:Int)))=true then(app 32 out ([(p,to)]:List JC))>>=fun o=>MK x O i p n (k+1) o else MK x O i p n (k+1) out
def Lm(x:BV)(O:Ia):Nat->Nat->List JC->Option (List JC)
 |0,_,out=>some out
 |n+1,k,out=>(ix x.2.1 (k:Int))>>=fun p=>(MK x O (k:Int) p x.2.1.length 0 out)>>=fun o=>Lm x O n (k+1) o
def H6(F:Nat)(c:BB):Option (List JC×Int):=
 (Jp F c [])>>=fun o=>if(!decide (o.2=0))=true then some ([],o.2)else
 (o.1.v)>>=fun x=>(Ch x F [] (0,-1))>>=fun q=>
 if decide (q.1=0)=true then some ([],5)else
 (MJ x F q.2 [])>>=fun p=>(Lm x (p.1.filter fun z=>decide (q.1<=z.2)) x.2.1.length 0 [])>>=fun out=>some (out,0)
theorem Xb{κ ν:Type}{l:List (κ×ν)}(h:(l.map (·.1)).Nodup){p z:κ×ν}(hp:p∈l)(hz:z∈l)(e:z.1=p.1):z=p:=by
 induction l with
 |nil=>cases hp
 |cons a l ih=>
  simp only[List.map_cons,List.nodup_cons]at h;rcases List.mem_cons.1 hp with h1|h1
  ·rcases List.mem_cons.1 hz with h2|h2
   ·rw[h1,h2]
   ·exact(h.1 (List.mem_map.2 ⟨z,h2,by rw[e,h1]⟩)).elim
  ·rcases List.mem_cons.1 hz with h2|h2
   ·exact(h.1 (List.mem_map.2 ⟨p,h1,by rw[<-e,h2]⟩)).elim
   ·exact ih h.2 h1 h2
def La(O:Ia)(all:Int)(lf:Int×Int->Bool):Ia:=O.filter fun z=>lf z.1||decide (all<=z.2)
theorem ZO{O:Ia}(h:(O.map (·.1)).Nodup){all:Int}{lf:Int×Int->Bool}{p:(Int×Int)×Int}(hp:p∈O)(ha:all<=p.2):La O all lf=La O all (fun k=>lf k&& !decide (k=p.1)):=by
 refine List.filter_congr fun z hz=>?_;by_cases e:z.1=p.1
 ·obtain rfl:=Xb h hp hz e
  simp[ha]
 ·simp[e]
theorem bL{O:Ia}(h:(O.map (·.1)).Nodup){all:Int}{lf:Int×Int->Bool}{p:(Int×Int)×Int}(hp:p∈O)(ha:¬all<=p.2):Dz (La O all lf) p.1=La O all (fun k=>lf k&& !decide (k=p.1)):=by
 have hn:((La O all lf).map (·.1)).Nodup:=h.sublist (List.filter_sublist.map _);rw[QW hn];unfold La;rw[List.filter_filter];refine List.filter_congr fun z hz=>?_;by_cases e:z.1=p.1
 ·obtain rfl:=Xb h hp hz e
  simp[ha]
 ·simp[e]
theorem bM{O:Ia}{all:Int}{lf:Int×Int->Bool}(h:∀p∈La O all lf,lf p.1=false):La O all lf=O.filter fun z=>decide (all<=z.2):=by
 refine List.filter_congr fun z hz=>?_;cases hl:lf z.1 with
 |false=>simp
 |true=>
  have:=h z (List.mem_filter.2 ⟨hz,by simp[hl]⟩);rw[hl]at this;cases this
theorem bN{O:Ia}{lf:Int×Int->Bool}{p:(Int×Int)×Int}(hp:p∈O)(hl:lf p.1=true):(O.filter fun z=>lf z.1&& !decide (z.1=p.1)).length<(O.filter fun z=>lf z.1).length:=by
 have:(O.filter fun z=>lf z.1&& !decide (z.1=p.1))=(O.filter fun z=>lf z.1).filter fun z=>!decide (z.1=p.1):=by
  rw[List.filter_filter];refine List.filter_congr fun z _=>?_;cases lf z.1<;>simp
 rw[this];exact List.length_filter_lt_length_iff_exists.2 ⟨p,List.mem_filter.2 ⟨hp,hl⟩,by simp⟩
set_option maxHeartbeats 16000000 in
theorem zK{w0:World}{v0:Value}{x0:BB}(r0:RV w0 v0 x0){F:Nat}{r:List JC×Int}(hF:H6 F x0=some r):
  Calls Tryz.prog 37 [v0].toArray w0 (BN fun v w'=>∃u0:Value,v=.tuple #[u0,.int .i64 r.2]/\RV w' u0 r.1/\Ext w0 w'):=by
 unfold H6 at hF;refine bS hF fun o Eo hF=>?_;obtain⟨cs,rfl,hrep⟩:=r0;refine BK (n:=76) Tryz.func37 rfl rfl rfl<|Zr<|Cw rfl (Enc.cells hrep) fun b1 w1 hx1 hg1 hb1=>?_;have r1:RV w1 (.agg cs.toArray) x0:=RVo.ext ⟨cs,rfl,hrep⟩ hx1;refine Za<|Za<|nl<|Zr<|Zv (Ad rfl Ij (Enc.len hrep) (Bx.cs hb1))<|Zc (xc X5 (mc rfl (mc rfl mn))) (ZN r1 (RVo.nil (Nat.zero_le _)) Eo) ?_;rintro _ w2⟨u1,rfl,r7,tM,hx2⟩;have k2:=hx1.tr hx2;refine Zm<|Zv (Cq (vs:=[u1,.int .i64 o.2]) rfl rfl)<|Zv (Cq (vs:=[u1,.int .i64 o.2]) rfl rfl)<|Za<|Za<|nl<|wp_seq<|Zr<|Zm<|Zv (FH rfl rfl)<|nl<|cnd rfl (fun h3=>?_) (fun h3=>?_)
 ·have hF:=Ah hF h3
  cases hF;exact Zr<|Zm<|Za<|Za<|nl<|wp_ret<|rt rfl (.tmp rfl rfl (.tmp rfl rfl .nil)) ⟨_,rfl,RVo.nil (Nat.zero_le _),k2⟩
 have hF:=Ai hF h3;have hz:=(tM (by simpa using h3)).get;obtain⟨y,b,ma,mu,e,rfl,hT,hma,hmu,ga,gu⟩:=hz;rw[e]at hF;have hz:=Md.bs hF;obtain⟨y',Ey,hF⟩:=hz;cases Ey;have s1:=hx1.size;have s2:=hx2.size;refine bS hF fun q Eq hF=>wp_skip<|Zr<|Zm<|Zc (xc X6 (mc rfl mn)) (gT hT hma Eq) ?_;rintro _ w3⟨rfl,hm3,hp3⟩;have s3:=hp3.size;have k3:=BelP.extO k2 hp3 (fun q h=>by omega);have T3:=hT.belp hp3 (Nat.le_refl _) (fun q h1 h2 h3=>h2);have u3:=hmu.belp hp3 hmu.lt (fun e=>hT.ne e.symm);refine Za<|nl<|wp_seq<|Zr<|Zm<|Zv (FE rfl rfl)<|nl<|cnd rfl (fun hf=>?_) (fun hf=>?_)
 ·have hF:=Ah hF hf
  cases hF;exact Zr<|Za<|Za<|nl<|wp_ret<|rt rfl (.tmp rfl rfl (.tmp rfl rfl .nil)) ⟨_,rfl,RVo.nil (Nat.zero_le _),k3⟩
 have hF:=Ai hF hf;refine bS hF fun p Ep hF=>bS hF fun out0 Er hF=>?_;cases hF;refine wp_skip<|Zr<|Zm<|Zc (xc qc (mc rfl mn)) (yA T3 hm3 u3 Ep) ?_;rintro _ w4⟨bm,rfl,gm,mm,a4,u4,hp4⟩;have s4:=hp4.size;have k4:=BelP.extO k3 hp4 (fun q h=>⟨by omega,by omega⟩);have T4:=T3.belp hp4 T3.size (fun q h1 h2 h3=>⟨h2,h3⟩);have hnd:(p.1.map (·.1)).Nodup:=by obtain⟨_,_,_,_,h,_⟩:=mm;exact h
 have hN3:=hT.size;refine Za<|nl<|wp_seq<|Zr<|Zm<|yB rfl Tryz.underlying203 mm fun br w5 hx5 hg5 hR5=>nl<|?_;have k5:=k4.tr hx5;have T5:=T4.ext hx5;have s5:=hx5.size;have gbm:w3.heap.size<=bm:=gm;refine ct (fun L w=>L 4=.pointer (some ⟨b,0,none⟩)/\L 7=.map (some bm)/\MpS w bm (p.1.filter fun z=>decide (q.1<=z.2))/\Tb w2.heap.size w b ma mu y/\Ext w0 w) ?_ ?_
 ·refine wp_block<|lp (I:=fun m' L w=>∃lf:Int×Int->Bool,(p.1.filter fun z=>lf z.1).length<=m'/\Rg w br bm (La p.1 q.1 lf) lf/\L 30=.pointer (some ⟨br,0,none⟩)/\L 4=.pointer (some ⟨b,0,none⟩)/\L 6=.int .i64 q.1/\L 7=.map (some bm)/\Tb w2.heap.size w b ma mu y/\Ext w0 w) p.1.length
   ⟨fun _=>true,List.length_filter_le _ _,?_,rfl,rfl,rfl,rfl,T5,k5⟩ ?_
  ·have:La p.1 q.1 (fun _=>true)=p.1:=List.filter_eq_self.2 fun _ _=>by simp
   rw[this];exact hR5
  rintro m' L w⟨lf,hm',hR,l30,l4,l6,l7,T,hx⟩;have hs:=hx.size;have hok:=hR.mps.mp.ok;have hrl:=hR.ltr;have hbl:=hR.mps.lt;have zT:=T.size;refine Zr<|yC l30 hR (fun hd=>?_) (fun z w' hz hlz hpz hsz hent hR'=>?_)
  ·refine Zv (Cq (vs:=[.bool false]) rfl rfl)<|nl<|wp_seq<|cnd rfl (fun h=>by cases h) (fun _=>?_)
   rw[bM hd]at hR;exact wp_exit<|Md.lf ⟨l4,l7,hR.mps,T,hx⟩
  ·have hzO:z∈p.1:=(List.mem_filter.1 hz).1
   have hk:Key.ok z.1=true:=hok z hz;have hx':Ext w0 w':=hx.trans (hpz.below hs fun q h=>by omega);have T':Tb w2.heap.size w' b ma mu y:=T.belp hpz zT (fun q h1 h2 h3=>by omega);have hlt:=bN hzO hlz;refine Zv (Cq (vs:=[.bool true,fv z.1,fv z.2]) rfl rfl)<|nl<|wp_seq<|cnd rfl (fun _=>?_) (fun h=>by cases h);refine wp_skip<|wp_block<|Zr<|Zv (yD l30 hent)<|Zv (Cq (vs:=[fv z.1,fv z.2]) rfl rfl)<|Zv (Cq (vs:=[fv z.1,fv z.2]) rfl rfl)<|D5 Qu fun b8 w6 hx6 hg6 hb6=>SI (u:=z.1) rfl rfl Qu rfl hb6 rfl fun w7 hch7 hb7=>?_;have kx7:Ext w' w7:=hx6.chg hch7 hg6;have hR7:=hR'.ext kx7;refine Za<|nl<|Zr<|Zm<|Zv (Aq l6)<|Zv (BL rfl rfl)<|nl<|cnd rfl (fun hc=>?_) (fun hc=>?_)
   ·have hc:z.2<q.1:=by simpa using hc
    refine rg<|Zv (Aq l7)<|Zv (Ad rfl Qu (Flat.len z.1) (Bx.cs hb7))<|tL (k:=z.1) rfl rfl Tryz.underlying203 Uf hR7 hk fun w8 hch8 hR8=>nl ?_;rw[bL hnd hzO (by omega)]at hR8;have s7:=kx7.size;refine lq (m'-1) (by omega) ⟨_,by omega,hR8,l30,l4,l6,l7,?_,?_⟩
    ·exact(T'.ext kx7).belp (ok:=fun q=>q≠bm) (M:=w7.heap.size) (BelP.refl.chg hch8 (.inr fun h=>h rfl)) (T'.ext kx7).size (fun q h1 h2 h3=>by omega)
    ·exact(hx'.tr kx7).chg hch8 (by omega)
   ·have hc:¬z.2<q.1:=by simpa using hc
    rw[ZO hnd hzO (by omega)]at hR7;exact wp_skip<|lq (m'-1) (by omega) ⟨_,by omega,hR7,l30,l4,l6,l7,T'.ext kx7,hx'.tr kx7⟩
 clear hR5 T5;rintro L w7⟨l4,l7,mm,T7,k7⟩;generalize p.1.filter (fun z=>decide (q.1<=z.2))=O at mm Er;have hz:=T7.steps;obtain⟨aS,cs',h4,hs4⟩:=hz;have hlen:=(RVo.rv hs4).cap;have lm:=mm.lt;have z07:=k7.size;have hN7:=T7.size;have hbl:=T7.lb;refine Zr<|Za<|nl<|wp_seq<|Zr<|Zv (Aq l4)<|Zv (Bc rfl)<|Zv (AX rfl FO)<|Zv (AR rfl Jf h4)<|Zv (Ao rfl Tryz.underlying51)<|Zm<|nl<|ct (fun L w=>∃v,L 10=v/\Row 92 w7.heap.size w v out0/\Ext w0 w) ?_ ?_
 ·refine wp_block<|lp (I:=fun m' L w=>∃(k:Nat)(out:List JC)(v:Value),k+m'=y.2.1.length/\Lm y O m' k out=some out0/\L 46=.int .i64 (k:Int)/\L 45=.int .i64 (y.2.1.length:Int)/\L 44=.slice aS y.2.1.length cs'/\L 7=.map (some bm)/\L 4=.pointer (some ⟨b,0,none⟩)/\L 10=v/\
    Row 92 w7.heap.size w v out/\Below w7.heap.size w7 w) y.2.1.length
   ⟨0,[],_,by simp,Er,rfl,rfl,rfl,l7,l4,rfl,Row.nil,Below.refl _ _⟩ ?_
  clear Er l4 l7;rintro m' L w⟨i,out,v,hk,hB,l46,l45,l44,l7,l4,l10,ho,hx⟩;have zw:=hx.size;have sl:=(hs4.ext (w':=w) hx).rv;refine Zr<|Zv (BL l46 l45)<|nl<|wp_seq<|cnd rfl (fun hc0=>?_) (fun hc0=>?_)
  ·have hc0:(i:Int)<(y.2.1.length:Int):=by simpa using hc0
   obtain⟨i',rfl⟩:∃i',m'=i'+1:=⟨m'-1,by omega⟩;rw[Lm]at hB;have hz:=Md.bs hB;obtain⟨fr',Ef,hB⟩:=hz;refine bS hB fun o1 E1 hB=>?_;have hadd:AZ ((i:Int)+1)=((i+1:Nat):Int):=by
    have hmx:y.2.1.length<=maxLen:=by omega
    rw[AZ,IntWalk.i64_in _ (by unfold maxLen at hmx;omega)]
    rfl
   have hz:=(RV.els sl).ix Ef;obtain⟨bb,off,cs5,e5,i1,i2,q5,hc5⟩:=hz;obtain rfl:=Flat.iff.1 q5;refine wp_skip<|wp_seq<|wp_block<|Zr<|Zv (Aq l46)<|Zv (Al (by rw[<-e5];exact l44) l46 Tryz.underlying51 BU i1 i2)<|Zv (Ad rfl BU (Flat.len fr') hc5)<|D5 BU fun b12 w9 hx9 hg9 hb9=>Za<|SI (u:=fr') rfl rfl BU rfl hb9 rfl fun w10 hch10 hb10=>?_;have kx10:Ext w w10:=hx9.chg hch10 hg9;have s10:=kx10.size;have lo12:=hb10.lt;have hx10:=hx.trans (kx10.mono zw);have h4':w10.cell? ⟨b,4,none⟩=some (.slice aS y.2.1.length cs'):=(World.cell?_of_block (a:=⟨b,4,none⟩) (hx10.block b (by omega))).trans h4;refine nl<|Zr<|Zv (Aq l4)<|Zv (Bc rfl)<|Zv (AX rfl FO)<|Zv (AR rfl Jf h4')<|Zv (Ao rfl Tryz.underlying51)<|Zm<|nl<|ct (fun L w'=>∃v,L 46=.int .i64 (i:Int)/\L 45=.int .i64 (y.2.1.length:Int)/\L 44=.slice aS y.2.1.length cs'/\L 7=.map (some bm)/\L 4=.pointer (some ⟨b,0,none⟩)/\L 10=v/\Row 92 w7.heap.size w' v o1/\Below w7.heap.size w7 w') ?_ ?_
   ·refine wp_block<|lp (I:=fun m' L w'=>∃(k:Nat)(out:List JC)(v:Value),k+m'=y.2.1.length/\MK y O (i:Int) fr' m' k out=some o1/\L 56=.int .i64 (k:Int)/\L 55=.int .i64 (y.2.1.length:Int)/\L 54=.slice aS y.2.1.length cs'/\L 11=.int .i64 (i:Int)/\L 12=.pointer (some ⟨b12,0,none⟩)/\Bx w' b12 56 (Flat.enc fr')/\
      L 46=.int .i64 (i:Int)/\L 45=.int .i64 (y.2.1.length:Int)/\L 44=.slice aS y.2.1.length cs'/\L 7=.map (some bm)/\L 4=.pointer (some ⟨b,0,none⟩)/\L 10=v/\(∀q,v.ownBlock=some q->q≠b12)/\Row 92 w7.heap.size w' v out/\Below w7.heap.size w7 w') y.2.1.length
     ⟨0,out,v,by simp,E1,rfl,rfl,rfl,rfl,rfl,hb10,l46,l45,l44,l7,l4,l10,fun q hq e=>by have:=ho.own_lt q hq;omega,ho.ext kx10,hx10⟩ ?_
    clear E1 hb10;rintro m' L w'⟨k,out,v,hk,hB2,l56,l55,l54,l11,l12,hb12,l46,l45,l44,l7,l4,l10,hno,ho,hx⟩;have zw:=hx.size;have sl:=(hs4.ext (w':=w') hx).rv;refine Zr<|Zv (BL l56 l55)<|nl<|wp_seq<|cnd rfl (fun hc1=>?_) (fun hc1=>?_)
    ·have hc1:(k:Int)<(y.2.1.length:Int):=by simpa using hc1
     obtain⟨k',rfl⟩:∃k',m'=k'+1:=⟨m'-1,by omega⟩;rw[MK]at hB2;refine bS hB2 fun to Et hB2=>bS hB2 fun _ Ek hB2=>?_;have hkey:=Ji Ek;have hadd2:AZ ((k:Int)+1)=((k+1:Nat):Int):=by
      have hmx:y.2.1.length<=maxLen:=by omega
      rw[AZ,IntWalk.i64_in _ (by unfold maxLen at hmx;omega)]
      rfl
     have hz:=(RV.els sl).ix Et;obtain⟨bb,off,cs5,e5,i1,i2,q5,hc5⟩:=hz;obtain rfl:=Flat.iff.1 q5;refine wp_skip<|wp_seq<|wp_block<|Zr<|Zv (Aq l56)<|Zv (Al (by rw[<-e5];exact l54) l56 Tryz.underlying51 BU i1 i2)<|Zv (Ad rfl BU (Flat.len to) hc5)<|D5 BU fun b14 w9 hx9 hg9 hb9=>Za<|SI (u:=to) rfl rfl BU rfl hb9 rfl fun w10 hch10 hb10=>?_;have kx10:Ext w' w10:=hx9.chg hch10 hg9;have m10:=mm.below (hx.trans (kx10.mono zw)) lm;have d12:=hb12.ext kx10;have l12':=hb12.lt;refine nl<|Zr<|Zv (Aq l7)<|Zv (Aq l11)<|Zm<|Zv (IW (r:=[.int .i64 (i:Int),.int .i64 (k:Int)]) Qu iL (pc rfl (pc rfl pn)) rfl)<|Zv (v:=fv (A8 0 O (((i:Int),(k:Int)):Int×Int))) (YG (d:=(0:Int)) Tryz.underlying203 Uf (bG _) m10.mp hkey rfl rfl)<|Zv (Ig rfl rfl)<|nl<|cnd rfl (fun hf=>?_) (fun hf=>?_)
     ·have hB2:=Ah hB2 hf
      refine bS hB2 fun o2 Eo2 hB2=>rg<|Zv (Aq l10)<|Zv (Ad l12 BU (Flat.len fr') (Bx.cs d12))<|Zv (Ad rfl BU (Flat.len to) (Bx.cs hb10))<|Zv (IW (r:=[.int .i64 fr'.1,.bool fr'.2,.int .i64 to.1,.bool to.2]) SE mM (pc rfl (pc rfl pn)) rfl)<|Gq (cs:=[.int .i64 fr'.1,.bool fr'.2,.int .i64 to.1,.bool to.2]) Tryz.underlying75 SE rfl (pc rfl pn) rfl rfl rfl rfl rfl fun b13 w11 hx11 hg11 hb11=>?_;have o11:Row (α:=JC) 92 w10.heap.size w11 (.slice (some ⟨b13,0,none⟩) 1 1) [(fr',to)]:=Row.lit hg11 hb11 rfl (ble rfl);have s10:=kx10.size;have s11:=hx11.size;refine KY (l:=out) (k:=([(fr',to)]:List JC)) rfl rfl Tryz.underlying75 SE rfl rfl ((ho.ext kx10).ext hx11) (RV.els o11.rv) Eo2 (by omega) fun vF wF oF hBF hgF hwF=>?_;refine Za<|nl<|rg<|Zv (Aw l56 rfl)<|Zm<|nl<|lq k' (Nat.lt_succ_self _) ⟨k+1,o2,vF,by omega,hB2,congrArg _ hadd2,l55,l54,l11,l12,(d12.ext hx11).gr hgF (fun e=>hno _ e.symm rfl),l46,l45,l44,l7,l4,rfl,fun q' hq e=>?_,oF,hx.trans ((kx10.mono zw).trans ((hx11.mono (by omega)).trans hBF))⟩;rcases hwF with h|⟨g,h,hg⟩
      ·exact hno q' (h.symm.trans hq) e
      ·rw[h]at hq
       cases hq;omega
     ·have hB2:=Ai hB2 hf
      refine wp_skip<|rg<|Zv (Aw l56 rfl)<|Zm<|nl<|lq k' (Nat.lt_succ_self _) ⟨k+1,out,v,by omega,hB2,congrArg _ hadd2,l55,l54,l11,l12,d12,l46,l45,l44,l7,l4,l10,hno,ho.ext kx10,hx.trans (kx10.mono zw)⟩
    ·have hc1:¬(k:Int)<(y.2.1.length:Int):=by simpa using hc1
     obtain rfl:m'=0:=by omega
     rw[MK]at hB2;cases hB2;exact wp_exit<|lf ⟨v,l46,l45,l44,l7,l4,l10,ho,hx⟩
   ·rintro L w'⟨v,l46,l45,l44,l7,l4,l10,ho,hx⟩
    refine rg<|Zv (Aw l46 rfl)<|Zm<|nl<|lq i' (Nat.lt_succ_self _) ⟨i+1,o1,v,by omega,hB,congrArg _ hadd,l45,l44,l7,l4,l10,ho,hx⟩
  ·have hc0:¬(i:Int)<(y.2.1.length:Int):=by simpa using hc0
   obtain rfl:m'=0:=by omega
   rw[Lm]at hB;cases hB;exact wp_exit<|lf ⟨v,l10,ho,k7.trans (hx.mono z07)⟩
 rintro L w⟨v,l10,ho,hx⟩;exact Zr<|Zv (Aq l10)<|Za<|Za<|nl<|wp_ret<|rt rfl (.tmp rfl rfl (.tmp rfl rfl .nil)) ⟨_,rfl,ho.rv,hx⟩
end Go.Proofs.YtfmelbioccbdoaaGreat
end
section
namespace Go.Proofs.YtfmelbioccbdoaaGreat
open Go Go.Md Go.RowKit
def FT(F:Nat)(x0:DJ):Option Bool:=
 (gd (decide ((x0.1.length:Int)<=20)) (DF F (x0.1,x0.2.1,(x0.2.2.1,x0.2.2.2))) 0)>>=fun x2=>
 some ((decide ((x0.1.length:Int)<=20))&&(decide (x2=0)))
def EF(F:Nat)(x0:DJ)(x1:(List (Int×Bool))):Nat->Int->Option (Sum Int (Unit))
 |0,_=>none
 |m+1,y1=>
  if(decide (y1<(x1.length:Int)))=true then
   (ix x1 y1)>>=fun x5=>
   (Iq (x0.1,x0.2.1,(x0.2.2.1,x0.2.2.2)) (x5.1,x5.2))>>=fun x6=>
   if(!x6)=true then
    some (.inl 2)
   else
    EF F x0 x1 m (AZ (y1+1))
  else
   some (.inr ())
def EG(F:Nat)(x1:(List (Int×Bool)))(y2:Int):Nat->Int->Option (Sum Int (Unit))
 |0,_=>none
 |m+1,y3=>
  if(decide (y3<y2))=true then
   (ix x1 y2)>>=fun x7=>
   (ix x1 y3)>>=fun x8=>
   if(decide (x7.1=x8.1))=true then
    some (.inl 11)
   else
    EG F x1 y2 m (AZ (y3+1))
  else
   some (.inr ())
def EH(F:Nat)(x1:(List (Int×Bool))):Nat->Int->Option (Sum Int (Unit))
 |0,_=>none
 |m+1,y2=>
  if(decide (y2<(x1.length:Int)))=true then
   ((EG F x1 y2 F 0)>>=fun o=>match o with
    |.inl r=>some (.inl r)
    |.inr ()=>
     EH F x1 m (AZ (y2+1)))
  else
   some (.inr ())
def EI(F:Nat)(x0:DJ)(x1:(List (Int×Bool))):Nat->Int->Option (Sum Int (Unit))
 |0,_=>none
 |m+1,y4=>
  if(decide (y4<(x1.length:Int)))=true then
   (ix x1 (AZ (y4-1)))>>=fun x9=>
   (ix x1 y4)>>=fun x10=>
   (KA (x0.1,x0.2.1,(x0.2.2.1,x0.2.2.2)) (x9.1,x9.2) (x10.1,x10.2))>>=fun x11=>
   if(!x11)=true then
    some (.inl 18)
   else
    EI F x0 x1 m (AZ (y4+1))
  else
   some (.inr ())
def FC(F:Nat)(x0:DJ)(x1:(List (Int×Bool))):Option Int:=
 (DF F (x0.1,x0.2.1,(x0.2.2.1,x0.2.2.2)))>>=fun x3=>
 if(!decide (x3=0))=true then
  (DF F (x0.1,x0.2.1,(x0.2.2.1,x0.2.2.2)))>>=fun x4=>
  some x4
 else
  if(!decide ((x1.length:Int)=(x0.1.length:Int)))=true then
   some 15
  else
   ((EF F x0 x1 F 0)>>=fun o=>match o with
    |.inl r=>some r
    |.inr ()=>
     ((EH F x1 F 0)>>=fun o=>match o with
      |.inl r=>some r
      |.inr ()=>
       ((EI F x0 x1 F 1)>>=fun o=>match o with
        |.inl r=>some r
        |.inr ()=>
         some 0)))
def DR(F:Nat)(x1:(List (List Int)))(x2:(List (List Int))):Nat->Int->Option (Sum Int (Unit))
 |0,_=>none
 |m+1,y1=>
  if(decide (y1<(x2.length:Int)))=true then
   (ix x2 y1)>>=fun x6=>
   if(!decide ((x6.length:Int)=(x1.length:Int)))=true then
    some (.inl 15)
   else
    DR F x1 x2 m (AZ (y1+1))
  else
   some (.inr ())
def DT(F:Nat)(x1:(List (List Int)))(x2:(List (List Int)))(y2:Int):Nat->Int->Option (Sum Int (Unit))
 |0,_=>none
 |m+1,y3=>
  if(decide (y3<(x1.length:Int)))=true then
   (((ix x2 y2)>>=fun x9=>
   (ix x9 y3)>>=fun x10=>
   if(decide (x10<0))=true then
    some true
   else
    (ix x2 y2)>>=fun x11=>
    (ix x11 y3)>>=fun x12=>
    (ix x1 y3)>>=fun x13=>
    some (decide ((x13.length:Int)<=x12)):Option (Bool))>>=fun y4=>
   if y4=true then
    some (.inl 3)
   else
    DT F x1 x2 y2 m (AZ (y3+1)))
  else
   some (.inr ())
def DU(F:Nat)(x1:(List (List Int)))(x2:(List (List Int))):Nat->Int->Option (Sum Int (Unit))
 |0,_=>none
 |m+1,y2=>
  if(decide (y2<(x2.length:Int)))=true then
   ((DT F x1 x2 y2 F 0)>>=fun o=>match o with
    |.inl r=>some (.inl r)
    |.inr ()=>
     DU F x1 x2 m (AZ (y2+1)))
  else
   some (.inr ())
def DV(F:Nat)(x1:(List (List Int)))(x2:(List (List Int)))(x14:(List Int))(y5:Int):Nat->Int->Option (Sum Int (Unit))
 |0,_=>none
 |m+1,y6=>
  if(decide (y6<(x1.length:Int)))=true then
   (ix x1 y6)>>=fun x15=>
   (ix x2 y5)>>=fun x16=>
   (ix x16 y6)>>=fun x17=>
   (ix x15 x17)>>=fun x18=>
   (ix x14 x18)>>=fun x19=>
   (ix x1 0)>>=fun x20=>
   (ix x2 y5)>>=fun x21=>
   (ix x21 0)>>=fun x22=>
   (ix x20 x22)>>=fun x23=>
   (ix x14 x23)>>=fun x24=>
   if(!decide (x19=x24))=true then
    some (.inl 20)
   else
    DV F x1 x2 x14 y5 m (AZ (y6+1))
  else
   some (.inr ())
def DW(F:Nat)(x1:(List (List Int)))(x2:(List (List Int)))(x14:(List Int)):Nat->Int->Option (Sum Int (Unit))
 |0,_=>none
 |m+1,y5=>
  if(decide (y5<(x2.length:Int)))=true then
   ((DV F x1 x2 x14 y5 F 1)>>=fun o=>match o with
    |.inl r=>some (.inl r)
    |.inr ()=>
     DW F x1 x2 x14 m (AZ (y5+1)))
  else
   some (.inr ())
def DX(F:Nat)(x2:(List (List Int))):Nat->Int->Option (Sum Int (Unit))
 |0,_=>none
 |m+1,y7=>
  if(decide (y7<(x2.length:Int)))=true then
   (ix x2 (AZ (y7-1)))>>=fun x25=>
   (ix x2 y7)>>=fun x26=>
   (Jj F x25 x26)>>=fun x27=>
   if(!x27)=true then
    some (.inl 24)
   else
    DX F x2 m (AZ (y7+1))
  else
   some (.inr ())
def FU(F:Nat)(x0:(Uno (List (Ar 2 Int))))(x1:(List (List Int)))(x2:(List (List Int))):Option Int:=
 (GK F (⟨x0.v⟩:(Uno (List (Ar 2 Int)))) x1)>>=fun x4=>
 if(!decide (x4=0))=true then
  (GK F (⟨x0.v⟩:(Uno (List (Ar 2 Int)))) x1)>>=fun x5=>
  some x5
 else
  if(decide (8<(x2.length:Int)))=true then
   some 6
  else
   ((DR F x1 x2 F 0)>>=fun o=>match o with
    |.inl r=>some r
    |.inr ()=>
     ((DU F x1 x2 F 0)>>=fun o=>match o with
      |.inl r=>some r
      |.inr ()=>
       (JG F (⟨x0.v⟩:(Uno (List (Ar 2 Int)))))>>=fun x14=>
       ((DW F x1 x2 x14 F 0)>>=fun o=>match o with
        |.inl r=>some r
        |.inr ()=>
         ((DX F x2 F 1)>>=fun o=>match o with
          |.inl r=>some r
          |.inr ()=>
           some 0))))
end Go.Proofs.YtfmelbioccbdoaaGreat
end
