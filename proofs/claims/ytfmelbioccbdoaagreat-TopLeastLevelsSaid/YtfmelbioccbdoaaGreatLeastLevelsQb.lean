/-
  Part 2 of 10 of what the last text stands on: lemmas about the model, pure functions, walks, laws in plain Lean; each part's own head says its condition. Merged by a program of our own.
-/
import Derived.Test.YtfmelbioccbdoaaGreatLeastLevelsQa
import Derived.Scope
import Derived.IntWalk
import Derived.DeepKeys4
set_option maxHeartbeats 0
set_option linter.all false
section
namespace Go.Md
open Go Go.RowKit
def mks {α:Type} (bytes:Nat) (c:Int) (z:α):Option (List α):=if 0≤c∧c.toNat * bytes≤140737488355328 then some (List.replicate c.toNat z) else none
def rcopy {α:Type} (l k:List α):List α:=k.take l.length++l.drop k.length
theorem rcopy_len {α:Type} (l k:List α):(rcopy l k).length=l.length:=by
 simp only [rcopy,List.length_append,List.length_take,List.length_drop]; omega
theorem made_rep {α:Type} [Enc α] [Flat α] (hm:1≤Enc.n α) (z:α) (c:Nat):(madeCells (Flat.enc z).toArray (c * Enc.n α)).toList=(List.replicate c z).flatMap Flat.enc:=by
 have hl:=Flat.len z
 apply List.ext_getElem?
 intro j
 have hlen:((List.replicate c z).flatMap Flat.enc).length=c * Enc.n α:=by rw [Flat.flen,List.length_replicate]
 by_cases hj:j<c * Enc.n α
 ·have h1:(madeCells (Flat.enc z).toArray (c * Enc.n α)).toList[j]?=some ((Flat.enc z).toArray[j % (Flat.enc z).toArray.size]!):=by
   simp [madeCells,hj]
  have hq:j / Enc.n α<c:=Nat.div_lt_of_lt_mul (by rwa [Nat.mul_comm] at hj)
  have hr:j % Enc.n α<(Flat.enc z).length:=by rw [hl]; exact Nat.mod_lt _ hm
  have h2:=flat_at (List.replicate c z) (j / Enc.n α) z (j % Enc.n α) (Flat.enc z)[j % Enc.n α] (by rw [List.getElem?_replicate,if_pos hq]) (List.getElem?_eq_getElem hr)
  rw [show j / Enc.n α * Enc.n α + j % Enc.n α=j by rw [Nat.mul_comm]; exact Nat.div_add_mod j _] at h2
  rw [h1,h2]
  simp only [List.size_toArray,hl]
  rw [getElem!_pos _ _ (by simpa using hr)]
  simp
 ·rw [List.getElem?_eq_none (by simp [madeCells]; omega),List.getElem?_eq_none (by omega)]
theorem flat_drop {α:Type} [Enc α] [Flat α]:∀ (q:List α) (j:Nat),(q.flatMap Flat.enc).drop (j * Enc.n α)=(q.drop j).flatMap Flat.enc
 | [],j=>by simp
 | a::q,0=>by simp
 | a::q,j + 1=>by
  rw [List.flatMap_cons,List.drop_succ_cons,List.drop_append,List.drop_of_length_le (by rw [Flat.len,Nat.add_mul]; omega),Flat.len,← flat_drop q j,List.nil_append]
  congr 1
  rw [Nat.add_mul]; omega
section
variable {P:Program} {Q:Exit→Act→World→Prop} {n:Nat} {L:Fr} {D:List Deferred} {w:World} {ops:Array Oper} {rest:List Oper}
variable {ty:TypeId} {pos:String} {af:Array Edge} {dst:Option Nat} {gdd:Option (Nat×Bool)} {x y z:Operand}
variable {α:Type} [Enc α] [Flat α]
theorem smks {d:Nat} {t e:TypeId} {agg:Bool} {bytes:Nat} {zc:List Value} {kl kc:IntKind} {c:Int} {z0:α} {r:List α} (hx:ev n L x=.int kl c) (hy:ev n L y=.int kc c) (ht:P.underlying t=some (.slice e)) (he:TI P e agg (Enc.n α) bytes zc)
  (hz:zc=Flat.enc z0) (hm:Nat.ble 1 (Enc.n α)=true) (hb1:Nat.ble 1 bytes=true) (hr:mks bytes c z0=some r)
  (k:∀ b w',Ext w w'→Row e w.heap.size w' (.slice (some ⟨b,0,none⟩) r.length r.length) r→wpList P ops Q rest (act n (upd L d (.slice (some ⟨b,0,none⟩) r.length r.length)) D) w') :
  wpList P ops Q ({ dst:=some d,op:=.makeSlice t x y,type:=ty,pos:=pos,after:=af,guard:=none }::rest) (act n L D) w:=by
 subst hz
 unfold mks at hr
 split at hr
 case isFalse=>cases hr
 rename_i hc
 cases hr
 obtain ⟨h0,hb⟩:=hc
 have hm':1≤Enc.n α:=Nat.le_of_ble_eq_true hm
 have hb1':1≤bytes:=Nat.le_of_ble_eq_true hb1
 obtain ⟨i,zv,hi,hn,hby,hzz,hzc,_⟩:=he.info
 obtain ⟨C,rfl⟩:∃ C:Nat,c=(C:Int):=⟨c.toNat,by omega⟩
 simp only [Int.toNat_natCast] at hb k ⊢
 have hC:C≤C * bytes:=Nat.le_mul_of_pos_right _ hb1'
 have hmx:C≤maxLen:=by unfold maxLen; omega
 have hrun:=run_make (P:=P) w t e i zv ht hi hzz kl kc (C:Int) (C:Int) (by omega) (Int.le_refl _) (by rw [hby,← Int.natCast_mul,Nat.mul_comm]; omega) (by omega)
 simp only [Int.toNat_natCast,hzc,hn] at hrun
 have hlen:(List.replicate C z0).length=C:=List.length_replicate
 rw [hlen] at k
 refine Zv (v:=.slice (some ⟨w.heap.size,0,none⟩) C C) (w':=w.alloc (.cells (madeCells (Flat.enc z0).toArray (C * Enc.n α)) e)) (by simp [execOp,hx,hy,hrun]) (k _ _ (Ext.alloc _ _) ?_)
 refine Row.lit (Nat.le_refl _) ?_ hlen hmx
 have h1:=Bx.new w e ((List.replicate C z0).flatMap Flat.enc)
 rw [show madeCells (Flat.enc z0).toArray (C * Enc.n α)=((List.replicate C z0).flatMap Flat.enc).toArray by rw [← made_rep hm']]
 exact h1
theorem run_copy_rows (w:World) (dT sT ty elem:TypeId) (g dLen dCap:Nat) (a:Addr) (sLen sCap:Nat) (cur:Array Value) (t:TypeId) (cs:List Value) (sz:Nat)
  (hu:P.underlying dT=some (.slice elem)) (hs:(P.info? elem).map (·.size)=some sz)
  (hg:w.heap[g]?=some (.cells cur t (0,0))) (hn:cs.length=Nat.min sLen dLen * sz)
  (hsrc:∀ j v,cs[j]?=some v→w.cell? (a.add j)=some v) (hfit:cs.length≤cur.size) (h1:∀ v∈cs,v.oneCell'=true) :
  (Builtin.copy_ #[dT,sT] ty #[.slice (some ⟨g,0,none⟩) dLen dCap,.slice (some a) sLen sCap]).run P w =
   .ok (goInt (Nat.min sLen dLen)) (w.setRow g (cs++cur.toList.drop cs.length).toArray):=by
 have hl:=run_loadCells_list (P:=P) w a cs hsrc
 have hst:=run_storeCells_at P g 0 t cs 0 cur w hg (by simpa using hfit) h1
 simp only [List.take_zero,List.nil_append,Nat.zero_add,Nat.add_zero] at hst
 cases hq:P.info? elem with
 | none=>simp [hq] at hs
 | some i =>
  have hi:i.size=sz:=by simpa [hq] using hs
  simp [Builtin.copy_,run_underlying hu,Builtin.lenOf,Builtin.firstCells,sizeOf,typeInfo,hq,hi,← hn,hl,hst]
theorem scpr {d:Nat} {dT sT e:TypeId} {agg:Bool} {bytes base len cap cap2 b:Nat} {zz:List Value} {a:Option Addr} {l k:List α} (hs:ev n L x=.slice (some ⟨b,0,none⟩) len cap) (hy:ev n L y=.slice a k.length cap2)
  (ht:P.underlying dT=some (.slice e)) (he:TI P e agg (Enc.n α) bytes zz) (hr:Row e base w (.slice (some ⟨b,0,none⟩) len cap) l) (hk:RV w (.slice a k.length cap2) k)
  (cont:∀ w' c,Chg b w w'→Row e base w' (.slice (some ⟨b,0,none⟩) len cap) (rcopy l k)→wpList P ops Q rest (act n (upd L d (.int .i64 c)) D) w') :
  wpList P ops Q ({ dst:=some d,op:=.call { callee:=.builtin .copy,args:=#[x,y],argTypes:=#[dT,sT] },type:=ty,pos:=pos,after:=af,guard:=none }::rest) (act n L D) w:=by
 obtain ⟨i,v,hi,hn,_⟩:=he.info
 obtain ⟨hsz,hcase⟩:=hr
 have hlen:len=l.length:=by
  obtain ⟨_,_,e1,_⟩:=(show RV w _ l from Row.rv ⟨hsz,hcase⟩).sl
  cases e1
  rfl
 subst hlen
 rcases hcase with ⟨h,_⟩ | ⟨g,cap',cur,e1,hb,hg,hnc,hcm,hcs,htk⟩
 ·cases h
 cases e1
 rcases hk.els with rfl | ⟨b2,off2,rfl,_,_,h2⟩
 ·have hrun:(Builtin.copy_ #[dT,sT] ty #[.slice (some ⟨b,0,none⟩) l.length cap,.slice a 0 cap2]).run P w=.ok (goInt 0) w:=by
   cases a <;> simp [Builtin.copy_,run_underlying ht,Builtin.lenOf,Builtin.firstCells,sizeOf,typeInfo,hi,storeCells,loadCells,loadCellsFrom]
  refine Zv (v:=.int .i64 0) (w':=w) (by simp [execOp,resolve,invoke,Go.builtin,hs,hy,hrun,goInt]) (cont w 0 ⟨rfl,rfl,rfl,rfl,fun _ _=>rfl⟩ ?_)
  have:rcopy l ([]:List α)=l:=by simp [rcopy]
  rw [this]
  exact ⟨hsz,.inr ⟨b,cap,cur,rfl,hb,hg,hnc,hcm,hcs,htk⟩⟩
 ·have hsrc:∀ j u,((k.take l.length).flatMap Flat.enc)[j]?=some u→w.cell? ((⟨b2,off2,none⟩:Addr).add j)=some u:=by
   intro j u hj
   rw [add_mk]
   have:=news (w:=w) (b:=b2) (off:=off2) (k.take l.length) 0 (fun i x hx=>by
    rw [List.getElem?_take] at hx
    split at hx
    ·obtain ⟨cs,h3,h4⟩:=h2 i x hx
     rw [Flat.iff.1 h3] at h4
     simpa using h4
    ·cases hx) j u hj
   simpa using this
  have hone:∀ u∈(k.take l.length).flatMap Flat.enc,u.oneCell'=true:=fun u hu=>by obtain ⟨y,_,hy⟩:=List.mem_flatMap.1 hu; exact Flat.one y u hy
  have hlen2:((k.take l.length).flatMap Flat.enc).length=Nat.min k.length l.length * Enc.n α:=by rw [Flat.flen,List.length_take,Nat.min_comm]
  have hfit:((k.take l.length).flatMap Flat.enc).length≤cur.size:=by
   rw [hlen2,hcs]
   exact Nat.mul_le_mul_right _ (Nat.le_trans (Nat.min_le_right _ _) hnc)
  have hrun:=run_copy_rows (P:=P) w dT sT ty e b l.length cap ⟨b2,off2,none⟩ k.length cap2 cur e ((k.take l.length).flatMap Flat.enc) (Enc.n α) ht (by simp [hi,hn]) hg hlen2 hsrc hfit hone
  refine Zv (v:=goInt (Nat.min k.length l.length)) (w':=w.setRow b ((k.take l.length).flatMap Flat.enc++cur.toList.drop ((k.take l.length).flatMap Flat.enc).length).toArray) (by simp only [execOp,resolve,invoke,Go.builtin,List.map_toArray,List.map_cons,List.map_nil,hs,hy,Sem.run_bind,Sem.run_pure,hrun,Result.andThen]) (cont _ _ ⟨rfl,rfl,rfl,by simp,fun k hk=>setRow_other _ _ _ _ hk⟩ ?_)
  have hset:=setRow_heap w b cur ((k.take l.length).flatMap Flat.enc++cur.toList.drop ((k.take l.length).flatMap Flat.enc).length).toArray e _ hg
  refine ⟨by rw [rcopy_len]; exact Flat.flen _ |>.trans (by rw [rcopy_len]),.inr ⟨b,cap,_,by rw [rcopy_len],hb,hset,by rw [rcopy_len]; exact hnc,hcm,?_,?_⟩⟩
  ·simp only [List.size_toArray,List.length_append,List.length_drop,Array.length_toList]
   omega
  ·rw [rcopy_len]
   simp only [List.toList_toArray]
   rw [List.take_append,List.take_of_length_le (by rw [hlen2]; exact Nat.mul_le_mul_right _ (Nat.min_le_right _ _)),rcopy,List.flatMap_append]
   congr 1
   have e1:((k.take l.length).flatMap Flat.enc).length=min l.length k.length * Enc.n α:=by rw [Flat.flen,List.length_take]
   have e2:cur.toList.take (l.length * Enc.n α)=l.flatMap Flat.enc:=htk
   rw [e1,← List.drop_take,e2,flat_drop]
   congr 1
   rcases Nat.le_total k.length l.length with h | h
   ·rw [Nat.min_eq_right h]
   ·rw [Nat.min_eq_left h,List.drop_of_length_le (Nat.le_refl _),List.drop_of_length_le h]
end
end Go.Md
end
section
namespace Go.Md
open Go Go.RowKit
structure Cl (n:Nat) where
 l:List Value
 h:l.length=n
 one:∀ c∈l,c.oneCell'=true
instance {n:Nat}:Enc (Cl n) where
 agg:=true
 n:=n
 rep _ _ cs x:=cs=x.l
 len {_ _ _ x} h:=by subst h; exact x.h
 one {_ _ _ x} h:=by subst h; exact x.one
 sgl h:=by cases h
 keep _ _ h:=h
 mono _ h:=h
instance {n:Nat}:Flat (Cl n):=⟨fun x=>x.l,Iff.rfl⟩
def Okd (lo base:Nat) (v:Value) (b:Nat):Prop:=(b<lo∨base≤b)∧some b≠v.ownBlock
def DRow {α:Type} [Enc α] (lo:Nat) (e:TypeId) (base:Nat) (w:World) (v:Value) (l:List α):Prop :=
 ∃ S:List (Cl (Enc.n α)),Row (α:=Cl (Enc.n α)) e base w v S∧S.length=l.length∧∀ (i:Nat) (s:Cl (Enc.n α)) (x:α),S[i]?=some s→l[i]?=some x→Enc.rep (Okd lo base v) w s.l x
def ElsD {α:Type} [Enc α] (ok:Nat→Prop) (w:World) (a:Option Addr) (k:List α):Prop :=
 k=[]∨∃ b off,a=some ⟨b,off,none⟩∧∀ (i:Nat) (x:α),k[i]?=some x→∃ cs,Enc.rep ok w cs x∧Cs w b (off + i * Enc.n α) cs
section
variable {α:Type} [Enc α] {lo base:Nat} {e:TypeId} {w w':World} {v v2:Value} {l k:List α}
theorem DRow.nil:DRow lo e base w (.slice none 0 0) ([]:List α):=⟨[],Row.nil,rfl,by simp⟩
theorem DRow.ext (h:DRow lo e base w v l) (k:Ext w w'):DRow lo e base w' v l:=by
 obtain ⟨S,h1,h2,h3⟩:=h
 exact ⟨S,h1.ext k,h2,fun i s x a b=>Enc.keep (fun q _ hq=>k.block q hq) k.size (h3 i s x a b)⟩
theorem DRow.lt (h:DRow lo e base w v l):∀ q,v.ownBlock=some q→base≤q∧q<w.heap.size:=by
 obtain ⟨S,h1,_⟩:=h
 exact fun q hq=>h1.lt q hq
theorem DRow.own_lt (h:DRow lo e base w v l):∀ q,v.ownBlock=some q→q<w.heap.size:=fun q hq=>(h.lt q hq).2
theorem DRow.sl (h:DRow lo e base w v l):∃ a cap,v=.slice a l.length cap:=by
 obtain ⟨S,h1,h2,_⟩:=h
 obtain ⟨a,cap,e1,_⟩:=RV.sl h1.rv
 exact ⟨a,cap,by rw [e1,h2]⟩
theorem DRow.rv (h:DRow lo e base w v l):RV w v l:=by
 obtain ⟨S,h1,h2,h3⟩:=h
 obtain ⟨a,cap,rfl,c1,c2,c3⟩:=RV.sl h1.rv
 rw [h2]
 refine RV.of1 (by rw [← h2]; exact c1) c2 ?_
 rcases c3 with rfl | ⟨b,off,e1,hb,hlt,c3⟩
 ·left
  simp at h2
  exact List.eq_nil_of_length_eq_zero h2.symm
 ·refine .inr ⟨b,off,e1,hb,hlt,fun i x hx=>?_⟩
  have hi:i<S.length:=by rw [h2]; exact (List.getElem?_eq_some_iff.1 hx).1
  have hs:S[i]?=some S[i]:=List.getElem?_eq_getElem hi
  obtain ⟨cs,c4,c5⟩:=c3 i _ hs
  have c4':cs=S[i].l:=c4
  subst c4'
  exact ⟨_,Enc.mono (fun _ _ _=>trivial) (h3 i _ x hs hx),c5⟩
theorem DRow.bnd {B:Nat} (h:DRow lo e base w v l) (hB:B≤base):DRow lo e B w v l:=by
 obtain ⟨S,h1,h2,h3⟩:=h
 refine ⟨S,h1.bnd hB,h2,fun i s x a b=>Enc.mono (fun q _ hq=>⟨?_,hq.2⟩) (h3 i s x a b)⟩
 have:=hq.1
 omega
theorem Row.rvob {β:Type} [Enc β] [Flat β] {e':TypeId} {br:Nat} {c:Value} {y:List β} (h:Row e' br w c y):RVo (fun b=>br≤b) w c y:=h.rvo
theorem RVo.okn {β:Type} [Enc β] {wr:World} {c:Value} {y:β} (h:RVo (fun b=>wr.heap.size≤b) w c y) (hb:base≤wr.heap.size) (hv:∀ q,v.ownBlock=some q→q<wr.heap.size):RVo (Okd lo base v) w c y :=
 h.mono fun b _ hq=>⟨.inr (by omega),fun e1=>by have:=hv b e1.symm; omega⟩
theorem RVo.rep1 {β:Type} [Enc β] {ok:Nat→Prop} {c:Value} {y:List β} (h:RVo ok w c y):Enc.rep ok w [c] y:=by
 obtain ⟨a,cap,rfl,h1,h2,h3⟩:=RVo.sl.1 h
 exact ⟨a,cap,rfl,h1,h2,h3⟩
theorem ElsD.lit1 {ok:Nat→Prop} {b:Nat} {T:TypeId} {cs:List Value} {x:α} (hb:Bx w b T cs) (h:Enc.rep ok w cs x):ElsD ok w (some ⟨b,0,none⟩) [x] :=
 .inr ⟨b,0,rfl,fun i y hy=>by
  cases i with
  | zero =>
   simp only [List.getElem?_cons_zero,Option.some.injEq] at hy
   subst hy
   exact ⟨cs,h,by simpa using hb.cs⟩
  | succ i=>simp at hy⟩
theorem ElsD.of {ok:Nat→Prop} {a:Option Addr} {cap:Nat} (h:RVo ok w (.slice a k.length cap) k):ElsD ok w a k:=by
 obtain ⟨a',cap',e1,_,_,h3⟩:=RVo.sl.1 h
 cases e1
 rcases h3 with h3 | ⟨b,off,e1,_,_,h3⟩
 ·exact .inl h3
 ·exact .inr ⟨b,off,e1,h3⟩
theorem pickl {β γ:Type} {p:Nat→β→γ→Prop}:∀ (k:List β) (o:Nat),(∀ i x,k[i]?=some x→∃ y,p (o + i) x y)→∃ S:List γ,S.length=k.length∧∀ i x y,k[i]?=some x→S[i]?=some y→p (o + i) x y
 | [],_,_=>⟨[],rfl,by simp⟩
 | b::k,o,h=>by
  obtain ⟨y,hy⟩:=h 0 b rfl
  obtain ⟨S,h1,h2⟩:=pickl (p:=p) k (o + 1) (fun i x hx=>by have:=h (i + 1) x hx; rwa [show o + 1 + i=o + (i + 1) by omega])
  refine ⟨y::S,by simp [h1],fun i x z hx hz=>?_⟩
  cases i with
  | zero =>
   simp only [List.getElem?_cons_zero,Option.some.injEq] at hx hz
   subst hx hz
   exact hy
  | succ i =>
   simp only [List.getElem?_cons_succ] at hx hz
   have:=h2 i x z hx hz
   rwa [show o + 1 + i=o + (i + 1) by omega] at this
end
section
variable {P:Program} {Q:Exit→Act→World→Prop} {n:Nat} {L:Fr} {D:List Deferred} {w:World} {ops:Array Oper} {rest:List Oper}
variable {ty:TypeId} {pos:String} {af:Array Edge} {x y:Operand}
variable {α:Type} [Enc α]
theorem sapd {d:Nat} {st e:TypeId} {agg:Bool} {bytes base lo:Nat} {z:List Value} {v:Value} {a:Option Addr} {cap:Nat} {l k r:List α} (hs:ev n L x=v) (hy:ev n L y=.slice a k.length cap) (ht:P.underlying st=some (.slice e))
  (he:TI P e agg (Enc.n α) bytes z) (hm:Nat.ble 1 (Enc.n α)=true) (hb1:Nat.ble 1 bytes=true) (hrow:DRow lo e base w v l) (hk:ElsD (Okd lo base v) w a k) (hr:app bytes l k=some r) (hbase:base≤w.heap.size)
  (cont:∀ v' w',DRow lo e base w' v' r→Below base w w'→w.grownBy w' v.ownBlock→(v'.ownBlock=v.ownBlock∨∃ g,v'.ownBlock=some g∧w.heap.size≤g)→wpList P ops Q rest (act n (upd L d v') D) w') :
  wpList P ops Q ({ dst:=some d,op:=.call { callee:=.builtin .append,args:=#[x,y],argTypes:=#[st,st] },type:=ty,pos:=pos,after:=af,guard:=none }::rest) (act n L D) w:=by
 obtain ⟨hb,rfl⟩:=app_spec hr
 obtain ⟨S,h1,h2,h3⟩:=hrow
 have hK:∃ K:List (Cl (Enc.n α)),K.length=k.length∧Els (Cl (Enc.n α)) (fun _=>True) w a K∧∀ (i:Nat) (s:Cl (Enc.n α)) (x:α),K[i]?=some s→k[i]?=some x→Enc.rep (Okd lo base v) w s.l x:=by
  rcases hk with rfl | ⟨b,off,rfl,hk⟩
  ·exact ⟨[],rfl,.inl rfl,by simp⟩
  ·obtain ⟨K,k1,k2⟩:=pickl (p:=fun i x (s:Cl (Enc.n α))=>Enc.rep (Okd lo base v) w s.l x∧Cs w b (off + i * Enc.n α) s.l) k 0 (fun i x hx=>by
    obtain ⟨cs,c1,c2⟩:=hk i x hx
    exact ⟨⟨cs,Enc.len c1,Enc.one c1⟩,c1,by simpa using c2⟩)
   refine ⟨K,k1,?_,fun i s x hs hx=>(k2 i x s hx hs).1⟩
   by_cases h0:K=[]
   ·exact .inl h0
   ·have hm':0<Enc.n α:=Nat.le_of_ble_eq_true hm
    obtain ⟨s0,hs0⟩:∃ s,K[0]?=some s:=⟨K[0]'(List.length_pos_iff.2 h0),List.getElem?_eq_getElem _⟩
    have hx0:∃ x,k[0]?=some x:=⟨k[0]'(by rw [← k1]; exact List.length_pos_iff.2 h0),List.getElem?_eq_getElem _⟩
    obtain ⟨x0,hx0⟩:=hx0
    have hc0:=(k2 0 x0 s0 hx0 hs0).2
    have hl0:0<s0.l.length:=by rw [s0.h]; exact hm'
    refine .inr ⟨b,off,rfl,trivial,World.block_lt_of_cell? w ⟨b,off + (0 + 0) * Enc.n α + 0,none⟩ (hc0 0 s0.l[0] (List.getElem?_eq_getElem hl0)),fun i s hs=>⟨s.l,rfl,?_⟩⟩
    have hi:i<k.length:=by rw [← k1]; exact (List.getElem?_eq_some_iff.1 hs).1
    have:=(k2 i _ s (List.getElem?_eq_getElem hi) hs).2
    rw [Nat.zero_add] at this
    exact this
 obtain ⟨K,k1,k2,k3⟩:=hK
 obtain ⟨v',w',hrun,hrow',hg,ho⟩:=run_app (α:=Cl (Enc.n α)) (ty:=ty) (cap:=cap) ht he (Nat.le_of_ble_eq_true hm) (Nat.le_of_ble_eq_true hb1) h1 k2 (by rw [h2,k1]; exact hb) hbase
 rw [k1] at hrun
 refine Zv (v:=v') (w':=w') (by simp [execOp,resolve,invoke,Go.builtin,hs,hy,hrun]) (cont v' w' ⟨S++K,hrow',by simp [h2,k1],fun i s x a b=>?_⟩ ⟨hg.os,hg.tape,hg.output,hg.size,fun q hq=>hg.block q (by omega) (fun e2=>?_)⟩ hg ho)
 ·have hrep:Enc.rep (Okd lo base v) w s.l x:=by
   rw [List.getElem?_append] at a b
   rw [← h2] at b
   split at a
   ·rename_i hi
    rw [if_pos hi] at b
    exact h3 i s x a b
   ·rename_i hi
    rw [if_neg hi] at b
    exact k3 _ s x a b
  have hrep':Enc.rep (fun q=>Okd lo base v q∧some q≠v'.ownBlock) w s.l x:=Enc.mono (fun q hq hok=>⟨hok,fun e1=>by
   rcases ho with h | ⟨g,h,hgg⟩
   ·exact hok.2 (by rw [← h]; exact e1)
   ·rw [h] at e1
    cases e1
    omega⟩) hrep
  have:=Enc.keep (w':=w') (fun q hok hq=>hg.block q hq hok.1.2) hg.size hrep'
  exact Enc.mono (fun q _ hok=>⟨hok.1.1,hok.2⟩) this
 ·have:=h1.lt q e2.symm
  omega
theorem DRow.gra {lo base:Nat} {e:TypeId} {w w':World} {v v2:Value} {l:List α} (h:DRow lo e base w v2 l) (g:w.grownBy w' v.ownBlock) (ha:Apart v v2) (h1:∀ q,v.ownBlock=some q→lo≤q∧q<base):DRow lo e base w' v2 l:=by
 obtain ⟨S,g1,g2,g3⟩:=h
 refine ⟨S,g1.gra g ha,g2,fun i s x a d=>Enc.keep (fun q hq hlt=>g.block q hlt fun e1=>?_) g.size (g3 i s x a d)⟩
 have:=h1 q e1.symm
 have:=hq.1
 omega
end
end Go.Md
namespace Go.Md
open Go Go.RowKit
theorem Apart.old' {N:Nat} {v1 v2:Value} (h1:∀ q,v1.ownBlock=some q→q<N) (h2:∀ q,v2.ownBlock=some q→N≤q):Apart v1 v2:=fun q a b=>by
 have:=h1 q a
 have:=h2 q b
 omega
end Go.Md
namespace Go.Md
open Go Go.RowKit
end Go.Md
namespace Go
theorem World.grownBy.tr {w w1 w2:World} {row:Option Nat} (h:w.grownBy w1 row) (k:w1.grownBy w2 row):w.grownBy w2 row :=
 ⟨k.os.trans h.os,k.tape.trans h.tape,k.output.trans h.output,Nat.le_trans h.size k.size,fun q hq hn=>(k.block q (Nat.lt_of_lt_of_le hq h.size) hn).trans (h.block q hq hn)⟩
end Go
namespace Go.Md
open Go Go.RowKit
theorem Ext.gro {w w1:World} {row:Option Nat} (k:Ext w w1):w.grownBy w1 row:=⟨k.os,k.tape,k.output,k.size,fun q hq _=>k.block q hq⟩
theorem Cs.gro {w w':World} {b o:Nat} {cs:List Value} {row:Option Nat} (h:Cs w b o cs) (g:w.grownBy w' row) (ne:some b≠row):Cs w' b o cs:=fun j c hc=>by
 have h1:=h j c hc
 have hlt:=World.block_lt_of_cell? w _ h1
 exact (World.cell?_of_block (a:=⟨b,o + j,none⟩) (g.block b hlt ne)).trans h1
end Go.Md
namespace Go.Md
open Go Go.RowKit
section
variable {α:Type} [Enc α] {lo base b:Nat} {e:TypeId} {w:World} {v:Value} {l:List α}
theorem DRow.ne_new (h:DRow lo e base w v l) (hb:w.heap.size≤b):some b≠v.ownBlock:=fun e2=>by
 have:=h.lt b e2.symm
 omega
theorem DRow.ne_old (h:DRow lo e base w v l) (hb:b<base):some b≠v.ownBlock:=fun e2=>by
 have:=h.lt b e2.symm
 omega
end
end Go.Md
namespace Go.Md
open Go Go.RowKit
theorem Chg.gro {b:Nat} {w w':World} (k:Chg b w w'):w.grownBy w' (some b):=⟨k.os,k.tape,k.output,by rw [k.size]; exact Nat.le_refl _,fun q _ hq=>k.other q fun e=>hq (by rw [e])⟩
end Go.Md
namespace Go.Md
open Go Go.RowKit
end Go.Md
end
section
namespace Go.Md
open Go Go.RowKit
def kok {κ:Type} [Enc κ] [Flat κ] [Key κ] (k:κ):Option Unit:=if Key.ok k=true then some () else none
theorem kok_spec {κ:Type} [Enc κ] [Flat κ] [Key κ] {k:κ} {u:Unit} (h:kok k=some u):Key.ok k=true:=by
 unfold kok at h
 split at h
 ·assumption
 ·cases h
section
variable {κ ν:Type} [DecidableEq κ] [Enc κ] [Flat κ] [Key κ] [Enc ν] [Flat ν] {P:Program} {w w':World} {b:Nat} {l:List (κ×ν)}
theorem TI.zv {α:Type} [Enc α] [Flat α] {t:TypeId} {agg:Bool} {n bytes:Nat} {z:List Value} {d:α} (ht:TI P t agg n bytes z) (ha:agg=Enc.agg α) (hz:z=Flat.enc d) (w:World):(zeroValue t).run P w=.ok (fv d) w:=by
 obtain ⟨v,h1,_,h3⟩:=ht.zero w
 rw [h1,h3,ha,hz]
 rfl
omit [DecidableEq κ] in
theorem Row.ne_map {α:Type} [Enc α] [Flat α] {e:TypeId} {base:Nat} {v:Value} {x:List α} (h:Row e base w v x) (hm:Mp w b l):some b≠v.ownBlock:=fun e1=>by
 obtain ⟨o,h1,h2⟩:=h.cells e1.symm
 obtain ⟨es,c,h3,_⟩:=hm
 rw [h3] at h1
 cases h1
 cases h2
theorem Mp.chgb {c:Nat} {T:TypeId} {cs:List Value} (h:Mp w b l) (k:Chg c w w') (hx:Bx w c T cs):Mp w' b l:=h.chg k (h.not_cells hx)
theorem Bx.chgm {c:Nat} {T:TypeId} {cs:List Value} (h:Bx w c T cs) (k:Chg b w w') (hm:Mp w b l):Bx w' c T cs:=h.chg k (Ne.symm (hm.not_cells h))
omit [DecidableEq κ] in
theorem Row.chgm {α:Type} [Enc α] [Flat α] {e:TypeId} {base:Nat} {v:Value} {x:List α} (h:Row e base w v x) (k:Chg b w w') (hm:Mp w b l):Row e base w' v x:=h.chgn k (h.ne_map hm)
theorem Mp.grr {α:Type} [Enc α] [Flat α] {e:TypeId} {base:Nat} {v:Value} {x:List α} (h:Mp w b l) (g:w.grownBy w' v.ownBlock) (r:Row e base w v x):Mp w' b l:=h.gr g (r.ne_map h)
end
end Go.Md
end
section
namespace Go.Proofs.YtfmelbioccbdoaaGreat
open Go Go.Md Go.RowKit
def slices_IndexFunc_int_l1 (F:Nat) (x0:(List Int)) (x1:(Int→Option Bool)):Nat→Int→Option (Sum Int (Unit))
 | 0,_=>none
 | m + 1,y1 =>
  if (decide (y1<(x0.length:Int)))=true then
   (ix x0 y1) >>= fun x3 =>
   (x1 x3) >>= fun x4 =>
   if x4=true then
    some (.inl y1)
   else
    slices_IndexFunc_int_l1 F x0 x1 m (w64 (y1 + 1))
  else
   some (.inr ())
def slices_IndexFunc_int (F:Nat) (x0:(List Int)) (x1:(Int→Option Bool)):Option Int :=
 ((slices_IndexFunc_int_l1 F x0 x1 F 0) >>= fun o=>match o with
  | .inl r=>some r
  | .inr () =>
   some (-1))
def slices_ContainsFunc_int (F:Nat) (x0:(List Int)) (x1:(Int→Option Bool)):Option Bool :=
 (slices_IndexFunc_int F x0 x1) >>= fun x3 =>
 some (decide (0≤x3))
def speed_turns_1 (x0:Int) (x1:Int) (x2:Int):Option Bool :=
 some ((decide (x0<x1)) || (decide (x2<x0)))
def speed_turns (F:Nat) (x0:Int) (x1:Int) (x2:(List Int)):Option Bool :=
 (slices_ContainsFunc_int F x2 (fun y=>speed_turns_1 y x0 x1)) >>= fun x4 =>
 some (!x4)
def slices_IndexFunc_int64_l1 (F:Nat) (x0:(List Int)) (x1:(Int→Option Bool)):Nat→Int→Option (Sum Int (Unit))
 | 0,_=>none
 | m + 1,y1 =>
  if (decide (y1<(x0.length:Int)))=true then
   (ix x0 y1) >>= fun x3 =>
   (x1 x3) >>= fun x4 =>
   if x4=true then
    some (.inl y1)
   else
    slices_IndexFunc_int64_l1 F x0 x1 m (w64 (y1 + 1))
  else
   some (.inr ())
def slices_IndexFunc_int64 (F:Nat) (x0:(List Int)) (x1:(Int→Option Bool)):Option Int :=
 ((slices_IndexFunc_int64_l1 F x0 x1 F 0) >>= fun o=>match o with
  | .inl r=>some r
  | .inr () =>
   some (-1))
def slices_ContainsFunc_int64 (F:Nat) (x0:(List Int)) (x1:(Int→Option Bool)):Option Bool :=
 (slices_IndexFunc_int64 F x0 x1) >>= fun x3 =>
 some (decide (0≤x3))
def speed_within_1 (x0:Int) (x1:Int) (x2:Int):Option Bool :=
 some ((decide (x0<x1)) || (decide (x2<x0)))
def speed_within (F:Nat) (x0:Int) (x1:Int) (x2:(List Int)):Option Bool :=
 (slices_ContainsFunc_int64 F x2 (fun y=>speed_within_1 y x0 x1)) >>= fun x4 =>
 some (!x4)
def speed_CheckSheet_1 (F:Nat) (x0:(Int×Int×Int)) (x1:(Int×(List (Int×Int×Int)))):Option Bool :=
 (speed_turns F 0 x1.1 ([x0.1,x0.2.1]:List Int)) >>= fun x3 =>
 (gd (!((!x3) || (decide (x0.1=x0.2.1)))) (speed_within F (-100000) 100000 ([x0.2.2]:List Int)) false) >>= fun x4 =>
 some (((!x3) || (decide (x0.1=x0.2.1))) || (!x4))
def slices_IndexFunc_api_SpeedRule_l1 (F:Nat) (x0:(List (Int×Int×Int))) (x1:((Int×Int×Int)→Option Bool)):Nat→Int→Option (Sum Int (Unit))
 | 0,_=>none
 | m + 1,y1 =>
  if (decide (y1<(x0.length:Int)))=true then
   (ix x0 y1) >>= fun x3 =>
   (x1 (x3.1,x3.2.1,x3.2.2)) >>= fun x4 =>
   if x4=true then
    some (.inl y1)
   else
    slices_IndexFunc_api_SpeedRule_l1 F x0 x1 m (w64 (y1 + 1))
  else
   some (.inr ())
def slices_IndexFunc_api_SpeedRule (F:Nat) (x0:(List (Int×Int×Int))) (x1:((Int×Int×Int)→Option Bool)):Option Int :=
 ((slices_IndexFunc_api_SpeedRule_l1 F x0 x1 F 0) >>= fun o=>match o with
  | .inl r=>some r
  | .inr () =>
   some (-1))
def slices_ContainsFunc_api_SpeedRule (F:Nat) (x0:(List (Int×Int×Int))) (x1:((Int×Int×Int)→Option Bool)):Option Bool :=
 (slices_IndexFunc_api_SpeedRule F x0 x1) >>= fun x3 =>
 some (decide (0≤x3))
def speed_CheckSheet (F:Nat) (x0:(Int×(List (Int×Int×Int)))):Option Int :=
 if (decide (60<(x0.2.length:Int)))=true then
  some 6
 else
  (speed_turns F 1 20 ([x0.1]:List Int)) >>= fun x2 =>
  if (!x2)=true then
   some 2
  else
   (slices_ContainsFunc_api_SpeedRule F x0.2 (fun y=>speed_CheckSheet_1 F y (x0.1,x0.2))) >>= fun x3 =>
   if x3=true then
    some 3
   else
    some 0
def ref01_IsRule (x0:(Int×Int×Int)) (x1:Int):Option Bool :=
 some (((((((decide (0≤x0.1)) && (decide (x0.1≤x1))) && (decide (0≤x0.2.1))) && (decide (x0.2.1≤x1))) && (!decide (x0.1=x0.2.1))) && (decide ((-100000)≤x0.2.2))) && (decide (x0.2.2≤100000)))
def ref01_CheckSheet_l1 (F:Nat) (x0:(Int×(List (Int×Int×Int)))):Nat→Int→Option (Sum Int (Unit))
 | 0,_=>none
 | m + 1,y1 =>
  if (decide (y1<(x0.2.length:Int)))=true then
   (ix x0.2 y1) >>= fun x2 =>
   (ref01_IsRule (x2.1,x2.2.1,x2.2.2) x0.1) >>= fun x3 =>
   if (!x3)=true then
    some (.inl 3)
   else
    ref01_CheckSheet_l1 F x0 m (w64 (y1 + 1))
  else
   some (.inr ())
def ref01_CheckSheet (F:Nat) (x0:(Int×(List (Int×Int×Int)))):Option Int :=
 if (decide (60<(x0.2.length:Int)))=true then
  some 6
 else
  if ((decide (x0.1<1)) || (decide (20<x0.1)))=true then
   some 2
  else
   ((ref01_CheckSheet_l1 F x0 F 0) >>= fun o=>match o with
    | .inl r=>some r
    | .inr () =>
     some 0)
def ref01_All_l1 (F:Nat) (x0:(Int×(List (Int×Int×Int)))):Nat→(List (Int×Int×Int))→Int→Option ((List (Int×Int×Int)))
 | 0,_,_=>none
 | m + 1,y1,y2 =>
  if (decide (y2≤x0.1))=true then
   (app 24 y1 ([(0,y2,100000),(y2,0,0)]:List (Int×Int×Int))) >>= fun x3 =>
   ref01_All_l1 F x0 m x3 (w64 (y2 + 1))
  else
   some y1
def ref01_All (F:Nat) (x0:(Int×(List (Int×Int×Int)))):Option (List (Int×Int×Int)) :=
 (app 24 ([]:List (Int×Int×Int)) x0.2) >>= fun x2 =>
 ((ref01_All_l1 F x0 F x2 1) >>= fun z1 =>
 some z1)
def ref01_chain_l1 (F:Nat) (x1:(List Int)) (x3:(List (Int×Int×Int))):Nat→Int→Option (Sum (Int×Int) (Unit))
 | 0,_=>none
 | m + 1,y1 =>
  if (decide (y1<(x1.length:Int)))=true then
   (((ix x1 y1) >>= fun x5 =>
   if (decide (x5<0))=true then
    some true
   else
    (ix x1 y1) >>= fun x6 =>
    some (decide ((x3.length:Int)≤x6)):Option (Bool)) >>= fun y2 =>
   if y2=true then
    some (.inl (0,3))
   else
    ref01_chain_l1 F x1 x3 m (w64 (y1 + 1)))
  else
   some (.inr ())
def ref01_chain_l2 (F:Nat) (x1:(List Int)) (x3:(List (Int×Int×Int))):Nat→Int→Int→Option (Sum (Int×Int) (Int))
 | 0,_,_=>none
 | m + 1,y3,y4 =>
  if (decide (y4<(x1.length:Int)))=true then
   ((if (decide (0<y4))=true then
    (ix x1 y4) >>= fun x7 =>
    (ix x3 x7) >>= fun x8 =>
    (ix x1 (w64 (y4 - 1))) >>= fun x9 =>
    (ix x3 x9) >>= fun x10 =>
    some (!decide (x8.1=x10.2.1))
   else
    some false:Option (Bool)) >>= fun y5 =>
   if y5=true then
    some (.inl (0,16))
   else
    (ix x1 y4) >>= fun x11 =>
    (ix x3 x11) >>= fun x12 =>
    ref01_chain_l2 F x1 x3 m (w64 (y3 + x12.2.2)) (w64 (y4 + 1)))
  else
   some (.inr y3)
def ref01_chain (F:Nat) (x0:(Int×(List (Int×Int×Int)))) (x1:(List Int)):Option (Int×Int) :=
 (ref01_All F (x0.1,x0.2)) >>= fun x3 =>
 ((ref01_chain_l1 F x1 x3 F 0) >>= fun o=>match o with
  | .inl r=>some r
  | .inr () =>
   ((ref01_chain_l2 F x1 x3 F 0 0) >>= fun o=>match o with
    | .inl r=>some r
    | .inr z1 =>
     some (z1,0)))
def ref01_CheckWay (F:Nat) (x0:(Int×(List (Int×Int×Int)))) (x1:Int) (x2:Int) (x3:(List Int)):Option (Int×Int) :=
 (ref01_CheckSheet F (x0.1,x0.2)) >>= fun x5 =>
 if (!decide (x5=0))=true then
  (ref01_CheckSheet F (x0.1,x0.2)) >>= fun x6 =>
  some (0,x6)
 else
  if ((((decide (x1<0)) || (decide (x0.1<x1))) || (decide (x2<0))) || (decide (x0.1<x2)))=true then
   some (0,2)
  else
   if (decide (60<(x3.length:Int)))=true then
    some (0,6)
   else
    (ref01_chain F (x0.1,x0.2) x3) >>= fun x7 =>
    if (!decide (x7.2=0))=true then
     some (0,x7.2)
    else
     if (decide ((x3.length:Int)=0))=true then
      if (!decide (x1=x2))=true then
       some (0,16)
      else
       some (0,0)
     else
      (ref01_All F (x0.1,x0.2)) >>= fun x8 =>
      (((ix x3 0) >>= fun x11 =>
      (ix x8 x11) >>= fun x12 =>
      if (!decide (x12.1=x1))=true then
       some true
      else
       (ix x3 (w64 ((x3.length:Int) - 1))) >>= fun x13 =>
       (ix x8 x13) >>= fun x14 =>
       some (!decide (x14.2.1=x2)):Option (Bool)) >>= fun y1 =>
      if y1=true then
       some (0,16)
      else
       some (x7.1,0))
def ref01_Of (x0:(List Int)) (x1:Int):Option Int :=
 if (decide (x1=0))=true then
  some 0
 else
  (ix x0 (w64 (x1 - 1))) >>= fun x3 =>
  some x3
def ref01_CheckSpeeds_l1 (F:Nat) (x1:(List Int)):Nat→Int→Option (Sum Int (Unit))
 | 0,_=>none
 | m + 1,y1 =>
  if (decide (y1<(x1.length:Int)))=true then
   (((ix x1 y1) >>= fun x6 =>
   if (decide (x6<0))=true then
    some true
   else
    (ix x1 y1) >>= fun x7 =>
    some (decide (100000<x7)):Option (Bool)) >>= fun y2 =>
   if y2=true then
    some (.inl 3)
   else
    ref01_CheckSpeeds_l1 F x1 m (w64 (y1 + 1)))
  else
   some (.inr ())
def ref01_CheckSpeeds_l2 (F:Nat) (x0:(Int×(List (Int×Int×Int)))) (x1:(List Int)):Nat→Int→Option (Sum Int (Unit))
 | 0,_=>none
 | m + 1,y3 =>
  if (decide (y3<(x0.2.length:Int)))=true then
   (ix x0.2 y3) >>= fun x8 =>
   (ref01_Of x1 x8.2.1) >>= fun x9 =>
   (ref01_Of x1 x8.1) >>= fun x10 =>
   if (decide ((w64 (x10 + x8.2.2))<x9))=true then
    some (.inl 17)
   else
    ref01_CheckSpeeds_l2 F x0 x1 m (w64 (y3 + 1))
  else
   some (.inr ())
def ref01_CheckSpeeds (F:Nat) (x0:(Int×(List (Int×Int×Int)))) (x1:(List Int)):Option Int :=
 (ref01_CheckSheet F (x0.1,x0.2)) >>= fun x3 =>
 if (!decide (x3=0))=true then
  (ref01_CheckSheet F (x0.1,x0.2)) >>= fun x4 =>
  some x4
 else
  if (!decide ((x1.length:Int)=x0.1))=true then
   some 15
  else
   ((ref01_CheckSpeeds_l1 F x1 F 0) >>= fun o=>match o with
    | .inl r=>some r
    | .inr () =>
     ((ref01_CheckSpeeds_l2 F x0 x1 F 0) >>= fun o=>match o with
      | .inl r=>some r
      | .inr () =>
       some 0))
def speed_Ends_1 (x0:Int) (x1:(Ar 21 Int)):Option Int :=
 (ix x1.l x0) >>= fun x3 =>
 some x3
def speed_list_keeps (x0:(Ar 21 Int)) (x1:(Int×Int×Int)):Option Bool :=
 (ix x0.l x1.2.1) >>= fun x3 =>
 (ix x0.l x1.1) >>= fun x4 =>
 some (decide (x3≤(w64 (x4 + x1.2.2))))
end Go.Proofs.YtfmelbioccbdoaaGreat
end
section
namespace Go.Proofs.YtfmelbioccbdoaaGreat
open Go Go.Md Go.RowKit
attribute [local irreducible] Go.wpList Go.Code.wp Go.Calls Go.Md.Rnd Go.Md.Mt
def slices_Clone_rules (x0:List (Int×Int×Int)):Option (List (Int×Int×Int)):=app 24 [] x0
theorem c213 {w0:World} {v0:Value} {x0:List (Int×Int×Int)} (r0:RV w0 v0 x0) {r:List (Int×Int×Int)} (hF:slices_Clone_rules x0=some r) :
  Calls Tryz.prog 213 [v0].toArray w0 (Ret fun v w'=>∃ u0:Value,v=u0∧Row 58 w0.heap.size w' u0 r∧Ext w0 w'):=by
 unfold slices_Clone_rules at hF
 have hz:=r0.sl; obtain ⟨a1,c1,rfl,-,-,-⟩:=hz
 refine entr (n:=8) Tryz.func213 rfl rfl rfl<|Zr<|Za<|nl<|wp_seq<|Zr<|Zm<|Zv (xsln Tryz.underlying22 rfl rfl)<|nl<|cnd rfl (fun h=>?_) (fun h=>?_)
 ·have hl:x0=[]:=by
   rcases r0.els with h1 | ⟨b,off,h1,_⟩
   ·exact h1
   ·rw [h1] at h; cases h
  subst hl
  obtain ⟨_,rfl⟩:=app_spec hF
  refine Zr<|Za<|nl<|?_
  exact wp_ret<|rt rfl (.tmp rfl rfl .nil) ⟨_,rfl,Row.nil,Ext.refl _⟩
 ·refine wp_skip<|Zr<|sbsv (cs:=[]) Tryz.underlying22 ti58 rfl pn rfl rfl rfl rfl rfl fun b w1 hx1 hg1 hb1=>?_
  have o1:Row (α:=(Int×Int×Int)) 58 w0.heap.size w1 (.slice (some ⟨b,0,none⟩) 0 0) []:=Row.lit hg1 hb1 rfl (ble rfl)
  have r1:=r0.ext hx1
  refine Zm<|sapx (l:=[]) (k:=x0) rfl rfl Tryz.underlying22 ti58 rfl rfl o1 (RV.els r1) hF hx1.size fun v2 w2 o2 hB _ _=>?_
  refine Za<|nl<|wp_ret<|rt rfl (.tmp rfl rfl .nil) ⟨_,rfl,o2,hx1.trans hB⟩
def slices_Reverse_l1:Nat→List Int→Int→Int→Option (List Int)
 | 0,_,_,_=>none
 | m + 1,l,i,j =>
  if (decide (i<j))=true then
   (ix l j) >>= fun a=>(ix l i) >>= fun b=>slices_Reverse_l1 m (rset (rset l i a) j b) (w64 (i + 1)) (w64 (j - 1))
  else some l
def slices_Reverse (F:Nat) (x0:List Int):Option (List Int):=slices_Reverse_l1 F x0 0 (w64 ((x0.length:Int) - 1))
theorem ix_rset {l:List Int} {i j a b:Int} (h:ix l j=some b):∃ c,ix (rset l i a) j=some c:=by
 obtain ⟨h0,h1,h2⟩:=ix_spec h
 unfold ix rset
 rw [if_pos h0]
 have:j.toNat<(l.set i.toNat a).length:=by rw [List.length_set]; omega
 exact ⟨_,List.getElem?_eq_getElem this⟩
set_option maxHeartbeats 1000000 in
theorem c131 {wb w0:World} (hk:Ext wb w0) {v0:Value} {x0:List Int} (o0:Row 3 wb.heap.size w0 v0 x0) {F:Nat} {r:List Int} (hF:slices_Reverse F x0=some r) :
  Calls Tryz.prog 131 [v0].toArray w0 (Ret fun v w'=>v=.tuple #[]∧Row 3 wb.heap.size w' v0 r∧Ext wb w'∧w0.heap.size≤w'.heap.size):=by
 unfold slices_Reverse at hF
 have hz:=RV.sl o0.rv; obtain ⟨a1,c1,rfl,-,-,-⟩:=hz
 refine entr (n:=28) Tryz.func131 rfl rfl rfl<|Zr<|Zm<|Zv (xlen rfl Tryz.underlying41)<|Zv (xsub rfl rfl)<|Za<|Za<|nl<|?_
 refine ct (fun L w=>Row 3 wb.heap.size w (.slice a1 x0.length c1) r∧Ext wb w∧w0.heap.size≤w.heap.size) ?_ ?_
 ·refine wp_block<|lp (I:=fun m L w=>∃ l:List Int,∃ i j:Int,slices_Reverse_l1 m l i j=some r∧L 2=.int .i64 i∧L 3=.int .i64 j∧L 0=.slice a1 x0.length c1∧Row 3 wb.heap.size w (.slice a1 x0.length c1) l∧Ext wb w∧w0.heap.size≤w.heap.size) F ⟨_,_,_,hF,rfl,rfl,rfl,o0,hk,Nat.le_refl _⟩ ?_
  rintro m L w1 ⟨l,i,j,hB,l2,l3,l0,o1,k1,hs1⟩
  rcases m with _ | m
  ·rw [slices_Reverse_l1] at hB; cases hB
  rw [slices_Reverse_l1] at hB
  refine wp_seq<|Zr<|Zm<|Zm<|Zv (xlss l2 l3)<|nl<|cnd rfl (fun h2=>?_) (fun h2=>?_)
  ·have hB:=ifp hB h2
   have hz:=bs hB; obtain ⟨a,Ea,hB⟩:=hz
   have hz:=bs hB; obtain ⟨b,Eb,hB⟩:=hz
   have hln:x0.length=l.length:=(RV.cap o1.rv).1
   refine wp_skip<|wp_seq<|wp_block<|wpl [13,15] (.pure true 0 (.pure true 1 (.pure true 2 (.pure true 3 (.pure true 4 (.pure true 5 (.pure true 6 (.pure false 7 (.pure true 8 (.pure true 9 (.pure true 10 (.pure false 11 (.pure true 12 (.eff 13 (.pure true 14 (.eff 15 .fin .stop)) .stop)))))))))))))) mixed (by kernel_rfl) (fun w2 hx1=>?_)
   have o2:=o1.ext hx1
   have k2:=k1.tr hx1
   have hz:=(RV.els o2.rv).ix Ea; obtain ⟨b2,f1,cs2,e1,i2,i3,q2,hc1⟩:=hz
   cases e1
   obtain rfl:=q2
   have hz:=ix2 o2.rv Eb; obtain ⟨cs3,i4,i5,q3,hc2⟩:=hz
   obtain rfl:=q3
   rw [← hln] at i3 i5
   have hz:=ix_rset (i:=i) (a:=a) Ea; obtain ⟨y0,Ey⟩:=hz
   refine Zn rfl<|Zn rfl<|Zn rfl<|Zn rfl<|Zn rfl<|Zn rfl<|?_
   refine Zp rfl (fun _=>xixs l0 l3 Tryz.underlying41 ti3 i2 i3)<|Zq rfl (fun _ hS=>xld rfl ti3 ((hc1.ext (hS.resolve_left nofun)).at 0 rfl)) (Ext.refl _)<|Zn rfl<|Zn rfl<|?_
   refine Zp rfl (fun _=>xixs l0 l2 Tryz.underlying41 ti3 i4 i5)<|Zq rfl (fun _ hS=>xld rfl ti3 ((hc2.ext (hS.resolve_left nofun)).at 0 rfl)) (Ext.refl _)<|?_
   refine Zp rfl (fun _=>xixs l0 l2 Tryz.underlying41 ti3 i4 i5)<|?_
   refine pe1 rfl<|sstr (l:=l) (i:=i) (v:=a) rfl rfl rfl ti3 o2 Eb fun w3 hch1 o3=>?_
   refine nl ⟨fun h=>(h (by decide)).elim,?_⟩
   refine Zp rfl (fun _=>xixs l0 l3 Tryz.underlying41 ti3 i2 i3)<|?_
   refine pe1 rfl<|sstr (l:=rset l i a) (i:=j) (v:=b) rfl rfl rfl ti3 o3 Ey fun w4 hch2 o4=>?_
   refine nl ⟨fun h=>(h (by decide)).elim,?_⟩
   have k4:=(k2.chg hch1 (Row.ge o2)).chg hch2 (Row.ge o2)
   refine rg<|Zm<|Zv (xadd l2 rfl)<|Zm<|Zv (xsub l3 rfl)<|Za<|Za<|nl<|?_
   exact lq m (Nat.lt_succ_self _) ⟨_,_,_,hB,rfl,rfl,l0,o4,k4,by rw [hch2.size,hch1.size]; exact Nat.le_trans hs1 hx1.size⟩
  ·have hB:=ifn hB h2
   cases hB
   exact wp_exit<|lf ⟨o1,k1,hs1⟩
 ·rintro L w ⟨o1,k1,hs1⟩
  exact rtn rfl .nil ⟨rfl,o1,k1,hs1⟩
end Go.Proofs.YtfmelbioccbdoaaGreat
end
section
namespace Go.Proofs.YtfmelbioccbdoaaGreat
open Go Go.Md Go.RowKit
def speed_newNet_l1 (F:Nat) (x0:(Int×(List (Int×Int×Int)))):Nat→Int→((Int×(List (Int×Int×Int)))×(List (Int×Int×Int)))→Option (((Int×(List (Int×Int×Int)))×(List (Int×Int×Int))))
 | 0,_,_=>none
 | m + 1,y1,y2 =>
  if (decide (y1<x0.1))=true then
   (app 24 y2.2 ([(0,w64 (y1 + 1),100000),(w64 (y1 + 1),0,0)]:List (Int×Int×Int))) >>= fun x3 =>
   speed_newNet_l1 F x0 m (w64 (y1 + 1)) ((y2.1.1,x0.2),x3)
  else
   some ((y2.1.1,x0.2),y2.2)
def speed_newNet (F:Nat) (x0:(Int×(List (Int×Int×Int)))):Option (Ob ((Int×(List (Int×Int×Int)))×(List (Int×Int×Int)))) :=
 (slices_Clone_rules x0.2) >>= fun x2 =>
 ((speed_newNet_l1 F x0 F 0 ((x0.1,x0.2),x2)) >>= fun z1 =>
 some (⟨some ((z1.1.1,x0.2),z1.2)⟩:(Ob ((Int×(List (Int×Int×Int)))×(List (Int×Int×Int))))))
def speed_CheckSpeeds_l1 (F:Nat) (x0:(Int×(List (Int×Int×Int)))) (x1:(List Int)):Nat→Int→Option (Sum Int (Unit))
 | 0,_=>none
 | m + 1,y1 =>
  if (decide (y1<(x0.2.length:Int)))=true then
   (ix x0.2 y1) >>= fun x5 =>
   (speed_list_keeps (acopy (aset (Ar.fill 21 0:(Ar 21 Int)) 0 0) 1 x1) (x5.1,x5.2.1,x5.2.2)) >>= fun x6 =>
   if (!x6)=true then
    some (.inl 17)
   else
    speed_CheckSpeeds_l1 F x0 x1 m (w64 (y1 + 1))
  else
   some (.inr ())
def speed_CheckSpeeds (F:Nat) (x0:(Int×(List (Int×Int×Int)))) (x1:(List Int)):Option Int :=
 (speed_CheckSheet F (x0.1,x0.2)) >>= fun x3 =>
 if (!decide (x3=0))=true then
  some x3
 else
  if (!decide ((x1.length:Int)=x0.1))=true then
   some 15
  else
   (speed_within F 0 100000 x1) >>= fun x4 =>
   if (!x4)=true then
    some 3
   else
    ((speed_CheckSpeeds_l1 F x0 x1 F 0) >>= fun o=>match o with
     | .inl r=>some r
     | .inr () =>
      some 0)
end Go.Proofs.YtfmelbioccbdoaaGreat
end
section
namespace Go.Md
open Go Go.RowKit
section
variable {P:Program} {Q:Exit→Act→World→Prop} {m n:Nat} {L:Fr} {D:List Deferred} {w:World}
end
end Go.Md
end
section
namespace Go.Md
open Go Go.RowKit
section
variable {P:Program} {n:Nat} {L:Fr} {w:World} {ty:TypeId} {pos:String} {af:Array Edge} {dst:Option Nat} {gdd:Option (Nat×Bool)} {x:Operand} {α:Type} [Enc α] [Flat α]
omit [Enc α] [Flat α] in
theorem xslw {t e m k bytes b:Nat} {agg:Bool} {zz:List Value} {X:Ar m α} (hx:ev n L x=.pointer (some ⟨b,0,none⟩)) (ht:P.underlying t=some (.array m e)) (he:TI P e agg k bytes zz) (hm:Nat.blt 0 m=true) :
  (execOp (ev n L) { dst:=dst,op:=.slice t x none none none,type:=ty,pos:=pos,after:=af,guard:=gdd }).run P w=.ok (.value (.slice (some ⟨b,0,none⟩) X.l.length m)) w:=by
 have h1:0<m:=by simpa [Nat.blt_eq] using hm
 have h3:¬ (m=0):=by omega
 have hl:X.l.length=m:=X.h
 simp [execOp,hx,Instr.sliceAt,Instr.sureAddr,run_underlying ht,Instr.sliceBounds,he.size,add_mk,hl]
theorem Bx.arsl {m b:Nat} {T:TypeId} {X:Ar m α} (hb:Bx w b T (X.l.flatMap Flat.enc)) (hm:m≤maxLen):RV w (.slice (some ⟨b,0,none⟩) X.l.length m) X.l:=by
 refine RV.of1 (by rw [X.h]; exact Nat.le_refl _) hm (.inr ⟨b,0,rfl,trivial,hb.lt,fun i x hx=>?_⟩)
 have hix:ix X.l (i:Int)=some x:=by simp [ix,hx]
 obtain ⟨_,_,hc⟩:=ixar (Bx.cs hb) hix
 exact ⟨Flat.enc x,Flat.iff.2 rfl,by simpa using hc⟩
theorem arall1 {m k q:Nat} (X:Ar m α) (hk:m * Enc.n α=k):[((q,.agg (X.l.flatMap Flat.enc).toArray):Nat×Value)].all (fun p=>Nat.beq p.2.cells.size k)=true:=by
 have:(X.l.flatMap Flat.enc).length=k:=by rw [Flat.flen,X.h,hk]
 simp [Value.cells,this]
theorem Cs.tl {b o:Nat} {v:Value} {cs:List Value} (h:Cs w b o (v::cs)):Cs w b (o + 1) cs:=fun j c hc=>by
 have:=h (j + 1) c (by simpa using hc)
 rwa [show o + (j + 1)=o + 1 + j by omega] at this
end
section
variable {P:Program} {Q:Exit→Act→World→Prop} {n:Nat} {L:Fr} {D:List Deferred} {w:World} {ops:Array Oper} {rest:List Oper} {ty:TypeId} {pos:String} {af:Array Edge} {x y:Operand} {α:Type} [Enc α] [Flat α]
end
section
variable {P:Program} {Q:Exit→Act→World→Prop} {n:Nat} {L:Fr} {D:List Deferred} {w:World} {ops:Array Oper} {rest:List Oper} {ty:TypeId} {pos:String} {af:Array Edge} {x y z:Operand}
variable {κ ν:Type} [DecidableEq κ] [Enc κ] [Flat κ] [Key κ] [Enc ν] [Flat ν] {t tk te:TypeId}
end
section
variable {a t N B:Nat} {w w1:World}
theorem Ext.belx {w0:World} {b c:Nat} (h:Ext w0 w) (k:BelX N b c w w1) (hN:w0.heap.size≤N) (hb:w0.heap.size≤b) (hc:w0.heap.size≤c):Ext w0 w1:=h.trans (k.below hN hb hc)
theorem KpOk.and {K1 K2:World→World→Prop} (h1:KpOk B K1) (h2:KpOk B K2):KpOk B (fun A C=>K1 A C∧K2 A C) :=
 ⟨fun h k=>⟨h1.trans h.1 k.1,h2.trans h.2 k.2⟩,fun h k=>⟨h1.ext h k,h2.ext h k⟩,fun h k c=>⟨h1.put h k c,h2.put h k c⟩⟩
end
def FBm {α:Type} (T:TypeId) (base:Nat) (w:World) (v:Value) (cs:List Value) (x:Ob α):Prop :=
 match x.v with
 | none=>v=.pointer none
 | some _=>∃ b:Nat,v=.pointer (some ⟨b,0,none⟩)∧base≤b∧Bx w b T (cs++[.map none])
section
variable {α:Type} {T:TypeId} {base:Nat} {w:World} {cs:List Value}
theorem FBm.nil:FBm T base w (.pointer none) cs (⟨none⟩:Ob α):=rfl
theorem FBm.mk {b:Nat} {y:α} (h1:base≤b) (h2:Bx w b T (cs++[.map none])):FBm T base w (.pointer (some ⟨b,0,none⟩)) cs (⟨some y⟩:Ob α):=⟨b,rfl,h1,h2⟩
theorem FBm.get {v:Value} {x:Ob α} {y:α} (h:FBm T base w v cs x) (hy:x.v=some y):∃ b:Nat,v=.pointer (some ⟨b,0,none⟩)∧base≤b∧Bx w b T (cs++[.map none]):=by
 unfold FBm at h
 rwa [hy] at h
end
def Oko (lo:Nat) (v:Value) (b:Nat):Prop:=b<lo∧some b≠v.ownBlock
def DRowO {α:Type} [Enc α] (lo:Nat) (e:TypeId) (base:Nat) (w:World) (v:Value) (l:List α):Prop :=
 ∃ S:List (Cl (Enc.n α)),Row (α:=Cl (Enc.n α)) e base w v S∧S.length=l.length∧∀ (i:Nat) (s:Cl (Enc.n α)) (x:α),S[i]?=some s→l[i]?=some x→Enc.rep (Oko lo v) w s.l x
section
variable {α:Type} [Enc α] {lo base:Nat} {e:TypeId} {w w':World} {v v2:Value} {l k:List α}
theorem DRowO.d (h:DRowO lo e base w v l):DRow lo e base w v l:=by
 obtain ⟨S,h1,h2,h3⟩:=h
 exact ⟨S,h1,h2,fun i s x a b=>Enc.mono (fun q _ hq=>⟨.inl hq.1,hq.2⟩) (h3 i s x a b)⟩
theorem DRowO.nil:DRowO lo e base w (.slice none 0 0) ([]:List α):=⟨[],Row.nil,rfl,by simp⟩
theorem DRowO.ext (h:DRowO lo e base w v l) (k:Ext w w'):DRowO lo e base w' v l:=by
 obtain ⟨S,h1,h2,h3⟩:=h
 exact ⟨S,h1.ext k,h2,fun i s x a b=>Enc.keep (fun q _ hq=>k.block q hq) k.size (h3 i s x a b)⟩
theorem DRowO.lt (h:DRowO lo e base w v l):∀ q,v.ownBlock=some q→base≤q∧q<w.heap.size:=h.d.lt
theorem DRowO.own_lt (h:DRowO lo e base w v l):∀ q,v.ownBlock=some q→q<w.heap.size:=h.d.own_lt
theorem DRowO.sl (h:DRowO lo e base w v l):∃ a cap,v=.slice a l.length cap:=h.d.sl
theorem DRowO.rv (h:DRowO lo e base w v l):RV w v l:=h.d.rv
theorem DRowO.bnd {B:Nat} (h:DRowO lo e base w v l) (hB:B≤base):DRowO lo e B w v l:=by
 obtain ⟨S,h1,h2,h3⟩:=h
 exact ⟨S,h1.bnd hB,h2,h3⟩
theorem DRowO.ne_new {b:Nat} (h:DRowO lo e base w v l) (hb:w.heap.size≤b):some b≠v.ownBlock:=h.d.ne_new hb
theorem DRowO.ne_old {b:Nat} (h:DRowO lo e base w v l) (hb:b<base):some b≠v.ownBlock:=h.d.ne_old hb
theorem DRowO.chgb {b:Nat} (h:DRowO lo e base w v l) (c:Chg b w w') (h1:lo≤b) (h2:some b≠v.ownBlock):DRowO lo e base w' v l:=by
 obtain ⟨S,g1,g2,g3⟩:=h
 refine ⟨S,g1.chgn c h2,g2,fun i s x a d=>Enc.keep (fun q hq _=>c.other q fun e1=>?_) (by rw [c.size]; exact Nat.le_refl _) (g3 i s x a d)⟩
 have:=hq.1
 omega
end
section
variable {P:Program} {Q:Exit→Act→World→Prop} {n:Nat} {L:Fr} {D:List Deferred} {w:World} {ops:Array Oper} {rest:List Oper}
variable {ty:TypeId} {pos:String} {af:Array Edge} {x y:Operand}
variable {α:Type} [Enc α]
end
section
variable {P:Program} {Q:Exit→Act→World→Prop} {n:Nat} {L:Fr} {D:List Deferred} {w:World} {ops:Array Oper} {rest:List Oper}
variable {ty:TypeId} {pos:String} {af:Array Edge} {y:Operand}
end
section
variable {w0 w w':World} {n:Nat}
end
section
variable {P:Program} {n:Nat} {L:Fr} {w:World} {ty:TypeId} {pos:String} {af:Array Edge} {dst:Option Nat} {gdd:Option (Nat×Bool)} {x:Operand}
end
def stake {α:Type} (l:List α) (i:Int):Option (List α):=if 0≤i∧i≤l.length then some (l.take i.toNat) else none
theorem stake_spec {α:Type} {l r:List α} {i:Int} (h:stake l i=some r):0≤i∧i≤l.length∧r=l.take i.toNat:=by
 unfold stake at h
 split at h
 ·cases h; exact ⟨by omega,by omega,rfl⟩
 ·cases h
end Go.Md
end
section
namespace Go.Proofs.YtfmelbioccbdoaaGreat
open Go Go.Md Go.RowKit
attribute [local irreducible] Go.wpList Go.Code.wp Go.Calls Go.Md.Rnd Go.Md.Mt Go.Md.MtM Go.Md.RndM Go.Code.wpIn
theorem c251 {w0:World} {v0:Value} {x0:(List Int)} (r0:RV w0 v0 x0) {v1:Value} {x1:Int→Option Bool} (h1:FnB Tryz.prog Int w0 v1 x1) {F:Nat} {r:Int} (hF:slices_IndexFunc_int F x0 x1=some r) :
  Calls Tryz.prog 251 [v0,v1].toArray w0 (Ret fun v w'=>v=.int .i64 r∧Ext w0 w'):=by
 unfold slices_IndexFunc_int at hF
 have hz:=r0.sl; obtain ⟨a1,cq1,rfl,-,-,-⟩:=hz
 refine entr (n:=19) Tryz.func251 rfl rfl rfl<|Zr<|Za<|nl<|wp_seq<|Zr<|Zm<|Zv (xlen rfl Tryz.underlying41)<|Zm<|nl<|?_
 have hz:=bs hF; obtain ⟨o1,hB1,hF⟩:=hz
 refine ct (fun L w=>o1=.inr ()∧Ext w0 w) ?_ ?_
 ·
  refine wp_block<|lp (I:=fun m L w=>∃ y1:Int,slices_IndexFunc_int_l1 F x0 x1 m y1 =some o1∧L 8=.int .i64 y1∧L 0=.slice a1 x0.length cq1∧L 1=v1∧L 7=.int .i64 (x0.length:Int)∧Ext w0 w) F ⟨_,hB1,rfl,rfl,rfl,rfl,(Ext.refl _)⟩ ?_
  rintro m L w1 ⟨y1,hB1,l8_i1,l0_i1,l1_i1,l7_i1,K0_i1⟩
  rcases m with _ | m
  ·rw [slices_IndexFunc_int_l1] at hB1; cases hB1
  rw [slices_IndexFunc_int_l1] at hB1
  have h3:=h1.ext K0_i1
  refine Zr<|Zv (xlss l8_i1 l7_i1)<|nl<|wp_seq<|cnd rfl (fun h4=>?_) (fun h4=>?_)
  ·
   have hB1:=ifp hB1 h4
   refine wp_skip<|wp_seq<|wp_block<|Zr<|Zm<|Za<|nl<|Zr<|Zm<|Zm<|Zm<|?_
   have hz:=bs hB1; obtain ⟨x3,Ex3,hB1⟩:=hz
   have hz:=(RV.els r0).ix Ex3; obtain ⟨b3,f1,cs3,e1,i2,i3,q3,hc1⟩:=hz
   cases e1
   obtain rfl:=q3
   have hc2:=hc1.ext K0_i1
   refine Zv (xixs l0_i1 l8_i1 Tryz.underlying41 ti3 i2 i3)<|Zv (xld rfl ti3 (hc2.at 0 rfl))<|?_
   have hz:=bs hB1; obtain ⟨x4,Ex4,hB1⟩:=hz
   have hz:=id h3; obtain ⟨g1,fs1,cs4,e2,hg1,hu1⟩:=hz
   refine Zc (xcv (l1_i1.trans e2) hg1 (mc rfl mn) rfl) (hu1 _ _ _ _ (Ext.refl _) (RVo.int.2 rfl) Ex4) ?_
   rintro _ w2 ⟨rfl,hx1⟩
   have k1:=K0_i1.tr hx1
   refine nl<|cnd rfl (fun h6=>?_) (fun h6=>?_)
   ·
    have hB1:=ifp hB1 h6
    refine Zr<|Zm<|Za<|nl<|?_
    cases hB1
    have hF:=(show some _=some _ from hF); cases hF
    exact wp_ret<|rt rfl (.tmp l8_i1 rfl .nil) ⟨rfl,k1⟩
   ·
    have hB1:=ifn hB1 h6
    refine wp_skip<|rg<|Zv (xadd l8_i1 rfl)<|Zm<|nl<|?_
    refine lq m (Nat.lt_succ_self _)<|?_
    exact ⟨_,hB1,rfl,l0_i1,l1_i1,l7_i1,k1⟩
  ·
   have hB1:=ifn hB1 h4
   refine wp_exit<|?_
   cases hB1
   refine lf<|?_
   exact ⟨rfl,K0_i1⟩
 rintro L w3 ⟨rfl,K0_j1⟩
 refine Zr<|Za<|nl<|?_
 cases hF
 exact wp_ret<|rt rfl (.tmp rfl rfl .nil) ⟨rfl,K0_j1⟩
theorem c146 {w0:World} {v0:Value} {x0:(List Int)} (r0:RV w0 v0 x0) {v1:Value} {x1:Int→Option Bool} (h1:FnB Tryz.prog Int w0 v1 x1) {F:Nat} {r:Bool} (hF:slices_ContainsFunc_int F x0 x1=some r) :
  Calls Tryz.prog 146 [v0,v1].toArray w0 (Ret fun v w'=>v=.bool r∧Ext w0 w'):=by
 unfold slices_ContainsFunc_int at hF
 have hz:=r0.sl; obtain ⟨a1,cq1,rfl,-,-,-⟩:=hz
 refine entr (n:=9) Tryz.func146 rfl rfl rfl<|Zr<|Za<|nl<|Zr<|Zm<|Zm<|?_
 have hz:=bs hF; obtain ⟨x3,Ex3,hF⟩:=hz
 refine Zc (xc cb251 (mc rfl (mc rfl mn))) (c251 r0 h1 Ex3) ?_
 rintro _ w1 ⟨rfl,hx1⟩
 refine Zv (xgeq rfl rfl)<|Za<|nl<|?_
 cases hF
 exact wp_ret<|rt rfl (.tmp rfl rfl .nil) ⟨rfl,hx1⟩
theorem c201 {w0:World} {x0:Int} {b1:Nat} {cs1:List Value} {x1:Int} (h1:Cs w0 b1 0 cs1) (q1:Enc.rep (fun _=>True) w0 cs1 x1) {b2:Nat} {cs2:List Value} {x2:Int} (h2:Cs w0 b2 0 cs2) (q2:Enc.rep (fun _=>True) w0 cs2 x2) {r:Bool} (hF:speed_turns_1 x0 x1 x2=some r) :
  Calls Tryz.prog 201 [.int .i64 x0,.pointer (some ⟨b1,0,none⟩),.pointer (some ⟨b2,0,none⟩)].toArray w0 (Ret fun v w'=>v=.bool r∧Ext w0 w'):=by
 unfold speed_turns_1 at hF
 obtain rfl:=q1
 obtain rfl:=q2
 refine entr (n:=13) Tryz.func201 rfl rfl rfl<|Zr<|Za<|nl<|Zr<|Zm<|Zv (xld rfl ti3 (h1.at 0 rfl))<|Zv (xlss rfl rfl)<|Zm<|Zg rfl rfl (gw0 rfl) (fun hc=>xmva rfl)<|Zg rfl rfl (gw0 rfl) (fun hc=>xld rfl ti3 (h2.at 0 rfl))<|Zg rfl rfl (gw0 rfl) (fun hc=>xgtr (mv hc rfl) (mv hc rfl))<|Zv (xpo rfl rfl rfl)<|Za<|nl<|?_
 cases hF
 exact wp_ret<|rt rfl (.tmp rfl rfl .nil) ⟨rfl,(Ext.refl _)⟩
theorem c93 {w0:World} {x0:Int} {x1:Int} {v2:Value} {x2:(List Int)} (r2:RV w0 v2 x2) {F:Nat} {r:Bool} (hF:speed_turns F x0 x1 x2=some r) :
  Calls Tryz.prog 93 [.int .i64 x0,.int .i64 x1,v2].toArray w0 (Ret fun v w'=>v=.bool r∧Ext w0 w'):=by
 unfold speed_turns at hF
 have hz:=r2.sl; obtain ⟨a1,cq1,rfl,-,-,-⟩:=hz
 refine entr (n:=11) Tryz.func93 rfl rfl rfl<|Zr<|sbx rfl rfl fun b4 w1 hx1 hg1 hb1=>?_
 have r4:=r2.ext hx1
 refine sbx rfl rfl fun b5 w2 hx2 hg2 hb2=>?_
 have k1:=hx1.tr hx2
 have hb3:=hb1.ext hx2
 have r5:=r4.ext hx2
 refine Za<|nl<|Zr<|Zm<|Zv (xmf mn (mc rfl (mc rfl mn)))<|?_
 have hz:=bs hF; obtain ⟨x4,Ex4,hF⟩:=hz
 refine Zc (xc cb146 (mc rfl (mc rfl mn))) (c146 r5 ⟨201,[],[.pointer (some ⟨b4,0,none⟩),.pointer (some ⟨b5,0,none⟩)],rfl,cb201,fun w' u x b hk hu hp=>by cases RVo.int.1 hu; exact c201 (Bx.cs (hb3.ext hk)) rfl (Bx.cs (hb2.ext hk)) rfl hp⟩ Ex4) ?_
 rintro _ w3 ⟨rfl,hx3⟩
 have k2:=k1.tr hx3
 refine Zv (xnot rfl)<|Za<|nl<|?_
 cases hF
 exact wp_ret<|rt rfl (.tmp rfl rfl .nil) ⟨rfl,k2⟩
theorem c278 {w0:World} {v0:Value} {x0:(List Int)} (r0:RV w0 v0 x0) {v1:Value} {x1:Int→Option Bool} (h1:FnB Tryz.prog Int w0 v1 x1) {F:Nat} {r:Int} (hF:slices_IndexFunc_int64 F x0 x1=some r) :
  Calls Tryz.prog 278 [v0,v1].toArray w0 (Ret fun v w'=>v=.int .i64 r∧Ext w0 w'):=by
 unfold slices_IndexFunc_int64 at hF
 have hz:=r0.sl; obtain ⟨a1,cq1,rfl,-,-,-⟩:=hz
 refine entr (n:=19) Tryz.func278 rfl rfl rfl<|Zr<|Za<|nl<|wp_seq<|Zr<|Zm<|Zv (xlen rfl Tryz.underlying28)<|Zm<|nl<|?_
 have hz:=bs hF; obtain ⟨o1,hB1,hF⟩:=hz
 refine ct (fun L w=>o1=.inr ()∧Ext w0 w) ?_ ?_
 ·
  refine wp_block<|lp (I:=fun m L w=>∃ y1:Int,slices_IndexFunc_int64_l1 F x0 x1 m y1 =some o1∧L 8=.int .i64 y1∧L 0=.slice a1 x0.length cq1∧L 1=v1∧L 7=.int .i64 (x0.length:Int)∧Ext w0 w) F ⟨_,hB1,rfl,rfl,rfl,rfl,(Ext.refl _)⟩ ?_
  rintro m L w1 ⟨y1,hB1,l8_i1,l0_i1,l1_i1,l7_i1,K0_i1⟩
  rcases m with _ | m
  ·rw [slices_IndexFunc_int64_l1] at hB1; cases hB1
  rw [slices_IndexFunc_int64_l1] at hB1
  have h3:=h1.ext K0_i1
  refine Zr<|Zv (xlss l8_i1 l7_i1)<|nl<|wp_seq<|cnd rfl (fun h4=>?_) (fun h4=>?_)
  ·
   have hB1:=ifp hB1 h4
   refine wp_skip<|wp_seq<|wp_block<|Zr<|Zm<|Za<|nl<|Zr<|Zm<|Zm<|Zm<|?_
   have hz:=bs hB1; obtain ⟨x3,Ex3,hB1⟩:=hz
   have hz:=(RV.els r0).ix Ex3; obtain ⟨b3,f1,cs3,e1,i2,i3,q3,hc1⟩:=hz
   cases e1
   obtain rfl:=q3
   have hc2:=hc1.ext K0_i1
   refine Zv (xixs l0_i1 l8_i1 Tryz.underlying28 ti2 i2 i3)<|Zv (xld rfl ti2 (hc2.at 0 rfl))<|?_
   have hz:=bs hB1; obtain ⟨x4,Ex4,hB1⟩:=hz
   have hz:=id h3; obtain ⟨g1,fs1,cs4,e2,hg1,hu1⟩:=hz
   refine Zc (xcv (l1_i1.trans e2) hg1 (mc rfl mn) rfl) (hu1 _ _ _ _ (Ext.refl _) (RVo.int.2 rfl) Ex4) ?_
   rintro _ w2 ⟨rfl,hx1⟩
   have k1:=K0_i1.tr hx1
   refine nl<|cnd rfl (fun h6=>?_) (fun h6=>?_)
   ·
    have hB1:=ifp hB1 h6
    refine Zr<|Zm<|Za<|nl<|?_
    cases hB1
    have hF:=(show some _=some _ from hF); cases hF
    exact wp_ret<|rt rfl (.tmp l8_i1 rfl .nil) ⟨rfl,k1⟩
   ·
    have hB1:=ifn hB1 h6
    refine wp_skip<|rg<|Zv (xadd l8_i1 rfl)<|Zm<|nl<|?_
    refine lq m (Nat.lt_succ_self _)<|?_
    exact ⟨_,hB1,rfl,l0_i1,l1_i1,l7_i1,k1⟩
  ·
   have hB1:=ifn hB1 h4
   refine wp_exit<|?_
   cases hB1
   refine lf<|?_
   exact ⟨rfl,K0_i1⟩
 rintro L w3 ⟨rfl,K0_j1⟩
 refine Zr<|Za<|nl<|?_
 cases hF
 exact wp_ret<|rt rfl (.tmp rfl rfl .nil) ⟨rfl,K0_j1⟩
theorem c199 {w0:World} {v0:Value} {x0:(List Int)} (r0:RV w0 v0 x0) {v1:Value} {x1:Int→Option Bool} (h1:FnB Tryz.prog Int w0 v1 x1) {F:Nat} {r:Bool} (hF:slices_ContainsFunc_int64 F x0 x1=some r) :
  Calls Tryz.prog 199 [v0,v1].toArray w0 (Ret fun v w'=>v=.bool r∧Ext w0 w'):=by
 unfold slices_ContainsFunc_int64 at hF
 have hz:=r0.sl; obtain ⟨a1,cq1,rfl,-,-,-⟩:=hz
 refine entr (n:=9) Tryz.func199 rfl rfl rfl<|Zr<|Za<|nl<|Zr<|Zm<|Zm<|?_
 have hz:=bs hF; obtain ⟨x3,Ex3,hF⟩:=hz
 refine Zc (xc cb278 (mc rfl (mc rfl mn))) (c278 r0 h1 Ex3) ?_
 rintro _ w1 ⟨rfl,hx1⟩
 refine Zv (xgeq rfl rfl)<|Za<|nl<|?_
 cases hF
 exact wp_ret<|rt rfl (.tmp rfl rfl .nil) ⟨rfl,hx1⟩
theorem c200 {w0:World} {x0:Int} {b1:Nat} {cs1:List Value} {x1:Int} (h1:Cs w0 b1 0 cs1) (q1:Enc.rep (fun _=>True) w0 cs1 x1) {b2:Nat} {cs2:List Value} {x2:Int} (h2:Cs w0 b2 0 cs2) (q2:Enc.rep (fun _=>True) w0 cs2 x2) {r:Bool} (hF:speed_within_1 x0 x1 x2=some r) :
  Calls Tryz.prog 200 [.int .i64 x0,.pointer (some ⟨b1,0,none⟩),.pointer (some ⟨b2,0,none⟩)].toArray w0 (Ret fun v w'=>v=.bool r∧Ext w0 w'):=by
 unfold speed_within_1 at hF
 obtain rfl:=q1
 obtain rfl:=q2
 refine entr (n:=13) Tryz.func200 rfl rfl rfl<|Zr<|Za<|nl<|Zr<|Zm<|Zv (xld rfl ti2 (h1.at 0 rfl))<|Zv (xlss rfl rfl)<|Zm<|Zg rfl rfl (gw0 rfl) (fun hc=>xmva rfl)<|Zg rfl rfl (gw0 rfl) (fun hc=>xld rfl ti2 (h2.at 0 rfl))<|Zg rfl rfl (gw0 rfl) (fun hc=>xgtr (mv hc rfl) (mv hc rfl))<|Zv (xpo rfl rfl rfl)<|Za<|nl<|?_
 cases hF
 exact wp_ret<|rt rfl (.tmp rfl rfl .nil) ⟨rfl,(Ext.refl _)⟩
theorem c91 {w0:World} {x0:Int} {x1:Int} {v2:Value} {x2:(List Int)} (r2:RV w0 v2 x2) {F:Nat} {r:Bool} (hF:speed_within F x0 x1 x2=some r) :
  Calls Tryz.prog 91 [.int .i64 x0,.int .i64 x1,v2].toArray w0 (Ret fun v w'=>v=.bool r∧Ext w0 w'):=by
 unfold speed_within at hF
 have hz:=r2.sl; obtain ⟨a1,cq1,rfl,-,-,-⟩:=hz
 refine entr (n:=11) Tryz.func91 rfl rfl rfl<|Zr<|sbx rfl rfl fun b4 w1 hx1 hg1 hb1=>?_
 have r4:=r2.ext hx1
 refine sbx rfl rfl fun b5 w2 hx2 hg2 hb2=>?_
 have k1:=hx1.tr hx2
 have hb3:=hb1.ext hx2
 have r5:=r4.ext hx2
 refine Za<|nl<|Zr<|Zm<|Zv (xmf mn (mc rfl (mc rfl mn)))<|?_
 have hz:=bs hF; obtain ⟨x4,Ex4,hF⟩:=hz
 refine Zc (xc cb199 (mc rfl (mc rfl mn))) (c199 r5 ⟨200,[],[.pointer (some ⟨b4,0,none⟩),.pointer (some ⟨b5,0,none⟩)],rfl,cb200,fun w' u x b hk hu hp=>by cases RVo.int.1 hu; exact c200 (Bx.cs (hb3.ext hk)) rfl (Bx.cs (hb2.ext hk)) rfl hp⟩ Ex4) ?_
 rintro _ w3 ⟨rfl,hx3⟩
 have k2:=k1.tr hx3
 refine Zv (xnot rfl)<|Za<|nl<|?_
 cases hF
 exact wp_ret<|rt rfl (.tmp rfl rfl .nil) ⟨rfl,k2⟩
theorem c197 {w0:World} {v0:Value} {x0:(Int×Int×Int)} (r0:RV w0 v0 x0) {b1:Nat} {cs1:List Value} {x1:(Int×(List (Int×Int×Int)))} (h1:Cs w0 b1 0 cs1) (q1:Enc.rep (fun _=>True) w0 cs1 x1) {F:Nat} {r:Bool} (hF:speed_CheckSheet_1 F x0 x1=some r) :
  Calls Tryz.prog 197 [v0,.pointer (some ⟨b1,0,none⟩)].toArray w0 (Ret fun v w'=>v=.bool r∧Ext w0 w'):=by
 unfold speed_CheckSheet_1 at hF
 have hz:=id r0; obtain ⟨_,rfl,⟨_,_,rfl,rfl,⟨_,_,rfl,rfl,rfl⟩⟩⟩:=hz
 obtain ⟨_,_,rfl,rfl,⟨a1,cq1,rfl,p1,q3,e1⟩⟩:=q1
 refine entr (n:=27) Tryz.func197 rfl rfl rfl<|Zr<|sbx rfl rfl fun b3 w1 hx1 hg1 hb1=>?_
 have h3:=h1.ext hx1
 refine Za<|nl<|Zr<|Zv (xfa rfl fa24_0)<|Zv (xld rfl ti3 (h3.at 0 rfl))<|Zv (xfa rfl fa58_0)<|Zv (xld rfl ti3 ((Bx.cs hb1).at 0 rfl))<|Zv (xfa rfl fa58_1)<|Zv (xld rfl ti3 ((Bx.cs hb1).at 1 rfl))<|sbsv (cs:=[.int .i64 x0.1,.int .i64 x0.2.1]) Tryz.underlying41 ti3 rfl (pc rfl (pc rfl pn)) rfl rfl rfl rfl rfl fun b4 w2 hx2 hg2 hb2=>?_
 have k1:=hx1.tr hx2
 have hb3:=hb1.ext hx2
 have o1:Row (α:=Int) 3 w1.heap.size w2 (.slice (some ⟨b4,0,none⟩) 2 2) [x0.1,x0.2.1]:=Row.lit hg2 hb2 rfl (ble rfl)
 have hz:=bs hF; obtain ⟨x3,Ex3,hF⟩:=hz
 refine Zc (xc cb93 (mc rfl (mc rfl (mc rfl mn)))) (c93 o1.rv Ex3) ?_
 rintro _ w3 ⟨rfl,hx3⟩
 have k2:=k1.tr hx3
 have hb4:=hb3.ext hx3
 refine Zv (xnot rfl)<|Zm<|Zg rfl rfl (gw0 rfl) (fun hc=>xfa rfl fa58_0)<|Zg rfl rfl (gw0 rfl) (fun hc=>xld (mv hc rfl) ti3 ((Bx.cs hb4).at 0 rfl))<|Zg rfl rfl (gw0 rfl) (fun hc=>xfa rfl fa58_1)<|Zg rfl rfl (gw0 rfl) (fun hc=>xld (mv hc rfl) ti3 ((Bx.cs hb4).at 1 rfl))<|Zg rfl rfl (gw0 rfl) (fun hc=>xeql (mv hc rfl) (mv hc rfl))<|Zv (xpo rfl rfl rfl)<|Zm<|Zg rfl rfl (gw0 rfl) (fun hc=>xfa rfl fa58_2)<|Zg rfl rfl (gw0 rfl) (fun hc=>xld (mv hc rfl) ti2 ((Bx.cs hb4).at 2 rfl))<|gm (fun v w=>RV w v ([x0.2.2]:List Int)∧Ext w3 w) rfl rfl rfl rfl (gw0 rfl) rfl (fun hc=>sbsv (cs:=[.int .i64 x0.2.2]) Tryz.underlying28 ti2 rfl (pc (mv hc rfl) pn) rfl rfl rfl rfl rfl fun b w' hx hg hb=>nl ⟨_,rfl,(Row.lit (base:=0) (l:=([x0.2.2]:List Int)) (Nat.zero_le _) hb rfl (ble rfl)).rv,hx⟩) (fun v3 w4 hy1 hn1=>?_)
 have hx4:Ext w3 w4:=gx (fun h=>(hy1 h).2) (fun h=>(hn1 h).2 ▸ Ext.refl _)
 have k4:=k2.tr hx4
 have hz:=bs hF; obtain ⟨x4,Ex4,hF⟩:=hz
 refine gc rfl rfl rfl rfl (gw0 rfl) rfl (fun hc=>xc cb91 (mc rfl (mc rfl (mc rfl mn)))) (fun hc=>(c91 ((hy1 hc).1) (gdp Ex4 hc))) (fun v4 w5 hy2 hn2=>?_)
 have hx5:Ext w4 w5:=gx (fun h=>(hy2 h).2) (fun h=>(hn2 h).2 ▸ Ext.refl _)
 have e2:=mkw (fun h=>(hy2 h).1) (fun h=>(hn2 h).1)
 have k6:=k4.tr hx5
 refine Zg rfl rfl (gw0 rfl) (fun hc=>xnot (mv hc e2))<|Zv (xpo rfl rfl rfl)<|Za<|nl<|?_
 cases hF
 exact wp_ret<|rt rfl (.tmp rfl rfl .nil) ⟨rfl,k6⟩
theorem c277 {w0:World} {v0:Value} {x0:(List (Int×Int×Int))} (r0:RV w0 v0 x0) {v1:Value} {x1:(Int×Int×Int)→Option Bool} (h1:FnB Tryz.prog (Int×Int×Int) w0 v1 x1) {F:Nat} {r:Int} (hF:slices_IndexFunc_api_SpeedRule F x0 x1=some r) :
  Calls Tryz.prog 277 [v0,v1].toArray w0 (Ret fun v w'=>v=.int .i64 r∧Ext w0 w'):=by
 unfold slices_IndexFunc_api_SpeedRule at hF
 have hz:=r0.sl; obtain ⟨a1,cq1,rfl,-,-,-⟩:=hz
 refine entr (n:=19) Tryz.func277 rfl rfl rfl<|Zr<|Za<|nl<|wp_seq<|Zr<|Zm<|Zv (xlen rfl Tryz.underlying22)<|Zm<|nl<|?_
 have hz:=bs hF; obtain ⟨o1,hB1,hF⟩:=hz
 refine ct (fun L w=>o1=.inr ()∧Ext w0 w) ?_ ?_
 ·
  refine wp_block<|lp (I:=fun m L w=>∃ y1:Int,slices_IndexFunc_api_SpeedRule_l1 F x0 x1 m y1 =some o1∧L 8=.int .i64 y1∧L 0=.slice a1 x0.length cq1∧L 1=v1∧L 7=.int .i64 (x0.length:Int)∧Ext w0 w) F ⟨_,hB1,rfl,rfl,rfl,rfl,(Ext.refl _)⟩ ?_
  rintro m L w1 ⟨y1,hB1,l8_i1,l0_i1,l1_i1,l7_i1,K0_i1⟩
  rcases m with _ | m
  ·rw [slices_IndexFunc_api_SpeedRule_l1] at hB1; cases hB1
  rw [slices_IndexFunc_api_SpeedRule_l1] at hB1
  have h3:=h1.ext K0_i1
  refine Zr<|Zv (xlss l8_i1 l7_i1)<|nl<|wp_seq<|cnd rfl (fun h4=>?_) (fun h4=>?_)
  ·
   have hB1:=ifp hB1 h4
   refine wp_skip<|wp_seq<|wp_block<|Zr<|Zm<|Za<|nl<|Zr<|Zm<|Zm<|Zm<|?_
   have hz:=bs hB1; obtain ⟨x3,Ex3,hB1⟩:=hz
   have hz:=(RV.els r0).ix Ex3; obtain ⟨b3,f1,cs3,e1,i2,i3,q3,hc1⟩:=hz
   cases e1
   obtain ⟨_,_,rfl,rfl,⟨_,_,rfl,rfl,rfl⟩⟩:=q3
   have hc2:=hc1.ext K0_i1
   refine Zv (xixs l0_i1 l8_i1 Tryz.underlying22 ti58 i2 i3)<|Zv (xlda rfl ti58 rfl hc2)<|?_
   have hz:=bs hB1; obtain ⟨x4,Ex4,hB1⟩:=hz
   have hz:=id h3; obtain ⟨g1,fs1,cs4,e2,hg1,hu1⟩:=hz
   refine Zc (xcv (l1_i1.trans e2) hg1 (mc rfl mn) rfl) (hu1 _ _ _ _ (Ext.refl _) (show RV (α:=(Int×Int×Int)) _ (.agg [.int .i64 x3.1,.int .i64 x3.2.1,.int .i64 x3.2.2].toArray) (x3.1,x3.2.1,x3.2.2) from ⟨_,rfl,⟨[.int .i64 x3.1],[.int .i64 x3.2.1]++[.int .i64 x3.2.2],rfl,rfl,⟨[.int .i64 x3.2.1],[.int .i64 x3.2.2],rfl,rfl,rfl⟩⟩⟩) Ex4) ?_
   rintro _ w2 ⟨rfl,hx1⟩
   have k1:=K0_i1.tr hx1
   refine nl<|cnd rfl (fun h6=>?_) (fun h6=>?_)
   ·
    have hB1:=ifp hB1 h6
    refine Zr<|Zm<|Za<|nl<|?_
    cases hB1
    have hF:=(show some _=some _ from hF); cases hF
    exact wp_ret<|rt rfl (.tmp l8_i1 rfl .nil) ⟨rfl,k1⟩
   ·
    have hB1:=ifn hB1 h6
    refine wp_skip<|rg<|Zv (xadd l8_i1 rfl)<|Zm<|nl<|?_
    refine lq m (Nat.lt_succ_self _)<|?_
    exact ⟨_,hB1,rfl,l0_i1,l1_i1,l7_i1,k1⟩
  ·
   have hB1:=ifn hB1 h4
   refine wp_exit<|?_
   cases hB1
   refine lf<|?_
   exact ⟨rfl,K0_i1⟩
 rintro L w3 ⟨rfl,K0_j1⟩
 refine Zr<|Za<|nl<|?_
 cases hF
 exact wp_ret<|rt rfl (.tmp rfl rfl .nil) ⟨rfl,K0_j1⟩
theorem c198 {w0:World} {v0:Value} {x0:(List (Int×Int×Int))} (r0:RV w0 v0 x0) {v1:Value} {x1:(Int×Int×Int)→Option Bool} (h1:FnB Tryz.prog (Int×Int×Int) w0 v1 x1) {F:Nat} {r:Bool} (hF:slices_ContainsFunc_api_SpeedRule F x0 x1=some r) :
  Calls Tryz.prog 198 [v0,v1].toArray w0 (Ret fun v w'=>v=.bool r∧Ext w0 w'):=by
 unfold slices_ContainsFunc_api_SpeedRule at hF
 have hz:=r0.sl; obtain ⟨a1,cq1,rfl,-,-,-⟩:=hz
 refine entr (n:=9) Tryz.func198 rfl rfl rfl<|Zr<|Za<|nl<|Zr<|Zm<|Zm<|?_
 have hz:=bs hF; obtain ⟨x3,Ex3,hF⟩:=hz
 refine Zc (xc cb277 (mc rfl (mc rfl mn))) (c277 r0 h1 Ex3) ?_
 rintro _ w1 ⟨rfl,hx1⟩
 refine Zv (xgeq rfl rfl)<|Za<|nl<|?_
 cases hF
 exact wp_ret<|rt rfl (.tmp rfl rfl .nil) ⟨rfl,hx1⟩
theorem c90 {w0:World} {v0:Value} {x0:(Int×(List (Int×Int×Int)))} (r0:RV w0 v0 x0) {F:Nat} {r:Int} (hF:speed_CheckSheet F x0=some r) :
  Calls Tryz.prog 90 [v0].toArray w0 (Ret fun v w'=>v=.int .i64 r∧Ext w0 w'):=by
 unfold speed_CheckSheet at hF
 have hz:=id r0; obtain ⟨_,rfl,⟨_,_,rfl,rfl,⟨a1,cq1,rfl,p1,q2,e1⟩⟩⟩:=hz
 have r2:=RV.of1 p1 q2 e1
 refine entr (n:=21) Tryz.func90 rfl rfl rfl<|Zr<|sbx rfl rfl fun b2 w1 hx1 hg1 hb1=>?_
 have r3:=r2.ext hx1
 refine Za<|nl<|Zr<|Zv (xmf mn (mc rfl mn))<|Za<|nl<|wp_seq<|wp_block<|Zr<|Zv (xfa rfl fa24_1)<|Zv (xld rfl ti22 ((Bx.cs hb1).at 1 rfl))<|Zv (xlen rfl Tryz.underlying22)<|Zv (xgtr rfl rfl)<|Za<|nl<|cnd rfl (fun h2=>?_) (fun h2=>?_)
 ·
  have hF:=ifp hF h2
  refine Zr<|Za<|nl<|?_
  cases hF
  exact wp_ret<|rt rfl (.tmp rfl rfl .nil) ⟨rfl,hx1⟩
 ·
  have hF:=ifn hF h2
  refine Zr<|Zv (xfa rfl fa24_0)<|Zv (xld rfl ti3 ((Bx.cs hb1).at 0 rfl))<|sbsv (cs:=[.int .i64 x0.1]) Tryz.underlying41 ti3 rfl (pc rfl pn) rfl rfl rfl rfl rfl fun b3 w2 hx2 hg2 hb2=>?_
  have k1:=hx1.tr hx2
  have hb3:=hb1.ext hx2
  have r5:=r3.ext hx2
  have o1:Row (α:=Int) 3 w1.heap.size w2 (.slice (some ⟨b3,0,none⟩) 1 1) [x0.1]:=Row.lit hg2 hb2 rfl (ble rfl)
  have hz:=bs hF; obtain ⟨x2,Ex2,hF⟩:=hz
  refine Zc (xc cb93 (mc rfl (mc rfl (mc rfl mn)))) (c93 o1.rv Ex2) ?_
  rintro _ w3 ⟨rfl,hx3⟩
  have k2:=k1.tr hx3
  have hb4:=hb3.ext hx3
  have r7:=r5.ext hx3
  refine Zv (xnot rfl)<|Za<|nl<|cnd rfl (fun h3=>?_) (fun h3=>?_)
  ·
   have hF:=ifp hF h3
   refine Zr<|Za<|nl<|?_
   cases hF
   exact wp_ret<|rt rfl (.tmp rfl rfl .nil) ⟨rfl,k2⟩
  ·
   have hF:=ifn hF h3
   refine Zr<|Zv (xfa rfl fa24_1)<|Zv (xld rfl ti22 ((Bx.cs hb4).at 1 rfl))<|Zm<|?_
   have hz:=bs hF; obtain ⟨x3,Ex3,hF⟩:=hz
   refine Zc (xc cb198 (mc rfl (mc rfl mn))) (c198 r7 ⟨197,[],[.pointer (some ⟨b2,0,none⟩)],rfl,cb197,fun w' u x b hk hu hp=>c197 hu (Bx.cs (hb4.ext hk)) ⟨[.int .i64 x0.1],[.slice a1 x0.2.length cq1],rfl,rfl,(r7.ext hk).rep1⟩ hp⟩ Ex3) ?_
   rintro _ w4 ⟨rfl,hx4⟩
   have k4:=k2.tr hx4
   refine Za<|nl<|cnd rfl (fun h4=>?_) (fun h4=>?_)
   ·
    have hF:=ifp hF h4
    refine Zr<|Za<|nl<|?_
    cases hF
    exact wp_ret<|rt rfl (.tmp rfl rfl .nil) ⟨rfl,k4⟩
   ·
    have hF:=ifn hF h4
    refine wp_skip<|Zr<|Za<|nl<|?_
    cases hF
    exact wp_ret<|rt rfl (.tmp rfl rfl .nil) ⟨rfl,k4⟩
theorem c173 {w0:World} {v0:Value} {x0:(Int×Int×Int)} (r0:RV w0 v0 x0) {x1:Int} {r:Bool} (hF:ref01_IsRule x0 x1=some r) :
  Calls Tryz.prog 173 [v0,.int .i64 x1].toArray w0 (Ret fun v w'=>v=.bool r∧Ext w0 w'):=by
 unfold ref01_IsRule at hF
 have hz:=id r0; obtain ⟨_,rfl,⟨_,_,rfl,rfl,⟨_,_,rfl,rfl,rfl⟩⟩⟩:=hz
 refine entr (n:=42) Tryz.func173 rfl rfl rfl<|Zr<|sbx rfl rfl fun b3 w1 hx1 hg1 hb1=>?_
 refine Za<|nl<|Zr<|Zv (xfa rfl fa58_0)<|Zv (xld rfl ti3 ((Bx.cs hb1).at 0 rfl))<|Zv (xgeq rfl rfl)<|Zm<|Zg rfl rfl (gw1 rfl) (fun hc=>xfa rfl fa58_0)<|Zg rfl rfl (gw1 rfl) (fun hc=>xld (mv hc rfl) ti3 ((Bx.cs hb1).at 0 rfl))<|Zg rfl rfl (gw1 rfl) (fun hc=>xmva rfl)<|Zg rfl rfl (gw1 rfl) (fun hc=>xleq (mv hc rfl) (mv hc rfl))<|Zv (xpa rfl rfl rfl)<|Zm<|Zg rfl rfl (gw1 rfl) (fun hc=>xfa rfl fa58_1)<|Zg rfl rfl (gw1 rfl) (fun hc=>xld (mv hc rfl) ti3 ((Bx.cs hb1).at 1 rfl))<|Zg rfl rfl (gw1 rfl) (fun hc=>xgeq (mv hc rfl) rfl)<|Zv (xpa rfl rfl rfl)<|Zm<|Zg rfl rfl (gw1 rfl) (fun hc=>xfa rfl fa58_1)<|Zg rfl rfl (gw1 rfl) (fun hc=>xld (mv hc rfl) ti3 ((Bx.cs hb1).at 1 rfl))<|Zg rfl rfl (gw1 rfl) (fun hc=>xmva rfl)<|Zg rfl rfl (gw1 rfl) (fun hc=>xleq (mv hc rfl) (mv hc rfl))<|Zv (xpa rfl rfl rfl)<|Zm<|Zg rfl rfl (gw1 rfl) (fun hc=>xfa rfl fa58_0)<|Zg rfl rfl (gw1 rfl) (fun hc=>xld (mv hc rfl) ti3 ((Bx.cs hb1).at 0 rfl))<|Zg rfl rfl (gw1 rfl) (fun hc=>xfa rfl fa58_1)<|Zg rfl rfl (gw1 rfl) (fun hc=>xld (mv hc rfl) ti3 ((Bx.cs hb1).at 1 rfl))<|Zg rfl rfl (gw1 rfl) (fun hc=>xneq (mv hc rfl) (mv hc rfl))<|Zv (xpa rfl rfl rfl)<|Zm<|Zg rfl rfl (gw1 rfl) (fun hc=>xfa rfl fa58_2)<|Zg rfl rfl (gw1 rfl) (fun hc=>xld (mv hc rfl) ti2 ((Bx.cs hb1).at 2 rfl))<|Zg rfl rfl (gw1 rfl) (fun hc=>xgeq (mv hc rfl) rfl)<|Zv (xpa rfl rfl rfl)<|Zm<|Zg rfl rfl (gw1 rfl) (fun hc=>xfa rfl fa58_2)<|Zg rfl rfl (gw1 rfl) (fun hc=>xld (mv hc rfl) ti2 ((Bx.cs hb1).at 2 rfl))<|Zg rfl rfl (gw1 rfl) (fun hc=>xleq (mv hc rfl) rfl)<|Zv (xpa rfl rfl rfl)<|Za<|nl<|?_
 cases hF
 exact wp_ret<|rt rfl (.tmp rfl rfl .nil) ⟨rfl,hx1⟩
theorem c84 {w0:World} {v0:Value} {x0:(Int×(List (Int×Int×Int)))} (r0:RV w0 v0 x0) {F:Nat} {r:Int} (hF:ref01_CheckSheet F x0=some r) :
  Calls Tryz.prog 84 [v0].toArray w0 (Ret fun v w'=>v=.int .i64 r∧Ext w0 w'):=by
 unfold ref01_CheckSheet at hF
 have hz:=id r0; obtain ⟨_,rfl,⟨_,_,rfl,rfl,⟨a1,cq1,rfl,p1,q2,e1⟩⟩⟩:=hz
 have r2:=RV.of1 p1 q2 e1
 refine entr (n:=32) Tryz.func84 rfl rfl rfl<|Zr<|sbx rfl rfl fun b2 w1 hx1 hg1 hb1=>?_
 refine Za<|nl<|wp_seq<|Zr<|Zv (xfa rfl fa24_1)<|Zv (xld rfl ti22 ((Bx.cs hb1).at 1 rfl))<|Zv (xlen rfl Tryz.underlying22)<|Zv (xgtr rfl rfl)<|nl<|cnd rfl (fun h2=>?_) (fun h2=>?_)
 ·
  have hF:=ifp hF h2
  refine Zr<|Za<|nl<|?_
  cases hF
  exact wp_ret<|rt rfl (.tmp rfl rfl .nil) ⟨rfl,hx1⟩
 ·
  have hF:=ifn hF h2
  refine wp_skip<|wp_seq<|Zr<|Zv (xfa rfl fa24_0)<|Zv (xld rfl ti3 ((Bx.cs hb1).at 0 rfl))<|Zv (xlss rfl rfl)<|Zm<|Zg rfl rfl (gw0 rfl) (fun hc=>xfa rfl fa24_0)<|Zg rfl rfl (gw0 rfl) (fun hc=>xld (mv hc rfl) ti3 ((Bx.cs hb1).at 0 rfl))<|Zg rfl rfl (gw0 rfl) (fun hc=>xgtr (mv hc rfl) rfl)<|Zv (xpo rfl rfl rfl)<|nl<|cnd rfl (fun h3=>?_) (fun h3=>?_)
  ·
   have hF:=ifp hF h3
   refine Zr<|Za<|nl<|?_
   cases hF
   exact wp_ret<|rt rfl (.tmp rfl rfl .nil) ⟨rfl,hx1⟩
  ·
   have hF:=ifn hF h3
   refine wp_skip<|wp_seq<|Zr<|Za<|nl<|?_
   have hz:=bs hF; obtain ⟨o1,hB1,hF⟩:=hz
   refine ct (fun L w=>o1=.inr ()∧Ext w1 w) ?_ ?_
   ·
    refine wp_block<|lp (I:=fun m L w=>∃ y1:Int,ref01_CheckSheet_l1 F x0 m y1 =some o1∧L 3=.int .i64 y1∧L 1=.pointer (some ⟨b2,0,none⟩)∧Ext w1 w) F ⟨_,hB1,rfl,rfl,(Ext.refl _)⟩ ?_
    rintro m L w2 ⟨y1,hB1,l3_i1,l1_i1,K0_i1⟩
    rcases m with _ | m
    ·rw [ref01_CheckSheet_l1] at hB1; cases hB1
    rw [ref01_CheckSheet_l1] at hB1
    have k1:=hx1.tr K0_i1
    have hb2:=hb1.ext K0_i1
    refine wp_seq<|Zr<|Zm<|Zv (xfa l1_i1 fa24_1)<|Zv (xld rfl ti22 ((Bx.cs hb2).at 1 rfl))<|Zv (xlen rfl Tryz.underlying22)<|Zv (xlss l3_i1 rfl)<|nl<|cnd rfl (fun h4=>?_) (fun h4=>?_)
    ·
     have hB1:=ifp hB1 h4
     refine wp_skip<|wp_seq<|wp_block<|wp_seq<|wpl [] (.pure true 0 (.pure false 1 (.pure true 2 (.pure true 3 (.pure false 4 (.pure true 5 (.pure false 6 (.eff 7 (.pure true 8 .fin) .stop)))))))) mixed (by kernel_rfl) (fun w3 hx2=>?_)
     have k2:=k1.tr hx2
     have k3:=K0_i1.tr hx2
     have hb3:=hb2.ext hx2
     refine Zp rfl (fun _=>xfa l1_i1 fa24_1)<|Zq rfl (fun _ hS=>xld rfl ti22 ((Bx.cs (hb3.ext (hS.resolve_left nofun))).at 1 rfl)) (Ext.refl _)<|Zn rfl<|?_
     have hz:=bs hB1; obtain ⟨x2,Ex2,hB1⟩:=hz
     have hz:=(RV.els r2).ix Ex2; obtain ⟨b3,f1,cs2,e2,i2,i3,q3,hc1⟩:=hz
     cases e2
     obtain ⟨_,_,rfl,rfl,⟨_,_,rfl,rfl,rfl⟩⟩:=q3
     have hc2:=hc1.ext k2
     refine Zp rfl (fun _=>xixs rfl l3_i1 Tryz.underlying22 ti58 i2 i3)<|Zq rfl (fun _ hS=>xlda rfl ti58 rfl (hc2.ext (hS.resolve_left nofun))) (Ext.refl _)<|Zp rfl (fun _=>xfa l1_i1 fa24_0)<|Zq rfl (fun _ hS=>xld rfl ti3 ((Bx.cs (hb3.ext (hS.resolve_left nofun))).at 0 rfl)) (Ext.refl _)<|?_
     have hz:=bs hB1; obtain ⟨x3,Ex3,hB1⟩:=hz
     refine pe1 rfl<|Zc (xc cb173 (mc rfl (mc rfl mn))) (c173 (show RV (α:=(Int×Int×Int)) _ (.agg [.int .i64 x2.1,.int .i64 x2.2.1,.int .i64 x2.2.2].toArray) (x2.1,x2.2.1,x2.2.2) from ⟨_,rfl,⟨[.int .i64 x2.1],[.int .i64 x2.2.1]++[.int .i64 x2.2.2],rfl,rfl,⟨[.int .i64 x2.2.1],[.int .i64 x2.2.2],rfl,rfl,rfl⟩⟩⟩) Ex3) ?_
     rintro _ w4 ⟨rfl,hx3⟩
     have k4:=k2.tr hx3
     have k5:=k3.tr hx3
     refine nl ⟨fun _ _=>hx3,?_⟩
     refine Zp rfl (fun _=>xnot rfl)<|cnd rfl (fun h5=>?_) (fun h5=>?_)
     ·
      have hB1:=ifp hB1 h5
      refine Zr<|Za<|nl<|?_
      cases hB1
      have hF:=(show some _=some _ from hF); cases hF
      exact wp_ret<|rt rfl (.tmp rfl rfl .nil) ⟨rfl,k4⟩
     ·
      have hB1:=ifn hB1 h5
      refine wp_skip<|rg<|Zm<|Zv (xadd l3_i1 rfl)<|Za<|nl<|?_
      refine lq m (Nat.lt_succ_self _)<|?_
      exact ⟨_,hB1,rfl,l1_i1,k5⟩
    ·
     have hB1:=ifn hB1 h4
     refine wp_exit<|?_
     cases hB1
     refine lf<|?_
     exact ⟨rfl,K0_i1⟩
   rintro L w5 ⟨rfl,K0_j1⟩
   have k6:=hx1.tr K0_j1
   refine Zr<|Za<|nl<|?_
   cases hF
   exact wp_ret<|rt rfl (.tmp rfl rfl .nil) ⟨rfl,k6⟩
theorem c112 {w0:World} {v0:Value} {x0:(Int×(List (Int×Int×Int)))} (r0:RV w0 v0 x0) {F:Nat} {r:(List (Int×Int×Int))} (hF:ref01_All F x0=some r) :
  Calls Tryz.prog 112 [v0].toArray w0 (Ret fun v w'=>∃ u0:Value,v=u0∧RV w' u0 r∧Ext w0 w'):=by
 unfold ref01_All at hF
 have hz:=id r0; obtain ⟨_,rfl,⟨_,_,rfl,rfl,⟨a1,cq1,rfl,p1,q2,e1⟩⟩⟩:=hz
 have r2:=RV.of1 p1 q2 e1
 refine entr (n:=23) Tryz.func112 rfl rfl rfl<|Zr<|sbx rfl rfl fun b2 w1 hx1 hg1 hb1=>?_
 have r3:=r2.ext hx1
 refine Za<|nl<|Zr<|sbsv (cs:=[]) Tryz.underlying22 ti58 rfl pn rfl rfl rfl rfl rfl fun b3 w2 hx2 hg2 hb2=>?_
 have hb3:=hb1.ext hx2
 have r5:=r3.ext hx2
 have o1:Row (α:=(Int×Int×Int)) 58 w1.heap.size w2 (.slice (some ⟨b3,0,none⟩) 0 0) []:=Row.lit hg2 hb2 rfl (ble rfl)
 refine Zv (xfa rfl fa24_1)<|Zv (xld rfl ti22 ((Bx.cs hb3).at 1 rfl))<|?_
 have hz:=bs hF; obtain ⟨x2,Ex2,hF⟩:=hz
 refine sapx (l:=([]:List (Int×Int×Int))) (k:=x0.2) rfl rfl Tryz.underlying22 ti58 rfl rfl o1 (RV.els r5) Ex2 hx2.size fun v2 w3 o2 hB1 hgr1 how1=>?_
 have k3:Ext w1 w3:=hx2.trans hB1
 have hz:=RV.sl o2.rv; obtain ⟨a2,cq2,rfl,-,-,-⟩:=hz
 refine Za<|nl<|wp_seq<|Zr<|Za<|nl<|?_
 have hz:=bs hF; obtain ⟨z1,hB2,hF⟩:=hz
 refine ct (fun L w=>∃ v4:Value,L 3=v4∧Row 58 w1.heap.size w v4 z1∧Ext w1 w) ?_ ?_
 ·
  refine wp_block<|lp (I:=fun m L w=>∃ y1:(List (Int×Int×Int)),∃ y2:Int,∃ v3:Value,ref01_All_l1 F x0 m y1 y2 =some z1∧L 3=v3∧Row 58 w1.heap.size w v3 y1∧L 4=.int .i64 y2∧L 1=.pointer (some ⟨b2,0,none⟩)∧Ext w1 w) F ⟨_,_,_,hB2,rfl,o2,rfl,rfl,k3⟩ ?_
  rintro m L w4 ⟨y1,y2,v3,hB2,l3_i1,O3_i1,l4_i1,l1_i1,K0_i1⟩
  rcases m with _ | m
  ·rw [ref01_All_l1] at hB2; cases hB2
  rw [ref01_All_l1] at hB2
  have hb5:=hb1.ext K0_i1
  have hz:=RV.sl O3_i1.rv; obtain ⟨a3,cq3,rfl,-,-,-⟩:=hz
  refine wp_seq<|Zr<|Zm<|Zv (xfa l1_i1 fa24_0)<|Zv (xld rfl ti3 ((Bx.cs hb5).at 0 rfl))<|Zv (xleq l4_i1 rfl)<|nl<|cnd rfl (fun h2=>?_) (fun h2=>?_)
  ·
   have hB2:=ifp hB2 h2
   refine wp_skip<|wp_seq<|wp_block<|rg<|Zm<|Zm<|Zv (xbdv (r:=[.int .i64 0,.int .i64 y2,.int .i64 100000]) ti58 sp58 (pc rfl (pc l4_i1 (pc rfl pn))) rfl)<|Zm<|Zv (xbdv (r:=[.int .i64 y2,.int .i64 0,.int .i64 0]) ti58 sp58 (pc l4_i1 (pc rfl (pc rfl pn))) rfl)<|sbsv (cs:=[.int .i64 0,.int .i64 y2,.int .i64 100000,.int .i64 y2,.int .i64 0,.int .i64 0]) Tryz.underlying22 ti58 rfl (pc rfl (pc rfl pn)) rfl rfl rfl rfl rfl fun b4 w5 hx3 hg3 hb6=>?_
   have k6:=K0_i1.tr hx3
   have O1:=O3_i1.ext hx3
   have o4:Row (α:=(Int×Int×Int)) 58 w4.heap.size w5 (.slice (some ⟨b4,0,none⟩) 2 2) [(0,y2,100000),(y2,0,0)]:=Row.lit hg3 hb6 rfl (ble rfl)
   have hz:=bs hB2; obtain ⟨x3,Ex3,hB2⟩:=hz
   refine sapx (l:=y1) (k:=([(0,y2,100000),(y2,0,0)]:List (Int×Int×Int))) l3_i1 rfl Tryz.underlying22 ti58 rfl rfl O1 (RV.els o4.rv) Ex3 k6.size fun v5 w6 o5 hB4 hgr2 how2=>?_
   have k8:Ext w1 w6:=k6.trans hB4
   have hz:=RV.sl o5.rv; obtain ⟨a4,cq4,rfl,-,-,-⟩:=hz
   refine Za<|nl<|rg<|Zm<|Zv (xadd l4_i1 rfl)<|Za<|nl<|?_
   refine lq m (Nat.lt_succ_self _)<|?_
   exact ⟨_,_,_,hB2,rfl,o5,rfl,l1_i1,k8⟩
  ·
   have hB2:=ifn hB2 h2
   refine wp_exit<|?_
   cases hB2
   refine lf<|?_
   exact ⟨_,l3_i1,O3_i1,K0_i1⟩
 rintro L w7 ⟨v4,l3_j1,O3_j1,K0_j1⟩
 have k9:=hx1.tr K0_j1
 have hz:=RV.sl O3_j1.rv; obtain ⟨a5,cq5,rfl,-,-,-⟩:=hz
 refine Zr<|Zm<|Za<|nl<|?_
 cases hF
 exact wp_ret<|rt rfl (.tmp l3_j1 rfl .nil) ⟨_,rfl,O3_j1.rv,k9⟩
theorem c111 {w0:World} {v0:Value} {x0:(Int×(List (Int×Int×Int)))} (r0:RV w0 v0 x0) {v1:Value} {x1:(List Int)} (r1:RV w0 v1 x1) {F:Nat} {r:(Int×Int)} (hF:ref01_chain F x0 x1=some r) :
  Calls Tryz.prog 111 [v0,v1].toArray w0 (Ret fun v w'=>v=.tuple #[.int .i64 r.1,.int .i64 r.2]∧Ext w0 w'):=by
 unfold ref01_chain at hF
 have hz:=id r0; obtain ⟨_,rfl,⟨_,_,rfl,rfl,⟨a1,cq1,rfl,p1,q3,e1⟩⟩⟩:=hz
 have r3:=RV.of1 p1 q3 e1
 have hz:=r1.sl; obtain ⟨a2,cq2,rfl,-,-,-⟩:=hz
 refine entr (n:=71) Tryz.func111 rfl rfl rfl<|Zr<|sbx rfl rfl fun b3 w1 hx1 hg1 hb1=>?_
 have r5:=r3.ext hx1
 refine Za<|Za<|nl<|Zr<|Zv (xlda rfl ti24 rfl (Bx.cs hb1))<|?_
 have hz:=bs hF; obtain ⟨x3,Ex3,hF⟩:=hz
 refine Zc (xc cb112 (mc rfl mn)) (c112 (show RV (α:=(Int×(List (Int×Int×Int)))) _ (.agg [.int .i64 x0.1,.slice a1 x0.2.length cq1].toArray) (x0.1,x0.2) from ⟨_,rfl,⟨[.int .i64 x0.1],[.slice a1 x0.2.length cq1],rfl,rfl,r5.rep1⟩⟩) Ex3) ?_
 rintro _ w2 ⟨u1,rfl,r7,hx2⟩
 have k1:=hx1.tr hx2
 have hz:=RV.sl r7; obtain ⟨a3,cq3,rfl,-,-,-⟩:=hz
 refine Za<|nl<|wp_seq<|Zr<|Za<|nl<|?_
 have hz:=bs hF; obtain ⟨o1,hB1,hF⟩:=hz
 refine ct (fun L w=>o1=.inr ()∧L 1=.slice a2 x1.length cq2∧L 6=.slice a3 x3.length cq3∧Ext w2 w) ?_ ?_
 ·
  refine wp_block<|lp (I:=fun m L w=>∃ y1:Int,ref01_chain_l1 F x1 x3 m y1 =some o1∧L 7=.int .i64 y1∧L 1=.slice a2 x1.length cq2∧L 6=.slice a3 x3.length cq3∧Ext w2 w) F ⟨_,hB1,rfl,rfl,rfl,(Ext.refl _)⟩ ?_
  rintro m L w3 ⟨y1,hB1,l7_i1,l1_i1,l6_i1,K0_i1⟩
  rcases m with _ | m
  ·rw [ref01_chain_l1] at hB1; cases hB1
  rw [ref01_chain_l1] at hB1
  have k2:=k1.tr K0_i1
  refine wp_seq<|Zr<|Zm<|Zm<|Zv (xlen l1_i1 Tryz.underlying41)<|Zv (xlss l7_i1 rfl)<|nl<|cnd rfl (fun h3=>?_) (fun h3=>?_)
  ·
   have hB1:=ifp hB1 h3
   refine wp_skip<|wp_seq<|wp_block<|wp_seq<|?_
   have hz:=bs hB1; obtain ⟨y2,hB3,hB1⟩:=hz
   refine ct (fun L w=>L 31=.bool y2∧L 1=.slice a2 x1.length cq2∧L 6=.slice a3 x3.length cq3∧L 7=.int .i64 y1∧Ext w3 w) ?_ ?_
   ·
    refine rg<|Zm<|Zm<|?_
    have hz:=bs hB3; obtain ⟨x5,Ex5,hB3⟩:=hz
    have hz:=(RV.els r1).ix Ex5; obtain ⟨b5,f2,cs4,e3,i4,i5,q5,hc3⟩:=hz
    cases e3
    obtain rfl:=q5
    have hc4:=hc3.ext k2
    refine Zv (xixs l1_i1 l7_i1 Tryz.underlying41 ti3 i4 i5)<|Zv (xld rfl ti3 (hc4.at 0 rfl))<|Zv (xlss rfl rfl)<|Zm<|?_
    refine Or.elim (Bool.eq_false_or_eq_true (decide (x5<0))) (fun h4=>?_) (fun h4=>?_)
    ·
     have hB3:=ifp hB3 h4
     refine gfk rfl rfl rfl rfl rfl (btf h4) rfl<|gfk rfl rfl rfl rfl rfl (btf h4) rfl<|gfk rfl rfl rfl rfl rfl (btf h4) rfl<|gfk rfl rfl rfl rfl rfl (btf h4) rfl<|gfk rfl rfl rfl rfl rfl (btf h4) rfl<|gfk rfl rfl rfl rfl rfl (btf h4) rfl<|gfk rfl rfl rfl rfl rfl (btf h4) rfl<|Zv (xpt rfl h4 rfl)<|nl<|?_
     cases hB3
     refine lf<|?_
     exact ⟨rfl,l1_i1,l6_i1,l7_i1,(Ext.refl _)⟩
    ·
     have hB3:=ifn hB3 h4
     refine gtk rfl rfl rfl rfl rfl (bf h4)<|Zm<|gtk rfl rfl rfl rfl rfl (bf h4)<|Zm<|?_
     have hz:=bs hB3; obtain ⟨x6,Ex6,hB3⟩:=hz
     have hz:=ix2 r1 Ex6; obtain ⟨cs5,i6,i7,q6,hc5⟩:=hz
     obtain rfl:=q6
     have hc6:=hc5.ext k2
     refine gtk rfl rfl rfl rfl rfl (bf h4)<|Zv (xixs l1_i1 l7_i1 Tryz.underlying41 ti3 i6 i7)<|gtk rfl rfl rfl rfl rfl (bf h4)<|Zv (xld rfl ti3 (hc6.at 0 rfl))<|gtk rfl rfl rfl rfl rfl (bf h4)<|Zm<|gtk rfl rfl rfl rfl rfl (bf h4)<|Zv (xlen l6_i1 Tryz.underlying22)<|gtk rfl rfl rfl rfl rfl (bf h4)<|Zv (xgeq rfl rfl)<|Zv (xpf rfl h4 rfl)<|nl<|?_
     cases hB3
     refine lf<|?_
     exact ⟨rfl,l1_i1,l6_i1,l7_i1,(Ext.refl _)⟩
   rintro L w4 ⟨l31_j1,l1_j1,l6_j1,l7_j1,K0_j1⟩
   have k3:=k2.tr K0_j1
   have k4:=K0_i1.tr K0_j1
   refine cnd l31_j1 (fun h5=>?_) (fun h5=>?_)
   ·
    have hB1:=ifp hB1 h5
    refine Zr<|Za<|Za<|nl<|?_
    cases hB1
    have hF:=(show some _=some _ from hF); cases hF
    exact wp_ret<|rt rfl (.tmp rfl rfl (.tmp rfl rfl .nil)) ⟨rfl,k3⟩
   ·
    have hB1:=ifn hB1 h5
    refine wp_skip<|rg<|Zm<|Zv (xadd l7_j1 rfl)<|Za<|nl<|?_
    refine lq m (Nat.lt_succ_self _)<|?_
    exact ⟨_,hB1,rfl,l1_j1,l6_j1,k4⟩
  ·
   have hB1:=ifn hB1 h3
   refine wp_exit<|?_
   cases hB1
   refine lf<|?_
   exact ⟨rfl,l1_i1,l6_i1,K0_i1⟩
 rintro L w5 ⟨rfl,l1_j2,l6_j2,K0_j2⟩
 have k5:=k1.tr K0_j2
 refine Zr<|Za<|nl<|wp_seq<|Zr<|Za<|nl<|?_
 have hz:=bs hF; obtain ⟨o2,hB7,hF⟩:=hz
 refine ct (fun L w=>∃ z1:Int,o2=.inr z1∧L 8=.int .i64 z1∧Ext w5 w) ?_ ?_
 ·
  refine wp_block<|lp (I:=fun m L w=>∃ y3:Int,∃ y4:Int,ref01_chain_l2 F x1 x3 m y3 y4 =some o2∧L 8=.int .i64 y3∧L 9=.int .i64 y4∧L 1=.slice a2 x1.length cq2∧L 6=.slice a3 x3.length cq3∧Ext w5 w) F ⟨_,_,hB7,rfl,rfl,l1_j2,l6_j2,(Ext.refl _)⟩ ?_
  rintro m L w6 ⟨y3,y4,hB7,l8_i8,l9_i8,l1_i8,l6_i8,K0_i8⟩
  rcases m with _ | m
  ·rw [ref01_chain_l2] at hB7; cases hB7
  rw [ref01_chain_l2] at hB7
  have k6:=k5.tr K0_i8
  have k7:=K0_j2.tr K0_i8
  refine wp_seq<|Zr<|Zm<|Zm<|Zv (xlen l1_i8 Tryz.underlying41)<|Zv (xlss l9_i8 rfl)<|nl<|cnd rfl (fun h6=>?_) (fun h6=>?_)
  ·
   have hB7:=ifp hB7 h6
   refine wp_skip<|wp_seq<|wp_block<|wp_seq<|wp_seq<|?_
   have hz:=bs hB7; obtain ⟨y5,hB9,hB7⟩:=hz
   refine ct (fun L w=>L 59=.bool y5∧L 1=.slice a2 x1.length cq2∧L 6=.slice a3 x3.length cq3∧L 8=.int .i64 y3∧L 9=.int .i64 y4∧Ext w6 w) ?_ ?_
   ·
    refine wpl [] (.pure true 0 (.pure true 1 (.pure true 2 (.pure true 3 (.pure true 4 (.pure true 5 (.pure true 6 (.pure false 7 (.pure true 8 (.pure true 9 (.pure false 10 (.pure true 11 (.pure true 12 (.pure true 13 (.pure true 14 (.pure true 15 (.pure false 16 (.pure true 17 (.pure true 18 (.pure false 19 (.pure true 20 (.pure true 21 .fin)))))))))))))))))))))) mixed (by kernel_rfl) (fun w8 hx4=>?_)
    have k11:=k6.tr hx4
    have k12:=k7.tr hx4
    refine Zn rfl<|Zp rfl (fun _=>xgtr l9_i8 rfl)<|Zn rfl<|?_
    refine Or.elim (Bool.eq_false_or_eq_true (decide (0<y4))) (fun h7=>?_) (fun h7=>?_)
    ·
     have hB9:=ifp hB9 h7
     refine Zt rfl rfl rfl rfl (bt h7) (fun _=>xmv)<|Zt rfl rfl rfl rfl (bt h7) (fun _=>xmv)<|Zt rfl rfl rfl rfl (bt h7) (fun _=>xmv)<|?_
     have hz:=bs hB9; obtain ⟨x7,Ex7,hB9⟩:=hz
     have hz:=(RV.els r1).ix Ex7; obtain ⟨b6,f3,cs6,e4,i9,i10,q7,hc7⟩:=hz
     cases e4
     obtain rfl:=q7
     have hc8:=hc7.ext k11
     refine Zt rfl rfl rfl rfl (bt h7) (fun _=>xixs l1_i8 l9_i8 Tryz.underlying41 ti3 i9 i10)<|pvt rfl rfl rfl rfl rfl rfl (bt h7) rfl (fun _ hS=>xld rfl ti3 ((hc8.ext (hS.resolve_left nofun)).at 0 rfl)) (.inr (Ext.refl _))<|?_
     have hz:=bs hB9; obtain ⟨x8,Ex8,hB9⟩:=hz
     have hz:=(RV.els r7).ix Ex8; obtain ⟨b7,f4,cs7,e5,i11,i12,q8,hc9⟩:=hz
     cases e5
     obtain ⟨_,_,rfl,rfl,⟨_,_,rfl,rfl,rfl⟩⟩:=q8
     have hc10:=hc9.ext k12
     refine Zt rfl rfl rfl rfl (bt h7) (fun _=>xixs l6_i8 rfl Tryz.underlying22 ti58 i11 i12)<|Zt rfl rfl rfl rfl (bt h7) (fun _=>xfa rfl fa58_0)<|pvt rfl rfl rfl rfl rfl rfl (bt h7) rfl (fun _ hS=>xld rfl ti3 ((hc10.ext (hS.resolve_left nofun)).at 0 rfl)) (.inr (Ext.refl _))<|Zt rfl rfl rfl rfl (bt h7) (fun _=>xmv)<|Zt rfl rfl rfl rfl (bt h7) (fun _=>xmv)<|Zt rfl rfl rfl rfl (bt h7) (fun _=>xmv)<|Zt rfl rfl rfl rfl (bt h7) (fun _=>xsub l9_i8 rfl)<|?_
     have hz:=bs hB9; obtain ⟨x9,Ex9,hB9⟩:=hz
     have hz:=ix2 r1 Ex9; obtain ⟨cs8,i13,i14,q9,hc11⟩:=hz
     obtain rfl:=q9
     have hc12:=hc11.ext k11
     refine Zt rfl rfl rfl rfl (bt h7) (fun _=>xixs l1_i8 rfl Tryz.underlying41 ti3 i13 i14)<|pvt rfl rfl rfl rfl rfl rfl (bt h7) rfl (fun _ hS=>xld rfl ti3 ((hc12.ext (hS.resolve_left nofun)).at 0 rfl)) (.inr (Ext.refl _))<|?_
     have hz:=bs hB9; obtain ⟨x10,Ex10,hB9⟩:=hz
     have hz:=ix2 r7 Ex10; obtain ⟨cs9,i15,i16,q10,hc13⟩:=hz
     obtain ⟨_,_,rfl,rfl,⟨_,_,rfl,rfl,rfl⟩⟩:=q10
     have hc14:=hc13.ext k12
     refine Zt rfl rfl rfl rfl (bt h7) (fun _=>xixs l6_i8 rfl Tryz.underlying22 ti58 i15 i16)<|Zt rfl rfl rfl rfl (bt h7) (fun _=>xfa rfl fa58_1)<|pvt rfl rfl rfl rfl rfl rfl (bt h7) rfl (fun _ hS=>xld rfl ti3 ((hc14.ext (hS.resolve_left nofun)).at 1 rfl)) (.inr (Ext.refl _))<|Zt rfl rfl rfl rfl (bt h7) (fun _=>xneq rfl rfl)<|Zp rfl (fun _=>xpt rfl h7 rfl)<|?_
     cases hB9
     refine lf<|?_
     exact ⟨rfl,l1_i8,l6_i8,l8_i8,l9_i8,hx4⟩
    ·
     have hB9:=ifn hB9 h7
     refine Zf rfl rfl rfl rfl (bft h7)<|Zf rfl rfl rfl rfl (bft h7)<|Zf rfl rfl rfl rfl (bft h7)<|Zf rfl rfl rfl rfl (bft h7)<|pvf rfl rfl rfl rfl rfl rfl (bft h7) rfl (.inr (Ext.refl _))<|Zf rfl rfl rfl rfl (bft h7)<|Zf rfl rfl rfl rfl (bft h7)<|pvf rfl rfl rfl rfl rfl rfl (bft h7) rfl (.inr (Ext.refl _))<|Zf rfl rfl rfl rfl (bft h7)<|Zf rfl rfl rfl rfl (bft h7)<|Zf rfl rfl rfl rfl (bft h7)<|Zf rfl rfl rfl rfl (bft h7)<|Zf rfl rfl rfl rfl (bft h7)<|pvf rfl rfl rfl rfl rfl rfl (bft h7) rfl (.inr (Ext.refl _))<|Zf rfl rfl rfl rfl (bft h7)<|Zf rfl rfl rfl rfl (bft h7)<|pvf rfl rfl rfl rfl rfl rfl (bft h7) rfl (.inr (Ext.refl _))<|Zf rfl rfl rfl rfl (bft h7)<|Zp rfl (fun _=>xpf rfl h7 rfl)<|?_
     cases hB9
     refine lf<|?_
     exact ⟨rfl,l1_i8,l6_i8,l8_i8,l9_i8,hx4⟩
   rintro L w9 ⟨l59_j3,l1_j3,l6_j3,l8_j3,l9_j3,K0_j3⟩
   have k14:=k6.tr K0_j3
   have k15:=k7.tr K0_j3
   have k16:=K0_i8.tr K0_j3
   refine cnd l59_j3 (fun h8=>?_) (fun h8=>?_)
   ·
    have hB7:=ifp hB7 h8
    refine Zr<|Za<|Za<|nl<|?_
    cases hB7
    have hF:=(show some _=some _ from hF); cases hF
    exact wp_ret<|rt rfl (.tmp rfl rfl (.tmp rfl rfl .nil)) ⟨rfl,k14⟩
   ·
    have hB7:=ifn hB7 h8
    refine wp_skip<|rg<|Zm<|Zm<|Zm<|Zm<|?_
    have hz:=bs hB7; obtain ⟨x11,Ex11,hB7⟩:=hz
    have hz:=(RV.els r1).ix Ex11; obtain ⟨b8,f5,cs10,e6,i17,i18,q11,hc15⟩:=hz
    cases e6
    obtain rfl:=q11
    have hc16:=hc15.ext k14
    refine Zv (xixs l1_j3 l9_j3 Tryz.underlying41 ti3 i17 i18)<|Zv (xld rfl ti3 (hc16.at 0 rfl))<|?_
    have hz:=bs hB7; obtain ⟨x12,Ex12,hB7⟩:=hz
    have hz:=(RV.els r7).ix Ex12; obtain ⟨b9,f6,cs11,e7,i19,i20,q12,hc17⟩:=hz
    cases e7
    obtain ⟨_,_,rfl,rfl,⟨_,_,rfl,rfl,rfl⟩⟩:=q12
    have hc18:=hc17.ext k15
    refine Zv (xixs l6_j3 rfl Tryz.underlying22 ti58 i19 i20)<|Zv (xfa rfl fa58_2)<|Zv (xld rfl ti2 (hc18.at 2 rfl))<|Zv (xadd l8_j3 rfl)<|Za<|nl<|rg<|Zm<|Zv (xadd l9_j3 rfl)<|Za<|nl<|?_
    refine lq m (Nat.lt_succ_self _)<|?_
    exact ⟨_,_,hB7,rfl,rfl,l1_j3,l6_j3,k16⟩
  ·
   have hB7:=ifn hB7 h6
   refine wp_exit<|?_
   cases hB7
   refine lf<|?_
   exact ⟨_,rfl,l8_i8,K0_i8⟩
 rintro L w10 ⟨z1,rfl,l8_j4,K0_j4⟩
 have k17:=k5.tr K0_j4
 refine Zr<|Zm<|Za<|Za<|nl<|?_
 cases hF
 exact wp_ret<|rt rfl (.tmp l8_j4 rfl (.tmp rfl rfl .nil)) ⟨rfl,k17⟩
theorem c52 {w0:World} {v0:Value} {x0:(Int×(List (Int×Int×Int)))} (r0:RV w0 v0 x0) {x1:Int} {x2:Int} {v3:Value} {x3:(List Int)} (r3:RV w0 v3 x3) {F:Nat} {r:(Int×Int)} (hF:ref01_CheckWay F x0 x1 x2 x3=some r) :
  Calls Tryz.prog 52 [v0,.int .i64 x1,.int .i64 x2,v3].toArray w0 (Ret fun v w'=>v=.tuple #[.int .i64 r.1,.int .i64 r.2]∧Ext w0 w'):=by
 unfold ref01_CheckWay at hF
 have hz:=id r0; obtain ⟨_,rfl,⟨_,_,rfl,rfl,⟨a1,cq1,rfl,p1,q5,e1⟩⟩⟩:=hz
 have r5:=RV.of1 p1 q5 e1
 have hz:=r3.sl; obtain ⟨a2,cq2,rfl,-,-,-⟩:=hz
 refine entr (n:=80) Tryz.func52 rfl rfl rfl<|Zr<|sbx rfl rfl fun b5 w1 hx1 hg1 hb1=>?_
 have r6:=r3.ext hx1
 have r7:=r5.ext hx1
 refine Za<|Za<|nl<|wp_seq<|Zr<|Zv (xlda rfl ti24 rfl (Bx.cs hb1))<|?_
 have hz:=bs hF; obtain ⟨x5,Ex5,hF⟩:=hz
 refine Zc (xc cb84 (mc rfl mn)) (c84 (show RV (α:=(Int×(List (Int×Int×Int)))) _ (.agg [.int .i64 x0.1,.slice a1 x0.2.length cq1].toArray) (x0.1,x0.2) from ⟨_,rfl,⟨[.int .i64 x0.1],[.slice a1 x0.2.length cq1],rfl,rfl,r7.rep1⟩⟩) Ex5) ?_
 rintro _ w2 ⟨rfl,hx2⟩
 have k1:=hx1.tr hx2
 have hb2:=hb1.ext hx2
 have r9:=r7.ext hx2
 have r10:=r6.ext hx2
 refine Zv (xneq rfl rfl)<|nl<|cnd rfl (fun h5=>?_) (fun h5=>?_)
 ·
  have hF:=ifp hF h5
  refine Zr<|Zv (xlda rfl ti24 rfl (Bx.cs hb2))<|?_
  have hz:=bs hF; obtain ⟨x6,Ex6,hF⟩:=hz
  refine Zc (xc cb84 (mc rfl mn)) (c84 (show RV (α:=(Int×(List (Int×Int×Int)))) _ (.agg [.int .i64 x0.1,.slice a1 x0.2.length cq1].toArray) (x0.1,x0.2) from ⟨_,rfl,⟨[.int .i64 x0.1],[.slice a1 x0.2.length cq1],rfl,rfl,r9.rep1⟩⟩) Ex6) ?_
  rintro _ w3 ⟨rfl,hx3⟩
  have k2:=k1.tr hx3
  refine Za<|Za<|nl<|?_
  cases hF
  exact wp_ret<|rt rfl (.tmp rfl rfl (.tmp rfl rfl .nil)) ⟨rfl,k2⟩
 ·
  have hF:=ifn hF h5
  refine wp_skip<|wp_seq<|Zr<|Zm<|Zv (xlss rfl rfl)<|Zm<|Zg rfl rfl (gw0 rfl) (fun hc=>xmva rfl)<|Zg rfl rfl (gw0 rfl) (fun hc=>xfa rfl fa24_0)<|Zg rfl rfl (gw0 rfl) (fun hc=>xld (mv hc rfl) ti3 ((Bx.cs hb2).at 0 rfl))<|Zg rfl rfl (gw0 rfl) (fun hc=>xgtr (mv hc rfl) (mv hc rfl))<|Zv (xpo rfl rfl rfl)<|Zm<|Zg rfl rfl (gw0 rfl) (fun hc=>xmva rfl)<|Zg rfl rfl (gw0 rfl) (fun hc=>xlss (mv hc rfl) rfl)<|Zv (xpo rfl rfl rfl)<|Zm<|Zg rfl rfl (gw0 rfl) (fun hc=>xmva rfl)<|Zg rfl rfl (gw0 rfl) (fun hc=>xfa rfl fa24_0)<|Zg rfl rfl (gw0 rfl) (fun hc=>xld (mv hc rfl) ti3 ((Bx.cs hb2).at 0 rfl))<|Zg rfl rfl (gw0 rfl) (fun hc=>xgtr (mv hc rfl) (mv hc rfl))<|Zv (xpo rfl rfl rfl)<|nl<|cnd rfl (fun h6=>?_) (fun h6=>?_)
  ·
   have hF:=ifp hF h6
   refine Zr<|Za<|Za<|nl<|?_
   cases hF
   exact wp_ret<|rt rfl (.tmp rfl rfl (.tmp rfl rfl .nil)) ⟨rfl,k1⟩
  ·
   have hF:=ifn hF h6
   refine wp_skip<|wp_seq<|Zr<|Zm<|Zv (xlen rfl Tryz.underlying41)<|Zv (xgtr rfl rfl)<|nl<|cnd rfl (fun h7=>?_) (fun h7=>?_)
   ·
    have hF:=ifp hF h7
    refine Zr<|Za<|Za<|nl<|?_
    cases hF
    exact wp_ret<|rt rfl (.tmp rfl rfl (.tmp rfl rfl .nil)) ⟨rfl,k1⟩
   ·
    have hF:=ifn hF h7
    refine wp_skip<|Zr<|Zv (xlda rfl ti24 rfl (Bx.cs hb2))<|Zm<|?_
    have hz:=bs hF; obtain ⟨x7,Ex7,hF⟩:=hz
    refine Zc (xc cb111 (mc rfl (mc rfl mn))) (c111 (show RV (α:=(Int×(List (Int×Int×Int)))) _ (.agg [.int .i64 x0.1,.slice a1 x0.2.length cq1].toArray) (x0.1,x0.2) from ⟨_,rfl,⟨[.int .i64 x0.1],[.slice a1 x0.2.length cq1],rfl,rfl,r9.rep1⟩⟩) r10 Ex7) ?_
    rintro _ w4 ⟨rfl,hx4⟩
    have k3:=k1.tr hx4
    have hb3:=hb2.ext hx4
    have r11:=r9.ext hx4
    refine Zm<|Zv (xext rfl rfl)<|Zv (xext rfl rfl)<|Za<|Za<|nl<|wp_seq<|Zr<|Zm<|Zv (xneq rfl rfl)<|nl<|cnd rfl (fun h8=>?_) (fun h8=>?_)
    ·
     have hF:=ifp hF h8
     refine Zr<|Zm<|Za<|Za<|nl<|?_
     cases hF
     exact wp_ret<|rt rfl (.tmp rfl rfl (.tmp rfl rfl .nil)) ⟨rfl,k3⟩
    ·
     have hF:=ifn hF h8
     refine wp_skip<|wp_seq<|Zr<|Zm<|Zv (xlen rfl Tryz.underlying41)<|Zv (xeql rfl rfl)<|nl<|cnd rfl (fun h9=>?_) (fun h9=>?_)
     ·
      have hF:=ifp hF h9
      refine wp_seq<|Zr<|Zm<|Zm<|Zv (xneq rfl rfl)<|nl<|cnd rfl (fun h10=>?_) (fun h10=>?_)
      ·
       have hF:=ifp hF h10
       refine Zr<|Za<|Za<|nl<|?_
       cases hF
       exact wp_ret<|rt rfl (.tmp rfl rfl (.tmp rfl rfl .nil)) ⟨rfl,k3⟩
      ·
       have hF:=ifn hF h10
       refine wp_skip<|Zr<|Za<|Za<|nl<|?_
       cases hF
       exact wp_ret<|rt rfl (.tmp rfl rfl (.tmp rfl rfl .nil)) ⟨rfl,k3⟩
     ·
      have hF:=ifn hF h9
      refine wp_skip<|Zr<|Zv (xlda rfl ti24 rfl (Bx.cs hb3))<|?_
      have hz:=bs hF; obtain ⟨x8,Ex8,hF⟩:=hz
      refine Zc (xc cb112 (mc rfl mn)) (c112 (show RV (α:=(Int×(List (Int×Int×Int)))) _ (.agg [.int .i64 x0.1,.slice a1 x0.2.length cq1].toArray) (x0.1,x0.2) from ⟨_,rfl,⟨[.int .i64 x0.1],[.slice a1 x0.2.length cq1],rfl,rfl,r11.rep1⟩⟩) Ex8) ?_
      rintro _ w5 ⟨u1,rfl,r13,hx5⟩
      have k4:=k3.tr hx5
      have hz:=RV.sl r13; obtain ⟨a3,cq3,rfl,-,-,-⟩:=hz
      refine Za<|nl<|wp_seq<|wp_seq<|?_
      have hz:=bs hF; obtain ⟨y1,hB1,hF⟩:=hz
      refine ct (fun L w=>L 78=.bool y1∧L 10=.int .i64 x7.1∧Ext w5 w) ?_ ?_
      ·
       refine rg<|Zm<|Zm<|?_
       have hz:=bs hB1; obtain ⟨x11,Ex11,hB1⟩:=hz
       have hz:=(RV.els r3).ix Ex11; obtain ⟨b8,f3,cs7,e4,i5,i6,q8,hc4⟩:=hz
       cases e4
       obtain rfl:=q8
       have hc5:=hc4.ext k4
       refine Zv (xixs rfl rfl Tryz.underlying41 ti3 i5 i6)<|Zv (xld rfl ti3 (hc5.at 0 rfl))<|?_
       have hz:=bs hB1; obtain ⟨x12,Ex12,hB1⟩:=hz
       have hz:=(RV.els r13).ix Ex12; obtain ⟨b9,f4,cs8,e5,i7,i8,q9,hc6⟩:=hz
       cases e5
       obtain ⟨_,_,rfl,rfl,⟨_,_,rfl,rfl,rfl⟩⟩:=q9
       refine Zv (xixs rfl rfl Tryz.underlying22 ti58 i7 i8)<|Zv (xfa rfl fa58_0)<|Zv (xld rfl ti3 (hc6.at 0 rfl))<|Zm<|Zv (xneq rfl rfl)<|Zm<|?_
       refine Or.elim (Bool.eq_false_or_eq_true (!decide (x12.1=x1))) (fun h11=>?_) (fun h11=>?_)
       ·
        have hB1:=ifp hB1 h11
        refine gfk rfl rfl rfl rfl rfl (btf h11) rfl<|gfk rfl rfl rfl rfl rfl (btf h11) rfl<|gfk rfl rfl rfl rfl rfl (btf h11) rfl<|gfk rfl rfl rfl rfl rfl (btf h11) rfl<|gfk rfl rfl rfl rfl rfl (btf h11) rfl<|gfk rfl rfl rfl rfl rfl (btf h11) rfl<|gfk rfl rfl rfl rfl rfl (btf h11) rfl<|gfk rfl rfl rfl rfl rfl (btf h11) rfl<|gfk rfl rfl rfl rfl rfl (btf h11) rfl<|gfk rfl rfl rfl rfl rfl (btf h11) rfl<|gfk rfl rfl rfl rfl rfl (btf h11) rfl<|gfk rfl rfl rfl rfl rfl (btf h11) rfl<|Zv (xpt rfl h11 rfl)<|nl<|?_
        cases hB1
        refine lf<|?_
        exact ⟨rfl,rfl,(Ext.refl _)⟩
       ·
        have hB1:=ifn hB1 h11
        refine gtk rfl rfl rfl rfl rfl (bf h11)<|Zm<|gtk rfl rfl rfl rfl rfl (bf h11)<|Zm<|gtk rfl rfl rfl rfl rfl (bf h11)<|Zm<|gtk rfl rfl rfl rfl rfl (bf h11)<|Zv (xlen rfl Tryz.underlying41)<|gtk rfl rfl rfl rfl rfl (bf h11)<|Zv (xsub rfl rfl)<|?_
        have hz:=bs hB1; obtain ⟨x13,Ex13,hB1⟩:=hz
        have hz:=ix2 r3 Ex13; obtain ⟨cs9,i9,i10,q10,hc7⟩:=hz
        obtain rfl:=q10
        have hc8:=hc7.ext k4
        refine gtk rfl rfl rfl rfl rfl (bf h11)<|Zv (xixs rfl rfl Tryz.underlying41 ti3 i9 i10)<|gtk rfl rfl rfl rfl rfl (bf h11)<|Zv (xld rfl ti3 (hc8.at 0 rfl))<|?_
        have hz:=bs hB1; obtain ⟨x14,Ex14,hB1⟩:=hz
        have hz:=ix2 r13 Ex14; obtain ⟨cs10,i11,i12,q11,hc9⟩:=hz
        obtain ⟨_,_,rfl,rfl,⟨_,_,rfl,rfl,rfl⟩⟩:=q11
        refine gtk rfl rfl rfl rfl rfl (bf h11)<|Zv (xixs rfl rfl Tryz.underlying22 ti58 i11 i12)<|gtk rfl rfl rfl rfl rfl (bf h11)<|Zv (xfa rfl fa58_1)<|gtk rfl rfl rfl rfl rfl (bf h11)<|Zv (xld rfl ti3 (hc9.at 1 rfl))<|gtk rfl rfl rfl rfl rfl (bf h11)<|Zm<|gtk rfl rfl rfl rfl rfl (bf h11)<|Zv (xneq rfl rfl)<|Zv (xpf rfl h11 rfl)<|nl<|?_
        cases hB1
        refine lf<|?_
        exact ⟨rfl,rfl,(Ext.refl _)⟩
      rintro L w6 ⟨l78_j1,l10_j1,K0_j1⟩
      have k5:=k4.tr K0_j1
      refine cnd l78_j1 (fun h12=>?_) (fun h12=>?_)
      ·
       have hF:=ifp hF h12
       refine Zr<|Za<|Za<|nl<|?_
       cases hF
       exact wp_ret<|rt rfl (.tmp rfl rfl (.tmp rfl rfl .nil)) ⟨rfl,k5⟩
      ·
       have hF:=ifn hF h12
       refine wp_skip<|Zr<|Zm<|Za<|Za<|nl<|?_
       cases hF
       exact wp_ret<|rt rfl (.tmp l10_j1 rfl (.tmp rfl rfl .nil)) ⟨rfl,k5⟩
theorem c110 {w0:World} {v0:Value} {x0:(List Int)} (r0:RV w0 v0 x0) {x1:Int} {r:Int} (hF:ref01_Of x0 x1=some r) :
  Calls Tryz.prog 110 [v0,.int .i64 x1].toArray w0 (Ret fun v w'=>v=.int .i64 r∧Ext w0 w'):=by
 unfold ref01_Of at hF
 have hz:=r0.sl; obtain ⟨a1,cq1,rfl,-,-,-⟩:=hz
 refine entr (n:=12) Tryz.func110 rfl rfl rfl<|Zr<|Za<|nl<|wp_seq<|Zr<|Zm<|Zv (xeql rfl rfl)<|nl<|cnd rfl (fun h3=>?_) (fun h3=>?_)
 ·
  have hF:=ifp hF h3
  refine Zr<|Za<|nl<|?_
  cases hF
  exact wp_ret<|rt rfl (.tmp rfl rfl .nil) ⟨rfl,(Ext.refl _)⟩
 ·
  have hF:=ifn hF h3
  refine wp_skip<|Zr<|Zm<|Zm<|Zv (xsub rfl rfl)<|?_
  have hz:=bs hF; obtain ⟨x3,Ex3,hF⟩:=hz
  have hz:=(RV.els r0).ix Ex3; obtain ⟨b3,f1,cs3,e1,i1,i2,q3,hc1⟩:=hz
  cases e1
  obtain rfl:=q3
  refine Zv (xixs rfl rfl Tryz.underlying28 ti2 i1 i2)<|Zv (xld rfl ti2 (hc1.at 0 rfl))<|Za<|nl<|?_
  cases hF
  exact wp_ret<|rt rfl (.tmp rfl rfl .nil) ⟨rfl,(Ext.refl _)⟩
theorem c31 {w0:World} {v0:Value} {x0:(Int×(List (Int×Int×Int)))} (r0:RV w0 v0 x0) {v1:Value} {x1:(List Int)} (r1:RV w0 v1 x1) {F:Nat} {r:Int} (hF:ref01_CheckSpeeds F x0 x1=some r) :
  Calls Tryz.prog 31 [v0,v1].toArray w0 (Ret fun v w'=>v=.int .i64 r∧Ext w0 w'):=by
 unfold ref01_CheckSpeeds at hF
 have hz:=id r0; obtain ⟨_,rfl,⟨_,_,rfl,rfl,⟨a1,cq1,rfl,p1,q3,e1⟩⟩⟩:=hz
 have r3:=RV.of1 p1 q3 e1
 have hz:=r1.sl; obtain ⟨a2,cq2,rfl,-,-,-⟩:=hz
 refine entr (n:=60) Tryz.func31 rfl rfl rfl<|Zr<|sbx rfl rfl fun b3 w1 hx1 hg1 hb1=>?_
 have r4:=r1.ext hx1
 have r5:=r3.ext hx1
 refine Za<|nl<|wp_seq<|Zr<|Zv (xlda rfl ti24 rfl (Bx.cs hb1))<|?_
 have hz:=bs hF; obtain ⟨x3,Ex3,hF⟩:=hz
 refine Zc (xc cb84 (mc rfl mn)) (c84 (show RV (α:=(Int×(List (Int×Int×Int)))) _ (.agg [.int .i64 x0.1,.slice a1 x0.2.length cq1].toArray) (x0.1,x0.2) from ⟨_,rfl,⟨[.int .i64 x0.1],[.slice a1 x0.2.length cq1],rfl,rfl,r5.rep1⟩⟩) Ex3) ?_
 rintro _ w2 ⟨rfl,hx2⟩
 have k1:=hx1.tr hx2
 have hb2:=hb1.ext hx2
 have r7:=r5.ext hx2
 have r8:=r4.ext hx2
 refine Zv (xneq rfl rfl)<|nl<|cnd rfl (fun h3=>?_) (fun h3=>?_)
 ·
  have hF:=ifp hF h3
  refine Zr<|Zv (xlda rfl ti24 rfl (Bx.cs hb2))<|?_
  have hz:=bs hF; obtain ⟨x4,Ex4,hF⟩:=hz
  refine Zc (xc cb84 (mc rfl mn)) (c84 (show RV (α:=(Int×(List (Int×Int×Int)))) _ (.agg [.int .i64 x0.1,.slice a1 x0.2.length cq1].toArray) (x0.1,x0.2) from ⟨_,rfl,⟨[.int .i64 x0.1],[.slice a1 x0.2.length cq1],rfl,rfl,r7.rep1⟩⟩) Ex4) ?_
  rintro _ w3 ⟨rfl,hx3⟩
  have k2:=k1.tr hx3
  refine Za<|nl<|?_
  cases hF
  exact wp_ret<|rt rfl (.tmp rfl rfl .nil) ⟨rfl,k2⟩
 ·
  have hF:=ifn hF h3
  refine wp_skip<|wp_seq<|Zr<|Zm<|Zv (xlen rfl Tryz.underlying28)<|Zv (xfa rfl fa24_0)<|Zv (xld rfl ti3 ((Bx.cs hb2).at 0 rfl))<|Zv (xneq rfl rfl)<|nl<|cnd rfl (fun h4=>?_) (fun h4=>?_)
  ·
   have hF:=ifp hF h4
   refine Zr<|Za<|nl<|?_
   cases hF
   exact wp_ret<|rt rfl (.tmp rfl rfl .nil) ⟨rfl,k1⟩
  ·
   have hF:=ifn hF h4
   refine wp_skip<|wp_seq<|Zr<|Za<|nl<|?_
   have hz:=bs hF; obtain ⟨o1,hB1,hF⟩:=hz
   refine ct (fun L w=>o1=.inr ()∧L 1=.slice a2 x1.length cq2∧L 2=.pointer (some ⟨b3,0,none⟩)∧Ext w2 w) ?_ ?_
   ·
    refine wp_block<|lp (I:=fun m L w=>∃ y1:Int,ref01_CheckSpeeds_l1 F x1 m y1 =some o1∧L 5=.int .i64 y1∧L 1=.slice a2 x1.length cq2∧L 2=.pointer (some ⟨b3,0,none⟩)∧Ext w2 w) F ⟨_,hB1,rfl,rfl,rfl,(Ext.refl _)⟩ ?_
    rintro m L w4 ⟨y1,hB1,l5_i1,l1_i1,l2_i1,K0_i1⟩
    rcases m with _ | m
    ·rw [ref01_CheckSpeeds_l1] at hB1; cases hB1
    rw [ref01_CheckSpeeds_l1] at hB1
    have k3:=k1.tr K0_i1
    refine wp_seq<|Zr<|Zm<|Zm<|Zv (xlen l1_i1 Tryz.underlying28)<|Zv (xlss l5_i1 rfl)<|nl<|cnd rfl (fun h5=>?_) (fun h5=>?_)
    ·
     have hB1:=ifp hB1 h5
     refine wp_skip<|wp_seq<|wp_block<|wp_seq<|?_
     have hz:=bs hB1; obtain ⟨y2,hB3,hB1⟩:=hz
     refine ct (fun L w=>L 35=.bool y2∧L 1=.slice a2 x1.length cq2∧L 2=.pointer (some ⟨b3,0,none⟩)∧L 5=.int .i64 y1∧Ext w4 w) ?_ ?_
     ·
      refine rg<|Zm<|Zm<|?_
      have hz:=bs hB3; obtain ⟨x6,Ex6,hB3⟩:=hz
      have hz:=(RV.els r1).ix Ex6; obtain ⟨b5,f2,cs4,e3,i4,i5,q5,hc3⟩:=hz
      cases e3
      obtain rfl:=q5
      have hc4:=hc3.ext k3
      refine Zv (xixs l1_i1 l5_i1 Tryz.underlying28 ti2 i4 i5)<|Zv (xld rfl ti2 (hc4.at 0 rfl))<|Zv (xlss rfl rfl)<|Zm<|?_
      refine Or.elim (Bool.eq_false_or_eq_true (decide (x6<0))) (fun h6=>?_) (fun h6=>?_)
      ·
       have hB3:=ifp hB3 h6
       refine gfk rfl rfl rfl rfl rfl (btf h6) rfl<|gfk rfl rfl rfl rfl rfl (btf h6) rfl<|gfk rfl rfl rfl rfl rfl (btf h6) rfl<|gfk rfl rfl rfl rfl rfl (btf h6) rfl<|gfk rfl rfl rfl rfl rfl (btf h6) rfl<|Zv (xpt rfl h6 rfl)<|nl<|?_
       cases hB3
       refine lf<|?_
       exact ⟨rfl,l1_i1,l2_i1,l5_i1,(Ext.refl _)⟩
      ·
       have hB3:=ifn hB3 h6
       refine gtk rfl rfl rfl rfl rfl (bf h6)<|Zm<|gtk rfl rfl rfl rfl rfl (bf h6)<|Zm<|?_
       have hz:=bs hB3; obtain ⟨x7,Ex7,hB3⟩:=hz
       have hz:=ix2 r1 Ex7; obtain ⟨cs5,i6,i7,q6,hc5⟩:=hz
       obtain rfl:=q6
       have hc6:=hc5.ext k3
       refine gtk rfl rfl rfl rfl rfl (bf h6)<|Zv (xixs l1_i1 l5_i1 Tryz.underlying28 ti2 i6 i7)<|gtk rfl rfl rfl rfl rfl (bf h6)<|Zv (xld rfl ti2 (hc6.at 0 rfl))<|gtk rfl rfl rfl rfl rfl (bf h6)<|Zv (xgtr rfl rfl)<|Zv (xpf rfl h6 rfl)<|nl<|?_
       cases hB3
       refine lf<|?_
       exact ⟨rfl,l1_i1,l2_i1,l5_i1,(Ext.refl _)⟩
     rintro L w5 ⟨l35_j1,l1_j1,l2_j1,l5_j1,K0_j1⟩
     have k4:=k3.tr K0_j1
     have k5:=K0_i1.tr K0_j1
     refine cnd l35_j1 (fun h7=>?_) (fun h7=>?_)
     ·
      have hB1:=ifp hB1 h7
      refine Zr<|Za<|nl<|?_
      cases hB1
      have hF:=(show some _=some _ from hF); cases hF
      exact wp_ret<|rt rfl (.tmp rfl rfl .nil) ⟨rfl,k4⟩
     ·
      have hB1:=ifn hB1 h7
      refine wp_skip<|rg<|Zm<|Zv (xadd l5_j1 rfl)<|Za<|nl<|?_
      refine lq m (Nat.lt_succ_self _)<|?_
      exact ⟨_,hB1,rfl,l1_j1,l2_j1,k5⟩
    ·
     have hB1:=ifn hB1 h5
     refine wp_exit<|?_
     cases hB1
     refine lf<|?_
     exact ⟨rfl,l1_i1,l2_i1,K0_i1⟩
   rintro L w6 ⟨rfl,l1_j2,l2_j2,K0_j2⟩
   have k6:=k1.tr K0_j2
   have r13:=r8.ext K0_j2
   have hb5:=hb2.ext K0_j2
   refine wp_seq<|Zr<|Za<|nl<|?_
   have hz:=bs hF; obtain ⟨o2,hB7,hF⟩:=hz
   refine ct (fun L w=>o2=.inr ()∧Ext w6 w) ?_ ?_
   ·
    refine wp_block<|lp (I:=fun m L w=>∃ y3:Int,ref01_CheckSpeeds_l2 F x0 x1 m y3 =some o2∧L 6=.int .i64 y3∧L 1=.slice a2 x1.length cq2∧L 2=.pointer (some ⟨b3,0,none⟩)∧Ext w6 w) F ⟨_,hB7,rfl,l1_j2,l2_j2,(Ext.refl _)⟩ ?_
    rintro m L w7 ⟨y3,hB7,l6_i8,l1_i8,l2_i8,K0_i8⟩
    rcases m with _ | m
    ·rw [ref01_CheckSpeeds_l2] at hB7; cases hB7
    rw [ref01_CheckSpeeds_l2] at hB7
    have k7:=k6.tr K0_i8
    have r15:=r13.ext K0_i8
    have hb6:=hb5.ext K0_i8
    refine wp_seq<|Zr<|Zm<|Zv (xfa l2_i8 fa24_1)<|Zv (xld rfl ti22 ((Bx.cs hb6).at 1 rfl))<|Zv (xlen rfl Tryz.underlying22)<|Zv (xlss l6_i8 rfl)<|nl<|cnd rfl (fun h8=>?_) (fun h8=>?_)
    ·
     have hB7:=ifp hB7 h8
     refine wp_skip<|wp_seq<|wp_block<|Zr<|Zv (xfa l2_i8 fa24_1)<|Zv (xld rfl ti22 ((Bx.cs hb6).at 1 rfl))<|Zm<|?_
     have hz:=bs hB7; obtain ⟨x8,Ex8,hB7⟩:=hz
     have hz:=(RV.els r3).ix Ex8; obtain ⟨b6,f3,cs6,e4,i9,i10,q7,hc7⟩:=hz
     cases e4
     obtain ⟨_,_,rfl,rfl,⟨_,_,rfl,rfl,rfl⟩⟩:=q7
     have hc8:=hc7.ext k7
     refine Zv (xixs rfl l6_i8 Tryz.underlying22 ti58 i9 i10)<|Zv (xlda rfl ti58 rfl hc8)<|sal ti58 fun b7 w8 hx4 hg2 hb7=>?_
     have k9:=k7.tr hx4
     have k11:=K0_i8.tr hx4
     refine sst rfl rfl rfl ti58 hb7 rfl rfl (ble rfl) fun w9 hch1 hb9=>?_
     have k12:=Ext.chg k9 hch1 (Nat.le_trans k7.size hg2)
     have k14:=Ext.chg k11 hch1 (Nat.le_trans K0_i8.size hg2)
     have k15:=Ext.chg hx4 hch1 (Nat.le_trans (Nat.le_refl _) hg2)
     have r20:=r15.ext k15
     have hb11:Bx w9 b7 58 [.int .i64 x8.1,.int .i64 x8.2.1,.int .i64 x8.2.2]:=hb9
     refine nl<|wp_seq<|wpl [] (.pure true 0 (.pure true 1 (.pure false 2 (.pure true 4 (.pure true 5 (.pure false 6 (.pure true 8 (.pure false 9 (.eff 3 (.eff 7 (.pure true 10 (.pure true 11 .fin)) .stop) .stop))))))))) mixed (by kernel_rfl) (fun w10 hx5=>?_)
     have k16:=k12.tr hx5
     have k18:=k14.tr hx5
     have hb13:=hb11.ext hx5
     have r22:=r20.ext hx5
     refine Zn rfl<|Zp rfl (fun _=>xfa rfl fa58_1)<|Zq rfl (fun _ hS=>xld rfl ti3 ((Bx.cs (hb13.ext (hS.resolve_left nofun))).at 1 rfl)) (Ext.refl _)<|Zn rfl<|Zp rfl (fun _=>xfa rfl fa58_0)<|Zq rfl (fun _ hS=>xld rfl ti3 ((Bx.cs (hb13.ext (hS.resolve_left nofun))).at 0 rfl)) (Ext.refl _)<|Zp rfl (fun _=>xfa rfl fa58_2)<|Zq rfl (fun _ hS=>xld rfl ti2 ((Bx.cs (hb13.ext (hS.resolve_left nofun))).at 2 rfl)) (Ext.refl _)<|?_
     have hz:=bs hB7; obtain ⟨x9,Ex9,hB7⟩:=hz
     refine pe1 rfl<|Zc (xc cb110 (mc l1_i8 (mc rfl mn))) (c110 r22 Ex9) ?_
     rintro _ w11 ⟨rfl,hx6⟩
     have k20:=k16.tr hx6
     have k22:=k18.tr hx6
     have r24:=r22.ext hx6
     refine nl ⟨fun _ _=>hx6,?_⟩
     have hz:=bs hB7; obtain ⟨x10,Ex10,hB7⟩:=hz
     refine pe1 rfl<|Zc (xc cb110 (mc l1_i8 (mc rfl mn))) (c110 r24 Ex10) ?_
     rintro _ w12 ⟨rfl,hx7⟩
     have k24:=k20.tr hx7
     have k26:=k22.tr hx7
     have k28:=hx6.tr hx7
     refine nl ⟨fun _ _=>k28,?_⟩
     refine Zp rfl (fun _=>xadd rfl rfl)<|Zp rfl (fun _=>xgtr rfl rfl)<|cnd rfl (fun h9=>?_) (fun h9=>?_)
     ·
      have hB7:=ifp hB7 h9
      refine Zr<|Za<|nl<|?_
      cases hB7
      have hF:=(show some _=some _ from hF); cases hF
      exact wp_ret<|rt rfl (.tmp rfl rfl .nil) ⟨rfl,k24⟩
     ·
      have hB7:=ifn hB7 h9
      refine wp_skip<|rg<|Zm<|Zv (xadd l6_i8 rfl)<|Za<|nl<|?_
      refine lq m (Nat.lt_succ_self _)<|?_
      exact ⟨_,hB7,rfl,l1_i8,l2_i8,k26⟩
    ·
     have hB7:=ifn hB7 h8
     refine wp_exit<|?_
     cases hB7
     refine lf<|?_
     exact ⟨rfl,K0_i8⟩
   rintro L w13 ⟨rfl,K0_j3⟩
   have k29:=k6.tr K0_j3
   refine Zr<|Za<|nl<|?_
   cases hF
   exact wp_ret<|rt rfl (.tmp rfl rfl .nil) ⟨rfl,k29⟩
theorem c106 {w0:World} {x0:Int} {b1:Nat} {cs1:List Value} {x1:(Ar 21 Int)} (h1:Cs w0 b1 0 cs1) (q1:Enc.rep (fun _=>True) w0 cs1 x1) {r:Int} (hF:speed_Ends_1 x0 x1=some r) :
  Calls Tryz.prog 106 [.int .i64 x0,.pointer (some ⟨b1,0,none⟩)].toArray w0 (Ret fun v w'=>v=.int .i64 r∧Ext w0 w'):=by
 unfold speed_Ends_1 at hF
 obtain rfl:=q1
 refine entr (n:=7) Tryz.func106 rfl rfl rfl<|Zr<|Za<|nl<|Zr<|Zm<|?_
 have hz:=bs hF; obtain ⟨x3,Ex3,hF⟩:=hz
 have hz:=ixar h1 Ex3; obtain ⟨i1,i2,hc1⟩:=hz
 refine Zv (xixa rfl rfl Tryz.underlying159 ti2 i1 i2)<|Zv (xld rfl ti2 (hc1.at 0 rfl))<|Za<|nl<|?_
 cases hF
 exact wp_ret<|rt rfl (.tmp rfl rfl .nil) ⟨rfl,(Ext.refl _)⟩
theorem c92 {w0:World} {v0:Value} {x0:(Ar 21 Int)} (r0:RV w0 v0 x0) {v1:Value} {x1:(Int×Int×Int)} (r1:RV w0 v1 x1) {r:Bool} (hF:speed_list_keeps x0 x1=some r) :
  Calls Tryz.prog 92 [v0,v1].toArray w0 (Ret fun v w'=>v=.bool r∧Ext w0 w'):=by
 unfold speed_list_keeps at hF
 have hz:=id r0; obtain ⟨_,rfl,rfl⟩:=hz
 have hz:=id r1; obtain ⟨_,rfl,⟨_,_,rfl,rfl,⟨_,_,rfl,rfl,rfl⟩⟩⟩:=hz
 refine entr (n:=17) Tryz.func92 rfl rfl rfl<|Zr<|sbx rfl rfl fun b3 w1 hx1 hg1 hb1=>?_
 refine sbx rfl rfl fun b4 w2 hx2 hg2 hb2=>?_
 have k1:=hx1.tr hx2
 have hb3:=hb1.ext hx2
 refine Za<|nl<|wp_seq<|wpl [] (.pure true 0 (.pure false 1 (.pure true 2 (.pure false 3 (.pure true 4 (.pure false 5 (.pure true 6 (.pure false 7 (.pure true 8 (.pure false 9 (.pure true 10 (.pure true 11 (.pure true 12 .fin))))))))))))) mixed (by kernel_rfl) (fun w3 hx3=>?_)
 have k2:=k1.tr hx3
 have hb4:=hb3.ext hx3
 have hb5:=hb2.ext hx3
 refine Zp rfl (fun _=>xfa rfl fa58_1)<|Zq rfl (fun _ hS=>xld rfl ti3 ((Bx.cs (hb5.ext (hS.resolve_left nofun))).at 1 rfl)) (Ext.refl _)<|?_
 have hz:=bs hF; obtain ⟨x3,Ex3,hF⟩:=hz
 have hz:=ixar (Bx.cs hb4) Ex3; obtain ⟨i1,i2,hc1⟩:=hz
 refine Zp rfl (fun _=>xixa rfl rfl Tryz.underlying159 ti2 i1 i2)<|Zq rfl (fun _ hS=>xld rfl ti2 ((hc1.ext (hS.resolve_left nofun)).at 0 rfl)) (Ext.refl _)<|Zp rfl (fun _=>xfa rfl fa58_0)<|Zq rfl (fun _ hS=>xld rfl ti3 ((Bx.cs (hb5.ext (hS.resolve_left nofun))).at 0 rfl)) (Ext.refl _)<|?_
 have hz:=bs hF; obtain ⟨x4,Ex4,hF⟩:=hz
 have hz:=ixar (Bx.cs hb4) Ex4; obtain ⟨i3,i4,hc2⟩:=hz
 refine Zp rfl (fun _=>xixa rfl rfl Tryz.underlying159 ti2 i3 i4)<|Zq rfl (fun _ hS=>xld rfl ti2 ((hc2.ext (hS.resolve_left nofun)).at 0 rfl)) (Ext.refl _)<|Zp rfl (fun _=>xfa rfl fa58_2)<|Zq rfl (fun _ hS=>xld rfl ti2 ((Bx.cs (hb5.ext (hS.resolve_left nofun))).at 2 rfl)) (Ext.refl _)<|Zp rfl (fun _=>xadd rfl rfl)<|Zp rfl (fun _=>xleq rfl rfl)<|Zp rfl (fun _=>xas)<|?_
 cases hF
 exact wp_ret<|rt rfl (.tmp rfl rfl .nil) ⟨rfl,k2⟩
end Go.Proofs.YtfmelbioccbdoaaGreat
end
section
namespace Go.Proofs.YtfmelbioccbdoaaGreat
open Go Go.Md Go.RowKit
attribute [local irreducible] Go.wpList Go.Code.wp Go.Calls Go.Md.Rnd Go.Md.Mt Go.Md.MtM Go.Md.RndM Go.Code.wpIn
theorem c108 {w0:World} {v0:Value} {x0:(Int×(List (Int×Int×Int)))} (r0:RV w0 v0 x0) {F:Nat} {r:(Ob ((Int×(List (Int×Int×Int)))×(List (Int×Int×Int))))} (hF:speed_newNet F x0=some r) :
  Calls Tryz.prog 108 [v0].toArray w0 (Ret fun v w'=>∃ u0:Value,v=u0∧RV w' u0 r∧Ext w0 w'):=by
 unfold speed_newNet at hF
 have hz:=id r0; obtain ⟨_,rfl,⟨_,_,rfl,rfl,⟨a1,cq1,rfl,p1,q2,e1⟩⟩⟩:=hz
 have r2:=RV.of1 p1 q2 e1
 refine entr (n:=36) Tryz.func108 rfl rfl rfl<|Zr<|sbx rfl rfl fun b2 w1 hx1 hg1 hb1=>?_
 have r3:=r2.ext hx1
 refine Za<|nl<|wp_seq<|wpl [] (.pure false 0 (.pure true 1 (.pure false 2 (.eff 3 (.pure true 4 (.eff 5 (.pure true 6 .fin) .stop)) .stop)))) mixed (by kernel_rfl) (fun w2 hx2=>?_)
 have k1:=hx1.tr hx2
 have hb2:=hb1.ext hx2
 have r5:=r3.ext hx2
 refine Zq rfl (fun _ hS=>xlda rfl ti24 rfl (Bx.cs (hb2.ext (hS.resolve_left nofun)))) (Ext.refl _)<|Zp rfl (fun _=>xfa rfl fa24_1)<|Zq rfl (fun _ hS=>xld rfl ti22 ((Bx.cs (hb2.ext (hS.resolve_left nofun))).at 1 rfl)) (Ext.refl _)<|?_
 have hz:=bs hF; obtain ⟨x2,Ex2,hF⟩:=hz
 refine pe1 rfl<|Zc (xc cb213 (mc rfl mn)) (c213 r5 Ex2) ?_
 rintro _ w3 ⟨u1,rfl,r6,hx3⟩
 have hz:=RV.sl r6.rv; obtain ⟨a2,cq2,rfl,-,-,-⟩:=hz
 refine nl ⟨fun _ _=>hx3,?_⟩
 refine Zp rfl (fun _=>xbdv (r:=[.int .i64 x0.1,.slice a1 x0.2.length cq1,.slice a2 x2.length cq2]) ti229 sp229 (pc rfl (pc rfl pn)) rfl)<|pe1 rfl<|sbx rfl rfl fun b3 w4 hx4 hg2 hb3=>?_
 have k4:=hx3.tr hx4
 have r9:=r6.ext hx4
 refine nl ⟨fun _ _=>k4,?_⟩
 refine Zp rfl (fun _=>xas)<|wp_seq<|Zr<|Zm<|Zv (xnil rfl)<|Zv (xfa rfl fa229_0)<|Zv (xfa rfl fa24_0)<|Zv (xld rfl ti3 ((Bx.cs hb3).at 0 rfl))<|Zm<|nl<|?_
 have hz:=bs hF; obtain ⟨z1,hB1,hF⟩:=hz
 refine ct (fun L w=>∃ v3:Value,Bx w b3 229 [.int .i64 z1.1.1,.slice a1 x0.2.length cq1,v3]∧Row 58 w2.heap.size w v3 z1.2∧some b3≠Value.ownBlock v3∧L 3=.pointer (some ⟨b3,0,none⟩)∧Ext w2 w) ?_ ?_
 ·
  refine wp_block<|lp (I:=fun m L w=>∃ y1:Int,∃ y2:((Int×(List (Int×Int×Int)))×(List (Int×Int×Int))),∃ v2:Value,speed_newNet_l1 F x0 m y1 y2 =some z1∧L 16=.int .i64 y1∧Bx w b3 229 [.int .i64 y2.1.1,.slice a1 x0.2.length cq1,v2]∧Row 58 w2.heap.size w v2 y2.2∧some b3≠Value.ownBlock v2∧L 3=.pointer (some ⟨b3,0,none⟩)∧L 15=.int .i64 x0.1∧Ext w2 w) F ⟨_,_,_,hB1,rfl,hb3,r9,(r6.ne_new hg2),rfl,rfl,k4⟩ ?_
  rintro m L w5 ⟨y1,y2,v2,hB1,l16_i1,B3_i1,O3c1_i1,N3c1_i1,l3_i1,l15_i1,K0_i1⟩
  rcases m with _ | m
  ·rw [speed_newNet_l1] at hB1; cases hB1
  rw [speed_newNet_l1] at hB1
  have hz:=RV.sl O3c1_i1.rv; obtain ⟨a3,cq3,rfl,-,-,-⟩:=hz
  refine Zr<|Zv (xlss l16_i1 l15_i1)<|nl<|wp_seq<|cnd rfl (fun h2=>?_) (fun h2=>?_)
  ·
   have hB1:=ifp hB1 h2
   refine wp_skip<|wp_seq<|wp_block<|Zr<|Zm<|Za<|nl<|rg<|Zm<|Zm<|Zv (xnil l3_i1)<|Zv (xfa rfl fa229_1)<|Zv (xld rfl ti22 ((Bx.cs B3_i1).at 2 rfl))<|Zm<|Zv (xadd l16_i1 rfl)<|Zv (xbdv (r:=[.int .i64 0,.int .i64 (w64 (y1 + 1)),.int .i64 100000]) ti58 sp58 (pc rfl (pc rfl pn)) rfl)<|Zm<|Zv (xadd l16_i1 rfl)<|Zv (xbdv (r:=[.int .i64 (w64 (y1 + 1)),.int .i64 0,.int .i64 0]) ti58 sp58 (pc rfl pn) rfl)<|sbsv (cs:=[.int .i64 0,.int .i64 (w64 (y1 + 1)),.int .i64 100000,.int .i64 (w64 (y1 + 1)),.int .i64 0,.int .i64 0]) Tryz.underlying22 ti58 rfl (pc rfl (pc rfl pn)) rfl rfl rfl rfl rfl fun b4 w6 hx5 hg3 hb4=>?_
   have k7:=K0_i1.tr hx5
   have B1:=B3_i1.ext hx5
   have O1:=O3c1_i1.ext hx5
   have o2:Row (α:=(Int×Int×Int)) 58 w5.heap.size w6 (.slice (some ⟨b4,0,none⟩) 2 2) [(0,w64 (y1 + 1),100000),(w64 (y1 + 1),0,0)]:=Row.lit hg3 hb4 rfl (ble rfl)
   have hz:=bs hB1; obtain ⟨x3,Ex3,hB1⟩:=hz
   refine sapx (l:=y2.2) (k:=([(0,w64 (y1 + 1),100000),(w64 (y1 + 1),0,0)]:List (Int×Int×Int))) rfl rfl Tryz.underlying22 ti58 rfl rfl O1 (RV.els o2.rv) Ex3 k7.size fun v4 w7 o3 hB3 hgr1 how1=>?_
   have k9:Ext w2 w7:=k7.trans hB3
   have ne1:=ne_app how1 N3c1_i1 B1.lt
   have hb5:=Bx.gr B1 hgr1 N3c1_i1
   have hz:=RV.sl o3.rv; obtain ⟨a4,cq4,rfl,-,-,-⟩:=hz
   refine Zv (xnil l3_i1)<|Zv (xfa rfl fa229_1)<|sst rfl rfl rfl ti22 hb5 rfl rfl (ble rfl) fun w8 hch1 hb6=>?_
   have k11:=Ext.chg k9 hch1 (Nat.le_trans (Nat.le_refl _) (Nat.le_trans hx3.size hg2))
   have o4:=Row.chgn o3 hch1 ne1
   have hb7:Bx w8 b3 229 [.int .i64 y2.1.1,.slice a1 x0.2.length cq1,.slice a4 x3.length cq4]:=hb6
   refine nl<|rg<|Zv (xadd l16_i1 rfl)<|Zm<|nl<|?_
   refine lq m (Nat.lt_succ_self _)<|?_
   exact ⟨_,_,_,hB1,rfl,hb7,o4,ne1,l3_i1,l15_i1,k11⟩
  ·
   have hB1:=ifn hB1 h2
   refine wp_exit<|?_
   cases hB1
   refine lf<|?_
   exact ⟨_,B3_i1,O3c1_i1,N3c1_i1,l3_i1,K0_i1⟩
 rintro L w9 ⟨v3,B3_j1,O3c1_j1,N3c1_j1,l3_j1,K0_j1⟩
 have k12:=k1.tr K0_j1
 have r15:=r5.ext K0_j1
 have hz:=RV.sl O3c1_j1.rv; obtain ⟨a5,cq5,rfl,-,-,-⟩:=hz
 refine Zr<|Zm<|Za<|nl<|?_
 have r16:RV w9 (.pointer (some ⟨b3,0,none⟩)) (⟨some ((z1.1.1,x0.2),z1.2)⟩:(Ob ((Int×(List (Int×Int×Int)))×(List (Int×Int×Int))))):=obNew (Bx.cs B3_j1) rfl ⟨[.int .i64 z1.1.1]++[.slice a1 x0.2.length cq1],[.slice a5 z1.2.length cq5],rfl,⟨[.int .i64 z1.1.1],[.slice a1 x0.2.length cq1],rfl,rfl,r15.rep1⟩,O3c1_j1.rv.rep1⟩
 cases hF
 exact wp_ret<|rt rfl (.tmp l3_j1 rfl .nil) ⟨_,rfl,r16,k12⟩
theorem c17 {w0:World} {v0:Value} {x0:(Int×(List (Int×Int×Int)))} (r0:RV w0 v0 x0) {v1:Value} {x1:(List Int)} (r1:RV w0 v1 x1) {F:Nat} {r:Int} (hF:speed_CheckSpeeds F x0 x1=some r) :
  Calls Tryz.prog 17 [v0,v1].toArray w0 (Ret fun v w'=>v=.int .i64 r∧Ext w0 w'):=by
 unfold speed_CheckSpeeds at hF
 have hz:=id r0; obtain ⟨_,rfl,⟨_,_,rfl,rfl,⟨a1,cq1,rfl,p1,q3,e1⟩⟩⟩:=hz
 have r3:=RV.of1 p1 q3 e1
 have hz:=r1.sl; obtain ⟨a2,cq2,rfl,-,-,-⟩:=hz
 refine entr (n:=43) Tryz.func17 rfl rfl rfl<|Zr<|sbx rfl rfl fun b3 w1 hx1 hg1 hb1=>?_
 have r4:=r1.ext hx1
 have r5:=r3.ext hx1
 refine Za<|nl<|wp_seq<|Zr<|Zv (xlda rfl ti24 rfl (Bx.cs hb1))<|?_
 have hz:=bs hF; obtain ⟨x3,Ex3,hF⟩:=hz
 refine Zc (xc cb90 (mc rfl mn)) (c90 (show RV (α:=(Int×(List (Int×Int×Int)))) _ (.agg [.int .i64 x0.1,.slice a1 x0.2.length cq1].toArray) (x0.1,x0.2) from ⟨_,rfl,⟨[.int .i64 x0.1],[.slice a1 x0.2.length cq1],rfl,rfl,r5.rep1⟩⟩) Ex3) ?_
 rintro _ w2 ⟨rfl,hx2⟩
 have k1:=hx1.tr hx2
 have hb2:=hb1.ext hx2
 have r8:=r4.ext hx2
 refine Za<|nl<|Zr<|Zm<|Zv (xneq rfl rfl)<|nl<|cnd rfl (fun h3=>?_) (fun h3=>?_)
 ·
  have hF:=ifp hF h3
  refine Zr<|Zm<|Za<|nl<|?_
  cases hF
  exact wp_ret<|rt rfl (.tmp rfl rfl .nil) ⟨rfl,k1⟩
 ·
  have hF:=ifn hF h3
  refine wp_skip<|wp_seq<|wp_block<|Zr<|Zm<|Zv (xlen rfl Tryz.underlying28)<|Zv (xfa rfl fa24_0)<|Zv (xld rfl ti3 ((Bx.cs hb2).at 0 rfl))<|Zv (xneq rfl rfl)<|Za<|nl<|cnd rfl (fun h4=>?_) (fun h4=>?_)
  ·
   have hF:=ifp hF h4
   refine Zr<|Za<|nl<|?_
   cases hF
   exact wp_ret<|rt rfl (.tmp rfl rfl .nil) ⟨rfl,k1⟩
  ·
   have hF:=ifn hF h4
   refine Zr<|Zm<|?_
   have hz:=bs hF; obtain ⟨x4,Ex4,hF⟩:=hz
   refine Zc (xc cb91 (mc rfl (mc rfl (mc rfl mn)))) (c91 r8 Ex4) ?_
   rintro _ w3 ⟨rfl,hx3⟩
   have k2:=k1.tr hx3
   have hb3:=hb2.ext hx3
   have r10:=r8.ext hx3
   refine Zv (xnot rfl)<|Za<|nl<|cnd rfl (fun h5=>?_) (fun h5=>?_)
   ·
    have hF:=ifp hF h5
    refine Zr<|Za<|nl<|?_
    cases hF
    exact wp_ret<|rt rfl (.tmp rfl rfl .nil) ⟨rfl,k2⟩
   ·
    have hF:=ifn hF h5
    refine wp_skip<|Zr<|Zv (xbdav (r:=List.flatMap Flat.enc (aset (Ar.fill 21 0:(Ar 21 Int)) 0 0).l) ti159 Tryz.underlying159 ti2 (pc rfl pn) rfl)<|sal ti159 fun b4 w4 hx4 hg2 hb4=>?_
    have k3:=k2.tr hx4
    have hb6:Bx w4 b4 159 (List.flatMap Flat.enc ((Ar.fill 21 0:(Ar 21 Int))).l):=hb4
    refine sstw rfl rfl ti159 hb6 (arlen _) (arlen _) (flat_one _) fun w5 hch1 hb7=>?_
    have k4:=Ext.chg k3 hch1 (Nat.le_trans k2.size hg2)
    have k5:=Ext.chg hx4 hch1 (Nat.le_trans (Nat.le_refl _) hg2)
    have r14:=r10.ext k5
    have hb9:Bx w5 b4 159 (List.flatMap Flat.enc (aset (Ar.fill 21 0:(Ar 21 Int)) 0 0).l):=hb7
    refine nl<|Zr<|Zv (xsla (lo:=1) rfl rfl Tryz.underlying159 ti2 rfl)<|Zm<|scp (X:=(aset (Ar.fill 21 0:(Ar 21 Int)) 0 0)) (lo:=1) rfl rfl rfl Tryz.underlying28 rfl ti2 hb9 r14 rfl fun w6 cq3 hch2 hb10=>?_
    have k6:=Ext.chg k4 hch2 (Nat.le_trans k2.size hg2)
    have k7:=Ext.chg k5 hch2 (Nat.le_trans (Nat.le_refl _) hg2)
    have hb11:=hb3.ext k7
    refine nl<|Zr<|Zv (xlda rfl ti159 (arlen _) (Bx.cs hb10))<|Zv (xmf (mc rfl mn) mn)<|Za<|nl<|wp_seq<|Zr<|Zv (xfa rfl fa24_1)<|Zv (xld rfl ti22 ((Bx.cs hb11).at 1 rfl))<|Zv (xlen rfl Tryz.underlying22)<|Zm<|nl<|?_
    have hz:=bs hF; obtain ⟨o1,hB1,hF⟩:=hz
    refine ct (fun L w=>o1=.inr ()∧Ext w6 w) ?_ ?_
    ·
     refine wp_block<|lp (I:=fun m L w=>∃ y1:Int,speed_CheckSpeeds_l1 F x0 x1 m y1 =some o1∧L 34=.int .i64 y1∧L 7=.func (.func 92) [.agg (List.flatMap Flat.enc (acopy (aset (Ar.fill 21 0:(Ar 21 Int)) 0 0) 1 x1).l).toArray].toArray [].toArray∧L 32=.slice a1 x0.2.length cq1∧L 33=.int .i64 (x0.2.length:Int)∧Ext w6 w) F ⟨_,hB1,rfl,rfl,rfl,rfl,(Ext.refl _)⟩ ?_
     rintro m L w7 ⟨y1,hB1,l34_i1,l7_i1,l32_i1,l33_i1,K0_i1⟩
     rcases m with _ | m
     ·rw [speed_CheckSpeeds_l1] at hB1; cases hB1
     rw [speed_CheckSpeeds_l1] at hB1
     have k8:=k6.tr K0_i1
     refine Zr<|Zv (xlss l34_i1 l33_i1)<|nl<|wp_seq<|cnd rfl (fun h6=>?_) (fun h6=>?_)
     ·
      have hB1:=ifp hB1 h6
      refine wp_skip<|wp_seq<|wp_block<|Zr<|?_
      have hz:=bs hB1; obtain ⟨x5,Ex5,hB1⟩:=hz
      have hz:=(RV.els r3).ix Ex5; obtain ⟨b5,f1,cs3,e2,i2,i3,q4,hc1⟩:=hz
      cases e2
      obtain ⟨_,_,rfl,rfl,⟨_,_,rfl,rfl,rfl⟩⟩:=q4
      have hc2:=hc1.ext k8
      refine Zv (xixs l32_i1 l34_i1 Tryz.underlying22 ti58 i2 i3)<|Zv (xlda rfl ti58 rfl hc2)<|sal ti58 fun b6 w8 hx5 hg3 hb12=>?_
      have k10:=k8.tr hx5
      have k12:=K0_i1.tr hx5
      refine sst rfl rfl rfl ti58 hb12 rfl rfl (ble rfl) fun w9 hch3 hb13=>?_
      have k13:=Ext.chg k10 hch3 (Nat.le_trans k8.size hg3)
      have k15:=Ext.chg k12 hch3 (Nat.le_trans K0_i1.size hg3)
      have hb14:Bx w9 b6 58 [.int .i64 x5.1,.int .i64 x5.2.1,.int .i64 x5.2.2]:=hb13
      refine nl<|Zr<|Zm<|Zv (xlda rfl ti58 rfl (Bx.cs hb14))<|?_
      have hz:=bs hB1; obtain ⟨x6,Ex6,hB1⟩:=hz
      refine Zc (xcv l7_i1 cb92 (mc rfl mn) rfl) (c92 (show RV (α:=(Ar 21 Int)) _ (.agg (List.flatMap Flat.enc (acopy (aset (Ar.fill 21 0:(Ar 21 Int)) 0 0) 1 x1).l).toArray) (acopy (aset (Ar.fill 21 0:(Ar 21 Int)) 0 0) 1 x1) from ⟨_,rfl,rfl⟩) (show RV (α:=(Int×Int×Int)) _ (.agg [.int .i64 x5.1,.int .i64 x5.2.1,.int .i64 x5.2.2].toArray) (x5.1,x5.2.1,x5.2.2) from ⟨_,rfl,⟨[.int .i64 x5.1],[.int .i64 x5.2.1]++[.int .i64 x5.2.2],rfl,rfl,⟨[.int .i64 x5.2.1],[.int .i64 x5.2.2],rfl,rfl,rfl⟩⟩⟩) Ex6) ?_
      rintro _ w10 ⟨rfl,hx6⟩
      have k17:=k13.tr hx6
      have k19:=k15.tr hx6
      refine Zv (xnot rfl)<|nl<|cnd rfl (fun h7=>?_) (fun h7=>?_)
      ·
       have hB1:=ifp hB1 h7
       refine Zr<|Za<|nl<|?_
       cases hB1
       have hF:=(show some _=some _ from hF); cases hF
       exact wp_ret<|rt rfl (.tmp rfl rfl .nil) ⟨rfl,k17⟩
      ·
       have hB1:=ifn hB1 h7
       refine wp_skip<|rg<|Zv (xadd l34_i1 rfl)<|Zm<|nl<|?_
       refine lq m (Nat.lt_succ_self _)<|?_
       exact ⟨_,hB1,rfl,l7_i1,l32_i1,l33_i1,k19⟩
     ·
      have hB1:=ifn hB1 h6
      refine wp_exit<|?_
      cases hB1
      refine lf<|?_
      exact ⟨rfl,K0_i1⟩
    rintro L w11 ⟨rfl,K0_j1⟩
    have k21:=k6.tr K0_j1
    refine Zr<|Za<|nl<|?_
    cases hF
    exact wp_ret<|rt rfl (.tmp rfl rfl .nil) ⟨rfl,k21⟩
end Go.Proofs.YtfmelbioccbdoaaGreat
end
section
namespace Go.Proofs.YtfmelbioccbdoaaGreat
open Go Go.Md Go.RowKit
attribute [local irreducible] Go.wpList Go.Code.wp Go.Calls Go.Md.Rnd Go.Md.Mt
abbrev TRule:=Int×Int×Int
abbrev TSheet:=Int×List TRule
abbrev TNet:=TSheet×List TRule
theorem c294 {w0:World} {a0:Option Addr}:Calls Tryz.prog 294 [.pointer a0].toArray w0 (Ret fun v w'=>∃ bx,v=.func (.func 338) #[] #[.pointer (some ⟨bx,0,none⟩)]∧Bx w' bx 180 [.pointer a0]∧w0.heap.size≤bx∧Ext w0 w'):=by
 refine entr (n:=4) Tryz.func294 rfl rfl rfl<|Zr<|sbx rfl rfl fun b1 w1 hx1 hg1 hb1=>?_
 refine Za<|nl<|Zr<|Zv (xmf (l:=[]) (k:=[.pointer (some ⟨b1,0,none⟩)]) rfl rfl)<|Za<|nl<|wp_ret<|rt rfl (.tmp rfl rfl .nil) ⟨b1,rfl,hb1,hg1,hx1⟩
def en {α:Type} (l:List α):List (Int×α):=l.zipIdx.map fun p=>((p.2:Int),p.1)
theorem en_get {α:Type} (l:List α) (k:Nat):(en l)[k]?=l[k]?.map fun x=>((k:Int),x):=by
 simp [en,List.getElem?_map,List.getElem?_zipIdx,Option.map_map,Function.comp_def]
theorem en_len {α:Type} (l:List α):(en l).length=l.length:=by simp [en]
abbrev EnR (l:List TRule):={ p:Int×TRule // p∈en l }
def encR {l:List TRule} (p:EnR l):Array Value:=#[.int .i64 p.1.1,.agg (Flat.enc p.1.2).toArray]
set_option maxHeartbeats 2000000 in
theorem st338 {m:Nat} {w:World} {bx b0 N b c:Nat} {x0:TNet} (hbx:Bx w bx 180 [.pointer (some ⟨b0,0,none⟩)]) (h1:bx<N) (h2:bx≠b) (h3:bx≠c)
  (hr:RVo (fun q=>q<N∧q≠b∧q≠c) w (.pointer (some ⟨b0,0,none⟩)) (⟨some x0⟩:Ob TNet)) (hN:N≤w.heap.size) :
  SeqStopsK Fence.wide m Tryz.prog 338 #[.pointer (some ⟨bx,0,none⟩)] (encR (l:=x0.2)) (BelX N b c) (fun xs=>xs.map (·.1)=en x0.2) (fun _=>True) x0.2.length w:=by
 intro l J Jx W hW hJ hJx hY h0
 have kW:Ext w W:=hW
 have hbW:=hbx.ext kW
 have hrW:=hr.ext kW
 refine (callsIn_wide.2 ?_:CallsIn Fence.wide m Tryz.prog 338 ([.func (.yield l) #[] #[],.pointer (some ⟨bx,0,none⟩)].toArray) W _)
 refine Calls.mono (R:=Ret fun v W'=>(∃ xs:List (EnR x0.2),xs.map (·.1)=en x0.2∧J xs W')∨∃ pre,Jx pre W') ?_ ?_
 rotate_left
 ·rintro e W' ⟨v,rfl,h⟩
  refine ⟨⟨v,rfl⟩,?_⟩
  rcases h with ⟨xs,h4,h5⟩ | ⟨pre,h5⟩
  ·exact .inl ⟨xs,h4,h5⟩
  ·exact .inr ⟨pre,trivial,h5⟩
 have hz:=obGetO hrW rfl; obtain ⟨b0',ds,e,_,q0,hc0⟩:=hz
 cases e
 obtain ⟨_,_,rfl,⟨_,_,rfl,rfl,⟨a1,c1,rfl,p1,q3,e1⟩⟩,⟨a2,c2,rfl,p2,q4,e2⟩⟩:=q0
 have hs4:RVo (fun q=>q<N∧q≠b∧q≠c) W (.slice a2 x0.2.length c2) x0.2:=RVo.sl.2 ⟨a2,c2,rfl,p2,q4,e2⟩
 refine entr (n:=21) Tryz.func338 rfl rfl rfl<|Zr<|Zv (xld rfl ti180 ((Bx.cs hbW).at 0 rfl))<|Zv (xnil rfl)<|Zv (xfa rfl fa229_1)<|Zv (xld rfl ti22 (hc0.at 2 rfl))<|Zv (xlen rfl Tryz.underlying22)<|Zm<|nl<|?_
 refine wp_block<|lp (I:=fun m' L w1=>∃ (k:Nat) (pre:List (EnR x0.2)),k + m'=x0.2.length∧L 10=.int .i64 (k:Int)∧L 9=.int .i64 (x0.2.length:Int)∧L 8=.slice a2 x0.2.length c2∧L 0=.func (.yield l) #[] #[]∧pre.map (·.1)=(en x0.2).take k∧J pre w1∧BelX N b c W w1) x0.2.length
  ⟨0,[],by simp,rfl,rfl,rfl,rfl,rfl,h0,BelX.refl⟩ ?_
 rintro m' L w1 ⟨k,pre,hk,l10,l9,l8,l0,hp,hj,hx⟩
 refine Zr<|Zv (xlss l10 l9)<|nl<|wp_seq<|cnd rfl (fun hc=>?_) (fun hc=>?_)
 ·have hc:(k:Int)<(x0.2.length:Int):=by simpa using hc
  have hkl:k<x0.2.length:=by omega
  have hg:x0.2[k]?=some x0.2[k]:=List.getElem?_eq_getElem hkl
  have hix:ix x0.2 (k:Int)=some x0.2[k]:=by simp [ix,hg]
  have hpl:pre.length=k:=by
   have:=congrArg List.length hp
   simp only [List.length_map,List.length_take,en_len] at this
   omega
  let x:EnR x0.2:=⟨((k:Int),x0.2[k]),by
   have:(en x0.2)[k]?=some ((k:Int),x0.2[k]):=by rw [en_get,hg]; rfl
   exact List.mem_of_getElem? this⟩
  have hz:=(RVo.sl.1 (hs4.belx hx)); obtain ⟨a2',c2',e3,_,_,els⟩:=hz
  cases e3
  have hz:=Els.ix els hix; obtain ⟨b5,off5,cs5,rfl,i1,i2,q5,hc5⟩:=hz
  obtain ⟨_,_,rfl,rfl,⟨_,_,rfl,rfl,rfl⟩⟩:=q5
  refine wp_skip<|wp_seq<|wp_block<|Zr<|Zm<|Zv (xixs l8 l10 Tryz.underlying22 ti58 i1 i2)<|Zv (xlda rfl ti58 rfl hc5)<|sal ti58 fun b6 w2 hx2 hg2 hb2=>?_
  refine Zv (xasa l10)<|sst rfl rfl rfl ti58 hb2 rfl rfl (ble rfl) fun w3 hch3 hb3=>?_
  have kx3:Ext w1 w3:=hx2.chg hch3 hg2
  have hj3:J pre w3:=hJ pre w1 w3 none hj (Ext.gr kx3) (fun r e=>by cases e)
  have hNW:N≤W.heap.size:=Nat.le_trans hN kW.size
  have hx3:=hx.ext kx3 (Nat.le_trans hNW hx.size)
  refine nl<|?_
  have hz:=hY pre x w3 hj3 (by omega); obtain ⟨fn,tmps,assign,body,hy,hR⟩:=hz
  refine wp_seq<|rgW (m:=m)<|vlW rfl rfl nofun xmv<|vlW rfl rfl nofun xmv<|vlW rfl rfl nofun (xlda rfl ti58 rfl (Bx.cs hb3))<|ylW rfl rfl nofun (xyl l0 (mc rfl<|mc rfl mn) hy) hR fun e w4 he=>?_
  rcases he with ⟨rfl,hj4,k4⟩ | ⟨rfl,hj4⟩
  ·refine ⟨_,rfl,vlW rfl rfl nofun (xnot rfl)<|nlW<|cnd rfl (fun h=>by cases h) (fun _=>?_)⟩
   refine wp_skip<|rg<|Zv (xadd l10 rfl)<|Zm<|nl<|?_
   refine lq (m' - 1) (by omega) ⟨k + 1,pre++[x],by omega,?_,l9,l8,l0,?_,hj4,hx3.trans k4⟩
   ·show Value.int .i64 (w64 ((k:Int) + 1))=_
    have:=q4
    have hmx:x0.2.length≤maxLen:=by omega
    rw [w64,IntWalk.i64_in _ (by unfold maxLen at hmx; omega)]
    rfl
   ·rw [List.map_append,hp,List.take_add_one]
    congr 1
    rw [en_get,hg]
    rfl
  ·refine ⟨_,rfl,vlW rfl rfl nofun (xnot rfl)<|nlW<|cnd rfl (fun _=>?_) (fun h=>by cases h)⟩
   exact wp_ret<|rt rfl .nil (.inr ⟨_,hj4⟩)
 ·have hc:¬ (k:Int)<(x0.2.length:Int):=by simpa using hc
  refine wp_exit<|rtn rfl .nil (.inl ⟨pre,?_,hj⟩)
  rw [hp,List.take_of_length_le (by rw [en_len]; omega)]
def tR (r:TRule):Bool:=decide (0≤r.1) && decide (r.1≤20) && decide (0≤r.2.1) && decide (r.2.1≤20)
def stepB (s:Ar 21 Int×List (Int×Int)) (p:Int×TRule):Ar 21 Int×List (Int×Int) :=
 let a:=(ix s.1.l p.2.1).getD 0
 let b:=(ix s.1.l p.2.2.1).getD 0
 if !decide (a=1125899906842624) && !decide (b≤w64 (a + p.2.2.2)) then (aset s.1 p.2.2.1 (w64 (a + p.2.2.2)),mput s.2 p.2.2.1 p.1) else s
def speed_net_step (all:List TRule) (far:Ar 21 Int) (by_:List (Int×Int)):Option (Ar 21 Int×List (Int×Int)×Bool) :=
 if all.all tR then
  let s:=(en all).foldl stepB (far,by_)
  some (s.1,s.2,!decide (s.1=far))
 else none
theorem kt3:KT Tryz.prog 3 Int:=KT.int Tryz.underlying3
theorem ix_ar {X:Ar 21 Int} {i:Int} (h0:0≤i) (h1:i≤20):ix X.l i=some ((ix X.l i).getD 0):=by
 have:i.toNat<X.l.length:=by rw [X.h]; omega
 unfold ix
 rw [if_pos h0,List.getElem?_eq_getElem this]
 rfl
theorem key_ok {i:Int} (h0:0≤i) (h1:i≤20):Key.ok i=true:=by
 have:i=0∨i=1∨i=2∨i=3∨i=4∨i=5∨i=6∨i=7∨i=8∨i=9∨i=10∨i=11∨i=12∨i=13∨i=14∨i=15∨i=16∨i=17∨i=18∨i=19∨i=20:=by omega
 rcases this with h | h | h | h | h | h | h | h | h | h | h | h | h | h | h | h | h | h | h | h | h <;> subst h <;> decide
theorem c212 {wb w0:World} (hk:Ext wb w0) {b0 bf bm T:Nat} {x0:TNet} {X:Ar 21 Int} {l:List (Int×Int)} (r0:RV wb (.pointer (some ⟨b0,0,none⟩)) (⟨some x0⟩:Ob TNet))
  (hf:Bx w0 bf T (X.l.flatMap Flat.enc)) (hgf:wb.heap.size≤bf) (hm:Mp w0 bm l) (hgm:wb.heap.size≤bm) {r:Ar 21 Int×List (Int×Int)×Bool} (hF:speed_net_step x0.2 X l=some r) :
  Calls Tryz.prog 212 [.pointer (some ⟨b0,0,none⟩),.pointer (some ⟨bf,0,none⟩),.map (some bm)].toArray w0 (Ret fun v w'=>v=.bool r.2.2∧Bx w' bf T (r.1.l.flatMap Flat.enc)∧Mp w' bm r.2.1∧BelX w0.heap.size bf bm w0 w'):=by
 unfold speed_net_step at hF
 split at hF
 case isFalse=>cases hF
 rename_i hall
 cases hF
 refine entrM (m:=5) (n:=55) Tryz.func212 rfl rfl rfl<|Zr<|sbx rfl rfl fun b4 w1 hx1 hg1 hb1=>?_
 refine sbx rfl rfl fun b5 w2 hx2 hg2 hb2=>?_
 have hb1':=hb1.ext hx2
 have k2:=hx1.tr hx2
 have hf2:=hf.ext k2
 have hm2:=hm.ext k2
 refine Za<|nl<|Zr<|Zv (xld rfl ti314 ((Bx.cs hb1').at 0 rfl))<|Zv (xnil rfl)<|Zv (xlda rfl ti159 (arlen X) (Bx.cs hf2))<|sal ti159 fun b7 w3 hx3 hg3 hb3=>?_
 refine sstw rfl rfl ti159 hb3 rfl (arlen X) (flat_one _) fun w4 hch4 hb4=>?_
 have k4:Ext w0 w4:=(k2.tr hx3).chg hch4 (Nat.le_trans k2.size hg3)
 have k24:Ext w2 w4:=hx3.chg hch4 hg3
 refine nl<|wp_seq<|Zr<|Zm<|Zc (xc cb294 (l:=[.pointer (some ⟨b0,0,none⟩)]) (mc rfl mn)) (c294 (a0:=some ⟨b0,0,none⟩)) fun v w5 hv=>?_
 obtain ⟨bx,rfl,hbx,hgx,hx5⟩:=hv
 have k5:Ext w0 w5:=k4.tr hx5
 have k25:Ext w2 w5:=k24.tr hx5
 have hf5:=hf.ext k5
 have hm5:=hm.ext k5
 have hbf:=hf.lt
 have hbm:=hm.lt
 have hs0:=k5.size
 have hs4:=k4.size
 have hs1:=hx1.size
 have hs2:=k2.size
 have hb15:=(hb1.ext hx2).ext k25
 have hb25:=hb2.ext k25
 have hb45:=hb4.ext hx5
 have hl1:=hb15.lt
 have hl2:=hb25.lt
 have hl4:=hb45.lt
 have hlx:=hbx.lt
 have hr5:RVo (fun q=>q<w5.heap.size∧q≠bf∧q≠bm) w5 (.pointer (some ⟨b0,0,none⟩)) (⟨some x0⟩:Ob TNet):=by
  have hwb:=hk.size
  exact ((r0.old.ext (hk.tr k5)).mono fun q _ hq=>⟨by omega,by omega,by omega⟩)
 refine nl<|wp_block<|(wpIn_wide (n:=5)).1<|wpIn_rangeFunc_ownH rfl (by decide) (gf:=338) (lb:=#[.pointer (some ⟨bx,0,none⟩)]) (by rw [ev_act]; rfl) trivial (fun args w=>run_callFunc cb338)
  (st338 hbx hlx (by omega) (by omega) hr5 (Nat.le_refl _)) (fun h k=>h.trans k) (fun W l o o' hl ho _ _=>BelX.refl.chg (chg_put ho) hl) (Below.refl _ _) (fun _=>rfl)
  (fun pre W=>Bx W bf T (((pre.map (·.1)).foldl stepB (X,l)).1.l.flatMap Flat.enc)∧Mp W bm ((pre.map (·.1)).foldl stepB (X,l)).2∧BelX w5.heap.size bf bm w5 W)
  (fun _ _ _=>False) (own_and own_bx (own_and (own_mp (by omega)) (own_belx (Nat.le_refl _) (Nat.le_refl _)))) (fun _ _ _ _ _ hs _ _=>hs) ⟨hf5,hm5,BelX.refl⟩
  (fun x a' W=>∃ L' b9,a'=act 55 L' []∧L' 4=.pointer (some ⟨b4,0,none⟩)∧L' 5=.pointer (some ⟨b5,0,none⟩)∧L' 8=.int .i64 x.1.1∧L' 9=.pointer (some ⟨b9,0,none⟩)∧w5.heap.size≤b9∧Bx W b9 58 (Flat.enc x.1.2))
  (fun x a' s W W' row hs hg hr=>by
   obtain ⟨L',b9,h1,h2,h3,h4,h5,h6,h7⟩:=hs
   exact ⟨L',b9,h1,h2,h3,h4,h5,h6,own_bx (f:=fun _=>Flat.enc x.1.2) () W W' row h7 hg hr⟩) ?assign ?body ?done ?stop
 case assign =>
  rintro l1 pre x W K ⟨i1,i2,i3⟩ hK
  have hsW:=i3.size
  refine (congrArg (fun a=>Code.wpIn (RF l1) 3 Tryz.prog _ _ a W) round2).mpr ?_
  refine wpIn_seq<|rgR rfl<|Za<|nl<|rgR rfl<|sal ti58 fun b9 w6 hx6 hg6 hb6=>?_
  refine sst rfl rfl rfl ti58 hb6 rfl rfl (ble rfl) fun w7 hch7 hb7=>?_
  have kx7:Ext W w7:=hx6.chg hch7 hg6
  refine nl<|hK _ _ kx7.kf (BelX.of kx7 hsW) ⟨i1.ext kx7,i2.ext kx7,i3.ext kx7 hsW⟩ ⟨_,b9,rfl,rfl,rfl,rfl,rfl,by omega,hb7⟩
 case body =>
  rintro l1 pre x a' W hl ⟨rr,hlr⟩ ⟨i1,i2,i3⟩ ⟨L,b9,rfl,l4,l5,l8,l9,hg9,hb9⟩ hlen
  have hsW:=i3.size
  obtain ⟨⟨i,rl⟩,hmem⟩:=x
  have hrl:tR rl=true:=by
   obtain ⟨p,hp,e⟩:=List.mem_map.1 hmem
   cases e
   obtain ⟨q1,q2⟩:=p
   have hq:=(List.mem_zipIdx hp).2.2
   exact List.all_eq_true.1 hall _ (by rw [hq]; exact List.getElem_mem _)
  simp only [tR,Bool.and_eq_true,decide_eq_true_eq] at hrl
  obtain ⟨⟨⟨f0,f1⟩,t0⟩,t1⟩:=hrl
  generalize hS:(pre.map (·.1)).foldl stepB (X,l)=S at i1 i2
  have hS':((pre++[(⟨(i,rl),hmem⟩:EnR x0.2)]).map (·.1)).foldl stepB (X,l)=stepB S (i,rl):=by rw [List.map_append,List.foldl_append,hS]; rfl
  have exa:=ix_ar (X:=S.1) f0 f1
  have exb:=ix_ar (X:=S.1) t0 t1
  generalize ha:(ix S.1.l rl.1).getD 0=a at exa
  generalize hb:(ix S.1.l rl.2.1).getD 0=b at exb
  have hst:stepB S (i,rl)=if !decide (a=1125899906842624) && !decide (b≤w64 (a + rl.2.2)) then (aset S.1 rl.2.1 (w64 (a + rl.2.2)),mput S.2 rl.2.1 i) else S:=by
   simp only [stepB,ha,hb]
  have h4W:=hb15.belx i3 hl1 (by omega) (by omega)
  have h5W:=hb25.belx i3 hl2 (by omega) (by omega)
  have hkp:speed_list_keeps S.1 rl=some (decide (b≤w64 (a + rl.2.2))):=by
   unfold speed_list_keeps
   rw [exb,exa]
   rfl
  refine wpIn_block<|wpIn_seq<|wplR [] (.pure false 0 (.pure true 1 (.pure false 2 (.pure true 3 (.pure true 4 (.pure false 5 (.pure true 6 (.pure true 7 (.pure false 8 (.pure true 9 (.pure false 10 (.pure false 11 (.eff 12 (.pure true 13 (.pure true 14 .fin)) .stop))))))))))))) mixed (by kernel_rfl) (fun wd hxd=>?_)
  have d4:=h4W.ext hxd
  have df:=i1.ext hxd
  have d9:=hb9.ext hxd
  have hz:=ixar (Bx.cs df) exa; obtain ⟨j1,j2,hca⟩:=hz
  refine Zq rfl (fun _ hS=>xld l4 ti314 ((Bx.cs (d4.ext (hS.resolve_left nofun))).at 0 rfl)) (Ext.refl _)<|Zp rfl (fun _=>xfa l9 fa58_0)<|Zq rfl (fun _ hS=>xld rfl ti3 ((Bx.cs (d9.ext (hS.resolve_left nofun))).at 0 rfl)) (Ext.refl _)<|Zp rfl (fun _=>xnil rfl)<|?_
  refine Zp rfl (fun _=>xixa rfl rfl Tryz.underlying159 ti2 j1 j2)<|Zq rfl (fun _ hS=>xld rfl ti2 ((hca.ext (hS.resolve_left nofun)).at 0 rfl)) (Ext.refl _)<|Zp rfl (fun _=>xneq rfl rfl)<|Zn rfl<|?_
  rcases Bool.eq_false_or_eq_true (!decide (a=1125899906842624)) with hg | hg
  rotate_left
  ·skip
   refine pvf rfl rfl rfl rfl rfl rfl (bft hg) rfl (.inr (Ext.refl _))<|Zf rfl rfl rfl rfl (bft hg)<|pvf rfl rfl rfl rfl rfl rfl (bft hg) rfl (.inr (Ext.refl _))<|pvf rfl rfl rfl rfl rfl rfl (bft hg) rfl (.inr (Ext.refl _))<|?_
   refine pe1 rfl<|gfk rfl rfl rfl rfl rfl (bft hg) rfl<|nl ⟨fun _ h=>h,?_⟩
   refine Zf rfl rfl rfl rfl (bft hg)<|Zp rfl (fun _=>xpf rfl hg rfl)<|?_
   refine cndR rfl (fun h=>by cases h) (fun _=>wpIn_skip ?_)
   refine ⟨hxd.kf,BelX.of hxd hsW,?_⟩
   dsimp only
   rw [hS',hst,hg]
   exact ⟨df,i2.ext hxd,i3.ext hxd hsW⟩
  ·refine pvt rfl rfl rfl rfl rfl rfl (bt hg) rfl (fun _ hS=>xld l4 ti314 ((Bx.cs (d4.ext (hS.resolve_left nofun))).at 0 rfl)) (.inr (Ext.refl _))<|Zt rfl rfl rfl rfl (bt hg) (fun _=>xnil rfl)<|pvt rfl rfl rfl rfl rfl rfl (bt hg) rfl (fun _ hS=>xlda rfl ti159 (arlen S.1) (Bx.cs (df.ext (hS.resolve_left nofun)))) (.inr (Ext.refl _))<|pvt rfl rfl rfl rfl rfl rfl (bt hg) rfl (fun _ hS=>xlda l9 ti58 rfl (Bx.cs (d9.ext (hS.resolve_left nofun)))) (.inr (Ext.refl _))<|?_
   refine pe1 rfl<|gtk rfl rfl rfl rfl rfl (bt hg)<|Zc (xc cb92 (mc rfl<|mc rfl mn)) (c92 (x0:=S.1) (x1:=rl) ⟨_,rfl,rfl⟩ ⟨_,rfl,Flat.iff.2 rfl⟩ hkp) fun v w6 hv=>?_
   obtain ⟨rfl,hx6⟩:=hv
   have kx6:Ext W w6:=hxd.tr hx6
   have d46:=d4.ext hx6
   have df6:=df.ext hx6
   have d96:=d9.ext hx6
   have d56:=h5W.ext kx6
   have dm6:=i2.ext kx6
   refine nl ⟨fun _ h=>h.tr hx6,?_⟩
   refine Zt rfl rfl rfl rfl (bt hg) (fun _=>xnot rfl)<|Zp rfl (fun _=>xpt rfl hg rfl)<|?_
   refine cndR rfl (fun h=>?_) (fun h=>wpIn_skip ?_)
   ·refine wpIn_seq<|wplR [14] (.pure false 0 (.pure true 1 (.pure false 2 (.pure false 3 (.pure true 4 (.pure false 5 (.pure true 6 (.pure true 7 (.pure false 8 (.pure true 9 (.pure false 10 (.pure true 11 (.pure true 12 (.pure true 13 (.eff 14 .fin .stop))))))))))))))) mixed (by kernel_rfl) (fun we hxe=>?_)
    have e4:=d46.ext hxe
    have ef:=df6.ext hxe
    have e9:=d96.ext hxe
    have kxe:=kx6.tr hxe
    have hz:=ixar (Bx.cs ef) exa; obtain ⟨j3,j4,hca2⟩:=hz
    have hz:=ixar (Bx.cs ef) exb; obtain ⟨j5,j6,hcb2⟩:=hz
    refine Zq rfl (fun _ hS=>xld l4 ti314 ((Bx.cs (e4.ext (hS.resolve_left nofun))).at 0 rfl)) (Ext.refl _)<|Zp rfl (fun _=>xfa l9 fa58_1)<|Zq rfl (fun _ hS=>xld rfl ti3 ((Bx.cs (e9.ext (hS.resolve_left nofun))).at 1 rfl)) (Ext.refl _)<|?_
    refine Zq rfl (fun _ hS=>xld l4 ti314 ((Bx.cs (e4.ext (hS.resolve_left nofun))).at 0 rfl)) (Ext.refl _)<|Zp rfl (fun _=>xfa l9 fa58_0)<|Zq rfl (fun _ hS=>xld rfl ti3 ((Bx.cs (e9.ext (hS.resolve_left nofun))).at 0 rfl)) (Ext.refl _)<|Zp rfl (fun _=>xnil rfl)<|?_
    refine Zp rfl (fun _=>xixa rfl rfl Tryz.underlying159 ti2 j3 j4)<|Zq rfl (fun _ hS=>xld rfl ti2 ((hca2.ext (hS.resolve_left nofun)).at 0 rfl)) (Ext.refl _)<|?_
    refine Zp rfl (fun _=>xfa l9 fa58_2)<|Zq rfl (fun _ hS=>xld rfl ti2 ((Bx.cs (e9.ext (hS.resolve_left nofun))).at 2 rfl)) (Ext.refl _)<|Zp rfl (fun _=>xadd rfl rfl)<|Zp rfl (fun _=>xnil rfl)<|?_
    refine Zp rfl (fun _=>xixa rfl rfl Tryz.underlying159 ti2 j5 j6)<|?_
    refine pe1 rfl<|ssta (X:=S.1) (i:=rl.2.1) (v:=w64 (a + rl.2.2)) rfl rfl rfl ti2 ef exb fun w7 hch7 hf7=>?_
    refine nl ⟨fun h=>(h (by decide)).elim,?_⟩
    have hx7:BelX w5.heap.size bf bm W w7:=(BelX.of kxe hsW).chgb hch7
    have e57:=(d56.ext hxe).chg hch7 (by omega)
    have e97:=e9.chg hch7 (by omega)
    have em7:=(dm6.ext hxe).chg hch7 (Mp.not_cells (dm6.ext hxe) ef)
    refine rgR rfl<|Zv (xld l5 ti183 ((Bx.cs e57).at 0 rfl))<|Zv (xfa l9 fa58_1)<|Zv (xld rfl ti3 ((Bx.cs e97).at 1 rfl))<|Zv (xmva l8)<|smup (k:=rl.2.1) (v:=i) rfl rfl rfl Tryz.underlying183 kt3 em7 (key_ok t0 t1) fun w8 hch8 hm8=>?_
    have hf8:Bx w8 bf T _:=hf7.chg hch8 (Ne.symm (Mp.not_cells em7 hf7))
    have hx8:=hx7.chgc hch8
    refine nl ⟨(kxe.kf.trans (hch7.kf ef)).trans (hch8.kfm (by omega)),hx8,?_⟩
    dsimp only
    rw [hS',hst,hg,h]
    exact ⟨hf8,hm8,i3.trans hx8⟩
   ·refine ⟨kx6.kf,BelX.of kx6 hsW,?_⟩
    dsimp only
    rw [hS',hst,hg,h]
    exact ⟨df6,dm6,i3.ext kx6 hsW⟩
 case done =>
  rintro d xs W hD hxs ⟨i1,i2,i3⟩ hK
  rw [hxs] at i1 i2
  generalize hS:(en x0.2).foldl stepB (X,l)=S at i1 i2
  have hsW:=i3.size
  have h4W:=hb15.belx i3 hl1 (by omega) (by omega)
  have h7W:=hb45.belx i3 hl4 (by omega) (by omega)
  refine wp_seq<|wpl (D:=[{ target:=.collected d,args:=#[] }]) [] (.pure false 0 (.pure true 1 (.pure false 2 (.pure false 3 (.pure true 4 (.pure true 5 .fin)))))) mixed (by kernel_rfl) (fun wd hxd=>?_)
  have d4:=h4W.ext hxd
  have df:=i1.ext hxd
  have d7:=h7W.ext hxd
  refine Zq rfl (fun _ hS=>xld rfl ti314 ((Bx.cs (d4.ext (hS.resolve_left nofun))).at 0 rfl)) (Ext.refl _)<|Zp rfl (fun _=>xnil rfl)<|Zq rfl (fun _ hS=>xlda rfl ti159 (arlen S.1) (Bx.cs (df.ext (hS.resolve_left nofun)))) (Ext.refl _)<|Zq rfl (fun _ hS=>xlda rfl ti159 (arlen X) (Bx.cs (d7.ext (hS.resolve_left nofun)))) (Ext.refl _)<|?_
  refine Zp rfl (fun _=>xagn rfl eg159 eq159 rfl rfl rfl rfl rfl)<|Zp rfl (fun _=>xas)<|?_
  have hKd:=(hxd.block d (Array.getElem?_eq_some_iff.1 hK).1).trans hK
  have hput:=chg_put (o':=.deferred none) hKd
  refine wp_ret<|rtM rfl hKd (.tmp rfl rfl .nil) ?_
  have hmd:=i2.ext hxd
  have hml:=hmd.lt
  refine ⟨rfl,?_,?_,?_⟩
  ·exact df.chg hput (by omega)
  ·exact hmd.chg hput (by omega)
  ·exact ((((BelX.of k5 (Nat.le_refl _)).trans (i3.mono hs0)).ext hxd (by omega))).chg hput (by omega)
 case stop =>
  rintro D c pre W _ _ h _
  exact h.elim
end Go.Proofs.YtfmelbioccbdoaaGreat
end
section
namespace Go.Proofs.YtfmelbioccbdoaaGreat
open Go Go.Md Go.RowKit
attribute [local irreducible] Go.wpList Go.Code.wp Go.Calls Go.Md.Rnd Go.Md.Mt
def MpV (base:Nat) (w:World) (v:Value) (l:List (Int×Int)):Prop:=∃ b,v=.map (some b)∧base≤b∧Mp w b l
theorem MpV.ext {base:Nat} {w w':World} {v:Value} {l:List (Int×Int)} (h:MpV base w v l) (k:Ext w w'):MpV base w' v l :=
 let ⟨b,e,hb,h⟩:=h
 ⟨b,e,hb,h.ext k⟩
def speed_net_find_l1 (F:Nat):Nat→Int→(Ar 21 Int)→Option ((Ar 21 Int))
 | 0,_,_=>none
 | m + 1,y1,y2 =>
  if (decide (y1<21))=true then
   (ix y2.l y1) >>= fun x3 =>
   speed_net_find_l1 F m (w64 (y1 + 1)) (aset y2 y1 1125899906842624)
  else
   some y2
def speed_net_find_l2 (all:List TRule):Nat→Ar 21 Int→List (Int×Int)→Option (Ar 21 Int×List (Int×Int))
 | 0,_,_=>none
 | m + 1,far,by_=>(speed_net_step all far by_) >>= fun s=>if s.2.2=true then speed_net_find_l2 all m s.1 s.2.1 else some (s.1,s.2.1)
def speed_net_find (F:Nat) (x0:TNet) (x1:Int):Option (Ar 21 Int×List (Int×Int)) :=
 (speed_net_find_l1 F F 0 (Ar.fill 21 0:Ar 21 Int)) >>= fun z1 =>
 (ix z1.l x1) >>= fun _ =>
 speed_net_find_l2 x0.2 F (aset z1 x1 0) []
theorem c105 {w0:World} {b0:Nat} {cs0:List Value} {x0:TNet} (h0:Cs w0 b0 0 cs0) (q0:Enc.rep (fun _=>True) w0 cs0 x0) {x1:Int} {F:Nat} {r:Ar 21 Int×List (Int×Int)} (hF:speed_net_find F x0 x1=some r) :
  Calls Tryz.prog 105 [.pointer (some ⟨b0,0,none⟩),.int .i64 x1].toArray w0 (Ret fun v w'=>∃ u0 u1,v=.tuple #[u0,u1]∧RV w' u0 r.1∧MpV w0.heap.size w' u1 r.2∧Ext w0 w'):=by
 unfold speed_net_find at hF
 have r0:RV w0 (.pointer (some ⟨b0,0,none⟩)) (⟨some x0⟩:Ob TNet):=obNew h0 (by rw [Enc.len q0]; rfl) q0
 obtain ⟨_,_,rfl,⟨_,_,rfl,rfl,⟨a1,c1,rfl,p1,q3,e1⟩⟩,⟨a2,c2,rfl,p2,q4,e2⟩⟩:=q0
 have r3:=RV.of1 p1 q3 e1
 have r4:=RV.of1 p2 q4 e2
 refine entr (n:=23) Tryz.func105 rfl rfl rfl<|Zr<|sal ti159 fun b3 w1 hx1 hg1 hb1=>?_
 have r5:=r3.ext hx1
 have r6:=r4.ext hx1
 have h3:=h0.ext hx1
 have hb2:Bx w1 b3 159 (List.flatMap Flat.enc ((Ar.fill 21 0:(Ar 21 Int))).l):=hb1
 refine Za<|nl<|Zr<|sal ti159 fun b4 w2 hx2 hg2 hb3=>?_
 have k1:=hx1.tr hx2
 have hb4:=hb2.ext hx2
 have r7:=r5.ext hx2
 have r8:=r6.ext hx2
 have h4:=h3.ext hx2
 have hb5:Bx w2 b4 159 (List.flatMap Flat.enc ((Ar.fill 21 0:(Ar 21 Int))).l):=hb3
 refine nl<|wp_seq<|Zr<|Zm<|nl<|?_
 have hz:=bs hF; obtain ⟨z1,hB1,hF⟩:=hz
 refine ct (fun L w=>Bx w b4 159 (List.flatMap Flat.enc z1.l)∧L 0=.pointer (some ⟨b0,0,none⟩)∧L 1=.int .i64 x1∧L 4=.pointer (some ⟨b3,0,none⟩)∧L 6=.pointer (some ⟨b4,0,none⟩)∧Ext w1 w) ?_ ?_
 ·
  refine wp_block<|lp (I:=fun m L w=>∃ y1:Int,∃ y2:(Ar 21 Int),speed_net_find_l1 F m y1 y2 =some z1∧L 9=.int .i64 y1∧Bx w b4 159 (List.flatMap Flat.enc y2.l)∧L 0=.pointer (some ⟨b0,0,none⟩)∧L 1=.int .i64 x1∧L 4=.pointer (some ⟨b3,0,none⟩)∧L 6=.pointer (some ⟨b4,0,none⟩)∧Ext w1 w) F ⟨_,_,hB1,rfl,hb5,rfl,rfl,rfl,rfl,hx2⟩ ?_
  rintro m L w3 ⟨y1,y2,hB1,l9_i1,B6_i1,l0_i1,l1_i1,l4_i1,l6_i1,K0_i1⟩
  rcases m with _ | m
  ·rw [speed_net_find_l1] at hB1; cases hB1
  rw [speed_net_find_l1] at hB1
  have k2:=hx1.tr K0_i1
  have r9:=r5.ext K0_i1
  have r10:=r6.ext K0_i1
  have h5:=h3.ext K0_i1
  have hb6:=hb2.ext K0_i1
  refine Zr<|Zv (xlss l9_i1 rfl)<|nl<|wp_seq<|cnd rfl (fun h6=>?_) (fun h6=>?_)
  ·
   have hB1:=ifp hB1 h6
   refine wp_skip<|wp_seq<|wp_block<|Zr<|Zm<|Za<|nl<|rg<|Zm<|?_
   have hz:=bs hB1; obtain ⟨x3,Ex3,hB1⟩:=hz
   have hz:=ixar (Bx.cs B6_i1) Ex3; obtain ⟨i2,i3,hc1⟩:=hz
   refine Zv (xixa l6_i1 l9_i1 Tryz.underlying159 ti2 i2 i3)<|ssta (X:=y2) (v:=1125899906842624) rfl rfl rfl ti2 B6_i1 Ex3 fun w4 hch1 hb7=>?_
   have k3:=Ext.chg k2 hch1 (Nat.le_trans hx1.size hg2)
   have k4:=Ext.chg K0_i1 hch1 (Nat.le_trans (Nat.le_refl _) hg2)
   have hb8:=hb2.ext k4
   have r11:=r5.ext k4
   have r12:=r6.ext k4
   have h7:=h3.ext k4
   refine nl<|rg<|Zv (xadd l9_i1 rfl)<|Zm<|nl<|?_
   refine lq m (Nat.lt_succ_self _)<|?_
   exact ⟨_,_,hB1,rfl,hb7,l0_i1,l1_i1,l4_i1,l6_i1,k4⟩
  ·
   have hB1:=ifn hB1 h6
   refine wp_exit<|?_
   cases hB1
   refine lf<|?_
   exact ⟨B6_i1,l0_i1,l1_i1,l4_i1,l6_i1,K0_i1⟩
 rintro L w5 ⟨B6_j1,l0_j1,l1_j1,l4_j1,l6_j1,K0_j1⟩
 have k5:=hx1.tr K0_j1
 have r13:=r5.ext K0_j1
 have r14:=r6.ext K0_j1
 have h8:=h3.ext K0_j1
 have hb9:=hb2.ext K0_j1
 refine Zr<|Zm<|?_
 have hz:=bs hF; obtain ⟨x4,Ex4,hF⟩:=hz
 have hz:=ixar (Bx.cs B6_j1) Ex4; obtain ⟨i4,i5,hc2⟩:=hz
 refine Zv (xixa l6_j1 l1_j1 Tryz.underlying159 ti2 i4 i5)<|ssta (X:=z1) (v:=0) rfl rfl rfl ti2 B6_j1 Ex4 fun w6 hch2 hb10=>?_
 have k6:=Ext.chg k5 hch2 (Nat.le_trans hx1.size hg2)
 have k7:=Ext.chg K0_j1 hch2 (Nat.le_trans (Nat.le_refl _) hg2)
 have hb11:=hb2.ext k7
 have r15:=r5.ext k7
 have r16:=r6.ext k7
 have h9:=h3.ext k7
 refine nl<|Zr<|?_
 refine smmk (κ:=Int) (ν:=Int) fun b8 w7 hx7 hg7 hm7=>?_
 have hb12:=hb10.ext hx7
 have hb13:=hb11.ext hx7
 have k8:Ext w0 w7:=k6.tr hx7
 have hw0:=hx1.size
 have hw1:=k6.size
 have hg2':w0.heap.size≤b4:=Nat.le_trans hw0 hg2
 have hg7':w0.heap.size≤b8:=Nat.le_trans hw1 hg7
 have hlt3:=hb13.lt
 have hlt4:=hb12.lt
 have ne34:b3≠b4:=by have:=hb1.lt; omega
 have ne38:b3≠b8:=by have:=hb11.lt; omega
 refine Za<|nl<|wp_seq<|?_
 refine ct (fun L w=>L 4=.pointer (some ⟨b3,0,none⟩)∧L 6=.pointer (some ⟨b4,0,none⟩)∧L 8=.map (some b8)∧Bx w b4 159 (r.1.l.flatMap Flat.enc)∧Mp w b8 r.2∧Bx w b3 159 ((Ar.fill 21 0:Ar 21 Int).l.flatMap Flat.enc)∧Ext w0 w) ?_ ?_
 ·refine wp_block<|lp (I:=fun m L w=>∃ far by_,speed_net_find_l2 x0.2 m far by_=some r∧L 0=.pointer (some ⟨b0,0,none⟩)∧L 4=.pointer (some ⟨b3,0,none⟩)∧L 6=.pointer (some ⟨b4,0,none⟩)∧L 8=.map (some b8)∧Bx w b4 159 (far.l.flatMap Flat.enc)∧Mp w b8 by_∧Bx w b3 159 ((Ar.fill 21 0:Ar 21 Int).l.flatMap Flat.enc)∧Ext w0 w) F
   ⟨_,_,hF,l0_j1,l4_j1,l6_j1,rfl,hb12,hm7,hb13,k8⟩ ?_
  rintro m L w8 ⟨far,by_,hB,l0,l4,l6,l8,bf,bm,bz,k⟩
  rcases m with _ | m
  ·rw [speed_net_find_l2] at hB; cases hB
  rw [speed_net_find_l2] at hB
  have hz:=bs hB; obtain ⟨s,Es,hB⟩:=hz
  refine wp_seq<|Zr<|Zv (xmva l0)<|Zv (xmva l8)<|Zc (xc cb212 (mc rfl (mc l6 (mc rfl mn)))) (c212 (wb:=w0) k r0 bf hg2' bm hg7' Es) fun v w9 hv=>?_
  obtain ⟨rfl,bf',bm',hx9⟩:=hv
  have k':=hx9.old k hg2' hg7'
  have bz':=bz.belx hx9 bz.lt ne34 ne38
  refine nl<|cnd rfl (fun h=>?_) (fun h=>?_)
  ·refine wp_skip<|wp_block<|wp_skip<|?_
   exact lq m (Nat.lt_succ_self _) ⟨_,_,ifp hB h,l0,l4,l6,l8,bf',bm',bz',k'⟩
  ·refine wp_exit<|lf ?_
   have hB:=ifn hB h
   cases hB
   exact ⟨l4,l6,l8,bf',bm',bz',k'⟩
 rintro L w10 ⟨l4,l6,l8,bf,bm,bz,k⟩
 refine Zr<|Zv (xlda l6 ti159 (arlen _) (Bx.cs bf))<|Zv (xmva l8)<|sstw l4 rfl ti159 bz (arlen _) (arlen _) (flat_one _) fun w11 hch bz'=>?_
 refine Za<|nl<|wp_ret<|rt rfl (.cell l4 rfl ti159 (arlen _) (Bx.cs bz') (.tmp rfl rfl .nil)) ?_
 have bm':=bm.chg hch (Ne.symm ne38)
 have k':=k.chg hch (by have:=hb1.lt; omega)
 exact ⟨_,_,rfl,⟨_,rfl,Flat.iff.2 rfl⟩,⟨b8,rfl,hg7',bm'⟩,k'⟩
theorem zero3 (w:World):(zeroValue 3).run Tryz.prog w=.ok (fv (0:Int)) w:=by
 obtain ⟨v,h1,_,h3⟩:=(ti3:TI Tryz.prog 3 false 1 8 [.int .i64 0]).zero w
 rw [h1,h3]
 rfl
def speed_net_circle_l1 (all:List TRule) (lim:Int):Nat→Int→Ar 21 Int→List (Int×Int)→Bool→Option (Ar 21 Int×List (Int×Int)×Bool)
 | 0,_,_,_,_=>none
 | m + 1,i,far,by_,more =>
  if (decide (i<lim))=true then (speed_net_step all far by_) >>= fun s=>speed_net_circle_l1 all lim m (w64 (i + 1)) s.1 s.2.1 s.2.2
  else some (far,by_,more)
def speed_net_circle_l2 (far old:Ar 21 Int):Nat→Int→Option Int
 | 0,_=>none
 | m + 1,t =>
  if (decide (t<21))=true then
   (ix far.l t) >>= fun a=>(ix old.l t) >>= fun b=>if (!decide (a=b))=true then some t else speed_net_circle_l2 far old m (w64 (t + 1))
  else some 0
def speed_from (all:List TRule) (by_:List (Int×Int)) (at_:Int):Option (Int×Int) :=
 if (Key.ok at_)=true then (ix all (mget 0 by_ at_)) >>= fun r=>some (mget 0 by_ at_,r.1) else none
def speed_net_circle_l3 (all:List TRule) (by_:List (Int×Int)):Nat→Ar 21 Int→Int→Option Int
 | 0,_,_=>none
 | m + 1,seen,at_ =>
  (ix seen.l at_) >>= fun a =>
  if (decide (a=0))=true then (speed_from all by_ at_) >>= fun p=>speed_net_circle_l3 all by_ m (aset seen at_ 1) p.2
  else some at_
def speed_net_circle_l4 (all:List TRule) (by_:List (Int×Int)) (end_:Int):Nat→Int→List Int→Option (List Int)
 | 0,_,_=>none
 | m + 1,at_,out =>
  (speed_from all by_ at_) >>= fun p=>(app 8 out [p.1]) >>= fun out' =>
  if (decide (p.2=end_))=true then some out' else speed_net_circle_l4 all by_ end_ m p.2 out'
def speed_net_circle (F:Nat) (x0:TNet):Option (List Int) :=
 (speed_net_circle_l1 x0.2 (w64 (x0.1.1 + 1)) F 0 (Ar.fill 21 0) [] true) >>= fun z =>
 if (!z.2.2)=true then some [] else
 (speed_net_step x0.2 z.1 z.2.1) >>= fun s =>
 (speed_net_circle_l2 s.1 z.1 F 0) >>= fun at_ =>
 (speed_net_circle_l3 x0.2 s.2.1 F (Ar.fill 21 0) at_) >>= fun end_ =>
 (speed_net_circle_l4 x0.2 s.2.1 end_ F end_ []) >>= fun out =>
 slices_Reverse F out
theorem from_spec {all:List TRule} {by_:List (Int×Int)} {at_:Int} {p:Int×Int} (h:speed_from all by_ at_=some p):Key.ok at_=true∧p.1=mget 0 by_ at_∧∃ r,ix all p.1=some r∧p.2=r.1:=by
 unfold speed_from at h
 split at h
 ·rename_i hk
  have hz:=bs h; obtain ⟨r,Er,h⟩:=hz
  cases h
  exact ⟨hk,rfl,r,Er,rfl⟩
 ·cases h
theorem c109 {w0:World} {b0:Nat} {cs0:List Value} {x0:TNet} (h0:Cs w0 b0 0 cs0) (q0:Enc.rep (fun _=>True) w0 cs0 x0) {F:Nat} {r:List Int} (hF:speed_net_circle F x0=some r) :
  Calls Tryz.prog 109 [.pointer (some ⟨b0,0,none⟩)].toArray w0 (Ret fun v w'=>∃ u0,v=u0∧RV w' u0 r∧Ext w0 w'):=by
 unfold speed_net_circle at hF
 have r0:RV w0 (.pointer (some ⟨b0,0,none⟩)) (⟨some x0⟩:Ob TNet):=obNew h0 (by rw [Enc.len q0]; rfl) q0
 obtain ⟨_,_,rfl,⟨_,_,rfl,rfl,⟨a1,c1,rfl,p1,q3,e1⟩⟩,⟨a2,c2,rfl,p2,q4,e2⟩⟩:=q0
 have r4:RV w0 (.slice a2 x0.2.length c2) x0.2:=RV.of1 p2 q4 e2
 have hz:=bs hF; obtain ⟨z,Ez,hF⟩:=hz
 refine entr (n:=85) Tryz.func109 rfl rfl rfl<|Zr<|Za<|nl<|wp_scope_straight<|Zr<|sal ti159 fun b3 w1 hx1 hg1 hb1=>?_
 have hb1':Bx w1 b3 159 ((Ar.fill 21 0:Ar 21 Int).l.flatMap Flat.enc):=hb1
 refine nl<|Zr<|smmk (κ:=Int) (ν:=Int) fun b4 w2 hx2 hg2 hm2=>?_
 have k2:=hx1.tr hx2
 have hb2:=hb1'.ext hx2
 have hs1:=hx1.size
 have hg2':w0.heap.size≤b4:=Nat.le_trans hs1 hg2
 have hlt3:=hb1.lt
 refine Za<|nl<|Zr<|Za<|nl<|wp_seq<|?_
 refine ct (fun L w=>L 0=.pointer (some ⟨b0,0,none⟩)∧L 3=.pointer (some ⟨b3,0,none⟩)∧L 4=.map (some b4)∧L 5=.bool z.2.2∧Bx w b3 159 (z.1.l.flatMap Flat.enc)∧Mp w b4 z.2.1∧Ext w0 w) ?_ ?_
 ·have h02:=h0.ext k2
  refine Zr<|Zm<|Zv (xnil rfl)<|Zv (xfa rfl fa229_0)<|Zv (xfa rfl fa24_0)<|Zv (xld rfl ti3 (h02.at 0 rfl))<|Zv (xadd rfl rfl)<|Zm<|nl<|?_
  refine wp_block<|lp (I:=fun m L w=>∃ i far by_ more,speed_net_circle_l1 x0.2 (w64 (x0.1.1 + 1)) m i far by_ more=some z∧L 0=.pointer (some ⟨b0,0,none⟩)∧L 3=.pointer (some ⟨b3,0,none⟩)∧L 4=.map (some b4)∧L 5=.bool more∧L 20=.int .i64 (w64 (x0.1.1 + 1))∧L 21=.int .i64 i∧Bx w b3 159 (far.l.flatMap Flat.enc)∧Mp w b4 by_∧Ext w0 w) F
   ⟨_,_,_,_,Ez,rfl,rfl,rfl,rfl,rfl,rfl,hb2,hm2,k2⟩ ?_
  rintro m L w3 ⟨i,far,by_,more,hB,l0,l3,l4,l5,l20,l21,bf,bm,k⟩
  rcases m with _ | m
  ·rw [speed_net_circle_l1] at hB; cases hB
  rw [speed_net_circle_l1] at hB
  refine Zr<|Zv (xlss l21 l20)<|nl<|wp_seq<|cnd rfl (fun h=>?_) (fun h=>?_)
  ·have hB:=ifp hB h
   have hz:=bs hB; obtain ⟨s,Es,hB⟩:=hz
   refine wp_skip<|wp_seq<|wp_block<|rg<|Zv (xmva l0)<|Zv (xmva l4)<|Zc (xc cb212 (mc rfl (mc l3 (mc rfl mn)))) (c212 (wb:=w0) k r0 bf hg1 bm hg2' Es) fun v w4 hv=>?_
   obtain ⟨rfl,bf',bm',hx4⟩:=hv
   have k':=hx4.old k hg1 hg2'
   refine Za<|nl<|rg<|Zv (xadd l21 rfl)<|Zm<|nl<|?_
   exact lq m (Nat.lt_succ_self _) ⟨_,_,_,_,hB,l0,l3,l4,rfl,l20,rfl,bf',bm',k'⟩
  ·have hB:=ifn hB h
   cases hB
   exact wp_exit<|lf ⟨l0,l3,l4,l5,bf,bm,k⟩
 rintro L w5 ⟨l0,l3,l4,l5,bf,bm,k5⟩
 refine wp_seq<|Zr<|Zv (xmva l5)<|Zv (xnot rfl)<|nl<|cnd rfl (fun h=>?_) (fun h=>?_)
 ·have hF:=ifp hF h
  cases hF
  exact Zr<|Za<|nl<|wp_ret<|rt rfl (.tmp rfl rfl .nil) ⟨_,rfl,RVo.nil (Nat.zero_le _),k5⟩
 have hF:=ifn hF h
 have hz:=bs hF; obtain ⟨s,Es,hF⟩:=hz
 have hz:=bs hF; obtain ⟨at_,Ea,hF⟩:=hz
 have hz:=bs hF; obtain ⟨end_,Ee,hF⟩:=hz
 have hz:=bs hF; obtain ⟨out,Eo,hF⟩:=hz
 refine wp_skip<|Zr<|Zv (xlda l3 ti159 (arlen _) (Bx.cs bf))<|sal ti159 fun b6 w6 hx6 hg6 hb6=>?_
 refine sstw rfl rfl ti159 hb6 rfl (arlen _) (flat_one _) fun w7 hch7 hb7=>?_
 have kx7:Ext w5 w7:=hx6.chg hch7 hg6
 have bf7:=bf.ext kx7
 have bm7:=bm.ext kx7
 have k7:=k5.tr kx7
 have hl5:=bf.lt
 have hl5m:=bm.lt
 refine nl<|Zr<|Zv (xmva l0)<|Zv (xmva l4)<|Zc (xc cb212 (mc rfl (mc l3 (mc rfl mn)))) (c212 (wb:=w0) k7 r0 bf7 hg1 bm7 hg2' Es) fun v w8 hv=>?_
 obtain ⟨rfl,bf8,bm8,hx8⟩:=hv
 have k8:=hx8.old k7 hg1 hg2'
 have bo8:=hb7.belx hx8 hb7.lt (by omega) (by omega)
 refine nl<|Zr<|Za<|nl<|wp_seq<|wp_label<|wp_seq<|?_
 refine ct (fun L w=>L 0=.pointer (some ⟨b0,0,none⟩)∧L 3=.pointer (some ⟨b3,0,none⟩)∧L 4=.map (some b4)∧L 7=.int .i64 at_∧Ext w8 w) ?_ ?_
 ·refine Zr<|Zm<|nl<|wp_block<|lp (I:=fun m L w=>∃ t:Int,speed_net_circle_l2 s.1 z.1 m t=some at_∧L 0=.pointer (some ⟨b0,0,none⟩)∧L 3=.pointer (some ⟨b3,0,none⟩)∧L 4=.map (some b4)∧L 6=.pointer (some ⟨b6,0,none⟩)∧L 7=.int .i64 0∧L 33=.int .i64 t∧Ext w8 w) F
   ⟨_,Ea,l0,l3,l4,rfl,rfl,rfl,Ext.refl _⟩ ?_
  rintro m L w9 ⟨t,hB,l0,l3,l4,l6,l7,l33,k9⟩
  rcases m with _ | m
  ·rw [speed_net_circle_l2] at hB; cases hB
  rw [speed_net_circle_l2] at hB
  refine Zr<|Zv (xlss l33 rfl)<|nl<|wp_seq<|cnd rfl (fun h=>?_) (fun h=>?_)
  ·have hB:=ifp hB h
   have hz:=bs hB; obtain ⟨a,Eat,hB⟩:=hz
   have hz:=bs hB; obtain ⟨b,Ebt,hB⟩:=hz
   refine wp_skip<|wp_seq<|wp_block<|Zr<|Zv (xmva l33)<|Za<|nl<|wp_seq<|wpl [] (.pure true 0 (.pure true 1 (.pure false 2 (.pure true 3 (.pure true 4 (.pure false 5 (.pure true 6 .fin))))))) mixed (by kernel_rfl) (fun wd hxd=>?_)
   have df:=bf8.ext (k9.tr hxd)
   have dz:=bo8.ext (k9.tr hxd)
   have hz:=ixar (Bx.cs df) Eat; obtain ⟨i1,i2,hc1⟩:=hz
   have hz:=ixar (Bx.cs dz) Ebt; obtain ⟨i3,i4,hc2⟩:=hz
   refine Zn rfl<|Zp rfl (fun _=>xixa l3 rfl Tryz.underlying159 ti2 i1 i2)<|Zq rfl (fun _ hS=>xld rfl ti2 ((hc1.ext (hS.resolve_left nofun)).at 0 rfl)) (Ext.refl _)<|Zn rfl<|Zp rfl (fun _=>xixa l6 rfl Tryz.underlying159 ti2 i3 i4)<|Zq rfl (fun _ hS=>xld rfl ti2 ((hc2.ext (hS.resolve_left nofun)).at 0 rfl)) (Ext.refl _)<|Zp rfl (fun _=>xneq rfl rfl)<|?_
   refine cnd rfl (fun h2=>?_) (fun h2=>?_)
   ·have hB:=ifp hB h2
    cases hB
    exact Zr<|Zm<|Za<|nl<|wp_exit<|lf ⟨l0,l3,l4,rfl,k9.tr hxd⟩
   ·refine wp_skip<|rg<|Zv (xadd l33 rfl)<|Zm<|nl<|?_
    exact lq m (Nat.lt_succ_self _) ⟨_,ifn hB h2,l0,l3,l4,l6,l7,rfl,k9.tr hxd⟩
  ·have hB:=ifn hB h
   cases hB
   exact wp_exit<|lf ⟨l0,l3,l4,l7,k9⟩
 rintro L w9 ⟨l0,l3,l4,l7,k9⟩
 refine Zr<|Zv (xbda ti159 Tryz.underlying159 ti2 rfl)<|sal ti159 fun b9 w10 hx10 hg10 hb10=>?_
 refine sstw rfl rfl ti159 hb10 rfl rfl (flat_one (Ar.fill 21 0:Ar 21 Int).l) fun w11 hch11 hb11=>?_
 have kx11:Ext w8 w11:=k9.tr (hx10.chg hch11 hg10)
 have hb11':Bx w11 b9 159 ((Ar.fill 21 0:Ar 21 Int).l.flatMap Flat.enc):=hb11
 have hg9:w8.heap.size≤b9:=Nat.le_trans k9.size hg10
 refine nl<|wp_seq<|?_
 refine ct (fun L w=>L 0=.pointer (some ⟨b0,0,none⟩)∧L 4=.map (some b4)∧L 7=.int .i64 end_∧Ext w8 w) ?_ ?_
 ·refine wp_block<|lp (I:=fun m L w=>∃ seen at2,speed_net_circle_l3 x0.2 s.2.1 m seen at2=some end_∧L 0=.pointer (some ⟨b0,0,none⟩)∧L 4=.map (some b4)∧L 9=.pointer (some ⟨b9,0,none⟩)∧L 7=.int .i64 at2∧Bx w b9 159 (seen.l.flatMap Flat.enc)∧Ext w8 w) F
   ⟨_,_,Ee,l0,l4,rfl,l7,hb11',kx11⟩ ?_
  rintro m L w12 ⟨seen,at2,hB,l0,l4,l9,l7,bs9,k12⟩
  rcases m with _ | m
  ·rw [speed_net_circle_l3] at hB; cases hB
  rw [speed_net_circle_l3] at hB
  have hz:=bs hB; obtain ⟨a,Eat,hB⟩:=hz
  have hz:=ixar (Bx.cs bs9) Eat; obtain ⟨i1,i2,hc1⟩:=hz
  refine wp_seq<|Zr<|Zv (xmva l7)<|Zv (xixa l9 rfl Tryz.underlying159 ti2 i1 i2)<|Zv (xld rfl ti2 (hc1.at 0 rfl))<|Zv (xeql rfl rfl)<|nl<|cnd rfl (fun h=>?_) (fun h=>?_)
  ·have hB:=ifp hB h
   have hz:=bs hB; obtain ⟨p,Ep,hB⟩:=hz
   have hz:=from_spec Ep; obtain ⟨hk,hp1,rr,Er,hp2⟩:=hz
   refine wp_skip<|wp_block<|Zr<|Zv (xmva l7)<|Zv (xixa l9 rfl Tryz.underlying159 ti2 i1 i2)<|ssta (X:=seen) (v:=1) rfl rfl rfl ti2 bs9 Eat fun w13 hch13 bs13=>?_
   have k13:=k12.chg hch13 hg9
   have bm13:=bm8.ext k13
   have r13:=r4.ext (k8.tr k13)
   have h13:=h0.ext (k8.tr k13)
   have hz:=r13.els.ix Er; obtain ⟨b5,f5,cs5,rfl,i3,i4,q5,hc5⟩:=hz
   obtain ⟨_,_,rfl,rfl,⟨_,_,rfl,rfl,rfl⟩⟩:=q5
   refine nl<|Zr<|Zv (xmva l4)<|Zv (xmva l7)<|Zv (xlku (d:=(0:Int)) Tryz.underlying183 kt3 (zero3 _) bm13 hk rfl rfl)<|Za<|nl<|?_
   rw [← hp1]
   refine rg<|Zv (xmva l0)<|Zv (xnil rfl)<|Zv (xfa rfl fa229_1)<|Zv (xld rfl ti22 (h13.at 2 rfl))<|Zm<|Zv (xixs rfl rfl Tryz.underlying22 ti58 i3 i4)<|Zv (xfa rfl fa58_0)<|Zv (xld rfl ti3 (hc5.at 0 rfl))<|Za<|nl<|?_
   exact lq m (Nat.lt_succ_self _) ⟨_,_,hB,l0,l4,l9,by rw [hp2]; rfl,bs13,k13⟩
  ·have hB:=ifn hB h
   cases hB
   exact wp_exit<|lf ⟨l0,l4,l7,k12⟩
 rintro L w14 ⟨l0,l4,l7,k14⟩
 refine Zr<|Za<|nl<|wp_seq<|?_
 refine ct (fun L w=>∃ v,L 11=v∧Row (α:=Int) 3 w14.heap.size w v out∧Ext w14 w) ?_ ?_
 ·refine Zr<|Zv (xmva l7)<|Za<|nl<|wp_block<|lp (I:=fun m L w=>∃ at2 o v,speed_net_circle_l4 x0.2 s.2.1 end_ m at2 o=some out∧L 0=.pointer (some ⟨b0,0,none⟩)∧L 4=.map (some b4)∧L 7=.int .i64 at2∧L 12=.int .i64 end_∧L 11=v∧Row (α:=Int) 3 w14.heap.size w v o∧Ext w14 w) F
   ⟨_,_,_,Eo,l0,l4,l7,rfl,rfl,Row.nil,Ext.refl _⟩ ?_
  rintro m L w15 ⟨at2,o,v,hB,l0,l4,l7,l12,l11,ro,k15⟩
  rcases m with _ | m
  ·rw [speed_net_circle_l4] at hB; cases hB
  rw [speed_net_circle_l4] at hB
  have hz:=bs hB; obtain ⟨p,Ep,hB⟩:=hz
  have hz:=bs hB; obtain ⟨o2,Eo2,hB⟩:=hz
  have hz:=from_spec Ep; obtain ⟨hk,hp1,rr,Er,hp2⟩:=hz
  have bm15:=bm8.ext (k14.tr k15)
  refine wp_block<|Zr<|Zv (xmva l4)<|Zv (xmva l7)<|Zv (xlku (d:=(0:Int)) Tryz.underlying183 kt3 (zero3 _) bm15 hk rfl rfl)<|Za<|nl<|?_
  rw [← hp1]
  refine Zr<|Zv (xmva l11)<|Zm<|sbsv (cs:=[.int .i64 p.1]) Tryz.underlying41 ti3 rfl (pc rfl pn) rfl rfl rfl rfl rfl fun b5 w16 hx16 hg16 hb16=>?_
  have o1:Row (α:=Int) 3 w15.heap.size w16 (.slice (some ⟨b5,0,none⟩) 1 1) [p.1]:=Row.lit hg16 hb16 rfl (ble rfl)
  have ro16:=ro.ext hx16
  have k16:=k15.tr hx16
  refine sapx (l:=o) (k:=[p.1]) rfl rfl Tryz.underlying41 ti3 rfl rfl ro16 (RV.els o1.rv) Eo2 k16.size fun v2 w17 o17 hB17 _ _=>?_
  have k17:Ext w14 w17:=k16.trans hB17
  have r17:=r4.ext (k8.tr (k14.tr k17))
  have h17:=h0.ext (k8.tr (k14.tr k17))
  have hz:=r17.els.ix Er; obtain ⟨b6',f5,cs5,rfl,i3,i4,q5,hc5⟩:=hz
  obtain ⟨_,_,rfl,rfl,⟨_,_,rfl,rfl,rfl⟩⟩:=q5
  refine Za<|nl<|Zr<|Zv (xmva l0)<|Zv (xnil rfl)<|Zv (xfa rfl fa229_1)<|Zv (xld rfl ti22 (h17.at 2 rfl))<|Zm<|Zv (xixs rfl rfl Tryz.underlying22 ti58 i3 i4)<|Zv (xfa rfl fa58_0)<|Zv (xld rfl ti3 (hc5.at 0 rfl))<|Za<|nl<|?_
  refine Zr<|Zm<|Zv (xmva l12)<|Zv (xeql rfl rfl)<|nl<|cnd rfl (fun h=>?_) (fun h=>?_)
  ·rw [hp2] at hB
   have hB:=ifp hB h
   cases hB
   exact wp_exit<|lf ⟨_,rfl,o17,k17⟩
  ·rw [hp2] at hB
   exact wp_skip<|lq m (Nat.lt_succ_self _) ⟨_,_,_,ifn hB h,l0,l4,rfl,l12,rfl,o17,k17⟩
 rintro L w18 ⟨v,l11,ro,k18⟩
 refine Zr<|Zv (xmva l11)<|Zc (xc cb131 (mc rfl mn)) (c131 (wb:=w14) k18 ro hF) fun v2 w19 hv=>?_
 obtain ⟨_,ro19,k19,_⟩:=hv
 refine nl<|Zr<|Zv (xmva l11)<|Za<|nl<|?_
 exact wp_ret<|rt rfl (.tmp rfl rfl .nil) ⟨_,rfl,ro19.rv,(k8.tr k14).tr k19⟩
end Go.Proofs.YtfmelbioccbdoaaGreat
end
section
namespace Go.Proofs.YtfmelbioccbdoaaGreat
open Go Go.Md Go.RowKit
def speed_open (F:Nat) (x0:(Int×(List (Int×Int×Int)))):Option ((Ob ((Int×(List (Int×Int×Int)))×(List (Int×Int×Int))))×Int) :=
 (speed_CheckSheet F (x0.1,x0.2)) >>= fun x2 =>
 if (!decide (x2=0))=true then
  some ((⟨none⟩:(Ob ((Int×(List (Int×Int×Int)))×(List (Int×Int×Int))))),x2)
 else
  (speed_newNet F (x0.1,x0.2)) >>= fun x3 =>
  (x3.v) >>= fun x4 =>
  (speed_net_circle F ((x4.1.1,x4.1.2),x4.2)) >>= fun x5 =>
  if (decide (0<(x5.length:Int)))=true then
   some ((⟨none⟩:(Ob ((Int×(List (Int×Int×Int)))×(List (Int×Int×Int))))),21)
  else
   some ((⟨some ((x4.1.1,x4.1.2),x4.2)⟩:(Ob ((Int×(List (Int×Int×Int)))×(List (Int×Int×Int))))),0)
def speed_Circle (F:Nat) (x0:(Int×(List (Int×Int×Int)))):Option ((List Int)×Int) :=
 (speed_CheckSheet F (x0.1,x0.2)) >>= fun x2 =>
 if (!decide (x2=0))=true then
  some ([],x2)
 else
  (speed_newNet F (x0.1,x0.2)) >>= fun x3 =>
  (x3.v) >>= fun x4 =>
  (speed_net_circle F ((x4.1.1,x4.1.2),x4.2)) >>= fun x5 =>
  if (decide ((x5.length:Int)=0))=true then
   some ([],5)
  else
   some (x5,0)
def speed_Ends_2 (F:Nat) (x0:Int) (x1:(Ob ((Int×(List (Int×Int×Int)))×(List (Int×Int×Int))))):Option Int :=
 (x1.v) >>= fun x3 =>
 (speed_net_find F ((x3.1.1,x3.1.2),x3.2) x0) >>= fun x4 =>
 (ix x4.1.l 0) >>= fun x5 =>
 some (w64 (0 - x5))
def speed_Span (F:Nat) (x0:(Int×(List (Int×Int×Int)))) (x1:Int):Option ((Int×Int)×Int) :=
 (speed_CheckSheet F (x0.1,x0.2)) >>= fun x3 =>
 if (!decide (x3=0))=true then
  some ((0,0),x3)
 else
  (speed_turns F 1 x0.1 ([x1]:List Int)) >>= fun x4 =>
  if (!x4)=true then
   some ((0,0),3)
  else
   (speed_open F (x0.1,x0.2)) >>= fun x5 =>
   if (!decide (x5.2=0))=true then
    some ((0,0),x5.2)
   else
    (x5.1.v) >>= fun x6 =>
    (speed_net_find F ((x6.1.1,x6.1.2),x6.2) 0) >>= fun x7 =>
    (speed_net_find F ((x6.1.1,x6.1.2),x6.2) x1) >>= fun x8 =>
    (ix x8.1.l 0) >>= fun x9 =>
    (ix x7.1.l x1) >>= fun x10 =>
    some ((w64 (0 - x9),x10),0)
def speed_Ends_l1 (F:Nat) (x0:(Int×(List (Int×Int×Int)))) (y1:(Int→Option Int)):Nat→(List Int)→Int→Option ((List Int))
 | 0,_,_=>none
 | m + 1,y2,y3 =>
  if (decide (y3<x0.1))=true then
   (y1 (w64 (y3 + 1))) >>= fun x6 =>
   (app 8 y2 ([x6]:List Int)) >>= fun x7 =>
   speed_Ends_l1 F x0 y1 m x7 (w64 (y3 + 1))
  else
   some y2
def speed_Ends (F:Nat) (x0:(Int×(List (Int×Int×Int)))) (x1:Bool):Option ((List Int)×Int) :=
 (speed_open F (x0.1,x0.2)) >>= fun x3 =>
 if (!decide (x3.2=0))=true then
  some ([],x3.2)
 else
  (x3.1.v) >>= fun x4 =>
  (speed_net_find F ((x4.1.1,x4.1.2),x4.2) 0) >>= fun x5 =>
  ((if (!x1)=true then
   some (fun y=>speed_Ends_2 F y (⟨some ((x4.1.1,x4.1.2),x4.2)⟩:(Ob ((Int×(List (Int×Int×Int)))×(List (Int×Int×Int))))))
  else
   some (fun y=>speed_Ends_1 y x5.1):Option ((Int→Option Int))) >>= fun y1 =>
  ((speed_Ends_l1 F x0 y1 F ([]) 0) >>= fun z1 =>
  some (z1,0)))
end Go.Proofs.YtfmelbioccbdoaaGreat
end
section
namespace Go.Proofs.YtfmelbioccbdoaaGreat
open Go Go.Md Go.RowKit
attribute [local irreducible] Go.wpList Go.Code.wp Go.Calls Go.Md.Rnd Go.Md.Mt Go.Md.MtM Go.Md.RndM Go.Code.wpIn
theorem c104 {w0:World} {v0:Value} {x0:(Int×(List (Int×Int×Int)))} (r0:RV w0 v0 x0) {F:Nat} {r:((Ob ((Int×(List (Int×Int×Int)))×(List (Int×Int×Int))))×Int)} (hF:speed_open F x0=some r) :
  Calls Tryz.prog 104 [v0].toArray w0 (Ret fun v w'=>∃ u0:Value,v=.tuple #[u0,.int .i64 r.2]∧RV w' u0 r.1∧Ext w0 w'):=by
 unfold speed_open at hF
 have hz:=id r0; obtain ⟨_,rfl,⟨_,_,rfl,rfl,⟨a1,cq1,rfl,p1,q2,e1⟩⟩⟩:=hz
 have r2:=RV.of1 p1 q2 e1
 refine entr (n:=18) Tryz.func104 rfl rfl rfl<|Zr<|sbx rfl rfl fun b2 w1 hx1 hg1 hb1=>?_
 have r3:=r2.ext hx1
 refine Za<|Za<|nl<|wp_seq<|Zr<|Zv (xlda rfl ti24 rfl (Bx.cs hb1))<|?_
 have hz:=bs hF; obtain ⟨x2,Ex2,hF⟩:=hz
 refine Zc (xc cb90 (mc rfl mn)) (c90 (show RV (α:=(Int×(List (Int×Int×Int)))) _ (.agg [.int .i64 x0.1,.slice a1 x0.2.length cq1].toArray) (x0.1,x0.2) from ⟨_,rfl,⟨[.int .i64 x0.1],[.slice a1 x0.2.length cq1],rfl,rfl,r3.rep1⟩⟩) Ex2) ?_
 rintro _ w2 ⟨rfl,hx2⟩
 have k1:=hx1.tr hx2
 have hb2:=hb1.ext hx2
 have r5:=r3.ext hx2
 refine Za<|nl<|Zr<|Zm<|Zv (xneq rfl rfl)<|nl<|cnd rfl (fun h2=>?_) (fun h2=>?_)
 ·
  have hF:=ifp hF h2
  refine Zr<|Zm<|Za<|Za<|nl<|?_
  cases hF
  exact wp_ret<|rt rfl (.tmp rfl rfl (.tmp rfl rfl .nil)) ⟨_,rfl,obNil,k1⟩
 ·
  have hF:=ifn hF h2
  refine wp_skip<|Zr<|Zv (xlda rfl ti24 rfl (Bx.cs hb2))<|?_
  have hz:=bs hF; obtain ⟨x3,Ex3,hF⟩:=hz
  refine Zc (xc cb108 (mc rfl mn)) (c108 (show RV (α:=(Int×(List (Int×Int×Int)))) _ (.agg [.int .i64 x0.1,.slice a1 x0.2.length cq1].toArray) (x0.1,x0.2) from ⟨_,rfl,⟨[.int .i64 x0.1],[.slice a1 x0.2.length cq1],rfl,rfl,r5.rep1⟩⟩) Ex3) ?_
  rintro _ w3 ⟨u1,rfl,r6,hx3⟩
  have k2:=k1.tr hx3
  have hz:=obPtr r6; obtain ⟨a2,rfl⟩:=hz
  refine Za<|nl<|wp_seq<|Zr<|Zm<|?_
  have hz:=bs hF; obtain ⟨x4,Ex4,hF⟩:=hz
  have hz:=obGet r6 Ex4; obtain ⟨b3,cs2,e2,q3,hc1⟩:=hz
  cases e2
  obtain ⟨_,_,rfl,⟨_,_,rfl,rfl,⟨a3,cq2,rfl,p2,q4,e3⟩⟩,⟨a4,cq3,rfl,p3,q5,e4⟩⟩:=q3
  have r7:=RV.of1 p2 q4 e3
  have r8:=RV.of1 p3 q5 e4
  have hz:=bs hF; obtain ⟨x5,Ex5,hF⟩:=hz
  refine Zc (xc cb109 (mc rfl mn)) (c109 (x0:=((x4.1.1,x4.1.2),x4.2)) hc1 ⟨[.int .i64 x4.1.1]++[.slice a3 x4.1.2.length cq2],[.slice a4 x4.2.length cq3],rfl,⟨[.int .i64 x4.1.1],[.slice a3 x4.1.2.length cq2],rfl,rfl,r7.rep1⟩,r8.rep1⟩ Ex5) ?_
  rintro _ w4 ⟨u2,rfl,r9,hx4⟩
  have k3:=k2.tr hx4
  have r10:=r7.ext hx4
  have r11:=r8.ext hx4
  have hc2:=hc1.ext hx4
  have hz:=RV.sl r9; obtain ⟨a5,cq4,rfl,-,-,-⟩:=hz
  refine Zv (xlen rfl Tryz.underlying41)<|Zv (xgtr rfl rfl)<|nl<|cnd rfl (fun h3=>?_) (fun h3=>?_)
  ·
   have hF:=ifp hF h3
   refine Zr<|Za<|Za<|nl<|?_
   cases hF
   exact wp_ret<|rt rfl (.tmp rfl rfl (.tmp rfl rfl .nil)) ⟨_,rfl,obNil,k3⟩
  ·
   have hF:=ifn hF h3
   refine wp_skip<|Zr<|Zm<|Za<|Za<|nl<|?_
   have r12:RV w4 (.pointer (some ⟨b3,0,none⟩)) (⟨some ((x4.1.1,x4.1.2),x4.2)⟩:(Ob ((Int×(List (Int×Int×Int)))×(List (Int×Int×Int))))):=obNew hc2 rfl ⟨[.int .i64 x4.1.1]++[.slice a3 x4.1.2.length cq2],[.slice a4 x4.2.length cq3],rfl,⟨[.int .i64 x4.1.1],[.slice a3 x4.1.2.length cq2],rfl,rfl,r10.rep1⟩,r11.rep1⟩
   cases hF
   exact wp_ret<|rt rfl (.tmp rfl rfl (.tmp rfl rfl .nil)) ⟨_,rfl,r12,k3⟩
theorem c30 {w0:World} {v0:Value} {x0:(Int×(List (Int×Int×Int)))} (r0:RV w0 v0 x0) {F:Nat} {r:((List Int)×Int)} (hF:speed_Circle F x0=some r) :
  Calls Tryz.prog 30 [v0].toArray w0 (Ret fun v w'=>∃ u0:Value,v=.tuple #[u0,.int .i64 r.2]∧RV w' u0 r.1∧Ext w0 w'):=by
 unfold speed_Circle at hF
 have hz:=id r0; obtain ⟨_,rfl,⟨_,_,rfl,rfl,⟨a1,cq1,rfl,p1,q2,e1⟩⟩⟩:=hz
 have r2:=RV.of1 p1 q2 e1
 refine entr (n:=18) Tryz.func30 rfl rfl rfl<|Zr<|sbx rfl rfl fun b2 w1 hx1 hg1 hb1=>?_
 have r3:=r2.ext hx1
 refine Za<|Za<|nl<|wp_seq<|Zr<|Zv (xlda rfl ti24 rfl (Bx.cs hb1))<|?_
 have hz:=bs hF; obtain ⟨x2,Ex2,hF⟩:=hz
 refine Zc (xc cb90 (mc rfl mn)) (c90 (show RV (α:=(Int×(List (Int×Int×Int)))) _ (.agg [.int .i64 x0.1,.slice a1 x0.2.length cq1].toArray) (x0.1,x0.2) from ⟨_,rfl,⟨[.int .i64 x0.1],[.slice a1 x0.2.length cq1],rfl,rfl,r3.rep1⟩⟩) Ex2) ?_
 rintro _ w2 ⟨rfl,hx2⟩
 have k1:=hx1.tr hx2
 have hb2:=hb1.ext hx2
 have r5:=r3.ext hx2
 refine Za<|nl<|Zr<|Zm<|Zv (xneq rfl rfl)<|nl<|cnd rfl (fun h2=>?_) (fun h2=>?_)
 ·
  have hF:=ifp hF h2
  refine Zr<|Zm<|Za<|Za<|nl<|?_
  cases hF
  exact wp_ret<|rt rfl (.tmp rfl rfl (.tmp rfl rfl .nil)) ⟨_,rfl,(RVo.nil (Nat.zero_le _)),k1⟩
 ·
  have hF:=ifn hF h2
  refine wp_skip<|Zr<|Zv (xlda rfl ti24 rfl (Bx.cs hb2))<|?_
  have hz:=bs hF; obtain ⟨x3,Ex3,hF⟩:=hz
  refine Zc (xc cb108 (mc rfl mn)) (c108 (show RV (α:=(Int×(List (Int×Int×Int)))) _ (.agg [.int .i64 x0.1,.slice a1 x0.2.length cq1].toArray) (x0.1,x0.2) from ⟨_,rfl,⟨[.int .i64 x0.1],[.slice a1 x0.2.length cq1],rfl,rfl,r5.rep1⟩⟩) Ex3) ?_
  rintro _ w3 ⟨u1,rfl,r6,hx3⟩
  have k2:=k1.tr hx3
  have hz:=obPtr r6; obtain ⟨a2,rfl⟩:=hz
  have hz:=bs hF; obtain ⟨x4,Ex4,hF⟩:=hz
  have hz:=obGet r6 Ex4; obtain ⟨b3,cs2,e2,q3,hc1⟩:=hz
  cases e2
  obtain ⟨_,_,rfl,⟨_,_,rfl,rfl,⟨a3,cq2,rfl,p2,q4,e3⟩⟩,⟨a4,cq3,rfl,p3,q5,e4⟩⟩:=q3
  have r7:=RV.of1 p2 q4 e3
  have r8:=RV.of1 p3 q5 e4
  have hz:=bs hF; obtain ⟨x5,Ex5,hF⟩:=hz
  refine Zc (xc cb109 (mc rfl mn)) (c109 (x0:=((x4.1.1,x4.1.2),x4.2)) hc1 ⟨[.int .i64 x4.1.1]++[.slice a3 x4.1.2.length cq2],[.slice a4 x4.2.length cq3],rfl,⟨[.int .i64 x4.1.1],[.slice a3 x4.1.2.length cq2],rfl,rfl,r7.rep1⟩,r8.rep1⟩ Ex5) ?_
  rintro _ w4 ⟨u2,rfl,r9,hx4⟩
  have k3:=k2.tr hx4
  have hz:=RV.sl r9; obtain ⟨a5,cq4,rfl,-,-,-⟩:=hz
  refine Za<|nl<|wp_seq<|Zr<|Zm<|Zv (xlen rfl Tryz.underlying41)<|Zv (xeql rfl rfl)<|nl<|cnd rfl (fun h3=>?_) (fun h3=>?_)
  ·
   have hF:=ifp hF h3
   refine Zr<|Za<|Za<|nl<|?_
   cases hF
   exact wp_ret<|rt rfl (.tmp rfl rfl (.tmp rfl rfl .nil)) ⟨_,rfl,(RVo.nil (Nat.zero_le _)),k3⟩
  ·
   have hF:=ifn hF h3
   refine wp_skip<|Zr<|Zm<|Za<|Za<|nl<|?_
   cases hF
   exact wp_ret<|rt rfl (.tmp rfl rfl (.tmp rfl rfl .nil)) ⟨_,rfl,r9,k3⟩
theorem c107 {w0:World} {x0:Int} {b1:Nat} {cs1:List Value} {x1:(Ob ((Int×(List (Int×Int×Int)))×(List (Int×Int×Int))))} (h1:Cs w0 b1 0 cs1) (q1:Enc.rep (fun _=>True) w0 cs1 x1) {F:Nat} {r:Int} (hF:speed_Ends_2 F x0 x1=some r) :
  Calls Tryz.prog 107 [.int .i64 x0,.pointer (some ⟨b1,0,none⟩)].toArray w0 (Ret fun v w'=>v=.int .i64 r∧Ext w0 w'):=by
 unfold speed_Ends_2 at hF
 have q3:=q1
 have hz:=obRep q3; obtain ⟨a1,rfl,r3⟩:=hz
 refine entr (n:=15) Tryz.func107 rfl rfl rfl<|Zr<|Za<|nl<|Zr<|Zv (xld rfl ti180 (h1.at 0 rfl))<|Zm<|?_
 have hz:=bs hF; obtain ⟨x3,Ex3,hF⟩:=hz
 have hz:=obGet r3 Ex3; obtain ⟨b3,cs3,e1,q4,hc1⟩:=hz
 cases e1
 obtain ⟨_,_,rfl,⟨_,_,rfl,rfl,⟨a2,cq1,rfl,p1,q5,e2⟩⟩,⟨a3,cq2,rfl,p2,q6,e3⟩⟩:=q4
 have r4:=RV.of1 p1 q5 e2
 have r5:=RV.of1 p2 q6 e3
 have hz:=bs hF; obtain ⟨x4,Ex4,hF⟩:=hz
 refine Zc (xc cb105 (mc rfl (mc rfl mn))) (c105 (x0:=((x3.1.1,x3.1.2),x3.2)) hc1 ⟨[.int .i64 x3.1.1]++[.slice a2 x3.1.2.length cq1],[.slice a3 x3.2.length cq2],rfl,⟨[.int .i64 x3.1.1],[.slice a2 x3.1.2.length cq1],rfl,rfl,r4.rep1⟩,r5.rep1⟩ Ex4) ?_
 rintro _ w1 ⟨u1,u2,rfl,r6,r7,hx1⟩
 have hz:=id r6; obtain ⟨_,rfl,rfl⟩:=hz
 refine Zm<|Zv (xext rfl rfl)<|Zv (xext rfl rfl)<|sal ti159 fun b4 w2 hx2 hg1 hb1=>?_
 have k1:=hx1.tr hx2
 have hb2:Bx w2 b4 159 (List.flatMap Flat.enc ((Ar.fill 21 0:(Ar 21 Int))).l):=hb1
 refine sstw rfl rfl ti159 hb2 (arlen _) (arlen _) (flat_one _) fun w3 hch1 hb3=>?_
 have k2:=Ext.chg k1 hch1 (Nat.le_trans hx1.size hg1)
 have hb4:Bx w3 b4 159 (List.flatMap Flat.enc x4.1.l):=hb3
 refine Za<|nl<|Zr<|?_
 have hz:=bs hF; obtain ⟨x5,Ex5,hF⟩:=hz
 have hz:=ixar (Bx.cs hb4) Ex5; obtain ⟨i1,i2,hc2⟩:=hz
 refine Zv (xixa rfl rfl Tryz.underlying159 ti2 i1 i2)<|Zv (xld rfl ti2 (hc2.at 0 rfl))<|Zv (xneg rfl)<|Za<|nl<|?_
 cases hF
 exact wp_ret<|rt rfl (.tmp rfl rfl .nil) ⟨rfl,k2⟩
theorem c50 {w0:World} {v0:Value} {x0:(Int×(List (Int×Int×Int)))} (r0:RV w0 v0 x0) {x1:Int} {F:Nat} {r:((Int×Int)×Int)} (hF:speed_Span F x0 x1=some r) :
  Calls Tryz.prog 50 [v0,.int .i64 x1].toArray w0 (Ret fun v w'=>∃ u0:Value,v=.tuple #[u0,.int .i64 r.2]∧RV w' u0 r.1∧Ext w0 w'):=by
 unfold speed_Span at hF
 have hz:=id r0; obtain ⟨_,rfl,⟨_,_,rfl,rfl,⟨a1,cq1,rfl,p1,q3,e1⟩⟩⟩:=hz
 have r3:=RV.of1 p1 q3 e1
 refine entr (n:=54) Tryz.func50 rfl rfl rfl<|Zr<|sbx rfl rfl fun b3 w1 hx1 hg1 hb1=>?_
 have r4:=r3.ext hx1
 refine sal ti35 fun b4 w2 hx2 hg2 hb2=>?_
 have k1:=hx1.tr hx2
 have hb3:=hb1.ext hx2
 have r6:=r4.ext hx2
 refine Za<|nl<|Zr<|Zv (xlda rfl ti24 rfl (Bx.cs hb3))<|?_
 have hz:=bs hF; obtain ⟨x3,Ex3,hF⟩:=hz
 refine Zc (xc cb90 (mc rfl mn)) (c90 (show RV (α:=(Int×(List (Int×Int×Int)))) _ (.agg [.int .i64 x0.1,.slice a1 x0.2.length cq1].toArray) (x0.1,x0.2) from ⟨_,rfl,⟨[.int .i64 x0.1],[.slice a1 x0.2.length cq1],rfl,rfl,r6.rep1⟩⟩) Ex3) ?_
 rintro _ w3 ⟨rfl,hx3⟩
 have k2:=k1.tr hx3
 have hb4:=hb3.ext hx3
 have r7:=r6.ext hx3
 have hb5:=hb2.ext hx3
 refine Za<|nl<|wp_seq<|wp_block<|Zr<|Zm<|Zv (xneq rfl rfl)<|Za<|nl<|cnd rfl (fun h3=>?_) (fun h3=>?_)
 ·
  have hF:=ifp hF h3
  refine Zr<|Zv (xbdv (r:=[.int .i64 0,.int .i64 0]) ti35 sp35 pn rfl)<|Zm<|sst rfl rfl rfl ti35 hb5 rfl rfl (ble rfl) fun w4 hch1 hb6=>?_
  have k4:=Ext.chg k2 hch1 (Nat.le_trans hx1.size hg2)
  have hb7:Bx w4 b4 35 [.int .i64 0,.int .i64 0]:=hb6
  refine Za<|nl<|?_
  cases hF
  exact wp_ret<|rt rfl (.cell rfl rfl ti35 rfl (Bx.cs hb7) (.tmp rfl rfl .nil)) ⟨_,rfl,(show RV (α:=(Int×Int)) _ (.agg [.int .i64 0,.int .i64 0].toArray) (0,0) from ⟨_,rfl,⟨[.int .i64 0],[.int .i64 0],rfl,rfl,rfl⟩⟩),k4⟩
 ·
  have hF:=ifn hF h3
  refine Zr<|Zv (xfa rfl fa24_0)<|Zv (xld rfl ti3 ((Bx.cs hb4).at 0 rfl))<|Zm<|sbsv (cs:=[.int .i64 x1]) Tryz.underlying41 ti3 rfl (pc rfl pn) rfl rfl rfl rfl rfl fun b5 w5 hx4 hg3 hb8=>?_
  have k6:=k2.tr hx4
  have hb9:=hb4.ext hx4
  have r8:=r7.ext hx4
  have hb10:=hb5.ext hx4
  have o1:Row (α:=Int) 3 w3.heap.size w5 (.slice (some ⟨b5,0,none⟩) 1 1) [x1]:=Row.lit hg3 hb8 rfl (ble rfl)
  have hz:=bs hF; obtain ⟨x4,Ex4,hF⟩:=hz
  refine Zc (xc cb93 (mc rfl (mc rfl (mc rfl mn)))) (c93 o1.rv Ex4) ?_
  rintro _ w6 ⟨rfl,hx5⟩
  have k8:=k6.tr hx5
  have hb11:=hb9.ext hx5
  have r10:=r8.ext hx5
  have hb12:=hb10.ext hx5
  refine Zv (xnot rfl)<|Za<|nl<|cnd rfl (fun h4=>?_) (fun h4=>?_)
  ·
   have hF:=ifp hF h4
   refine Zr<|Zv (xbdv (r:=[.int .i64 0,.int .i64 0]) ti35 sp35 pn rfl)<|sst rfl rfl rfl ti35 hb12 rfl rfl (ble rfl) fun w7 hch2 hb13=>?_
   have k11:=Ext.chg k8 hch2 (Nat.le_trans hx1.size hg2)
   have hb14:Bx w7 b4 35 [.int .i64 0,.int .i64 0]:=hb13
   refine Za<|nl<|?_
   cases hF
   exact wp_ret<|rt rfl (.cell rfl rfl ti35 rfl (Bx.cs hb14) (.tmp rfl rfl .nil)) ⟨_,rfl,(show RV (α:=(Int×Int)) _ (.agg [.int .i64 0,.int .i64 0].toArray) (0,0) from ⟨_,rfl,⟨[.int .i64 0],[.int .i64 0],rfl,rfl,rfl⟩⟩),k11⟩
  ·
   have hF:=ifn hF h4
   refine wp_skip<|Zr<|Zv (xlda rfl ti24 rfl (Bx.cs hb11))<|?_
   have hz:=bs hF; obtain ⟨x5,Ex5,hF⟩:=hz
   refine Zc (xc cb104 (mc rfl mn)) (c104 (show RV (α:=(Int×(List (Int×Int×Int)))) _ (.agg [.int .i64 x0.1,.slice a1 x0.2.length cq1].toArray) (x0.1,x0.2) from ⟨_,rfl,⟨[.int .i64 x0.1],[.slice a1 x0.2.length cq1],rfl,rfl,r10.rep1⟩⟩) Ex5) ?_
   rintro _ w8 ⟨u1,rfl,r11,hx6⟩
   have k13:=k8.tr hx6
   have hb15:=hb12.ext hx6
   have hz:=obPtr r11; obtain ⟨a2,rfl⟩:=hz
   refine Zm<|Zv (xext rfl rfl)<|Zv (xext rfl rfl)<|Za<|Za<|nl<|wp_seq<|Zr<|Zm<|Zv (xneq rfl rfl)<|nl<|cnd rfl (fun h5=>?_) (fun h5=>?_)
   ·
    have hF:=ifp hF h5
    refine Zr<|Zv (xbdv (r:=[.int .i64 0,.int .i64 0]) ti35 sp35 pn rfl)<|Zm<|sst rfl rfl rfl ti35 hb15 rfl rfl (ble rfl) fun w9 hch3 hb16=>?_
    have k16:=Ext.chg k13 hch3 (Nat.le_trans hx1.size hg2)
    have hb17:Bx w9 b4 35 [.int .i64 0,.int .i64 0]:=hb16
    refine Za<|nl<|?_
    cases hF
    exact wp_ret<|rt rfl (.cell rfl rfl ti35 rfl (Bx.cs hb17) (.tmp rfl rfl .nil)) ⟨_,rfl,(show RV (α:=(Int×Int)) _ (.agg [.int .i64 0,.int .i64 0].toArray) (0,0) from ⟨_,rfl,⟨[.int .i64 0],[.int .i64 0],rfl,rfl,rfl⟩⟩),k16⟩
   ·
    have hF:=ifn hF h5
    refine wp_skip<|Zr<|Zm<|?_
    have hz:=bs hF; obtain ⟨x6,Ex6,hF⟩:=hz
    have hz:=obGet r11 Ex6; obtain ⟨b6,cs3,e2,q4,hc1⟩:=hz
    cases e2
    obtain ⟨_,_,rfl,⟨_,_,rfl,rfl,⟨a3,cq2,rfl,p2,q5,e3⟩⟩,⟨a4,cq3,rfl,p3,q6,e4⟩⟩:=q4
    have r12:=RV.of1 p2 q5 e3
    have r13:=RV.of1 p3 q6 e4
    have hz:=bs hF; obtain ⟨x7,Ex7,hF⟩:=hz
    refine Zc (xc cb105 (mc rfl (mc rfl mn))) (c105 (x0:=((x6.1.1,x6.1.2),x6.2)) hc1 ⟨[.int .i64 x6.1.1]++[.slice a3 x6.1.2.length cq2],[.slice a4 x6.2.length cq3],rfl,⟨[.int .i64 x6.1.1],[.slice a3 x6.1.2.length cq2],rfl,rfl,r12.rep1⟩,r13.rep1⟩ Ex7) ?_
    rintro _ w10 ⟨u2,u3,rfl,r14,r15,hx7⟩
    have k18:=k13.tr hx7
    have hb18:=hb15.ext hx7
    have r16:=r12.ext hx7
    have r17:=r13.ext hx7
    have hc2:=hc1.ext hx7
    have hz:=id r14; obtain ⟨_,rfl,rfl⟩:=hz
    refine Zm<|Zv (xext rfl rfl)<|Zv (xext rfl rfl)<|sal ti159 fun b7 w11 hx8 hg4 hb19=>?_
    have k21:=k18.tr hx8
    have hb21:Bx w11 b7 159 (List.flatMap Flat.enc ((Ar.fill 21 0:(Ar 21 Int))).l):=hb19
    refine sstw rfl rfl ti159 hb21 (arlen _) (arlen _) (flat_one _) fun w12 hch4 hb22=>?_
    have k24:=Ext.chg k21 hch4 (Nat.le_trans k18.size hg4)
    have k27:=Ext.chg hx8 hch4 (Nat.le_trans (Nat.le_refl _) hg4)
    have hb23:=hb18.ext k27
    have r21:=r16.ext k27
    have r22:=r17.ext k27
    have hc4:=hc2.ext k27
    have hb24:Bx w12 b7 159 (List.flatMap Flat.enc x7.1.l):=hb22
    refine Za<|nl<|Zr<|Zm<|Zm<|?_
    have hz:=bs hF; obtain ⟨x8,Ex8,hF⟩:=hz
    refine Zc (xc cb105 (mc rfl (mc rfl mn))) (c105 (x0:=((x6.1.1,x6.1.2),x6.2)) hc4 ⟨[.int .i64 x6.1.1]++[.slice a3 x6.1.2.length cq2],[.slice a4 x6.2.length cq3],rfl,⟨[.int .i64 x6.1.1],[.slice a3 x6.1.2.length cq2],rfl,rfl,r21.rep1⟩,r22.rep1⟩ Ex8) ?_
    rintro _ w13 ⟨u4,u5,rfl,r23,r24,hx9⟩
    have k28:=k24.tr hx9
    have hb25:=hb23.ext hx9
    have hb26:=hb24.ext hx9
    have hz:=id r23; obtain ⟨_,rfl,rfl⟩:=hz
    refine Zm<|Zv (xext rfl rfl)<|Zv (xext rfl rfl)<|sal ti159 fun b8 w14 hx10 hg5 hb27=>?_
    have k32:=k28.tr hx10
    have hb30:Bx w14 b8 159 (List.flatMap Flat.enc ((Ar.fill 21 0:(Ar 21 Int))).l):=hb27
    refine sstw rfl rfl ti159 hb30 (arlen _) (arlen _) (flat_one _) fun w15 hch5 hb31=>?_
    have k36:=Ext.chg k32 hch5 (Nat.le_trans k28.size hg5)
    have k40:=Ext.chg hx10 hch5 (Nat.le_trans (Nat.le_refl _) hg5)
    have hb32:=hb25.ext k40
    have hb33:=hb26.ext k40
    have hb34:Bx w15 b8 159 (List.flatMap Flat.enc x8.1.l):=hb31
    refine Za<|nl<|wp_seq<|wpl [7] (.pure true 0 (.pure false 1 (.pure true 2 (.pure true 3 (.pure true 4 (.pure false 5 (.pure true 6 (.eff 7 (.pure true 8 .fin) .stop)))))))) mixed (by kernel_rfl) (fun w16 hx11=>?_)
    have k41:=k36.tr hx11
    have hb35:=hb32.ext hx11
    have hb36:=hb33.ext hx11
    have hb37:=hb34.ext hx11
    have hz:=bs hF; obtain ⟨x9,Ex9,hF⟩:=hz
    have hz:=ixar (Bx.cs hb37) Ex9; obtain ⟨i1,i2,hc5⟩:=hz
    refine Zp rfl (fun _=>xixa rfl rfl Tryz.underlying159 ti2 i1 i2)<|Zq rfl (fun _ hS=>xld rfl ti2 ((hc5.ext (hS.resolve_left nofun)).at 0 rfl)) (Ext.refl _)<|Zp rfl (fun _=>xneg rfl)<|Zn rfl<|?_
    have hz:=bs hF; obtain ⟨x10,Ex10,hF⟩:=hz
    have hz:=ixar (Bx.cs hb36) Ex10; obtain ⟨i3,i4,hc6⟩:=hz
    refine Zp rfl (fun _=>xixa rfl rfl Tryz.underlying159 ti2 i3 i4)<|Zq rfl (fun _ hS=>xld rfl ti2 ((hc6.ext (hS.resolve_left nofun)).at 0 rfl)) (Ext.refl _)<|Zp rfl (fun _=>xbdv (r:=[.int .i64 (w64 (0 - x9)),.int .i64 x10]) ti35 sp35 (pc rfl (pc rfl pn)) rfl)<|pe1 rfl<|sst rfl rfl rfl ti35 hb35 rfl rfl (ble rfl) fun w17 hch6 hb38=>?_
    have k46:=Ext.chg k41 hch6 (Nat.le_trans hx1.size hg2)
    have hb39:Bx w17 b4 35 [.int .i64 (w64 (0 - x9)),.int .i64 x10]:=hb38
    refine nl ⟨fun h=>(h (by decide)).elim,?_⟩
    refine Zp rfl (fun _=>xas)<|?_
    cases hF
    exact wp_ret<|rt rfl (.cell rfl rfl ti35 rfl (Bx.cs hb39) (.tmp rfl rfl .nil)) ⟨_,rfl,(show RV (α:=(Int×Int)) _ (.agg [.int .i64 (w64 (0 - x9)),.int .i64 x10].toArray) (w64 (0 - x9),x10) from ⟨_,rfl,⟨[.int .i64 (w64 (0 - x9))],[.int .i64 x10],rfl,rfl,rfl⟩⟩),k46⟩
theorem c29 {w0:World} {v0:Value} {x0:(Int×(List (Int×Int×Int)))} (r0:RV w0 v0 x0) {x1:Bool} {F:Nat} {r:((List Int)×Int)} (hF:speed_Ends F x0 x1=some r) :
  Calls Tryz.prog 29 [v0,.bool x1].toArray w0 (Ret fun v w'=>∃ u0:Value,v=.tuple #[u0,.int .i64 r.2]∧RV w' u0 r.1∧Ext w0 w'):=by
 unfold speed_Ends at hF
 have hz:=id r0; obtain ⟨_,rfl,⟨_,_,rfl,rfl,⟨a1,cq1,rfl,p1,q3,e1⟩⟩⟩:=hz
 have r3:=RV.of1 p1 q3 e1
 refine entr (n:=49) Tryz.func29 rfl rfl rfl<|Zr<|sbx rfl rfl fun b3 w1 hx1 hg1 hb1=>?_
 have r4:=r3.ext hx1
 refine Za<|Za<|nl<|Zr<|Zv (xlda rfl ti24 rfl (Bx.cs hb1))<|?_
 have hz:=bs hF; obtain ⟨x3,Ex3,hF⟩:=hz
 refine Zc (xc cb104 (mc rfl mn)) (c104 (show RV (α:=(Int×(List (Int×Int×Int)))) _ (.agg [.int .i64 x0.1,.slice a1 x0.2.length cq1].toArray) (x0.1,x0.2) from ⟨_,rfl,⟨[.int .i64 x0.1],[.slice a1 x0.2.length cq1],rfl,rfl,r4.rep1⟩⟩) Ex3) ?_
 rintro _ w2 ⟨u1,rfl,r6,hx2⟩
 have k1:=hx1.tr hx2
 have hb2:=hb1.ext hx2
 have hz:=obPtr r6; obtain ⟨a2,rfl⟩:=hz
 refine Zm<|Zv (xext rfl rfl)<|Zv (xext rfl rfl)<|sal ti180 fun b4 w3 hx3 hg2 hb3=>?_
 have k2:=k1.tr hx3
 refine sst rfl rfl rfl ti180 hb3 rfl rfl (ble rfl) fun w4 hch1 hb5=>?_
 have k3:=Ext.chg k2 hch1 (Nat.le_trans k1.size hg2)
 have k4:=Ext.chg hx3 hch1 (Nat.le_trans (Nat.le_refl _) hg2)
 have hb6:=hb2.ext k4
 have hb7:Bx w4 b4 180 [.pointer a2]:=hb5
 refine Za<|nl<|wp_seq<|Zr<|Zm<|Zv (xneq rfl rfl)<|nl<|cnd rfl (fun h3=>?_) (fun h3=>?_)
 ·
  have hF:=ifp hF h3
  refine Zr<|Zm<|Za<|Za<|nl<|?_
  cases hF
  exact wp_ret<|rt rfl (.tmp rfl rfl (.tmp rfl rfl .nil)) ⟨_,rfl,(RVo.nil (Nat.zero_le _)),k3⟩
 ·
  have hF:=ifn hF h3
  refine wp_skip<|Zr<|Zv (xld rfl ti180 ((Bx.cs hb7).at 0 rfl))<|?_
  have hz:=bs hF; obtain ⟨x4,Ex4,hF⟩:=hz
  have hz:=obGet r6 Ex4; obtain ⟨b5,cs3,e2,q4,hc1⟩:=hz
  cases e2
  obtain ⟨_,_,rfl,⟨_,_,rfl,rfl,⟨a3,cq2,rfl,p2,q5,e3⟩⟩,⟨a4,cq3,rfl,p3,q6,e4⟩⟩:=q4
  have r12:=RV.of1 p2 q5 e3
  have r13:=RV.of1 p3 q6 e4
  have hc2:=hc1.ext k4
  have r14:=r12.ext k4
  have r15:=r13.ext k4
  have hz:=bs hF; obtain ⟨x5,Ex5,hF⟩:=hz
  refine Zc (xc cb105 (mc rfl (mc rfl mn))) (c105 (x0:=((x4.1.1,x4.1.2),x4.2)) hc2 ⟨[.int .i64 x4.1.1]++[.slice a3 x4.1.2.length cq2],[.slice a4 x4.2.length cq3],rfl,⟨[.int .i64 x4.1.1],[.slice a3 x4.1.2.length cq2],rfl,rfl,r14.rep1⟩,r15.rep1⟩ Ex5) ?_
  rintro _ w5 ⟨u2,u3,rfl,r16,r17,hx4⟩
  have k5:=k3.tr hx4
  have hb8:=hb6.ext hx4
  have hb9:=hb7.ext hx4
  have r19:=r14.ext hx4
  have r20:=r15.ext hx4
  have hc3:=hc2.ext hx4
  have hz:=id r16; obtain ⟨_,rfl,rfl⟩:=hz
  refine Zm<|Zv (xext rfl rfl)<|Zv (xext rfl rfl)<|sal ti159 fun b6 w6 hx5 hg3 hb10=>?_
  have k7:=k5.tr hx5
  have hb13:Bx w6 b6 159 (List.flatMap Flat.enc ((Ar.fill 21 0:(Ar 21 Int))).l):=hb10
  refine sstw rfl rfl ti159 hb13 (arlen _) (arlen _) (flat_one _) fun w7 hch2 hb14=>?_
  have k9:=Ext.chg k7 hch2 (Nat.le_trans k5.size hg3)
  have k11:=Ext.chg hx5 hch2 (Nat.le_trans (Nat.le_refl _) hg3)
  have hb15:=hb8.ext k11
  have hb16:=hb9.ext k11
  have r26:=r19.ext k11
  have r27:=r20.ext k11
  have hc5:=hc3.ext k11
  have hb17:Bx w7 b6 159 (List.flatMap Flat.enc x5.1.l):=hb14
  refine Za<|nl<|Zr<|Zv (xmf mn (mc rfl mn))<|Za<|nl<|wp_seq<|Zr<|Zm<|Zv (xnot rfl)<|nl<|?_
  have hz:=bs hF; obtain ⟨y1,hB1,hF⟩:=hz
  refine ct (fun L w=>∃ v3:Value,L 10=v3∧FnI Tryz.prog Int w v3 y1∧L 2=.pointer (some ⟨b3,0,none⟩)∧Ext w7 w) ?_ ?_
  ·
   refine cnd rfl (fun h4=>?_) (fun h4=>?_)
   ·
    have hB1:=ifp hB1 h4
    refine rg<|Zv (xmf mn (mc rfl mn))<|Za<|nl<|?_
    cases hB1
    refine lf<|?_
    exact ⟨_,rfl,⟨107,[],[.pointer (some ⟨b4,0,none⟩)],rfl,cb107,fun w' u x b hk hu hp=>by cases RVo.int.1 hu; exact c107 (Bx.cs (hb16.ext hk)) (obRep1 (obNew (hc5.ext hk) rfl ⟨[.int .i64 x4.1.1]++[.slice a3 x4.1.2.length cq2],[.slice a4 x4.2.length cq3],rfl,⟨[.int .i64 x4.1.1],[.slice a3 x4.1.2.length cq2],rfl,rfl,(r26.ext hk).rep1⟩,(r27.ext hk).rep1⟩)) hp⟩,rfl,(Ext.refl _)⟩
   ·
    have hB1:=ifn hB1 h4
    refine wp_skip<|?_
    cases hB1
    refine lf<|?_
    exact ⟨_,rfl,⟨106,[],[.pointer (some ⟨b6,0,none⟩)],rfl,cb106,fun w' u x b hk hu hp=>by cases RVo.int.1 hu; exact c106 (Bx.cs (hb17.ext hk)) rfl hp⟩,rfl,(Ext.refl _)⟩
  rintro L w8 ⟨v3,l10_j1,R10_j1,l2_j1,K0_j1⟩
  have k12:=k9.tr K0_j1
  have hb18:=hb15.ext K0_j1
  refine Zr<|Za<|nl<|wp_seq<|Zr<|Zv (xfa l2_j1 fa24_0)<|Zv (xld rfl ti3 ((Bx.cs hb18).at 0 rfl))<|Zm<|nl<|?_
  have o1:Row (α:=Int) 2 w8.heap.size w8 (.slice none 0 0) []:=Row.nil
  have hz:=bs hF; obtain ⟨z1,hB4,hF⟩:=hz
  refine ct (fun L w=>∃ v5:Value,L 11=v5∧Row 2 w8.heap.size w v5 z1∧Ext w8 w) ?_ ?_
  ·
   refine wp_block<|lp (I:=fun m L w=>∃ y2:(List Int),∃ y3:Int,∃ v4:Value,speed_Ends_l1 F x0 y1 m y2 y3 =some z1∧L 11=v4∧Row 2 w8.heap.size w v4 y2∧L 32=.int .i64 y3∧L 10=v3∧L 31=.int .i64 x0.1∧Ext w8 w) F ⟨_,_,_,hB4,rfl,o1,rfl,l10_j1,rfl,(Ext.refl _)⟩ ?_
   rintro m L w9 ⟨y2,y3,v4,hB4,l11_i1,O11_i1,l32_i1,l10_i1,l31_i1,K0_i1⟩
   rcases m with _ | m
   ·rw [speed_Ends_l1] at hB4; cases hB4
   rw [speed_Ends_l1] at hB4
   have R1:=R10_j1.ext K0_i1
   have hz:=RV.sl O11_i1.rv; obtain ⟨a5,cq4,rfl,-,-,-⟩:=hz
   refine Zr<|Zv (xlss l32_i1 l31_i1)<|nl<|wp_seq<|cnd rfl (fun h5=>?_) (fun h5=>?_)
   ·
    have hB4:=ifp hB4 h5
    refine wp_skip<|wp_seq<|wp_block<|Zr<|Zm<|Za<|nl<|wpl [] (.pure true 0 (.pure true 1 (.pure false 2 (.pure true 3 (.pure false 4 (.pure true 5 (.pure true 6 (.pure true 7 (.pure true 8 (.eff 9 (.eff 10 (.eff 11 (.pure true 12 .fin) .stop) .stop) .stop)))))))))) mixed (by kernel_rfl) (fun w10 hx6=>?_)
    have k23:=K0_i1.tr hx6
    have R2:=R1.ext hx6
    have O1:=O11_i1.ext hx6
    refine Zn rfl<|Zn rfl<|Zq rfl (fun _ hS=>xlen l11_i1 Tryz.underlying28) (Ext.refl _)<|Zn rfl<|Zq rfl (fun _ hS=>xlen l11_i1 Tryz.underlying28) (Ext.refl _)<|?_
    have r29:=RV.full O1.rv
    refine Zp rfl (fun _=>xslf l11_i1 (RV.cap O1.rv).2.1 Tryz.underlying28 ti2 rfl rfl)<|Zn rfl<|Zn rfl<|Zp rfl (fun _=>xadd l32_i1 rfl)<|?_
    have hz:=bs hB4; obtain ⟨x6,Ex6,hB4⟩:=hz
    have hz:=id R2; obtain ⟨g1,fs1,cs4,e5,hg4,hu1⟩:=hz
    refine pe1 rfl<|Zc (xcv (l10_i1.trans e5) hg4 (mc rfl mn) rfl) (hu1 _ _ _ _ (Ext.refl _) (RVo.int.2 rfl) Ex6) ?_
    rintro _ w11 ⟨rfl,hx7⟩
    have k28:=k23.tr hx7
    have r30:=r29.ext hx7
    refine nl ⟨fun _ _=>hx7,?_⟩
    refine pe1 rfl<|sbsv (cs:=[.int .i64 x6]) Tryz.underlying28 ti2 rfl (pc rfl pn) rfl rfl rfl rfl rfl fun b7 w12 hx8 hg5 hb19=>?_
    have k33:=k28.tr hx8
    have k34:=hx7.tr hx8
    have r31:=r30.ext hx8
    have o3:Row (α:=Int) 2 w11.heap.size w12 (.slice (some ⟨b7,0,none⟩) 1 1) [x6]:=Row.lit hg5 hb19 rfl (ble rfl)
    refine nl ⟨fun _ _=>k34,?_⟩
    have hz:=bs hB4; obtain ⟨x7,Ex7,hB4⟩:=hz
    refine pe1 rfl<|sapf (l:=y2) (k:=([x6]:List Int)) rfl rfl Tryz.underlying28 ti2 rfl rfl r31 o3.rv rfl Ex7 fun v6 w13 o4 hx9=>?_
    have k39:=k33.tr hx9
    have k40:=k34.tr hx9
    have hz:=RV.sl o4.rv; obtain ⟨a6,cq5,rfl,-,-,-⟩:=hz
    refine nl ⟨fun _ _=>k40,?_⟩
    refine Zp rfl (fun _=>xas)<|rg<|Zv (xadd l32_i1 rfl)<|Zm<|nl<|?_
    refine lq m (Nat.lt_succ_self _)<|?_
    exact ⟨_,_,_,hB4,rfl,(o4.bnd k33.size),rfl,l10_i1,l31_i1,k39⟩
   ·
    have hB4:=ifn hB4 h5
    refine wp_exit<|?_
    cases hB4
    refine lf<|?_
    exact ⟨_,l11_i1,O11_i1,K0_i1⟩
  rintro L w14 ⟨v5,l11_j2,O11_j2,K0_j2⟩
  have k42:=k12.tr K0_j2
  have hz:=RV.sl O11_j2.rv; obtain ⟨a7,cq6,rfl,-,-,-⟩:=hz
  refine Zr<|Zm<|Za<|Za<|nl<|?_
  cases hF
  exact wp_ret<|rt rfl (.tmp l11_j2 rfl (.tmp rfl rfl .nil)) ⟨_,rfl,O11_j2.rv,k42⟩
end Go.Proofs.YtfmelbioccbdoaaGreat
end
section
namespace Go.Proofs.YtfmelbioccbdoaaGreat
open Go Go.Md Go.RowKit
attribute [local irreducible] Go.wpList Go.Code.wp Go.Calls Go.Md.Rnd Go.Md.Mt
theorem c60b {base:Nat} {w0:World} (hb:base≤w0.heap.size) {v0:Value} {x0:List Int} (o0:Row 3 base w0 v0 x0) {F:Nat} {r:List Int} (hF:slices_Reverse F x0=some r) :
  Calls Tryz.prog 131 [v0].toArray w0 (Ret fun v w'=>v=.tuple #[]∧Row 3 base w' v0 r∧Below base w0 w'):=by
 let wb:World:={ w0 with heap:=w0.heap.extract 0 base }
 have hs:wb.heap.size=base:=by simp [wb]; omega
 have hg:∀ k,k<base→wb.heap[k]?=w0.heap[k]?:=fun k hk=>by simp [wb,Array.getElem?_extract,hk]; intro h; omega
 have hk:Ext wb w0:=⟨rfl,rfl,rfl,by rw [hs]; exact hb,fun k hk=>(hg k (by rw [← hs]; exact hk)).symm⟩
 have o1:Row 3 wb.heap.size w0 v0 x0:=by rw [hs]; exact o0
 refine (c131 (wb:=wb) hk o1 hF).mono ?_
 rintro e w' ⟨v,rfl,rfl,ho,hw,hsz⟩
 rw [hs] at ho
 exact ⟨_,rfl,rfl,ho,hw.os.trans rfl,hw.tape.trans rfl,hw.output.trans rfl,hsz,fun k hk=>(hw.block k (by rw [hs]; exact hk)).trans (hg k hk)⟩
def speed_Way_l1 (all:List TRule) (from_:Int):Nat→List Int→Int→List (Int×Int)→Option (List Int)
 | 0,_,_,_=>none
 | m + 1,way,at_,by_ =>
  if (!decide (at_=from_))=true then
   (speed_from all by_ at_) >>= fun p=>(app 8 way [p.1]) >>= fun way'=>speed_Way_l1 all from_ m way' p.2 (mdel by_ at_)
  else some way
def speed_Way (F:Nat) (x0:TSheet) (x1 x2:Int):Option (List Int×Int×Int) :=
 (speed_CheckSheet F (x0.1,x0.2)) >>= fun x4 =>
 if (!decide (x4=0))=true then some ([],0,x4) else
 (speed_turns F 0 x0.1 ([x1,x2]:List Int)) >>= fun x5 =>
 if (!x5)=true then some ([],0,2) else
 (speed_open F (x0.1,x0.2)) >>= fun x6 =>
 if (!decide (x6.2=0))=true then some ([],0,x6.2) else
 (x6.1.v) >>= fun x7 =>
 (speed_net_find F ((x7.1.1,x7.1.2),x7.2) x1) >>= fun x8 =>
 (speed_Way_l1 x7.2 x1 F [] x2 x8.2) >>= fun z1 =>
 (slices_Reverse F z1) >>= fun z2 =>
 (ix x8.1.l x2) >>= fun d =>
 some (z2,d,0)
theorem c51 {w0:World} {v0:Value} {x0:TSheet} (r0:RV w0 v0 x0) {x1 x2:Int} {F:Nat} {r:List Int×Int×Int} (hF:speed_Way F x0 x1 x2=some r) :
  Calls Tryz.prog 51 [v0,.int .i64 x1,.int .i64 x2].toArray w0 (Ret fun v w'=>∃ u0:Value,v=.tuple #[u0,.int .i64 r.2.1,.int .i64 r.2.2]∧RV w' u0 r.1∧Ext w0 w'):=by
 unfold speed_Way at hF
 have hz:=id r0; obtain ⟨_,rfl,⟨_,_,rfl,rfl,⟨a1,c1,rfl,p1,q4,e1⟩⟩⟩:=hz
 have r4:=RV.of1 p1 q4 e1
 refine entr (n:=71) Tryz.func51 rfl rfl rfl<|Zr<|sbx rfl rfl fun b4 w1 hx1 hg1 hb1=>?_
 have r5:=r4.ext hx1
 have r6:=r0.ext hx1
 refine Za<|Za<|Za<|nl<|Zr<|Zv (xlda rfl ti24 rfl (Bx.cs hb1))<|?_
 have hz:=bs hF; obtain ⟨x4,Ex4,hF⟩:=hz
 refine Zc (xc cb90 (mc rfl mn)) (c90 (show RV (α:=(Int×(List (Int×Int×Int)))) _ (.agg [.int .i64 x0.1,.slice a1 x0.2.length c1].toArray) (x0.1,x0.2) from ⟨_,rfl,⟨[.int .i64 x0.1],[.slice a1 x0.2.length c1],rfl,rfl,r5.rep1⟩⟩) Ex4) ?_
 rintro _ w2 ⟨rfl,hx2⟩
 have k1:=hx1.tr hx2
 have hb2:=hb1.ext hx2
 have r7:=r5.ext hx2
 refine Za<|nl<|wp_seq<|wp_block<|Zr<|Zm<|Zv (xneq rfl rfl)<|Za<|nl<|cnd rfl (fun h4=>?_) (fun h4=>?_)
 ·
  have hF:=ifp hF h4
  refine Zr<|Zm<|Za<|Za<|Za<|nl<|?_
  cases hF
  exact wp_ret<|rt rfl (.tmp rfl rfl (.tmp rfl rfl (.tmp rfl rfl .nil))) ⟨_,rfl,(RVo.nil (Nat.zero_le _)),k1⟩
 ·
  have hF:=ifn hF h4
  refine Zr<|Zv (xfa rfl fa24_0)<|Zv (xld rfl ti3 ((Bx.cs hb2).at 0 rfl))<|Zm<|Zm<|sbsv (cs:=[.int .i64 x1,.int .i64 x2]) Tryz.underlying41 ti3 rfl (pc rfl (pc rfl pn)) rfl rfl rfl rfl rfl fun b5 w3 hx3 hg2 hb3=>?_
  have k2:=k1.tr hx3
  have hb4:=hb2.ext hx3
  have r8:=r7.ext hx3
  have o1:Row (α:=Int) 3 w2.heap.size w3 (.slice (some ⟨b5,0,none⟩) 2 2) [x1,x2]:=Row.lit hg2 hb3 rfl (ble rfl)
  have hz:=bs hF; obtain ⟨x5,Ex5,hF⟩:=hz
  refine Zc (xc cb93 (mc rfl (mc rfl (mc rfl mn)))) (c93 o1.rv Ex5) ?_
  rintro _ w4 ⟨rfl,hx4⟩
  have k3:=k2.tr hx4
  have k4:=hx3.tr hx4
  have hb5:=hb4.ext hx4
  have r10:=r8.ext hx4
  refine Zv (xnot rfl)<|Za<|nl<|cnd rfl (fun h5=>?_) (fun h5=>?_)
  ·
   have hF:=ifp hF h5
   refine Zr<|Za<|Za<|Za<|nl<|?_
   cases hF
   exact wp_ret<|rt rfl (.tmp rfl rfl (.tmp rfl rfl (.tmp rfl rfl .nil))) ⟨_,rfl,(RVo.nil (Nat.zero_le _)),k3⟩
  ·
   have hF:=ifn hF h5
   refine wp_skip<|Zr<|Zv (xlda rfl ti24 rfl (Bx.cs hb5))<|?_
   have hz:=bs hF; obtain ⟨x6,Ex6,hF⟩:=hz
   refine Zc (xc cb104 (mc rfl mn)) (c104 (show RV (α:=(Int×(List (Int×Int×Int)))) _ (.agg [.int .i64 x0.1,.slice a1 x0.2.length c1].toArray) (x0.1,x0.2) from ⟨_,rfl,⟨[.int .i64 x0.1],[.slice a1 x0.2.length c1],rfl,rfl,r10.rep1⟩⟩) Ex6) ?_
   rintro _ w5 ⟨u1,rfl,r11,hx5⟩
   have k5:=k3.tr hx5
   have k6:=k4.tr hx5
   have hz:=obPtr r11; obtain ⟨a2,rfl⟩:=hz
   refine Zm<|Zv (xext rfl rfl)<|Zv (xext rfl rfl)<|Za<|Za<|nl<|wp_seq<|Zr<|Zm<|Zv (xneq rfl rfl)<|nl<|cnd rfl (fun h6=>?_) (fun h6=>?_)
   ·
    have hF:=ifp hF h6
    refine Zr<|Zm<|Za<|Za<|Za<|nl<|?_
    cases hF
    exact wp_ret<|rt rfl (.tmp rfl rfl (.tmp rfl rfl (.tmp rfl rfl .nil))) ⟨_,rfl,(RVo.nil (Nat.zero_le _)),k5⟩
   ·
    have hF:=ifn hF h6
    refine wp_skip<|Zr<|Zm<|Zm<|?_
    have hz:=bs hF; obtain ⟨x7,Ex7,hF⟩:=hz
    have hz:=obGet r11 Ex7; obtain ⟨b6,cs4,e2,q5,hc1⟩:=hz
    cases e2
    obtain ⟨_,_,rfl,⟨_,_,rfl,rfl,⟨a3,c2,rfl,p2,q6,e3⟩⟩,⟨a4,c3,rfl,p3,q7,e4⟩⟩:=q5
    have r12:=RV.of1 p2 q6 e3
    have r13:=RV.of1 p3 q7 e4
    have hz:=bs hF; obtain ⟨x8,Ex8,hF⟩:=hz
    refine Zc (xc cb105 (mc rfl (mc rfl mn))) (c105 hc1 ⟨[.int .i64 x7.1.1]++[.slice a3 x7.1.2.length c2],[.slice a4 x7.2.length c3],rfl,⟨[.int .i64 x7.1.1],[.slice a3 x7.1.2.length c2],rfl,rfl,r12.rep1⟩,r13.rep1⟩ Ex8) ?_
    rintro _ w6 ⟨u2,u3,rfl,r14,r15,hx6⟩
    have k7:=k5.tr hx6
    have k8:=k6.tr hx6
    have r16:=r12.ext hx6
    have r17:=r13.ext hx6
    have hc2:=hc1.ext hx6
    have hz:=id r14; obtain ⟨_,rfl,rfl⟩:=hz
    refine Zm<|Zv (xext rfl rfl)<|Zv (xext rfl rfl)<|sal ti159 fun b7 w7 hx7 hg3 hb6=>?_
    have k9:=k7.tr hx7
    have k10:=k8.tr hx7
    have r18:=r16.ext hx7
    have r19:=r17.ext hx7
    have hc3:=hc2.ext hx7
    have r20:=r14.ext hx7
    have hb7:Bx w7 b7 159 (List.flatMap Flat.enc ((Ar.fill 21 0:(Ar 21 Int))).l):=hb6
    refine sstw rfl rfl ti159 hb7 (arlen _) (arlen _) (flat_one _) fun w8 hch1 hb8=>?_
    have k11:=Ext.chg k9 hch1 (Nat.le_trans k7.size hg3)
    have k12:=Ext.chg k10 hch1 (Nat.le_trans k8.size hg3)
    have k13:=Ext.chg hx7 hch1 (Nat.le_trans (Nat.le_refl _) hg3)
    have r21:=r16.ext k13
    have r22:=r17.ext k13
    have hc4:=hc2.ext k13
    have hb9:Bx w8 b7 159 (List.flatMap Flat.enc x8.1.l):=hb8
    refine Za<|nl<|Zr<|Za<|nl<|wp_seq<|Zr<|Zm<|Za<|nl<|?_
    have o2:Row (α:=Int) 3 w8.heap.size w8 (.slice none 0 0) []:=Row.nil
    obtain ⟨bm,rfl,hgm,hm6⟩:=r15
    have hm8:=hm6.ext k13
    have hs6:=hm6.lt
    have hs8:=k13.size
    have hs5:=hx6.size
    have hl7:=hb9.lt
    have hne:b7≠bm:=by have:=hb6.lt; omega
    have hz:=bs hF; obtain ⟨z1,hB1,hF⟩:=hz
    have hz:=bs hF; obtain ⟨z2,hR,hF⟩:=hz
    have hz:=bs hF; obtain ⟨d,Ed,hF⟩:=hz
    cases hF
    have k56:Ext w5 w8:=hx6.tr k13
    refine ct (fun L w=>∃ v5:Value,L 13=v5∧Row 3 w8.heap.size w v5 z1∧L 2=.int .i64 x2∧L 11=.pointer (some ⟨b7,0,none⟩)∧Bx w b7 159 (x8.1.l.flatMap Flat.enc)∧Ext w5 w∧w8.heap.size≤w.heap.size) ?_ ?_
    ·refine wp_block<|lp (I:=fun m L w=>∃ way at_ by_ v4,speed_Way_l1 x7.2 x1 m way at_ by_=some z1∧L 13=v4∧Row 3 w8.heap.size w v4 way∧L 14=.int .i64 at_∧L 1=.int .i64 x1∧L 2=.int .i64 x2∧L 10=.pointer (some ⟨b6,0,none⟩)∧L 11=.pointer (some ⟨b7,0,none⟩)∧L 12=.map (some bm)∧Mp w bm by_∧Bx w b7 159 (x8.1.l.flatMap Flat.enc)∧Ext w5 w∧w8.heap.size≤w.heap.size) F
      ⟨_,_,_,_,hB1,rfl,o2,rfl,rfl,rfl,rfl,rfl,rfl,hm8,hb9,k56,Nat.le_refl _⟩ ?_
     rintro m L w9 ⟨way,at_,by_,v4,hB,l13,o9,l14,l1,l2,l10,l11,l12,m9,bf9,k9',hs9⟩
     rcases m with _ | m
     ·rw [speed_Way_l1] at hB; cases hB
     rw [speed_Way_l1] at hB
     refine wp_seq<|Zr<|Zv (xmva l14)<|Zv (xmva l1)<|Zv (xneq rfl rfl)<|nl<|cnd rfl (fun h=>?_) (fun h=>?_)
     ·have hB:=ifp hB h
      have hz:=bs hB; obtain ⟨p,Ep,hB⟩:=hz
      have hz:=bs hB; obtain ⟨o',Eo,hB⟩:=hz
      have hz:=from_spec Ep; obtain ⟨hk,hp1,rr,Er,hp2⟩:=hz
      refine wp_skip<|wp_block<|Zr<|Zv (xmva l12)<|Zv (xmva l14)<|Zv (xlku (d:=(0:Int)) Tryz.underlying183 kt3 (zero3 _) m9 hk rfl rfl)<|Za<|nl<|?_
      rw [← hp1]
      refine Zr<|Zv (xmva l12)<|Zv (xmva l14)<|smdn (k:=at_) rfl rfl Tryz.underlying183 kt3 m9 hk fun w10 hch10 m10=>?_
      have bf10:=bf9.chg hch10 hne
      have o10:=o9.chg hch10 (by omega)
      have k10':=k9'.chg hch10 hgm
      have hs10:w8.heap.size≤w10.heap.size:=by rw [hch10.size]; exact hs9
      refine nl<|Zr<|Zv (xmva l13)<|Zm<|sbsv (cs:=[.int .i64 p.1]) Tryz.underlying41 ti3 rfl (pc rfl pn) rfl rfl rfl rfl rfl fun b5 w16 hx16 hg16 hb16=>?_
      have o1':Row (α:=Int) 3 w10.heap.size w16 (.slice (some ⟨b5,0,none⟩) 1 1) [p.1]:=Row.lit hg16 hb16 rfl (ble rfl)
      have o16:=o10.ext hx16
      refine sapx (l:=way) (k:=[p.1]) rfl rfl Tryz.underlying41 ti3 rfl rfl o16 (RV.els o1'.rv) Eo (Nat.le_trans hs10 hx16.size) fun v2 w17 o17 hB17 _ _=>?_
      have m17:=(m10.ext hx16).below hB17 (by omega)
      have bf17:=(bf10.ext hx16).below hB17 hl7
      have k17:Ext w5 w17:=(k10'.tr hx16).grow k56.size hB17
      have r17':=r13.ext k17
      have h17:=hc1.ext k17
      have hz:=r17'.els.ix Er; obtain ⟨b6',f5,cs5,rfl,i3,i4,q5,hc5⟩:=hz
      obtain ⟨_,_,rfl,rfl,⟨_,_,rfl,rfl,rfl⟩⟩:=q5
      refine Za<|nl<|rg<|Zv (xmva l10)<|Zv (xnil rfl)<|Zv (xfa rfl fa229_1)<|Zv (xld rfl ti22 (h17.at 2 rfl))<|Zm<|Zv (xixs rfl rfl Tryz.underlying22 ti58 i3 i4)<|Zv (xfa rfl fa58_0)<|Zv (xld rfl ti3 (hc5.at 0 rfl))<|Za<|nl<|?_
      exact lq m (Nat.lt_succ_self _) ⟨_,_,_,_,hB,rfl,o17,by rw [hp2]; rfl,l1,l2,l10,l11,l12,m17,bf17,k17,Nat.le_trans hs10 (Nat.le_trans hx16.size hB17.size)⟩
     ·have hB:=ifn hB h
      cases hB
      exact wp_exit<|lf ⟨_,l13,o9,l2,l11,bf9,k9',hs9⟩
    rintro L w18 ⟨v,l13,ro,l2,l11,bf18,k18,hs18⟩
    refine Zr<|Zv (xmva l13)<|Zc (xc cb131 (mc rfl mn)) (c60b hs18 ro hR) fun v2 w19 hv=>?_
    obtain ⟨_,ro19,hB19⟩:=hv
    have bf19:=bf18.below hB19 hl7
    have k19:Ext w5 w19:=k18.grow k56.size hB19
    refine nl<|wp_seq<|wpl [] (.pure true 0 (.pure true 1 (.pure true 2 (.pure false 3 (.pure true 4 (.pure true 5 (.pure true 6 .fin))))))) mixed (by kernel_rfl) (fun wd hxd=>?_)
    have hz:=ixar (Bx.cs (bf19.ext hxd)) Ed; obtain ⟨i1,i2,hcd⟩:=hz
    refine Zp rfl (fun _=>xmva l13)<|Zp rfl (fun _=>xmva l2)<|Zp rfl (fun _=>xixa l11 rfl Tryz.underlying159 ti2 i1 i2)<|Zq rfl (fun _ hS=>xld rfl ti2 ((hcd.ext (hS.resolve_left nofun)).at 0 rfl)) (Ext.refl _)<|Zp rfl (fun _=>xas)<|Zp rfl (fun _=>xas)<|Zp rfl (fun _=>xas)<|?_
    exact wp_ret<|rt rfl (.tmp rfl rfl (.tmp rfl rfl (.tmp rfl rfl .nil))) ⟨_,rfl,(ro19.ext hxd).rv,(k5.tr k19).tr hxd⟩
end Go.Proofs.YtfmelbioccbdoaaGreat
end
section
namespace Go.Proofs.YtfmelbioccbdoaaGreat
open Go Go.Md Go.RowKit
end Go.Proofs.YtfmelbioccbdoaaGreat
end
section
namespace Go.Proofs.YtfmelbioccbdoaaGreat
open Go Go.Md Go.RowKit
attribute [local irreducible] Go.wpList Go.Code.wp Go.Calls Go.Md.Rnd Go.Md.Mt Go.Md.MtM Go.Md.RndM Go.Code.wpIn
end Go.Proofs.YtfmelbioccbdoaaGreat
end
section
namespace Go.Proofs.YtfmelbioccbdoaaGreat
open Go Go.Md Go.RowKit
attribute [local irreducible] Go.wpList Go.Code.wp Go.Calls Go.Md.Rnd Go.Md.Mt
end Go.Proofs.YtfmelbioccbdoaaGreat
end
section
namespace Go.Proofs.YtfmelbioccbdoaaGreat
open Go Go.Md Go.RowKit
end Go.Proofs.YtfmelbioccbdoaaGreat
end
section
namespace Go.Proofs.YtfmelbioccbdoaaGreat
open Go Go.Md Go.RowKit
def word_isWord_1 (x0:Int):Option Bool :=
 some ((decide (x0<1)) || (decide (100<x0)))
def word_isWord (F:Nat) (x0:(List Int)):Option Bool :=
 (slices_ContainsFunc_int F x0 (fun y=>word_isWord_1 y)) >>= fun x2 =>
 some (!x2)
def word_CheckBook_l1 (F:Nat) (x0:(Uno (List (Ar 2 Int)))):Nat→Int→Option (Sum Int (Unit))
 | 0,_=>none
 | m + 1,y1 =>
  if (decide (y1<(x0.v.length:Int)))=true then
   (ix x0.v y1) >>= fun x2 =>
   (ix x2.l 0) >>= fun x3 =>
   (ix x2.l 1) >>= fun x4 =>
   (word_isWord F ([x3,x4]:List Int)) >>= fun x5 =>
   if (!x5)=true then
    some (.inl 2)
   else
    word_CheckBook_l1 F x0 m (w64 (y1 + 1))
  else
   some (.inr ())
def word_CheckBook (F:Nat) (x0:(Uno (List (Ar 2 Int)))):Option Int :=
 if (decide (40<(x0.v.length:Int)))=true then
  some 6
 else
  ((word_CheckBook_l1 F x0 F 0) >>= fun o=>match o with
   | .inl r=>some r
   | .inr () =>
    some 0)
def word_CheckLines_1 (x0:(List Int)):Option Bool :=
 some (decide (8<(x0.length:Int)))
def word_CheckLines_2 (F:Nat) (x0:(List Int)):Option Bool :=
 (word_isWord F x0) >>= fun x2 =>
 some (!x2)
def slices_IndexFunc__int_l1 (F:Nat) (x0:(List (List Int))) (x1:((List Int)→Option Bool)):Nat→Int→Option (Sum Int (Unit))
 | 0,_=>none
 | m + 1,y1 =>
  if (decide (y1<(x0.length:Int)))=true then
   (ix x0 y1) >>= fun x3 =>
   (x1 x3) >>= fun x4 =>
   if x4=true then
    some (.inl y1)
   else
    slices_IndexFunc__int_l1 F x0 x1 m (w64 (y1 + 1))
  else
   some (.inr ())
def slices_IndexFunc__int (F:Nat) (x0:(List (List Int))) (x1:((List Int)→Option Bool)):Option Int :=
 ((slices_IndexFunc__int_l1 F x0 x1 F 0) >>= fun o=>match o with
  | .inl r=>some r
  | .inr () =>
   some (-1))
def slices_ContainsFunc__int (F:Nat) (x0:(List (List Int))) (x1:((List Int)→Option Bool)):Option Bool :=
 (slices_IndexFunc__int F x0 x1) >>= fun x3 =>
 some (decide (0≤x3))
def word_CheckLines (F:Nat) (x0:(Uno (List (Ar 2 Int)))) (x1:(List (List Int))):Option Int :=
 (word_CheckBook F (⟨x0.v⟩:(Uno (List (Ar 2 Int))))) >>= fun x3 =>
 if (!decide (x3=0))=true then
  some x3
 else
  if ((decide ((x1.length:Int)<2)) || (decide (4<(x1.length:Int))))=true then
   some 6
  else
   (slices_ContainsFunc__int F x1 (fun y=>word_CheckLines_1 y)) >>= fun x4 =>
   if x4=true then
    some 6
   else
    (slices_ContainsFunc__int F x1 (fun y=>word_CheckLines_2 F y)) >>= fun x5 =>
    if x5=true then
     some 2
    else
     some 0
def ref04_isWord (x0:Int):Option Bool :=
 some ((decide (1≤x0)) && (decide (x0≤100)))
def ref04_CheckBook_l1 (F:Nat) (x0:(Uno (List (Ar 2 Int)))):Nat→Int→Option (Sum Int (Unit))
 | 0,_=>none
 | m + 1,y1 =>
  if (decide (y1<(x0.v.length:Int)))=true then
   (((ix x0.v y1) >>= fun x5 =>
   (ix x5.l 0) >>= fun x6 =>
   (ref04_isWord x6) >>= fun x7 =>
   if (!x7)=true then
    some true
   else
    (ix x0.v y1) >>= fun x8 =>
    (ix x8.l 1) >>= fun x9 =>
    (ref04_isWord x9) >>= fun x10 =>
    some (!x10):Option (Bool)) >>= fun y2 =>
   if y2=true then
    some (.inl 2)
   else
    ref04_CheckBook_l1 F x0 m (w64 (y1 + 1)))
  else
   some (.inr ())
def ref04_CheckBook (F:Nat) (x0:(Uno (List (Ar 2 Int)))):Option Int :=
 if (decide (40<(x0.v.length:Int)))=true then
  some 6
 else
  ((ref04_CheckBook_l1 F x0 F 0) >>= fun o=>match o with
   | .inl r=>some r
   | .inr () =>
    some 0)
def ref04_CheckLines_l1 (F:Nat) (x1:(List (List Int))):Nat→Int→Option (Sum Int (Unit))
 | 0,_=>none
 | m + 1,y1 =>
  if (decide (y1<(x1.length:Int)))=true then
   (ix x1 y1) >>= fun x5 =>
   if (decide (8<(x5.length:Int)))=true then
    some (.inl 6)
   else
    ref04_CheckLines_l1 F x1 m (w64 (y1 + 1))
  else
   some (.inr ())
def ref04_CheckLines_l3 (F:Nat) (x1:(List (List Int))) (y2:Int):Nat→Int→Option (Sum Int (Unit))
 | 0,_=>none
 | m + 1,y3 =>
  (ix x1 y2) >>= fun x6 =>
  if (decide (y3<(x6.length:Int)))=true then
   (ix x1 y2) >>= fun x7 =>
   (ix x7 y3) >>= fun x8 =>
   (ref04_isWord x8) >>= fun x9 =>
   if (!x9)=true then
    some (.inl 2)
   else
    ref04_CheckLines_l3 F x1 y2 m (w64 (y3 + 1))
  else
   some (.inr ())
def ref04_CheckLines_l2 (F:Nat) (x1:(List (List Int))):Nat→Int→Option (Sum Int (Unit))
 | 0,_=>none
 | m + 1,y2 =>
  if (decide (y2<(x1.length:Int)))=true then
   ((ref04_CheckLines_l3 F x1 y2 F 0) >>= fun o=>match o with
    | .inl r=>some (.inl r)
    | .inr () =>
     ref04_CheckLines_l2 F x1 m (w64 (y2 + 1)))
  else
   some (.inr ())
def ref04_CheckLines (F:Nat) (x0:(Uno (List (Ar 2 Int)))) (x1:(List (List Int))):Option Int :=
 (ref04_CheckBook F (⟨x0.v⟩:(Uno (List (Ar 2 Int))))) >>= fun x3 =>
 if (!decide (x3=0))=true then
  (ref04_CheckBook F (⟨x0.v⟩:(Uno (List (Ar 2 Int))))) >>= fun x4 =>
  some x4
 else
  if ((decide ((x1.length:Int)<2)) || (decide (4<(x1.length:Int))))=true then
   some 6
  else
   ((ref04_CheckLines_l1 F x1 F 0) >>= fun o=>match o with
    | .inl r=>some r
    | .inr () =>
     ((ref04_CheckLines_l2 F x1 F 0) >>= fun o=>match o with
      | .inl r=>some r
      | .inr () =>
       some 0))
def ref04_Classes_l1 (F:Nat):Nat→(List Int)→Int→Option ((List Int))
 | 0,_,_=>none
 | m + 1,y1,y2 =>
  if (decide (y2≤100))=true then
   (app 8 y1 ([y2]:List Int)) >>= fun x2 =>
   ref04_Classes_l1 F m x2 (w64 (y2 + 1))
  else
   some y1
def ref04_Classes_l3 (F:Nat) (x0:(Uno (List (Ar 2 Int)))):Nat→(List Int)→Int→Option ((List Int))
 | 0,_,_=>none
 | m + 1,y5,y6 =>
  if (decide (y6<(x0.v.length:Int)))=true then
   (ix x0.v y6) >>= fun x3 =>
   (ix x3.l 0) >>= fun x4 =>
   (ix x0.v y6) >>= fun x5 =>
   (ix x5.l 1) >>= fun x6 =>
   (ix y5 x4) >>= fun x7 =>
   (ix y5 x6) >>= fun x8 =>
   (ix y5 x4) >>= fun x9 =>
   (ix (rset y5 x4 (if x8<x7 then x8 else x7)) x6) >>= fun x10 =>
   ref04_Classes_l3 F x0 m (rset (rset y5 x4 (if x8<x7 then x8 else x7)) x6 (if x8<x7 then x8 else x7)) (w64 (y6 + 1))
  else
   some y5
def ref04_Classes_l2 (F:Nat) (x0:(Uno (List (Ar 2 Int)))):Nat→(List Int)→Int→Option ((List Int))
 | 0,_,_=>none
 | m + 1,y3,y4 =>
  if (decide (y4<(x0.v.length:Int)))=true then
   ((ref04_Classes_l3 F x0 F y3 0) >>= fun z3 =>
   ref04_Classes_l2 F x0 m z3 (w64 (y4 + 1)))
  else
   some y3
def ref04_Classes (F:Nat) (x0:(Uno (List (Ar 2 Int)))):Option (List Int) :=
 ((ref04_Classes_l1 F F ([]) 0) >>= fun z1 =>
 ((ref04_Classes_l2 F x0 F z1 0) >>= fun z2 =>
 some z2))
def ref04_All_l3 (F:Nat) (x1:(List (List Int))) (x3:(List Int)) (y1:(List (List Int))) (y2:Int) (y4:Int):Nat→(List (List Int))→Int→Option ((List (List Int)))
 | 0,_,_=>none
 | m + 1,y5,y6 =>
  (ix x1 y2) >>= fun x4 =>
  if (decide (y6<(x4.length:Int)))=true then
   ((((if (decide (y2=0))=true then
    some true
   else
    (ix x1 y2) >>= fun x5 =>
    (ix x5 y6) >>= fun x6 =>
    (ix x3 x6) >>= fun x7 =>
    (ix x1 0) >>= fun x8 =>
    (ix y1 y4) >>= fun x9 =>
    (ix x9 0) >>= fun x10 =>
    (ix x8 x10) >>= fun x11 =>
    (ix x3 x11) >>= fun x12 =>
    some (decide (x7=x12)):Option (Bool)) >>= fun y8 =>
   ((if y8=true then
    (ix y1 y4) >>= fun x13 =>
    (app 8 ([]:List Int) x13) >>= fun x14 =>
    (app 8 x14 ([y6]:List Int)) >>= fun x15 =>
    (app 24 y5 ([x15]:List (List Int))) >>= fun x16 =>
    some x16
   else
    some y5:Option ((List (List Int)))) >>= fun y9 =>
   some y9)):Option ((List (List Int)))) >>= fun y7 =>
   ref04_All_l3 F x1 x3 y1 y2 y4 m y7 (w64 (y6 + 1)))
  else
   some y5
def ref04_All_l2 (F:Nat) (x1:(List (List Int))) (x3:(List Int)) (y1:(List (List Int))) (y2:Int):Nat→(List (List Int))→Int→Option ((List (List Int)))
 | 0,_,_=>none
 | m + 1,y3,y4 =>
  if (decide (y4<(y1.length:Int)))=true then
   ((ref04_All_l3 F x1 x3 y1 y2 y4 F y3 0) >>= fun z3 =>
   ref04_All_l2 F x1 x3 y1 y2 m z3 (w64 (y4 + 1)))
  else
   some y3
def ref04_All_l1 (F:Nat) (x1:(List (List Int))) (x3:(List Int)):Nat→(List (List Int))→Int→Option ((List (List Int)))
 | 0,_,_=>none
 | m + 1,y1,y2 =>
  if (decide (y2<(x1.length:Int)))=true then
   ((ref04_All_l2 F x1 x3 y1 y2 F ([]) 0) >>= fun z2 =>
   ref04_All_l1 F x1 x3 m z2 (w64 (y2 + 1)))
  else
   some y1
def ref04_All (F:Nat) (x0:(Uno (List (Ar 2 Int)))) (x1:(List (List Int))):Option (List (List Int)) :=
 (ref04_Classes F (⟨x0.v⟩:(Uno (List (Ar 2 Int))))) >>= fun x3 =>
 ((ref04_All_l1 F x1 x3 F ([([]:List Int)]:List (List Int)) 0) >>= fun z1 =>
 some z1)
def ref04_Before_l1 (F:Nat) (x0:(List Int)) (x1:(List Int)):Nat→Int→Option (Sum Bool (Unit))
 | 0,_=>none
 | m + 1,y1 =>
  if (decide (y1<(x0.length:Int)))=true then
   (ix x0 y1) >>= fun x3 =>
   (ix x1 y1) >>= fun x4 =>
   if (decide (x4≤x3))=true then
    some (.inl false)
   else
    ref04_Before_l1 F x0 x1 m (w64 (y1 + 1))
  else
   some (.inr ())
def ref04_Before (F:Nat) (x0:(List Int)) (x1:(List Int)):Option Bool :=
 ((ref04_Before_l1 F x0 x1 F 0) >>= fun o=>match o with
  | .inl r=>some r
  | .inr () =>
   some true)
def top_lines05_l1 (F:Nat) (x1:(List (List Int))):Nat→Int→Option (Sum Bool (Unit))
 | 0,_=>none
 | m + 1,y1 =>
  if (decide (y1<(x1.length:Int)))=true then
   (ix x1 y1) >>= fun x4 =>
   if (decide (20<(x4.length:Int)))=true then
    some (.inl false)
   else
    top_lines05_l1 F x1 m (w64 (y1 + 1))
  else
   some (.inr ())
def top_lines05 (F:Nat) (x0:(Uno (List (Ar 2 Int)))) (x1:(List (List Int))) (x2:Int):Option Bool :=
 if ((decide (60<(x0.v.length:Int))) || (decide (x2<(x1.length:Int))))=true then
  some false
 else
  ((top_lines05_l1 F x1 F 0) >>= fun o=>match o with
   | .inl r=>some r
   | .inr () =>
    (ref04_CheckLines F (⟨x0.v⟩:(Uno (List (Ar 2 Int)))) x1) >>= fun x5 =>
    some (decide (x5=0)))
def word_greatest__int (x0:Int) (x1:Int):Option Int :=
 if (decide (x1<x0))=true then
  some x0
 else
  some x1
def word_song_told_l1 (F:Nat) (x0:((Ob ((Uno (List (Ar 2 Int)))×(Ar 101 Int)))×(List (List Int))×(List (Ar 4 Int)))) (x1:(List (Ar 4 Int))):Nat→(List (List Int))→Int→Option ((List (List Int)))
 | 0,_,_=>none
 | m + 1,y1,y2 =>
  if (decide (y2<(x1.length:Int)))=true then
   (ix x1 y2) >>= fun x3 =>
   (mks 8 (x0.2.1.length:Int) (0)) >>= fun x4 =>
   (app 24 y1 ([(rcopy x4 x3.l)]:List (List Int))) >>= fun x5 =>
   word_song_told_l1 F x0 x1 m x5 (w64 (y2 + 1))
  else
   some y1
def word_song_told (F:Nat) (x0:((Ob ((Uno (List (Ar 2 Int)))×(Ar 101 Int)))×(List (List Int))×(List (Ar 4 Int)))) (x1:(List (Ar 4 Int))):Option (List (List Int)) :=
 ((word_song_told_l1 F x0 x1 F ([]) 0) >>= fun z1 =>
 some z1)
def word_song_before_l1 (F:Nat) (x0:((Ob ((Uno (List (Ar 2 Int)))×(Ar 101 Int)))×(List (List Int))×(List (Ar 4 Int)))) (x1:(Ar 4 Int)) (x2:(Ar 4 Int)):Nat→Int→Option (Sum Bool (Unit))
 | 0,_=>none
 | m + 1,y1 =>
  if (decide (y1<(x0.2.1.length:Int)))=true then
   (ix x1.l y1) >>= fun x4 =>
   (ix x2.l y1) >>= fun x5 =>
   if (decide (x5≤x4))=true then
    some (.inl false)
   else
    word_song_before_l1 F x0 x1 x2 m (w64 (y1 + 1))
  else
   some (.inr ())
def word_song_before (F:Nat) (x0:((Ob ((Uno (List (Ar 2 Int)))×(Ar 101 Int)))×(List (List Int))×(List (Ar 4 Int)))) (x1:(Ar 4 Int)) (x2:(Ar 4 Int)):Option Bool :=
 ((word_song_before_l1 F x0 x1 x2 F 0) >>= fun o=>match o with
  | .inl r=>some r
  | .inr () =>
   some true)
def word_dictionary_alike (x0:((Uno (List (Ar 2 Int)))×(Ar 101 Int))) (x1:Int) (x2:Int):Option Bool :=
 (ix x0.2.l x1) >>= fun x4 =>
 (ix x0.2.l x2) >>= fun x5 =>
 some (decide (x4=x5))
def word_song_matched_l1 (F:Nat) (x0:((Ob ((Uno (List (Ar 2 Int)))×(Ar 101 Int)))×(List (List Int))×(List (Ar 4 Int)))) (x1:(Ar 4 Int)):Nat→Int→Option (Sum Bool (Unit))
 | 0,_=>none
 | m + 1,y1 =>
  if (decide (y1<(x0.2.1.length:Int)))=true then
   (ix x0.2.1 y1) >>= fun x3 =>
   (ix x1.l y1) >>= fun x4 =>
   (ix x3 x4) >>= fun x5 =>
   (ix x0.2.1 0) >>= fun x6 =>
   (ix x1.l 0) >>= fun x7 =>
   (ix x6 x7) >>= fun x8 =>
   (x0.1.v) >>= fun x9 =>
   (word_dictionary_alike ((⟨x9.1.v⟩:(Uno (List (Ar 2 Int)))),x9.2) x5 x8) >>= fun x10 =>
   if (!x10)=true then
    some (.inl false)
   else
    word_song_matched_l1 F x0 x1 m (w64 (y1 + 1))
  else
   some (.inr ())
def word_song_matched (F:Nat) (x0:((Ob ((Uno (List (Ar 2 Int)))×(Ar 101 Int)))×(List (List Int))×(List (Ar 4 Int)))) (x1:(Ar 4 Int)):Option Bool :=
 ((word_song_matched_l1 F x0 x1 F 0) >>= fun o=>match o with
  | .inl r=>some r
  | .inr () =>
   some true)
end Go.Proofs.YtfmelbioccbdoaaGreat
end
section
namespace Go.Proofs.YtfmelbioccbdoaaGreat
open Go Go.Md Go.RowKit
instance:Key (Int×Int):=⟨fun k=>(Lit.int .i64 k.1).wf && (Lit.int .i64 k.2).wf⟩
theorem laid_out:laidOutB Tryz.prog=true:=by kernel_rfl
theorem cells3:Tryz.prog.cellsOf 3=1:=by kernel_rfl
theorem lit_of3 {d:Nat} (hd:0<d) {a:Int} (h:(Lit.int .i64 a).wf=true):Tryz.prog.keyLits d 3 [.int .i64 a]=some [.int .i64 a]:=by
 obtain ⟨d,rfl⟩:∃ e,d=e + 1:=⟨d - 1,by omega⟩
 unfold Program.keyLits
 rw [Tryz.underlying3]
 simp [h]
end Go.Proofs.YtfmelbioccbdoaaGreat
end
section
namespace Go.Proofs.YtfmelbioccbdoaaGreat
open Go Go.Md Go.RowKit
instance:Key (Ar 4 Int):=⟨fun k=>k.l.all fun n=>(Lit.int .i64 n).wf⟩
theorem row223:(223:TypeId)<Tryz.prog.types.size:=of_decide_eq_true (by kernel_rfl)
theorem cells223:Tryz.prog.cellsOf 223=4:=by kernel_rfl
theorem keyt223:Tryz.prog.keyType 223=true:=by kernel_rfl
theorem keyat223:Tryz.prog.keyTypeAt 2 223=true:=by kernel_rfl
theorem arr4 (x:Ar 4 Int):∃ a b c d,x=⟨[a,b,c,d],rfl⟩:=by
 obtain ⟨l,h⟩:=x
 match l,h with
 | [a,b,c,d],_=>exact ⟨a,b,c,d,rfl⟩
theorem kt223:KT Tryz.prog 223 (Ar 4 Int) where
 kd:=Maps.Keyed.of_law (by refine deep_law_laid laid_out (m:=2) (by omega) row223 keyat223 ?_; rw [Tryz.underlying223])
 of:=by
  intro x h
  obtain ⟨a,b,c,d,rfl⟩:=arr4 x
  have h':(((Lit.int .i64 a).wf=true∧(Lit.int .i64 b).wf=true)∧(Lit.int .i64 c).wf=true)∧(Lit.int .i64 d).wf=true:=by simpa [Key.ok,and_assoc] using h
  obtain ⟨⟨⟨ha,hb⟩,hc⟩,hd⟩:=h'
  have hv:fv ((⟨[a,b,c,d],rfl⟩:Ar 4 Int))=.agg #[.int .i64 a,.int .i64 b,.int .i64 c,.int .i64 d]:=rfl
  have hp:0<462:=by decide
  refine ⟨.string (keyBytes [.int .i64 a,.int .i64 b,.int .i64 c,.int .i64 d]),?_⟩
  rw [hv,keyOf,Tryz.underlying223]
  simp only [keyt223,Value.formed,Tryz.underlying223,cells223]
  unfold Program.keyLits
  rw [Tryz.underlying223]
  simp [Value.cells,cells223,cells3]
  refine ⟨[[.int .i64 a],[.int .i64 b],[.int .i64 c],[.int .i64 d]],?_,rfl⟩
  rw [show List.range 4=[0,1,2,3] from rfl]
  simp [List.mapM_cons,lit_of3 hp ha,lit_of3 hp hb,lit_of3 hp hc,lit_of3 hp hd]
 inj:=fun x y e=>by
  obtain ⟨a,b,c,d,rfl⟩:=arr4 x
  obtain ⟨a',b',c',d',rfl⟩:=arr4 y
  have:(Value.agg #[.int .i64 a,.int .i64 b,.int .i64 c,.int .i64 d])=.agg #[.int .i64 a',.int .i64 b',.int .i64 c',.int .i64 d']:=e
  simp at this
  obtain ⟨h1,h2,h3,h4⟩:=this
  subst h1 h2 h3 h4
  rfl
end Go.Proofs.YtfmelbioccbdoaaGreat
end
section
namespace Go.Proofs.YtfmelbioccbdoaaGreat
open Go Go.Md Go.RowKit
def word_song_within_l1 (F:Nat) (x0:((Ob ((Uno (List (Ar 2 Int)))×(Ar 101 Int)))×(List (List Int))×(List (Ar 4 Int)))) (x1:(Ar 4 Int)) (x2:(List ((Ar 4 Int)×Int))):Nat→Int→(Ar 4 Int)→Option (Sum (Int×(List ((Ar 4 Int)×Int))) ((Ar 4 Int)))
 | 0,_,_=>none
 | m + 1,y1,y2 =>
  if (decide (y1<(x0.2.1.length:Int)))=true then
   (ix x1.l y1) >>= fun x5 =>
   if (decide (x5=0))=true then
    some (.inl (0,x2))
   else
    (ix y2.l y1) >>= fun x6 =>
    (ix y2.l y1) >>= fun x7 =>
    word_song_within_l1 F x0 x1 x2 m (w64 (y1 + 1)) (aset y2 y1 (w64 (x6 - 1)))
  else
   some (.inr y2)
def word_song_within_l2 (F:Nat) (rc:((Ob ((Uno (List (Ar 2 Int)))×(Ar 101 Int)))×(List (List Int))×(List (Ar 4 Int)))→(Ar 4 Int)→(List ((Ar 4 Int)×Int))→Option (Int×(List ((Ar 4 Int)×Int)))) (x0:((Ob ((Uno (List (Ar 2 Int)))×(Ar 101 Int)))×(List (List Int))×(List (Ar 4 Int)))) (x1:(Ar 4 Int)):Nat→Int→Int→(List ((Ar 4 Int)×Int))→Option (Int×(List ((Ar 4 Int)×Int)))
 | 0,_,_,_=>none
 | m + 1,y5,y6,y7 =>
  if (decide (y6<(x0.2.1.length:Int)))=true then
   (ix x1.l y6) >>= fun x10 =>
   (ix x1.l y6) >>= fun x11 =>
   (rc (x0.1,x0.2.1,x0.2.2) (aset x1 y6 (w64 (x10 - 1))) y7) >>= fun x12 =>
   (word_greatest__int y5 x12.1) >>= fun x13 =>
   word_song_within_l2 F rc x0 x1 m x13 (w64 (y6 + 1)) x12.2
  else
   some (y5,y7)
def word_song_within_r (F:Nat):Nat→((Ob ((Uno (List (Ar 2 Int)))×(Ar 101 Int)))×(List (List Int))×(List (Ar 4 Int)))→(Ar 4 Int)→(List ((Ar 4 Int)×Int))→Option (Int×(List ((Ar 4 Int)×Int)))
 | 0,_,_,_=>none
 | mr + 1,x0,x1,x2 =>
  if (decide (x1=(Ar.fill 4 0:(Ar 4 Int))))=true then
   some (0,x2)
  else
   (kok x1) >>= fun x4 =>
   if (mhas x2 x1)=true then
    some ((mget 0 x2 x1),x2)
   else
    ((word_song_within_l1 F x0 x1 x2 F 0 x1) >>= fun o=>match o with
     | .inl r=>some r
     | .inr z1 =>
      (word_song_matched F (x0.1,x0.2.1,x0.2.2) z1) >>= fun x8 =>
      ((if x8=true then
       (word_song_within_r F mr (x0.1,x0.2.1,x0.2.2) z1 x2) >>= fun x9 =>
       some (w64 (1 + x9.1),x9.2)
      else
       ((word_song_within_l2 F (word_song_within_r F mr) x0 x1 F 0 0 x2) >>= fun (z2,z3) =>
       some (z2,z3)):Option (Int×(List ((Ar 4 Int)×Int)))) >>= fun (y3,y4) =>
      (kok x1) >>= fun x14 =>
      some (y3,(mput y4 x1 y3))))
def word_song_within (F:Nat) (x0:((Ob ((Uno (List (Ar 2 Int)))×(Ar 101 Int)))×(List (List Int))×(List (Ar 4 Int)))) (x1:(Ar 4 Int)) (x2:(List ((Ar 4 Int)×Int))):Option (Int×(List ((Ar 4 Int)×Int))):=word_song_within_r F F x0 x1 x2
def word_song_levels_l1 (F:Nat) (x0:((Ob ((Uno (List (Ar 2 Int)))×(Ar 101 Int)))×(List (List Int))×(List (Ar 4 Int)))):Nat→(List Int)→Int→(List ((Ar 4 Int)×Int))→Option ((List Int)×(List ((Ar 4 Int)×Int)))
 | 0,_,_,_=>none
 | m + 1,y1,y2,y3 =>
  if (decide (y2<(x0.2.2.length:Int)))=true then
   (ix x0.2.2 y2) >>= fun x2 =>
   (word_song_within F (x0.1,x0.2.1,x0.2.2) x2 y3) >>= fun x3 =>
   (app 8 y1 ([w64 (1 + x3.1)]:List Int)) >>= fun x4 =>
   word_song_levels_l1 F x0 m x4 (w64 (y2 + 1)) x3.2
  else
   some (y1,y3)
def word_song_levels (F:Nat) (x0:((Ob ((Uno (List (Ar 2 Int)))×(Ar 101 Int)))×(List (List Int))×(List (Ar 4 Int)))):Option (List Int) :=
 ((word_song_levels_l1 F x0 F ([]) 0 ([]:(List ((Ar 4 Int)×Int)))) >>= fun (z1,z2) =>
 some z1)
def word_song_ways_l1 (F:Nat) (x2:(List Int)):Nat→Int→Int→Option (Int)
 | 0,_,_=>none
 | m + 1,y1,y2 =>
  if (decide (y2<(x2.length:Int)))=true then
   (ix x2 y2) >>= fun x3 =>
   (word_greatest__int y1 x3) >>= fun x4 =>
   word_song_ways_l1 F x2 m x4 (w64 (y2 + 1))
  else
   some y1
def word_song_ways_l3 (F:Nat) (x0:((Ob ((Uno (List (Ar 2 Int)))×(Ar 101 Int)))×(List (List Int))×(List (Ar 4 Int)))) (x2:(List Int)) (x6:(Ar 4 Int)) (x9:(List (Ar 4 Int))) (y4:Int):Nat→(List (Int×Int))→Int→Option ((List (Int×Int)))
 | 0,_,_=>none
 | m + 1,y6,y7 =>
  if (decide (y7<(x9.length:Int)))=true then
   (((ix x9 y7) >>= fun x10 =>
   (ix x2 y7) >>= fun x11 =>
   (ix x2 y4) >>= fun x12 =>
   (gd (decide ((w64 (x11 + 1))=x12)) (word_song_before F (x0.1,x0.2.1,x0.2.2) x10 x6) false) >>= fun x13 =>
   ((if ((decide ((w64 (x11 + 1))=x12)) && x13)=true then
    (ix y6 y4) >>= fun x14 =>
    (ix y6 y7) >>= fun x15 =>
    (ix y6 y4) >>= fun x16 =>
    some (rset y6 y4 (w64 (x14.1 + x15.1),x16.2))
   else
    some y6:Option ((List (Int×Int)))) >>= fun y9 =>
   some y9):Option ((List (Int×Int)))) >>= fun y8 =>
   word_song_ways_l3 F x0 x2 x6 x9 y4 m y8 (w64 (y7 + 1)))
  else
   some y6
def word_song_ways_l2 (F:Nat) (x0:((Ob ((Uno (List (Ar 2 Int)))×(Ar 101 Int)))×(List (List Int))×(List (Ar 4 Int)))) (x2:(List Int)):Nat→(List (Int×Int))→Int→Option ((List (Int×Int)))
 | 0,_,_=>none
 | m + 1,y3,y4 =>
  if (decide (y4<(x0.2.2.length:Int)))=true then
   (ix x0.2.2 y4) >>= fun x6 =>
   (ix x2 y4) >>= fun x7 =>
   ((if (decide (x7=1))=true then
    (ix y3 y4) >>= fun x8 =>
    some (rset y3 y4 (1,x8.2))
   else
    some y3:Option ((List (Int×Int)))) >>= fun y5 =>
   (stake x0.2.2 y4) >>= fun x9 =>
   ((word_song_ways_l3 F x0 x2 x6 x9 y4 F y5 0) >>= fun z3 =>
   word_song_ways_l2 F x0 x2 m z3 (w64 (y4 + 1))))
  else
   some y3
def word_song_ways_l5 (F:Nat) (x0:((Ob ((Uno (List (Ar 2 Int)))×(Ar 101 Int)))×(List (List Int))×(List (Ar 4 Int)))) (x2:(List Int)) (y11:Int):Nat→(List (Int×Int))→Int→Option ((List (Int×Int)))
 | 0,_,_=>none
 | m + 1,y13,y14 =>
  if (decide (y14<(x0.2.2.length:Int)))=true then
   (((((ix y13 y14) >>= fun x21 =>
   (ix y13 y14) >>= fun x22 =>
   if (!decide ((x21.1,x21.2)=(x22.1,0)))=true then
    (ix x2 y11) >>= fun x23 =>
    (ix x2 y14) >>= fun x24 =>
    if (decide ((w64 (x23 + 1))=x24))=true then
     (ix x0.2.2 y11) >>= fun x25 =>
     (ix x0.2.2 y14) >>= fun x26 =>
     (word_song_before F (x0.1,x0.2.1,x0.2.2) x25 x26) >>= fun x27 =>
     some x27
    else
     some false
   else
    if false=true then
     (ix x0.2.2 y11) >>= fun x28 =>
     (ix x0.2.2 y14) >>= fun x29 =>
     (word_song_before F (x0.1,x0.2.1,x0.2.2) x28 x29) >>= fun x30 =>
     some x30
    else
     some false:Option (Bool)) >>= fun y16 =>
   ((if y16=true then
    (ix y13 y11) >>= fun x31 =>
    (ix y13 y14) >>= fun x32 =>
    (ix y13 y11) >>= fun x33 =>
    some (rset y13 y11 (x33.1,w64 (x31.2 + x32.2)))
   else
    some y13:Option ((List (Int×Int)))) >>= fun y17 =>
   some y17)):Option ((List (Int×Int)))) >>= fun y15 =>
   word_song_ways_l5 F x0 x2 y11 m y15 (w64 (y14 + 1)))
  else
   some y13
def word_song_ways_l4 (F:Nat) (x0:((Ob ((Uno (List (Ar 2 Int)))×(Ar 101 Int)))×(List (List Int))×(List (Ar 4 Int)))) (x2:(List Int)) (z1:Int):Nat→(List (Int×Int))→Int→Option ((List (Int×Int)))
 | 0,_,_=>none
 | m + 1,y10,y11 =>
  if (decide (0≤y11))=true then
   (ix x2 y11) >>= fun x17 =>
   ((if (decide (x17=z1))=true then
    (ix y10 y11) >>= fun x18 =>
    some (rset y10 y11 (x18.1,1))
   else
    some y10:Option ((List (Int×Int)))) >>= fun y12 =>
   ((word_song_ways_l5 F x0 x2 y11 F y12 (w64 (y11 + 1))) >>= fun z5 =>
   word_song_ways_l4 F x0 x2 z1 m z5 (w64 (y11 - 1))))
  else
   some y10
def word_song_ways (F:Nat) (x0:((Ob ((Uno (List (Ar 2 Int)))×(Ar 101 Int)))×(List (List Int))×(List (Ar 4 Int)))):Option (List (Int×Int)) :=
 (word_song_levels F (x0.1,x0.2.1,x0.2.2)) >>= fun x2 =>
 ((word_song_ways_l1 F x2 F 0 0) >>= fun z1 =>
 (mks 16 (x0.2.2.length:Int) ((0,0))) >>= fun x5 =>
 ((word_song_ways_l2 F x0 x2 F x5 0) >>= fun z2 =>
 ((word_song_ways_l4 F x0 x2 z1 F z2 (w64 ((x0.2.2.length:Int) - 1))) >>= fun z4 =>
 some z4)))
def word_song_longest_l1 (F:Nat) (x0:((Ob ((Uno (List (Ar 2 Int)))×(Ar 101 Int)))×(List (List Int))×(List (Ar 4 Int)))) (x2:(List (Int×Int))) (x3:(List Int)):Nat→(List (Ar 4 Int))→Int→Option ((List (Ar 4 Int)))
 | 0,_,_=>none
 | m + 1,y1,y2 =>
  if (decide (y2<(x0.2.2.length:Int)))=true then
   (((ix x0.2.2 y2) >>= fun x4 =>
   (((ix x2 y2) >>= fun x6 =>
   if (decide (0<x6.2))=true then
    (ix x3 y2) >>= fun x7 =>
    if (decide (x7=(w64 ((y1.length:Int) + 1))))=true then
     if (decide ((y1.length:Int)=0))=true then
      some true
     else
      (ix y1 (w64 ((y1.length:Int) - 1))) >>= fun x8 =>
      (word_song_before F (x0.1,x0.2.1,x0.2.2) x8 x4) >>= fun x9 =>
      some x9
    else
     some false
   else
    if false=true then
     if (decide ((y1.length:Int)=0))=true then
      some true
     else
      (ix y1 (w64 ((y1.length:Int) - 1))) >>= fun x10 =>
      (word_song_before F (x0.1,x0.2.1,x0.2.2) x10 x4) >>= fun x11 =>
      some x11
    else
     some false:Option (Bool)) >>= fun y4 =>
   ((if y4=true then
    (app 32 y1 ([x4]:List (Ar 4 Int))) >>= fun x12 =>
    some x12
   else
    some y1:Option ((List (Ar 4 Int)))) >>= fun y5 =>
   some y5)):Option ((List (Ar 4 Int)))) >>= fun y3 =>
   word_song_longest_l1 F x0 x2 x3 m y3 (w64 (y2 + 1)))
  else
   some y1
def word_song_longest (F:Nat) (x0:((Ob ((Uno (List (Ar 2 Int)))×(Ar 101 Int)))×(List (List Int))×(List (Ar 4 Int)))):Option (List (Ar 4 Int)) :=
 (word_song_ways F (x0.1,x0.2.1,x0.2.2)) >>= fun x2 =>
 (word_song_levels F (x0.1,x0.2.1,x0.2.2)) >>= fun x3 =>
 ((word_song_longest_l1 F x0 x2 x3 F ([]) 0) >>= fun z1 =>
 some z1)
end Go.Proofs.YtfmelbioccbdoaaGreat
end
