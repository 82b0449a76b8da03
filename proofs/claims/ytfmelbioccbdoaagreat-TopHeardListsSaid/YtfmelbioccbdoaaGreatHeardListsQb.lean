/-
  Part 2 of 12 of what the last text stands on: lemmas about the model, pure functions, walks, laws in plain Lean; each part's own head says its condition. Merged by a program of our own.
-/
import Derived.Test.YtfmelbioccbdoaaGreatHeardListsQa
import Derived.Scope
import Derived.OrdersIn
import Derived.Shelf.Small.Bits
import Derived.Shelf.Small.Wraps
import Derived.Shelf.Strconv.Itoa0
import Derived.Shelf.Sort.Plain
import Derived.Shelf.Slices.Turned
import Derived.Shelf.Slices.Reverse
import Derived.Ground.Names2Prog
import Derived.Shelf.Slices.Clone
import Derived.Shelf.Slices.SearchI
import Derived.Shelf.Slices.Cells
import Derived.Shelf.Slices.In.SortNone
import Derived.Ground.SlgnProg
import Derived.Shelf.SlicesG.Reverse
import Derived.Shelf.SlicesG.CompactI
import Derived.Shelf.SlicesG.Cells
import Derived.Shelf.SlicesE.Reverse
import Derived.Shelf.SlicesE.Clone
import Derived.Test.YtfmelbioccbdoaaGreatProg
import Derived.Sort.OwnSortedInts
import Derived.IntWalk
import Derived.DeepKeys4
set_option maxHeartbeats 0
set_option linter.all false
section
namespace Go.Md
open Go Go.RowKit
structure Cl(n:Nat)where
 l:List Value
 h:l.length=n
 one:∀c∈l,c.oneCell'=true
instance {n:Nat}:Enc (Cl n)where
 agg:=true
 n:=n
 rep _ _ cs x:=cs=x.l
 len {_ _ _ x} h:=by subst h;exact x.h
 one {_ _ _ x} h:=by subst h;exact x.one
 sgl h:=by cases h
 keep _ _ h:=h
 mono _ h:=h
instance {n:Nat}:Flat (Cl n):=⟨fun x=>x.l,Iff.rfl⟩
def Okd(lo base:Nat)(v:Value)(b:Nat):Prop:=(b<lo\/base<=b)/\some b≠v.ownBlock
def DRow{α:Type}[Enc α](lo:Nat)(e:TypeId)(base:Nat)(w:World)(v:Value)(l:List α):Prop:=
 ∃S:List (Cl (Enc.n α)),Row (α:=Cl (Enc.n α)) e base w v S/\S.length=l.length/\∀(i:Nat)(s:Cl (Enc.n α))(x:α),S[i]?=some s->l[i]?=some x->Enc.rep (Okd lo base v) w s.l x
def ElsD{α:Type}[Enc α](ok:Nat->Prop)(w:World)(a:Option Addr)(k:List α):Prop:=
 k=[]\/∃b off,a=some ⟨b,off,none⟩/\∀(i:Nat)(x:α),k[i]?=some x->∃cs,Enc.rep ok w cs x/\Cs w b (off+i*Enc.n α) cs
section
variable {α:Type}[Enc α]{lo base:Nat}{e:TypeId}{w w':World}{v v2:Value}{l k:List α}
theorem DRow.nil:DRow lo e base w (.slice none 0 0) ([]:List α):=⟨[],Row.nil,rfl,by simp⟩
theorem DRow.ext(h:DRow lo e base w v l)(k:Ext w w'):DRow lo e base w' v l:=by
 obtain⟨S,h1,h2,h3⟩:=h;exact⟨S,h1.ext k,h2,fun i s x a b=>Enc.keep (fun q _ hq=>k.block q hq) k.size (h3 i s x a b)⟩
theorem DRow.lt(h:DRow lo e base w v l):∀q,v.ownBlock=some q->base<=q/\q<w.heap.size:=by
 obtain⟨S,h1,_⟩:=h;exact fun q hq=>h1.lt q hq
theorem DRow.own_lt(h:DRow lo e base w v l):∀q,v.ownBlock=some q->q<w.heap.size:=fun q hq=>(h.lt q hq).2
theorem DRow.sl(h:DRow lo e base w v l):∃a cap,v=.slice a l.length cap:=by
 obtain⟨S,h1,h2,_⟩:=h;obtain⟨a,cap,e1,_⟩:=RV.sl h1.rv;exact⟨a,cap,by rw[e1,h2]⟩
theorem DRow.rv(h:DRow lo e base w v l):RV w v l:=by
 obtain⟨S,h1,h2,h3⟩:=h;obtain⟨a,cap,rfl,c1,c2,c3⟩:=RV.sl h1.rv;rw[h2];refine RV.of1 (by rw[<-h2];exact c1) c2 ?_;rcases c3 with rfl|⟨b,off,e1,hb,hlt,c3⟩
 ·left
  simp at h2;exact List.eq_nil_of_length_eq_zero h2.symm
 ·refine .inr ⟨b,off,e1,hb,hlt,fun i x hx=>?_⟩
  have hi:i<S.length:=by rw[h2];exact(List.getElem?_eq_some_iff.1 hx).1
  have hs:S[i]?=some S[i]:=List.getElem?_eq_getElem hi;obtain⟨cs,c4,c5⟩:=c3 i _ hs;have c4':cs=S[i].l:=c4;subst c4';exact⟨_,Enc.mono (fun _ _ _=>trivial) (h3 i _ x hs hx),c5⟩
theorem DRow.bnd{B:Nat}(h:DRow lo e base w v l)(hB:B<=base):DRow lo e B w v l:=by
 obtain⟨S,h1,h2,h3⟩:=h;refine⟨S,h1.bnd hB,h2,fun i s x a b=>Enc.mono (fun q _ hq=>⟨?_,hq.2⟩) (h3 i s x a b)⟩;have:=hq.1;omega
theorem Row.rvob{β:Type}[Enc β][Flat β]{e':TypeId}{br:Nat}{c:Value}{y:List β}(h:Row e' br w c y):RVo (fun b=>br<=b) w c y:=h.rvo
theorem RVo.okn{β:Type}[Enc β]{wr:World}{c:Value}{y:β}(h:RVo (fun b=>wr.heap.size<=b) w c y)(hb:base<=wr.heap.size)(hv:∀q,v.ownBlock=some q->q<wr.heap.size):RVo (Okd lo base v) w c y:=
 h.mono fun b _ hq=>⟨.inr (by omega),fun e1=>by have:=hv b e1.symm;omega⟩
theorem RVo.rep1{β:Type}[Enc β]{ok:Nat->Prop}{c:Value}{y:List β}(h:RVo ok w c y):Enc.rep ok w [c] y:=by
 obtain⟨a,cap,rfl,h1,h2,h3⟩:=RVo.sl.1 h;exact⟨a,cap,rfl,h1,h2,h3⟩
theorem DRow.geo(h:DRow lo e base w v l)(hb:lo<=base):∀q,v.ownBlock=some q->lo<=q:=fun q hq=>by have:=(h.lt q hq).1;omega
theorem ElsD.lit1{ok:Nat->Prop}{b:Nat}{T:TypeId}{cs:List Value}{x:α}(hb:Bx w b T cs)(h:Enc.rep ok w cs x):ElsD ok w (some ⟨b,0,none⟩) [x]:=
 .inr ⟨b,0,rfl,fun i y hy=>by
  cases i with
  |zero=>
   simp only[List.getElem?_cons_zero,Option.some.injEq]at hy;subst hy;exact⟨cs,h,by simpa using hb.cs⟩
  |succ i=>simp at hy⟩
theorem ElsD.of{ok:Nat->Prop}{a:Option Addr}{cap:Nat}(h:RVo ok w (.slice a k.length cap) k):ElsD ok w a k:=by
 obtain⟨a',cap',e1,_,_,h3⟩:=RVo.sl.1 h;cases e1;rcases h3 with h3|⟨b,off,e1,_,_,h3⟩
 ·exact .inl h3
 ·exact .inr ⟨b,off,e1,h3⟩
theorem AMd{β γ:Type}{p:Nat->β->γ->Prop}:∀(k:List β)(o:Nat),(∀i x,k[i]?=some x->∃y,p (o+i) x y)->∃S:List γ,S.length=k.length/\∀i x y,k[i]?=some x->S[i]?=some y->p (o+i) x y
 |[],_,_=>⟨[],rfl,by simp⟩
 |b::k,o,h=>by
  obtain⟨y,hy⟩:=h 0 b rfl;obtain⟨S,h1,h2⟩:=AMd (p:=p) k (o+1) (fun i x hx=>by have:=h (i+1) x hx;rwa [show o+1+i=o+(i+1) by omega]);refine⟨y::S,by simp[h1],fun i x z hx hz=>?_⟩;cases i with
  |zero=>
   simp only[List.getElem?_cons_zero,Option.some.injEq]at hx hz;subst hx hz;exact hy
  |succ i=>
   simp only[List.getElem?_cons_succ]at hx hz;have:=h2 i x z hx hz;rwa [show o+1+i=o+(i+1) by omega]at this
end
section
variable {P:Program}{Q:Exit->Act->World->Prop}{n:Nat}{L:Fr}{D:List Deferred}{w:World}{ops:Array Oper}{rest:List Oper}
variable {ty:TypeId}{pos:String}{af:Array Edge}{x y:Operand}
variable {α:Type}[Enc α]
theorem ASU{d:Nat}{st e:TypeId}{agg:Bool}{bytes base lo:Nat}{z:List Value}{v:Value}{a:Option Addr}{cap:Nat}{l k r:List α}(hs:ev n L x=v)(hy:ev n L y=.slice a k.length cap)(ht:P.underlying st=some (.slice e))
  (he:TI P e agg (Enc.n α) bytes z) (hm:Nat.ble 1 (Enc.n α)=true) (hb1:Nat.ble 1 bytes=true) (hrow:DRow lo e base w v l) (hk:ElsD (Okd lo base v) w a k) (hr:app bytes l k=some r) (hbase:base<=w.heap.size)
  (cont:∀v' w',DRow lo e base w' v' r->Below base w w'->w.grownBy w' v.ownBlock->(v'.ownBlock=v.ownBlock\/∃g,v'.ownBlock=some g/\w.heap.size<=g)->wpList P ops Q rest (act n (upd L d v') D) w'):
  wpList P ops Q ({dst:=some d,op:=.call {callee:=.builtin .append,args:=#[x,y],argTypes:=#[st,st]},type:=ty,pos:=pos,after:=af,guard:=none}::rest) (act n L D) w:=by
 obtain⟨hb,rfl⟩:=AFm hr;obtain⟨S,h1,h2,h3⟩:=hrow;have hK:∃K:List (Cl (Enc.n α)),K.length=k.length/\Els (Cl (Enc.n α)) (fun _=>True) w a K/\∀(i:Nat)(s:Cl (Enc.n α))(x:α),K[i]?=some s->k[i]?=some x->Enc.rep (Okd lo base v) w s.l x:=by
  rcases hk with rfl|⟨b,off,rfl,hk⟩
  ·exact⟨[],rfl,.inl rfl,by simp⟩
  ·obtain⟨K,k1,k2⟩:=AMd (p:=fun i x(s:Cl (Enc.n α))=>Enc.rep (Okd lo base v) w s.l x/\Cs w b (off+i*Enc.n α) s.l) k 0 (fun i x hx=>by
    obtain⟨cs,c1,c2⟩:=hk i x hx;exact⟨⟨cs,Enc.len c1,Enc.one c1⟩,c1,by simpa using c2⟩)
   refine⟨K,k1,?_,fun i s x hs hx=>(k2 i x s hx hs).1⟩;by_cases h0:K=[]
   ·exact .inl h0
   ·have hm':0<Enc.n α:=Nat.le_of_ble_eq_true hm
    obtain⟨s0,hs0⟩:∃s,K[0]?=some s:=⟨K[0]'(List.length_pos_iff.2 h0),List.getElem?_eq_getElem _⟩;have hx0:∃x,k[0]?=some x:=⟨k[0]'(by rw[<-k1];exact List.length_pos_iff.2 h0),List.getElem?_eq_getElem _⟩;obtain⟨x0,hx0⟩:=hx0;have hc0:=(k2 0 x0 s0 hx0 hs0).2;have hl0:0<s0.l.length:=by rw[s0.h];exact hm'
    refine .inr ⟨b,off,rfl,trivial,World.block_lt_of_cell? w ⟨b,off+(0+0)*Enc.n α+0,none⟩ (hc0 0 s0.l[0] (List.getElem?_eq_getElem hl0)),fun i s hs=>⟨s.l,rfl,?_⟩⟩;have hi:i<k.length:=by rw[<-k1];exact(List.getElem?_eq_some_iff.1 hs).1
    have:=(k2 i _ s (List.getElem?_eq_getElem hi) hs).2;rw[Nat.zero_add]at this;exact this
 obtain⟨K,k1,k2,k3⟩:=hK;obtain⟨v',w',hrun,hrow',hg,ho⟩:=AId (α:=Cl (Enc.n α)) (ty:=ty) (cap:=cap) ht he (Nat.le_of_ble_eq_true hm) (Nat.le_of_ble_eq_true hb1) h1 k2 (by rw[h2,k1];exact hb) hbase;rw[k1]at hrun;refine Zv (v:=v') (w':=w') (by simp[execOp,resolve,invoke,Go.builtin,hs,hy,hrun]) (cont v' w' ⟨S++K,hrow',by simp[h2,k1],fun i s x a b=>?_⟩ ⟨hg.os,hg.tape,hg.output,hg.size,fun q hq=>hg.block q (by omega) (fun e2=>?_)⟩ hg ho)
 ·have hrep:Enc.rep (Okd lo base v) w s.l x:=by
   rw[List.getElem?_append]at a b;rw[<-h2]at b;split at a
   ·rename_i hi
    rw[if_pos hi]at b;exact h3 i s x a b
   ·rename_i hi
    rw[if_neg hi]at b;exact k3 _ s x a b
  have hrep':Enc.rep (fun q=>Okd lo base v q/\some q≠v'.ownBlock) w s.l x:=Enc.mono (fun q hq hok=>⟨hok,fun e1=>by
   rcases ho with h|⟨g,h,hgg⟩
   ·exact hok.2 (by rw[<-h];exact e1)
   ·rw[h]at e1
    cases e1;omega⟩) hrep
  have:=Enc.keep (w':=w') (fun q hok hq=>hg.block q hq hok.1.2) hg.size hrep';exact Enc.mono (fun q _ hok=>⟨hok.1.1,hok.2⟩) this
 ·have:=h1.lt q e2.symm
  omega
theorem DRow.gra{lo base:Nat}{e:TypeId}{w w':World}{v v2:Value}{l:List α}(h:DRow lo e base w v2 l)(g:w.grownBy w' v.ownBlock)(ha:Apart v v2)(h1:∀q,v.ownBlock=some q->lo<=q/\q<base):DRow lo e base w' v2 l:=by
 obtain⟨S,g1,g2,g3⟩:=h;refine⟨S,g1.gra g ha,g2,fun i s x a d=>Enc.keep (fun q hq hlt=>g.block q hlt fun e1=>?_) g.size (g3 i s x a d)⟩;have:=h1 q e1.symm;have:=hq.1;omega
end
end Go.Md
namespace Go.Md
open Go Go.RowKit
theorem Apart.old'{N:Nat}{v1 v2:Value}(h1:∀q,v1.ownBlock=some q->q<N)(h2:∀q,v2.ownBlock=some q->N<=q):Apart v1 v2:=fun q a b=>by
 have:=h1 q a;have:=h2 q b;omega
end Go.Md
namespace Go.Md
open Go Go.RowKit
end Go.Md
namespace Go
theorem World.grownBy.tr{w w1 w2:World}{row:Option Nat}(h:w.grownBy w1 row)(k:w1.grownBy w2 row):w.grownBy w2 row:=
 ⟨k.os.trans h.os,k.tape.trans h.tape,k.output.trans h.output,Nat.le_trans h.size k.size,fun q hq hn=>(k.block q (Nat.lt_of_lt_of_le hq h.size) hn).trans (h.block q hq hn)⟩
end Go
namespace Go.Md
open Go Go.RowKit
theorem Ext.gro{w w1:World}{row:Option Nat}(k:Ext w w1):w.grownBy w1 row:=⟨k.os,k.tape,k.output,k.size,fun q hq _=>k.block q hq⟩
theorem Cs.gro{w w':World}{b o:Nat}{cs:List Value}{row:Option Nat}(h:Cs w b o cs)(g:w.grownBy w' row)(ne:some b≠row):Cs w' b o cs:=fun j c hc=>by
 have h1:=h j c hc;have hlt:=World.block_lt_of_cell? w _ h1;exact(World.cell?_of_block (a:=⟨b,o+j,none⟩) (g.block b hlt ne)).trans h1
theorem AWJ{P:Program}{Q:Exit->Act->World->Prop}{n:Nat}{L:Fr}{D:List Deferred}{w:World}{row:Option Nat}{id:Nat}{l:List Oper}(T:List Nat)(p:Plan)(hm:P.follows .mixedOrders=true)
  (hok:(Region.noSelect l.toArray&&p.ok l.toArray T false l.length (Array.replicate l.length false))=true)
  (h:∀wd,Ext w wd->p.wp P l.toArray (fun w'=>wd.grownBy w' row) T (Q .normal) false (act n L D) wd):(Code.region id l.toArray true).wp P Q (act n L D) w:=
 ALn _ T p hm hok (h w.drew (Ext.drew w))
end Go.Md
namespace Go.Md
open Go Go.RowKit
section
variable {α:Type}[Enc α]{lo base b:Nat}{e:TypeId}{w:World}{v:Value}{l:List α}
theorem DRow.ne_new(h:DRow lo e base w v l)(hb:w.heap.size<=b):some b≠v.ownBlock:=fun e2=>by
 have:=h.lt b e2.symm;omega
theorem DRow.ne_old(h:DRow lo e base w v l)(hb:b<base):some b≠v.ownBlock:=fun e2=>by
 have:=h.lt b e2.symm;omega
end
end Go.Md
namespace Go.Md
open Go Go.RowKit
theorem Chg.gro{b:Nat}{w w':World}(k:Chg b w w'):w.grownBy w' (some b):=⟨k.os,k.tape,k.output,by rw[k.size];exact Nat.le_refl _,fun q _ hq=>k.other q fun e=>hq (by rw[e])⟩
end Go.Md
namespace Go.Md
open Go Go.RowKit
end Go.Md
end
section
namespace Go.Md
open Go Go.RowKit
section
def kok{κ:Type}[Enc κ][Flat κ][Key κ](k:κ):Option Unit:=if Key.ok k=true then some ()else none
theorem AA1{κ:Type}[Enc κ][Flat κ][Key κ]{k:κ}{u:Unit}(h:kok k=some u):Key.ok k=true:=by
 unfold kok at h;split at h
 ·assumption
 ·cases h
section
variable {κ ν:Type}[DecidableEq κ][Enc κ][Flat κ][Key κ][Enc ν][Flat ν]{P:Program}{w w':World}{b:Nat}{l:List (κ×ν)}
theorem TI.zv{α:Type}[Enc α][Flat α]{t:TypeId}{agg:Bool}{n bytes:Nat}{z:List Value}{d:α}(ht:TI P t agg n bytes z)(ha:agg=Enc.agg α)(hz:z=Flat.enc d)(w:World):(zeroValue t).run P w=.ok (fv d) w:=by
 obtain⟨v,h1,_,h3⟩:=ht.zero w;rw[h1,h3,ha,hz]
 rfl
omit [DecidableEq κ]in
theorem Row.ne_map{α:Type}[Enc α][Flat α]{e:TypeId}{base:Nat}{v:Value}{x:List α}(h:Row e base w v x)(hm:Mp w b l):some b≠v.ownBlock:=fun e1=>by
 obtain⟨o,h1,h2⟩:=h.cells e1.symm;obtain⟨es,c,h3,_⟩:=hm;rw[h3]at h1;cases h1;cases h2
theorem Mp.chgb{c:Nat}{T:TypeId}{cs:List Value}(h:Mp w b l)(k:Chg c w w')(hx:Bx w c T cs):Mp w' b l:=h.chg k (h.not_cells hx)
theorem Bx.chgm{c:Nat}{T:TypeId}{cs:List Value}(h:Bx w c T cs)(k:Chg b w w')(hm:Mp w b l):Bx w' c T cs:=h.chg k (Ne.symm (hm.not_cells h))
omit [DecidableEq κ]in
theorem Row.chgm{α:Type}[Enc α][Flat α]{e:TypeId}{base:Nat}{v:Value}{x:List α}(h:Row e base w v x)(k:Chg b w w')(hm:Mp w b l):Row e base w' v x:=h.chgn k (h.ne_map hm)
theorem Mp.grr{α:Type}[Enc α][Flat α]{e:TypeId}{base:Nat}{v:Value}{x:List α}(h:Mp w b l)(g:w.grownBy w' v.ownBlock)(r:Row e base w v x):Mp w' b l:=h.gr g (r.ne_map h)
end
end
section
structure MatG{α:Type}[Enc α][Flat α](e0 e1:TypeId)(base:Nat)(w:World)(v:Value)(S:List SV)(M:List (List α)):Prop where
 own:Row (α:=SV) e0 base w v S
 len:S.length=M.length
 row:∀(i:Nat)(s:SV)(r:List α),S[i]?=some s->M[i]?=some r->Row (α:=α) e1 base w s.val r
 dif:∀(i j:Nat)(s t:SV),i≠j->S[i]?=some s->S[j]?=some t->∀g,s.val.ownBlock=some g->t.val.ownBlock≠some g
 out:∀(i:Nat)(s:SV),S[i]?=some s->∀g,s.val.ownBlock=some g->v.ownBlock≠some g
def MatX{α:Type}[Enc α][Flat α](e0 e1:TypeId)(base:Nat)(w:World)(v:Value)(M:List (List α)):Prop:=∃S,MatG e0 e1 base w v S M
section
variable {α:Type}[Enc α][Flat α]{e0 e1:TypeId}{base:Nat}{w w':World}{v:Value}{M:List (List α)}
theorem MatX.nil:MatX e0 e1 base w (.slice none 0 0) ([]:List (List α)):=⟨[],Row.nil,rfl,by simp,by simp,by simp⟩
theorem MatX.ext(h:MatX e0 e1 base w v M)(k:Ext w w'):MatX e0 e1 base w' v M:=by
 obtain⟨S,h⟩:=h;exact⟨S,h.own.ext k,h.len,fun i s r h1 h2=>(h.row i s r h1 h2).ext k,h.dif,h.out⟩
theorem MatX.sl(h:MatX e0 e1 base w v M):∃a cap,v=.slice a M.length cap:=by
 obtain⟨S,h⟩:=h;obtain⟨a,cap,e,_⟩:=RV.sl h.own.rv;exact⟨a,cap,by rw[e,h.len]⟩
theorem MatX.rv(h:MatX e0 e1 base w v M):RV w v M:=by
 obtain⟨S,h⟩:=h;obtain⟨a,cap,rfl,h1,h2,h3⟩:=RV.sl h.own.rv;rw[h.len];refine RV.of1 (by rw[<-h.len];exact h1) h2 ?_;rcases h3 with rfl|⟨b,off,e,hb,hlt,h3⟩
 ·left
  have:=h.len;simp at this;exact List.eq_nil_of_length_eq_zero this.symm
 ·refine .inr ⟨b,off,e,hb,hlt,fun i r hr=>?_⟩
  have hi:i<S.length:=by rw[h.len];exact(List.getElem?_eq_some_iff.1 hr).1
  have hs:S[i]?=some S[i]:=List.getElem?_eq_getElem hi;obtain⟨cs,h4,h5⟩:=h3 i _ hs;have hrow:=h.row i _ r hs hr;refine⟨[S[i].val],RV.rep1 hrow.rv,?_⟩;have h4':cs=[S[i].val]:=h4;rw[<-h4'];exact h5
theorem MatG.snoc{S:List SV}{v':Value}{s:SV}{r:List α}{b2:Nat}(h:MatG e0 e1 base w v S M)(hr:Row (α:=α) e1 b2 w s.val r)(hb:base<=b2)(hnew:∀(i:Nat)(t:SV),S[i]?=some t->∀g,t.val.ownBlock=some g->g<b2)(hv:∀g,v.ownBlock=some g->g<b2)
  (g:w.grownBy w' v.ownBlock) (ho:Row (α:=SV) e0 base w' v' (S++[s])) (how:v'.ownBlock=v.ownBlock\/∃g,v'.ownBlock=some g/\w.heap.size<=g):MatG e0 e1 base w' v' (S++[s]) (M++[r]):=by
 have hsb:∀g,s.val.ownBlock=some g->b2<=g/\g<w.heap.size:=fun g hg=>hr.lt g hg;have hout:∀x:Value,(∀g,x.ownBlock=some g->g<w.heap.size/\v.ownBlock≠some g)->∀g,x.ownBlock=some g->v'.ownBlock≠some g:=fun x hx g hg=>by
  obtain⟨h1,h2⟩:=hx g hg;rcases how with h3|⟨q,h3,h4⟩
  ·rw[h3];exact h2
  ·rw[h3]
   intro e;cases e;omega
 refine⟨ho,by simp[h.len],fun i t q h1 h2=>?_,fun i j x y hij h1 h2 gg hg=>?_,fun i t h1=>?_⟩
 ·rw[List.getElem?_append]at h1 h2
  rw[<-h.len]at h2;split at h1
  ·rename_i hi
   rw[if_pos hi]at h2;have:=h.row i t q h1 h2;exact this.grn g fun p hp=>h.out i t h1 p hp
  ·rename_i hi
   rw[if_neg hi]at h2;have hi0:i-S.length=0:=by
    rcases Nat.eq_zero_or_pos (i-S.length)with h'|h'
    ·exact h'
    ·rw[List.getElem?_eq_none (by simp only[List.length_cons,List.length_nil];omega)]at h1;cases h1
   rw[hi0]at h1 h2;simp only[List.getElem?_cons_zero,Option.some.injEq]at h1 h2;subst h1 h2;refine(hr.grn g fun p hp=>?_).bnd hb;intro e;have:=hv p e;have:=(hsb p hp).1;omega
 ·have hS:∀k z,(S++[s])[k]?=some z->(S[k]?=some z/\k<S.length)\/(z=s/\k=S.length):=fun k z hz=>by
   rw[List.getElem?_append]at hz;split at hz
   ·rename_i hk;exact .inl ⟨hz,hk⟩
   ·rename_i hk
    have hk0:k-S.length=0:=by
     rcases Nat.eq_zero_or_pos (k-S.length)with h'|h'
     ·exact h'
     ·rw[List.getElem?_eq_none (by simp only[List.length_cons,List.length_nil];omega)]at hz;cases hz
    rw[hk0]at hz;simp only[List.getElem?_cons_zero,Option.some.injEq]at hz;exact .inr ⟨hz.symm,by omega⟩
  rcases hS i x h1 with⟨a1,a2⟩|⟨a1,a2⟩<;>rcases hS j y h2 with⟨c1,c2⟩|⟨c1,c2⟩
  ·exact h.dif i j x y hij a1 c1 gg hg
  ·subst c1
   intro e;have:=hnew i x a1 gg hg;have:=(hsb gg e).1;omega
  ·subst a1
   intro e;have:=hnew j y c1 gg e;have:=(hsb gg hg).1;omega
  ·omega
 ·rw[List.getElem?_append]at h1
  split at h1
  ·refine hout t.val fun q hq=>⟨?_,h.out i t h1 q hq⟩
   rename_i hi;have hM:M[i]?=some (M[i]'(by rw[<-h.len];exact hi)):=List.getElem?_eq_getElem _;exact((h.row i t _ h1 hM).lt q hq).2
  ·rename_i hi
   have hi0:i-S.length=0:=by
    rcases Nat.eq_zero_or_pos (i-S.length)with h'|h'
    ·exact h'
    ·rw[List.getElem?_eq_none (by simp only[List.length_cons,List.length_nil];omega)]at h1;cases h1
   rw[hi0]at h1;simp only[List.getElem?_cons_zero,Option.some.injEq]at h1;subst h1;refine hout s.val fun q hq=>⟨(hsb q hq).2,fun e=>?_⟩;have:=hv q e;have:=(hsb q hq).1;omega
theorem MatG.at{S:List SV}{a:Option Addr}{len cap:Nat}{i:Int}{r:List α}(h:MatG e0 e1 base w (.slice a len cap) S M)(hi:ix M i=some r):
  ∃s b off,ix S i=some s/\a=some ⟨b,off,none⟩/\0<=i/\i<len/\Cs w b (off+i.toNat*1) [s.val]/\Row (α:=α) e1 base w s.val r:=by
 obtain⟨i0,i1,i2⟩:=yY hi;have hl:=(RV.cap h.own.rv).1;have his:i.toNat<S.length:=by rw[h.len];omega
 have hs:S[i.toNat]?=some S[i.toNat]:=List.getElem?_eq_getElem his;have hix:ix S i=some S[i.toNat]:=by unfold ix;rw[if_pos i0,hs]
 obtain⟨b,off,cs,e,_,h1,h2,h3⟩:=(RV.els h.own.rv).ix hix;have h2':cs=[S[i.toNat].val]:=h2;subst h2';exact⟨_,b,off,hix,e,i0,by omega,h3,h.row i.toNat _ r hs i2⟩
theorem MatG.set{S:List SV}{i:Int}{s:SV}{r r':List α}{b:Nat}(h:MatG e0 e1 base w v S M)(hs:ix S i=some s)(hi:ix M i=some r)(c:Chg b w w')(hb:s.val.ownBlock=some b)(hr:Row (α:=α) e1 base w' s.val r'):
  MatG e0 e1 base w' v S (vV M i r'):=by
 obtain⟨i0,_,is⟩:=yY hs;refine⟨h.own.chgn c fun e=>?_,by rw[vV,List.length_set];exact h.len,fun j t q h1 h2=>?_,h.dif,h.out⟩
 ·exact h.out i.toNat s is b hb e.symm
 ·unfold vV at h2
  rw[List.getElem?_set]at h2;by_cases hj:i.toNat=j
  ·subst hj
   rw[is]at h1;cases h1;split at h2
   ·split at h2
    ·cases h2;exact hr
    ·cases h2
   ·contradiction
  ·rw[if_neg hj]at h2
   exact(h.row j t q h1 h2).chgn c fun e=>h.dif j i.toNat t s (Ne.symm hj) h1 is b e.symm hb
end
theorem MatG.ext{α:Type}[Enc α][Flat α]{e0 e1:TypeId}{base:Nat}{w w':World}{v:Value}{S:List SV}{M:List (List α)}(h:MatG e0 e1 base w v S M)(k:Ext w w'):MatG e0 e1 base w' v S M:=
 ⟨h.own.ext k,h.len,fun i s r h1 h2=>(h.row i s r h1 h2).ext k,h.dif,h.out⟩
section
variable {α:Type}[Enc α][Flat α]{e0 e1:TypeId}{base:Nat}{w w1 w':World}{v:Value}{S:List SV}{M:List (List α)}
theorem MatG.chg{b:Nat}(h:MatG e0 e1 base w v S M)(c:Chg b w w')(h0:v.ownBlock≠some b)(h1:∀(i:Nat)(s:SV),S[i]?=some s->s.val.ownBlock≠some b):MatG e0 e1 base w' v S M:=
 ⟨h.own.chgn c (Ne.symm h0),h.len,fun i s r h2 h3=>(h.row i s r h2 h3).chgn c (Ne.symm (h1 i s h2)),h.dif,h.out⟩
theorem MatG.lt(h:MatG e0 e1 base w v S M):(∀q,v.ownBlock=some q->base<=q/\q<w.heap.size)/\∀(i:Nat)(s:SV),S[i]?=some s->∀q,s.val.ownBlock=some q->base<=q/\q<w.heap.size:=
 ⟨fun q hq=>h.own.lt q hq,fun i s hs q hq=>by
  have hM:M[i]?=some (M[i]'(by rw[<-h.len];exact(List.getElem?_eq_some_iff.1 hs).1)):=List.getElem?_eq_getElem _;exact(h.row i s _ hs hM).lt q hq⟩
theorem MatG.ix(h:MatG e0 e1 base w v S M){i:Int}{r:List α}(hi:Md.ix M i=some r):∃s,Md.ix S i=some s/\s.val=.slice s.a r.length s.cap/\Row (α:=α) e1 base w (.slice s.a r.length s.cap) r:=by
 obtain⟨i0,i1,i2⟩:=yY hi;have his:i.toNat<S.length:=by rw[h.len];exact(List.getElem?_eq_some_iff.1 i2).1
 have hs:S[i.toNat]?=some S[i.toNat]:=List.getElem?_eq_getElem his;have hrow:=h.row i.toNat _ r hs i2;have hsl:=(RV.cap (a:=S[i.toNat].a) (n:=S[i.toNat].len) (cap:=S[i.toNat].cap) hrow.rv).1;have e:S[i.toNat].val=.slice S[i.toNat].a r.length S[i.toNat].cap:=by unfold SV.val;rw[hsl]
 refine⟨S[i.toNat],by unfold Md.ix;rw[if_pos i0,hs],e,?_⟩;rw[<-e];exact hrow
theorem MatG.get{a:Option Addr}{len cap:Nat}{i:Int}{r:List α}(h:MatG e0 e1 base w (.slice a len cap) S M)(hi:Md.ix M i=some r):
  ∃s b off,Md.ix S i=some s/\a=some ⟨b,off,none⟩/\0<=i/\i<len/\Cs w b (off+i.toNat*1) [.slice s.a r.length s.cap]/\s.val=.slice s.a r.length s.cap/\Row (α:=α) e1 base w (.slice s.a r.length s.cap) r:=by
 obtain⟨s,b,off,h1,h2,h3,h4,h5,_⟩:=h.at hi;obtain⟨s',h1',h7,h8⟩:=h.ix hi;rw[h1]at h1';cases h1';exact⟨s,b,off,h1,h2,h3,h4,by rw[<-h7];exact h5,h7,h8⟩
theorem MatG.get2{a:Option Addr}{len cap:Nat}{i j:Int}{r:List α}{x:α}(h:MatG e0 e1 base w (.slice a len cap) S M)(hi:Md.ix M i=some r)(hj:Md.ix r j=some x):
  ∃s b off b1 f1,Md.ix S i=some s/\a=some ⟨b,off,none⟩/\0<=i/\i<len/\Cs w b (off+i.toNat*1) [.slice (some ⟨b1,f1,none⟩) r.length s.cap]/\s.val=.slice (some ⟨b1,f1,none⟩) r.length s.cap/\Row (α:=α) e1 base w (.slice (some ⟨b1,f1,none⟩) r.length s.cap) r/\
   0<=j/\j<r.length/\Cs w b1 (f1+j.toNat*Enc.n α) (Flat.enc x):=by
 obtain⟨s,b,off,h1,h2,h3,h4,h5,h6,h7⟩:=h.get hi;obtain⟨b1,f1,cs,e,j1,j2,q,hc⟩:=(RV.els h7.rv).ix hj;rw[e]at h5 h6 h7;rw[Flat.iff.1 q]at hc;exact⟨s,b,off,b1,f1,h1,h2,h3,h4,h5,h6,h7,j1,j2,hc⟩
def swp(i j p:Nat):Nat:=if p=j then i else if p=i then j else p
theorem ART{i j p q:Nat}(h:swp i j p=swp i j q):p=q:=by
 unfold swp at h;split at h<;>split at h<;>(try split at h)<;>(try split at h)<;>omega
theorem AHn{γ:Type}{l:List γ}{i j:Int}{x y:γ}(hi:Md.ix l i=some x)(hj:Md.ix l j=some y)(p:Nat):(vV (vV l i y) j x)[p]?=l[swp i.toNat j.toNat p]?:=by
 obtain⟨i0,i1,i2⟩:=yY hi;obtain⟨j0,j1,j2⟩:=yY hj;have hil:=(List.getElem?_eq_some_iff.1 i2).1;have hjl:=(List.getElem?_eq_some_iff.1 j2).1;unfold vV swp;rw[List.getElem?_set,List.getElem?_set];by_cases h1:j.toNat=p
 ·subst h1
  simp[hjl,i2]
 ·rw[if_neg h1,if_neg (Ne.symm h1)]
  by_cases h2:i.toNat=p
  ·subst h2
   simp[hil,j2]
  ·rw[if_neg h2,if_neg (Ne.symm h2)]
theorem MatG.swap{i j:Int}{s t:SV}{r q:List α}{b:Nat}(h:MatG e0 e1 base w v S M)(hi:Md.ix S i=some s)(hj:Md.ix S j=some t)(hri:Md.ix M i=some r)(hrj:Md.ix M j=some q)(c1:Chg b w w1)(c2:Chg b w1 w')(hb:v.ownBlock=some b)
  (ho:Row (α:=SV) e0 base w' v (vV (vV S i t) j s)):MatG e0 e1 base w' v (vV (vV S i t) j s) (vV (vV M i q) j r):=by
 refine⟨ho,by simp[vV,h.len],fun p x y h1 h2=>?_,fun p p' x y hpp h1 h2=>?_,fun p x h1=>?_⟩
 ·rw[AHn hi hj]at h1
  rw[AHn hri hrj]at h2;have hne:some b≠x.val.ownBlock:=fun e=>h.out _ x h1 b e.symm hb;exact((h.row _ x y h1 h2).chgn c1 hne).chgn c2 hne
 ·rw[AHn hi hj]at h1 h2
  exact h.dif _ _ x y (fun e=>hpp (ART e)) h1 h2
 ·rw[AHn hi hj]at h1
  exact h.out _ x h1
end
def MatT{α:Type}[Enc α][Flat α](e0 e1:TypeId)(base top:Nat)(w:World)(v:Value)(M:List (List α)):Prop:=
 ∃S,MatG e0 e1 base w v S M/\(∀q,v.ownBlock=some q->q<top)/\∀(i:Nat)(s:SV),S[i]?=some s->∀q,s.val.ownBlock=some q->q<top
section
variable {α:Type}[Enc α][Flat α]{e0 e1:TypeId}{base top:Nat}{w w1 w':World}{v:Value}{M:List (List α)}
theorem MatT.ext(h:MatT e0 e1 base top w v M)(k:Ext w w'):MatT e0 e1 base top w' v M:=by
 obtain⟨S,h,h1,h2⟩:=h;exact⟨S,h.ext k,h1,h2⟩
theorem MatT.sl(h:MatT e0 e1 base top w v M):∃a cap,v=.slice a M.length cap:=by
 obtain⟨S,h,_⟩:=h;exact MatX.sl ⟨S,h⟩
theorem MatT.row{a:Option Addr}{len cap:Nat}{i:Int}{r:List α}(h:MatT e0 e1 base top w (.slice a len cap) M)(hi:Md.ix M i=some r):
  ∃b off a1 c1,a=some ⟨b,off,none⟩/\0<=i/\i<len/\Cs w b (off+i.toNat*1) [.slice a1 r.length c1]/\RV w (.slice a1 r.length c1) r:=by
 obtain⟨S,h,h1,h2⟩:=h;obtain⟨s,b,off,_,ea,i0,i1,hc,_,hr⟩:=h.get hi;exact⟨b,off,_,_,ea,i0,i1,hc,hr.rv⟩
theorem MatT.el{a:Option Addr}{len cap:Nat}{i j:Int}{r:List α}{x:α}(h:MatT e0 e1 base top w (.slice a len cap) M)(hi:Md.ix M i=some r)(hj:Md.ix r j=some x):
  ∃b off b1 f1 c1,a=some ⟨b,off,none⟩/\0<=i/\i<len/\Cs w b (off+i.toNat*1) [.slice (some ⟨b1,f1,none⟩) r.length c1]/\0<=j/\j<r.length/\Cs w b1 (f1+j.toNat*Enc.n α) (Flat.enc x)/\
   base<=b1/\b1<top/\Row (α:=α) e1 base w (.slice (some ⟨b1,f1,none⟩) r.length c1) r/\
   ∀w1 w' r',Ext w w1->Chg b1 w1 w'->Row (α:=α) e1 base w' (.slice (some ⟨b1,f1,none⟩) r.length c1) r'->MatT e0 e1 base top w' (.slice a len cap) (vV M i r'):=by
 obtain⟨S,h,h1,h2⟩:=h;obtain⟨s,b,off,b1,f1,hs,ea,i0,i1,hc,esv,hrow,j0,j1,hce⟩:=h.get2 hi hj;have hown:s.val.ownBlock=some b1:=by rw[esv];rfl
 have hsi:=(yY hs).2.2;refine⟨b,off,b1,f1,s.cap,ea,i0,i1,hc,j0,j1,hce,(h.lt.2 _ _ hsi b1 hown).1,h2 _ _ hsi b1 hown,hrow,fun w1 w' r' k c hr=>?_⟩;exact⟨S,(h.ext k).set hs hi c hown (by rw[esv];exact hr),h1,h2⟩
theorem MatT.swap{a:Option Addr}{len cap:Nat}{i j:Int}{r q:List α}(h:MatT e0 e1 base top w (.slice a len cap) M)(hi:Md.ix M i=some r)(hj:Md.ix M j=some q):
  ∃b off S s t,a=some ⟨b,off,none⟩/\0<=i/\i<len/\0<=j/\j<len/\Cs w b (off+i.toNat*1) [.slice s.a r.length s.cap]/\Cs w b (off+j.toNat*1) [.slice t.a q.length t.cap]/\s.val=.slice s.a r.length s.cap/\t.val=.slice t.a q.length t.cap/\
   base<=b/\b<top/\Row (α:=SV) e0 base w (.slice a len cap) S/\Md.ix S i=some s/\Md.ix S j=some t/\
   ∀w0 w1 w',Ext w w0->Chg b w0 w1->Chg b w1 w'->Row (α:=SV) e0 base w' (.slice a len cap) (vV (vV S i t) j s)->MatT e0 e1 base top w' (.slice a len cap) (vV (vV M i q) j r):=by
 obtain⟨S,h,h1,h2⟩:=h;obtain⟨s,b,off,hs,ea,i0,i1,hc,esv,hrow⟩:=h.get hi;obtain⟨t,b',off',ht,ea',j0,j1,hc',etv,hrow'⟩:=h.get hj;rw[ea]at ea';cases ea';have hb:(Value.slice a len cap).ownBlock=some b:=by rw[ea];rfl
 refine⟨b,off,S,s,t,ea,i0,i1,j0,j1,hc,hc',esv,etv,(h.lt.1 b hb).1,h1 b hb,h.own,hs,ht,fun w0 w1 w' k c1 c2 ho=>?_⟩;refine⟨_,(h.ext k).swap hs ht hi hj c1 c2 hb ho,h1,fun p x hx=>?_⟩;rw[AHn hs ht]at hx;exact h2 _ x hx
end
section
variable {P:Program}{Q:Exit->Act->World->Prop}{n:Nat}{L:Fr}{D:List Deferred}{w:World}{ops:Array Oper}{rest:List Oper}{ty:TypeId}{pos:String}{af:Array Edge}{x y:Operand}
end
end
section
section
variable {P:Program}{Q:Exit->Act->World->Prop}{m n:Nat}{L:Fr}{D:List Deferred}{w:World}
end
end
section
section
variable {P:Program}{n:Nat}{L:Fr}{w:World}{ty:TypeId}{pos:String}{af:Array Edge}{dst:Option Nat}{gdd:Option (Nat×Bool)}{x:Operand}{α:Type}[Enc α][Flat α]
omit [Enc α] [Flat α]in
theorem AWK{t e m k bytes b:Nat}{agg:Bool}{zz:List Value}{X:Ar m α}(hx:ev n L x=.pointer (some ⟨b,0,none⟩))(ht:P.underlying t=some (.array m e))(he:TI P e agg k bytes zz)(hm:Nat.blt 0 m=true):
  (execOp (ev n L) {dst:=dst,op:=.slice t x none none none,type:=ty,pos:=pos,after:=af,guard:=gdd}).run P w=.ok (.value (.slice (some ⟨b,0,none⟩) X.l.length m)) w:=by
 have h1:0<m:=by simpa[Nat.blt_eq]using hm
 have h3:¬(m=0):=by omega
 have hl:X.l.length=m:=X.h;simp[execOp,hx,Instr.sliceAt,Instr.sureAddr,run_underlying ht,Instr.sliceBounds,he.size,ABE,hl]
theorem Bx.arsl{m b:Nat}{T:TypeId}{X:Ar m α}(hb:Bx w b T (X.l.flatMap Flat.enc))(hm:m<=maxLen):RV w (.slice (some ⟨b,0,none⟩) X.l.length m) X.l:=by
 refine RV.of1 (by rw[X.h];exact Nat.le_refl _) hm (.inr ⟨b,0,rfl,trivial,hb.lt,fun i x hx=>?_⟩);have hix:ix X.l (i:Int)=some x:=by simp[ix,hx]
 obtain⟨_,_,hc⟩:=wR (Bx.cs hb) hix;exact⟨Flat.enc x,Flat.iff.2 rfl,by simpa using hc⟩
theorem AN6{m k q:Nat}(X:Ar m α)(hk:m*Enc.n α=k):[((q,.agg (X.l.flatMap Flat.enc).toArray):Nat×Value)].all (fun p=>Nat.beq p.2.cells.size k)=true:=by
 have:(X.l.flatMap Flat.enc).length=k:=by rw[Flat.flen,X.h,hk]
 simp[Value.cells,this]
theorem Cs.tl{b o:Nat}{v:Value}{cs:List Value}(h:Cs w b o (v::cs)):Cs w b (o+1) cs:=fun j c hc=>by
 have:=h (j+1) c (by simpa using hc);rwa [show o+(j+1)=o+1+j by omega]at this
end
section
variable {P:Program}{Q:Exit->Act->World->Prop}{n:Nat}{L:Fr}{D:List Deferred}{w:World}{ops:Array Oper}{rest:List Oper}{ty:TypeId}{pos:String}{af:Array Edge}{x y:Operand}{α:Type}[Enc α][Flat α]
theorem ASV{t T:TypeId}{b k bytes:Nat}{agg:Bool}{z cur:List Value}{u:α}(hp:ev n L x=.pointer (some ⟨b,0,none⟩))(hy:ev n L y=fv u)(ht:TI P t agg k bytes z)(hk:k=Enc.n α)(hb:Bx w b T cur)(hc:cur.length=k)
  (cont:∀w',Chg b w w'->Bx w' b T (Flat.enc u)->wpList P ops Q rest (act n L D) w'):
  wpList P ops Q ({dst:=none,op:=.store t x y,type:=ty,pos:=pos,after:=af,guard:=none}::rest) (act n L D) w:=
 sst hp hy (AHP u) ht hb (by rw[Flat.len,hk]) (List.all_eq_true.2 (Flat.one u)) (by rw[Flat.len,<-hk,hc];omega) fun w' h2 h3=>cont w' h2 (by
  have:X9 cur 0 (Flat.enc u)=Flat.enc u:=by simp[X9,Flat.len,<-hk,<-hc]
  rwa [this]at h3)
end
section
variable {P:Program}{Q:Exit->Act->World->Prop}{n:Nat}{L:Fr}{D:List Deferred}{w:World}{ops:Array Oper}{rest:List Oper}{ty:TypeId}{pos:String}{af:Array Edge}{x y z:Operand}
variable {κ ν:Type}[DecidableEq κ][Enc κ][Flat κ][Key κ][Enc ν][Flat ν]{t tk te:TypeId}
end
section
variable {a t N B:Nat}{w w1:World}
theorem Ext.belx{w0:World}{b c:Nat}(h:Ext w0 w)(k:BelX N b c w w1)(hN:w0.heap.size<=N)(hb:w0.heap.size<=b)(hc:w0.heap.size<=c):Ext w0 w1:=h.trans (k.below hN hb hc)
theorem KpOk.and{K1 K2:World->World->Prop}(h1:KpOk B K1)(h2:KpOk B K2):KpOk B (fun A C=>K1 A C/\K2 A C):=
 ⟨fun h k=>⟨h1.trans h.1 k.1,h2.trans h.2 k.2⟩,fun h k=>⟨h1.ext h k,h2.ext h k⟩,fun h k c=>⟨h1.put h k c,h2.put h k c⟩⟩
end
def FBm{α:Type}(T:TypeId)(base:Nat)(w:World)(v:Value)(cs:List Value)(x:Ob α):Prop:=
 match x.v with
 |none=>v=.pointer none
 |some _=>∃b:Nat,v=.pointer (some ⟨b,0,none⟩)/\base<=b/\Bx w b T (cs++[.map none])
section
variable {α:Type}{T:TypeId}{base:Nat}{w:World}{cs:List Value}
theorem FBm.nil:FBm T base w (.pointer none) cs (⟨none⟩:Ob α):=rfl
theorem FBm.mk{b:Nat}{y:α}(h1:base<=b)(h2:Bx w b T (cs++[.map none])):FBm T base w (.pointer (some ⟨b,0,none⟩)) cs (⟨some y⟩:Ob α):=⟨b,rfl,h1,h2⟩
theorem FBm.get{v:Value}{x:Ob α}{y:α}(h:FBm T base w v cs x)(hy:x.v=some y):∃b:Nat,v=.pointer (some ⟨b,0,none⟩)/\base<=b/\Bx w b T (cs++[.map none]):=by
 unfold FBm at h;rwa [hy]at h
end
def Oko(lo:Nat)(v:Value)(b:Nat):Prop:=b<lo/\some b≠v.ownBlock
def DRowO{α:Type}[Enc α](lo:Nat)(e:TypeId)(base:Nat)(w:World)(v:Value)(l:List α):Prop:=
 ∃S:List (Cl (Enc.n α)),Row (α:=Cl (Enc.n α)) e base w v S/\S.length=l.length/\∀(i:Nat)(s:Cl (Enc.n α))(x:α),S[i]?=some s->l[i]?=some x->Enc.rep (Oko lo v) w s.l x
section
variable {α:Type}[Enc α]{lo base:Nat}{e:TypeId}{w w':World}{v v2:Value}{l k:List α}
theorem DRowO.d(h:DRowO lo e base w v l):DRow lo e base w v l:=by
 obtain⟨S,h1,h2,h3⟩:=h;exact⟨S,h1,h2,fun i s x a b=>Enc.mono (fun q _ hq=>⟨.inl hq.1,hq.2⟩) (h3 i s x a b)⟩
theorem DRowO.nil:DRowO lo e base w (.slice none 0 0) ([]:List α):=⟨[],Row.nil,rfl,by simp⟩
theorem DRowO.ext(h:DRowO lo e base w v l)(k:Ext w w'):DRowO lo e base w' v l:=by
 obtain⟨S,h1,h2,h3⟩:=h;exact⟨S,h1.ext k,h2,fun i s x a b=>Enc.keep (fun q _ hq=>k.block q hq) k.size (h3 i s x a b)⟩
theorem DRowO.lt(h:DRowO lo e base w v l):∀q,v.ownBlock=some q->base<=q/\q<w.heap.size:=h.d.lt
theorem DRowO.own_lt(h:DRowO lo e base w v l):∀q,v.ownBlock=some q->q<w.heap.size:=h.d.own_lt
theorem DRowO.sl(h:DRowO lo e base w v l):∃a cap,v=.slice a l.length cap:=h.d.sl
theorem DRowO.rv(h:DRowO lo e base w v l):RV w v l:=h.d.rv
theorem DRowO.geo(h:DRowO lo e base w v l)(hb:lo<=base):∀q,v.ownBlock=some q->lo<=q:=h.d.geo hb
theorem DRowO.bnd{B:Nat}(h:DRowO lo e base w v l)(hB:B<=base):DRowO lo e B w v l:=by
 obtain⟨S,h1,h2,h3⟩:=h;exact⟨S,h1.bnd hB,h2,h3⟩
theorem DRowO.ne_new{b:Nat}(h:DRowO lo e base w v l)(hb:w.heap.size<=b):some b≠v.ownBlock:=h.d.ne_new hb
theorem DRowO.ne_old{b:Nat}(h:DRowO lo e base w v l)(hb:b<base):some b≠v.ownBlock:=h.d.ne_old hb
theorem DRowO.chgb{b:Nat}(h:DRowO lo e base w v l)(c:Chg b w w')(h1:lo<=b)(h2:some b≠v.ownBlock):DRowO lo e base w' v l:=by
 obtain⟨S,g1,g2,g3⟩:=h;refine⟨S,g1.chgn c h2,g2,fun i s x a d=>Enc.keep (fun q hq _=>c.other q fun e1=>?_) (by rw[c.size];exact Nat.le_refl _) (g3 i s x a d)⟩;have:=hq.1;omega
theorem RVo.okoO{β:Type}[Enc β]{c:Value}{y:β}(h:RVo (·<lo) w c y)(hv:∀q,v.ownBlock=some q->lo<=q):RVo (Oko lo v) w c y:=
 h.mono fun b _ hq=>⟨hq,fun e1=>by have:=hv b e1.symm;omega⟩
end
section
variable {P:Program}{Q:Exit->Act->World->Prop}{n:Nat}{L:Fr}{D:List Deferred}{w:World}{ops:Array Oper}{rest:List Oper}
variable {ty:TypeId}{pos:String}{af:Array Edge}{x y:Operand}
variable {α:Type}[Enc α]
theorem AQy{d:Nat}{st e:TypeId}{agg:Bool}{bytes base lo:Nat}{z:List Value}{v:Value}{a:Option Addr}{cap:Nat}{l k r:List α}(hs:ev n L x=v)(hy:ev n L y=.slice a k.length cap)(ht:P.underlying st=some (.slice e))
  (he:TI P e agg (Enc.n α) bytes z) (hm:Nat.ble 1 (Enc.n α)=true) (hb1:Nat.ble 1 bytes=true) (hrow:DRowO lo e base w v l) (hk:ElsD (Oko lo v) w a k) (hr:app bytes l k=some r) (hbase:base<=w.heap.size)
  (cont:∀v' w',DRowO lo e base w' v' r->Below base w w'->w.grownBy w' v.ownBlock->(v'.ownBlock=v.ownBlock\/∃g,v'.ownBlock=some g/\w.heap.size<=g)->wpList P ops Q rest (act n (upd L d v') D) w'):
  wpList P ops Q ({dst:=some d,op:=.call {callee:=.builtin .append,args:=#[x,y],argTypes:=#[st,st]},type:=ty,pos:=pos,after:=af,guard:=none}::rest) (act n L D) w:=by
 obtain⟨hb,rfl⟩:=AFm hr;obtain⟨S,h1,h2,h3⟩:=hrow;have hK:∃K:List (Cl (Enc.n α)),K.length=k.length/\Els (Cl (Enc.n α)) (fun _=>True) w a K/\∀(i:Nat)(s:Cl (Enc.n α))(x:α),K[i]?=some s->k[i]?=some x->Enc.rep (Oko lo v) w s.l x:=by
  rcases hk with rfl|⟨b,off,rfl,hk⟩
  ·exact⟨[],rfl,.inl rfl,by simp⟩
  ·obtain⟨K,k1,k2⟩:=AMd (p:=fun i x(s:Cl (Enc.n α))=>Enc.rep (Oko lo v) w s.l x/\Cs w b (off+i*Enc.n α) s.l) k 0 (fun i x hx=>by
    obtain⟨cs,c1,c2⟩:=hk i x hx;exact⟨⟨cs,Enc.len c1,Enc.one c1⟩,c1,by simpa using c2⟩)
   refine⟨K,k1,?_,fun i s x hs hx=>(k2 i x s hx hs).1⟩;by_cases h0:K=[]
   ·exact .inl h0
   ·have hm':0<Enc.n α:=Nat.le_of_ble_eq_true hm
    obtain⟨s0,hs0⟩:∃s,K[0]?=some s:=⟨K[0]'(List.length_pos_iff.2 h0),List.getElem?_eq_getElem _⟩;have hx0:∃x,k[0]?=some x:=⟨k[0]'(by rw[<-k1];exact List.length_pos_iff.2 h0),List.getElem?_eq_getElem _⟩;obtain⟨x0,hx0⟩:=hx0;have hc0:=(k2 0 x0 s0 hx0 hs0).2;have hl0:0<s0.l.length:=by rw[s0.h];exact hm'
    refine .inr ⟨b,off,rfl,trivial,World.block_lt_of_cell? w ⟨b,off+(0+0)*Enc.n α+0,none⟩ (hc0 0 s0.l[0] (List.getElem?_eq_getElem hl0)),fun i s hs=>⟨s.l,rfl,?_⟩⟩;have hi:i<k.length:=by rw[<-k1];exact(List.getElem?_eq_some_iff.1 hs).1
    have:=(k2 i _ s (List.getElem?_eq_getElem hi) hs).2;rw[Nat.zero_add]at this;exact this
 obtain⟨K,k1,k2,k3⟩:=hK;obtain⟨v',w',hrun,hrow',hg,ho⟩:=AId (α:=Cl (Enc.n α)) (ty:=ty) (cap:=cap) ht he (Nat.le_of_ble_eq_true hm) (Nat.le_of_ble_eq_true hb1) h1 k2 (by rw[h2,k1];exact hb) hbase;rw[k1]at hrun;refine Zv (v:=v') (w':=w') (by simp[execOp,resolve,invoke,Go.builtin,hs,hy,hrun]) (cont v' w' ⟨S++K,hrow',by simp[h2,k1],fun i s x a b=>?_⟩ ⟨hg.os,hg.tape,hg.output,hg.size,fun q hq=>hg.block q (by omega) (fun e2=>?_)⟩ hg ho)
 ·have hrep:Enc.rep (Oko lo v) w s.l x:=by
   rw[List.getElem?_append]at a b;rw[<-h2]at b;split at a
   ·rename_i hi
    rw[if_pos hi]at b;exact h3 i s x a b
   ·rename_i hi
    rw[if_neg hi]at b;exact k3 _ s x a b
  have hrep':Enc.rep (fun q=>Oko lo v q/\some q≠v'.ownBlock) w s.l x:=Enc.mono (fun q hq hok=>⟨hok,fun e1=>by
   rcases ho with h|⟨g,h,hgg⟩
   ·exact hok.2 (by rw[<-h];exact e1)
   ·rw[h]at e1
    cases e1;omega⟩) hrep
  have:=Enc.keep (w':=w') (fun q hok hq=>hg.block q hq hok.1.2) hg.size hrep';exact Enc.mono (fun q _ hok=>⟨hok.1.1,hok.2⟩) this
 ·have:=h1.lt q e2.symm
  omega
end
section
variable {P:Program}{Q:Exit->Act->World->Prop}{n:Nat}{L:Fr}{D:List Deferred}{w:World}{ops:Array Oper}{rest:List Oper}
variable {ty:TypeId}{pos:String}{af:Array Edge}{y:Operand}
end
section
variable {w0 w w':World}{n:Nat}
end
section
variable {P:Program}{n:Nat}{L:Fr}{w:World}{ty:TypeId}{pos:String}{af:Array Edge}{dst:Option Nat}{gdd:Option (Nat×Bool)}{x:Operand}
end
def ACD{α:Type}(l:List α)(i:Int):Option (List α):=if 0<=i/\i<=l.length then some (l.take i.toNat)else none
theorem AHo{α:Type}{l r:List α}{i:Int}(h:ACD l i=some r):0<=i/\i<=l.length/\r=l.take i.toNat:=by
 unfold ACD at h;split at h
 ·cases h;exact⟨by omega,by omega,rfl⟩
 ·cases h
theorem slh{P:Program}{α:Type}[Enc α]{w:World}{t e:TypeId}{agg:Bool}{bytes:Nat}{zz:List Value}{a:Option Addr}{len cap:Nat}{l r:List α}{i:Int}(hl:RV w (.slice a len cap) l)(hr:ACD l i=some r)(ht:P.underlying t=some (.slice e))(he:TI P e agg (Enc.n α) bytes zz):
  ∃a' c',RV w (.slice a' r.length c') r/\∀(w':World)(n:Nat)(L:Fr)(x y:Operand)(ty:TypeId)(pos:String)(af:Array Edge)(dst:Option Nat)(gdd:Option (Nat×Bool)),ev n L x=.slice a l.length cap->ev n L y=.int .i64 i->
   (execOp (ev n L) {dst:=dst,op:=.slice t x none (some y) none,type:=ty,pos:=pos,after:=af,guard:=gdd}).run P w'=.ok (.value (.slice a' r.length c')) w':=by
 obtain⟨h0,h1,rfl⟩:=AHo hr;obtain⟨rfl,h2,h3⟩:=hl.cap;have hle:i.toNat<=l.length:=by omega
 have hlt:(l.take i.toNat).length=i.toNat:=by rw[List.length_take];omega
 refine⟨if cap=0 then a else a.map (·.add (0*Enc.n α)),cap,?_,?_⟩
 ·refine RV.of1 (by rw[List.length_take];omega) (by omega) ?_
  rcases hl.els with rfl|⟨b,off,rfl,hb,hlt2,h⟩
  ·exact .inl (by simp)
  ·by_cases hc:cap=0
   ·refine .inl (List.eq_nil_of_length_eq_zero (by omega))
   ·refine .inr ⟨b,off,by simp[hc,Addr.add],hb,hlt2,fun j x hx=>?_⟩
    rw[List.getElem?_take]at hx;split at hx
    ·exact h _ _ hx
    ·cases hx
 ·intro w' n L x y ty pos af dst gdd hx hy
  rw[hlt];have h4:i<=(cap:Int):=by omega
  simp[execOp,Instr.sliceAt,run_underlying ht,Instr.slice,hx,hy,Instr.sliceBounds,Instr.sliceBound,asIntOf,he.size,h0,h4]
end
section
section
variable {P:Program}{ops:Array Oper}{S:World->Prop}{T:List Nat}{m:Nat}
def opW(m:Nat)(P:Program)(ops:Array Oper)(S:World->Prop)(T:List Nat)(j:Nat)(K:Act->World->Prop)(a:Act)(w:World):Prop:=
 wpOpIn Fence.wide m P ops noQ j (fun a' w'=>(j∉T->S w->S w')/\K a' w') a w
theorem YldC.opW{any:Bool}{i:Nat}{o:Oper}{v:Value}{a:Act}{w:World}(hi:ops[i]?=some o)(hy:YldC P ops S any o v a)(hS:any=true\/S w)
  {K:Act->World->Prop} (h:K (a.put o.dst v) w):opW m P ops S T i K a w:=by
 unfold Md.opW Go.wpOpIn;simp only[hi];rcases hy with⟨hw,hv⟩|⟨hw,rfl⟩
 ·simp only[hw,if_true,Oper.wpIn,show Fence.wide.round=none from rfl,Oper.semAt_none,hv w hS,Oper.uponIn];exact⟨fun _ _=>trivial,fun _ h=>h,h⟩
 ·simp only[hw,Bool.false_eq_true,if_false];exact⟨fun _ _=>trivial,fun _ h=>h,h⟩
def AFa(m:Nat)(P:Program)(ops:Array Oper)(S:World->Prop)(T:List Nat)(Q:Act->World->Prop):Nat->Array Bool->Act->World->Prop
 |0,listed,a,w=>Region.ready .any ops listed=[]/\Q a w
 |fuel+1,listed,a,w=>
  (Region.ready .any ops listed=[]->Q a w)/\
  ∀i∈Region.ready .any ops listed,opW m P ops S T i (AFa m P ops S T Q fuel (listed.setIfInBounds i true)) a w
theorem AMe{Q:Exit->Act->World->Prop}{i:Nat}{K K':Act->World->Prop}{a:Act}{w:World}(hk:∀a w,K a w->K' a w)(h:wpOpIn Fence.wide m P ops noQ i K a w):wpOpIn Fence.wide m P ops Q i K' a w:=by
 unfold wpOpIn at*
 split
 ·exact hk _ _ (by simpa[*]using h)
 ·rename_i o ho
  simp only[ho]at h;split
  ·rename_i hw
   simp only[hw,if_true]at h;unfold Oper.wpIn at*
   refine⟨h.1,?_⟩;have h:=h.2;generalize(o.semAt Fence.wide.round a.eval).run P w=r at*
   have hl:LetsOut noQ->False:=fun h=>by obtain⟨_,_,h⟩:=h;exact h.elim
   cases r with
   |ok n w'=>
    cases n<;>simp only[Oper.uponIn]at h⊢<;>
     first
      |exact hk _ _ h
      |exact⟨h.1,CallsIn.mono h.2 (fun e w'' he=>by cases e<;>first|exact hk _ _ he|exact he.elim|exact(hl he).elim)⟩
      |exact⟨h.1,RowsIn.mono h.2 (fun _ _ he=>hk _ _ he)⟩
      |exact⟨h.1,RoundIn.mono h.2 (fun e w'' he=>by cases e<;>first|exact hk _ _ he|exact he.elim|exact(hl he).elim)⟩
   |halt x w'=>cases x<;>simp only[Oper.uponIn]at h⊢;exact h.elim
  ·rename_i hw;simp only[hw]at h;exact⟨h.1,hk _ _ h.2⟩
theorem AHp{Q:Exit->Act->World->Prop}:∀(fuel:Nat)(listed:Array Bool)(a:Act)(w:World),AFa m P ops S T (Q .normal) fuel listed a w->wpAnyIn Fence.wide m P .any ops Q fuel listed a w
 |0,_,_,_,h=>h
 |fuel+1,_,_,_,h=>⟨h.1,fun i hi=>AMe (fun a' w' h'=>AHp fuel _ a' w' h'.2) (h.2 i hi)⟩
theorem ARU{any:Bool}{j:Nat}{oi oj:Oper}{v:Value}(hj:ops[j]?=some oj)(hap:oi.apart ops oj=true)
  (hsi:∀cs b,oi.op≠.select cs b) (hsj:∀cs b,oj.op≠.select cs b) {K:Act->World->Prop} {a:Act} {w:World}
  (hy:YldC P ops S any oi v a) (h:opW m P ops S T j K (a.put oi.dst v) w):
  opW m P ops S T j (fun a' w'=>YldC P ops S any oi v a'/\K (a'.put oi.dst v) w') a w:=by
 obtain⟨h1,h2,h3⟩:=Oper.apart_spec hap;have keep:∀(a:Act),YldC P ops S any oi v a->∀u,YldC P ops S any oi v (a.put oj.dst u):=fun a hy u=>
  hy.of_same (execOp_put oi hsi a oj.dst u h3) (wanted_put oi a oj.dst u h3)
 have keepD:∀d,YldC P ops S any oi v {a with defers:=d::a.defers}:=fun d=>hy.of_same rfl rfl;have hl:LetsOut noQ->False:=fun h=>by obtain⟨_,_,h⟩:=h;exact h.elim
 unfold opW wpOpIn at*
 simp only[hj]at*
 rw[wanted_put oj a oi.dst v h1]at h;split
 ·rename_i hw
  simp only[hw,if_true]at h;unfold Oper.wpIn at*
  refine⟨fun _ _=>trivial,?_⟩;have h:=h.2;rw[show Fence.wide.round=none from rfl,Oper.semAt_none,execOp_put oj hsj a oi.dst v h1]at h;rw[show Fence.wide.round=none from rfl,Oper.semAt_none];generalize(execOp a.eval oj).run P w=r at*
  cases r with
  |ok n w'=>
   cases n<;>simp only[Oper.uponIn]at h⊢
   case value u=>exact⟨h.1,keep a hy u,by rw[<-Act.put_comm a v u h2];exact h.2⟩
   case skip=>exact⟨h.1,keep a hy _,by rw[<-Act.put_comm a v undef h2];exact h.2⟩
   case defer d=>
    refine⟨h.1,keep _ (keepD d) _,?_⟩;rw[<-Act.put_comm _ v undef h2,<-Act.put_defers];exact h.2
   case enter f args=>
    refine⟨h.1,CallsIn.mono h.2 fun e w'' he=>?_⟩;cases e with
    |returned u=>exact⟨he.1,keep a hy u,by rw[<-Act.put_comm a v u h2];exact he.2⟩
    |panicked c=>exact he.elim
    |outgrown=>exact(hl he).elim
   case row row args=>exact⟨h.1,RowsIn.mono h.2 fun u w'' he=>⟨he.1,keep a hy u,by rw[<-Act.put_comm a v u h2];exact he.2⟩⟩
   case round l f tmps assign body=>
    refine⟨h.1,RoundIn.mono h.2 fun e w'' he=>?_⟩;cases e with
    |returned u=>exact⟨he.1,keep a hy u,by rw[<-Act.put_comm a v u h2];exact he.2⟩
    |panicked c=>exact he.elim
    |outgrown=>exact(hl he).elim
  |halt x w'=>
   cases x<;>simp only[Oper.uponIn]at h⊢
   case panic u=>exact h.elim
 ·rename_i hw
  simp only[hw]at h;exact⟨fun _ _=>trivial,h.2.1,keep a hy _,by rw[<-Act.put_comm a v undef h2];exact h.2.2⟩
theorem AFr{j:Nat}{K K':Act->World->Prop}{a:Act}{w:World}(hk:∀a' w',(j∉T->S w->S w')->K a' w'->K' a' w')(h:opW m P ops S T j K a w):opW m P ops S T j K' a w:=
 wpOpIn_mono (fun a' w' h'=>⟨h'.1,hk a' w' h'.1 h'.2⟩) h
theorem AJ9{any:Bool}{Q:Act->World->Prop}{i:Nat}{oi:Oper}{v:Value}(hi:ops[i]?=some oi)(hsel:∀(j:Nat)(o:Oper)cs b,ops[j]?=some o->o.op≠.select cs b)
  (hT:any=true\/∀j∈T,AEb ops 12 i j=true):
  ∀(fuel:Nat)(listed:Array Bool)(a:Act)(w:World),ClosedL ops listed->
   (∀j oj,ops[j]?=some oj->j≠i->listed.getD j true=false->(∀e∈oj.after,Region.binds .any e=true->e.on≠i)->oi.apart ops oj=true)->
   i∈Region.ready .any ops listed->YldC P ops S any oi v a->(any=true\/S w)->
   AFa m P ops S T Q fuel (listed.setIfInBounds i true) (a.put oi.dst v) w->AFa m P ops S T Q (fuel+1) listed a w:=by
 intro fuel
 induction fuel with
 |zero=>
  intro listed a w hcl _ hr hy hS H;refine⟨fun h=>(by rw[h]at hr;cases hr),fun j hj=>?_⟩;by_cases hji:j=i
  ·subst hji;exact hy.opW hi hS H
  ·have:=ready_mono hj hji
   rw[H.1]at this;cases this
 |succ fuel ih=>
  intro listed a w hcl hfree hr hy hS H;refine⟨fun h=>(by rw[h]at hr;cases hr),fun j hj=>?_⟩;by_cases hji:j=i
  ·subst hji;exact hy.opW hi hS H
  ·have h1:=H.2 j (ready_mono hj hji)
   obtain⟨hjun,oj,hoj,hall⟩:=mem_ready.1 hj;have hnot:∀e∈oj.after,Region.binds .any e=true->e.on≠i:=fun e he hb heq=>by
    have h1:=hall e he hb;have h0:=(mem_ready.1 hr).1;rw[heq]at h1;rcases Nat.lt_or_ge i listed.size with h'|h'
    ·simp[h']at h0 h1;rw[h0]at h1;cases h1
    ·simp[Array.getElem?_eq_none h']at h1
   have hjT:any=true\/j∉T:=hT.imp id fun hT hmem=>by
    have hw:=hT j hmem;have h0:=(mem_ready.1 hr).1;rw[AFk hcl (ALm h0) 12 j (fun o ho e he hb=>by rw[hoj]at ho;cases ho;exact hall e he hb)]at hw;cases hw
   have h2:=ARU hoj (hfree j oj hoj hji hjun hnot) (fun cs b=>hsel i oi cs b hi) (fun cs b=>hsel j oj cs b hoj) hy h1;have hfree':∀k ok,ops[k]?=some ok->k≠i->(listed.setIfInBounds j true).getD k true=false->
     (∀e∈ok.after,Region.binds .any e=true->e.on≠i)->oi.apart ops ok=true:=fun k ok hk hki hun hno=>by
    refine hfree k ok hk hki ?_ hno;by_cases hjk:j=k
    ·subst hjk;exact hjun
    ·rw[getD_set_ne true hjk]at hun;exact hun
   refine AFr (fun a' w' hSS h3=>ih (listed.setIfInBounds j true) a' w' (hcl.set hoj hall) hfree' (ready_mono hr (Ne.symm hji)) h3.1 ?_ ?_) h2
   ·rcases hS with h|h
    ·exact .inl h
    ·rcases hjT with h'|h'
     ·exact .inl h'
     ·exact .inr (hSS h' h)
   ·rw[Array.setIfInBounds_comm _ _ hji]
    exact h3.2
def Plan.okW(ops:Array Oper)(T:List Nat):Bool->Nat->Plan->Array Bool->Bool
 |true,_,.stop,_=>true
 |true,f+1,.eff i p m,l=>p.okW ops T false f (l.setIfInBounds i true)&&m.okW ops T true (f+1) l
 |false,_,.fin,l=>(Region.ready .any ops l).isEmpty
 |false,f+1,.pure any i p,l=>(Region.ready .any ops l).contains i&&Region.free .any ops l i&&(any||T.all (AEb ops 12 i))&&p.okW ops T false f (l.setIfInBounds i true)
 |false,f+1,.eff i p m,l=>!(Region.ready .any ops l).isEmpty&&(Region.ready .any ops l).all (i::m.heads).contains&&p.okW ops T false f (l.setIfInBounds i true)&&m.okW ops T true (f+1) l
 |_,_,_,_=>false
def Plan.wpW(m:Nat)(P:Program)(ops:Array Oper)(S:World->Prop)(T:List Nat)(Q:Act->World->Prop):Bool->Plan->Act->World->Prop
 |true,.eff i p q,a,w=>opW m P ops S T i (p.wpW m P ops S T Q false) a w/\q.wpW m P ops S T Q true a w
 |true,_,_,_=>True
 |false,.fin,a,w=>Q a w
 |false,.pure any i p,a,w=>∃o v,ops[i]?=some o/\YldC P ops S any o v a/\(any=true\/S w)/\p.wpW m P ops S T Q false (a.put o.dst v) w
 |false,.eff i p q,a,w=>opW m P ops S T i (p.wpW m P ops S T Q false) a w/\q.wpW m P ops S T Q true a w
 |false,.stop,_,_=>False
theorem Plan.branchesW{Q:Act->World->Prop}{a:Act}{w:World}{f:Nat}{l:Array Bool}{K:Nat->Act->World->Prop}:
  ∀(p:Plan),p.okW ops T true (f+1) l=true->p.wpW m P ops S T Q true a w->
  (∀(p':Plan)i a w,p'.okW ops T false f (l.setIfInBounds i true)=true->p'.wpW m P ops S T Q false a w->K i a w)->
  ∀i∈p.heads,opW m P ops S T i (K i) a w
 |.eff i p q,hok,hw,hK,j,hj=>by
  simp only[Plan.okW,Bool.and_eq_true]at hok;simp only[Plan.wpW]at hw;rcases List.mem_cons.1 hj with rfl|hj
  ·exact AFr (fun a' w' _ h=>hK p _ a' w' hok.1 h) hw.1
  ·exact Plan.branchesW q hok.2 hw.2 hK j hj
 |.stop,_,_,_,j,hj=>by cases hj
 |.fin,_,_,_,j,hj=>by cases hj
 |.pure _ _ _,_,_,_,j,hj=>by cases hj
theorem Plan.soundW{Q:Act->World->Prop}(hs:Region.noSelect ops=true):∀(f:Nat)(p:Plan)(l:Array Bool)(a:Act)(w:World),ClosedL ops l->
  p.okW ops T false f l=true->p.wpW m P ops S T Q false a w->AFa m P ops S T Q f l a w
 |f,.stop,l,a,w,_,hok,hw=>by simp[Plan.wpW]at hw
 |0,.fin,l,a,w,_,hok,hw=>⟨by simpa[Plan.okW]using hok,hw⟩
 |f+1,.fin,l,a,w,_,hok,hw=>by
  have hr:Region.ready .any ops l=[]:=by simpa[Plan.okW]using hok
  exact⟨fun _=>hw,fun i hi=>by rw[hr]at hi;cases hi⟩
 |0,.pure _ _ _,_,_,_,_,hok,_=>by simp[Plan.okW]at hok
 |0,.eff _ _ _,_,_,_,_,hok,_=>by simp[Plan.okW]at hok
 |f+1,.pure any i p,l,a,w,hcl,hok,hw=>by
  simp only[Plan.okW,Bool.and_eq_true]at hok;obtain⟨⟨⟨hr,hf⟩,hT⟩,hp⟩:=hok;simp only[Plan.wpW]at hw;obtain⟨o,v,ho,hy,hS,hw⟩:=hw;exact AJ9 ho (Region.noSelect_spec hs) (by simpa using hT) f l a w hcl (Region.free_spec ho hf) (by simpa using hr) hy hS (Plan.soundW hs f p _ _ _ (hcl.ready (by simpa using hr)) hp hw)
 |f+1,.eff i p q,l,a,w,hcl,hok,hw=>by
  simp only[Plan.okW,Bool.and_eq_true]at hok;obtain⟨⟨⟨hne,hall⟩,hp⟩,hm⟩:=hok;simp only[Plan.wpW]at hw;refine⟨fun h=>by simp[h]at hne,fun j hj=>?_⟩;have hj':j∈i::q.heads:=by
   have:=List.all_eq_true.1 hall j hj;simpa using this
  rcases List.mem_cons.1 hj' with rfl|hj'
  ·exact AFr (fun a' w' _ h=>Plan.soundW hs f p _ a' w' (hcl.ready hj) hp h) hw.1
  ·exact AFr (fun _ _ _ h=>h hj) (Plan.branchesW (K:=fun i a w=>i∈Region.ready .any ops l->AFa m P ops S T Q f (l.setIfInBounds i true) a w) q hm hw.2 (fun p' i a w h1 h2 hi=>Plan.soundW hs f p' _ a w (hcl.ready hi) h1 h2) j hj')
end
section
variable {P:Program}{Q:Exit->Act->World->Prop}{m n:Nat}{L:Fr}{D:List Deferred}{w:World}{ops:Array Oper}{rest:List Oper}
variable {S:World->Prop}{T:List Nat}{QQ:Act->World->Prop}
theorem AWL{id:Nat}{l:List Oper}(S:World->World->Prop)(T:List Nat)(p:Plan)(hm:P.follows .mixedOrders=true)
  (hok:(Region.noSelect l.toArray&&p.okW l.toArray T false l.length (Array.replicate l.length false))=true)
  (h:∀wd,Ext w wd->p.wpW m P l.toArray (S wd) T (Q .normal) false (act n L D) wd):(Code.region id l.toArray true).wp P Q (act n L D) w:=by
 simp only[Bool.and_eq_true]at hok;refine(wpIn_wide (n:=m)).1 (wpIn_region_any hm (AHp (S:=S w.drew) (T:=T) _ _ _ _ ?_));have:=Plan.soundW (P:=P) (m:=m) (S:=S w.drew) (Q:=Q .normal) hok.1 l.length p _ _ w.drew ClosedL.none hok.2 (h w.drew (Ext.drew w));simpa using this
theorem pvw{any:Bool}{i:Nat}{p:Plan}{o:Oper}{d:Nat}{v:Value}(ho:ops[i]?=some o)(hg:o.guard=none)(hd:o.dst=some d)
  (h:∀w',(any=true\/S w')->(execOp (ev n L) o).run P w'=.ok (.value v) w') (hS:any=true\/S w) (k:p.wpW m P ops S T QQ false (act n (upd L d v) D) w):
  Plan.wpW m P ops S T QQ false (.pure any i p) (act n L D) w:=by
 refine⟨o,v,ho,.inl ⟨by simp[Region.wanted,hg],fun w' hw'=>by rw[yZ];exact h w' hw'⟩,hS,?_⟩;rw[hd,yL];exact k
theorem AAB{any:Bool}{i:Nat}{p:Plan}{o:Oper}{d j:Nat}{b:Bool}{oj:Oper}{t:Nat}{v u:Value}(ho:ops[i]?=some o)(hg:o.guard=some (j,b))(hj:ops[j]?=some oj)(hdj:oj.dst=some t)(ht:Nat.blt t n=true)
  (hv:L t=u) (hb:u=.bool b) (hd:o.dst=some d)
  (h:∀w',(any=true\/S w')->(execOp (ev n L) o).run P w'=.ok (.value v) w') (hS:any=true\/S w) (k:p.wpW m P ops S T QQ false (act n (upd L d v) D) w):
  Plan.wpW m P ops S T QQ false (.pure any i p) (act n L D) w:=by
 refine⟨o,v,ho,.inl ⟨?_,fun w' hw'=>by rw[yZ];exact h w' hw'⟩,hS,by rw[hd,yL];exact k⟩;simp[Region.wanted,hg,yielded,hj,hdj,zi n L D t ht,hv,hb]
theorem yD{any:Bool}{i:Nat}{p:Plan}{o:Oper}{d j:Nat}{b:Bool}{oj:Oper}{t:Nat}{u:Value}(ho:ops[i]?=some o)(hg:o.guard=some (j,b))(hj:ops[j]?=some oj)(hdj:oj.dst=some t)(ht:Nat.blt t n=true)
  (hv:L t=u) (hb:u≠.bool b) (hd:o.dst=some d) (hS:any=true\/S w) (k:p.wpW m P ops S T QQ false (act n (upd L d undef) D) w):
  Plan.wpW m P ops S T QQ false (.pure any i p) (act n L D) w:=by
 refine⟨o,undef,ho,.inr ⟨?_,rfl⟩,hS,by rw[hd,yL];exact k⟩;simp only[Region.wanted,hg,yielded,hj,hdj,AP,zi n L D t ht,hv];cases u<;>simp_all
theorem AMf{i:Nat}{p:Plan}{o:Oper}(ho:ops[i]?=some o)
  (h:wpList P ops (fun e a' w'=>match e with|.normal=>(i∉T->S w->S w')/\p.wpW m P ops S T QQ false a' w'|_=>False) [o] (act n L D) w):
  Plan.wpW m P ops S T QQ false (.eff i p .stop) (act n L D) w:=by
 refine⟨?_,trivial⟩;unfold opW wpOpIn;simp only[ho];unfold wpList at h;split
 ·rename_i hw
  rw[if_pos hw]at h;rcases h with h|⟨_,_,_,h⟩
  case inr=>exact h.elim
  unfold Oper.wp at h;unfold Oper.wpIn;refine⟨fun _ _=>trivial,?_⟩;rw[show Fence.wide.round=none from rfl,Oper.semAt_none];generalize(execOp (act n L D).eval o).run P w=r at*
  have fin:∀a' w',wpList P ops (fun e a' w'=>match e with|.normal=>(i∉T->S w->S w')/\p.wpW m P ops S T QQ false a' w'|_=>False) [] a' w'->(i∉T->S w->S w')/\p.wpW m P ops S T QQ false a' w':=by
   intro a' w' hh;unfold wpList at hh;exact hh
  have hd:Fence.wide.depth.isSome=true->1<=m:=fun h=>by simp[Fence.wide]at h
  cases r with
  |ok q w'=>
   cases q<;>simp only[Oper.upon,Oper.uponIn]at h⊢
   case value=>exact fin _ _ h
   case skip=>exact fin _ _ h
   case defer=>exact fin _ _ h
   case enter f args=>exact⟨hd,(callsIn_wide.2 h).mono fun e w'' he=>by cases e<;>first|exact fin _ _ he|exact he.elim|(obtain⟨_,_,he⟩:=he;exact he.elim)⟩
   case row row args=>exact⟨hd,fun c cs _=>by
    obtain⟨v,w'',hr,hs⟩:=h c cs;exact⟨v,w'',fin _ _ hr,stepsIn_wide.2 hs⟩⟩
  |halt x w'=>cases x<;>simp only[Oper.upon]at h
 ·rename_i hw
  rw[if_neg hw]at h;unfold wpList at h;exact⟨fun _ _=>trivial,h⟩
theorem AMg{i:Nat}{p:Plan}{o:Oper}{d j:Nat}{b:Bool}{oj:Oper}{t:Nat}{u:Value}(ho:ops[i]?=some o)(hg:o.guard=some (j,b))(hj:ops[j]?=some oj)(hdj:oj.dst=some t)(ht:Nat.blt t n=true)
  (hv:L t=u) (hb:u≠.bool b) (hd:o.dst=some d) (k:p.wpW m P ops S T QQ false (act n (upd L d undef) D) w):Plan.wpW m P ops S T QQ false (.eff i p .stop) (act n L D) w:=
 AMf ho (gfk hg hj hdj ht hv hb hd (nl ⟨fun _ h=>h,k⟩))
theorem pyw{i:Nat}{p:Plan}{o:Oper}{d j l:Nat}{b:Bool}{oj:Oper}{t:Nat}{u:Value}{fn:FuncId}{tmps:Array Value}{assign body:Code}{R:Ending->World->Prop}(ho:ops[i]?=some o)(hg:o.guard=some (j,b))(hj:ops[j]?=some oj)(hdj:oj.dst=some t)(ht:Nat.blt t n=true)
  (hv:L t=u) (hb:u=.bool b) (hd:o.dst=some d) (hT:i∈T)
  (h:(execOp (ev n L) {o with guard:=none}).run P w=.ok (.round l fn tmps assign body) w) (hr:RoundIn Fence.wide (m-1) P l fn tmps assign body w R)
  (k:∀e w',R e w'->∃v,e=.returned v/\p.wpW m P ops S T QQ false (act n (upd L d v) D) w'):Plan.wpW m P ops S T QQ false (.eff i p .stop) (act n L D) w:=by
 refine⟨?_,trivial⟩;unfold opW wpOpIn;simp only[ho];have hw:Region.wanted o (yielded ops (act n L D).tmps)=true:=by simp[Region.wanted,hg,yielded,hj,hdj,zi n L D t ht,hv,hb]
 rw[if_pos hw];unfold Oper.wpIn;refine⟨fun _ _=>trivial,?_⟩;rw[show Fence.wide.round=none from rfl,Oper.semAt_none,yZ];have h':(execOp (ev n L) o).run P w=.ok (.round l fn tmps assign body) w:=h;rw[h'];simp only[Oper.uponIn];refine⟨fun h=>by simp[Fence.wide]at h,hr.mono fun e w' he=>?_⟩;obtain⟨v,rfl,hk⟩:=k e w' he;simp only[hd,yL];exact⟨fun h=>(h hT).elim,hk⟩
end
section
variable {B b N:Nat}{w w1 w2:World}
theorem KpOk.belx:KpOk B (BelX B b b):=⟨BelX.trans,fun h k=>BelX.of k h,fun h _ k=>BelX.refl.chg k h⟩
theorem Okb.belx{w0:World}{N b c:Nat}(h0:N<=w0.heap.size)(hN:N<=B):Okb B (fun w=>BelX N b c w0 w):=⟨fun h k=>h.ext k (Nat.le_trans h0 h.size),fun h hl _ _ k=>h.chg k (by omega)⟩
theorem Mp.belx{κ ν:Type}[DecidableEq κ][Enc κ][Flat κ][Key κ][Enc ν][Flat ν]{q:Nat}{l:List (κ×ν)}{c:Nat}(h:Mp w q l)(k:BelX N b c w w1)(hq:q<N)(h1:q≠b)(h2:q≠c):Mp w1 q l:=h.same (k.block q hq h1 h2)
end
section
variable {w:World}{b o:Nat}
theorem Cs.fst{l1 l2:List Value}(h:Cs w b o (l1++l2)):Cs w b o l1:=fun j c hc=>h j c (by rw[List.getElem?_append_left (List.getElem?_eq_some_iff.1 hc).1];exact hc)
theorem Cs.snd{l1 l2:List Value}(h:Cs w b o (l1++l2)):Cs w b (o+l1.length) l2:=fun j c hc=>by
 have:=h (l1.length+j) c (by rw[List.getElem?_append_right (by omega)];simpa using hc);rwa [show o+(l1.length+j)=o+l1.length+j by omega]at this
theorem Cs.mid{α:Type}[Enc α][Flat α]{m:Nat}{l1 l2:List Value}{X:Ar m α}(h:Cs w b o (l1++(X.l.flatMap Flat.enc++l2))):Cs w b (o+l1.length) (X.l.flatMap Flat.enc):=h.snd.fst
end
structure BelP(ok:Nat->Prop)(N:Nat)(w w':World):Prop where
 os:w'.os=w.os
 tape:w'.tape=w.tape
 output:w'.output=w.output
 size:w.heap.size<=w'.heap.size
 block:∀k,k<N->ok k->w'.heap[k]?=w.heap[k]?
section
variable {ok ok':Nat->Prop}{N M B b:Nat}{w w1 w2:World}
theorem BelP.refl:BelP ok N w w:=⟨rfl,rfl,rfl,Nat.le_refl _,fun _ _ _=>rfl⟩
theorem BelP.trans(h:BelP ok N w w1)(k:BelP ok N w1 w2):BelP ok N w w2:=
 ⟨k.os.trans h.os,k.tape.trans h.tape,k.output.trans h.output,Nat.le_trans h.size k.size,fun q hq h1=>(k.block q hq h1).trans (h.block q hq h1)⟩
theorem BelP.mono(h:BelP ok N w w1)(hM:M<=N):BelP ok M w w1:=⟨h.os,h.tape,h.output,h.size,fun q hq h1=>h.block q (by omega) h1⟩
theorem BelP.weak(h:BelP ok N w w1)(hk:∀q,q<M->ok' q->q<N/\ok q):BelP ok' M w w1:=⟨h.os,h.tape,h.output,h.size,fun q hq h1=>h.block q (hk q hq h1).1 (hk q hq h1).2⟩
theorem BelP.ext(h:BelP ok N w w1)(k:Ext w1 w2)(hN:N<=w1.heap.size):BelP ok N w w2:=
 ⟨k.os.trans h.os,k.tape.trans h.tape,k.output.trans h.output,Nat.le_trans h.size k.size,fun q hq h1=>(k.block q (by omega)).trans (h.block q hq h1)⟩
theorem BelP.of(k:Ext w w1)(hN:N<=w.heap.size):BelP ok N w w1:=BelP.refl.ext k hN
theorem BelP.chg(h:BelP ok N w w1)(k:Chg b w1 w2)(hb:N<=b\/¬ok b):BelP ok N w w2:=
 ⟨k.os.trans h.os,k.tape.trans h.tape,k.output.trans h.output,by rw[k.size];exact h.size,fun q hq h1=>(k.other q fun e=>by subst e;rcases hb with hb|hb;omega;exact hb h1).trans (h.block q hq h1)⟩
theorem BelP.gr{row:Option Nat}(h:BelP ok N w w1)(k:w1.grownBy w2 row)(hN:N<=w1.heap.size)(hr:∀q,row=some q->N<=q\/¬ok q):BelP ok N w w2:=
 ⟨k.os.trans h.os,k.tape.trans h.tape,k.output.trans h.output,Nat.le_trans h.size k.size,fun q hq h1=>(k.block q (by omega) fun e=>by rcases hr q e.symm with h2|h2;omega;exact h2 h1).trans (h.block q hq h1)⟩
theorem BelP.below(h:BelP ok N w w1)(hB:B<=N)(hk:∀q,q<B->ok q):Below B w w1:=⟨h.os,h.tape,h.output,h.size,fun q hq=>h.block q (by omega) (hk q hq)⟩
theorem BelP.tak(h:BelP ok N w w1)(k:Tak B w1 w2)(hB:N<=B):BelP ok N w w2:=⟨k.os.trans h.os,k.tape.trans h.tape,k.output.trans h.output,by rw[k.size];exact h.size,fun q hq h1=>(k.low q (by omega)).trans (h.block q hq h1)⟩
theorem BelP.asg{w0:World}(h:BelP ok N w0 w)(k:Asg B w w1)(hN:N<=w.heap.size)(hB:N<=B):BelP ok N w0 w1:=by
 obtain⟨W1,l,o,hl,h1,h2,h3,_,h4⟩:=k;exact(h.ext h1 hN).chg h4 (.inl (by omega))
theorem KpOk.belp:KpOk B (BelP ok B):=⟨BelP.trans,fun h k=>BelP.of k h,fun h _ k=>BelP.refl.chg k (.inl h)⟩
theorem Okb.belp{w0:World}(h0:N<=w0.heap.size)(hN:N<=B):Okb B (fun w=>BelP ok N w0 w):=⟨fun h k=>h.ext k (Nat.le_trans h0 h.size),fun h hl _ _ k=>h.chg k (.inl (by omega))⟩
theorem Bx.belp{T:TypeId}{cs:List Value}(h:Bx w b T cs)(k:BelP ok N w w1)(hb:b<N)(h1:ok b):Bx w1 b T cs:=(k.block b hb h1).trans h
theorem Mp.belp{κ ν:Type}[DecidableEq κ][Enc κ][Flat κ][Key κ][Enc ν][Flat ν]{l:List (κ×ν)}(h:Mp w b l)(k:BelP ok N w w1)(hb:b<N)(h1:ok b):Mp w1 b l:=h.same (k.block b hb h1)
theorem Row.belp{α:Type}[Enc α][Flat α]{e:TypeId}{base:Nat}{v:Value}{l:List α}(h:Row e base w v l)(k:BelP ok N w w1)(hv:∀q,v.ownBlock=some q->q<N/\ok q):Row e base w1 v l:=by
 refine⟨h.1,?_⟩;rcases h.2 with hn|⟨g,cap,cur,e1,hb,hg,r⟩
 ·exact .inl hn
 ·refine .inr ⟨g,cap,cur,e1,hb,?_,r⟩
  have:=hv g (by rw[e1];rfl);rw[k.block g this.1 this.2];exact hg
theorem BelP.kf(k:BelP ok w.heap.size w w1)(hk:∀q,B<=q->ok q):KeepsFrom B w w1:=⟨k.size,fun q _ hB hq _=>(k.block q (Array.getElem?_eq_some_iff.1 hq).1 (hk q hB)).trans hq⟩
theorem Mks.belp{D:List Deferred}(h:Mks B D w)(k:BelP ok w.heap.size w w1)(hk:∀q,B<=q->ok q):Mks B D w1:=by
 obtain⟨rs,e,hn,h⟩:=h;exact⟨rs,e,hn,fun r hr=>⟨(h r hr).1,(k.block r (Array.getElem?_eq_some_iff.1 (h r hr).2).1 (hk r (h r hr).1)).trans (h r hr).2⟩⟩
end
section
variable {P:Program}{Q:Exit->Act->World->Prop}{l m n:Nat}{L:Fr}{D:List Deferred}{w:World}
theorem AMh{id:Nat}{k:List Oper}(S:World->World->Prop)(T:List Nat)(p:Plan)(hm:P.follows .mixedOrders=true)
  (hok:(noDefer k&&(Region.noSelect k.toArray&&p.ok k.toArray T false k.length (Array.replicate k.length false)))=true)
  (h:∀wd,Ext w wd->p.wp P k.toArray (S wd) T (Q .normal) false (act n L D) wd):(Code.region id k.toArray true).wpIn (RF l) m P Q (act n L D) w:=by
 simp only[Bool.and_eq_true]at hok;refine wpIn_region_any hm (AJ3 (AEg hok.1) _ _ _ _ ?_);have:=Plan.sound (P:=P) (S:=S w.drew) (T:=T) (Q:=Q .normal) hok.2.1 k.length p _ (act n L D) w.drew ClosedL.none hok.2.2 (h w.drew (Ext.drew w));have:=AEM (Q:=AFp (Q .normal)) (S:=S w.drew) (T:=T) k.length (Array.replicate k.length false) (act n L D) w.drew this;simpa using this
end
end
section
section
variable {P:Program}{Q:Exit->Act->World->Prop}{n:Nat}{L:Fr}{D:List Deferred}{w:World}{ops:Array Oper}{rest:List Oper}{ty:TypeId}{pos:String}{af:Array Edge}{x y:Operand}
theorem AJo{α:Type}[Enc α][Flat α]{l:List α}{i:Int}{y0:α}(y1:α)(k:Nat){v:Value}{t e:TypeId}{b o off len cap base bytes:Nat}{z:List Value}(hp:ev n L x=.pointer (some ⟨b,o,none⟩))(ho:o=off+i.toNat*Enc.n α+k)(hy:ev n L y=v)
  (hv:v.cells=#[v]) (hv1:Value.oneCell' v=true) (ht:TI P t false 1 bytes z) (hr:Row e base w (.slice (some ⟨b,off,none⟩) len cap) l) (hi:Md.ix l i=some y0) (he:Flat.enc y1=(Flat.enc y0).set k v) (hk:k<Enc.n α)
  (c:∀w',Chg b w w'->Row e base w' (.slice (some ⟨b,off,none⟩) len cap) (vV l i y1)->wpList P ops Q rest (act n L D) w'):
  wpList P ops Q ({dst:=none,op:=.store t x y,type:=ty,pos:=pos,after:=af,guard:=none}::rest) (act n L D) w:=by
 obtain⟨h0,h1,h2⟩:=yY hi;have hil:i.toNat<l.length:=(List.getElem?_eq_some_iff.1 h2).1;have hlen:=hr.1;rcases hr.2 with⟨hn,_⟩|⟨g,cap',cur,e1,hb,hg,hnc,hcm,hsz,hcur⟩
 ·cases hn
 ·cases e1
  subst ho;have hle:=Nat.mul_le_mul_right (Enc.n α) (show i.toNat+1<=l.length from hil);have hle2:=Nat.mul_le_mul_right (Enc.n α) hnc;rw[Nat.add_mul,Nat.one_mul]at hle;have hcl:cur.toList.length=cap*Enc.n α:=by simpa using hsz
  have hg':Bx w b e cur.toList:=by simpa[Bx]using hg
  have hxl:(l.flatMap Flat.enc).length=l.length*Enc.n α:=Flat.flen l;refine sst (vs:=[v]) hp hy hv ht hg' rfl (by simp[hv1]) (by rw[hcl];simp only[List.length_singleton];omega) fun w' hc hb'=>c w' hc ?_;refine⟨Flat.flen _,.inr ⟨b,cap,_,by rw[vV,List.length_set],hb,hb',by rw[vV,List.length_set];exact hnc,hcm,?_,?_⟩⟩
  ·simp only[X9,List.size_toArray,List.length_append,List.length_take,List.length_drop,List.length_singleton]
   omega
  ·rw[vV,List.length_set,<-ADN l i.toNat y1 hil]
   apply List.ext_getElem?;intro j;have hfl:(Flat.enc y1:List Value).length=Enc.n α:=Flat.len _;rw[show(X9 cur.toList (0+i.toNat*Enc.n α+k) [v]).toArray.toList=X9 cur.toList (0+i.toNat*Enc.n α+k) [v]from rfl,List.getElem?_take,AEN (by rw[hcl];simp only[List.length_singleton];omega),AEN (by rw[hfl,hxl];omega)];rw[hfl];simp only[Nat.zero_add,List.length_singleton];by_cases hj:j<l.length*Enc.n α
   ·rw[if_pos hj]
    by_cases h1':i.toNat*Enc.n α<=j/\j<i.toNat*Enc.n α+Enc.n α
    ·rw[if_pos h1',he,List.getElem?_set]
     have hkl:k<(Flat.enc y0:List Value).length:=by rw[Flat.len];exact hk
     by_cases h3:i.toNat*Enc.n α+k<=j/\j<i.toNat*Enc.n α+k+1
     ·rw[if_pos h3,if_pos (by omega),if_pos (by omega)]
      have:j-(i.toNat*Enc.n α+k)=0:=by omega
      rw[this];rfl
     ·rw[if_neg h3,if_neg (by omega)]
      have hlt:j-i.toNat*Enc.n α<(Flat.enc y0:List Value).length:=by rw[Flat.len];omega
      have:=AFV l i.toNat y0 (j-i.toNat*Enc.n α) _ h2 (List.getElem?_eq_getElem hlt);rw[show i.toNat*Enc.n α+(j-i.toNat*Enc.n α)=j by omega,<-hcur,List.getElem?_take,if_pos hj]at this;rw[this,List.getElem?_eq_getElem hlt]
    ·rw[if_neg h1',if_neg (by omega),<-hcur,List.getElem?_take,if_pos hj]
   ·rw[if_neg hj,if_neg (by omega),<-hcur,List.getElem?_take,if_neg hj]
end
theorem AMi{l1 E vs:List Value}{k:Nat}:X9 (l1++E) (l1.length+k) vs=l1++X9 E k vs:=by
 unfold X9;rw[List.take_append,List.take_of_length_le (by omega),show l1.length+k-l1.length=k by omega,show l1.length+k+vs.length=l1.length+(k+vs.length) by omega,List.drop_append,List.drop_of_length_le (by omega),show l1.length+(k+vs.length)-l1.length=k+vs.length by omega];simp
section
variable {P:Program}{Q:Exit->Act->World->Prop}{n:Nat}{L:Fr}{D:List Deferred}{w:World}{ops:Array Oper}{rest:List Oper}{ty:TypeId}{pos:String}{af:Array Edge}{x y:Operand}
theorem AQz{α:Type}[Enc α][Flat α]{m:Nat}{X:Ar m α}{l1:List Value}{i:Int}{y0 v:α}{t T:TypeId}{agg:Bool}{b o bytes:Nat}{z:List Value}{vv:Value}(hp:ev n L x=.pointer (some ⟨b,o,none⟩))(ho:o=l1.length+i.toNat*Enc.n α)(hy:ev n L y=vv)(hv:vv.cells=(Flat.enc v).toArray)
  (ht:TI P t agg (Enc.n α) bytes z) (hb:Bx w b T (l1++X.l.flatMap Flat.enc)) (hi:Md.ix X.l i=some y0)
  (k:∀w',Chg b w w'->Bx w' b T (l1++(xK X i v).l.flatMap Flat.enc)->wpList P ops Q rest (act n L D) w'):
  wpList P ops Q ({dst:=none,op:=.store t x y,type:=ty,pos:=pos,after:=af,guard:=none}::rest) (act n L D) w:=by
 subst ho;obtain⟨h0,h1,h2⟩:=yY hi;have hil:i.toNat<X.l.length:=(List.getElem?_eq_some_iff.1 h2).1;have e:=ADN X.l i.toNat v hil;refine sst hp hy hv ht hb (Flat.len v) (List.all_eq_true.2 (Flat.one v)) ?_ fun w' hc hb'=>k w' hc ?_
 ·rw[Flat.len,List.length_append,Flat.flen]
  have:=Nat.mul_le_mul_right (Enc.n α) (show i.toNat+1<=X.l.length from hil);rw[Nat.add_mul]at this;omega
 ·rw[AMi,e]at hb'
  exact hb'
end
theorem fvi{n:Nat}{L:Fr}{x:Operand}{a:Int}(h:ev n L x=.int .i64 a):ev n L x=fv a:=h
theorem BelP.split{w w':World}{b:Nat}(h:BelP (fun q=>q≠b) w.heap.size w w')(hb:b<w.heap.size):∃wm,Ext w wm/\Chg b wm w':=by
 have hs:=h.size;have hbl:b<w'.heap.size:=Nat.lt_of_lt_of_le hb hs;refine⟨{w' with heap:=w'.heap.set b w.heap[b] hbl},⟨h.os,h.tape,h.output,by simpa using hs,fun k hk=>?_⟩,rfl,rfl,rfl,by simp,fun k hk=>?_⟩
 ·by_cases e:k=b
  ·subst e;simp[hk,hbl]
  ·show(w'.heap.set b w.heap[b] hbl)[k]?=_
   rw[Array.getElem?_set_ne _ (Ne.symm e)];exact h.block k hk e
 ·show w'.heap[k]?=(w'.heap.set b w.heap[b] hbl)[k]?
  rw[Array.getElem?_set_ne _ (Ne.symm hk)]
theorem Cs.last{w:World}{b o:Nat}{α:Type}[Enc α][Flat α]{m:Nat}{l1:List Value}{X:Ar m α}(h:Cs w b o (l1++X.l.flatMap Flat.enc)):Cs w b (o+l1.length) (X.l.flatMap Flat.enc):=
 Cs.mid (l2:=[]) (by rw[List.append_nil];exact h)
theorem ASW{P:Program}{α:Type}[Enc α]{w:World}{t e:TypeId}{agg:Bool}{bytes:Nat}{zz:List Value}{a:Option Addr}{len cap:Nat}{l r:List α}{i:Int}(hl:RV w (.slice a len cap) l)(hr:ACD l i=some r)(ht:P.underlying t=some (.slice e))(he:TI P e agg (Enc.n α) bytes zz):
  ∃a',RV w (.slice a' r.length r.length) r/\∀(w':World)(n:Nat)(L:Fr)(x y z:Operand)(ty:TypeId)(pos:String)(af:Array Edge)(dst:Option Nat)(gdd:Option (Nat×Bool)),ev n L x=.slice a l.length cap->ev n L y=.int .i64 i->ev n L z=.int .i64 i->
   (execOp (ev n L) {dst:=dst,op:=.slice t x none (some y) (some z),type:=ty,pos:=pos,after:=af,guard:=gdd}).run P w'=.ok (.value (.slice a' r.length r.length)) w':=by
 obtain⟨h0,h1,rfl⟩:=AHo hr;obtain⟨rfl,h2,h3⟩:=hl.cap;have hle:i.toNat<=l.length:=by omega
 have hlt:(l.take i.toNat).length=i.toNat:=by rw[List.length_take];omega
 refine⟨if i.toNat=0 then a else a.map (·.add (0*Enc.n α)),?_,?_⟩
 ·refine RV.of1 (Nat.le_refl _) (by omega) ?_
  rcases hl.els with rfl|⟨b,off,rfl,hb,hlt2,h⟩
  ·exact .inl (by simp)
  ·by_cases hc:i.toNat=0
   ·refine .inl (List.eq_nil_of_length_eq_zero (by omega))
   ·refine .inr ⟨b,off,by simp[hc,Addr.add],hb,hlt2,fun j x hx=>?_⟩
    rw[List.getElem?_take]at hx;split at hx
    ·exact h _ _ hx
    ·cases hx
 ·intro w' n L x y z ty pos af dst gdd hx hy hz
  rw[hlt];have h4:i<=(cap:Int):=by omega
  have h5:max i 0=i:=Int.max_eq_left h0;simp[execOp,Instr.sliceAt,run_underlying ht,Instr.slice,hx,hy,hz,h5,Instr.sliceBounds,Instr.sliceBound,asIntOf,he.size,h0,h4]
end

end Go.Md
end
section
namespace Go.Proofs.YtfmelbioccbdoaaGreat
open Go Go.Md Go.RowKit
def vX(F:Nat)(x0:(List Int))(x1:(Int->Option Bool)):Nat->Int->Option (Sum Int (Unit))
 |0,_=>none
 |m+1,y1=>
  if(decide (y1<(x0.length:Int)))=true then
   (ix x0 y1)>>=fun x3=>
   (x1 x3)>>=fun x4=>
   if x4=true then
    some (.inl y1)
   else
    vX F x0 x1 m (BA (y1+1))
  else
   some (.inr ())
def AAq(F:Nat)(x0:(List Int))(x1:(Int->Option Bool)):Option Int:=
 ((vX F x0 x1 F 0)>>=fun o=>match o with
  |.inl r=>some r
  |.inr ()=>
   some (-1))
def vY(F:Nat)(x0:(List Int))(x1:(Int->Option Bool)):Option Bool:=
 (AAq F x0 x1)>>=fun x3=>
 some (decide (0<=x3))
def ADP(F:Nat)(x0:(Int×(List (Int×Int×Int)))):Nat->(List (Int×Int×Int))->Int->Option ((List (Int×Int×Int)))
 |0,_,_=>none
 |m+1,y1,y2=>
  if(decide (y2<=x0.1))=true then
   (app 24 y1 ([(0,y2,100000),(y2,0,0)]:List (Int×Int×Int)))>>=fun x3=>
   ADP F x0 m x3 (BA (y2+1))
  else
   some y1
def AI9(F:Nat)(x0:(Int×(List (Int×Int×Int)))):Option (List (Int×Int×Int)):=
 (app 24 ([]:List (Int×Int×Int)) x0.2)>>=fun x2=>
 ((ADP F x0 F x2 1)>>=fun z1=>
 some z1)
end Go.Proofs.YtfmelbioccbdoaaGreat
end
section
namespace Go.Proofs.YtfmelbioccbdoaaGreat
open Go Go.Md Go.RowKit
attribute [local irreducible] Go.wpList Go.Code.wp Go.Calls Go.Md.vZ Go.Md.Mt Go.Md.xE Go.Md.uT Go.Code.wpIn
theorem AWM{w0:World}{v0:Value}{x0:(List Int)}(r0:RV w0 v0 x0){v1:Value}{x1:Int->Option Bool}(h1:FnB Tryz.prog Int w0 v1 x1){F:Nat}{r:Int}(hF:AAq F x0 x1=some r):
  Calls Tryz.prog 251 [v0,v1].toArray w0 (Gy fun v w'=>v=.int .i64 r/\Ext w0 w'):=by
 unfold AAq at hF;have hz:=r0.sl;obtain⟨a1,cq1,rfl,-,-,-⟩:=hz;refine Ko (n:=19) Tryz.func251 rfl rfl rfl<|Zr<|Za<|nl<|wp_seq<|Zr<|Zm<|Zv (DF rfl Tryz.underlying41)<|Zm<|nl<|bS hF fun o1 hB1 hF=>ct (fun L w=>o1=.inr ()/\Ext w0 w) ?_ ?_
 ·refine wp_block<|lp (I:=fun m L w=>∃y1:Int,vX F x0 x1 m y1=some o1/\L 8=.int .i64 y1/\L 0=.slice a1 x0.length cq1/\L 1=v1/\L 7=.int .i64 (x0.length:Int)/\Ext w0 w) F ⟨_,hB1,rfl,rfl,rfl,rfl,(Ext.refl _)⟩ ?_;rintro m L w1⟨y1,hB1,l8_i1,l0_i1,l1_i1,l7_i1,K0_i1⟩;rcases m with _|m
  ·rw[vX]at hB1;cases hB1
  rw[vX]at hB1;have h3:=h1.ext K0_i1;refine Zr<|Zv (Jr l8_i1 l7_i1)<|nl<|wp_seq<|cnd rfl (fun h4=>?_) (fun h4=>?_)
  ·have hB1:=BP hB1 h4;refine wp_skip<|wp_seq<|wp_block<|Zr<|Zm<|Za<|nl<|Zr<|Zm<|Zm<|Zm<|bS hB1 fun x3 Ex3 hB1=>?_;have hz:=(RV.els r0).ix Ex3;obtain⟨b3,f1,cs3,e1,i2,i3,q3,hc1⟩:=hz;cases e1;obtain rfl:=q3;have hc2:=hc1.ext K0_i1;refine Zv (CG l0_i1 l8_i1 Tryz.underlying41 Ap i2 i3)<|Zv (Ac rfl Ap (hc2.at 0 rfl))<|bS hB1 fun x4 Ex4 hB1=>?_;have hz:=id h3;obtain⟨g1,fs1,cs4,e2,hg1,hu1⟩:=hz;refine Zc (xcv (l1_i1.trans e2) hg1 (mc rfl mn) rfl) (hu1 _ _ _ _ (Ext.refl _) (RVo.int.2 rfl) Ex4) ?_;rintro _ w2⟨rfl,hx1⟩;have k1:=K0_i1.tr hx1;refine nl<|cnd rfl (fun h6=>?_) (fun h6=>?_)
   ·have hB1:=BP hB1 h6;refine Zr<|Zm<|Za<|nl<|?_;cases hB1;have hF:=(show some _=some _ from hF);cases hF;exact wp_ret<|rt rfl (.tmp l8_i1 rfl .nil) ⟨rfl,k1⟩
   ·have hB1:=Bh hB1 h6;refine wp_skip<|rg<|Zv (FH l8_i1 rfl)<|Zm<|nl<|lq m (Nat.lt_succ_self _)<|?_;exact⟨_,hB1,rfl,l0_i1,l1_i1,l7_i1,k1⟩
  ·have hB1:=Bh hB1 h4;refine wp_exit<|?_;cases hB1;refine lf<|?_;exact⟨rfl,K0_i1⟩
 rintro L w3⟨rfl,K0_j1⟩;refine Zr<|Za<|nl<|?_;cases hF;exact wp_ret<|Zw rfl rfl rfl ⟨rfl,K0_j1⟩
theorem APh{w0:World}{v0:Value}{x0:(List Int)}(r0:RV w0 v0 x0){v1:Value}{x1:Int->Option Bool}(h1:FnB Tryz.prog Int w0 v1 x1){F:Nat}{r:Bool}(hF:vY F x0 x1=some r):
  Calls Tryz.prog 146 [v0,v1].toArray w0 (Gy fun v w'=>v=.bool r/\Ext w0 w'):=by
 unfold vY at hF;have hz:=r0.sl;obtain⟨a1,cq1,rfl,-,-,-⟩:=hz;refine Ko (n:=9) Tryz.func146 rfl rfl rfl<|Zr<|Za<|nl<|Zr<|Zm<|Zm<|bS hF fun x3 Ex3 hF=>Zc (xc AUR (mc rfl (mc rfl mn))) (AWM r0 h1 Ex3) ?_;rintro _ w1⟨rfl,hx1⟩;refine Zv (ADK rfl rfl)<|Za<|nl<|?_;cases hF;exact wp_ret<|Zw rfl rfl rfl ⟨rfl,hx1⟩
end Go.Proofs.YtfmelbioccbdoaaGreat
end
section
namespace Go.Proofs.YtfmelbioccbdoaaGreat
open Go Go.Md Go.RowKit
attribute [local irreducible] Go.wpList Go.Code.wp Go.Calls Go.Md.vZ Go.Md.Mt Go.wpListIn Go.Code.wpIn

end Go.Proofs.YtfmelbioccbdoaaGreat
end
section
namespace Go.Proofs.YtfmelbioccbdoaaGreat
open Go Go.Md Go.RowKit


end Go.Proofs.YtfmelbioccbdoaaGreat
end
section
namespace Go.Proofs.YtfmelbioccbdoaaGreat
open Go Go.Md Go.RowKit
attribute [local irreducible] Go.wpList Go.Code.wp Go.Calls Go.Md.vZ Go.Md.Mt

end Go.Proofs.YtfmelbioccbdoaaGreat
end
section
namespace Go.Proofs
open Go.Shelf
section
def Tryz.lays189_ren:Go.Shelf.Ren:=⟨fun|189=>98|125=>207|257=>206|128=>292|129=>293|294=>283|295=>284|296=>285|297=>286|298=>287|299=>288|216=>289|300=>290|301=>291|328=>332|329=>333|330=>334|331=>335|332=>336|215=>337|343=>346|n=>n,fun|28=>41|3=>3|46=>310|0=>0|51=>71|53=>394|4=>4|183=>385|182=>384|131=>390|5=>5|9=>9|218=>432|222=>436|228=>443|229=>444|n=>n,fun|n=>n⟩
theorem Tryz.lays189:Go.Proofs.Lays.n189 Tryz.prog Tryz.lays189_ren:={
 mixed:=by kernel_rfl
 f125:=Tryz.func207.trans (congrArg some (by kernel_rfl))
 f128:=Tryz.func292.trans (congrArg some (by kernel_rfl))
 f129:=Tryz.func293.trans (congrArg some (by kernel_rfl))
 f189:=Tryz.func98.trans (congrArg some (by kernel_rfl))
 f215:=Tryz.func337.trans (congrArg some (by kernel_rfl))
 f216:=Tryz.func289.trans (congrArg some (by kernel_rfl))
 f257:=Tryz.func206.trans (congrArg some (by kernel_rfl))
 f294:=Tryz.func283.trans (congrArg some (by kernel_rfl))
 f295:=Tryz.func284.trans (congrArg some (by kernel_rfl))
 f296:=Tryz.func285.trans (congrArg some (by kernel_rfl))
 f297:=Tryz.func286.trans (congrArg some (by kernel_rfl))
 f298:=Tryz.func287.trans (congrArg some (by kernel_rfl))
 f299:=Tryz.func288.trans (congrArg some (by kernel_rfl))
 f300:=Tryz.func290.trans (congrArg some (by kernel_rfl))
 f301:=Tryz.func291.trans (congrArg some (by kernel_rfl))
 f328:=Tryz.func332.trans (congrArg some (by kernel_rfl))
 f329:=Tryz.func333.trans (congrArg some (by kernel_rfl))
 f330:=Tryz.func334.trans (congrArg some (by kernel_rfl))
 f331:=Tryz.func335.trans (congrArg some (by kernel_rfl))
 f332:=Tryz.func336.trans (congrArg some (by kernel_rfl))
 f343:=Tryz.func346.trans (congrArg some (by kernel_rfl))
 t0:=Tryz.underlying0
 a0:=Tryz.isAgg0
 z0:=Tryz.sizeOf0
 v0:=Tryz.zeroValue0
 t3:=Tryz.underlying3
 a3:=Tryz.isAgg3
 z3:=Tryz.sizeOf3
 v3:=Tryz.zeroValue3
 t4:=Tryz.underlying4
 a4:=Tryz.isAgg4
 z4:=Tryz.sizeOf4
 v4:=Tryz.zeroValue4
 t5:=Tryz.underlying5
 a5:=Tryz.isAgg5
 z5:=Tryz.sizeOf5
 v5:=Tryz.zeroValue5
 t9:=Tryz.underlying9
 a9:=Tryz.isAgg9
 z9:=Tryz.sizeOf9
 v9:=Tryz.zeroValue9
 t28:=Tryz.underlying41
 a28:=Tryz.isAgg41
 z28:=Tryz.sizeOf41
 v28:=Tryz.zeroValue41
 t46:=Tryz.underlying310
 a46:=Tryz.isAgg310
 z46:=Tryz.sizeOf310
 v46:=Tryz.zeroValue310
 t51:=Tryz.underlying71
 a51:=Tryz.isAgg71
 z51:=Tryz.sizeOf71
 v51:=Tryz.zeroValue71
 t53:=Tryz.underlying394
 a53:=Tryz.isAgg394
 z53:=Tryz.sizeOf394
 v53:=Tryz.zeroValue394
 t131:=Tryz.underlying390
 a131:=Tryz.isAgg390
 z131:=Tryz.sizeOf390
 v131:=Tryz.zeroValue390
 t182:=Tryz.underlying384
 a182:=Tryz.isAgg384
 z182:=Tryz.sizeOf384
 v182:=Tryz.zeroValue384
 t183:=Tryz.underlying385
 a183:=Tryz.isAgg385
 z183:=Tryz.sizeOf385
 v183:=Tryz.zeroValue385
 t218:=Tryz.underlying432
 a218:=Tryz.isAgg432
 z218:=Tryz.sizeOf432
 v218:=Tryz.zeroValue432
 t222:=Tryz.underlying436
 a222:=Tryz.isAgg436
 z222:=Tryz.sizeOf436
 v222:=Tryz.zeroValue436
 t228:=Tryz.underlying443
 a228:=Tryz.isAgg443
 z228:=Tryz.sizeOf443
 v228:=Tryz.zeroValue443
 t229:=Tryz.underlying444
 a229:=Tryz.isAgg444
 z229:=Tryz.sizeOf444
 v229:=Tryz.zeroValue444}
open Go.Sort Go.RowKit in
theorem Tryz.slices_Sort_int(blk off cap:Nat)(zs:List Int)(w:World)(hH:Holds (Value.int .i64) w blk off zs.toArray)(hblk:blk<w.heap.size)(hsz:zs.length<4611686018427387904):
  Calls Tryz.prog 98 #[.slice (some ⟨blk,off,none⟩) zs.length cap] w fun e w'=>
   e=.returned (.tuple #[])/\∃n os,w'=grow (putRow (Value.int .i64) (Sort.ahead w n) blk off (zs.mergeSort fun x y=>decide (x<=y)).toArray) os:=Any.slices_Sort_int Tryz.lays189 blk off cap zs w hH hblk hsz
def Tryz.lays108_ren:Go.Shelf.Ren:=⟨fun|108=>250|n=>n,fun|28=>41|3=>3|0=>0|4=>4|n=>n,fun|n=>n⟩
theorem Tryz.lays108:Go.Proofs.Lays.n108 Tryz.prog Tryz.lays108_ren:={
 mixed:=by kernel_rfl
 f108:=Tryz.func250.trans (congrArg some (by kernel_rfl))
 t0:=Tryz.underlying0
 a0:=Tryz.isAgg0
 z0:=Tryz.sizeOf0
 v0:=Tryz.zeroValue0
 t3:=Tryz.underlying3
 a3:=Tryz.isAgg3
 z3:=Tryz.sizeOf3
 v3:=Tryz.zeroValue3
 t4:=Tryz.underlying4
 a4:=Tryz.isAgg4
 z4:=Tryz.sizeOf4
 v4:=Tryz.zeroValue4
 t28:=Tryz.underlying41
 a28:=Tryz.isAgg41
 z28:=Tryz.sizeOf41
 v28:=Tryz.zeroValue41}
open Go.Lib in
theorem Tryz.slices_Index_int(b off n c:Nat)(zs:List Int)(x:Int)(w:World)(hz:n<=zs.length)(hbig:n<=9223372036854775807)(hc:∀j,j<zs.length->w.cell? ⟨b,off+j,none⟩=some (.int .i64 (zs.getD j 0))):
  Calls Tryz.prog 250 #[.slice (some ⟨b,off,none⟩) n c,.int .i64 x] w fun e w'=>e=.returned (.int .i64 (Lib.idxOf (zs.take n) x))/\w'=w:=Any.slices_Index_int Tryz.lays108 b off n c zs x w hz hbig hc
def Tryz.lays107_ren:Go.Shelf.Ren:=⟨fun|107=>144|108=>250|n=>n,fun|28=>41|3=>3|4=>4|0=>0|n=>n,fun|n=>n⟩
theorem Tryz.lays107:Go.Proofs.Lays.n107 Tryz.prog Tryz.lays107_ren:={
 mixed:=by kernel_rfl
 f107:=Tryz.func144.trans (congrArg some (by kernel_rfl))
 f108:=Tryz.func250.trans (congrArg some (by kernel_rfl))
 t0:=Tryz.underlying0
 a0:=Tryz.isAgg0
 z0:=Tryz.sizeOf0
 v0:=Tryz.zeroValue0
 t3:=Tryz.underlying3
 a3:=Tryz.isAgg3
 z3:=Tryz.sizeOf3
 v3:=Tryz.zeroValue3
 t4:=Tryz.underlying4
 a4:=Tryz.isAgg4
 z4:=Tryz.sizeOf4
 v4:=Tryz.zeroValue4
 t28:=Tryz.underlying41
 a28:=Tryz.isAgg41
 z28:=Tryz.sizeOf41
 v28:=Tryz.zeroValue41}
open Go.Lib in
theorem Tryz.slices_Contains_int(b off n c:Nat)(zs:List Int)(x:Int)(w:World)(hz:n<=zs.length)(hbig:n<=9223372036854775807)(hc:∀j,j<zs.length->w.cell? ⟨b,off+j,none⟩=some (.int .i64 (zs.getD j 0))):
  Calls Tryz.prog 144 #[.slice (some ⟨b,off,none⟩) n c,.int .i64 x] w fun e w'=>e=.returned (.bool ((zs.take n).contains x))/\w'=w:=Any.slices_Contains_int Tryz.lays107 b off n c zs x w hz hbig hc
def Tryz.lays113_ren:Go.Shelf.Ren:=⟨fun|113=>134|n=>n,fun|28=>41|3=>3|4=>4|9=>9|20=>20|0=>0|n=>n,fun|n=>n⟩
theorem Tryz.lays113:Go.Proofs.Lays.n113 Tryz.prog Tryz.lays113_ren:={
 mixed:=by kernel_rfl
 f113:=Tryz.func134.trans (congrArg some (by kernel_rfl))
 t0:=Tryz.underlying0
 a0:=Tryz.isAgg0
 z0:=Tryz.sizeOf0
 v0:=Tryz.zeroValue0
 t3:=Tryz.underlying3
 a3:=Tryz.isAgg3
 z3:=Tryz.sizeOf3
 v3:=Tryz.zeroValue3
 t4:=Tryz.underlying4
 a4:=Tryz.isAgg4
 z4:=Tryz.sizeOf4
 v4:=Tryz.zeroValue4
 t9:=Tryz.underlying9
 a9:=Tryz.isAgg9
 z9:=Tryz.sizeOf9
 v9:=Tryz.zeroValue9
 t20:=Tryz.underlying20
 a20:=Tryz.isAgg20
 z20:=Tryz.sizeOf20
 v20:=Tryz.zeroValue20
 t28:=Tryz.underlying41
 a28:=Tryz.isAgg41
 z28:=Tryz.sizeOf41
 v28:=Tryz.zeroValue41}
open Go.Lib in
theorem Tryz.slices_Max_int(b off n c:Nat)(zs:List Int)(w:World)(hn:0<n)(hz:n<=zs.length)(hbig:n<=9223372036854775807)(hc:∀j,j<zs.length->w.cell? ⟨b,off+j,none⟩=some (.int .i64 (zs.getD j 0))):
  Calls Tryz.prog 134 #[.slice (some ⟨b,off,none⟩) n c] w fun e w'=>e=.returned (.int .i64 (Lib.maxOf (zs.take n)))/\w'=w:=Any.slices_Max_int Tryz.lays113 b off n c zs w hn hz hbig hc
def Tryz.lays114_ren:Go.Shelf.Ren:=⟨fun|114=>132|n=>n,fun|28=>41|3=>3|4=>4|9=>9|20=>20|0=>0|n=>n,fun|n=>n⟩
theorem Tryz.lays114:Go.Proofs.Lays.n114 Tryz.prog Tryz.lays114_ren:={
 mixed:=by kernel_rfl
 f114:=Tryz.func132.trans (congrArg some (by kernel_rfl))
 t0:=Tryz.underlying0
 a0:=Tryz.isAgg0
 z0:=Tryz.sizeOf0
 v0:=Tryz.zeroValue0
 t3:=Tryz.underlying3
 a3:=Tryz.isAgg3
 z3:=Tryz.sizeOf3
 v3:=Tryz.zeroValue3
 t4:=Tryz.underlying4
 a4:=Tryz.isAgg4
 z4:=Tryz.sizeOf4
 v4:=Tryz.zeroValue4
 t9:=Tryz.underlying9
 a9:=Tryz.isAgg9
 z9:=Tryz.sizeOf9
 v9:=Tryz.zeroValue9
 t20:=Tryz.underlying20
 a20:=Tryz.isAgg20
 z20:=Tryz.sizeOf20
 v20:=Tryz.zeroValue20
 t28:=Tryz.underlying41
 a28:=Tryz.isAgg41
 z28:=Tryz.sizeOf41
 v28:=Tryz.zeroValue41}
open Go.Lib in
theorem Tryz.slices_Min_int(b off n c:Nat)(zs:List Int)(w:World)(hn:0<n)(hz:n<=zs.length)(hbig:n<=9223372036854775807)(hc:∀j,j<zs.length->w.cell? ⟨b,off+j,none⟩=some (.int .i64 (zs.getD j 0))):
  Calls Tryz.prog 132 #[.slice (some ⟨b,off,none⟩) n c] w fun e w'=>e=.returned (.int .i64 (Lib.minOf (zs.take n)))/\w'=w:=Any.slices_Min_int Tryz.lays114 b off n c zs w hn hz hbig hc
open Go.RowKit Go.Sort in
theorem Tryz.slices_Sort_int_none(p:Option Addr)(cap:Nat)(w:World):
  Calls Tryz.prog 98 #[.slice p 0 cap] w fun e w'=>e=.returned (.tuple #[])/\w'=w:=Any.slices_Sort_int_none Tryz.lays189 p cap w
end
end Go.Proofs
end
section
namespace Go.Proofs.YtfmelbioccbdoaaGreat
open Go Go.Md Go.RowKit
attribute [local irreducible] Go.wpList Go.Code.wp Go.Calls Go.Md.vZ Go.Md.Mt
def AFs(a:Int):List Int->List Int
 |[]=>[a]
 |b::l=>if a<=b then a::b::l else b::AFs a l
def ACs:List Int->List Int
 |[]=>[]
 |a::l=>AFs a (ACs l)
theorem AGL{a:Int}:∀{l:List Int},(AFs a l).Perm (a::l)
 |[]=>List.Perm.refl _
 |b::l=>by
  unfold AFs;split
  ·exact List.Perm.refl _
  ·exact(List.Perm.cons b AGL).trans (List.Perm.swap a b l)
theorem AFt:∀{l:List Int},(ACs l).Perm l
 |[]=>List.Perm.refl _
 |a::l=>AGL.trans (List.Perm.cons a AFt)
theorem AHA{a:Int}:∀{l:List Int},l.Pairwise (·<=·)->(AFs a l).Pairwise (·<=·)
 |[],_=>by simp[AFs]
 |b::l,h=>by
  unfold AFs;rw[List.pairwise_cons]at h;split
  ·rename_i hab
   rw[List.pairwise_cons];refine⟨fun x hx=>?_,by rw[List.pairwise_cons];exact h⟩;rcases List.mem_cons.1 hx with rfl|hx
   ·exact hab
   ·have:=h.1 x hx
    omega
  ·rename_i hab
   rw[List.pairwise_cons];refine⟨fun x hx=>?_,AHA h.2⟩;rcases List.mem_cons.1 (AGL.mem_iff.1 hx)with rfl|hx
   ·omega
   ·exact h.1 x hx
theorem AGM:∀{l:List Int},(ACs l).Pairwise (·<=·)
 |[]=>List.Pairwise.nil
 |_::_=>AHA AGM
theorem AJA:∀{l m:List Int},l.Pairwise (·<=·)->m.Pairwise (·<=·)->l.Perm m->l=m
 |[],m,_,_,h=>(List.nil_perm.1 h).symm
 |a::l,[],_,_,h=>by have:=h.length_eq;simp at this
 |a::l,b::m,h1,h2,h=>by
  rw[List.pairwise_cons]at h1 h2;have e1:b<=a:=by
   rcases List.mem_cons.1 (h.mem_iff.1 (List.mem_cons_self (a:=a) (l:=l)))with e|e
   ·omega
   ·exact h2.1 a e
  have e2:a<=b:=by
   rcases List.mem_cons.1 (h.mem_iff.2 (List.mem_cons_self (a:=b) (l:=m)))with e|e
   ·omega
   ·exact h1.1 b e
  have:a=b:=by omega
  subst this;rw[AJA h1.2 h2.2 (List.Perm.cons_inv h)]
theorem ALI(l:List Int):(l.mergeSort fun x y=>decide (x<=y))=ACs l:=by
 refine AJA ?_ AGM ((List.mergeSort_perm l _).trans AFt.symm);have:=List.pairwise_mergeSort (le:=fun x y:Int=>decide (x<=y)) (fun a b c h1 h2=>by simp at*;omega) (fun a b=>by simp;omega) l;exact this.imp fun h=>by simpa using h
theorem AKA(l:List Int):l.flatMap Flat.enc=l.map (Value.int .i64):=by
 induction l with
 |nil=>rfl
 |cons a l ih=>rw[List.flatMap_cons,ih];rfl
def slices_Sort_int(x0:List Int):Option (List Int):=if x0.length<4611686018427387904 then some (ACs x0)else none
theorem APi{base:Nat}{wi w':World}{v:Value}(ho:∀g,v.ownBlock=some g->base<=g)(hbs:base<=wi.heap.size)(g:wi.grownBy w' v.ownBlock):Below base wi w':=
 ⟨g.os,g.tape,g.output,g.size,fun q hq=>g.block q (by omega) fun e=>by
  have:=ho q e.symm;omega⟩
theorem AWN{base:Nat}{wi:World}(hbs:base<=wi.heap.size){v0:Value}{x0:List Int}(o0:Row 3 base wi v0 x0){r:List Int}(hF:slices_Sort_int x0=some r):
  Calls Tryz.prog 98 [v0].toArray wi (Gy fun v w'=>v=.tuple #[]/\Row 3 base w' v0 r/\Below base wi w'/\wi.grownBy w' v0.ownBlock):=by
 unfold slices_Sort_int at hF;split at hF
 case isFalse=>cases hF
 rename_i hlen;cases hF;rcases o0.2 with⟨e1,e2⟩|⟨g,cap,cur,e1,hb,hg,h1,h2,h3,h4⟩
 ·subst e1
  have hx:x0=[]:=List.length_eq_zero_iff.1 e2;subst hx;refine(Tryz.slices_Sort_int_none none 0 wi).mono ?_;rintro e w'⟨rfl,rfl⟩;exact⟨_,rfl,rfl,Row.nil,Below.refl _ _,Ext.gro (Ext.refl _)⟩
 ·subst e1
  have ht:cur.toList.take x0.length=x0.map (Value.int .i64):=by
   rw[<-AKA];have:Enc.n Int=1:=rfl;rw[this,Nat.mul_one]at h4;exact h4
  refine(Tryz.slices_Sort_int g 0 cap x0 wi (holds_of_blockI hg ht) (Array.getElem?_eq_some_iff.1 hg).1 hlen).mono ?_;rintro e w'⟨rfl,n,os,rfl⟩;rw[ALI];have hl:(ACs x0).length=x0.length:=AFt.length_eq;have ho:=ownsRow_sortedI (n:=n) (os:=os) (ts:=ACs x0) hl hb hg h1 h2 h3;have hgr:=grownBy_sortedI (w:=wi) (g:=g) (n:=n) (os:=os) (ACs x0).toArray;refine⟨_,rfl,rfl,?_,APi (v:=.slice (some ⟨g,0,none⟩) x0.length cap) (fun q e=>by cases e;exact hb) hbs hgr,hgr⟩;unfold Row;rw[hl,AKA];exact ho
end Go.Proofs.YtfmelbioccbdoaaGreat
end
section
namespace Go.Proofs.YtfmelbioccbdoaaGreat
open Go Go.Md Go.RowKit

def ACt(x0:Int)(x1:Int)(x2:Int):Option Bool:=
 some ((decide (x0<x1))||(decide (x2<x0)))
def zY(F:Nat)(x0:Int)(x1:Int)(x2:(List Int)):Option Bool:=
 (vY F x2 (fun y=>ACt y x0 x1))>>=fun x4=>
 some (!x4)
def AAN(F:Nat)(x0:(List Int))(x1:Int):Nat->Int->Option (Sum Bool (Unit))
 |0,_=>none
 |m+1,y1=>
  if(decide (y1<(x0.length:Int)))=true then
   (ix x0 y1)>>=fun x3=>
   (((zY F 0 (BA (x1-1)) ([x3]:List Int))>>=fun x5=>
   if(!x5)=true then
    some true
   else
    if(decide (0<y1))=true then
     (ix x0 (BA (y1-1)))>>=fun x6=>
     some (decide (x3<=x6))
    else
     some false:Option (Bool))>>=fun y2=>
   if y2=true then
    some (.inl false)
   else
    AAN F x0 x1 m (BA (y1+1)))
  else
   some (.inr ())
def AAW(F:Nat)(x0:(List Int))(x1:Int):Option Bool:=
 ((AAN F x0 x1 F 0)>>=fun o=>match o with
  |.inl r=>some r
  |.inr ()=>
   some true)
def AAO(F:Nat)(x0:(Int×Int×(List (Int×Int))×(List Int)))(x1:(List Int)):Nat->Int->(Ar 12 Int)->(Ar 12 Int)->Option (Sum Bool (Unit))
 |0,_,_,_=>none
 |m+1,y1,y2,y3=>
  if(decide (y1<(x1.length:Int)))=true then
   (ix x1 y1)>>=fun x3=>
   (ix x0.2.2.1 x3)>>=fun x4=>
   (ix y2.l x4.1)>>=fun x5=>
   (ix y3.l x4.2)>>=fun x6=>
   if(decide (0<(BA (x5+x6))))=true then
    some (.inl false)
   else
    (ix y2.l x4.1)>>=fun x7=>
    (ix y3.l x4.2)>>=fun x8=>
    AAO F x0 x1 m (BA (y1+1)) (xK y2 x4.1 1) (xK y3 x4.2 1)
  else
   some (.inr ())
def ABb(F:Nat)(x0:(Int×Int×(List (Int×Int))×(List Int)))(x1:(List Int)):Option Bool:=
 ((AAO F x0 x1 F 0 (Ar.fill 12 0:(Ar 12 Int)) (Ar.fill 12 0:(Ar 12 Int)))>>=fun o=>match o with
  |.inl r=>some r
  |.inr ()=>
   some true)
def RU(F:Nat)(x0:(List (Int×Int)))(x1:((Int×Int)->Option Bool)):Nat->Int->Option (Sum Int (Unit))
 |0,_=>none
 |m+1,y1=>
  if(decide (y1<(x0.length:Int)))=true then
   (ix x0 y1)>>=fun x3=>
   (x1 (x3.1,x3.2))>>=fun x4=>
   if x4=true then
    some (.inl y1)
   else
    RU F x0 x1 m (BA (y1+1))
  else
   some (.inr ())
def xu(F:Nat)(x0:(List (Int×Int)))(x1:((Int×Int)->Option Bool)):Option Int:=
 ((RU F x0 x1 F 0)>>=fun o=>match o with
  |.inl r=>some r
  |.inr ()=>
   some (-1))
def vO(F:Nat)(x0:(List (Int×Int)))(x1:((Int×Int)->Option Bool)):Option Bool:=
 (xu F x0 x1)>>=fun x3=>
 some (decide (0<=x3))
def ABe(F:Nat)(x0:(Int×Int))(x1:(Int×Int×(List (Int×Int))×(List Int))):Option Bool:=
 (zY F 0 (BA (x1.1-1)) ([x0.1]:List Int))>>=fun x3=>
 (gd (!(!x3)) (zY F 0 (BA (x1.2.1-1)) ([x0.2]:List Int)) false)>>=fun x4=>
 some ((!x3)||(!x4))
def iW(F:Nat)(x0:(List (Int×Int)))(x1:(Int×Int)):Nat->Int->Option (Sum Int (Unit))
 |0,_=>none
 |m+1,y1=>
  if(decide (y1<(x0.length:Int)))=true then
   (ix x0 y1)>>=fun x3=>
   if(decide ((x1.1,x1.2)=(x3.1,x3.2)))=true then
    some (.inl y1)
   else
    iW F x0 x1 m (BA (y1+1))
  else
   some (.inr ())
def zU(F:Nat)(x0:(List (Int×Int)))(x1:(Int×Int)):Option Int:=
 ((iW F x0 x1 F 0)>>=fun o=>match o with
  |.inl r=>some r
  |.inr ()=>
   some (-1))
def wL(F:Nat)(x0:(List (Int×Int)))(x1:(Int×Int)):Option Bool:=
 (zU F x0 (x1.1,x1.2))>>=fun x3=>
 some (decide (0<=x3))
def yE(F:Nat)(x0:(Int×Int×(List (Int×Int))×(List Int))):Nat->Int->Option (Sum Int (Unit))
 |0,_=>none
 |m+1,y1=>
  if(decide (y1<(x0.2.2.1.length:Int)))=true then
   (ix x0.2.2.1 y1)>>=fun x4=>
   (ACD x0.2.2.1 y1)>>=fun x5=>
   (wL F x5 (x4.1,x4.2))>>=fun x6=>
   if x6=true then
    some (.inl 11)
   else
    yE F x0 m (BA (y1+1))
  else
   some (.inr ())
def yT(F:Nat)(x0:(Int×Int×(List (Int×Int))×(List Int))):Option Int:=
 (zY F 1 12 ([x0.1,x0.2.1]:List Int))>>=fun x2=>
 if(!x2)=true then
  some 2
 else
  if(decide (40<(x0.2.2.1.length:Int)))=true then
   some 6
  else
   (vO F x0.2.2.1 (fun y=>ABe F y (x0.1,x0.2.1,x0.2.2.1,x0.2.2.2)))>>=fun x3=>
   if x3=true then
    some 3
   else
    ((yE F x0 F 0)>>=fun o=>match o with
     |.inl r=>some r
     |.inr ()=>
      (AAW F x0.2.2.2 (x0.2.2.1.length:Int))>>=fun x7=>
      (gd (!(!x7)) (ABb F (x0.1,x0.2.1,x0.2.2.1,x0.2.2.2) x0.2.2.2) false)>>=fun x8=>
      if((!x7)||(!x8))=true then
       some 16
      else
       some 0)
def ACw(x0:((Int×Int×(List (Int×Int))×(List Int))×(Ar 2 (Ar 12 Int))×(Ar 12 Int)))(x1:Int):Option Bool:=
 (ix x0.1.2.2.1 x1)>>=fun x3=>
 (ix x0.2.1.l 0)>>=fun x4=>
 (ix x4.l x3.1)>>=fun x5=>
 (ix x0.2.1.l 1)>>=fun x6=>
 (ix x6.l x3.2)>>=fun x7=>
 some (decide ((BA (x5+x7))=0))
def AEP(x0:Int)(x1:Int):Option (Int×Int):=
 some (x0,x1)
def ABK(F:Nat)(x0:(List Int))(x1:Int):Nat->Int->Option (Sum Bool (Unit))
 |0,_=>none
 |m+1,y1=>
  if(decide (y1<(x0.length:Int)))=true then
   (((ix x0 y1)>>=fun x4=>
   if(decide (x4<0))=true then
    if true=true then
     some true
    else
     if(decide (0<y1))=true then
      (ix x0 y1)>>=fun x5=>
      (ix x0 (BA (y1-1)))>>=fun x6=>
      some (decide (x5<=x6))
     else
      some false
   else
    (ix x0 y1)>>=fun x7=>
    if(decide (x1<=x7))=true then
     some true
    else
     if(decide (0<y1))=true then
      (ix x0 y1)>>=fun x8=>
      (ix x0 (BA (y1-1)))>>=fun x9=>
      some (decide (x8<=x9))
     else
      some false:Option (Bool))>>=fun y2=>
   if y2=true then
    some (.inl false)
   else
    ABK F x0 x1 m (BA (y1+1)))
  else
   some (.inr ())
def ADQ(F:Nat)(x0:(List Int))(x1:Int):Option Bool:=
 ((ABK F x0 x1 F 0)>>=fun o=>match o with
  |.inl r=>some r
  |.inr ()=>
   some true)
def AFu(x0:(Int×Int))(x1:(Int×Int)):Option Bool:=
 some ((decide (x0.1=x1.1))||(decide (x0.2=x1.2)))
def ABL(F:Nat)(x0:(Int×Int×(List (Int×Int))×(List Int)))(x1:(List Int))(y1:Int):Nat->Int->Option (Sum Bool (Unit))
 |0,_=>none
 |m+1,y2=>
  if(decide (y2<y1))=true then
   (ix x1 y1)>>=fun x3=>
   (ix x0.2.2.1 x3)>>=fun x4=>
   (ix x1 y2)>>=fun x5=>
   (ix x0.2.2.1 x5)>>=fun x6=>
   (AFu (x4.1,x4.2) (x6.1,x6.2))>>=fun x7=>
   if x7=true then
    some (.inl false)
   else
    ABL F x0 x1 y1 m (BA (y2+1))
  else
   some (.inr ())
def ABM(F:Nat)(x0:(Int×Int×(List (Int×Int))×(List Int)))(x1:(List Int)):Nat->Int->Option (Sum Bool (Unit))
 |0,_=>none
 |m+1,y1=>
  if(decide (y1<(x1.length:Int)))=true then
   ((ABL F x0 x1 y1 F 0)>>=fun o=>match o with
    |.inl r=>some (.inl r)
    |.inr ()=>
     ABM F x0 x1 m (BA (y1+1)))
  else
   some (.inr ())
def ADR(F:Nat)(x0:(Int×Int×(List (Int×Int))×(List Int)))(x1:(List Int)):Option Bool:=
 ((ABM F x0 x1 F 0)>>=fun o=>match o with
  |.inl r=>some r
  |.inr ()=>
   some true)
def xM(F:Nat)(x0:(Int×Int×(List (Int×Int))×(List Int))):Nat->Int->Option (Sum Int (Unit))
 |0,_=>none
 |m+1,y1=>
  if(decide (y1<(x0.2.2.1.length:Int)))=true then
   (ix x0.2.2.1 y1)>>=fun x2=>
   if((((decide (x2.1<0))||(decide (x0.1<=x2.1)))||(decide (x2.2<0)))||(decide (x0.2.1<=x2.2)))=true then
    some (.inl 3)
   else
    xM F x0 m (BA (y1+1))
  else
   some (.inr ())
def xN(F:Nat)(x0:(Int×Int×(List (Int×Int))×(List Int)))(y2:Int):Nat->Int->Option (Sum Int (Unit))
 |0,_=>none
 |m+1,y3=>
  if(decide (y3<y2))=true then
   (ix x0.2.2.1 y2)>>=fun x3=>
   (ix x0.2.2.1 y3)>>=fun x4=>
   if(decide ((x3.1,x3.2)=(x4.1,x4.2)))=true then
    some (.inl 11)
   else
    xN F x0 y2 m (BA (y3+1))
  else
   some (.inr ())
def xO(F:Nat)(x0:(Int×Int×(List (Int×Int))×(List Int))):Nat->Int->Option (Sum Int (Unit))
 |0,_=>none
 |m+1,y2=>
  if(decide (y2<(x0.2.2.1.length:Int)))=true then
   ((xN F x0 y2 F 0)>>=fun o=>match o with
    |.inl r=>some (.inl r)
    |.inr ()=>
     xO F x0 m (BA (y2+1)))
  else
   some (.inr ())
def AA2(F:Nat)(x0:(Int×Int×(List (Int×Int))×(List Int))):Option Int:=
 if((((decide (x0.1<1))||(decide (12<x0.1)))||(decide (x0.2.1<1)))||(decide (12<x0.2.1)))=true then
  some 2
 else
  if(decide (40<(x0.2.2.1.length:Int)))=true then
   some 6
  else
   ((xM F x0 F 0)>>=fun o=>match o with
    |.inl r=>some r
    |.inr ()=>
     ((xO F x0 F 0)>>=fun o=>match o with
      |.inl r=>some r
      |.inr ()=>
       (ADQ F x0.2.2.2 (x0.2.2.1.length:Int))>>=fun x5=>
       (gd (!(!x5)) (ADR F (x0.1,x0.2.1,x0.2.2.1,x0.2.2.2) x0.2.2.2) false)>>=fun x6=>
       if((!x5)||(!x6))=true then
        some 16
       else
        some 0))


end Go.Proofs.YtfmelbioccbdoaaGreat
end
section
namespace Go.Proofs.YtfmelbioccbdoaaGreat
open Go Go.Md Go.RowKit
attribute [local irreducible] Go.wpList Go.Code.wp Go.Calls Go.Md.vZ Go.Md.Mt Go.Md.xE Go.Md.uT Go.Code.wpIn

end Go.Proofs.YtfmelbioccbdoaaGreat
end
section
namespace Go.Proofs.YtfmelbioccbdoaaGreat
open Go Go.Md Go.RowKit
attribute [local irreducible] Go.wpList Go.Code.wp Go.Calls Go.Md.vZ Go.Md.Mt
abbrev AUk:=Int×Int×Int
def en{α:Type}(l:List α):List (Int×α):=l.zipIdx.map fun p=>((p.2:Int),p.1)
theorem en_get{α:Type}(l:List α)(k:Nat):(en l)[k]?=l[k]?.map fun x=>((k:Int),x):=by
 simp[en,List.getElem?_map,List.getElem?_zipIdx,Option.map_map,Function.comp_def]
theorem ASX{α:Type}(l:List α):(en l).length=l.length:=by simp[en]
def AMj(s:Ar 21 Int×List (Int×Int))(p:Int×AUk):Ar 21 Int×List (Int×Int):=
 let a:=(ix s.1.l p.2.1).getD 0
 let b:=(ix s.1.l p.2.2.1).getD 0
 if !decide (a=1125899906842624)&& !decide (b<=BA (a+p.2.2.2))then(xK s.1 p.2.2.1 (BA (a+p.2.2.2)),Le s.2 p.2.2.1 p.1)else s
theorem kt3:KT Tryz.prog 3 Int:=KT.int Tryz.underlying3
theorem key_ok{i:Int}(h0:0<=i)(h1:i<=20):Key.ok i=true:=by
 have:i=0\/i=1\/i=2\/i=3\/i=4\/i=5\/i=6\/i=7\/i=8\/i=9\/i=10\/i=11\/i=12\/i=13\/i=14\/i=15\/i=16\/i=17\/i=18\/i=19\/i=20:=by omega
 rcases this with h|h|h|h|h|h|h|h|h|h|h|h|h|h|h|h|h|h|h|h|h<;>subst h<;>decide
def MpV(base:Nat)(w:World)(v:Value)(l:List (Int×Int)):Prop:=∃b,v=.map (some b)/\base<=b/\Mp w b l
theorem MpV.ext{base:Nat}{w w':World}{v:Value}{l:List (Int×Int)}(h:MpV base w v l)(k:Ext w w'):MpV base w' v l:=
 let⟨b,e,hb,h⟩:=h
 ⟨b,e,hb,h.ext k⟩
end Go.Proofs.YtfmelbioccbdoaaGreat
end
section
namespace Go.Proofs.YtfmelbioccbdoaaGreat
open Go Go.Md Go.RowKit

end Go.Proofs.YtfmelbioccbdoaaGreat
end
section
namespace Go.Proofs.YtfmelbioccbdoaaGreat
open Go Go.Md Go.RowKit
attribute [local irreducible] Go.wpList Go.Code.wp Go.Calls Go.Md.vZ Go.Md.Mt Go.Md.xE Go.Md.uT Go.Code.wpIn

end Go.Proofs.YtfmelbioccbdoaaGreat
end
section
namespace Go.Proofs.YtfmelbioccbdoaaGreat
open Go Go.Md Go.RowKit
attribute [local irreducible] Go.wpList Go.Code.wp Go.Calls Go.Md.vZ Go.Md.Mt

end Go.Proofs.YtfmelbioccbdoaaGreat
end
section
namespace Go.Proofs.YtfmelbioccbdoaaGreat
open Go Go.Md Go.RowKit

end Go.Proofs.YtfmelbioccbdoaaGreat
end
section
namespace Go.Proofs.YtfmelbioccbdoaaGreat
open Go Go.Md Go.RowKit
attribute [local irreducible] Go.wpList Go.Code.wp Go.Calls Go.Md.vZ Go.Md.Mt Go.Md.xE Go.Md.uT Go.Code.wpIn

end Go.Proofs.YtfmelbioccbdoaaGreat
end
section
namespace Go.Proofs.YtfmelbioccbdoaaGreat
open Go Go.Md Go.RowKit
attribute [local irreducible] Go.wpList Go.Code.wp Go.Calls Go.Md.vZ Go.Md.Mt

end Go.Proofs.YtfmelbioccbdoaaGreat
end
section
namespace Go.Proofs.YtfmelbioccbdoaaGreat
open Go Go.Md Go.RowKit

def ACu(x0:Int):Option Bool:=
 some ((decide (x0<1))||(decide (100<x0)))
def AB3(F:Nat)(x0:(List Int)):Option Bool:=
 (vY F x0 (fun y=>ACu y))>>=fun x2=>
 some (!x2)
def xH(F:Nat)(x0:(Uno (List (Ar 2 Int)))):Nat->Int->Option (Sum Int (Unit))
 |0,_=>none
 |m+1,y1=>
  if(decide (y1<(x0.v.length:Int)))=true then
   (ix x0.v y1)>>=fun x2=>
   (ix x2.l 0)>>=fun x3=>
   (ix x2.l 1)>>=fun x4=>
   (AB3 F ([x3,x4]:List Int))>>=fun x5=>
   if(!x5)=true then
    some (.inl 2)
   else
    xH F x0 m (BA (y1+1))
  else
   some (.inr ())
def ABl(F:Nat)(x0:(Uno (List (Ar 2 Int)))):Option Int:=
 if(decide (40<(x0.v.length:Int)))=true then
  some 6
 else
  ((xH F x0 F 0)>>=fun o=>match o with
   |.inl r=>some r
   |.inr ()=>
    some 0)
def ABf(x0:(List Int)):Option Bool:=
 some (decide (8<(x0.length:Int)))
def ABg(F:Nat)(x0:(List Int)):Option Bool:=
 (AB3 F x0)>>=fun x2=>
 some (!x2)
def vP(F:Nat)(x0:(List (List Int)))(x1:((List Int)->Option Bool)):Nat->Int->Option (Sum Int (Unit))
 |0,_=>none
 |m+1,y1=>
  if(decide (y1<(x0.length:Int)))=true then
   (ix x0 y1)>>=fun x3=>
   (x1 x3)>>=fun x4=>
   if x4=true then
    some (.inl y1)
   else
    vP F x0 x1 m (BA (y1+1))
  else
   some (.inr ())
def AAb(F:Nat)(x0:(List (List Int)))(x1:((List Int)->Option Bool)):Option Int:=
 ((vP F x0 x1 F 0)>>=fun o=>match o with
  |.inl r=>some r
  |.inr ()=>
   some (-1))
def wM(F:Nat)(x0:(List (List Int)))(x1:((List Int)->Option Bool)):Option Bool:=
 (AAb F x0 x1)>>=fun x3=>
 some (decide (0<=x3))
def ABN(F:Nat)(x0:(Uno (List (Ar 2 Int))))(x1:(List (List Int))):Option Int:=
 (ABl F (⟨x0.v⟩:(Uno (List (Ar 2 Int)))))>>=fun x3=>
 if(!decide (x3=0))=true then
  some x3
 else
  if((decide ((x1.length:Int)<2))||(decide (4<(x1.length:Int))))=true then
   some 6
  else
   (wM F x1 (fun y=>ABf y))>>=fun x4=>
   if x4=true then
    some 6
   else
    (wM F x1 (fun y=>ABg F y))>>=fun x5=>
    if x5=true then
     some 2
    else
     some 0
def ABm(x0:Int):Option Bool:=
 some ((decide (1<=x0))&&(decide (x0<=100)))
def yF(F:Nat)(x0:(Uno (List (Ar 2 Int)))):Nat->Int->Option (Sum Int (Unit))
 |0,_=>none
 |m+1,y1=>
  if(decide (y1<(x0.v.length:Int)))=true then
   (((ix x0.v y1)>>=fun x5=>
   (ix x5.l 0)>>=fun x6=>
   (ABm x6)>>=fun x7=>
   if(!x7)=true then
    some true
   else
    (ix x0.v y1)>>=fun x8=>
    (ix x8.l 1)>>=fun x9=>
    (ABm x9)>>=fun x10=>
    some (!x10):Option (Bool))>>=fun y2=>
   if y2=true then
    some (.inl 2)
   else
    yF F x0 m (BA (y1+1)))
  else
   some (.inr ())
def AAc(F:Nat)(x0:(Uno (List (Ar 2 Int)))):Option Int:=
 if(decide (40<(x0.v.length:Int)))=true then
  some 6
 else
  ((yF F x0 F 0)>>=fun o=>match o with
   |.inl r=>some r
   |.inr ()=>
    some 0)
def xP(F:Nat)(x1:(List (List Int))):Nat->Int->Option (Sum Int (Unit))
 |0,_=>none
 |m+1,y1=>
  if(decide (y1<(x1.length:Int)))=true then
   (ix x1 y1)>>=fun x5=>
   if(decide (8<(x5.length:Int)))=true then
    some (.inl 6)
   else
    xP F x1 m (BA (y1+1))
  else
   some (.inr ())
def xQ(F:Nat)(x1:(List (List Int)))(y2:Int):Nat->Int->Option (Sum Int (Unit))
 |0,_=>none
 |m+1,y3=>
  (ix x1 y2)>>=fun x6=>
  if(decide (y3<(x6.length:Int)))=true then
   (ix x1 y2)>>=fun x7=>
   (ix x7 y3)>>=fun x8=>
   (ABm x8)>>=fun x9=>
   if(!x9)=true then
    some (.inl 2)
   else
    xQ F x1 y2 m (BA (y3+1))
  else
   some (.inr ())
def xR(F:Nat)(x1:(List (List Int))):Nat->Int->Option (Sum Int (Unit))
 |0,_=>none
 |m+1,y2=>
  if(decide (y2<(x1.length:Int)))=true then
   ((xQ F x1 y2 F 0)>>=fun o=>match o with
    |.inl r=>some (.inl r)
    |.inr ()=>
     xR F x1 m (BA (y2+1)))
  else
   some (.inr ())
def AA3(F:Nat)(x0:(Uno (List (Ar 2 Int))))(x1:(List (List Int))):Option Int:=
 (AAc F (⟨x0.v⟩:(Uno (List (Ar 2 Int)))))>>=fun x3=>
 if(!decide (x3=0))=true then
  (AAc F (⟨x0.v⟩:(Uno (List (Ar 2 Int)))))>>=fun x4=>
  some x4
 else
  if((decide ((x1.length:Int)<2))||(decide (4<(x1.length:Int))))=true then
   some 6
  else
   ((xP F x1 F 0)>>=fun o=>match o with
    |.inl r=>some r
    |.inr ()=>
     ((xR F x1 F 0)>>=fun o=>match o with
      |.inl r=>some r
      |.inr ()=>
       some 0))
def yG(F:Nat):Nat->(List Int)->Int->Option ((List Int))
 |0,_,_=>none
 |m+1,y1,y2=>
  if(decide (y2<=100))=true then
   (app 8 y1 ([y2]:List Int))>>=fun x2=>
   yG F m x2 (BA (y2+1))
  else
   some y1
def zF(F:Nat)(x0:(Uno (List (Ar 2 Int)))):Nat->(List Int)->Int->Option ((List Int))
 |0,_,_=>none
 |m+1,y5,y6=>
  if(decide (y6<(x0.v.length:Int)))=true then
   (ix x0.v y6)>>=fun x3=>
   (ix x3.l 0)>>=fun x4=>
   (ix x0.v y6)>>=fun x5=>
   (ix x5.l 1)>>=fun x6=>
   (ix y5 x4)>>=fun x7=>
   (ix y5 x6)>>=fun x8=>
   (ix y5 x4)>>=fun x9=>
   (ix (vV y5 x4 (if x8<x7 then x8 else x7)) x6)>>=fun x10=>
   zF F x0 m (vV (vV y5 x4 (if x8<x7 then x8 else x7)) x6 (if x8<x7 then x8 else x7)) (BA (y6+1))
  else
   some y5
def zH(F:Nat)(x0:(Uno (List (Ar 2 Int)))):Nat->(List Int)->Int->Option ((List Int))
 |0,_,_=>none
 |m+1,y3,y4=>
  if(decide (y4<(x0.v.length:Int)))=true then
   ((zF F x0 F y3 0)>>=fun z3=>
   zH F x0 m z3 (BA (y4+1)))
  else
   some y3
def ABy(F:Nat)(x0:(Uno (List (Ar 2 Int)))):Option (List Int):=
 ((yG F F ([]) 0)>>=fun z1=>
 ((zH F x0 F z1 0)>>=fun z2=>
 some z2))
def AA4(F:Nat)(x1:(List (List Int)))(x3:(List Int))(y1:(List (List Int)))(y2:Int)(y4:Int):Nat->(List (List Int))->Int->Option ((List (List Int)))
 |0,_,_=>none
 |m+1,y5,y6=>
  (ix x1 y2)>>=fun x4=>
  if(decide (y6<(x4.length:Int)))=true then
   ((((if(decide (y2=0))=true then
    some true
   else
    (ix x1 y2)>>=fun x5=>
    (ix x5 y6)>>=fun x6=>
    (ix x3 x6)>>=fun x7=>
    (ix x1 0)>>=fun x8=>
    (ix y1 y4)>>=fun x9=>
    (ix x9 0)>>=fun x10=>
    (ix x8 x10)>>=fun x11=>
    (ix x3 x11)>>=fun x12=>
    some (decide (x7=x12)):Option (Bool))>>=fun y8=>
   ((if y8=true then
    (ix y1 y4)>>=fun x13=>
    (app 8 ([]:List Int) x13)>>=fun x14=>
    (app 8 x14 ([y6]:List Int))>>=fun x15=>
    (app 24 y5 ([x15]:List (List Int)))>>=fun x16=>
    some x16
   else
    some y5:Option ((List (List Int))))>>=fun y9=>
   some y9)):Option ((List (List Int))))>>=fun y7=>
   AA4 F x1 x3 y1 y2 y4 m y7 (BA (y6+1)))
  else
   some y5
def AA5(F:Nat)(x1:(List (List Int)))(x3:(List Int))(y1:(List (List Int)))(y2:Int):Nat->(List (List Int))->Int->Option ((List (List Int)))
 |0,_,_=>none
 |m+1,y3,y4=>
  if(decide (y4<(y1.length:Int)))=true then
   ((AA4 F x1 x3 y1 y2 y4 F y3 0)>>=fun z3=>
   AA5 F x1 x3 y1 y2 m z3 (BA (y4+1)))
  else
   some y3
def AAY(F:Nat)(x1:(List (List Int)))(x3:(List Int)):Nat->(List (List Int))->Int->Option ((List (List Int)))
 |0,_,_=>none
 |m+1,y1,y2=>
  if(decide (y2<(x1.length:Int)))=true then
   ((AA5 F x1 x3 y1 y2 F ([]) 0)>>=fun z2=>
   AAY F x1 x3 m z2 (BA (y2+1)))
  else
   some y1
def AC8(F:Nat)(x0:(Uno (List (Ar 2 Int))))(x1:(List (List Int))):Option (List (List Int)):=
 (ABy F (⟨x0.v⟩:(Uno (List (Ar 2 Int)))))>>=fun x3=>
 ((AAY F x1 x3 F ([([]:List Int)]:List (List Int)) 0)>>=fun z1=>
 some z1)
def zn(F:Nat)(x0:(List Int))(x1:(List Int)):Nat->Int->Option (Sum Bool (Unit))
 |0,_=>none
 |m+1,y1=>
  if(decide (y1<(x0.length:Int)))=true then
   (ix x0 y1)>>=fun x3=>
   (ix x1 y1)>>=fun x4=>
   if(decide (x4<=x3))=true then
    some (.inl false)
   else
    zn F x0 x1 m (BA (y1+1))
  else
   some (.inr ())
def ABn(F:Nat)(x0:(List Int))(x1:(List Int)):Option Bool:=
 ((zn F x0 x1 F 0)>>=fun o=>match o with
  |.inl r=>some r
  |.inr ()=>
   some true)
def AAP(F:Nat)(x1:(List (List Int))):Nat->Int->Option (Sum Bool (Unit))
 |0,_=>none
 |m+1,y1=>
  if(decide (y1<(x1.length:Int)))=true then
   (ix x1 y1)>>=fun x4=>
   if(decide (20<(x4.length:Int)))=true then
    some (.inl false)
   else
    AAP F x1 m (BA (y1+1))
  else
   some (.inr ())
def ABc(F:Nat)(x0:(Uno (List (Ar 2 Int))))(x1:(List (List Int)))(x2:Int):Option Bool:=
 if((decide (60<(x0.v.length:Int)))||(decide (x2<(x1.length:Int))))=true then
  some false
 else
  ((AAP F x1 F 0)>>=fun o=>match o with
   |.inl r=>some r
   |.inr ()=>
    (AA3 F (⟨x0.v⟩:(Uno (List (Ar 2 Int)))) x1)>>=fun x5=>
    some (decide (x5=0)))
def AAh(F:Nat)(x0:(List Int))(x1:(List Int)):Nat->Int->Option (Sum Bool (Unit))
 |0,_=>none
 |m+1,y1=>
  if(decide (y1<(x0.length:Int)))=true then
   (ix x0 y1)>>=fun x3=>
   (ix x1 y1)>>=fun x4=>
   if(!decide (x3=x4))=true then
    some (.inl false)
   else
    AAh F x0 x1 m (BA (y1+1))
  else
   some (.inr ())
def ADS(F:Nat)(x0:(List Int))(x1:(List Int)):Option Bool:=
 if(!decide ((x0.length:Int)=(x1.length:Int)))=true then
  some false
 else
  ((AAh F x0 x1 F 0)>>=fun o=>match o with
   |.inl r=>some r
   |.inr ()=>
    some true)
def zL(x0:Int)(x1:Int):Option Int:=
 if(decide (x1<x0))=true then
  some x0
 else
  some x1
def yN(F:Nat)(x0:((Ob ((Uno (List (Ar 2 Int)))×(Ar 101 Int)))×(List (List Int))×(List (Ar 4 Int))))(x1:(List (Ar 4 Int))):Nat->(List (List Int))->Int->Option ((List (List Int)))
 |0,_,_=>none
 |m+1,y1,y2=>
  if(decide (y2<(x1.length:Int)))=true then
   (ix x1 y2)>>=fun x3=>
   (mks 8 (x0.2.1.length:Int) (0))>>=fun x4=>
   (app 24 y1 ([(ACX x4 x3.l)]:List (List Int)))>>=fun x5=>
   yN F x0 x1 m x5 (BA (y2+1))
  else
   some y1
def AAQ(F:Nat)(x0:((Ob ((Uno (List (Ar 2 Int)))×(Ar 101 Int)))×(List (List Int))×(List (Ar 4 Int))))(x1:(List (Ar 4 Int))):Option (List (List Int)):=
 ((yN F x0 x1 F ([]) 0)>>=fun z1=>
 some z1)
def xU(F:Nat)(x0:((Ob ((Uno (List (Ar 2 Int)))×(Ar 101 Int)))×(List (List Int))×(List (Ar 4 Int))))(x1:(Ar 4 Int))(x2:(Ar 4 Int)):Nat->Int->Option (Sum Bool (Unit))
 |0,_=>none
 |m+1,y1=>
  if(decide (y1<(x0.2.1.length:Int)))=true then
   (ix x1.l y1)>>=fun x4=>
   (ix x2.l y1)>>=fun x5=>
   if(decide (x5<=x4))=true then
    some (.inl false)
   else
    xU F x0 x1 x2 m (BA (y1+1))
  else
   some (.inr ())
def Kz(F:Nat)(x0:((Ob ((Uno (List (Ar 2 Int)))×(Ar 101 Int)))×(List (List Int))×(List (Ar 4 Int))))(x1:(Ar 4 Int))(x2:(Ar 4 Int)):Option Bool:=
 ((xU F x0 x1 x2 F 0)>>=fun o=>match o with
  |.inl r=>some r
  |.inr ()=>
   some true)
def AAd(x0:((Uno (List (Ar 2 Int)))×(Ar 101 Int)))(x1:Int)(x2:Int):Option Bool:=
 (ix x0.2.l x1)>>=fun x4=>
 (ix x0.2.l x2)>>=fun x5=>
 some (decide (x4=x5))
def wU(F:Nat)(x0:((Ob ((Uno (List (Ar 2 Int)))×(Ar 101 Int)))×(List (List Int))×(List (Ar 4 Int))))(x1:(Ar 4 Int)):Nat->Int->Option (Sum Bool (Unit))
 |0,_=>none
 |m+1,y1=>
  if(decide (y1<(x0.2.1.length:Int)))=true then
   (ix x0.2.1 y1)>>=fun x3=>
   (ix x1.l y1)>>=fun x4=>
   (ix x3 x4)>>=fun x5=>
   (ix x0.2.1 0)>>=fun x6=>
   (ix x1.l 0)>>=fun x7=>
   (ix x6 x7)>>=fun x8=>
   (x0.1.v)>>=fun x9=>
   (AAd ((⟨x9.1.v⟩:(Uno (List (Ar 2 Int)))),x9.2) x5 x8)>>=fun x10=>
   if(!x10)=true then
    some (.inl false)
   else
    wU F x0 x1 m (BA (y1+1))
  else
   some (.inr ())
def zu(F:Nat)(x0:((Ob ((Uno (List (Ar 2 Int)))×(Ar 101 Int)))×(List (List Int))×(List (Ar 4 Int))))(x1:(Ar 4 Int)):Option Bool:=
 ((wU F x0 x1 F 0)>>=fun o=>match o with
  |.inl r=>some r
  |.inr ()=>
   some true)
instance:Key (Int×Int):=⟨fun k=>(Lit.int .i64 k.1).wf&&(Lit.int .i64 k.2).wf⟩
theorem AKB:laidOutB Tryz.prog=true:=by kernel_rfl
theorem AN8:Tryz.prog.cellsOf 3=1:=by kernel_rfl
theorem AFb{d:Nat}(hd:0<d){a:Int}(h:(Lit.int .i64 a).wf=true):Tryz.prog.keyLits d 3 [.int .i64 a]=some [.int .i64 a]:=by
 obtain⟨d,rfl⟩:∃e,d=e+1:=⟨d-1,by omega⟩;unfold Program.keyLits;rw[Tryz.underlying3];simp[h]
instance:Key (Ar 4 Int):=⟨fun k=>k.l.all fun n=>(Lit.int .i64 n).wf⟩
theorem ASY:(223:TypeId)<Tryz.prog.types.size:=of_decide_eq_true (by kernel_rfl)
theorem AKC:Tryz.prog.cellsOf 223=4:=by kernel_rfl
theorem ARV:Tryz.prog.keyType 223=true:=by kernel_rfl
theorem APj:Tryz.prog.keyTypeAt 2 223=true:=by kernel_rfl
theorem APk(x:Ar 4 Int):∃a b c d,x=⟨[a,b,c,d],rfl⟩:=by
 obtain⟨l,h⟩:=x
 match l,h with
 |[a,b,c,d],_=>exact⟨a,b,c,d,rfl⟩
theorem AQ0:KT Tryz.prog 223 (Ar 4 Int)where
 kd:=Maps.Keyed.of_law (by refine deep_law_laid AKB (m:=2) (by omega) ASY APj ?_;rw[Tryz.underlying223])
 of:=by
  intro x h;obtain⟨a,b,c,d,rfl⟩:=APk x;have h':(((Lit.int .i64 a).wf=true/\(Lit.int .i64 b).wf=true)/\(Lit.int .i64 c).wf=true)/\(Lit.int .i64 d).wf=true:=by simpa[Key.ok,and_assoc]using h
  obtain⟨⟨⟨ha,hb⟩,hc⟩,hd⟩:=h';have hv:fv ((⟨[a,b,c,d],rfl⟩:Ar 4 Int))=.agg #[.int .i64 a,.int .i64 b,.int .i64 c,.int .i64 d]:=rfl;have hp:0<462:=by decide
  refine⟨.string (keyBytes [.int .i64 a,.int .i64 b,.int .i64 c,.int .i64 d]),?_⟩;rw[hv,keyOf,Tryz.underlying223];simp only[ARV,Value.formed,Tryz.underlying223,AKC];unfold Program.keyLits;rw[Tryz.underlying223];simp[Value.cells,AKC,AN8];refine⟨[[.int .i64 a],[.int .i64 b],[.int .i64 c],[.int .i64 d]],?_,rfl⟩;rw[show List.range 4=[0,1,2,3]from rfl];simp[List.mapM_cons,AFb hp ha,AFb hp hb,AFb hp hc,AFb hp hd]
 inj:=fun x y e=>by
  obtain⟨a,b,c,d,rfl⟩:=APk x;obtain⟨a',b',c',d',rfl⟩:=APk y;have:(Value.agg #[.int .i64 a,.int .i64 b,.int .i64 c,.int .i64 d])=.agg #[.int .i64 a',.int .i64 b',.int .i64 c',.int .i64 d']:=e;simp at this;obtain⟨h1,h2,h3,h4⟩:=this;subst h1 h2 h3 h4
  rfl
def wI(F:Nat)(x0:((Ob ((Uno (List (Ar 2 Int)))×(Ar 101 Int)))×(List (List Int))×(List (Ar 4 Int))))(x1:(Ar 4 Int))(x2:(List ((Ar 4 Int)×Int))):Nat->Int->(Ar 4 Int)->Option (Sum (Int×(List ((Ar 4 Int)×Int))) ((Ar 4 Int)))
 |0,_,_=>none
 |m+1,y1,y2=>
  if(decide (y1<(x0.2.1.length:Int)))=true then
   (ix x1.l y1)>>=fun x5=>
   if(decide (x5=0))=true then
    some (.inl (0,x2))
   else
    (ix y2.l y1)>>=fun x6=>
    (ix y2.l y1)>>=fun x7=>
    wI F x0 x1 x2 m (BA (y1+1)) (xK y2 y1 (BA (x6-1)))
  else
   some (.inr y2)
def xW(F:Nat)(rc:((Ob ((Uno (List (Ar 2 Int)))×(Ar 101 Int)))×(List (List Int))×(List (Ar 4 Int)))->(Ar 4 Int)->(List ((Ar 4 Int)×Int))->Option (Int×(List ((Ar 4 Int)×Int))))(x0:((Ob ((Uno (List (Ar 2 Int)))×(Ar 101 Int)))×(List (List Int))×(List (Ar 4 Int))))(x1:(Ar 4 Int)):Nat->Int->Int->(List ((Ar 4 Int)×Int))->Option (Int×(List ((Ar 4 Int)×Int)))
 |0,_,_,_=>none
 |m+1,y5,y6,y7=>
  if(decide (y6<(x0.2.1.length:Int)))=true then
   (ix x1.l y6)>>=fun x10=>
   (ix x1.l y6)>>=fun x11=>
   (rc (x0.1,x0.2.1,x0.2.2) (xK x1 y6 (BA (x10-1))) y7)>>=fun x12=>
   (zL y5 x12.1)>>=fun x13=>
   xW F rc x0 x1 m x13 (BA (y6+1)) x12.2
  else
   some (y5,y7)
def vG(F:Nat):Nat->((Ob ((Uno (List (Ar 2 Int)))×(Ar 101 Int)))×(List (List Int))×(List (Ar 4 Int)))->(Ar 4 Int)->(List ((Ar 4 Int)×Int))->Option (Int×(List ((Ar 4 Int)×Int)))
 |0,_,_,_=>none
 |mr+1,x0,x1,x2=>
  if(decide (x1=(Ar.fill 4 0:(Ar 4 Int))))=true then
   some (0,x2)
  else
   (kok x1)>>=fun x4=>
   if(AEh x2 x1)=true then
    some ((IL 0 x2 x1),x2)
   else
    ((wI F x0 x1 x2 F 0 x1)>>=fun o=>match o with
     |.inl r=>some r
     |.inr z1=>
      (zu F (x0.1,x0.2.1,x0.2.2) z1)>>=fun x8=>
      ((if x8=true then
       (vG F mr (x0.1,x0.2.1,x0.2.2) z1 x2)>>=fun x9=>
       some (BA (1+x9.1),x9.2)
      else
       ((xW F (vG F mr) x0 x1 F 0 0 x2)>>=fun(z2,z3)=>
       some (z2,z3)):Option (Int×(List ((Ar 4 Int)×Int))))>>=fun(y3,y4)=>
      (kok x1)>>=fun x14=>
      some (y3,(Le y4 x1 y3))))
def ACx(F:Nat)(x0:((Ob ((Uno (List (Ar 2 Int)))×(Ar 101 Int)))×(List (List Int))×(List (Ar 4 Int))))(x1:(Ar 4 Int))(x2:(List ((Ar 4 Int)×Int))):Option (Int×(List ((Ar 4 Int)×Int))):=vG F F x0 x1 x2
def xX(F:Nat)(x0:((Ob ((Uno (List (Ar 2 Int)))×(Ar 101 Int)))×(List (List Int))×(List (Ar 4 Int)))):Nat->(List Int)->Int->(List ((Ar 4 Int)×Int))->Option ((List Int)×(List ((Ar 4 Int)×Int)))
 |0,_,_,_=>none
 |m+1,y1,y2,y3=>
  if(decide (y2<(x0.2.2.length:Int)))=true then
   (ix x0.2.2 y2)>>=fun x2=>
   (ACx F (x0.1,x0.2.1,x0.2.2) x2 y3)>>=fun x3=>
   (app 8 y1 ([BA (1+x3.1)]:List Int))>>=fun x4=>
   xX F x0 m x4 (BA (y2+1)) x3.2
  else
   some (y1,y3)
def kE(F:Nat)(x0:((Ob ((Uno (List (Ar 2 Int)))×(Ar 101 Int)))×(List (List Int))×(List (Ar 4 Int)))):Option (List Int):=
 ((xX F x0 F ([]) 0 ([]:(List ((Ar 4 Int)×Int))))>>=fun(z1,z2)=>
 some z1)
def yO(F:Nat)(x2:(List Int)):Nat->Int->Int->Option (Int)
 |0,_,_=>none
 |m+1,y1,y2=>
  if(decide (y2<(x2.length:Int)))=true then
   (ix x2 y2)>>=fun x3=>
   (zL y1 x3)>>=fun x4=>
   yO F x2 m x4 (BA (y2+1))
  else
   some y1
def yP(F:Nat)(x0:((Ob ((Uno (List (Ar 2 Int)))×(Ar 101 Int)))×(List (List Int))×(List (Ar 4 Int))))(x2:(List Int))(x6:(Ar 4 Int))(x9:(List (Ar 4 Int)))(y4:Int):Nat->(List (Int×Int))->Int->Option ((List (Int×Int)))
 |0,_,_=>none
 |m+1,y6,y7=>
  if(decide (y7<(x9.length:Int)))=true then
   (((ix x9 y7)>>=fun x10=>
   (ix x2 y7)>>=fun x11=>
   (ix x2 y4)>>=fun x12=>
   (gd (decide ((BA (x11+1))=x12)) (Kz F (x0.1,x0.2.1,x0.2.2) x10 x6) false)>>=fun x13=>
   ((if((decide ((BA (x11+1))=x12))&&x13)=true then
    (ix y6 y4)>>=fun x14=>
    (ix y6 y7)>>=fun x15=>
    (ix y6 y4)>>=fun x16=>
    some (vV y6 y4 (BA (x14.1+x15.1),x16.2))
   else
    some y6:Option ((List (Int×Int))))>>=fun y9=>
   some y9):Option ((List (Int×Int))))>>=fun y8=>
   yP F x0 x2 x6 x9 y4 m y8 (BA (y7+1)))
  else
   some y6
def yQ(F:Nat)(x0:((Ob ((Uno (List (Ar 2 Int)))×(Ar 101 Int)))×(List (List Int))×(List (Ar 4 Int))))(x2:(List Int)):Nat->(List (Int×Int))->Int->Option ((List (Int×Int)))
 |0,_,_=>none
 |m+1,y3,y4=>
  if(decide (y4<(x0.2.2.length:Int)))=true then
   (ix x0.2.2 y4)>>=fun x6=>
   (ix x2 y4)>>=fun x7=>
   ((if(decide (x7=1))=true then
    (ix y3 y4)>>=fun x8=>
    some (vV y3 y4 (1,x8.2))
   else
    some y3:Option ((List (Int×Int))))>>=fun y5=>
   (ACD x0.2.2 y4)>>=fun x9=>
   ((yP F x0 x2 x6 x9 y4 F y5 0)>>=fun z3=>
   yQ F x0 x2 m z3 (BA (y4+1))))
  else
   some y3
def yR(F:Nat)(x0:((Ob ((Uno (List (Ar 2 Int)))×(Ar 101 Int)))×(List (List Int))×(List (Ar 4 Int))))(x2:(List Int))(y11:Int):Nat->(List (Int×Int))->Int->Option ((List (Int×Int)))
 |0,_,_=>none
 |m+1,y13,y14=>
  if(decide (y14<(x0.2.2.length:Int)))=true then
   (((((ix y13 y14)>>=fun x21=>
   (ix y13 y14)>>=fun x22=>
   if(!decide ((x21.1,x21.2)=(x22.1,0)))=true then
    (ix x2 y11)>>=fun x23=>
    (ix x2 y14)>>=fun x24=>
    if(decide ((BA (x23+1))=x24))=true then
     (ix x0.2.2 y11)>>=fun x25=>
     (ix x0.2.2 y14)>>=fun x26=>
     (Kz F (x0.1,x0.2.1,x0.2.2) x25 x26)>>=fun x27=>
     some x27
    else
     some false
   else
    if false=true then
     (ix x0.2.2 y11)>>=fun x28=>
     (ix x0.2.2 y14)>>=fun x29=>
     (Kz F (x0.1,x0.2.1,x0.2.2) x28 x29)>>=fun x30=>
     some x30
    else
     some false:Option (Bool))>>=fun y16=>
   ((if y16=true then
    (ix y13 y11)>>=fun x31=>
    (ix y13 y14)>>=fun x32=>
    (ix y13 y11)>>=fun x33=>
    some (vV y13 y11 (x33.1,BA (x31.2+x32.2)))
   else
    some y13:Option ((List (Int×Int))))>>=fun y17=>
   some y17)):Option ((List (Int×Int))))>>=fun y15=>
   yR F x0 x2 y11 m y15 (BA (y14+1)))
  else
   some y13
def xI(F:Nat)(x0:((Ob ((Uno (List (Ar 2 Int)))×(Ar 101 Int)))×(List (List Int))×(List (Ar 4 Int))))(x2:(List Int))(z1:Int):Nat->(List (Int×Int))->Int->Option ((List (Int×Int)))
 |0,_,_=>none
 |m+1,y10,y11=>
  if(decide (0<=y11))=true then
   (ix x2 y11)>>=fun x17=>
   ((if(decide (x17=z1))=true then
    (ix y10 y11)>>=fun x18=>
    some (vV y10 y11 (x18.1,1))
   else
    some y10:Option ((List (Int×Int))))>>=fun y12=>
   ((yR F x0 x2 y11 F y12 (BA (y11+1)))>>=fun z5=>
   xI F x0 x2 z1 m z5 (BA (y11-1))))
  else
   some y10
def zM(F:Nat)(x0:((Ob ((Uno (List (Ar 2 Int)))×(Ar 101 Int)))×(List (List Int))×(List (Ar 4 Int)))):Option (List (Int×Int)):=
 (kE F (x0.1,x0.2.1,x0.2.2))>>=fun x2=>
 ((yO F x2 F 0 0)>>=fun z1=>
 (mks 16 (x0.2.2.length:Int) ((0,0)))>>=fun x5=>
 ((yQ F x0 x2 F x5 0)>>=fun z2=>
 ((xI F x0 x2 z1 F z2 (BA ((x0.2.2.length:Int)-1)))>>=fun z4=>
 some z4)))
def wV(F:Nat)(x0:((Ob ((Uno (List (Ar 2 Int)))×(Ar 101 Int)))×(List (List Int))×(List (Ar 4 Int))))(x2:(List (Int×Int)))(x3:(List Int)):Nat->(List (Ar 4 Int))->Int->Option ((List (Ar 4 Int)))
 |0,_,_=>none
 |m+1,y1,y2=>
  if(decide (y2<(x0.2.2.length:Int)))=true then
   (((ix x0.2.2 y2)>>=fun x4=>
   (((ix x2 y2)>>=fun x6=>
   if(decide (0<x6.2))=true then
    (ix x3 y2)>>=fun x7=>
    if(decide (x7=(BA ((y1.length:Int)+1))))=true then
     if(decide ((y1.length:Int)=0))=true then
      some true
     else
      (ix y1 (BA ((y1.length:Int)-1)))>>=fun x8=>
      (Kz F (x0.1,x0.2.1,x0.2.2) x8 x4)>>=fun x9=>
      some x9
    else
     some false
   else
    if false=true then
     if(decide ((y1.length:Int)=0))=true then
      some true
     else
      (ix y1 (BA ((y1.length:Int)-1)))>>=fun x10=>
      (Kz F (x0.1,x0.2.1,x0.2.2) x10 x4)>>=fun x11=>
      some x11
    else
     some false:Option (Bool))>>=fun y4=>
   ((if y4=true then
    (app 32 y1 ([x4]:List (Ar 4 Int)))>>=fun x12=>
    some x12
   else
    some y1:Option ((List (Ar 4 Int))))>>=fun y5=>
   some y5)):Option ((List (Ar 4 Int))))>>=fun y3=>
   wV F x0 x2 x3 m y3 (BA (y2+1)))
  else
   some y1
def zy(F:Nat)(x0:((Ob ((Uno (List (Ar 2 Int)))×(Ar 101 Int)))×(List (List Int))×(List (Ar 4 Int)))):Option (List (Ar 4 Int)):=
 (zM F (x0.1,x0.2.1,x0.2.2))>>=fun x2=>
 (kE F (x0.1,x0.2.1,x0.2.2))>>=fun x3=>
 ((wV F x0 x2 x3 F ([]) 0)>>=fun z1=>
 some z1)
end Go.Proofs.YtfmelbioccbdoaaGreat
end
section
namespace Go.Proofs.YtfmelbioccbdoaaGreat
open Go Go.Md Go.RowKit
attribute [local irreducible] Go.wpList Go.Code.wp Go.Calls Go.Md.vZ Go.Md.Mt Go.Md.xE Go.Md.uT Go.Code.wpIn

theorem AWO{w0:World}{x0:Int}{r:Bool}(hF:ACu x0=some r):
  Calls Tryz.prog 340 [.int .i64 x0].toArray w0 (Gy fun v w'=>v=.bool r/\Ext w0 w'):=by
 unfold ACu at hF;refine Ko (n:=9) Tryz.func340 rfl rfl rfl<|Zr<|Za<|nl<|Zr<|Zm<|Zv (Jr rfl rfl)<|Zm<|Zg rfl rfl (IA rfl) (fun hc=>Pv rfl)<|Zg rfl rfl (IA rfl) (fun hc=>zk (mv hc rfl) rfl)<|Zv (xpo rfl rfl rfl)<|Za<|nl<|?_;cases hF;exact wp_ret<|Zw rfl rfl rfl ⟨rfl,(Ext.refl _)⟩
theorem ASZ{w0:World}{v0:Value}{x0:(List Int)}(r0:RV w0 v0 x0){F:Nat}{r:Bool}(hF:AB3 F x0=some r):
  Calls Tryz.prog 301 [v0].toArray w0 (Gy fun v w'=>v=.bool r/\Ext w0 w'):=by
 unfold AB3 at hF;have hz:=r0.sl;obtain⟨a1,cq1,rfl,-,-,-⟩:=hz;refine Ko (n:=6) Tryz.func301 rfl rfl rfl<|Zr<|Za<|nl<|Zr<|Zm<|bS hF fun x2 Ex2 hF=>Zc (xc AMY (mc rfl (mc rfl mn))) (APh r0 ⟨340,[],[],rfl,AUf,fun w' u x b hk hu hp=>by cases RVo.int.1 hu;exact AWO hp⟩ Ex2) ?_;rintro _ w1⟨rfl,hx1⟩;refine Zv (yC rfl)<|Za<|nl<|?_;cases hF;exact wp_ret<|Zw rfl rfl rfl ⟨rfl,hx1⟩
theorem AWP{w0:World}{v0:Value}{x0:(Uno (List (Ar 2 Int)))}(r0:RV w0 v0 x0){F:Nat}{r:Int}(hF:ABl F x0=some r):
  Calls Tryz.prog 300 [v0].toArray w0 (Gy fun v w'=>v=.int .i64 r/\Ext w0 w'):=by
 unfold ABl at hF;have hz:=id r0;obtain⟨_,rfl,a1,cq1,rfl,p1,q2,e1⟩:=hz;have r2:=RV.of1 p1 q2 e1;refine Ko (n:=24) Tryz.func300 rfl rfl rfl<|Zr<|xG rfl rfl fun b2 w1 hx1 hg1 hb1=>Za<|nl<|wp_seq<|Zr<|Zv (BH rfl ABx)<|Zv (Ac rfl AEH ((Bx.cs hb1).at 0 rfl))<|Zv (DF rfl Tryz.underlying82)<|Zv (zk rfl rfl)<|nl<|cnd rfl (fun h2=>?_) (fun h2=>?_)
 ·have hF:=BP hF h2;refine Zr<|Za<|nl<|?_;cases hF;exact wp_ret<|Zw rfl rfl rfl ⟨rfl,hx1⟩
 ·have hF:=Bh hF h2;refine wp_skip<|wp_seq<|Zr<|Zv (BH rfl ABx)<|Zv (Ac rfl AEH ((Bx.cs hb1).at 0 rfl))<|Zv (DF rfl Tryz.underlying82)<|Zm<|nl<|bS hF fun o1 hB1 hF=>ct (fun L w=>o1=.inr ()/\Ext w1 w) ?_ ?_
  ·refine wp_block<|lp (I:=fun m L w=>∃y1:Int,xH F x0 m y1=some o1/\L 12=.int .i64 y1/\L 10=.slice a1 x0.v.length cq1/\L 11=.int .i64 (x0.v.length:Int)/\Ext w1 w) F ⟨_,hB1,rfl,rfl,rfl,(Ext.refl _)⟩ ?_;rintro m L w2⟨y1,hB1,l12_i1,l10_i1,l11_i1,K0_i1⟩;rcases m with _|m
   ·rw[xH]at hB1;cases hB1
   rw[xH]at hB1;have k1:=hx1.tr K0_i1;refine Zr<|Zv (Jr l12_i1 l11_i1)<|nl<|wp_seq<|cnd rfl (fun h3=>?_) (fun h3=>?_)
   ·have hB1:=BP hB1 h3;refine wp_skip<|wp_seq<|wp_block<|Zr<|bS hB1 fun x2 Ex2 hB1=>?_;have hz:=(RV.els r2).ix Ex2;obtain⟨b3,f1,cs2,e2,i2,i3,q3,hc1⟩:=hz;cases e2;obtain rfl:=q3;have hc2:=hc1.ext k1;refine Zv (CG l10_i1 l12_i1 Tryz.underlying82 ACq i2 i3)<|Zv (DY rfl ACq (Gi _) hc2)<|zW ACq fun b4 w3 hx2 hg2 hb2=>?_;have k2:=k1.tr hx2;have k3:=K0_i1.tr hx2;have hb3:Bx w3 b4 340 (List.flatMap Flat.enc ((Ar.fill 2 0:(Ar 2 Int))).l):=hb2;refine AEi rfl rfl ACq hb3 (Gi _) (Gi _) (AA0 _) fun w4 hch1 hb4=>?_;have k4:=Ext.chg k2 hch1 (Nat.le_trans k1.size hg2);have k5:=Ext.chg k3 hch1 (Nat.le_trans K0_i1.size hg2);have hb5:Bx w4 b4 340 (List.flatMap Flat.enc x2.l):=hb4;refine nl<|Zr<|bS hB1 fun x3 Ex3 hB1=>?_;have hz:=wR (Bx.cs hb5) Ex3;obtain⟨i4,i5,hc3⟩:=hz;refine Zv (wJ rfl rfl Tryz.underlying340 Ap i4 i5)<|Zv (Ac rfl Ap (hc3.at 0 rfl))<|bS hB1 fun x4 Ex4 hB1=>?_;have hz:=wR (Bx.cs hb5) Ex4;obtain⟨i6,i7,hc4⟩:=hz;refine Zv (wJ rfl rfl Tryz.underlying340 Ap i6 i7)<|Zv (Ac rfl Ap (hc4.at 0 rfl))<|AAg (cs:=[.int .i64 x3,.int .i64 x4]) Tryz.underlying41 Ap rfl (pc rfl (pc rfl pn)) rfl rfl rfl rfl rfl fun b5 w5 hx3 hg3 hb6=>?_;have k7:=k4.tr hx3;have k8:=k5.tr hx3;have o2:Row (α:=Int) 3 w4.heap.size w5 (.slice (some ⟨b5,0,none⟩) 2 2) [x3,x4]:=Row.lit hg3 hb6 rfl (ble rfl);refine bS hB1 fun x5 Ex5 hB1=>Zc (xc AQv (mc rfl mn)) (ASZ o2.rv Ex5) ?_;rintro _ w6⟨rfl,hx4⟩;have k10:=k7.tr hx4;have k11:=k8.tr hx4;refine Zv (yC rfl)<|nl<|cnd rfl (fun h4=>?_) (fun h4=>?_)
    ·have hB1:=BP hB1 h4;refine Zr<|Za<|nl<|?_;cases hB1;have hF:=(show some _=some _ from hF);cases hF;exact wp_ret<|Zw rfl rfl rfl ⟨rfl,k10⟩
    ·have hB1:=Bh hB1 h4;refine wp_skip<|rg<|Zv (FH l12_i1 rfl)<|Zm<|nl<|lq m (Nat.lt_succ_self _)<|?_;exact⟨_,hB1,rfl,l10_i1,l11_i1,k11⟩
   ·have hB1:=Bh hB1 h3;refine wp_exit<|?_;cases hB1;refine lf<|?_;exact⟨rfl,K0_i1⟩
  rintro L w7⟨rfl,K0_j1⟩;have k14:=hx1.tr K0_j1;refine Zr<|Za<|nl<|?_;cases hF;exact wp_ret<|Zw rfl rfl rfl ⟨rfl,k14⟩
theorem AWQ{w0:World}{v0:Value}{x0:(List Int)}(r0:RV w0 v0 x0){r:Bool}(hF:ABf x0=some r):
  Calls Tryz.prog 312 [v0].toArray w0 (Gy fun v w'=>v=.bool r/\Ext w0 w'):=by
 unfold ABf at hF;have hz:=r0.sl;obtain⟨a1,cq1,rfl,-,-,-⟩:=hz;refine Ko (n:=6) Tryz.func312 rfl rfl rfl<|Zr<|Za<|nl<|Zr<|Zm<|Zv (DF rfl Tryz.underlying41)<|Zv (zk rfl rfl)<|Za<|nl<|?_;cases hF;exact wp_ret<|Zw rfl rfl rfl ⟨rfl,(Ext.refl _)⟩
theorem AWR{w0:World}{v0:Value}{x0:(List Int)}(r0:RV w0 v0 x0){F:Nat}{r:Bool}(hF:ABg F x0=some r):
  Calls Tryz.prog 313 [v0].toArray w0 (Gy fun v w'=>v=.bool r/\Ext w0 w'):=by
 unfold ABg at hF;have hz:=r0.sl;obtain⟨a1,cq1,rfl,-,-,-⟩:=hz;refine Ko (n:=6) Tryz.func313 rfl rfl rfl<|Zr<|Za<|nl<|Zr<|Zm<|bS hF fun x2 Ex2 hF=>Zc (xc AQv (mc rfl mn)) (ASZ r0 Ex2) ?_;rintro _ w1⟨rfl,hx1⟩;refine Zv (yC rfl)<|Za<|nl<|?_;cases hF;exact wp_ret<|Zw rfl rfl rfl ⟨rfl,hx1⟩
theorem AWS{w0:World}{v0:Value}{x0:(List (List Int))}(r0:RV w0 v0 x0){v1:Value}{x1:(List Int)->Option Bool}(h1:FnB Tryz.prog (List Int) w0 v1 x1){F:Nat}{r:Int}(hF:AAb F x0 x1=some r):
  Calls Tryz.prog 343 [v0,v1].toArray w0 (Gy fun v w'=>v=.int .i64 r/\Ext w0 w'):=by
 unfold AAb at hF;have hz:=r0.sl;obtain⟨a1,cq1,rfl,-,-,-⟩:=hz;refine Ko (n:=19) Tryz.func343 rfl rfl rfl<|Zr<|Za<|nl<|wp_seq<|Zr<|Zm<|Zv (DF rfl Tryz.underlying78)<|Zm<|nl<|bS hF fun o1 hB1 hF=>ct (fun L w=>o1=.inr ()/\Ext w0 w) ?_ ?_
 ·refine wp_block<|lp (I:=fun m L w=>∃y1:Int,vP F x0 x1 m y1=some o1/\L 8=.int .i64 y1/\L 0=.slice a1 x0.length cq1/\L 1=v1/\L 7=.int .i64 (x0.length:Int)/\Ext w0 w) F ⟨_,hB1,rfl,rfl,rfl,rfl,(Ext.refl _)⟩ ?_;rintro m L w1⟨y1,hB1,l8_i1,l0_i1,l1_i1,l7_i1,K0_i1⟩;rcases m with _|m
  ·rw[vP]at hB1;cases hB1
  rw[vP]at hB1;have h3:=h1.ext K0_i1;refine Zr<|Zv (Jr l8_i1 l7_i1)<|nl<|wp_seq<|cnd rfl (fun h4=>?_) (fun h4=>?_)
  ·have hB1:=BP hB1 h4;refine wp_skip<|wp_seq<|wp_block<|Zr<|Zm<|Za<|nl<|Zr<|Zm<|Zm<|Zm<|bS hB1 fun x3 Ex3 hB1=>?_;have hz:=(RV.els r0).ix Ex3;obtain⟨b3,f1,cs3,e1,i2,i3,q3,hc1⟩:=hz;cases e1;obtain⟨a2,cq2,rfl,p1,q4,e2⟩:=q3;have r4:=RV.of1 p1 q4 e2;have hc2:=hc1.ext K0_i1;have r5:=r4.ext K0_i1;refine Zv (CG l0_i1 l8_i1 Tryz.underlying78 Zk i2 i3)<|Zv (Ac rfl Zk (hc2.at 0 rfl))<|bS hB1 fun x4 Ex4 hB1=>?_;have hz:=id h3;obtain⟨g1,fs1,cs4,e3,hg1,hu1⟩:=hz;refine Zc (xcv (l1_i1.trans e3) hg1 (mc rfl mn) rfl) (hu1 _ _ _ _ (Ext.refl _) r5 Ex4) ?_;rintro _ w2⟨rfl,hx1⟩;have k1:=K0_i1.tr hx1;refine nl<|cnd rfl (fun h6=>?_) (fun h6=>?_)
   ·have hB1:=BP hB1 h6;refine Zr<|Zm<|Za<|nl<|?_;cases hB1;have hF:=(show some _=some _ from hF);cases hF;exact wp_ret<|rt rfl (.tmp l8_i1 rfl .nil) ⟨rfl,k1⟩
   ·have hB1:=Bh hB1 h6;refine wp_skip<|rg<|Zv (FH l8_i1 rfl)<|Zm<|nl<|lq m (Nat.lt_succ_self _)<|?_;exact⟨_,hB1,rfl,l0_i1,l1_i1,l7_i1,k1⟩
  ·have hB1:=Bh hB1 h4;refine wp_exit<|?_;cases hB1;refine lf<|?_;exact⟨rfl,K0_i1⟩
 rintro L w3⟨rfl,K0_j1⟩;refine Zr<|Za<|nl<|?_;cases hF;exact wp_ret<|Zw rfl rfl rfl ⟨rfl,K0_j1⟩
theorem ASa{w0:World}{v0:Value}{x0:(List (List Int))}(r0:RV w0 v0 x0){v1:Value}{x1:(List Int)->Option Bool}(h1:FnB Tryz.prog (List Int) w0 v1 x1){F:Nat}{r:Bool}(hF:wM F x0 x1=some r):
  Calls Tryz.prog 311 [v0,v1].toArray w0 (Gy fun v w'=>v=.bool r/\Ext w0 w'):=by
 unfold wM at hF;have hz:=r0.sl;obtain⟨a1,cq1,rfl,-,-,-⟩:=hz;refine Ko (n:=9) Tryz.func311 rfl rfl rfl<|Zr<|Za<|nl<|Zr<|Zm<|Zm<|bS hF fun x3 Ex3 hF=>Zc (xc AUg (mc rfl (mc rfl mn))) (AWS r0 h1 Ex3) ?_;rintro _ w1⟨rfl,hx1⟩;refine Zv (ADK rfl rfl)<|Za<|nl<|?_;cases hF;exact wp_ret<|Zw rfl rfl rfl ⟨rfl,hx1⟩
theorem AWT{w0:World}{v0:Value}{x0:(Uno (List (Ar 2 Int)))}(r0:RV w0 v0 x0){v1:Value}{x1:(List (List Int))}(r1:RV w0 v1 x1){F:Nat}{r:Int}(hF:ABN F x0 x1=some r):
  Calls Tryz.prog 231 [v0,v1].toArray w0 (Gy fun v w'=>v=.int .i64 r/\Ext w0 w'):=by
 unfold ABN at hF;have hz:=id r0;obtain⟨_,rfl,a1,cq1,rfl,p1,q3,e1⟩:=hz;have r3:=RV.of1 p1 q3 e1;have hz:=r1.sl;obtain⟨a2,cq2,rfl,-,-,-⟩:=hz;refine Ko (n:=26) Tryz.func231 rfl rfl rfl<|Zr<|xG rfl rfl fun b3 w1 hx1 hg1 hb1=>?_;have r4:=r1.ext hx1;have r5:=r3.ext hx1;refine Za<|nl<|wp_seq<|Zr<|Zv (DY rfl ABa rfl (Bx.cs hb1))<|bS hF fun x3 Ex3 hF=>Zc (xc AUS (mc rfl mn)) (AWP (show RV (α:=(Uno (List (Ar 2 Int)))) _ (.agg [.slice a1 x0.v.length cq1].toArray) (⟨x0.v⟩:(Uno (List (Ar 2 Int))))from⟨_,rfl,r5.rep1⟩) Ex3) ?_;rintro _ w2⟨rfl,hx2⟩;have k1:=hx1.tr hx2;have r7:=r4.ext hx2;refine Za<|nl<|Zr<|Zm<|Zv (zV rfl rfl)<|nl<|cnd rfl (fun h3=>?_) (fun h3=>?_)
 ·have hF:=BP hF h3;refine Zr<|Zm<|Za<|nl<|?_;cases hF;exact wp_ret<|Zw rfl rfl rfl ⟨rfl,k1⟩
 ·have hF:=Bh hF h3;refine wp_skip<|wp_seq<|wp_block<|Zr<|Zm<|Zv (DF rfl Tryz.underlying78)<|Zv (Jr rfl rfl)<|Zm<|Zg rfl rfl (IA rfl) (fun hc=>Pv rfl)<|Zg rfl rfl (IA rfl) (fun hc=>DF (mv hc rfl) Tryz.underlying78)<|Zg rfl rfl (IA rfl) (fun hc=>zk (mv hc rfl) rfl)<|Zv (xpo rfl rfl rfl)<|Za<|nl<|cnd rfl (fun h4=>?_) (fun h4=>?_)
  ·have hF:=BP hF h4;refine Zr<|Za<|nl<|?_;cases hF;exact wp_ret<|Zw rfl rfl rfl ⟨rfl,k1⟩
  ·have hF:=Bh hF h4;refine Zr<|Zm<|bS hF fun x4 Ex4 hF=>Zc (xc AQw (mc rfl (mc rfl mn))) (ASa r7 ⟨312,[],[],rfl,AUY,fun w' u x b hk hu hp=>AWQ hu hp⟩ Ex4) ?_;rintro _ w3⟨rfl,hx3⟩;have k2:=k1.tr hx3;have r8:=r7.ext hx3;refine Za<|nl<|cnd rfl (fun h5=>?_) (fun h5=>?_)
   ·have hF:=BP hF h5;refine Zr<|Za<|nl<|?_;cases hF;exact wp_ret<|Zw rfl rfl rfl ⟨rfl,k2⟩
   ·have hF:=Bh hF h5;refine Zr<|Zm<|bS hF fun x5 Ex5 hF=>Zc (xc AQw (mc rfl (mc rfl mn))) (ASa r8 ⟨313,[],[],rfl,AUZ,fun w' u x b hk hu hp=>AWR hu hp⟩ Ex5) ?_;rintro _ w4⟨rfl,hx4⟩;have k3:=k2.tr hx4;refine Za<|nl<|cnd rfl (fun h6=>?_) (fun h6=>?_)
    ·have hF:=BP hF h6;refine Zr<|Za<|nl<|?_;cases hF;exact wp_ret<|Zw rfl rfl rfl ⟨rfl,k3⟩
    ·have hF:=Bh hF h6;refine wp_skip<|Zr<|Za<|nl<|?_;cases hF;exact wp_ret<|Zw rfl rfl rfl ⟨rfl,k3⟩
theorem APl{w0:World}{x0:Int}{r:Bool}(hF:ABm x0=some r):
  Calls Tryz.prog 237 [.int .i64 x0].toArray w0 (Gy fun v w'=>v=.bool r/\Ext w0 w'):=by
 unfold ABm at hF;refine Ko (n:=9) Tryz.func237 rfl rfl rfl<|Zr<|Za<|nl<|Zr<|Zm<|Zv (ADK rfl rfl)<|Zm<|Zg rfl rfl (gw1 rfl) (fun hc=>Pv rfl)<|Zg rfl rfl (gw1 rfl) (fun hc=>AJz (mv hc rfl) rfl)<|Zv (xpa rfl rfl rfl)<|Za<|nl<|?_;cases hF;exact wp_ret<|Zw rfl rfl rfl ⟨rfl,(Ext.refl _)⟩
theorem ASb{w0:World}{v0:Value}{x0:(Uno (List (Ar 2 Int)))}(r0:RV w0 v0 x0){F:Nat}{r:Int}(hF:AAc F x0=some r):
  Calls Tryz.prog 236 [v0].toArray w0 (Gy fun v w'=>v=.int .i64 r/\Ext w0 w'):=by
 unfold AAc at hF;have hz:=id r0;obtain⟨_,rfl,a1,cq1,rfl,p1,q2,e1⟩:=hz;have r2:=RV.of1 p1 q2 e1;refine Ko (n:=33) Tryz.func236 rfl rfl rfl<|Zr<|xG rfl rfl fun b2 w1 hx1 hg1 hb1=>Za<|nl<|wp_seq<|Zr<|Zv (BH rfl ABx)<|Zv (Ac rfl AEH ((Bx.cs hb1).at 0 rfl))<|Zv (DF rfl Tryz.underlying82)<|Zv (zk rfl rfl)<|nl<|cnd rfl (fun h2=>?_) (fun h2=>?_)
 ·have hF:=BP hF h2;refine Zr<|Za<|nl<|?_;cases hF;exact wp_ret<|Zw rfl rfl rfl ⟨rfl,hx1⟩
 ·have hF:=Bh hF h2;refine wp_skip<|wp_seq<|Zr<|Za<|nl<|bS hF fun o1 hB1 hF=>ct (fun L w=>o1=.inr ()/\Ext w1 w) ?_ ?_
  ·refine wp_block<|lp (I:=fun m L w=>∃y1:Int,yF F x0 m y1=some o1/\L 3=.int .i64 y1/\L 1=.pointer (some ⟨b2,0,none⟩)/\Ext w1 w) F ⟨_,hB1,rfl,rfl,(Ext.refl _)⟩ ?_;rintro m L w2⟨y1,hB1,l3_i1,l1_i1,K0_i1⟩;rcases m with _|m
   ·rw[yF]at hB1;cases hB1
   rw[yF]at hB1;have k1:=hx1.tr K0_i1;have hb2:=hb1.ext K0_i1;refine wp_seq<|Zr<|Zm<|Zv (BH l1_i1 ABx)<|Zv (Ac rfl AEH ((Bx.cs hb2).at 0 rfl))<|Zv (DF rfl Tryz.underlying82)<|Zv (Jr l3_i1 rfl)<|nl<|cnd rfl (fun h3=>?_) (fun h3=>?_)
   ·have hB1:=BP hB1 h3;refine wp_skip<|wp_seq<|wp_block<|wp_seq<|bS hB1 fun y2 hB3 hB1=>ct (fun L w=>L 32=.bool y2/\L 1=.pointer (some ⟨b2,0,none⟩)/\L 3=.int .i64 y1/\Ext w2 w) ?_ ?_
    ·refine rg<|Zv (BH l1_i1 ABx)<|Zv (Ac rfl AEH ((Bx.cs hb2).at 0 rfl))<|Zm<|bS hB3 fun x5 Ex5 hB3=>?_;have hz:=(RV.els r2).ix Ex5;obtain⟨b4,f2,cs3,e3,i6,i7,q4,hc4⟩:=hz;cases e3;obtain rfl:=q4;have hc5:=hc4.ext k1;refine Zv (CG rfl l3_i1 Tryz.underlying82 ACq i6 i7)<|bS hB3 fun x6 Ex6 hB3=>?_;have hz:=wR hc5 Ex6;obtain⟨i8,i9,hc6⟩:=hz;refine Zv (wJ rfl rfl Tryz.underlying340 Ap i8 i9)<|Zv (Ac rfl Ap (hc6.at 0 rfl))<|bS hB3 fun x7 Ex7 hB3=>Zc (xc AMZ (mc rfl mn)) (APl Ex7) ?_;rintro _ w4⟨rfl,hx3⟩;have k4:=k1.tr hx3;have hb4:=hb2.ext hx3;refine Zv (yC rfl)<|Zm<|Or.elim (Bool.eq_false_or_eq_true (!x7)) (fun h4=>?_) (fun h4=>?_)
     ·have hB3:=BP hB3 h4;refine Gk rfl (EP h4)<|Gk rfl (EP h4)<|Gk rfl (EP h4)<|Gk rfl (EP h4)<|Gk rfl (EP h4)<|Gk rfl (EP h4)<|Gk rfl (EP h4)<|Gk rfl (EP h4)<|Zv (yw rfl h4 rfl)<|nl<|?_;cases hB3;refine lf<|?_;exact⟨rfl,l1_i1,l3_i1,hx3⟩
     ·have hB3:=Bh hB3 h4;refine Gt rfl (bf h4)<|Zv (BH l1_i1 ABx)<|Gt rfl (bf h4)<|Zv (Ac rfl AEH ((Bx.cs hb4).at 0 rfl))<|Gt rfl (bf h4)<|Zm<|bS hB3 fun x8 Ex8 hB3=>?_;have hz:=yc r2 Ex8;obtain⟨cs4,i10,i11,q5,hc7⟩:=hz;obtain rfl:=q5;have hc8:=hc7.ext k4;refine Gt rfl (bf h4)<|Zv (CG rfl l3_i1 Tryz.underlying82 ACq i10 i11)<|bS hB3 fun x9 Ex9 hB3=>?_;have hz:=wR hc8 Ex9;obtain⟨i12,i13,hc9⟩:=hz;refine Gt rfl (bf h4)<|Zv (wJ rfl rfl Tryz.underlying340 Ap i12 i13)<|Gt rfl (bf h4)<|Zv (Ac rfl Ap (hc9.at 0 rfl))<|bS hB3 fun x10 Ex10 hB3=>Gt rfl (bf h4)<|Zc (xc AMZ (mc rfl mn)) (APl Ex10) ?_;rintro _ w5⟨rfl,hx4⟩;have k8:=hx3.tr hx4;refine Gt rfl (bf h4)<|Zv (yC rfl)<|Zv (xpf rfl h4 rfl)<|nl<|?_;cases hB3;refine lf<|?_;exact⟨rfl,l1_i1,l3_i1,k8⟩
    rintro L w6⟨l32_j1,l1_j1,l3_j1,K0_j1⟩;have k9:=k1.tr K0_j1;have k10:=K0_i1.tr K0_j1;refine cnd l32_j1 (fun h5=>?_) (fun h5=>?_)
    ·have hB1:=BP hB1 h5;refine Zr<|Za<|nl<|?_;cases hB1;have hF:=(show some _=some _ from hF);cases hF;exact wp_ret<|Zw rfl rfl rfl ⟨rfl,k9⟩
    ·have hB1:=Bh hB1 h5;refine wp_skip<|rg<|Zm<|Zv (FH l3_j1 rfl)<|Za<|nl<|lq m (Nat.lt_succ_self _)<|?_;exact⟨_,hB1,rfl,l1_j1,k10⟩
   ·have hB1:=Bh hB1 h3;refine wp_exit<|?_;cases hB1;refine lf<|?_;exact⟨rfl,K0_i1⟩
  rintro L w7⟨rfl,K0_j2⟩;have k11:=hx1.tr K0_j2;refine Zr<|Za<|nl<|?_;cases hF;exact wp_ret<|Zw rfl rfl rfl ⟨rfl,k11⟩
theorem AWU{w0:World}{v0:Value}{x0:(Uno (List (Ar 2 Int)))}(r0:RV w0 v0 x0){v1:Value}{x1:(List (List Int))}(r1:RV w0 v1 x1){F:Nat}{r:Int}(hF:AA3 F x0 x1=some r):
  Calls Tryz.prog 128 [v0,v1].toArray w0 (Gy fun v w'=>v=.int .i64 r/\Ext w0 w'):=by
 unfold AA3 at hF;have hz:=id r0;obtain⟨_,rfl,a1,cq1,rfl,p1,q3,e1⟩:=hz;have r3:=RV.of1 p1 q3 e1;have hz:=r1.sl;obtain⟨a2,cq2,rfl,-,-,-⟩:=hz;refine Ko (n:=57) Tryz.func128 rfl rfl rfl<|Zr<|xG rfl rfl fun b3 w1 hx1 hg1 hb1=>?_;have r5:=r3.ext hx1;refine Za<|nl<|wp_seq<|Zr<|Zv (DY rfl ABa rfl (Bx.cs hb1))<|bS hF fun x3 Ex3 hF=>Zc (xc AQq (mc rfl mn)) (ASb (show RV (α:=(Uno (List (Ar 2 Int)))) _ (.agg [.slice a1 x0.v.length cq1].toArray) (⟨x0.v⟩:(Uno (List (Ar 2 Int))))from⟨_,rfl,r5.rep1⟩) Ex3) ?_;rintro _ w2⟨rfl,hx2⟩;have k1:=hx1.tr hx2;have hb2:=hb1.ext hx2;have r7:=r5.ext hx2;refine Zv (zV rfl rfl)<|nl<|cnd rfl (fun h3=>?_) (fun h3=>?_)
 ·have hF:=BP hF h3;refine Zr<|Zv (DY rfl ABa rfl (Bx.cs hb2))<|bS hF fun x4 Ex4 hF=>Zc (xc AQq (mc rfl mn)) (ASb (show RV (α:=(Uno (List (Ar 2 Int)))) _ (.agg [.slice a1 x0.v.length cq1].toArray) (⟨x0.v⟩:(Uno (List (Ar 2 Int))))from⟨_,rfl,r7.rep1⟩) Ex4) ?_;rintro _ w3⟨rfl,hx3⟩;have k2:=k1.tr hx3;refine Za<|nl<|?_;cases hF;exact wp_ret<|Zw rfl rfl rfl ⟨rfl,k2⟩
 ·have hF:=Bh hF h3;refine wp_skip<|wp_seq<|Zr<|Zm<|Zv (DF rfl Tryz.underlying78)<|Zv (Jr rfl rfl)<|Zm<|Zg rfl rfl (IA rfl) (fun hc=>Pv rfl)<|Zg rfl rfl (IA rfl) (fun hc=>DF (mv hc rfl) Tryz.underlying78)<|Zg rfl rfl (IA rfl) (fun hc=>zk (mv hc rfl) rfl)<|Zv (xpo rfl rfl rfl)<|nl<|cnd rfl (fun h4=>?_) (fun h4=>?_)
  ·have hF:=BP hF h4;refine Zr<|Za<|nl<|?_;cases hF;exact wp_ret<|Zw rfl rfl rfl ⟨rfl,k1⟩
  ·have hF:=Bh hF h4;refine wp_skip<|wp_seq<|Zr<|Za<|nl<|bS hF fun o1 hB1 hF=>ct (fun L w=>o1=.inr ()/\L 1=.slice a2 x1.length cq2/\Ext w2 w) ?_ ?_
   ·refine wp_block<|lp (I:=fun m L w=>∃y1:Int,xP F x1 m y1=some o1/\L 5=.int .i64 y1/\L 1=.slice a2 x1.length cq2/\Ext w2 w) F ⟨_,hB1,rfl,rfl,(Ext.refl _)⟩ ?_;rintro m L w4⟨y1,hB1,l5_i1,l1_i1,K0_i1⟩;rcases m with _|m
    ·rw[xP]at hB1;cases hB1
    rw[xP]at hB1;have k3:=k1.tr K0_i1;refine wp_seq<|Zr<|Zm<|Zm<|Zv (DF l1_i1 Tryz.underlying78)<|Zv (Jr l5_i1 rfl)<|nl<|cnd rfl (fun h5=>?_) (fun h5=>?_)
    ·have hB1:=BP hB1 h5;refine wp_skip<|wp_seq<|wp_block<|Zr<|Zm<|Zm<|bS hB1 fun x5 Ex5 hB1=>?_;have hz:=(RV.els r1).ix Ex5;obtain⟨b4,f1,cs3,e2,i2,i3,q4,hc1⟩:=hz;cases e2;obtain⟨a3,cq3,rfl,p2,q5,e3⟩:=q4;have hc2:=hc1.ext k3;refine Zv (CG l1_i1 l5_i1 Tryz.underlying78 Zk i2 i3)<|Zv (Ac rfl Zk (hc2.at 0 rfl))<|Zv (DF rfl Tryz.underlying41)<|Zv (zk rfl rfl)<|nl<|cnd rfl (fun h6=>?_) (fun h6=>?_)
     ·have hB1:=BP hB1 h6;refine Zr<|Za<|nl<|?_;cases hB1;have hF:=(show some _=some _ from hF);cases hF;exact wp_ret<|Zw rfl rfl rfl ⟨rfl,k3⟩
     ·have hB1:=Bh hB1 h6;refine wp_skip<|rg<|Zm<|Zv (FH l5_i1 rfl)<|Za<|nl<|lq m (Nat.lt_succ_self _)<|?_;exact⟨_,hB1,rfl,l1_i1,K0_i1⟩
    ·have hB1:=Bh hB1 h5;refine wp_exit<|?_;cases hB1;refine lf<|?_;exact⟨rfl,l1_i1,K0_i1⟩
   rintro L w5⟨rfl,l1_j1,K0_j1⟩;have k4:=k1.tr K0_j1;refine wp_seq<|Zr<|Za<|nl<|bS hF fun o2 hB6 hF=>ct (fun L w=>o2=.inr ()/\Ext w5 w) ?_ ?_
   ·refine wp_block<|lp (I:=fun m L w=>∃y2:Int,xR F x1 m y2=some o2/\L 6=.int .i64 y2/\L 1=.slice a2 x1.length cq2/\Ext w5 w) F ⟨_,hB6,rfl,l1_j1,(Ext.refl _)⟩ ?_;rintro m L w6⟨y2,hB6,l6_i4,l1_i4,K0_i4⟩;rcases m with _|m
    ·rw[xR]at hB6;cases hB6
    rw[xR]at hB6;have k5:=k4.tr K0_i4;refine wp_seq<|Zr<|Zm<|Zm<|Zv (DF l1_i4 Tryz.underlying78)<|Zv (Jr l6_i4 rfl)<|nl<|cnd rfl (fun h7=>?_) (fun h7=>?_)
    ·have hB6:=BP hB6 h7;refine wp_skip<|wp_seq<|wp_block<|Zr<|Za<|nl<|bS hB6 fun o3 hB8 hB6=>ct (fun L w=>o3=.inr ()/\L 1=.slice a2 x1.length cq2/\L 6=.int .i64 y2/\Ext w6 w) ?_ ?_
     ·refine wp_block<|lp (I:=fun m L w=>∃y3:Int,xQ F x1 y2 m y3=some o3/\L 7=.int .i64 y3/\L 1=.slice a2 x1.length cq2/\L 6=.int .i64 y2/\Ext w6 w) F ⟨_,hB8,rfl,l1_i4,l6_i4,(Ext.refl _)⟩ ?_;rintro m L w7⟨y3,hB8,l7_i5,l1_i5,l6_i5,K0_i5⟩;rcases m with _|m
      ·rw[xQ]at hB8;cases hB8
      rw[xQ]at hB8;have k7:=k5.tr K0_i5;refine wp_seq<|Zr<|Zm<|Zm<|Zm<|bS hB8 fun x6 Ex6 hB8=>?_;have hz:=(RV.els r1).ix Ex6;obtain⟨b5,f2,cs4,e4,i6,i7,q6,hc3⟩:=hz;cases e4;obtain⟨a4,cq4,rfl,p3,q7,e5⟩:=q6;have hc4:=hc3.ext k7;refine Zv (CG l1_i5 l6_i5 Tryz.underlying78 Zk i6 i7)<|Zv (Ac rfl Zk (hc4.at 0 rfl))<|Zv (DF rfl Tryz.underlying41)<|Zv (Jr l7_i5 rfl)<|nl<|cnd rfl (fun h8=>?_) (fun h8=>?_)
      ·have hB8:=BP hB8 h8;refine wp_skip<|wp_seq<|wp_block<|Zr<|Zm<|Zm<|bS hB8 fun x7 Ex7 hB8=>?_;have hz:=yc r1 Ex7;obtain⟨cs5,i8,i9,q8,hc5⟩:=hz;obtain⟨a5,cq5,rfl,p4,q9,e6⟩:=q8;have r17:=RV.of1 p4 q9 e6;have hc6:=hc5.ext k7;refine Zv (CG l1_i5 l6_i5 Tryz.underlying78 Zk i8 i9)<|Zv (Ac rfl Zk (hc6.at 0 rfl))<|Zm<|bS hB8 fun x8 Ex8 hB8=>?_;have hz:=(RV.els r17).ix Ex8;obtain⟨b6,f3,cs6,e7,i10,i11,q10,hc7⟩:=hz;cases e7;obtain rfl:=q10;have hc8:=hc7.ext k7;refine Zv (CG rfl l7_i5 Tryz.underlying41 Ap i10 i11)<|Zv (Ac rfl Ap (hc8.at 0 rfl))<|bS hB8 fun x9 Ex9 hB8=>Zc (xc AMZ (mc rfl mn)) (APl Ex9) ?_;rintro _ w8⟨rfl,hx4⟩;have k10:=k7.tr hx4;have k13:=K0_i5.tr hx4;refine Zv (yC rfl)<|nl<|cnd rfl (fun h9=>?_) (fun h9=>?_)
       ·have hB8:=BP hB8 h9;refine Zr<|Za<|nl<|?_;cases hB8;have hB6:=(show some _=some _ from hB6);cases hB6;have hF:=(show some _=some _ from hF);cases hF;exact wp_ret<|Zw rfl rfl rfl ⟨rfl,k10⟩
       ·have hB8:=Bh hB8 h9;refine wp_skip<|rg<|Zm<|Zv (FH l7_i5 rfl)<|Za<|nl<|lq m (Nat.lt_succ_self _)<|?_;exact⟨_,hB8,rfl,l1_i5,l6_i5,k13⟩
      ·have hB8:=Bh hB8 h8;refine wp_exit<|?_;cases hB8;refine lf<|?_;exact⟨rfl,l1_i5,l6_i5,K0_i5⟩
     rintro L w9⟨rfl,l1_j2,l6_j2,K0_j2⟩;have k16:=K0_i4.tr K0_j2;refine rg<|Zm<|Zv (FH l6_j2 rfl)<|Za<|nl<|lq m (Nat.lt_succ_self _)<|?_;exact⟨_,hB6,rfl,l1_j2,k16⟩
    ·have hB6:=Bh hB6 h7;refine wp_exit<|?_;cases hB6;refine lf<|?_;exact⟨rfl,K0_i4⟩
   rintro L w10⟨rfl,K0_j3⟩;have k17:=k4.tr K0_j3;refine Zr<|Za<|nl<|?_;cases hF;exact wp_ret<|Zw rfl rfl rfl ⟨rfl,k17⟩
theorem AWV{w0:World}{v0:Value}{x0:(Uno (List (Ar 2 Int)))}(r0:RV w0 v0 x0){F:Nat}{r:(List Int)}(hF:ABy F x0=some r):
  Calls Tryz.prog 129 [v0].toArray w0 (Gy fun v w'=>∃u0:Value,v=u0/\RV w' u0 r/\Ext w0 w'):=by
 unfold ABy at hF;have hz:=id r0;obtain⟨_,rfl,a1,cq1,rfl,p1,q2,e1⟩:=hz;have r2:=RV.of1 p1 q2 e1;refine Ko (n:=62) Tryz.func129 rfl rfl rfl<|Zr<|xG rfl rfl fun b2 w1 hx1 hg1 hb1=>Za<|nl<|Zr<|Za<|nl<|wp_seq<|Zr<|Za<|nl<|?_;have o1:Row (α:=Int) 3 w1.heap.size w1 (.slice none 0 0) []:=Row.nil;refine bS hF fun z1 hB1 hF=>ct (fun L w=>∃v3:Value,L 3=v3/\Row 3 w1.heap.size w v3 z1/\L 1=.pointer (some ⟨b2,0,none⟩)/\Ext w1 w) ?_ ?_
 ·refine wp_block<|lp (I:=fun m L w=>∃y1:(List Int),∃y2:Int,∃v2:Value,yG F m y1 y2=some z1/\L 3=v2/\Row 3 w1.heap.size w v2 y1/\L 4=.int .i64 y2/\L 1=.pointer (some ⟨b2,0,none⟩)/\Ext w1 w) F ⟨_,_,_,hB1,rfl,o1,rfl,rfl,(Ext.refl _)⟩ ?_;rintro m L w2⟨y1,y2,v2,hB1,l3_i1,O3_i1,l4_i1,l1_i1,K0_i1⟩;rcases m with _|m
  ·rw[yG]at hB1;cases hB1
  rw[yG]at hB1;have hz:=RV.sl O3_i1.rv;obtain⟨a2,cq2,rfl,-,-,-⟩:=hz;refine wp_seq<|Zr<|Zm<|Zv (AJz l4_i1 rfl)<|nl<|cnd rfl (fun h2=>?_) (fun h2=>?_)
  ·have hB1:=BP hB1 h2;refine wp_skip<|wp_seq<|wp_block<|rg<|Zm<|Zm<|AAg (cs:=[.int .i64 y2]) Tryz.underlying41 Ap rfl (pc l4_i1 pn) rfl rfl rfl rfl rfl fun b3 w3 hx2 hg2 hb3=>?_;have k3:=K0_i1.tr hx2;have O1:=O3_i1.ext hx2;have o3:Row (α:=Int) 3 w2.heap.size w3 (.slice (some ⟨b3,0,none⟩) 1 1) [y2]:=Row.lit hg2 hb3 rfl (ble rfl);refine bS hB1 fun x2 Ex2 hB1=>AFK (l:=y1) (k:=([y2]:List Int)) l3_i1 rfl Tryz.underlying41 Ap rfl rfl O1 (RV.els o3.rv) Ex2 k3.size fun v4 w4 o4 hB3 hgr1 how1=>?_;have k5:Ext w1 w4:=k3.trans hB3;have hz:=RV.sl o4.rv;obtain⟨a3,cq3,rfl,-,-,-⟩:=hz;refine Za<|nl<|rg<|Zm<|Zv (FH l4_i1 rfl)<|Za<|nl<|lq m (Nat.lt_succ_self _)<|?_;exact⟨_,_,_,hB1,rfl,o4,rfl,l1_i1,k5⟩
  ·have hB1:=Bh hB1 h2;refine wp_exit<|?_;cases hB1;refine lf<|?_;exact⟨_,l3_i1,O3_i1,l1_i1,K0_i1⟩
 rintro L w5⟨v3,l3_j1,O3_j1,l1_j1,K0_j1⟩;have hz:=RV.sl O3_j1.rv;obtain⟨a4,cq4,rfl,-,-,-⟩:=hz;refine wp_seq<|Zr<|Za<|nl<|bS hF fun z2 hB5 hF=>ct (fun L w=>L 3=(.slice a4 z1.length cq4)/\Row 3 w1.heap.size w (.slice a4 z1.length cq4) z2/\Ext w1 w) ?_ ?_
 ·refine wp_block<|lp (I:=fun m L w=>∃y3:(List Int),∃y4:Int,zH F x0 m y3 y4=some z2/\L 3=(.slice a4 z1.length cq4)/\Row 3 w1.heap.size w (.slice a4 z1.length cq4) y3/\L 5=.int .i64 y4/\L 1=.pointer (some ⟨b2,0,none⟩)/\Ext w1 w) F ⟨_,_,hB5,l3_j1,O3_j1,rfl,l1_j1,K0_j1⟩ ?_;rintro m L w6⟨y3,y4,hB5,l3_i2,O3_i2,l5_i2,l1_i2,K0_i2⟩;rcases m with _|m
  ·rw[zH]at hB5;cases hB5
  rw[zH]at hB5;have hb7:=hb1.ext K0_i2;refine wp_seq<|Zr<|Zm<|Zv (BH l1_i2 ABx)<|Zv (Ac rfl AEH ((Bx.cs hb7).at 0 rfl))<|Zv (DF rfl Tryz.underlying82)<|Zv (Jr l5_i2 rfl)<|nl<|cnd rfl (fun h3=>?_) (fun h3=>?_)
  ·have hB5:=BP hB5 h3;refine wp_skip<|wp_seq<|wp_block<|Zr<|Za<|nl<|bS hB5 fun z3 hB7 hB5=>ct (fun L w=>L 3=(.slice a4 z1.length cq4)/\Row 3 w1.heap.size w (.slice a4 z1.length cq4) z3/\L 1=.pointer (some ⟨b2,0,none⟩)/\L 5=.int .i64 y4/\Ext w1 w) ?_ ?_
   ·refine wp_block<|lp (I:=fun m L w=>∃y5:(List Int),∃y6:Int,zF F x0 m y5 y6=some z3/\L 3=(.slice a4 z1.length cq4)/\Row 3 w1.heap.size w (.slice a4 z1.length cq4) y5/\L 6=.int .i64 y6/\L 1=.pointer (some ⟨b2,0,none⟩)/\L 5=.int .i64 y4/\Ext w1 w) F ⟨_,_,hB7,l3_i2,O3_i2,rfl,l1_i2,l5_i2,K0_i2⟩ ?_;rintro m L w7⟨y5,y6,hB7,l3_i3,O3_i3,l6_i3,l1_i3,l5_i3,K0_i3⟩;rcases m with _|m
    ·rw[zF]at hB7;cases hB7
    rw[zF]at hB7;have k8:=hx1.tr K0_i3;have hb8:=hb1.ext K0_i3;refine wp_seq<|Zr<|Zm<|Zv (BH l1_i3 ABx)<|Zv (Ac rfl AEH ((Bx.cs hb8).at 0 rfl))<|Zv (DF rfl Tryz.underlying82)<|Zv (Jr l6_i3 rfl)<|nl<|cnd rfl (fun h4=>?_) (fun h4=>?_)
    ·have hB7:=BP hB7 h4;refine wp_skip<|wp_seq<|wp_block<|wp_seq<|wpl [] (.pure true 0 (.pure false 1 (.pure true 2 (.pure true 3 (.pure true 4 (.pure false 5 (.pure true 6 (.pure false 7 (.pure true 8 (.pure true 9 (.pure true 10 (.pure false 11 (.pure true 12 (.pure true 13 .fin)))))))))))))) mixed (by kernel_rfl) (fun w8 hx3=>?_);have k9:=k8.tr hx3;have k10:=K0_i3.tr hx3;have hb9:=hb8.ext hx3;have O2:=O3_i3.ext hx3;refine Zp rfl (fun _=>BH l1_i3 ABx)<|Zq rfl (fun _ hS=>Ac rfl AEH ((Bx.cs (hb9.ext (hS.resolve_left nofun))).at 0 rfl)) (Ext.refl _)<|Zn rfl<|bS hB7 fun x3 Ex3 hB7=>?_;have hz:=(RV.els r2).ix Ex3;obtain⟨b4,f1,cs2,e2,i4,i5,q3,hc1⟩:=hz;cases e2;obtain rfl:=q3;have hc2:=hc1.ext k9;refine Zp rfl (fun _=>CG rfl l6_i3 Tryz.underlying82 ACq i4 i5)<|bS hB7 fun x4 Ex4 hB7=>?_;have hz:=wR hc2 Ex4;obtain⟨i6,i7,hc3⟩:=hz;refine Zp rfl (fun _=>wJ rfl rfl Tryz.underlying340 Ap i6 i7)<|Zq rfl (fun _ hS=>Ac rfl Ap ((hc3.ext (hS.resolve_left nofun)).at 0 rfl)) (Ext.refl _)<|Zp rfl (fun _=>BH l1_i3 ABx)<|Zq rfl (fun _ hS=>Ac rfl AEH ((Bx.cs (hb9.ext (hS.resolve_left nofun))).at 0 rfl)) (Ext.refl _)<|Zn rfl<|bS hB7 fun x5 Ex5 hB7=>?_;have hz:=yc r2 Ex5;obtain⟨cs3,i8,i9,q4,hc4⟩:=hz;obtain rfl:=q4;have hc5:=hc4.ext k9;refine Zp rfl (fun _=>CG rfl l6_i3 Tryz.underlying82 ACq i8 i9)<|bS hB7 fun x6 Ex6 hB7=>?_;have hz:=wR hc5 Ex6;obtain⟨i10,i11,hc6⟩:=hz;refine Zp rfl (fun _=>wJ rfl rfl Tryz.underlying340 Ap i10 i11)<|Zq rfl (fun _ hS=>Ac rfl Ap ((hc6.ext (hS.resolve_left nofun)).at 0 rfl)) (Ext.refl _)<|Zp rfl (fun _=>xas)<|Zp rfl (fun _=>xas)<|wp_seq<|wpl [] (.pure true 0 (.pure true 1 (.pure true 2 (.pure false 3 (.pure true 4 (.pure true 5 (.pure true 6 (.pure false 7 (.pure false 8 (.pure true 9 .fin)))))))))) mixed (by kernel_rfl) (fun w9 hx4=>?_);have k12:=k10.tr hx4;have O3:=O2.ext hx4;refine Zn rfl<|Zn rfl<|bS hB7 fun x7 Ex7 hB7=>?_;have hz:=(RV.els O3.rv).ix Ex7;obtain⟨b5,f2,cs4,e3,i12,i13,q5,hc7⟩:=hz;cases e3;obtain rfl:=q5;have i14:x4<(z1.length:Int):=by rw[(RV.cap O3.rv).1];exact i13
     refine Zp rfl (fun _=>CG l3_i3 rfl Tryz.underlying41 Ap i12 i14)<|Zq rfl (fun _ hS=>Ac rfl Ap ((hc7.ext (hS.resolve_left nofun)).at 0 rfl)) (Ext.refl _)<|Zn rfl<|Zn rfl<|bS hB7 fun x8 Ex8 hB7=>?_;have hz:=yc O3.rv Ex8;obtain⟨cs5,i15,i16,q6,hc8⟩:=hz;obtain rfl:=q6;have i17:x6<(z1.length:Int):=by rw[(RV.cap O3.rv).1];exact i16
     refine Zp rfl (fun _=>CG l3_i3 rfl Tryz.underlying41 Ap i15 i17)<|Zq rfl (fun _ hS=>Ac rfl Ap ((hc8.ext (hS.resolve_left nofun)).at 0 rfl)) (Ext.refl _)<|Zq rfl (fun _ hS=>AVk rfl rfl) (Ext.refl _)<|Zp rfl (fun _=>xas)<|rg<|Zm<|Zm<|Zm<|Zm<|Zm<|Zm<|bS hB7 fun x9 Ex9 hB7=>?_;have hz:=yc O3.rv Ex9;obtain⟨cs6,i18,i19,q7,hc9⟩:=hz;obtain rfl:=q7;have i20:x4<(z1.length:Int):=by rw[(RV.cap O3.rv).1];exact i19
     refine Zv (CG l3_i3 rfl Tryz.underlying41 Ap i18 i20)<|ASF (l:=y5) (v:=if x8<x7 then x8 else x7) rfl rfl rfl Ap O3 Ex9 fun w10 hch1 o7=>?_;have k14:=Ext.chg k12 hch1 (Nat.le_trans (Nat.le_refl _) (Row.ge O3));refine bS hB7 fun x10 Ex10 hB7=>?_;have hz:=yc o7.rv Ex10;obtain⟨cs7,i21,i22,q8,hc10⟩:=hz;obtain rfl:=q8;have i23:x6<(z1.length:Int):=by rw[(RV.cap o7.rv).1];exact i22
     refine Zv (CG l3_i3 rfl Tryz.underlying41 Ap i21 i23)<|ASF (l:=(vV y5 x4 (if x8<x7 then x8 else x7))) (v:=if x8<x7 then x8 else x7) rfl rfl rfl Ap o7 Ex10 fun w11 hch2 o8=>?_;have k16:=Ext.chg k14 hch2 (Nat.le_trans (Nat.le_refl _) (Row.ge o7));refine nl<|rg<|Zm<|Zv (FH l6_i3 rfl)<|Za<|nl<|lq m (Nat.lt_succ_self _)<|?_;exact⟨_,_,hB7,l3_i3,o8,rfl,l1_i3,l5_i3,k16⟩
    ·have hB7:=Bh hB7 h4;refine wp_exit<|?_;cases hB7;refine lf<|?_;exact⟨l3_i3,O3_i3,l1_i3,l5_i3,K0_i3⟩
   rintro L w12⟨l3_j2,O3_j2,l1_j2,l5_j2,K0_j2⟩;refine rg<|Zm<|Zv (FH l5_j2 rfl)<|Za<|nl<|lq m (Nat.lt_succ_self _)<|?_;exact⟨_,_,hB5,l3_j2,O3_j2,rfl,l1_j2,K0_j2⟩
  ·have hB5:=Bh hB5 h3;refine wp_exit<|?_;cases hB5;refine lf<|?_;exact⟨l3_i2,O3_i2,K0_i2⟩
 rintro L w13⟨l3_j3,O3_j3,K0_j3⟩;have k18:=hx1.tr K0_j3;refine Zr<|Zm<|Za<|nl<|?_;cases hF;exact wp_ret<|rt rfl (.tmp l3_j3 rfl .nil) ⟨_,rfl,O3_j3.rv,k18⟩
theorem c47{w0:World}{v0:Value}{x0:(Uno (List (Ar 2 Int)))}(r0:RV w0 v0 x0){v1:Value}{x1:(List (List Int))}(r1:RV w0 v1 x1){F:Nat}{r:(List (List Int))}(hF:AC8 F x0 x1=some r):
  Calls Tryz.prog 47 [v0,v1].toArray w0 (Gy fun v w'=>∃u0:Value,v=u0/\RV w' u0 r/\Ext w0 w'):=by
 unfold AC8 at hF;have hz:=id r0;obtain⟨_,rfl,a1,cq1,rfl,p1,q3,e1⟩:=hz;have r3:=RV.of1 p1 q3 e1;have hz:=r1.sl;obtain⟨a2,cq2,rfl,-,-,-⟩:=hz;refine Ko (n:=79) Tryz.func47 rfl rfl rfl<|Zr<|xG rfl rfl fun b3 w1 hx1 hg1 hb1=>?_;have r5:=r3.ext hx1;refine Za<|nl<|Zr<|Zv (DY rfl ABa rfl (Bx.cs hb1))<|bS hF fun x3 Ex3 hF=>Zc (xc AUB (mc rfl mn)) (AWV (show RV (α:=(Uno (List (Ar 2 Int)))) _ (.agg [.slice a1 x0.v.length cq1].toArray) (⟨x0.v⟩:(Uno (List (Ar 2 Int))))from⟨_,rfl,r5.rep1⟩) Ex3) ?_;rintro _ w2⟨u1,rfl,r7,hx2⟩;have k1:=hx1.tr hx2;have hz:=RV.sl r7;obtain⟨a3,cq3,rfl,-,-,-⟩:=hz;refine Za<|nl<|Zr<|AAg (cs:=[]) Tryz.underlying98 Ap rfl pn rfl rfl rfl rfl rfl fun b4 w3 hx3 hg2 hb2=>?_;have k2:=k1.tr hx3;have o1:Row (α:=Int) 3 w2.heap.size w3 (.slice (some ⟨b4,0,none⟩) 0 0) []:=Row.lit hg2 hb2 rfl (ble rfl);refine AAg (cs:=[.slice (some ⟨b4,0,none⟩) ([]:List Int).length 0]) Tryz.underlying85 zC rfl (pc rfl pn) rfl rfl rfl rfl rfl fun b5 w4 hx4 hg3 hb3=>?_;have k3:=k2.tr hx4;have k4:=hx3.tr hx4;have o2:=o1.ext hx4;have r12:RV w4 (.slice (some ⟨b5,0,none⟩) 1 1) ([([]:List Int)]:List (List Int)):=RV.lit hb3 (css:=[[.slice (some ⟨b4,0,none⟩) ([]:List Int).length 0]]) rfl ⟨o2.rv.rep1,trivial⟩ rfl (ble rfl);refine Za<|nl<|wp_seq<|Zr<|Za<|nl<|bS hF fun z1 hB1 hF=>ct (fun L w=>∃v4:Value,L 6=v4/\RV w v4 z1/\Ext w4 w) ?_ ?_
 ·refine wp_block<|lp (I:=fun m L w=>∃y1:(List (List Int)),∃y2:Int,∃v3:Value,AAY F x1 x3 m y1 y2=some z1/\L 6=v3/\RV w v3 y1/\L 7=.int .i64 y2/\L 1=.slice a2 x1.length cq2/\L 5=.slice a3 x3.length cq3/\Ext w4 w) F ⟨_,_,_,hB1,rfl,r12,rfl,rfl,rfl,(Ext.refl _)⟩ ?_;rintro m L w5⟨y1,y2,v3,hB1,l6_i1,R6_i1,l7_i1,l1_i1,l5_i1,K0_i1⟩;rcases m with _|m
  ·rw[AAY]at hB1;cases hB1
  rw[AAY]at hB1;have k5:=k3.tr K0_i1;have k6:=k4.tr K0_i1;have hz:=RV.sl R6_i1;obtain⟨a4,cq4,rfl,-,-,-⟩:=hz;refine wp_seq<|Zr<|Zm<|Zm<|Zv (DF l1_i1 Tryz.underlying78)<|Zv (Jr l7_i1 rfl)<|nl<|cnd rfl (fun h3=>?_) (fun h3=>?_)
  ·have hB1:=BP hB1 h3;refine wp_skip<|wp_seq<|wp_block<|Zr<|Za<|nl<|wp_seq<|Zr<|Za<|nl<|?_;have o4:DRow (α:=(List Int)) w0.heap.size 98 w5.heap.size w5 (.slice none 0 0) []:=DRow.nil;refine bS hB1 fun z2 hB3 hB1=>ct (fun L w=>∃v6:Value,L 8=v6/\DRow w0.heap.size 98 w5.heap.size w v6 z2/\L 1=.slice a2 x1.length cq2/\L 5=.slice a3 x3.length cq3/\L 7=.int .i64 y2/\Ext w5 w) ?_ ?_
   ·refine wp_block<|lp (I:=fun m L w=>∃y3:(List (List Int)),∃y4:Int,∃v5:Value,AA5 F x1 x3 y1 y2 m y3 y4=some z2/\L 8=v5/\DRow w0.heap.size 98 w5.heap.size w v5 y3/\L 9=.int .i64 y4/\L 1=.slice a2 x1.length cq2/\L 5=.slice a3 x3.length cq3/\L 6=.slice a4 y1.length cq4/\L 7=.int .i64 y2/\Ext w5 w) F ⟨_,_,_,hB3,rfl,o4,rfl,l1_i1,l5_i1,l6_i1,l7_i1,(Ext.refl _)⟩ ?_;rintro m L w6⟨y3,y4,v5,hB3,l8_i2,O8_i2,l9_i2,l1_i2,l5_i2,l6_i2,l7_i2,K0_i2⟩;rcases m with _|m
    ·rw[AA5]at hB3;cases hB3
    rw[AA5]at hB3;have hz:=RV.sl O8_i2.rv;obtain⟨a5,cq5,rfl,-,-,-⟩:=hz;refine wp_seq<|Zr<|Zm<|Zm<|Zv (DF l6_i2 Tryz.underlying85)<|Zv (Jr l9_i2 rfl)<|nl<|cnd rfl (fun h4=>?_) (fun h4=>?_)
    ·have hB3:=BP hB3 h4;refine wp_skip<|wp_seq<|wp_block<|Zr<|Za<|nl<|bS hB3 fun z3 hB5 hB3=>ct (fun L w=>∃v8:Value,L 8=v8/\DRow w0.heap.size 98 w5.heap.size w v8 z3/\L 1=.slice a2 x1.length cq2/\L 5=.slice a3 x3.length cq3/\L 6=.slice a4 y1.length cq4/\L 7=.int .i64 y2/\L 9=.int .i64 y4/\Ext w5 w) ?_ ?_
     ·refine wp_block<|lp (I:=fun m L w=>∃y5:(List (List Int)),∃y6:Int,∃v7:Value,AA4 F x1 x3 y1 y2 y4 m y5 y6=some z3/\L 8=v7/\DRow w0.heap.size 98 w5.heap.size w v7 y5/\L 10=.int .i64 y6/\L 1=.slice a2 x1.length cq2/\L 5=.slice a3 x3.length cq3/\L 6=.slice a4 y1.length cq4/\L 7=.int .i64 y2/\L 9=.int .i64 y4/\Ext w5 w) F ⟨_,_,_,hB5,l8_i2,O8_i2,rfl,l1_i2,l5_i2,l6_i2,l7_i2,l9_i2,K0_i2⟩ ?_;rintro m L w7⟨y5,y6,v7,hB5,l8_i3,O8_i3,l10_i3,l1_i3,l5_i3,l6_i3,l7_i3,l9_i3,K0_i3⟩;rcases m with _|m
      ·rw[AA4]at hB5;cases hB5
      rw[AA4]at hB5;have k12:=k5.tr K0_i3;have k13:=k6.tr K0_i3;have hz:=RV.sl O8_i3.rv;obtain⟨a6,cq6,rfl,-,-,-⟩:=hz;refine wp_seq<|Zr<|Zm<|Zm<|Zm<|bS hB5 fun x4 Ex4 hB5=>?_;have hz:=(RV.els r1).ix Ex4;obtain⟨b6,f1,cs3,e2,i4,i5,q4,hc1⟩:=hz;cases e2;obtain⟨a7,cq7,rfl,p2,q5,e3⟩:=q4;have hc2:=hc1.ext k12;refine Zv (CG l1_i3 l7_i3 Tryz.underlying78 Zk i4 i5)<|Zv (Ac rfl Zk (hc2.at 0 rfl))<|Zv (DF rfl Tryz.underlying41)<|Zv (Jr l10_i3 rfl)<|nl<|cnd rfl (fun h5=>?_) (fun h5=>?_)
      ·have hB5:=BP hB5 h5;refine wp_skip<|wp_seq<|bS hB5 fun y7 hB7 hB5=>ct (fun L w=>∃v9:Value,L 8=v9/\DRow w0.heap.size 98 w5.heap.size w v9 y7/\L 1=.slice (some ⟨b6,f1,none⟩) x1.length cq2/\L 5=.slice a3 x3.length cq3/\L 6=.slice a4 y1.length cq4/\L 7=.int .i64 y2/\L 9=.int .i64 y4/\L 10=.int .i64 y6/\Ext w5 w) ?_ ?_
       ·refine wp_block<|wp_seq<|bS hB7 fun y8 hB8 hB7=>ct (fun L w=>L 64=.bool y8/\L 1=.slice (some ⟨b6,f1,none⟩) x1.length cq2/\L 5=.slice a3 x3.length cq3/\L 6=.slice a4 y1.length cq4/\L 7=.int .i64 y2/\L 8=.slice a6 y5.length cq6/\L 9=.int .i64 y4/\L 10=.int .i64 y6/\w5.heap.size<=w.heap.size/\Ext w7 w) ?_ ?_
        ·refine wpl [] (.pure true 0 (.pure true 1 (.pure true 2 (.pure true 3 (.pure true 4 (.pure true 5 (.pure true 6 (.pure false 7 (.pure true 8 (.pure true 9 (.pure false 10 (.pure true 11 (.pure false 12 (.pure true 13 (.pure true 14 (.pure true 15 (.pure false 16 (.pure true 17 (.pure true 18 (.pure true 19 (.pure false 20 (.pure true 21 (.pure false 22 (.pure true 23 (.pure false 24 (.pure true 25 (.pure false 26 (.pure true 27 (.pure true 28 .fin))))))))))))))))))))))))))))) mixed (by kernel_rfl) (fun w9 hx6=>?_);have k21:=k12.tr hx6;have k22:=k13.tr hx6;have k25:=K0_i3.tr hx6;refine Zn rfl<|Zp rfl (fun _=>yB l7_i3 rfl)<|Zn rfl<|Or.elim (Bool.eq_false_or_eq_true (decide (y2=0))) (fun h6=>?_) (fun h6=>?_)
         ·have hB8:=BP hB8 h6;refine Yf rfl (EP h6)<|Yf rfl (EP h6)<|Yf rfl (EP h6)<|Yf rfl (EP h6)<|Yh rfl (EP h6) (Ext.refl _)<|Yf rfl (EP h6)<|Yf rfl (EP h6)<|Yh rfl (EP h6) (Ext.refl _)<|Yf rfl (EP h6)<|Yh rfl (EP h6) (Ext.refl _)<|Yf rfl (EP h6)<|Yf rfl (EP h6)<|Yf rfl (EP h6)<|Yh rfl (EP h6) (Ext.refl _)<|Yf rfl (EP h6)<|Yf rfl (EP h6)<|Yf rfl (EP h6)<|Yh rfl (EP h6) (Ext.refl _)<|Yf rfl (EP h6)<|Yh rfl (EP h6) (Ext.refl _)<|Yf rfl (EP h6)<|Yh rfl (EP h6) (Ext.refl _)<|Yf rfl (EP h6)<|Yh rfl (EP h6) (Ext.refl _)<|Yf rfl (EP h6)<|Zp rfl (fun _=>yw rfl h6 rfl)<|?_;cases hB8;refine lf<|?_;exact⟨rfl,l1_i3,l5_i3,l6_i3,l7_i3,l8_i3,l9_i3,l10_i3,k25.size,hx6⟩
         ·have hB8:=Bh hB8 h6;refine Yt rfl (bf h6) (fun _=>iL)<|Yt rfl (bf h6) (fun _=>iL)<|Yt rfl (bf h6) (fun _=>iL)<|bS hB8 fun x5 Ex5 hB8=>?_;have hz:=yc r1 Ex5;obtain⟨cs4,i6,i7,q6,hc3⟩:=hz;obtain⟨a8,cq8,rfl,p3,q7,e4⟩:=q6;have r27:=RV.of1 p3 q7 e4;have hc4:=hc3.ext k21;refine Yt rfl (bf h6) (fun _=>CG l1_i3 l7_i3 Tryz.underlying78 Zk i6 i7)<|Yi rfl (bf h6) (fun _ hS=>Ac rfl Zk ((hc4.ext (hS.resolve_left nofun)).at 0 rfl)) (Ext.refl _)<|Yt rfl (bf h6) (fun _=>iL)<|bS hB8 fun x6 Ex6 hB8=>?_;have hz:=(RV.els r27).ix Ex6;obtain⟨b7,f2,cs5,e5,i8,i9,q8,hc5⟩:=hz;cases e5;obtain rfl:=q8;have hc6:=hc5.ext k21;refine Yt rfl (bf h6) (fun _=>CG rfl l10_i3 Tryz.underlying41 Ap i8 i9)<|Yi rfl (bf h6) (fun _ hS=>Ac rfl Ap ((hc6.ext (hS.resolve_left nofun)).at 0 rfl)) (Ext.refl _)<|bS hB8 fun x7 Ex7 hB8=>?_;have hz:=(RV.els r7).ix Ex7;obtain⟨b8,f3,cs6,e6,i10,i11,q9,hc7⟩:=hz;cases e6;obtain rfl:=q9;have hc8:=hc7.ext k22;refine Yt rfl (bf h6) (fun _=>CG l5_i3 rfl Tryz.underlying41 Ap i10 i11)<|Yi rfl (bf h6) (fun _ hS=>Ac rfl Ap ((hc8.ext (hS.resolve_left nofun)).at 0 rfl)) (Ext.refl _)<|Yt rfl (bf h6) (fun _=>iL)<|Yt rfl (bf h6) (fun _=>iL)<|bS hB8 fun x8 Ex8 hB8=>?_;have hz:=yc r1 Ex8;obtain⟨cs7,i12,i13,q10,hc9⟩:=hz;obtain⟨a9,cq9,rfl,p4,q11,e7⟩:=q10;have r29:=RV.of1 p4 q11 e7;have hc10:=hc9.ext k21;refine Yt rfl (bf h6) (fun _=>CG l1_i3 rfl Tryz.underlying78 Zk i12 i13)<|Yi rfl (bf h6) (fun _ hS=>Ac rfl Zk ((hc10.ext (hS.resolve_left nofun)).at 0 rfl)) (Ext.refl _)<|Yt rfl (bf h6) (fun _=>iL)<|Yt rfl (bf h6) (fun _=>iL)<|bS hB8 fun x9 Ex9 hB8=>?_;have hz:=(RV.els R6_i1).ix Ex9;obtain⟨b9,f4,cs8,e8,i14,i15,q12,hc11⟩:=hz;cases e8;obtain⟨a10,cq10,rfl,p5,q13,e9⟩:=q12;have r31:=RV.of1 p5 q13 e9;have hc12:=hc11.ext k25;refine Yt rfl (bf h6) (fun _=>CG l6_i3 l9_i3 Tryz.underlying85 zC i14 i15)<|Yi rfl (bf h6) (fun _ hS=>Ac rfl zC ((hc12.ext (hS.resolve_left nofun)).at 0 rfl)) (Ext.refl _)<|bS hB8 fun x10 Ex10 hB8=>?_;have hz:=(RV.els r31).ix Ex10;obtain⟨b10,f5,cs9,e10,i16,i17,q14,hc13⟩:=hz;cases e10;obtain rfl:=q14;have hc14:=hc13.ext k25;refine Yt rfl (bf h6) (fun _=>CG rfl rfl Tryz.underlying98 Ap i16 i17)<|Yi rfl (bf h6) (fun _ hS=>Ac rfl Ap ((hc14.ext (hS.resolve_left nofun)).at 0 rfl)) (Ext.refl _)<|bS hB8 fun x11 Ex11 hB8=>?_;have hz:=(RV.els r29).ix Ex11;obtain⟨b11,f6,cs10,e11,i18,i19,q15,hc15⟩:=hz;cases e11;obtain rfl:=q15;have hc16:=hc15.ext k21;refine Yt rfl (bf h6) (fun _=>CG rfl rfl Tryz.underlying41 Ap i18 i19)<|Yi rfl (bf h6) (fun _ hS=>Ac rfl Ap ((hc16.ext (hS.resolve_left nofun)).at 0 rfl)) (Ext.refl _)<|bS hB8 fun x12 Ex12 hB8=>?_;have hz:=yc r7 Ex12;obtain⟨cs11,i20,i21,q16,hc17⟩:=hz;obtain rfl:=q16;have hc18:=hc17.ext k22;refine Yt rfl (bf h6) (fun _=>CG l5_i3 rfl Tryz.underlying41 Ap i20 i21)<|Yi rfl (bf h6) (fun _ hS=>Ac rfl Ap ((hc18.ext (hS.resolve_left nofun)).at 0 rfl)) (Ext.refl _)<|Yt rfl (bf h6) (fun _=>yB rfl rfl)<|Zp rfl (fun _=>xpf rfl h6 rfl)<|?_;cases hB8;refine lf<|?_;exact⟨rfl,l1_i3,l5_i3,l6_i3,l7_i3,l8_i3,l9_i3,l10_i3,k25.size,hx6⟩
        rintro L w10⟨l64_j1,l1_j1,l5_j1,l6_j1,l7_j1,l8_j1,l9_j1,l10_j1,Z0_j1,K0_j1⟩;have k30:=K0_i3.tr K0_j1;have O3:=O8_i3.ext K0_j1;refine bS hB7 fun y9 hB9 hB7=>ct (fun L w=>∃v10:Value,L 8=v10/\DRow w0.heap.size 98 w5.heap.size w v10 y9/\L 1=.slice (some ⟨b6,f1,none⟩) x1.length cq2/\L 5=.slice a3 x3.length cq3/\L 6=.slice a4 y1.length cq4/\L 7=.int .i64 y2/\L 9=.int .i64 y4/\L 10=.int .i64 y6/\Ext w5 w) ?_ ?_
        ·refine cnd l64_j1 (fun h7=>?_) (fun h7=>?_)
         ·have hB9:=BP hB9 h7;refine rg<|Zm<|AAg (cs:=[]) Tryz.underlying98 Ap rfl pn rfl rfl rfl rfl rfl fun b12 w11 hx7 hg4 hb4=>?_;have k35:=k30.tr hx7;have o7:Row (α:=Int) 3 w10.heap.size w11 (.slice (some ⟨b12,0,none⟩) 0 0) []:=Row.lit hg4 hb4 rfl (ble rfl);refine Zm<|Zm<|bS hB9 fun x13 Ex13 hB9=>?_;have hz:=(RV.els R6_i1).ix Ex13;obtain⟨b13,f7,cs12,e12,i22,i23,q17,hc19⟩:=hz;cases e12;obtain⟨a11,cq11,rfl,p6,q18,e13⟩:=q17;have r38:=RV.of1 p6 q18 e13;have hc20:=hc19.ext k35;have r39:=r38.ext k35;refine Zv (CG l6_j1 l9_j1 Tryz.underlying85 zC i22 i23)<|Zv (Ac rfl zC (hc20.at 0 rfl))<|bS hB9 fun x14 Ex14 hB9=>AFK (l:=([]:List Int)) (k:=x13) rfl rfl Tryz.underlying98 Ap rfl rfl o7 (RV.els r39) Ex14 hx7.size fun v11 w12 o8 hB11 hgr1 how1=>?_;have k41:=Ext.grow k35 k30.size hB11;have k43:Ext w10 w12:=hx7.trans hB11;have hz:=RV.sl o8.rv;obtain⟨a12,cq12,rfl,-,-,-⟩:=hz;refine Zm<|AAg (cs:=[.int .i64 y6]) Tryz.underlying98 Ap rfl (pc l10_j1 pn) rfl rfl rfl rfl rfl fun b14 w13 hx8 hg5 hb5=>?_;have k48:=k41.tr hx8;have k50:=k43.tr hx8;have o9:=o8.ext hx8;have o10:Row (α:=Int) 3 w12.heap.size w13 (.slice (some ⟨b14,0,none⟩) 1 1) [y6]:=Row.lit hg5 hb5 rfl (ble rfl);refine bS hB9 fun x15 Ex15 hB9=>AFK (l:=x14) (k:=([y6]:List Int)) rfl rfl Tryz.underlying98 Ap rfl rfl o9 (RV.els o10.rv) Ex15 k50.size fun v12 w14 o11 hB12 hgr2 how2=>?_;have k55:=Ext.grow k48 k30.size hB12;have k57:Ext w10 w14:=k50.trans hB12;have O7:=O3.ext k57;have hz:=RV.sl o11.rv;obtain⟨a13,cq13,rfl,-,-,-⟩:=hz;refine AAg (cs:=[.slice a13 x15.length cq13]) Tryz.underlying85 zC rfl (pc rfl pn) rfl rfl rfl rfl rfl fun b15 w15 hx9 hg6 hb6=>?_;have k62:=k55.tr hx9;have O8:=O7.ext hx9;have o12:=o11.ext hx9;have r47:RV w15 (.slice (some ⟨b15,0,none⟩) 1 1) ([x15]:List (List Int)):=RV.lit hb6 (css:=[[.slice a13 x15.length cq13]]) rfl ⟨o12.rv.rep1,trivial⟩ rfl (ble rfl);refine bS hB9 fun x16 Ex16 hB9=>ASU (l:=y5) (k:=([x15]:List (List Int))) l8_j1 rfl Tryz.underlying85 zC rfl rfl O8 (ElsD.lit1 hb6 (RVo.rep1 (RVo.okn (Row.rvob o12) k30.size O3.own_lt))) Ex16 k62.size fun v13 w16 o13 hB13 hgr3 how3=>?_;have k69:Ext w5 w16:=k62.trans hB13;have hz:=RV.sl o13.rv;obtain⟨a14,cq14,rfl,-,-,-⟩:=hz;refine Za<|nl<|?_;cases hB9;refine lf<|?_;exact⟨_,rfl,o13,l1_j1,l5_j1,l6_j1,l7_j1,l9_j1,l10_j1,k69⟩
         ·have hB9:=Bh hB9 h7;refine wp_skip<|?_;cases hB9;refine lf<|?_;exact⟨_,l8_j1,O3,l1_j1,l5_j1,l6_j1,l7_j1,l9_j1,l10_j1,k30⟩
        rintro L w17⟨v10,l8_j2,O8_j2,l1_j2,l5_j2,l6_j2,l7_j2,l9_j2,l10_j2,K0_j2⟩;have hz:=RV.sl O8_j2.rv;obtain⟨a15,cq15,rfl,-,-,-⟩:=hz;cases hB7;refine lf<|?_;exact⟨_,l8_j2,O8_j2,l1_j2,l5_j2,l6_j2,l7_j2,l9_j2,l10_j2,K0_j2⟩
       rintro L w18⟨v9,l8_j3,O8_j3,l1_j3,l5_j3,l6_j3,l7_j3,l9_j3,l10_j3,K0_j3⟩;have hz:=RV.sl O8_j3.rv;obtain⟨a16,cq16,rfl,-,-,-⟩:=hz;refine rg<|Zm<|Zv (FH l10_j3 rfl)<|Za<|nl<|lq m (Nat.lt_succ_self _)<|?_;exact⟨_,_,_,hB5,l8_j3,O8_j3,rfl,l1_j3,l5_j3,l6_j3,l7_j3,l9_j3,K0_j3⟩
      ·have hB5:=Bh hB5 h5;refine wp_exit<|?_;cases hB5;refine lf<|?_;exact⟨_,l8_i3,O8_i3,l1_i3,l5_i3,l6_i3,l7_i3,l9_i3,K0_i3⟩
     rintro L w19⟨v8,l8_j4,O8_j4,l1_j4,l5_j4,l6_j4,l7_j4,l9_j4,K0_j4⟩;have hz:=RV.sl O8_j4.rv;obtain⟨a17,cq17,rfl,-,-,-⟩:=hz;refine rg<|Zm<|Zv (FH l9_j4 rfl)<|Za<|nl<|lq m (Nat.lt_succ_self _)<|?_;exact⟨_,_,_,hB3,l8_j4,O8_j4,rfl,l1_j4,l5_j4,l6_j4,l7_j4,K0_j4⟩
    ·have hB3:=Bh hB3 h4;refine wp_exit<|?_;cases hB3;refine lf<|?_;exact⟨_,l8_i2,O8_i2,l1_i2,l5_i2,l7_i2,K0_i2⟩
   rintro L w20⟨v6,l8_j5,O8_j5,l1_j5,l5_j5,l7_j5,K0_j5⟩;have k85:=K0_i1.tr K0_j5;have hz:=RV.sl O8_j5.rv;obtain⟨a18,cq18,rfl,-,-,-⟩:=hz;refine rg<|Zm<|Za<|nl<|rg<|Zm<|Zv (FH l7_j5 rfl)<|Za<|nl<|lq m (Nat.lt_succ_self _)<|?_;exact⟨_,_,_,hB1,l8_j5,O8_j5.rv,rfl,l1_j5,l5_j5,k85⟩
  ·have hB1:=Bh hB1 h3;refine wp_exit<|?_;cases hB1;refine lf<|?_;exact⟨_,l6_i1,R6_i1,K0_i1⟩
 rintro L w21⟨v4,l6_j6,R6_j6,K0_j6⟩;have k86:=k3.tr K0_j6;have hz:=RV.sl R6_j6;obtain⟨a19,cq19,rfl,-,-,-⟩:=hz;refine Zr<|Zm<|Za<|nl<|?_;cases hF;exact wp_ret<|rt rfl (.tmp l6_j6 rfl .nil) ⟨_,rfl,R6_j6,k86⟩
theorem c48{w0:World}{v0:Value}{x0:(List Int)}(r0:RV w0 v0 x0){v1:Value}{x1:(List Int)}(r1:RV w0 v1 x1){F:Nat}{r:Bool}(hF:ABn F x0 x1=some r):
  Calls Tryz.prog 48 [v0,v1].toArray w0 (Gy fun v w'=>v=.bool r/\Ext w0 w'):=by
 unfold ABn at hF;have hz:=r0.sl;obtain⟨a1,cq1,rfl,-,-,-⟩:=hz;have hz:=r1.sl;obtain⟨a2,cq2,rfl,-,-,-⟩:=hz;refine Ko (n:=21) Tryz.func48 rfl rfl rfl<|Zr<|Za<|nl<|wp_seq<|Zr<|Za<|nl<|bS hF fun o1 hB1 hF=>ct (fun L w=>o1=.inr ()/\Ext w0 w) ?_ ?_
 ·refine wp_block<|lp (I:=fun m L w=>∃y1:Int,zn F x0 x1 m y1=some o1/\L 5=.int .i64 y1/\L 0=.slice a1 x0.length cq1/\L 1=.slice a2 x1.length cq2/\Ext w0 w) F ⟨_,hB1,rfl,rfl,rfl,(Ext.refl _)⟩ ?_;rintro m L w1⟨y1,hB1,l5_i1,l0_i1,l1_i1,K0_i1⟩;rcases m with _|m
  ·rw[zn]at hB1;cases hB1
  rw[zn]at hB1;refine wp_seq<|Zr<|Zm<|Zm<|Zv (DF l0_i1 Tryz.underlying98)<|Zv (Jr l5_i1 rfl)<|nl<|cnd rfl (fun h3=>?_) (fun h3=>?_)
  ·have hB1:=BP hB1 h3;refine wp_skip<|wp_seq<|wp_block<|wp_seq<|wpl [] (.pure true 0 (.pure true 1 (.pure true 2 (.pure false 3 (.pure true 4 (.pure true 5 (.pure true 6 (.pure false 7 (.pure true 8 .fin))))))))) mixed (by kernel_rfl) (fun w2 hx1=>?_);have k1:=K0_i1.tr hx1;refine Zn rfl<|Zn rfl<|bS hB1 fun x3 Ex3 hB1=>?_;have hz:=(RV.els r0).ix Ex3;obtain⟨b3,f1,cs3,e1,i2,i3,q3,hc1⟩:=hz;cases e1;obtain rfl:=q3;have hc2:=hc1.ext k1;refine Zp rfl (fun _=>CG l0_i1 l5_i1 Tryz.underlying98 Ap i2 i3)<|Zq rfl (fun _ hS=>Ac rfl Ap ((hc2.ext (hS.resolve_left nofun)).at 0 rfl)) (Ext.refl _)<|Zn rfl<|Zn rfl<|bS hB1 fun x4 Ex4 hB1=>?_;have hz:=(RV.els r1).ix Ex4;obtain⟨b4,f2,cs4,e2,i4,i5,q4,hc3⟩:=hz;cases e2;obtain rfl:=q4;have hc4:=hc3.ext k1;refine Zp rfl (fun _=>CG l1_i1 l5_i1 Tryz.underlying98 Ap i4 i5)<|Zq rfl (fun _ hS=>Ac rfl Ap ((hc4.ext (hS.resolve_left nofun)).at 0 rfl)) (Ext.refl _)<|Zp rfl (fun _=>ADK rfl rfl)<|cnd rfl (fun h4=>?_) (fun h4=>?_)
   ·have hB1:=BP hB1 h4;refine Zr<|Za<|nl<|?_;cases hB1;have hF:=(show some _=some _ from hF);cases hF;exact wp_ret<|Zw rfl rfl rfl ⟨rfl,k1⟩
   ·have hB1:=Bh hB1 h4;refine wp_skip<|rg<|Zm<|Zv (FH l5_i1 rfl)<|Za<|nl<|lq m (Nat.lt_succ_self _)<|?_;exact⟨_,hB1,rfl,l0_i1,l1_i1,k1⟩
  ·have hB1:=Bh hB1 h3;refine wp_exit<|?_;cases hB1;refine lf<|?_;exact⟨rfl,K0_i1⟩
 rintro L w3⟨rfl,K0_j1⟩;refine Zr<|Za<|nl<|?_;cases hF;exact wp_ret<|Zw rfl rfl rfl ⟨rfl,K0_j1⟩
theorem c46{w0:World}{v0:Value}{x0:(Uno (List (Ar 2 Int)))}(r0:RV w0 v0 x0){v1:Value}{x1:(List (List Int))}(r1:RV w0 v1 x1){x2:Int}{F:Nat}{r:Bool}(hF:ABc F x0 x1 x2=some r):
  Calls Tryz.prog 46 [v0,v1,.int .i64 x2].toArray w0 (Gy fun v w'=>v=.bool r/\Ext w0 w'):=by
 unfold ABc at hF;have hz:=id r0;obtain⟨_,rfl,a1,cq1,rfl,p1,q4,e1⟩:=hz;have r4:=RV.of1 p1 q4 e1;have hz:=r1.sl;obtain⟨a2,cq2,rfl,-,-,-⟩:=hz;refine Ko (n:=34) Tryz.func46 rfl rfl rfl<|Zr<|xG rfl rfl fun b4 w1 hx1 hg1 hb1=>?_;have r5:=r1.ext hx1;have r6:=r4.ext hx1;refine Za<|nl<|wp_seq<|Zr<|Zv (BH rfl ABx)<|Zv (Ac rfl AEH ((Bx.cs hb1).at 0 rfl))<|Zv (DF rfl Tryz.underlying82)<|Zv (zk rfl rfl)<|Zm<|Zg rfl rfl (IA rfl) (fun hc=>Pv rfl)<|Zg rfl rfl (IA rfl) (fun hc=>DF (mv hc rfl) Tryz.underlying78)<|Zg rfl rfl (IA rfl) (fun hc=>Pv rfl)<|Zg rfl rfl (IA rfl) (fun hc=>zk (mv hc rfl) (mv hc rfl))<|Zv (xpo rfl rfl rfl)<|nl<|cnd rfl (fun h4=>?_) (fun h4=>?_)
 ·have hF:=BP hF h4;refine Zr<|Za<|nl<|?_;cases hF;exact wp_ret<|Zw rfl rfl rfl ⟨rfl,hx1⟩
 ·have hF:=Bh hF h4;refine wp_skip<|wp_seq<|Zr<|Za<|nl<|bS hF fun o1 hB1 hF=>ct (fun L w=>o1=.inr ()/\L 1=.slice a2 x1.length cq2/\L 3=.pointer (some ⟨b4,0,none⟩)/\Ext w1 w) ?_ ?_
  ·refine wp_block<|lp (I:=fun m L w=>∃y1:Int,AAP F x1 m y1=some o1/\L 7=.int .i64 y1/\L 1=.slice a2 x1.length cq2/\L 3=.pointer (some ⟨b4,0,none⟩)/\Ext w1 w) F ⟨_,hB1,rfl,rfl,rfl,(Ext.refl _)⟩ ?_;rintro m L w2⟨y1,hB1,l7_i1,l1_i1,l3_i1,K0_i1⟩;rcases m with _|m
   ·rw[AAP]at hB1;cases hB1
   rw[AAP]at hB1;have k1:=hx1.tr K0_i1;refine wp_seq<|Zr<|Zm<|Zm<|Zv (DF l1_i1 Tryz.underlying78)<|Zv (Jr l7_i1 rfl)<|nl<|cnd rfl (fun h5=>?_) (fun h5=>?_)
   ·have hB1:=BP hB1 h5;refine wp_skip<|wp_seq<|wp_block<|Zr<|Zm<|Zm<|bS hB1 fun x4 Ex4 hB1=>?_;have hz:=(RV.els r1).ix Ex4;obtain⟨b5,f1,cs4,e2,i2,i3,q5,hc1⟩:=hz;cases e2;obtain⟨a3,cq3,rfl,p2,q6,e3⟩:=q5;have hc2:=hc1.ext k1;refine Zv (CG l1_i1 l7_i1 Tryz.underlying78 Zk i2 i3)<|Zv (Ac rfl Zk (hc2.at 0 rfl))<|Zv (DF rfl Tryz.underlying41)<|Zv (zk rfl rfl)<|nl<|cnd rfl (fun h6=>?_) (fun h6=>?_)
    ·have hB1:=BP hB1 h6;refine Zr<|Za<|nl<|?_;cases hB1;have hF:=(show some _=some _ from hF);cases hF;exact wp_ret<|Zw rfl rfl rfl ⟨rfl,k1⟩
    ·have hB1:=Bh hB1 h6;refine wp_skip<|rg<|Zm<|Zv (FH l7_i1 rfl)<|Za<|nl<|lq m (Nat.lt_succ_self _)<|?_;exact⟨_,hB1,rfl,l1_i1,l3_i1,K0_i1⟩
   ·have hB1:=Bh hB1 h5;refine wp_exit<|?_;cases hB1;refine lf<|?_;exact⟨rfl,l1_i1,l3_i1,K0_i1⟩
  rintro L w3⟨rfl,l1_j1,l3_j1,K0_j1⟩;have k2:=hx1.tr K0_j1;have r12:=r5.ext K0_j1;have r13:=r6.ext K0_j1;have hb3:=hb1.ext K0_j1;refine Zr<|Zv (DY l3_j1 ABa rfl (Bx.cs hb3))<|Zm<|bS hF fun x5 Ex5 hF=>Zc (xc AUA (mc rfl (mc l1_j1 mn))) (AWU (show RV (α:=(Uno (List (Ar 2 Int)))) _ (.agg [.slice a1 x0.v.length cq1].toArray) (⟨x0.v⟩:(Uno (List (Ar 2 Int))))from⟨_,rfl,r13.rep1⟩) r12 Ex5) ?_;rintro _ w4⟨rfl,hx2⟩;have k3:=k2.tr hx2;refine Zv (yB rfl rfl)<|Za<|nl<|?_;cases hF;exact wp_ret<|Zw rfl rfl rfl ⟨rfl,k3⟩
theorem c63{w0:World}{v0:Value}{x0:(List Int)}(r0:RV w0 v0 x0){v1:Value}{x1:(List Int)}(r1:RV w0 v1 x1){F:Nat}{r:Bool}(hF:ADS F x0 x1=some r):
  Calls Tryz.prog 63 [v0,v1].toArray w0 (Gy fun v w'=>v=.bool r/\Ext w0 w'):=by
 unfold ADS at hF;have hz:=r0.sl;obtain⟨a1,cq1,rfl,-,-,-⟩:=hz;have hz:=r1.sl;obtain⟨a2,cq2,rfl,-,-,-⟩:=hz;refine Ko (n:=26) Tryz.func63 rfl rfl rfl<|Zr<|Za<|nl<|wp_seq<|Zr<|Zm<|Zv (DF rfl Tryz.underlying98)<|Zm<|Zv (DF rfl Tryz.underlying98)<|Zv (zV rfl rfl)<|nl<|cnd rfl (fun h3=>?_) (fun h3=>?_)
 ·have hF:=BP hF h3;refine Zr<|Za<|nl<|?_;cases hF;exact wp_ret<|Zw rfl rfl rfl ⟨rfl,(Ext.refl _)⟩
 ·have hF:=Bh hF h3;refine wp_skip<|wp_seq<|Zr<|Za<|nl<|bS hF fun o1 hB1 hF=>ct (fun L w=>o1=.inr ()/\Ext w0 w) ?_ ?_
  ·refine wp_block<|lp (I:=fun m L w=>∃y1:Int,AAh F x0 x1 m y1=some o1/\L 5=.int .i64 y1/\L 0=.slice a1 x0.length cq1/\L 1=.slice a2 x1.length cq2/\Ext w0 w) F ⟨_,hB1,rfl,rfl,rfl,(Ext.refl _)⟩ ?_;rintro m L w1⟨y1,hB1,l5_i1,l0_i1,l1_i1,K0_i1⟩;rcases m with _|m
   ·rw[AAh]at hB1;cases hB1
   rw[AAh]at hB1;refine wp_seq<|Zr<|Zm<|Zm<|Zv (DF l0_i1 Tryz.underlying98)<|Zv (Jr l5_i1 rfl)<|nl<|cnd rfl (fun h4=>?_) (fun h4=>?_)
   ·have hB1:=BP hB1 h4;refine wp_skip<|wp_seq<|wp_block<|wp_seq<|wpl [] (.pure true 0 (.pure true 1 (.pure true 2 (.pure false 3 (.pure true 4 (.pure true 5 (.pure true 6 (.pure false 7 (.pure true 8 .fin))))))))) mixed (by kernel_rfl) (fun w2 hx1=>?_);have k1:=K0_i1.tr hx1;refine Zn rfl<|Zn rfl<|bS hB1 fun x3 Ex3 hB1=>?_;have hz:=(RV.els r0).ix Ex3;obtain⟨b3,f1,cs3,e1,i2,i3,q3,hc1⟩:=hz;cases e1;obtain rfl:=q3;have hc2:=hc1.ext k1;refine Zp rfl (fun _=>CG l0_i1 l5_i1 Tryz.underlying98 Ap i2 i3)<|Zq rfl (fun _ hS=>Ac rfl Ap ((hc2.ext (hS.resolve_left nofun)).at 0 rfl)) (Ext.refl _)<|Zn rfl<|Zn rfl<|bS hB1 fun x4 Ex4 hB1=>?_;have hz:=(RV.els r1).ix Ex4;obtain⟨b4,f2,cs4,e2,i4,i5,q4,hc3⟩:=hz;cases e2;obtain rfl:=q4;have hc4:=hc3.ext k1;refine Zp rfl (fun _=>CG l1_i1 l5_i1 Tryz.underlying98 Ap i4 i5)<|Zq rfl (fun _ hS=>Ac rfl Ap ((hc4.ext (hS.resolve_left nofun)).at 0 rfl)) (Ext.refl _)<|Zp rfl (fun _=>zV rfl rfl)<|cnd rfl (fun h5=>?_) (fun h5=>?_)
    ·have hB1:=BP hB1 h5;refine Zr<|Za<|nl<|?_;cases hB1;have hF:=(show some _=some _ from hF);cases hF;exact wp_ret<|Zw rfl rfl rfl ⟨rfl,k1⟩
    ·have hB1:=Bh hB1 h5;refine wp_skip<|rg<|Zm<|Zv (FH l5_i1 rfl)<|Za<|nl<|lq m (Nat.lt_succ_self _)<|?_;exact⟨_,hB1,rfl,l0_i1,l1_i1,k1⟩
   ·have hB1:=Bh hB1 h4;refine wp_exit<|?_;cases hB1;refine lf<|?_;exact⟨rfl,K0_i1⟩
  rintro L w3⟨rfl,K0_j1⟩;refine Zr<|Za<|nl<|?_;cases hF;exact wp_ret<|Zw rfl rfl rfl ⟨rfl,K0_j1⟩
theorem ASc{w0:World}{x0:Int}{x1:Int}{r:Int}(hF:zL x0 x1=some r):
  Calls Tryz.prog 235 [.int .i64 x0,.int .i64 x1].toArray w0 (Gy fun v w'=>v=.int .i64 r/\Ext w0 w'):=by
 unfold zL at hF;refine Ko (n:=10) Tryz.func235 rfl rfl rfl<|Zr<|Za<|nl<|wp_seq<|Zr<|Zm<|Zm<|Zv (zk rfl rfl)<|nl<|cnd rfl (fun h3=>?_) (fun h3=>?_)
 ·have hF:=BP hF h3;refine Zr<|Zm<|Za<|nl<|?_;cases hF;exact wp_ret<|Zw rfl rfl rfl ⟨rfl,(Ext.refl _)⟩
 ·have hF:=Bh hF h3;refine wp_skip<|Zr<|Zm<|Za<|nl<|?_;cases hF;exact wp_ret<|Zw rfl rfl rfl ⟨rfl,(Ext.refl _)⟩
theorem ASd{w0:World}{b0:Nat}{cs0:List Value}{x0:((Ob ((Uno (List (Ar 2 Int)))×(Ar 101 Int)))×(List (List Int))×(List (Ar 4 Int)))}(h0:Cs w0 b0 0 cs0)(q0:Enc.rep (fun _=>True) w0 cs0 x0){v1:Value}{x1:(List (Ar 4 Int))}(r1:RV w0 v1 x1){F:Nat}{r:(List (List Int))}(hF:AAQ F x0 x1=some r):
  Calls Tryz.prog 123 [.pointer (some ⟨b0,0,none⟩),v1].toArray w0 (Gy fun v w'=>∃u0:Value,v=u0/\RV w' u0 r/\Ext w0 w'):=by
 unfold AAQ at hF;obtain⟨_,_,rfl,q3,_,_,rfl,⟨a2,cq1,rfl,p1,q4,e1⟩,a3,cq2,rfl,p2,q5,e2⟩:=q0;have hz:=ACr q3;obtain⟨a1,rfl,r3⟩:=hz;have hz:=r1.sl;obtain⟨a4,cq3,rfl,-,-,-⟩:=hz;refine Ko (n:=30) Tryz.func123 rfl rfl rfl<|Zr<|Za<|nl<|Zr<|Za<|nl<|wp_seq<|Zr<|Zm<|Zv (DF rfl Tryz.underlying214)<|Zm<|nl<|?_;have o1:DRow (α:=(List Int)) w0.heap.size 98 w0.heap.size w0 (.slice none 0 0) []:=DRow.nil;refine bS hF fun z1 hB1 hF=>ct (fun L w=>∃v4:Value,L 5=v4/\DRow w0.heap.size 98 w0.heap.size w v4 z1/\Ext w0 w) ?_ ?_
 ·refine wp_block<|lp (I:=fun m L w=>∃y1:(List (List Int)),∃y2:Int,∃v3:Value,yN F x0 x1 m y1 y2=some z1/\L 5=v3/\DRow w0.heap.size 98 w0.heap.size w v3 y1/\L 11=.int .i64 y2/\L 0=.pointer (some ⟨b0,0,none⟩)/\L 9=.slice a4 x1.length cq3/\L 10=.int .i64 (x1.length:Int)/\Ext w0 w) F ⟨_,_,_,hB1,rfl,o1,rfl,rfl,rfl,rfl,(Ext.refl _)⟩ ?_;rintro m L w1⟨y1,y2,v3,hB1,l5_i1,O5_i1,l11_i1,l0_i1,l9_i1,l10_i1,K0_i1⟩;rcases m with _|m
  ·rw[yN]at hB1;cases hB1
  rw[yN]at hB1;have h3:=h0.ext K0_i1;have hz:=RV.sl O5_i1.rv;obtain⟨a5,cq4,rfl,-,-,-⟩:=hz;refine Zr<|Zv (Jr l11_i1 l10_i1)<|nl<|wp_seq<|cnd rfl (fun h4=>?_) (fun h4=>?_)
  ·have hB1:=BP hB1 h4;refine wp_skip<|wp_seq<|wp_block<|Zr<|bS hB1 fun x3 Ex3 hB1=>?_;have hz:=(RV.els r1).ix Ex3;obtain⟨b3,f1,cs3,e3,i2,i3,q6,hc1⟩:=hz;cases e3;obtain rfl:=q6;have hc2:=hc1.ext K0_i1;refine Zv (CG l9_i1 l11_i1 Tryz.underlying214 Dx i2 i3)<|Zv (DY rfl Dx (Gi _) hc2)<|zW Dx fun b4 w2 hx1 hg1 hb1=>?_;have k1:=K0_i1.tr hx1;have hb2:Bx w2 b4 223 (List.flatMap Flat.enc ((Ar.fill 4 0:(Ar 4 Int))).l):=hb1;refine AEi rfl rfl Dx hb2 (Gi _) (Gi _) (AA0 _) fun w3 hch1 hb3=>?_;have k2:=Ext.chg k1 hch1 (Nat.le_trans K0_i1.size hg1);have k3:=Ext.chg hx1 hch1 (Nat.le_trans (Nat.le_refl _) hg1);have h6:=h3.ext k3;have O2:=O5_i1.ext k3;have hb4:Bx w3 b4 223 (List.flatMap Flat.enc x3.l):=hb3;refine nl<|Zr<|Zm<|Zv (XB l0_i1)<|Zv (BH rfl ACU)<|Zv (Ac rfl AFn (h6.at 1 rfl))<|Zv (DF rfl Tryz.underlying78)<|bS hB1 fun x4 Ex4 hB1=>APg (α:=Int) (z0:=0) rfl rfl Tryz.underlying98 Ap rfl rfl rfl Ex4 fun b5 w4 hx2 o3=>?_;have k4:=k2.tr hx2;have hb5:=hb4.ext hx2;refine Za<|nl<|Zr<|Zm<|?_;have r22:=Bx.arsl hb5 (ble rfl);refine Zv (AWK (X:=x3) rfl Tryz.underlying223 Ap rfl)<|ASS (l:=x4) (k:=x3.l) rfl rfl Tryz.underlying98 Ap o3 r22 fun w5 cq5 hch2 o4=>?_;have k6:=Ext.chg k4 hch2 (Nat.le_trans k2.size (Row.ge o3));have k8:=Ext.chg hx2 hch2 (Nat.le_trans (Nat.le_refl _) (Row.ge o3));have O4:=O2.ext k8;refine nl<|rg<|Zm<|Zm<|AAg (cs:=[.slice (some ⟨b5,0,none⟩) x4.length x4.length]) Tryz.underlying85 zC rfl (pc rfl pn) rfl rfl rfl rfl rfl fun b6 w6 hx3 hg2 hb6=>?_;have k9:=k6.tr hx3;have O5:=O4.ext hx3;have o5:=o4.ext hx3;have r27:RV w6 (.slice (some ⟨b6,0,none⟩) 1 1) ([(ACX x4 x3.l)]:List (List Int)):=RV.lit hb6 (css:=[[.slice (some ⟨b5,0,none⟩) x4.length x4.length]]) rfl ⟨o5.rv.rep1,trivial⟩ rfl (ble rfl);refine bS hB1 fun x5 Ex5 hB1=>ASU (l:=y1) (k:=([(ACX x4 x3.l)]:List (List Int))) l5_i1 rfl Tryz.underlying85 zC rfl rfl O5 (ElsD.lit1 hb6 (RVo.rep1 (RVo.okn (Row.rvob o5) k2.size O2.own_lt))) Ex5 k9.size fun v5 w7 o6 hB3 hgr1 how1=>?_;have k12:Ext w0 w7:=k9.trans hB3;have hz:=RV.sl o6.rv;obtain⟨a6,cq6,rfl,-,-,-⟩:=hz;refine Za<|nl<|rg<|Zv (FH l11_i1 rfl)<|Zm<|nl<|lq m (Nat.lt_succ_self _)<|?_;exact⟨_,_,_,hB1,rfl,o6,rfl,l0_i1,l9_i1,l10_i1,k12⟩
  ·have hB1:=Bh hB1 h4;refine wp_exit<|?_;cases hB1;refine lf<|?_;exact⟨_,l5_i1,O5_i1,K0_i1⟩
 rintro L w8⟨v4,l5_j1,O5_j1,K0_j1⟩;have hz:=RV.sl O5_j1.rv;obtain⟨a7,cq7,rfl,-,-,-⟩:=hz;refine Zr<|Zm<|Za<|nl<|?_;cases hF;exact wp_ret<|rt rfl (.tmp l5_j1 rfl .nil) ⟨_,rfl,O5_j1.rv,K0_j1⟩
theorem AIf{w0:World}{b0:Nat}{cs0:List Value}{x0:((Ob ((Uno (List (Ar 2 Int)))×(Ar 101 Int)))×(List (List Int))×(List (Ar 4 Int)))}(h0:Cs w0 b0 0 cs0)(q0:Enc.rep (fun _=>True) w0 cs0 x0){v1:Value}{x1:(Ar 4 Int)}(r1:RV w0 v1 x1){v2:Value}{x2:(Ar 4 Int)}(r2:RV w0 v2 x2){F:Nat}{r:Bool}(hF:Kz F x0 x1 x2=some r):
  Calls Tryz.prog 133 [.pointer (some ⟨b0,0,none⟩),v1,v2].toArray w0 (Gy fun v w'=>v=.bool r/\Ext w0 w'):=by
 unfold Kz at hF;obtain⟨_,_,rfl,q4,_,_,rfl,⟨a2,cq1,rfl,p1,q5,e1⟩,a3,cq2,rfl,p2,q6,e2⟩:=q0;have hz:=ACr q4;obtain⟨a1,rfl,r4⟩:=hz;have hz:=id r1;obtain⟨_,rfl,rfl⟩:=hz;have hz:=id r2;obtain⟨_,rfl,rfl⟩:=hz;refine Ko (n:=24) Tryz.func133 rfl rfl rfl<|Zr<|xG rfl rfl fun b4 w1 hx1 hg1 hb1=>?_;have h4:=h0.ext hx1;refine xG rfl rfl fun b5 w2 hx2 hg2 hb2=>?_;have k1:=hx1.tr hx2;have hb3:=hb1.ext hx2;have h5:=h4.ext hx2;refine Za<|nl<|wp_seq<|Zr<|Zm<|Zv (XB rfl)<|Zv (BH rfl ACU)<|Zv (Ac rfl AFn (h5.at 1 rfl))<|Zv (DF rfl Tryz.underlying78)<|Zm<|nl<|bS hF fun o1 hB1 hF=>ct (fun L w=>o1=.inr ()/\Ext w2 w) ?_ ?_
 ·refine wp_block<|lp (I:=fun m L w=>∃y1:Int,xU F x0 x1 x2 m y1=some o1/\L 13=.int .i64 y1/\L 4=.pointer (some ⟨b4,0,none⟩)/\L 5=.pointer (some ⟨b5,0,none⟩)/\L 12=.int .i64 (x0.2.1.length:Int)/\Ext w2 w) F ⟨_,hB1,rfl,rfl,rfl,rfl,(Ext.refl _)⟩ ?_;rintro m L w3⟨y1,hB1,l13_i1,l4_i1,l5_i1,l12_i1,K0_i1⟩;rcases m with _|m
  ·rw[xU]at hB1;cases hB1
  rw[xU]at hB1;have k2:=k1.tr K0_i1;have hb4:=hb3.ext K0_i1;have hb5:=hb2.ext K0_i1;refine Zr<|Zv (Jr l13_i1 l12_i1)<|nl<|wp_seq<|cnd rfl (fun h6=>?_) (fun h6=>?_)
  ·have hB1:=BP hB1 h6;refine wp_skip<|wp_seq<|wp_block<|Zr<|Zm<|Za<|nl<|wp_seq<|wpl [] (.pure true 0 (.pure true 1 (.pure false 2 (.pure true 3 (.pure true 4 (.pure false 5 (.pure true 6 .fin))))))) mixed (by kernel_rfl) (fun w4 hx3=>?_);have k4:=k2.tr hx3;have k6:=K0_i1.tr hx3;have hb6:=hb4.ext hx3;have hb7:=hb5.ext hx3;refine Zn rfl<|bS hB1 fun x4 Ex4 hB1=>?_;have hz:=wR (Bx.cs hb6) Ex4;obtain⟨i2,i3,hc1⟩:=hz;refine Zp rfl (fun _=>wJ l4_i1 l13_i1 Tryz.underlying223 Ap i2 i3)<|Zq rfl (fun _ hS=>Ac rfl Ap ((hc1.ext (hS.resolve_left nofun)).at 0 rfl)) (Ext.refl _)<|Zn rfl<|bS hB1 fun x5 Ex5 hB1=>?_;have hz:=wR (Bx.cs hb7) Ex5;obtain⟨i4,i5,hc2⟩:=hz;refine Zp rfl (fun _=>wJ l5_i1 l13_i1 Tryz.underlying223 Ap i4 i5)<|Zq rfl (fun _ hS=>Ac rfl Ap ((hc2.ext (hS.resolve_left nofun)).at 0 rfl)) (Ext.refl _)<|Zp rfl (fun _=>ADK rfl rfl)<|cnd rfl (fun h7=>?_) (fun h7=>?_)
   ·have hB1:=BP hB1 h7;refine Zr<|Za<|nl<|?_;cases hB1;have hF:=(show some _=some _ from hF);cases hF;exact wp_ret<|Zw rfl rfl rfl ⟨rfl,k4⟩
   ·have hB1:=Bh hB1 h7;refine wp_skip<|rg<|Zv (FH l13_i1 rfl)<|Zm<|nl<|lq m (Nat.lt_succ_self _)<|?_;exact⟨_,hB1,rfl,l4_i1,l5_i1,l12_i1,k6⟩
  ·have hB1:=Bh hB1 h6;refine wp_exit<|?_;cases hB1;refine lf<|?_;exact⟨rfl,K0_i1⟩
 rintro L w5⟨rfl,K0_j1⟩;have k7:=k1.tr K0_j1;refine Zr<|Za<|nl<|?_;cases hF;exact wp_ret<|Zw rfl rfl rfl ⟨rfl,k7⟩
theorem AWW{w0:World}{b0:Nat}{cs0:List Value}{x0:((Uno (List (Ar 2 Int)))×(Ar 101 Int))}(h0:Cs w0 b0 0 cs0)(q0:Enc.rep (fun _=>True) w0 cs0 x0){x1:Int}{x2:Int}{r:Bool}(hF:AAd x0 x1 x2=some r):
  Calls Tryz.prog 302 [.pointer (some ⟨b0,0,none⟩),.int .i64 x1,.int .i64 x2].toArray w0 (Gy fun v w'=>v=.bool r/\Ext w0 w'):=by
 unfold AAd at hF;obtain⟨_,_,rfl,⟨a1,cq1,rfl,p1,q4,e1⟩,rfl⟩:=q0;refine Ko (n:=20) Tryz.func302 rfl rfl rfl<|Zr<|Za<|nl<|wp_seq<|wpl [] (.pure true 0 (.pure true 1 (.pure true 2 (.pure true 3 (.pure true 4 (.pure false 5 (.pure true 6 (.pure true 7 (.pure true 8 (.pure true 9 (.pure true 10 (.pure false 11 (.pure true 12 (.pure true 13 .fin)))))))))))))) mixed (by kernel_rfl) (fun w1 hx1=>?_);have h4:=h0.ext hx1;refine Zn rfl<|Zn rfl<|Zp rfl (fun _=>XB rfl)<|Zp rfl (fun _=>BH rfl AEX)<|?_;have hc1:Cs w1 b0 (0+1) (List.flatMap Flat.enc x0.2.l):=Cs.last (l1:=[.slice a1 x0.1.v.length cq1]) (X:=x0.2) h4;refine bS hF fun x4 Ex4 hF=>?_;have hz:=wR hc1 Ex4;obtain⟨i1,i2,hc2⟩:=hz;refine Zp rfl (fun _=>wJ rfl rfl Tryz.underlying408 Ap i1 i2)<|Zq rfl (fun _ hS=>Ac rfl Ap ((hc2.ext (hS.resolve_left nofun)).at 0 rfl)) (Ext.refl _)<|Zn rfl<|Zn rfl<|Zp rfl (fun _=>XB rfl)<|Zp rfl (fun _=>BH rfl AEX)<|?_;have hc3:Cs w1 b0 (0+1) (List.flatMap Flat.enc x0.2.l):=Cs.last (l1:=[.slice a1 x0.1.v.length cq1]) (X:=x0.2) h4;refine bS hF fun x5 Ex5 hF=>?_;have hz:=wR hc3 Ex5;obtain⟨i3,i4,hc4⟩:=hz;refine Zp rfl (fun _=>wJ rfl rfl Tryz.underlying408 Ap i3 i4)<|Zq rfl (fun _ hS=>Ac rfl Ap ((hc4.ext (hS.resolve_left nofun)).at 0 rfl)) (Ext.refl _)<|Zp rfl (fun _=>yB rfl rfl)<|Zp rfl (fun _=>xas)<|?_;cases hF;exact wp_ret<|Zw rfl rfl rfl ⟨rfl,hx1⟩
theorem ASe{w0:World}{b0:Nat}{cs0:List Value}{x0:((Ob ((Uno (List (Ar 2 Int)))×(Ar 101 Int)))×(List (List Int))×(List (Ar 4 Int)))}(h0:Cs w0 b0 0 cs0)(q0:Enc.rep (fun _=>True) w0 cs0 x0){v1:Value}{x1:(Ar 4 Int)}(r1:RV w0 v1 x1){F:Nat}{r:Bool}(hF:zu F x0 x1=some r):
  Calls Tryz.prog 234 [.pointer (some ⟨b0,0,none⟩),v1].toArray w0 (Gy fun v w'=>v=.bool r/\Ext w0 w'):=by
 unfold zu at hF;obtain⟨_,_,rfl,q3,_,_,rfl,⟨a2,cq1,rfl,p1,q4,e1⟩,a3,cq2,rfl,p2,q5,e2⟩:=q0;have hz:=ACr q3;obtain⟨a1,rfl,r3⟩:=hz;have r4:=RV.of1 p1 q4 e1;have hz:=id r1;obtain⟨_,rfl,rfl⟩:=hz;refine Ko (n:=40) Tryz.func234 rfl rfl rfl<|Zr<|xG rfl rfl fun b3 w1 hx1 hg1 hb1=>?_;have h3:=h0.ext hx1;refine Za<|nl<|wp_seq<|Zr<|Zm<|Zv (XB rfl)<|Zv (BH rfl ACU)<|Zv (Ac rfl AFn (h3.at 1 rfl))<|Zv (DF rfl Tryz.underlying78)<|Zm<|nl<|bS hF fun o1 hB1 hF=>ct (fun L w=>o1=.inr ()/\Ext w1 w) ?_ ?_
 ·refine wp_block<|lp (I:=fun m L w=>∃y1:Int,wU F x0 x1 m y1=some o1/\L 12=.int .i64 y1/\L 0=.pointer (some ⟨b0,0,none⟩)/\L 3=.pointer (some ⟨b3,0,none⟩)/\L 10=.slice a2 x0.2.1.length cq1/\L 11=.int .i64 (x0.2.1.length:Int)/\Ext w1 w) F ⟨_,hB1,rfl,rfl,rfl,rfl,rfl,(Ext.refl _)⟩ ?_;rintro m L w2⟨y1,hB1,l12_i1,l0_i1,l3_i1,l10_i1,l11_i1,K0_i1⟩;rcases m with _|m
  ·rw[wU]at hB1;cases hB1
  rw[wU]at hB1;have k1:=hx1.tr K0_i1;have h4:=h3.ext K0_i1;have hb2:=hb1.ext K0_i1;refine Zr<|Zv (Jr l12_i1 l11_i1)<|nl<|wp_seq<|cnd rfl (fun h5=>?_) (fun h5=>?_)
  ·have hB1:=BP hB1 h5;refine wp_skip<|wp_seq<|wp_block<|Zr<|Zm<|bS hB1 fun x3 Ex3 hB1=>?_;have hz:=(RV.els r4).ix Ex3;obtain⟨b4,f1,cs3,e3,i2,i3,q6,hc1⟩:=hz;cases e3;obtain⟨a4,cq3,rfl,p3,q7,e4⟩:=q6;have r13:=RV.of1 p3 q7 e4;have hc2:=hc1.ext k1;refine Zv (CG l10_i1 l12_i1 Tryz.underlying78 Zk i2 i3)<|Zv (Ac rfl Zk (hc2.at 0 rfl))<|Za<|Za<|nl<|wp_seq<|wpl [] (.pure true 0 (.pure true 1 (.pure true 2 (.pure false 3 (.pure true 4 (.pure true 5 (.pure true 6 (.pure false 7 (.pure true 8 (.pure false 9 (.pure true 10 (.pure true 11 (.pure true 12 (.pure false 13 (.pure true 14 (.pure false 15 (.pure true 16 (.pure false 17 (.pure true 18 (.pure false 19 (.eff 20 (.pure true 21 .fin) .stop))))))))))))))))))))) mixed (by kernel_rfl) (fun w3 hx2=>?_);have k2:=k1.tr hx2;have k3:=K0_i1.tr hx2;have hb3:=hb2.ext hx2;have h6:=h4.ext hx2;refine Zn rfl<|Zp rfl (fun _=>XB l0_i1)<|Zp rfl (fun _=>BH rfl ARR)<|Zq rfl (fun _ hS=>Ac rfl ATp ((h6.ext (hS.resolve_left nofun)).at 0 rfl)) (Ext.refl _)<|Zn rfl<|Zn rfl<|bS hB1 fun x4 Ex4 hB1=>?_;have hz:=wR (Bx.cs hb3) Ex4;obtain⟨i4,i5,hc3⟩:=hz;refine Zp rfl (fun _=>wJ l3_i1 l12_i1 Tryz.underlying223 Ap i4 i5)<|Zq rfl (fun _ hS=>Ac rfl Ap ((hc3.ext (hS.resolve_left nofun)).at 0 rfl)) (Ext.refl _)<|bS hB1 fun x5 Ex5 hB1=>?_;have hz:=(RV.els r13).ix Ex5;obtain⟨b5,f2,cs4,e5,i6,i7,q8,hc4⟩:=hz;cases e5;obtain rfl:=q8;have hc5:=hc4.ext k2;refine Zp rfl (fun _=>CG rfl rfl Tryz.underlying41 Ap i6 i7)<|Zq rfl (fun _ hS=>Ac rfl Ap ((hc5.ext (hS.resolve_left nofun)).at 0 rfl)) (Ext.refl _)<|Zn rfl<|Zp rfl (fun _=>XB l0_i1)<|Zp rfl (fun _=>BH rfl ACU)<|Zq rfl (fun _ hS=>Ac rfl AFn ((h6.ext (hS.resolve_left nofun)).at 1 rfl)) (Ext.refl _)<|bS hB1 fun x6 Ex6 hB1=>?_;have hz:=yc r4 Ex6;obtain⟨cs5,i8,i9,q9,hc6⟩:=hz;obtain⟨a5,cq4,rfl,p4,q10,e6⟩:=q9;have r19:=RV.of1 p4 q10 e6;have hc7:=hc6.ext k2;refine Zp rfl (fun _=>CG rfl rfl Tryz.underlying78 Zk i8 i9)<|Zq rfl (fun _ hS=>Ac rfl Zk ((hc7.ext (hS.resolve_left nofun)).at 0 rfl)) (Ext.refl _)<|bS hB1 fun x7 Ex7 hB1=>?_;have hz:=wR (Bx.cs hb3) Ex7;obtain⟨i10,i11,hc8⟩:=hz;refine Zp rfl (fun _=>wJ l3_i1 rfl Tryz.underlying223 Ap i10 i11)<|Zq rfl (fun _ hS=>Ac rfl Ap ((hc8.ext (hS.resolve_left nofun)).at 0 rfl)) (Ext.refl _)<|bS hB1 fun x8 Ex8 hB1=>?_;have hz:=(RV.els r19).ix Ex8;obtain⟨b6,f3,cs6,e7,i12,i13,q11,hc9⟩:=hz;cases e7;obtain rfl:=q11;have hc10:=hc9.ext k2;refine Zp rfl (fun _=>CG rfl rfl Tryz.underlying41 Ap i12 i13)<|Zq rfl (fun _ hS=>Ac rfl Ap ((hc10.ext (hS.resolve_left nofun)).at 0 rfl)) (Ext.refl _)<|bS hB1 fun x9 Ex9 hB1=>?_;have hz:=AGs r3 Ex9;obtain⟨b7,cs7,e8,q12,hc11⟩:=hz;cases e8;obtain⟨_,_,rfl,⟨a6,cq5,rfl,p5,q13,e9⟩,rfl⟩:=q12;have r21:=RV.of1 p5 q13 e9;have hc12:=hc11.ext k2;have r22:=r21.ext k2;refine bS hB1 fun x10 Ex10 hB1=>pe1 rfl<|Zc (xc AUT (mc rfl (mc rfl (mc rfl mn)))) (AWW (x0:=((⟨x9.1.v⟩:(Uno (List (Ar 2 Int)))),x9.2)) hc12 ⟨[.slice a6 x9.1.v.length cq5],(List.flatMap Flat.enc x9.2.l),rfl,r22.rep1,rfl⟩ Ex10) ?_;rintro _ w4⟨rfl,hx3⟩;have k4:=k2.tr hx3;have k5:=k3.tr hx3;refine nl ⟨fun _ _=>hx3,?_⟩;refine Zp rfl (fun _=>yC rfl)<|cnd rfl (fun h8=>?_) (fun h8=>?_)
   ·have hB1:=BP hB1 h8;refine Zr<|Za<|nl<|?_;cases hB1;have hF:=(show some _=some _ from hF);cases hF;exact wp_ret<|Zw rfl rfl rfl ⟨rfl,k4⟩
   ·have hB1:=Bh hB1 h8;refine wp_skip<|rg<|Zv (FH l12_i1 rfl)<|Zm<|nl<|lq m (Nat.lt_succ_self _)<|?_;exact⟨_,hB1,rfl,l0_i1,l3_i1,l10_i1,l11_i1,k5⟩
  ·have hB1:=Bh hB1 h5;refine wp_exit<|?_;cases hB1;refine lf<|?_;exact⟨rfl,K0_i1⟩
 rintro L w5⟨rfl,K0_j1⟩;have k6:=hx1.tr K0_j1;refine Zr<|Za<|nl<|?_;cases hF;exact wp_ret<|Zw rfl rfl rfl ⟨rfl,k6⟩
end Go.Proofs.YtfmelbioccbdoaaGreat
end
section
namespace Go.Proofs.YtfmelbioccbdoaaGreat
open Go Go.Md Go.RowKit
section
abbrev Cls:=Ar 101 Int
def ACy:Cls:=⟨(List.range 101).map Int.ofNat,by simp⟩
def ADT(a b:Int)(c:Cls):Cls:=⟨c.l.map (fun x=>if x=b then a else x),by rw[List.length_map,c.h]⟩
def AE4:List (Ar 2 Int)->Cls->Option Cls
 |[],c=>some c
 |p::ps,c=>(ix p.l 0)>>=fun p0=>(ix c.l p0)>>=fun a=>(ix p.l 1)>>=fun p1=>(ix c.l p1)>>=fun b=>(kok a)>>=fun _=>(kok b)>>=fun _=>AE4 ps (if a=b then c else ADT a b c)
def AAZ(x0:Uno (List (Ar 2 Int))):Option (Ob ((Uno (List (Ar 2 Int)))×Cls)):=(AE4 x0.v ACy)>>=fun c=>some ⟨some ((⟨x0.v⟩:Uno (List (Ar 2 Int))),c)⟩
section
variable {κ ν:Type}[DecidableEq κ]
theorem AE5{d:ν}{k k':κ}{v:ν}:∀{l:List (κ×ν)},IL d (Le l k v) k'=if k'=k then v else IL d l k'
 |[]=>by
  by_cases h:k'=k
  ·subst h;simp[Le,IL]
  ·simp[Le,IL,h,Ne.symm h]
 |(a,u)::l=>by
  have ih:=AE5 (d:=d) (k:=k) (k':=k') (v:=v) (l:=l);by_cases h:a=k
  ·subst h
   by_cases h2:k'=a
   ·subst h2;simp[Le,IL]
   ·simp[Le,IL,h2,Ne.symm h2]
  ·by_cases h2:a=k'
   ·subst h2;simp[Le,IL,h]
   ·simp[Le,IL,h,h2,ih]
theorem AGN{d:ν}{k k':κ}:∀{l:List (κ×ν)},(l.map (·.1)).Nodup->IL d (xk l k) k'=if k'=k then d else IL d l k'
 |[],_=>by simp[xk,IL]
 |(a,u)::l,hn=>by
  simp only[List.map_cons,List.nodup_cons]at hn;have ih:=AGN (d:=d) (k:=k) (k':=k') (l:=l) hn.2;by_cases h:a=k
  ·subst h
   by_cases h2:k'=a
   ·subst h2
    have:IL d l k'=d:=(ACW (d:=d) fun p hp e=>hn.1 (List.mem_map.2 ⟨p,hp,e⟩)).1;simp[xk,this]
   ·simp[xk,IL,h2,Ne.symm h2]
  ·by_cases h2:a=k'
   ·subst h2;simp[xk,IL,h]
   ·simp[xk,IL,h,h2,ih]
end
def AHq:SV:=⟨none,0,0⟩
abbrev AA7(l:List (Int×SV))(k:Int):Value:=(IL AHq l k).val
structure Wd(N:Nat)(w:World)(bm bd:Nat)(l:List (Int×SV))(g:Int->List Int):Prop where
 mp:Mp w bm l
 row:∀k,Row 3 N w (AA7 l k) (g k)
 apart:∀k k',k≠k'->Apart (AA7 l k) (AA7 l k')
 out:∀k,some bd≠(AA7 l k).ownBlock
section
variable {N bm bd:Nat}{w w' w1 w2:World}{l:List (Int×SV)}{g:Int->List Int}
theorem Wd.nil(h:Mp w bm ([]:List (Int×SV))):Wd N w bm bd [] (fun _=>[]):=
 ⟨h,fun _=>Row.nil,fun _ _ _=>Apart.nil1,fun _ e=>by cases e⟩
theorem Wd.ext(h:Wd N w bm bd l g)(k:Ext w w'):Wd N w' bm bd l g:=⟨h.mp.ext k,fun a=>(h.row a).ext k,h.apart,h.out⟩
theorem Wd.box{T:TypeId}{cs:List Value}(h:Wd N w bm bd l g)(hb:Bx w bd T cs)(k:Chg bd w w'):Wd N w' bm bd l g:=
 ⟨h.mp.chgb k hb,fun a=>(h.row a).chgn k (h.out a),h.apart,h.out⟩
theorem Wd.set(h:Wd N w bm bd l g){a:Int}{s:SV}{la:List Int}(hrow:Row 3 N w1 s.val la)(hrest:∀k,k≠a->Row 3 N w1 (AA7 l k) (g k))(hap:∀k,k≠a->Apart s.val (AA7 l k))(hbd:some bd≠s.val.ownBlock)
  (hm:Mp w1 bm l) (hch:Chg bm w1 w2) (hmp:Mp w2 bm (Le l a s)):Wd N w2 bm bd (Le l a s) (fun k=>if k=a then la else g k):=by
 have e1:AA7 (Le l a s) a=s.val:=by unfold AA7;rw[AE5,if_pos rfl]
 have e2:∀k,k≠a->AA7 (Le l a s) k=AA7 l k:=fun k hk=>by unfold AA7;rw[AE5,if_neg hk]
 refine⟨hmp,fun k=>?_,fun k k' hk=>?_,fun k=>?_⟩
 ·by_cases hk:k=a
  ·subst hk;rw[e1,if_pos rfl];exact hrow.chgm hch hm
  ·rw[e2 k hk,if_neg hk];exact(hrest k hk).chgm hch hm
 ·by_cases h1:k=a
  ·subst h1
   rw[e1,e2 k' (Ne.symm hk)];exact hap k' (Ne.symm hk)
  ·by_cases h2:k'=a
   ·subst h2;rw[e1,e2 k h1];exact(hap k h1).symm
   ·rw[e2 k h1,e2 k' h2];exact h.apart k k' hk
 ·by_cases h1:k=a
  ·subst h1;rw[e1];exact hbd
  ·rw[e2 k h1];exact h.out k
theorem Wd.app(h:Wd N w bm bd l g){a:Int}{s:SV}{la:List Int}(hrow:Row 3 N w1 s.val la)(hgr:w.grownBy w1 (AA7 l a).ownBlock)(ho:s.val.ownBlock=(AA7 l a).ownBlock\/∃q,s.val.ownBlock=some q/\w.heap.size<=q)
  (hbd:bd<w.heap.size) (hch:Chg bm w1 w2) (hmp:Mp w2 bm (Le l a s)):Wd N w2 bm bd (Le l a s) (fun k=>if k=a then la else g k):=by
 have hlt:∀k q,(AA7 l k).ownBlock=some q->q<w.heap.size:=fun k q hq=>((h.row k).lt q hq).2;refine h.set hrow (fun k hk=>(h.row k).gra hgr (h.apart a k (Ne.symm hk))) (fun k hk=>Apart.app ho (h.apart a k (Ne.symm hk)) (hlt k)) ?_ (h.mp.grr hgr (h.row a)) hch hmp;rcases ho with e|⟨q,e,hq⟩
 ·rw[e];exact h.out a
 ·rw[e];intro e2;cases e2;omega
theorem Wd.del(h:Wd N w bm bd l g){b:Int}(hch:Chg bm w w')(hmp:Mp w' bm (xk l b)):Wd N w' bm bd (xk l b) (fun k=>if k=b then[]else g k):=by
 have hn:(l.map (·.1)).Nodup:=by obtain⟨_,_,_,_,hn,_⟩:=h.mp;exact hn
 have e1:AA7 (xk l b) b=.slice none 0 0:=by unfold AA7;rw[AGN hn,if_pos rfl];rfl
 have e2:∀k,k≠b->AA7 (xk l b) k=AA7 l k:=fun k hk=>by unfold AA7;rw[AGN hn,if_neg hk]
 refine⟨hmp,fun k=>?_,fun k k' hk=>?_,fun k=>?_⟩
 ·by_cases hk:k=b
  ·subst hk;rw[e1,if_pos rfl];exact Row.nil
  ·rw[e2 k hk,if_neg hk];exact(h.row k).chgm hch h.mp
 ·by_cases h1:k=b
  ·subst h1;rw[e1];exact Apart.nil1
  ·by_cases h2:k'=b
   ·subst h2;rw[e1];exact Apart.nil2
   ·rw[e2 k h1,e2 k' h2];exact h.apart k k' hk
 ·by_cases h1:k=b
  ·subst h1;rw[e1];intro e;cases e
  ·rw[e2 k h1];exact h.out k
end
def ACE(c:Cls)(k:Int):List Int:=((List.range 101).filter (fun n=>c.l[n]?==some k)).map Int.ofNat
structure Ct(c:Cls)(g:Int->List Int):Prop where
 perm:∀k,(g k).Perm (ACE c k)
theorem AJB{c:Cls}{k n:Int}:n∈ACE c k↔∃m:Nat,m<101/\n=(m:Int)/\c.l[m]?=some k:=by
 unfold ACE;simp only[List.mem_map,List.mem_filter,List.mem_range,beq_iff_eq];constructor
 ·rintro⟨m,⟨h1,h2⟩,rfl⟩;exact⟨m,h1,rfl,h2⟩
 ·rintro⟨m,h1,rfl,h2⟩;exact⟨m,⟨h1,h2⟩,rfl⟩
theorem Ct.iff{c:Cls}{g:Int->List Int}(h:Ct c g)(n:Nat)(x:Int)(hx:c.l[n]?=some x)(k:Int):((n:Int)∈g k↔x=k):=by
 rw[(h.perm k).mem_iff,AJB];constructor
 ·rintro⟨m,h1,h2,h3⟩
  have:m=n:=by omega
  subst this;rw[hx]at h3;exact Option.some.inj h3
 ·rintro rfl
  have:n<c.l.length:=(List.getElem?_eq_some_iff.1 hx).1;exact⟨n,by have:=c.h;omega,rfl,hx⟩
theorem Ct.rng{c:Cls}{g:Int->List Int}(h:Ct c g)(k n:Int)(hn:n∈g k):0<=n/\n<101:=by
 obtain⟨m,h1,h2,_⟩:=AJB.1 ((h.perm k).mem_iff.1 hn);omega
theorem Ct.len{c:Cls}{g:Int->List Int}(h:Ct c g)(k:Int):(g k).length<=101:=by
 rw[(h.perm k).length_eq,ACE,List.length_map];exact Nat.le_trans (List.length_filter_le _ _) (by simp)
def ADU(c:Cls)(s:List Int)(a:Int):Cls:=⟨c.l.mapIdx (fun i x=>if(i:Int)∈s then a else x),by rw[List.length_mapIdx,c.h]⟩
theorem AEl{m:Nat}{α:Type}{a b:Ar m α}(h:a.l=b.l):a=b:=by cases a;cases b;cases h;rfl
theorem APm{c:Cls}{a:Int}:ADU c [] a=c:=AEl (by
 apply List.ext_getElem?;intro i;simp[ADU,List.getElem?_mapIdx])
theorem AN9{c:Cls}{s:List Int}{a n:Int}(hn:0<=n):xK (ADU c s a) n a=ADU c (s++[n]) a:=AEl (by
 apply List.ext_getElem?;intro i;simp only[xK,ADU,List.getElem?_set,List.length_mapIdx,List.getElem?_mapIdx,List.mem_append,List.mem_singleton];by_cases h:n.toNat=i
 ·subst h
  rw[if_pos rfl];by_cases hl:n.toNat<c.l.length
  ·rw[if_pos hl,List.getElem?_eq_getElem hl]
   have:((n.toNat:Nat):Int)=n:=Int.toNat_of_nonneg hn;simp[this]
  ·rw[if_neg hl,List.getElem?_eq_none (by omega)];rfl
 ·rw[if_neg h]
  have:¬(i:Int)=n:=fun e=>h (by rw[<-e];rfl);simp[this])
theorem APn{c:Cls}{g:Int->List Int}(h:Ct c g)(a b:Int):ADU c (g b) a=ADT a b c:=AEl (by
 apply List.ext_getElem?;intro i;simp only[ADU,ADT,List.getElem?_mapIdx,List.getElem?_map];cases hc:c.l[i]? with
 |none=>rfl
 |some x=>
  have:=h.iff i x hc b;by_cases e:x=b
  ·simp[e,this.2 e]
  ·have hno:¬(i:Int)∈g b:=fun q=>e (this.1 q)
   simp[e,hno])
theorem Ct.join{c:Cls}{g:Int->List Int}(h:Ct c g){a b:Int}(hab:a≠b):Ct (ADT a b c) (fun k=>if k=b then[]else if k=a then g a++g b else g k):=by
 have hm:∀n:Nat,∀k,((ADT a b c).l[n]?==some k)=((c.l[n]?==some k&& !decide (k=b))||(decide (k=a)&&c.l[n]?==some b)):=fun n k=>by
  simp only[ADT,List.getElem?_map];cases c.l[n]? with
  |none=>simp
  |some y=>
   rw[Bool.eq_iff_iff];simp only[Option.map_some,beq_iff_eq,Option.some.injEq,Bool.or_eq_true,Bool.and_eq_true,Bool.not_eq_true',decide_eq_false_iff_not,decide_eq_true_eq];split<;>omega
 refine⟨fun k=>?_⟩;by_cases hkb:k=b
 ·subst hkb
  rw[if_pos rfl];have:ACE (ADT a k c) k=[]:=by
   unfold ACE;rw[List.filter_eq_nil_iff.2 fun n _=>by rw[hm];simp[Ne.symm hab]]
   rfl
  rw[this]
 ·rw[if_neg hkb]
  by_cases hka:k=a
  ·subst hka
   rw[if_pos rfl];refine((h.perm k).append (h.perm b)).trans ?_;unfold ACE;rw[<-List.map_append];refine List.Perm.map _ ?_;have e:(List.range 101).filter (fun n=>(ADT k b c).l[n]?==some k)=(List.range 101).filter (fun n=>c.l[n]?==some k||c.l[n]?==some b):=List.filter_congr fun n _=>by rw[hm];simp[hkb]
   rw[e];have:=List.filter_append_perm (fun n:Nat=>c.l[n]?==some k) ((List.range 101).filter (fun n=>c.l[n]?==some k||c.l[n]?==some b));rw[List.filter_filter,List.filter_filter]at this;have e1:(List.range 101).filter (fun n=>(c.l[n]?==some k)&&(c.l[n]?==some k||c.l[n]?==some b))=(List.range 101).filter (fun n=>c.l[n]?==some k):=List.filter_congr fun n _=>by
    cases c.l[n]?==some k<;>rfl
   have e2:(List.range 101).filter (fun n=>(!(c.l[n]?==some k))&&(c.l[n]?==some k||c.l[n]?==some b))=(List.range 101).filter (fun n=>c.l[n]?==some b):=List.filter_congr fun n _=>by
    cases hx:c.l[n]? with
    |none=>simp
    |some y=>
     rw[Bool.eq_iff_iff];simp;omega
   rw[e1,e2]at this;exact this
  ·rw[if_neg hka]
   have e:ACE (ADT a b c) k=ACE c k:=by
    unfold ACE;rw[show(List.range 101).filter (fun n=>(ADT a b c).l[n]?==some k)=(List.range 101).filter (fun n=>c.l[n]?==some k)from List.filter_congr fun n _=>by rw[hm];simp[hkb,hka]]
   rw[e];exact h.perm k
def ABO(n:Nat):Cls:=⟨(List.range 101).map (fun i=>if i<n then Int.ofNat i else 0),by simp⟩
theorem AMk:(ABO 0).l=List.replicate 101 0:=by decide+kernel
theorem AOA:ABO 101=ACy:=AEl (by
 apply List.ext_getElem
 ·simp[ABO,ACy]
 ·intro i h1 h2
  simp[ABO]at h1;simp[ABO,ACy,h1])
theorem AOB{n:Nat}(h:n<101):xK (ABO n) (n:Int) (n:Int)=ABO (n+1):=AEl (by
 apply List.ext_getElem?;intro i;simp only[xK,ABO,List.getElem?_set,List.length_map,List.length_range,List.getElem?_map,Int.toNat_natCast];by_cases e:n=i
 ·subst e
  rw[if_pos rfl,if_pos h,List.getElem?_range h];simp
 ·rw[if_neg e]
  by_cases hi:i<101
  ·rw[List.getElem?_range hi]
   have:(i<n+1)↔i<n:=by omega
   simp[this]
  ·rw[List.getElem?_eq_none (by simpa using hi)];rfl)
theorem Ct.first:Ct ACy (fun k=>if 0<=k/\k<101 then[k]else[]):=by
 have hc:∀n:Nat,n<101->ACy.l[n]?=some (n:Int):=fun n hn=>by
  simp only[ACy,List.getElem?_map,List.getElem?_range hn];rfl
 refine⟨fun k=>?_⟩;by_cases hk:0<=k/\k<101
 ·rw[if_pos hk]
  obtain⟨m,rfl⟩:=Int.eq_ofNat_of_zero_le hk.1;have hm:m<101:=by omega
  have:ACE ACy (m:Int)=[(m:Int)]:=by
   unfold ACE;have e:(List.range 101).filter (fun n=>ACy.l[n]?==some (m:Int))=(List.range 101).filter (fun n=>n==m):=List.filter_congr fun n hn=>by
    rw[hc n (List.mem_range.1 hn)];by_cases q:n=m
    ·subst q;simp
    ·rw[Bool.eq_iff_iff]
     simp;omega
   rw[e];have h1:((List.range 101).filter (fun n=>n==m)).length=1:=by
    rw[<-List.countP_eq_length_filter,<-List.count];have h1:=List.nodup_iff_count.1 (List.nodup_range (n:=101)) m;have h2:=List.count_pos_iff.2 (List.mem_range.2 hm);omega
   match hl:(List.range 101).filter (fun n=>n==m),h1 with
   |[x],_=>
    have:x∈(List.range 101).filter (fun n=>n==m):=by rw[hl];simp
    have:=(List.mem_filter.1 this).2;have:x=m:=by simpa using this
    rw[this];rfl
  rw[this]
 ·rw[if_neg hk]
  have:ACE ACy k=[]:=by
   unfold ACE;rw[List.filter_eq_nil_iff.2 fun n hn=>by
    rw[hc n (List.mem_range.1 hn)];have:=List.mem_range.1 hn;simp;omega]
   rfl
  rw[this]
end
end Go.Proofs.YtfmelbioccbdoaaGreat
end
section
namespace Go.Proofs.YtfmelbioccbdoaaGreat
open Go Go.Md Go.RowKit
attribute [local irreducible] Go.wpList Go.Code.wp Go.Calls Go.Md.vZ Go.Md.Mt Go.Md.xE Go.Md.uT Go.Code.wpIn
theorem ASf(w:World):(zeroValue 41).run Tryz.prog w=.ok (fv AHq) w:=TI.zv (α:=SV) (d:=AHq) Zk rfl rfl w
theorem ALx{n:Nat}(h:n<101):Key.ok ((n:Nat):Int)=true:=by
 have h1:IntKind.i64.min=-9223372036854775808:=rfl;have h2:IntKind.i64.max=9223372036854775807:=rfl;show(Lit.int .i64 (n:Int)).wf=true;simp[Lit.wf,h1,h2];omega
theorem AD4{n:Nat}(h:n<=9223372036854775806):BA ((n:Int)+1)=((n+1:Nat):Int):=by
 rw[BA,IntWalk.i64_in _ (by omega)];rfl
theorem ARW(n:Nat):(List.replicate n (0:Int)).flatMap Flat.enc=List.replicate n (Value.int .i64 0):=by
 induction n with
 |zero=>rfl
 |succ n ih=>rw[List.replicate_succ,List.flatMap_cons,ih];rfl
theorem AJC{b l c:Nat}:(SV.val ⟨some ⟨b,0,none⟩,l,c⟩).ownBlock=some b:=rfl
set_option maxHeartbeats 8000000 in
theorem AWX{w0:World}{v0:Value}{x0:(Uno (List (Ar 2 Int)))}(r0:RV w0 v0 x0){r:(Ob ((Uno (List (Ar 2 Int)))×Cls))}(hF:AAZ x0=some r):
  Calls Tryz.prog 232 [v0].toArray w0 (Gy fun v w'=>∃u0:Value,v=u0/\RV w' u0 r/\Ext w0 w'):=by
 unfold AAZ at hF;have hz:=Md.bs hF;obtain⟨cF,hN,hr⟩:=hz;cases hr;have hz:=id r0;obtain⟨_,rfl,a1,cq1,rfl,p1,q2,e1⟩:=hz;have r2:=RV.of1 p1 q2 e1;refine Ko (n:=84) Tryz.func232 rfl rfl rfl<|Zr<|xG rfl rfl fun b2 w1 hx1 hg1 hb1=>Za<|nl<|Zr<|Zv (DY rfl ABa rfl (Bx.cs hb1))<|Zv (ACI (r:=[.slice a1 x0.v.length cq1]++List.replicate 101 (.int .i64 0)) ATv ATw (pc rfl pn) rfl)<|xG rfl rfl fun bd w2 hx2 hg2 hb2=>?_;have k2:=hx1.tr hx2;refine Za<|nl<|Zr<|ASM (κ:=Int) (ν:=SV) fun bm w3 hx3 hg3 hm3=>?_;have k3:=k2.tr hx3;have hb3:=hb2.ext hx3;have hd3:Bx w3 bd 410 ([.slice a1 x0.v.length cq1]++(ABO 0).l.flatMap Flat.enc):=by
  rw[AMk];rw[ARW];exact hb3
 have gd:w0.heap.size<=bd:=Nat.le_trans hx1.size hg2;have gm:w0.heap.size<=bm:=Nat.le_trans k2.size hg3;have hlx:x0.v.length<=maxLen:=by omega
 refine Za<|nl<|wp_seq<|Zr<|Zm<|nl<|ct (fun L w=>∃l:List (Int×SV),Bx w bd 410 ([.slice a1 x0.v.length cq1]++ACy.l.flatMap Flat.enc)/\Wd w0.heap.size w bm bd l (fun k=>if 0<=k/\k<101 then[k]else[])/\L 3=.pointer (some ⟨bd,0,none⟩)/\L 4=.map (some bm)/\Ext w0 w) ?_ ?_
 ·refine wp_block<|lp (I:=fun m L w=>∃(n:Nat)(l:List (Int×SV)),n+m=101/\L 16=.int .i64 (n:Int)/\Bx w bd 410 ([.slice a1 x0.v.length cq1]++(ABO n).l.flatMap Flat.enc)/\Wd w0.heap.size w bm bd l (fun k=>if 0<=k/\k<(n:Int)then[k]else[])/\L 3=.pointer (some ⟨bd,0,none⟩)/\L 4=.map (some bm)/\Ext w0 w) 101
   ⟨0,[],rfl,rfl,hd3,by
    have:=Wd.nil (N:=w0.heap.size) (bd:=bd) hm3;have e:(fun k:Int=>if 0<=k/\k<((0:Nat):Int)then[k]else[])=fun _=>[]:=by funext k;rw[if_neg (by omega)]
    rw[e];exact this,rfl,rfl,k3⟩ ?_
  rintro m L w⟨n,l,hnm,l16,hd,hW,l3,l4,k⟩;refine Zr<|Zv (Jr l16 rfl)<|nl<|wp_seq<|cnd rfl (fun hc=>?_) (fun hc=>?_)
  ·have hn:n<101:=by
      have:((n:Int)<101):=by simpa using hc
      omega
   have hix:ix (ABO n).l (n:Int)=some 0:=by
    have hl:n<(ABO n).l.length:=by rw[(ABO n).h];exact hn
    have hv:(ABO n).l[n]=0:=by simp[ABO]
    simp[ix,List.getElem?_eq_getElem hl,hv]
   have hz:=wR (Cs.last (l1:=[.slice a1 x0.v.length cq1]) (X:=ABO n) (Bx.cs hd)) hix;obtain⟨i0,i1,-⟩:=hz;refine wp_skip<|wp_seq<|wp_block<|Zr<|Zm<|Za<|nl<|Zr<|Zm<|Zm<|Zm<|Zv (XB l3)<|Zv (BH rfl AEX)<|Zv (wJ rfl l16 Tryz.underlying408 Ap i0 i1)<|
    AQz (X:=ABO n) (l1:=[.slice a1 x0.v.length cq1]) (v:=(n:Int)) rfl rfl l16 rfl Ap hd hix fun w4 hch4 hd4=>?_
   have k4:=Ext.chg k hch4 gd;have hW4:=hW.box hd hch4;rw[AOB hn]at hd4;refine nl<|rg<|Zm<|Zm<|Zm<|AAg (r:=[(0,.int .i64 (n:Int))]) (cs:=[.int .i64 (n:Int)]) Tryz.underlying41 Ap rfl (pc l16 pn) rfl rfl rfl rfl rfl fun b5 w5 hx5 hg5 hb5=>?_;have hW5:=hW4.ext hx5;have hd5:=hd4.ext hx5;have k5:=k4.tr hx5;have hbd5:bd<w4.heap.size:=hd4.lt;have gb5:w0.heap.size<=b5:=Nat.le_trans k4.size hg5;refine APc (k:=(n:Int)) (v:=(⟨some ⟨b5,0,none⟩,1,1⟩:SV)) l4 (fvi l16) rfl Tryz.underlying411 kt3 hW5.mp (ALx hn) fun w6 hch6 hm6=>?_;have hd6:=hd5.chgm hch6 hW5.mp;have hW6:=hW5.set (s:=⟨some ⟨b5,0,none⟩,1,1⟩) (la:=[(n:Int)]) (Row.lit (l:=[(n:Int)]) gb5 hb5 rfl (ble rfl)) (fun k _=>hW5.row k) (fun k _ q h1 h2=>by
     have e1:q=b5:=by rw[AJC]at h1;exact(Option.some.inj h1).symm
     have:=((hW4.row k).lt q h2).2;omega) (fun e=>by rw[AJC]at e;cases e;omega) hW5.mp hch6 hm6
   have k6:=Ext.chg k5 hch6 gm;have eg:(fun k:Int=>if k=(n:Int)then[(n:Int)]else if 0<=k/\k<(n:Int)then[k]else[])=fun k=>if 0<=k/\k<((n+1:Nat):Int)then[k]else[]:=by
    funext k
    by_cases e:k=(n:Int)
    ·subst e;rw[if_pos rfl,if_pos ⟨by omega,by omega⟩]
    ·rw[if_neg e]
     by_cases h:0<=k/\k<(n:Int)
     ·rw[if_pos h,if_pos ⟨h.1,by omega⟩]
     ·rw[if_neg h,if_neg (by omega)]
   rw[eg]at hW6;refine nl<|rg<|Zv (FH l16 rfl)<|Zm<|nl<|lq (m-1) (by omega) ⟨n+1,_,by omega,congrArg _ (AD4 (by omega)),hd6,hW6,l3,l4,k6⟩
  ·have hn:n=101:=by
      have:¬((n:Int)<101):=by simpa using hc
      omega
   subst hn;rw[AOA]at hd;exact wp_exit<|lf ⟨l,hd,hW,l3,l4,k⟩
 rintro L w4⟨l0,hd4,hW4,l3,l4,k4⟩;refine wp_seq<|Zr<|Zv (Pv l3)<|Zv (XB rfl)<|Zv (BH rfl ARS)<|Zv (BH rfl ABx)<|Zv (Ac rfl AEH ((Bx.cs hd4).at 0 rfl))<|Zv (DF rfl Tryz.underlying82)<|Zm<|nl<|ct (fun L w=>Bx w bd 410 ([.slice a1 x0.v.length cq1]++cF.l.flatMap Flat.enc)/\L 3=.pointer (some ⟨bd,0,none⟩)/\Ext w0 w) ?_ ?_
 ·refine wp_block<|lp (I:=fun m L w=>∃(i:Nat)(c:Cls)(l:List (Int×SV))(g:Int->List Int),i+m=x0.v.length/\AE4 (x0.v.drop i) c=some cF/\Bx w bd 410 ([.slice a1 x0.v.length cq1]++c.l.flatMap Flat.enc)/\Wd w0.heap.size w bm bd l g/\Ct c g/\
    L 36=.int .i64 (i:Int)/\L 34=.slice a1 x0.v.length cq1/\L 35=.int .i64 (x0.v.length:Int)/\L 3=.pointer (some ⟨bd,0,none⟩)/\L 4=.map (some bm)/\Ext w0 w) x0.v.length
   ⟨0,ACy,l0,_,by omega,hN,hd4,hW4,Ct.first,rfl,rfl,rfl,l3,l4,k4⟩ ?_
  clear l3 l4 hd4 hW4 k4;rintro m L w⟨i,c,l,g,him,hB,hd,hW,hC,l36,l34,l35,l3,l4,k⟩;refine Zr<|Zv (Jr l36 l35)<|nl<|wp_seq<|cnd rfl (fun hc=>?_) (fun hc=>?_)
  ·have hil:i<x0.v.length:=by
      have:(i:Int)<(x0.v.length:Int):=by simpa using hc
      omega
   have hg:x0.v[i]?=some x0.v[i]:=List.getElem?_eq_getElem hil;have hix:ix x0.v (i:Int)=some x0.v[i]:=by simp[ix,hg]
   generalize x0.v[i]=p at hg hix;rw[AGt hg,AE4]at hB;refine bS hB fun p0 E0 hB=>bS hB fun a Ea hB=>bS hB fun p1 E1 hB=>bS hB fun b Eb hB=>bS hB fun _ Ka hB=>bS hB fun _ Kb hB=>?_;have hka:=AA1 Ka;have hkb:=AA1 Kb;have hz:=(RV.els r2).ix hix;obtain⟨b3,f1,cs2,e2,i2,i3,q3,hc1⟩:=hz;cases e2;obtain rfl:=q3;have hc2:=hc1.ext k;refine wp_skip<|wp_seq<|wp_block<|Zr<|Zv (CG l34 l36 Tryz.underlying82 ACq i2 i3)<|Zv (DY rfl ACq (Gi _) hc2)<|zW ACq fun b4 w5 hx5 hg5 hb5=>?_;have hb5':Bx w5 b4 340 (List.flatMap Flat.enc ((Ar.fill 2 0:(Ar 2 Int))).l):=hb5;refine AEi rfl rfl ACq hb5' (Gi _) (Gi _) (AA0 _) fun w6 hch6 hb6=>?_;have kx6:Ext w w6:=hx5.chg hch6 hg5;have k6:=k.tr kx6;have hd6:=hd.ext kx6;have hW6:=hW.ext kx6;have hb6:Bx w6 b4 340 (List.flatMap Flat.enc p.l):=hb6;refine nl<|wp_seq<|wpl [] (.pure true 0 (.pure true 1 (.pure false 2 (.pure true 3 (.pure true 4 (.pure true 5 (.pure false 6 (.pure true 7 (.pure true 8 (.pure false 9 (.pure true 10 (.pure true 11 (.pure true 12 (.pure false 13 (.pure true 14 (.pure true 15 .fin)))))))))))))))) mixed (by kernel_rfl) (fun w7 hx7=>?_);have k7:=k6.tr hx7;have hd7:=hd6.ext hx7;have hW7:=hW6.ext hx7;have hb7:=hb6.ext hx7;have hz:=wR (Bx.cs hb7) E0;obtain⟨u0,u1,hu⟩:=hz;have hz:=wR (Bx.cs hb7) E1;obtain⟨t0,t1,ht⟩:=hz;have hz:=wR (Cs.last (l1:=[.slice (some ⟨b3,f1,none⟩) x0.v.length cq1]) (X:=c) (Bx.cs hd7)) Ea;obtain⟨y0,y1,hy⟩:=hz;have hz:=wR (Cs.last (l1:=[.slice (some ⟨b3,f1,none⟩) x0.v.length cq1]) (X:=c) (Bx.cs hd7)) Eb;obtain⟨s0,s1,hs⟩:=hz;refine Zp rfl (fun _=>Pv l3)<|Zp rfl (fun _=>wJ rfl rfl Tryz.underlying340 Ap u0 u1)<|Zq rfl (fun _ hS=>Ac rfl Ap ((hu.ext (hS.resolve_left nofun)).at 0 rfl)) (Ext.refl _)<|Zp rfl (fun _=>XB rfl)<|Zp rfl (fun _=>BH rfl AEX)<|Zp rfl (fun _=>wJ rfl rfl Tryz.underlying408 Ap y0 y1)<|Zq rfl (fun _ hS=>Ac rfl Ap ((hy.ext (hS.resolve_left nofun)).at 0 rfl)) (Ext.refl _)<|Zp rfl (fun _=>Pv l3)<|Zp rfl (fun _=>wJ rfl rfl Tryz.underlying340 Ap t0 t1)<|Zq rfl (fun _ hS=>Ac rfl Ap ((ht.ext (hS.resolve_left nofun)).at 0 rfl)) (Ext.refl _)<|Zp rfl (fun _=>XB rfl)<|Zp rfl (fun _=>BH rfl AEX)<|Zp rfl (fun _=>wJ rfl rfl Tryz.underlying408 Ap s0 s1)<|Zq rfl (fun _ hS=>Ac rfl Ap ((hs.ext (hS.resolve_left nofun)).at 0 rfl)) (Ext.refl _)<|Zp rfl (fun _=>xas)<|Zp rfl (fun _=>xas)<|wp_seq<|Zr<|Zm<|Zm<|Zv (yB rfl rfl)<|nl<|cnd rfl (fun he=>?_) (fun he=>?_)
   ·have hab:a=b:=by simpa using he
    rw[if_pos hab]at hB;refine wp_exit<|rg<|Zv (FH l36 rfl)<|Zm<|nl<|lq (m-1) (by omega) ⟨i+1,c,l,g,by omega,hB,hd7,hW7,hC,congrArg _ (AD4 (by have:=hlx;unfold maxLen at this;omega)),l34,l35,l3,l4,k7⟩
   ·have hab:a≠b:=by simpa using he
    rw[if_neg hab]at hB;have hz:=RV.sl (hW7.row b).rv;obtain⟨ab,cb,eb,-,-,-⟩:=hz;refine wp_skip<|wp_seq<|Zr<|Zv (Pv l4)<|Zm<|Zv (v:=.slice ab (g b).length cb) (by rw[<-eb];exact AHO (d:=AHq) Tryz.underlying411 kt3 (ASf _) hW7.mp hkb rfl rfl)<|Zv (DF rfl Tryz.underlying41)<|Zm<|nl<|?_;refine ct (fun L w=>∃l':List (Int×SV),Bx w bd 410 ([.slice (some ⟨b3,f1,none⟩) x0.v.length cq1]++(ADT a b c).l.flatMap Flat.enc)/\Wd w0.heap.size w bm bd l' (fun k=>if k=a then g a++g b else g k)/\
     L 9=.int .i64 b/\L 36=.int .i64 (i:Int)/\L 34=.slice (some ⟨b3,f1,none⟩) x0.v.length cq1/\L 35=.int .i64 (x0.v.length:Int)/\L 3=.pointer (some ⟨bd,0,none⟩)/\L 4=.map (some bm)/\Ext w0 w) ?_ ?_
    ·refine wp_block<|lp (I:=fun m L w=>∃(j:Nat)(l':List (Int×SV)),j+m=(g b).length/\Bx w bd 410 ([.slice (some ⟨b3,f1,none⟩) x0.v.length cq1]++(ADU c ((g b).take j) a).l.flatMap Flat.enc)/\Wd w0.heap.size w bm bd l' (fun k=>if k=a then g a++(g b).take j else g k)/\AA7 l' b=.slice ab (g b).length cb/\
      L 8=.int .i64 a/\L 9=.int .i64 b/\L 59=.slice ab (g b).length cb/\L 60=.int .i64 ((g b).length:Int)/\L 61=.int .i64 (j:Int)/\
      L 36=.int .i64 (i:Int)/\L 34=.slice (some ⟨b3,f1,none⟩) x0.v.length cq1/\L 35=.int .i64 (x0.v.length:Int)/\L 3=.pointer (some ⟨bd,0,none⟩)/\L 4=.map (some bm)/\Ext w0 w) (g b).length
      ⟨0,l,by omega,by rw[List.take_zero,APm];exact hd7,by
       have e:(fun k=>if k=a then g a++(g b).take 0 else g k)=g:=by funext k;by_cases q:k=a<;>simp[q]
       rw[e];exact hW7,eb,rfl,rfl,rfl,rfl,rfl,l36,l34,l35,l3,l4,k7⟩ ?_
     clear l36 l34 l35 l3 l4 hd7 hW7 k7 hx7 hb7 hd6 hW6 k6 kx6 hb6 hch6 hb5' hb5 hx5 hg5 hd hW k hc2 hu ht hy hs eb;rintro m2 L w⟨j,l',hjm,hd,hW,eb,l8,l9,l59,l60,l61,l36,l34,l35,l3,l4,k⟩;refine Zr<|Zv (Jr l61 l60)<|nl<|wp_seq<|cnd rfl (fun hc2=>?_) (fun hc2=>?_)
     ·have hjl:j<(g b).length:=by
         have:(j:Int)<((g b).length:Int):=by simpa using hc2
         omega
      have hgj:(g b)[j]?=some (g b)[j]:=List.getElem?_eq_getElem hjl;have hixj:ix (g b) (j:Int)=some (g b)[j]:=by simp[ix,hgj]
      have hmem:(g b)[j]∈g b:=List.getElem_mem _;have htk:(g b).take (j+1)=(g b).take j++[(g b)[j]]:=by rw[List.take_add_one,hgj];rfl
      generalize(g b)[j]=n at hgj hixj hmem htk;obtain⟨hn0,hn1⟩:=hC.rng b n hmem;have hrb:RV w (.slice ab (g b).length cb) (g b):=by
       have:=(hW.row b).rv;rw[eb,if_neg (Ne.symm hab)]at this;exact this
      have hz:=(RV.els hrb).ix hixj;obtain⟨b8,f8,cs8,e8,i8,i9,q8,hc8⟩:=hz;cases e8;obtain rfl:=q8;refine wp_skip<|wp_seq<|wp_block<|Zr<|Zv (CG l59 l61 Tryz.underlying41 Ap i8 i9)<|Zv (Ac rfl Ap (hc8.at 0 rfl))<|Za<|nl<|Zr<|Zv (Pv l3)<|Zm<|Zm<|Zv (XB rfl)<|Zv (BH rfl AEX)<|?_;have hixn:∃y,ix (ADU c ((g b).take j) a).l n=some y:=by
       have hl:n.toNat<(ADU c ((g b).take j) a).l.length:=by rw[(ADU c ((g b).take j) a).h];omega
       refine⟨(ADU c ((g b).take j) a).l[n.toNat],?_⟩;unfold ix;rw[if_pos (by omega)];exact List.getElem?_eq_getElem hl
      obtain⟨y,hixn⟩:=hixn;have hz:=wR (Cs.last (l1:=[.slice (some ⟨b3,f1,none⟩) x0.v.length cq1]) (X:=ADU c ((g b).take j) a) (Bx.cs hd)) hixn;obtain⟨n0,n1,-⟩:=hz;refine Zv (wJ rfl rfl Tryz.underlying408 Ap n0 n1)<|AQz (X:=ADU c ((g b).take j) a) (l1:=[.slice (some ⟨b3,f1,none⟩) x0.v.length cq1]) (v:=a) rfl rfl l8 rfl Ap hd hixn fun w9 hch9 hd9=>?_;rw[AN9 hn0,<-htk]at hd9;have k9:=Ext.chg k hch9 gd;have hW9:=hW.box hd hch9;have hz:=RV.sl (hW9.row a).rv;obtain⟨aa,ca,ea,-,-,-⟩:=hz;rw[if_pos rfl]at ea;refine nl<|rg<|Zv (Pv l4)<|Zv (Pv l8)<|Zv (Pv l4)<|Zv (Pv l8)<|Zv (v:=AA7 l' a) (AHO (d:=AHq) Tryz.underlying411 kt3 (ASf _) hW9.mp hka rfl rfl)<|Zm<|AAg (r:=[(0,.int .i64 n)]) (cs:=[.int .i64 n]) Tryz.underlying41 Ap rfl (pc rfl pn) rfl rfl rfl rfl rfl fun b10 w10 hx10 hg10 hb10=>?_;have hW10:=hW9.ext hx10;have hd10:=hd9.ext hx10;have k10:=k9.tr hx10;have gb10:w0.heap.size<=b10:=Nat.le_trans k9.size hg10;have hlit:Row (α:=Int) 3 w0.heap.size w10 (.slice (some ⟨b10,0,none⟩) 1 1) [n]:=Row.lit (l:=[n]) gb10 hb10 rfl (ble rfl);have hra:Row 3 w0.heap.size w10 (AA7 l' a) (g a++(g b).take j):=by
       have:=hW10.row a;rw[if_pos rfl]at this;exact this
      have happ:app 8 (g a++(g b).take j) [n]=some (g a++(g b).take (j+1)):=by
       have h1:=hC.len a;have h2:=hC.len b;have h3:((g b).take j).length<=(g b).length:=List.length_take_le' _ _;unfold app;rw[if_pos (by simp only[List.length_append,List.length_singleton];omega),htk,List.append_assoc]
      refine AFK (k:=[n]) rfl rfl Tryz.underlying41 Ap rfl rfl hra hlit.rv.els happ k10.size fun v11 w11 hrow11 hbel11 hgr11 ho11=>?_;have k11:Ext w0 w11:=k10.trans hbel11;have hz:=RV.sl hrow11.rv;obtain⟨a11,c11,e11,-,-,-⟩:=hz;have hm11:=hW10.mp.grr hgr11 hra;have e12:v11=fv (⟨a11,(g a++(g b).take (j+1)).length,c11⟩:SV):=e11;refine APc (k:=a) (v:=(⟨a11,(g a++(g b).take (j+1)).length,c11⟩:SV)) rfl rfl e12 Tryz.underlying411 kt3 hm11 hka fun w12 hch12 hm12=>?_;have hd11:Bx w11 bd 410 _:=hd10.gr hgr11 (hW10.out a);have hd12:=hd11.chgm hch12 hm11;have k12:=Ext.chg k11 hch12 gm;have hW12:=hW10.app (s:=⟨a11,(g a++(g b).take (j+1)).length,c11⟩) (la:=g a++(g b).take (j+1)) (by rw[e11]at hrow11;exact hrow11) hgr11 (by rw[e11]at ho11;exact ho11) hd10.lt hch12 hm12;have eg:(fun k=>if k=a then g a++(g b).take (j+1)else(fun k=>if k=a then g a++(g b).take j else g k) k)=fun k=>if k=a then g a++(g b).take (j+1)else g k:=by
       funext k;by_cases q:k=a<;>simp[q]
      rw[eg]at hW12;refine nl<|rg<|Zv (FH l61 rfl)<|Zm<|nl<|lq (m2-1) (by omega) ⟨j+1,_,by omega,hd12,hW12,by unfold AA7;rw[AE5,if_neg (Ne.symm hab)];exact eb,l8,l9,l59,l60,congrArg _ (AD4 (by have:=hC.len b;omega)),l36,l34,l35,l3,l4,k12⟩
     ·have hjl:j=(g b).length:=by
         have:¬(j:Int)<((g b).length:Int):=by simpa using hc2
         omega
      rw[hjl,List.take_length]at hW;rw[hjl,List.take_length,APn hC]at hd;exact wp_exit<|lf ⟨l',hd,hW,l9,l36,l34,l35,l3,l4,k⟩
    clear l36 l34 l35 l3 l4 hd7 hW7 k7 hx7 hb7 hd6 hW6 k6 kx6 hb6 hch6 hb5' hb5 hx5 hg5 hd hW k hc2 hu ht hy hs eb;rintro L w⟨l',hd,hW,l9,l36,l34,l35,l3,l4,k⟩;refine rg<|Zv (Pv l4)<|Zv (Pv l9)<|AWA (k:=b) rfl rfl Tryz.underlying411 kt3 hW.mp hkb fun w13 hch13 hm13=>?_;have hd13:=hd.chgm hch13 hW.mp;have hW13:=hW.del hch13 hm13;have k13:=Ext.chg k hch13 gm;refine nl<|rg<|Zv (FH l36 rfl)<|Zm<|nl<|lq (m-1) (by omega) ⟨i+1,ADT a b c,_,_,by omega,hB,hd13,hW13,hC.join hab,congrArg _ (AD4 (by have:=hlx;unfold maxLen at this;omega)),l34,l35,l3,l4,k13⟩
  ·have hil:i=x0.v.length:=by
      have:¬(i:Int)<(x0.v.length:Int):=by simpa using hc
      omega
   rw[hil,List.drop_length,AE4]at hB;cases hB;exact wp_exit<|lf ⟨hd,l3,k⟩
 rintro L w⟨hd,l3,k⟩;refine Zr<|Zv (Pv l3)<|Za<|nl<|wp_ret<|Zw rfl rfl rfl ⟨_,rfl,AQx (Bx.cs hd) rfl ⟨[.slice a1 x0.v.length cq1],_,rfl,(r2.ext k).rep1,rfl⟩,k⟩
end Go.Proofs.YtfmelbioccbdoaaGreat
end
section
namespace Go.Md
open Go Go.RowKit
section
def AKD(P:Program)(Kp:World->World->Prop)(Pr:World->Nat->Prop)(m:Nat)(g:FuncId)(cs:Array Value)(us:List (Array Value))(w:World):Prop:=
 ∀(l:Nat)(J:Nat->World->Prop)(Jx:World->Prop)(W:World),Ext w W->(∀k A B,J k A->Ext A B->J k B)->(∀A B,Jx A->Ext A B->Jx B)->
  (∀k A B q,W.heap.size<=q->Pr A q->J k A->Chg q A B->J k B)->
  (∀k u A,us[k]?=some u->J k A->YieldAt Fence.wide (m-1) P l u A fun e B=>
   (e=.returned (.bool true)/\J (k+1) B/\Kp A B)\/(e=.returned (.bool false)/\Jx B))->
  J 0 W->CallsIn Fence.wide m P g (#[.func (.yield l) #[] #[]]++cs) W fun e B=>(∃v,e=.returned v)/\(J us.length B\/Jx B)
section
variable {P:Program}{Q:Exit->Act->World->Prop}{m n:Nat}{L:Fr}{D:List Deferred}{w:World}
theorem ASg{Pr:World->Nat->Prop}{g:Operand}{ps:List Nat}{assign body:Code}{gf:FuncId}{cs:Array Value}{us:List (Array Value)}{Kp:World->World->Prop}(hm:1<=m)(hKp:KpOk w.heap.size Kp)
  (hg:ev n L g=.func (.func gf) #[] cs) (hc:Ad P gf) (hseq:AKD P Kp Pr (m-1) gf cs us w) (hps:∀u∈us,u.size=ps.length)
  (I:Nat->World->Prop) (Ix:Code->World->Prop) (hI:∀k,Okb w.heap.size (I k)) (hIx:∀c,Okb w.heap.size (Ix c)) (hIq:∀k A C q,w.heap.size<=q->Pr A q->I k A->Chg q A C->I k C) (h0:I 0 w)
  (hround:∀(l k:Nat)(u:Array Value)(A:World)(K:Act->World->Prop),w.heap.size<l->us[k]?=some u->I k A->
   (∀a' W,Ext A W->(∀W2 o,W.heap[l]?=some o->o.isCells=false->(∀ds,o≠.deferred ds)->Chg l W W2->body.wpIn (RF l) (m-1-1) P (AHm w.heap.size Kp (I (k+1)) Ix W2) a' W2)->K a' W)->
   assign.wpIn (RF l) (m-1-1) P (Exit.then K (fun _ _ _=>False)) (act n ((ps.zip u.toList).foldl (fun L(p,v)=>upd L p v) L) []) A)
  (hdone:∀D' W,w.heap.size<=D'->I us.length W->W.heap[D']?=some (.deferred (some []))->Q .normal (act n L ({target:=.collected D',args:=#[]}::D)) W)
  (hstop:∀D' c W,w.heap.size<=D'->Ix c W->W.heap[D']?=some (.deferred (some []))->c.wp P Q (act n L ({target:=.collected D',args:=#[]}::D)) W):
  (Code.rangeFunc g ps.toArray assign body).wp P Q (act n L D) w:=by
 refine(wpIn_wide (n:=m)).1 (wpIn_rangeFunc fun fn hfn=>?_);generalize hrec:(fun(st:LoopState)(pe:Option Code)=>({state:=st,pending:=pe,fn:=fn,tmps:=(act n L D).tmps,params:=ps.toArray,assign:=assign,body:=body,defers:=w.heap.size}:Loop))=rec;have hrec':∀st pe,rec st pe={state:=st,pending:=pe,fn:=fn,tmps:=(act n L D).tmps,params:=ps.toArray,assign:=assign,body:=body,defers:=w.heap.size}:=fun st pe=>by rw[<-hrec]
 generalize hB:w.heap.size=B at*
 have hx1:Ext w (w.alloc (.deferred (some []))):=Ext.alloc _ _;have hx2:=hx1.tr (Ext.alloc (w.alloc (.deferred (some []))) (.loop (rec .ready none)));have hL1:((w.alloc (.deferred (some []))).alloc (.loop (rec .ready none))).heap[B+1]?=some (.loop (rec .ready none)):=by
  have:=World.alloc_heap_new (w.alloc (.deferred (some []))) (.loop (rec .ready none));rwa [World.size_alloc,hB]at this
 have hK1:((w.alloc (.deferred (some []))).alloc (.loop (rec .ready none))).heap[B]?=some (.deferred (some [])):=by
  have:=World.alloc_heap_new w (.deferred (some []));rw[hB]at this;exact((Ext.alloc (w.alloc (.deferred (some []))) (.loop (rec .ready none))).block B (by simp[hB])).trans this
 have hsz1:((w.alloc (.deferred (some []))).alloc (.loop (rec .ready none))).heap.size=B+2:=by rw[World.size_alloc,World.size_alloc,hB]
 generalize hW1:(w.alloc (.deferred (some []))).alloc (.loop (rec .ready none))=W1 at*
 refine⟨B+1,[{target:=.collected B,args:=#[]}],W1,{target:=.fn (.func gf) cs,args:=#[.func (.yield (B+1)) #[] #[]]},W1,gf,#[.func (.yield (B+1)) #[] #[]]++cs,W1,?_,?_,?_,?_,fun _=>hm,?_⟩
 ·rw[show Fence.wide.round=none from rfl,run_enterLoop_outer,hB,<-hrec',hW1]
 ·simp only[yZ,resolve,Deferred.ofValue,hg]
  simp[ev]
 ·intro f' _
  exact trivial
 ·simp[invoke,ADL hc]
 refine(hseq (B+1) (fun k A=>I k A/\A.heap[B+1]?=some (.loop (rec .ready none))/\A.heap[B]?=some (.deferred (some [])))
  (fun A=>∃c,Ix c A/\A.heap[B+1]?=some (.loop (rec .done (some c)))/\A.heap[B]?=some (.deferred (some []))) W1 hx2
  (fun k A C h e=>⟨(hI k).ext h.1 e,(e.block _ (Array.getElem?_eq_some_iff.1 h.2.1).1).trans h.2.1,(e.block _ (Array.getElem?_eq_some_iff.1 h.2.2).1).trans h.2.2⟩)
  (fun A C⟨c,h1,h2,h3⟩ e=>⟨c,(hIx c).ext h1 e,(e.block _ (Array.getElem?_eq_some_iff.1 h2).1).trans h2,(e.block _ (Array.getElem?_eq_some_iff.1 h3).1).trans h3⟩)
  (fun k A C q hq hp⟨h1,h2,h3⟩ hc=>⟨hIq k A C q (by omega) hp h1 hc,(hc.other _ (by omega)).trans h2,(hc.other _ (by omega)).trans h3⟩)
  ?_ ⟨(hI 0).ext h0 hx2,hL1,hK1⟩).mono ?_
 ·rintro k u A hu⟨hi,hl,hk⟩;have hy:=run_yield (P:=P) (args:=u) hl (by rw[hrec'];simpa using hps u (List.mem_of_getElem? hu));rw[hrec']at hy;refine⟨fn,_,assign,body,hy,roundIn_of_wpIn hfn ?_⟩;have hact:({tmps:=((ps.toArray.zip u).foldl (fun t(p,v)=>t.setIfInBounds p v) (act n L D).tmps),defers:=[]}:Act)=act n ((ps.zip u.toList).foldl (fun L(p,v)=>upd L p v) L) []:=by
   have:=AI5 (n:=n) (D:=D) (ps:=ps) (vs:=u.toList) L;rw[<-Array.foldl_toList,Array.toList_zip];simp only at this⊢;rw[this]
   rfl
  refine(congrArg (fun q=>Code.wpIn (RF (B+1)) (m-1-1) P assign _ q A) hact).mpr ?_;refine hround (B+1) k u A _ (Nat.lt_succ_self _) hu hi fun a' W hAW hbd=>?_;have hl1:=(hAW.block _ (Array.getElem?_eq_some_iff.1 hl).1).trans hl;have hk1:=(hAW.block _ (Array.getElem?_eq_some_iff.1 hk).1).trans hk;refine⟨_,run_beginRound hl1 (by rw[hrec']),?_⟩;obtain⟨c1,c2⟩:=AGK (o':=.loop {rec .ready none with state:=.busy}) hl1;have hk2:=(c1.other B (by omega)).trans hk1;generalize hW2:W.putObj (B+1) (.loop {rec .ready none with state:=.busy})=W2 at*
  refine wpIn_mono (hbd W2 _ hl1 rfl nofun c1) ?_;have fin:∀(jump:Option Code)(W3:World),KeepsFrom B W2 W3->(Instr.endRound (B+1) jump).run P W3=.ok (.bool jump.isNone) (W3.putObj (B+1) (.loop (rec (if jump.isNone then .ready else .done) jump)))/\
    W3.heap[B+1]?=some (.loop {rec .ready none with state:=.busy})/\Chg (B+1) W3 (W3.putObj (B+1) (.loop (rec (if jump.isNone then .ready else .done) jump)))/\
    (W3.putObj (B+1) (.loop (rec (if jump.isNone then .ready else .done) jump))).heap[B+1]?=some (.loop (rec (if jump.isNone then .ready else .done) jump))/\
    (W3.putObj (B+1) (.loop (rec (if jump.isNone then .ready else .done) jump))).heap[B]?=some (.deferred (some [])):=fun jump W3 hk3=>by
   have hl3:=hk3.same _ _ (by omega) c2 rfl;have hd3:=hk3.same _ _ (Nat.le_refl _) hk2 rfl;have he:=run_endRound (P:=P) jump hl3;obtain⟨e1,e2⟩:=AGK (o':=.loop (rec (if jump.isNone then .ready else .done) jump)) hl3;refine⟨?_,hl3,e1,e2,(e1.other B (by omega)).trans hd3⟩;simp only[hrec']at he⊢;exact he
  rintro e a3 W3 hp;cases e with
  |normal=>
   obtain⟨hk3,hb3,hi3⟩:=hp;obtain⟨hr,hl3,e1,hl4,hd4⟩:=fin none W3 hk3;have hBA:B<=A.heap.size:=Nat.le_of_lt (Nat.lt_of_succ_lt (Array.getElem?_eq_some_iff.1 hl).1);exact⟨_,_,hr,.inl ⟨rfl,⟨(hI (k+1)).put hi3 (by omega) hl3 rfl e1,hl4,hd4⟩,hKp.trans (hKp.ext hBA hAW) (hKp.trans (hKp.put (by omega) hl1 c1) (hKp.trans hb3 (hKp.put (by omega) hl3 e1)))⟩⟩
  |ret=>
   obtain⟨hk3,hi3⟩:=hp;obtain⟨hr,hl3,e1,hl4,hd4⟩:=fin (some .ret) W3 hk3;exact⟨_,_,hr,.inr ⟨rfl,.ret,(hIx _).put hi3 (by omega) hl3 rfl e1,hl4,hd4⟩⟩
  |exit id=>
   obtain⟨hk3,hi3⟩:=hp;obtain⟨hr,hl3,e1,hl4,hd4⟩:=fin (some (.exit id)) W3 hk3;exact⟨_,_,hr,.inr ⟨rfl,.exit id,(hIx _).put hi3 (by omega) hl3 rfl e1,hl4,hd4⟩⟩
  |goto t=>exact hp.elim
  |panic ch=>exact hp.elim
  |outgrown=>exact hp.elim
 ·rintro e W2⟨⟨v,rfl⟩,⟨hi,hl,hk⟩|⟨c,hi,hl,hk⟩⟩
  ·obtain⟨e1,_⟩:=AGK (o':=.loop {rec .ready none with state:=.exhausted}) hl
   exact⟨none,_,by have:=run_endLoop (P:=P) hl (by rw[hrec'];simp);simpa only[hrec']using this,hdone B _ (Nat.le_refl _) ((hI _).put hi (by omega) hl rfl e1) ((e1.other B (by omega)).trans hk)⟩
  ·obtain⟨e1,_⟩:=AGK (o':=.loop {rec .done (some c)with state:=.exhausted}) hl
   exact⟨some c,_,by have:=run_endLoop (P:=P) hl (by rw[hrec'];simp);simpa only[hrec']using this,wpIn_wide.2 (hstop B c _ (Nat.le_refl _) ((hIx c).put hi (by omega) hl rfl e1) ((e1.other B (by omega)).trans hk))⟩
theorem ARX{Pr:World->Nat->Prop}{α:Type}[Enc α][Flat α]{g:Operand}{p d id T bytes k':Nat}{agg:Bool}{z:List Value}{body:Code}{xs:List α}{Kp:World->World->Prop}{v:Value}{pos pos':String}{ty ty':TypeId}{af af':Array Edge}{m:Nat}(hm:8<=m)(hg:ev n L g=v)(hKp:KpOk w.heap.size Kp)(hs:∃gf cs,v=.func (.func gf) #[] cs/\Ad P gf/\AKD P Kp Pr (m-1) gf cs (xs.map fun x=>#[fv x]) w)(hp:Nat.blt p n=true)(hd:Nat.blt d n=true)(hpd:Nat.beq p d=false)
  (hT:TI P T agg k' bytes z) (hk':k'=Enc.n α)
  (I:Nat->World->Prop) (Ix:Code->World->Prop) (hI:∀k,Okb w.heap.size (I k)) (hIx:∀c,Okb w.heap.size (Ix c)) (hIq:∀k A C q,w.heap.size<=q->Pr A q->I k A->Chg q A C->I k C) (h0:I 0 w)
  (hround:∀(l k:Nat)(x:α)(A W:World)(b:Nat),xs[k]?=some x->I k A->Asg w.heap.size A W->A.heap.size<=b->w.heap.size<=b->Bx W b T (Flat.enc x)->
   body.wpIn (RF l) (m-2) P (AHm w.heap.size Kp (I (k+1)) Ix W) (act n (upd (upd L p (fv x)) d (.pointer (some ⟨b,0,none⟩))) []) W)
  (hsz:∀k A,I k A->w.heap.size<=A.heap.size)
  (hdone:∀D' W,w.heap.size<=D'->I xs.length W->W.heap[D']?=some (.deferred (some []))->Q .normal (act n L ({target:=.collected D',args:=#[]}::D)) W)
  (hstop:∀D' c W,w.heap.size<=D'->Ix c W->W.heap[D']?=some (.deferred (some []))->c.wp P Q (act n L ({target:=.collected D',args:=#[]}::D)) W):
  (Code.rangeFunc g #[p] (.region id #[{dst:=some d,op:=.alloc T,type:=ty,pos:=pos,after:=af,guard:=none},{dst:=none,op:=.store T (.tmp d) (.tmp p),type:=ty',pos:=pos',after:=af',guard:=none}] false) body).wp P Q (act n L D) w:=by
 obtain⟨gf,cs,rfl,hc,hs⟩:=hs;refine ASg (m:=m) (ps:=[p]) (by omega) hKp hg hc hs (fun u hu=>by obtain⟨x,_,rfl⟩:=List.mem_map.1 hu;rfl) I Ix hI hIx hIq h0 (fun l k u A K hl hu hi hK=>?_) (fun D' W h1 h2 h3=>hdone D' W h1 (by rwa [List.length_map]at h2) h3) hstop;rw[List.getElem?_map]at hu;obtain⟨x,hx,rfl⟩:=Option.map_eq_some_iff.1 hu;have hzl:=hT.zlen;refine rgR rfl<|zW hT fun b w1 hx1 hg1 hb1=>?_;have e1:ev n (upd (upd L p (fv x)) d (.pointer (some ⟨b,0,none⟩))) (.tmp d)=.pointer (some ⟨b,0,none⟩):=by simp[ev,hd,upd]
 have e2:ev n (upd (upd L p (fv x)) d (.pointer (some ⟨b,0,none⟩))) (.tmp p)=fv x:=by
  simp only[ev,hp,upd,cond_true,hpd,cond_false];simp
 refine sst e1 e2 (AHP x) hT hb1 (by rw[Flat.len,hk']) (List.all_eq_true.2 (Flat.one x)) (by rw[Flat.len,<-hk',hzl];omega) fun w2 hch hb2=>nl<|hK _ w2 (hx1.chg hch hg1) fun W2 o ho hc2 hnd hc3=>?_;have hb3:Bx w2 b T (Flat.enc x):=by
  have:X9 z 0 (Flat.enc x)=Flat.enc x:=by simp[X9,Flat.len,<-hk',<-hzl]
  rwa [this]at hb2
 exact hround l k x A W2 b hx hi ⟨w2,l,o,by omega,hx1.chg hch hg1,ho,hc2,hnd,hc3⟩ hg1 (Nat.le_trans (hsz k A hi) hg1) (hb3.putne ho hc2 hc3)
end
end
end Go.Md
end
