/-
  Part 1 of 14 of what the last text stands on: lemmas about the model, pure functions, walks, laws in plain Lean; each part's own head says its condition. Merged by a program of our own.
-/
import Derived.Orders
import Derived.Laws.World
import Derived.Below
import Derived.Laws.AppendOwn
import Derived.Laws.Cells
import Derived.Laws.CopyRow
import Derived.Laws.Tables
import Derived.Laws.Small
import Derived.Laws.Rows
import Derived.Laws.ByValue
import Derived.KernelRfl
import Derived.Tactics
import Derived.Great.FillDense
import Derived.Laws.OwnMore
import Derived.Laws.MakeOwn
import Derived.Laws.CopyOwn
import Derived.ChangeKeysEq
import Derived.Test.YtfmelbioccbdoaaGreatChecked
import Derived.ArgAppend
import Derived.RangeFuncCalls
import Derived.OrdersIn
import Derived.Maps.OwnIn
import Derived.RangeFuncNested
import Derived.RangeFuncLeaves
import Derived.ChangeSame
import Derived.Carry
import Derived.WalkKit
import Derived.ProofKit
import Derived.OpenShut
import Derived.Scope
set_option maxHeartbeats 0
set_option linter.all false
section
namespace Go.Md
open Go
section
section
variable {P:Program}{ops:Array Oper}{S:World->Prop}{T:List Nat}
inductive Plan where
 |stop
 |fin
 |pure (any:Bool) (i:Nat) (p:Plan)
 |eff (i:Nat) (p more:Plan)
def noQ:Exit->Act->World->Prop:=fun _ _ _=>False
def opC(P:Program)(ops:Array Oper)(S:World->Prop)(T:List Nat)(j:Nat)(K:Act->World->Prop)(a:Act)(w:World):Prop:=
 wpOp P ops noQ j (fun a' w'=>(j∉T->S w->S w')/\K a' w') a w
def YldC(P:Program)(ops:Array Oper)(S:World->Prop)(any:Bool)(o:Oper)(v:Value)(a:Act):Prop:=
 (Region.wanted o (yielded ops a.tmps)=true/\∀w,(any=true\/S w)->(execOp a.eval o).run P w=.ok (.value v) w)\/
 (Region.wanted o (yielded ops a.tmps)=false/\v=undef)
theorem YldC.of_same{any:Bool}{o:Oper}{v:Value}{a a':Act}(hy:YldC P ops S any o v a)(he:execOp a'.eval o=execOp a.eval o)
  (hw:Region.wanted o (yielded ops a'.tmps)=Region.wanted o (yielded ops a.tmps)):YldC P ops S any o v a':=by
 unfold YldC at*
 rw[he,hw];exact hy
theorem YldC.opC{any:Bool}{i:Nat}{o:Oper}{v:Value}{a:Act}{w:World}(hi:ops[i]?=some o)(hy:YldC P ops S any o v a)(hS:any=true\/S w)
  {K:Act->World->Prop} (h:K (a.put o.dst v) w):opC P ops S T i K a w:=by
 unfold Md.opC Go.wpOp;simp only[hi];rcases hy with⟨hw,hv⟩|⟨hw,rfl⟩
 ·simp only[hw,if_true,Oper.wp,hv w hS,Oper.upon];exact .inl ⟨fun _ h=>h,h⟩
 ·simp only[hw,Bool.false_eq_true,if_false];exact⟨fun _ h=>h,h⟩
def AEh(P:Program)(ops:Array Oper)(S:World->Prop)(T:List Nat)(Q:Act->World->Prop):Nat->Array Bool->Act->World->Prop
 |0,listed,a,w=>Region.ready .any ops listed=[]/\Q a w
 |fuel+1,listed,a,w=>
  (Region.ready .any ops listed=[]->Q a w)/\
  ∀i∈Region.ready .any ops listed,opC P ops S T i (AEh P ops S T Q fuel (listed.setIfInBounds i true)) a w
theorem ANf{Q:Exit->Act->World->Prop}{i:Nat}{K K':Act->World->Prop}{a:Act}{w:World}(hk:∀a w,K a w->K' a w)(h:wpOp P ops noQ i K a w):wpOp P ops Q i K' a w:=by
 unfold wpOp at*
 split
 ·exact hk _ _ (by simpa[*]using h)
 ·rename_i o ho
  simp only[ho]at h;split
  ·rename_i hw
   simp only[hw,if_true]at h;rcases h with h|⟨_,_,_,h⟩
   case inr=>exact h.elim
   refine .inl ?_;unfold Oper.wp at*
   generalize(execOp a.eval o).run P w=r at*
   cases r with
   |ok n w'=>
    cases n<;>simp only[Oper.upon]at h⊢<;>
     first
      |exact hk _ _ h
      |exact Calls.mono h (fun e w'' he=>by cases e<;>first|exact hk _ _ he|exact he.elim|(obtain⟨_,_,he⟩:=he;exact he.elim))
      |exact Rows.mono h (fun _ _ he=>hk _ _ he)
   |halt x w'=>cases x<;>simp only[Oper.upon]at h⊢;exact h.elim
  ·rename_i hw;simp only[hw]at h;exact hk _ _ h
theorem AE4{Q:Exit->Act->World->Prop}:∀(fuel:Nat)(listed:Array Bool)(a:Act)(w:World),AEh P ops S T (Q .normal) fuel listed a w->wpAny P .any ops Q fuel listed a w
 |0,_,_,_,h=>h
 |fuel+1,_,_,_,h=>⟨h.1,fun i hi=>ANf (fun a' w' h'=>AE4 fuel _ a' w' h'.2) (h.2 i hi)⟩
def ADn(ops:Array Oper):Nat->Nat->Nat->Bool
 |0,_,_=>false
 |f+1,i,j=>
  match ops[j]? with
  |some o=>(o.after.any fun e=>Region.binds .any e&&e.on==i)||o.after.any fun e=>Region.binds .any e&&ADn ops f i e.on
  |none=>false
def ClosedL(ops:Array Oper)(l:Array Bool):Prop:=
 ∀(k:Nat)(o:Oper),ops[k]?=some o->l.getD k false=true->∀e∈o.after,Region.binds .any e=true->l.getD e.on false=true
theorem AE5{l:Array Bool}{i:Nat}(hc:ClosedL ops l)(hi:l.getD i false≠true):
  ∀(f j:Nat),(∀o,ops[j]?=some o->∀e∈o.after,Region.binds .any e=true->l.getD e.on false=true)->ADn ops f i j=false
 |0,_,_=>rfl
 |f+1,j,h=>by
  unfold ADn;split
  ·rename_i o ho
   simp only[Bool.or_eq_false_iff];refine⟨?_,?_⟩
   ·refine Bool.eq_false_iff.2 fun hh=>?_
    obtain⟨e,he,hb⟩:=Array.any_eq_true'.1 hh;simp only[Bool.and_eq_true,beq_iff_eq]at hb;exact hi (hb.2▸h o ho e he hb.1)
   ·refine Bool.eq_false_iff.2 fun hh=>?_
    obtain⟨e,he,hb⟩:=Array.any_eq_true'.1 hh;simp only[Bool.and_eq_true]at hb;have h1:=h o ho e he hb.1;have:=AE5 hc hi f e.on (fun o' ho'=>hc e.on o' ho' h1);rw[this]at hb;exact Bool.noConfusion hb.2
  ·rfl
theorem ClosedL.set{l:Array Bool}{j:Nat}{o:Oper}(hc:ClosedL ops l)(ho:ops[j]?=some o)(h:∀e∈o.after,Region.binds .any e=true->l.getD e.on false=true):
  ClosedL ops (l.setIfInBounds j true):=fun k ok hk hl e he hb=>by
 refine getD_set_true ?_;by_cases hjk:j=k
 ·subst hjk
  rw[ho]at hk;cases hk;exact h e he hb
 ·rw[getD_set_ne false hjk]at hl
  exact hc k ok hk hl e he hb
theorem ClosedL.ready{l:Array Bool}{j:Nat}(hc:ClosedL ops l)(h:j∈Region.ready .any ops l):ClosedL ops (l.setIfInBounds j true):=by
 obtain⟨_,o,ho,hall⟩:=mem_ready.1 h;exact hc.set ho hall
theorem ClosedL.none{n:Nat}:ClosedL ops (Array.replicate n false):=fun k o _ hl=>by
 simp only[Array.getD_eq_getD_getElem?,Array.getElem?_replicate]at hl;split at hl<;>cases hl
theorem AKL{l:Array Bool}{i:Nat}(h:l.getD i true=false):l.getD i false≠true:=by
 simp only[Array.getD_eq_getD_getElem?]at*
 cases hh:l[i]? with
 |none=>rw[hh]at h;cases h
 |some b=>rw[hh]at h;simp at h;simp[h]
theorem APX{any:Bool}{j:Nat}{oi oj:Oper}{v:Value}(hj:ops[j]?=some oj)(hap:oi.apart ops oj=true)
  (hsi:∀cs b,oi.op≠.select cs b) (hsj:∀cs b,oj.op≠.select cs b) {K:Act->World->Prop} {a:Act} {w:World}
  (hy:YldC P ops S any oi v a) (h:opC P ops S T j K (a.put oi.dst v) w):
  opC P ops S T j (fun a' w'=>YldC P ops S any oi v a'/\K (a'.put oi.dst v) w') a w:=by
 obtain⟨h1,h2,h3⟩:=Oper.apart_spec hap;have keep:∀(a:Act),YldC P ops S any oi v a->∀u,YldC P ops S any oi v (a.put oj.dst u):=fun a hy u=>
  hy.of_same (execOp_put oi hsi a oj.dst u h3) (wanted_put oi a oj.dst u h3)
 have keepD:∀d,YldC P ops S any oi v {a with defers:=d::a.defers}:=fun d=>hy.of_same rfl rfl;unfold opC wpOp at*
 simp only[hj]at*
 rw[wanted_put oj a oi.dst v h1]at h;split
 ·rename_i hw
  simp only[hw,if_true]at h;rcases h with h|⟨_,_,_,h⟩
  case inr=>exact h.elim
  refine .inl ?_;unfold Oper.wp at*
  rw[execOp_put oj hsj a oi.dst v h1]at h;generalize(execOp a.eval oj).run P w=r at*
  cases r with
  |ok n w'=>
   cases n<;>simp only[Oper.upon]at h⊢
   case value u=>exact⟨h.1,keep a hy u,by rw[<-Act.put_comm a v u h2];exact h.2⟩
   case skip=>exact⟨h.1,keep a hy _,by rw[<-Act.put_comm a v undef h2];exact h.2⟩
   case defer d=>
    refine⟨h.1,keep _ (keepD d) _,?_⟩;rw[<-Act.put_comm _ v undef h2,<-Act.put_defers];exact h.2
   case enter f args=>
    refine Calls.mono h fun e w'' he=>?_;cases e with
    |returned u=>exact⟨he.1,keep a hy u,by rw[<-Act.put_comm a v u h2];exact he.2⟩
    |panicked c=>exact he
    |outgrown=>exact he
   case row row args=>exact Rows.mono h fun u w'' he=>⟨he.1,keep a hy u,by rw[<-Act.put_comm a v u h2];exact he.2⟩
  |halt x w'=>
   cases x<;>simp only[Oper.upon]at h⊢
   case panic u=>exact h
 ·rename_i hw
  simp only[hw]at h;exact⟨h.1,keep a hy _,by rw[<-Act.put_comm a v undef h2];exact h.2⟩
theorem AE6{j:Nat}{K K':Act->World->Prop}{a:Act}{w:World}(hk:∀a' w',(j∉T->S w->S w')->K a' w'->K' a' w')(h:opC P ops S T j K a w):opC P ops S T j K' a w:=
 wpOp_mono (fun a' w' h'=>⟨h'.1,hk a' w' h'.1 h'.2⟩) h
theorem AI0{any:Bool}{Q:Act->World->Prop}{i:Nat}{oi:Oper}{v:Value}(hi:ops[i]?=some oi)(hsel:∀(j:Nat)(o:Oper)cs b,ops[j]?=some o->o.op≠.select cs b)
  (hT:any=true\/∀j∈T,ADn ops 6 i j=true):
  ∀(fuel:Nat)(listed:Array Bool)(a:Act)(w:World),ClosedL ops listed->
   (∀j oj,ops[j]?=some oj->j≠i->listed.getD j true=false->(∀e∈oj.after,Region.binds .any e=true->e.on≠i)->oi.apart ops oj=true)->
   i∈Region.ready .any ops listed->YldC P ops S any oi v a->(any=true\/S w)->
   AEh P ops S T Q fuel (listed.setIfInBounds i true) (a.put oi.dst v) w->AEh P ops S T Q (fuel+1) listed a w:=by
 intro fuel
 induction fuel with
 |zero=>
  intro listed a w hcl _ hr hy hS H;refine⟨fun h=>(by rw[h]at hr;cases hr),fun j hj=>?_⟩;by_cases hji:j=i
  ·subst hji;exact hy.opC hi hS H
  ·have:=ready_mono hj hji
   rw[H.1]at this;cases this
 |succ fuel ih=>
  intro listed a w hcl hfree hr hy hS H;refine⟨fun h=>(by rw[h]at hr;cases hr),fun j hj=>?_⟩;by_cases hji:j=i
  ·subst hji;exact hy.opC hi hS H
  ·have h1:=H.2 j (ready_mono hj hji)
   obtain⟨hjun,oj,hoj,hall⟩:=mem_ready.1 hj;have hnot:∀e∈oj.after,Region.binds .any e=true->e.on≠i:=fun e he hb heq=>by
    have h1:=hall e he hb;have h0:=(mem_ready.1 hr).1;rw[heq]at h1;rcases Nat.lt_or_ge i listed.size with h'|h'
    ·simp[h']at h0 h1;rw[h0]at h1;cases h1
    ·simp[Array.getElem?_eq_none h']at h1
   have hjT:any=true\/j∉T:=hT.imp id fun hT hmem=>by
    have hw:=hT j hmem;have h0:=(mem_ready.1 hr).1;rw[AE5 hcl (AKL h0) 6 j (fun o ho e he hb=>by rw[hoj]at ho;cases ho;exact hall e he hb)]at hw;cases hw
   have h2:=APX hoj (hfree j oj hoj hji hjun hnot) (fun cs b=>hsel i oi cs b hi) (fun cs b=>hsel j oj cs b hoj) hy h1;have hfree':∀k ok,ops[k]?=some ok->k≠i->(listed.setIfInBounds j true).getD k true=false->
     (∀e∈ok.after,Region.binds .any e=true->e.on≠i)->oi.apart ops ok=true:=fun k ok hk hki hun hno=>by
    refine hfree k ok hk hki ?_ hno;by_cases hjk:j=k
    ·subst hjk;exact hjun
    ·rw[getD_set_ne true hjk]at hun;exact hun
   refine AE6 (fun a' w' hSS h3=>ih (listed.setIfInBounds j true) a' w' (hcl.set hoj hall) hfree' (ready_mono hr (Ne.symm hji)) h3.1 ?_ ?_) h2
   ·rcases hS with h|h
    ·exact .inl h
    ·rcases hjT with h'|h'
     ·exact .inl h'
     ·exact .inr (hSS h' h)
   ·rw[Array.setIfInBounds_comm _ _ hji]
    exact h3.2
def Plan.heads:Plan->List Nat
 |.eff i _ m=>i::m.heads
 |_=>[]
def Plan.ok(ops:Array Oper)(T:List Nat):Bool->Nat->Plan->Array Bool->Bool
 |true,_,.stop,_=>true
 |true,f+1,.eff i p m,l=>p.ok ops T false f (l.setIfInBounds i true)&&m.ok ops T true (f+1) l
 |false,_,.fin,l=>(Region.ready .any ops l).isEmpty
 |false,f+1,.pure any i p,l=>(Region.ready .any ops l).contains i&&Region.free .any ops l i&&(any||T.all (ADn ops 6 i))&&p.ok ops T false f (l.setIfInBounds i true)
 |false,f+1,.eff i p m,l=>!(Region.ready .any ops l).isEmpty&&(Region.ready .any ops l).all (i::m.heads).contains&&p.ok ops T false f (l.setIfInBounds i true)&&m.ok ops T true (f+1) l
 |_,_,_,_=>false
def Plan.wp(P:Program)(ops:Array Oper)(S:World->Prop)(T:List Nat)(Q:Act->World->Prop):Bool->Plan->Act->World->Prop
 |true,.eff i p m,a,w=>opC P ops S T i (p.wp P ops S T Q false) a w/\m.wp P ops S T Q true a w
 |true,_,_,_=>True
 |false,.fin,a,w=>Q a w
 |false,.pure any i p,a,w=>∃o v,ops[i]?=some o/\YldC P ops S any o v a/\(any=true\/S w)/\p.wp P ops S T Q false (a.put o.dst v) w
 |false,.eff i p m,a,w=>opC P ops S T i (p.wp P ops S T Q false) a w/\m.wp P ops S T Q true a w
 |false,.stop,_,_=>False
theorem Plan.branches{Q:Act->World->Prop}{a:Act}{w:World}{f:Nat}{l:Array Bool}{K:Nat->Act->World->Prop}:
  ∀(p:Plan),p.ok ops T true (f+1) l=true->p.wp P ops S T Q true a w->
  (∀(p':Plan)i a w,p'.ok ops T false f (l.setIfInBounds i true)=true->p'.wp P ops S T Q false a w->K i a w)->
  ∀i∈p.heads,opC P ops S T i (K i) a w
 |.eff i p m,hok,hw,hK,j,hj=>by
  simp only[Plan.ok,Bool.and_eq_true]at hok;simp only[Plan.wp]at hw;rcases List.mem_cons.1 hj with rfl|hj
  ·exact AE6 (fun a' w' _ h=>hK p _ a' w' hok.1 h) hw.1
  ·exact Plan.branches m hok.2 hw.2 hK j hj
 |.stop,_,_,_,j,hj=>by cases hj
 |.fin,_,_,_,j,hj=>by cases hj
 |.pure _ _ _,_,_,_,j,hj=>by cases hj
theorem Plan.sound{Q:Act->World->Prop}(hs:Region.noSelect ops=true):∀(f:Nat)(p:Plan)(l:Array Bool)(a:Act)(w:World),ClosedL ops l->
  p.ok ops T false f l=true->p.wp P ops S T Q false a w->AEh P ops S T Q f l a w
 |f,.stop,l,a,w,_,hok,hw=>by simp[Plan.wp]at hw
 |0,.fin,l,a,w,_,hok,hw=>⟨by simpa[Plan.ok]using hok,hw⟩
 |f+1,.fin,l,a,w,_,hok,hw=>by
  have hr:Region.ready .any ops l=[]:=by simpa[Plan.ok]using hok
  exact⟨fun _=>hw,fun i hi=>by rw[hr]at hi;cases hi⟩
 |0,.pure _ _ _,_,_,_,_,hok,_=>by simp[Plan.ok]at hok
 |0,.eff _ _ _,_,_,_,_,hok,_=>by simp[Plan.ok]at hok
 |f+1,.pure any i p,l,a,w,hcl,hok,hw=>by
  simp only[Plan.ok,Bool.and_eq_true]at hok;obtain⟨⟨⟨hr,hf⟩,hT⟩,hp⟩:=hok;simp only[Plan.wp]at hw;obtain⟨o,v,ho,hy,hS,hw⟩:=hw;exact AI0 ho (Region.noSelect_spec hs) (by simpa using hT) f l a w hcl (Region.free_spec ho hf) (by simpa using hr) hy hS (Plan.sound hs f p _ _ _ (hcl.ready (by simpa using hr)) hp hw)
 |f+1,.eff i p m,l,a,w,hcl,hok,hw=>by
  simp only[Plan.ok,Bool.and_eq_true]at hok;obtain⟨⟨⟨hne,hall⟩,hp⟩,hm⟩:=hok;simp only[Plan.wp]at hw;refine⟨fun h=>by simp[h]at hne,fun j hj=>?_⟩;have hj':j∈i::m.heads:=by
   have:=List.all_eq_true.1 hall j hj;simpa using this
  rcases List.mem_cons.1 hj' with rfl|hj'
  ·exact AE6 (fun a' w' _ h=>Plan.sound hs f p _ a' w' (hcl.ready hj) hp h) hw.1
  ·exact AE6 (fun _ _ _ h=>h hj) (Plan.branches (K:=fun i a w=>i∈Region.ready .any ops l->AEh P ops S T Q f (l.setIfInBounds i true) a w) m hm hw.2 (fun p' i a w h1 h2 hi=>Plan.sound hs f p' _ a w (hcl.ready hi) h1 h2) j hj')
theorem APY{id:Nat}{Q:Exit->Act->World->Prop}{a:Act}{w:World}{l:List Oper}(S:World->Prop)(T:List Nat)(p:Plan)(hm:P.follows .mixedOrders=true)
  (hok:(Region.noSelect l.toArray&&p.ok l.toArray T false l.length (Array.replicate l.length false))=true)
  (h:p.wp P l.toArray S T (Q .normal) false a w.drew):(Code.region id l.toArray true).wp P Q a w:=by
 simp only[Bool.and_eq_true]at hok;refine wp_region_any hm (AE4 (S:=S) (T:=T) _ _ _ _ ?_);have:=Plan.sound (P:=P) (S:=S) (Q:=Q .normal) hok.1 l.length p _ a w.drew ClosedL.none hok.2 h;simpa using this
end
end
end Go.Md
end
section
namespace Go.Md
open Go Go.RowKit
section
abbrev Fr:=Nat->Value
def vG(L:Fr)(d:Nat)(v:Value):Fr:=fun i=>bif Nat.beq i d then v else L i
def fr(l:List Value):Fr:=fun i=>l.getD i undef
def act(n:Nat)(L:Fr)(D:List Deferred):Act:=⟨Array.ofFn (n:=n) fun i=>L i.val,D⟩
def ev(n:Nat)(L:Fr):Operand->Value
 |.tmp t=>bif Nat.blt t n then L t else undef
 |.const v=>v
 |.global g=>.pointer (some ⟨g,0,none⟩)
 |.func f=>.func (.func f) #[] #[]
theorem AAW(n:Nat)(L:Fr)(D:List Deferred):(act n L D).eval=ev n L:=by
 funext x
 cases x with
 |tmp t=>
  simp only[Act.eval,act,ev];by_cases h:t<n
  ·have:Nat.blt t n=true:=by simp[Nat.blt_eq,h]
   simp[this,Array.getD,h]
  ·have:Nat.blt t n=false:=by
    cases hb:Nat.blt t n with
    |false=>rfl
    |true=>exact absurd (Nat.blt_eq▸hb) h
   simp[this,Array.getD,h]
 |_=>rfl
theorem yS(n:Nat)(L:Fr)(D:List Deferred)(d:Nat)(v:Value):(act n L D).put (some d) v=act n (vG L d v) D:=by
 simp only[Act.put,act]
 congr 1
 apply Array.ext
 ·simp
 ·intro i h1 h2
  simp only[Array.size_setIfInBounds,Array.size_ofFn]at h1;simp only[Array.getElem_ofFn,vG];by_cases h:d=i
  ·subst h;simp
  ·have:Nat.beq i d=false:=by rw[Bool.eq_false_iff];simp[Nat.beq_eq];omega
   rw[Array.getElem_setIfInBounds_ne (by simpa using h1) h,this];simp only[cond_false];rw[Array.getElem_ofFn]
theorem ANg(a:Act)(v:Value):a.put none v=a:=rfl
theorem AAP(n:Nat)(L:Fr)(D:List Deferred)(t:Nat)(h:Nat.blt t n=true):(act n L D).tmps[t]?=some (L t):=by
 have h':t<n:=by simpa[Nat.blt_eq]using h
 simp[act,h']
section
variable {P:Program}{Q:Exit->Act->World->Prop}{n:Nat}{L:Fr}{D:List Deferred}{w:World}{ops:Array Oper}{rest:List Oper}
theorem I9{f:FuncId}{fn:Func}{c:Code}{args:List Value}{R:Ending->World->Prop}(hf:P.funcs[f]?=some fn)(hb:fn.body=some c)(hn:fn.ntmps=n)
  (hs:Nat.ble args.length n=true) (h:c.wp P (bodyPost P fn R) (act n (fr args) []) w):Calls P f args.toArray w R:=by
 refine calls_of_wp hf hb ?_;have hs':args.length<=n:=by simpa[Nat.ble_eq]using hs
 have e:({tmps:=args.toArray++Array.replicate (fn.ntmps-args.toArray.size) undef,defers:=[]}:Act)=act n (fr args) []:=by
  unfold act
  congr 1
  apply Array.ext
  ·simp[hn];omega
  ·intro i h1 h2
   simp only[Array.getElem_ofFn,fr];by_cases hi:i<args.length
   ·rw[Array.getElem_append_left (by simpa using hi)]
    simp[hi]
   ·rw[Array.getElem_append_right (by simpa using hi)]
    simp[List.getElem?_eq_none (Nat.le_of_not_lt hi)]
 rw[e];exact h
theorem rg{id:Nat}{l:List Oper}(h:wpList P l.toArray Q l (act n L D) w):(Code.region id l.toArray false).wp P Q (act n L D) w:=wp_region_lit h
theorem nl{a:Act}(h:Q .normal a w):wpList P ops Q [] a w:=h
theorem vl{o:Oper}{d:Nat}{v:Value}{w':World}(hg:o.guard=none)(hd:o.dst=some d)(h:(execOp (ev n L) o).run P w=.ok (.value v) w')
  (k:wpList P ops Q rest (act n (vG L d v) D) w'):wpList P ops Q (o::rest) (act n L D) w:=by
 refine wpList_plain hg fun K hK=>?_;simp only[Oper.wp,AAW,h,Oper.upon,hd,yS];exact hK _ _ k
theorem sk{o:Oper}{w':World}(hg:o.guard=none)(hd:o.dst=none)(h:(execOp (ev n L) o).run P w=.ok .skip w')
  (k:wpList P ops Q rest (act n L D) w'):wpList P ops Q (o::rest) (act n L D) w:=by
 refine wpList_plain hg fun K hK=>?_;simp only[Oper.wp,AAW,h,Oper.upon,hd,ANg];exact hK _ _ k
def IA(R:Value->World->Prop):Ending->World->Prop:=fun e w=>∃v,e=.returned v/\R v w
theorem cl{o:Oper}{d:Nat}{g:FuncId}{args:Array Value}{R:Value->World->Prop}(hg:o.guard=none)(hd:o.dst=some d)
  (h:(execOp (ev n L) o).run P w=.ok (.enter g args) w) (hc:Calls P g args w (IA R))
  (k:∀v w',R v w'->wpList P ops Q rest (act n (vG L d v) D) w'):wpList P ops Q (o::rest) (act n L D) w:=by
 refine wpList_plain hg fun K hK=>?_;simp only[Oper.wp,AAW,h,Oper.upon,hd];refine hc.mono fun e w'⟨v,he,hr⟩=>?_;subst he;simp only[yS];exact hK _ _ (k v w' hr)
theorem gt{o:Oper}{j:Nat}{b:Bool}{oj:Oper}{t:Nat}(hg:o.guard=some (j,b))(hj:ops[j]?=some oj)(hd:oj.dst=some t)(ht:Nat.blt t n=true)
  (hv:L t=.bool b) (h:wpList P ops Q ({o with guard:=none}::rest) (act n L D) w):wpList P ops Q (o::rest) (act n L D) w:=by
 have hw:Region.wanted o (yielded ops (act n L D).tmps)=true:=by
  simp[Region.wanted,hg,yielded,hj,hd,AAP n L D t ht,hv]
 unfold wpList at h⊢;rw[if_pos hw];rw[if_pos (by simp[Region.wanted])]at h;exact h
theorem gf{o:Oper}{j:Nat}{b c:Bool}{oj:Oper}{t d:Nat}(hg:o.guard=some (j,b))(hj:ops[j]?=some oj)(hd:oj.dst=some t)(ht:Nat.blt t n=true)
  (hv:L t=.bool c) (hbc:(!b)=c) (hdd:o.dst=some d) (h:wpList P ops Q rest (act n (vG L d undef) D) w):wpList P ops Q (o::rest) (act n L D) w:=by
 have hw:Region.wanted o (yielded ops (act n L D).tmps)=false:=by
  subst hbc;simp[Region.wanted,hg,yielded,hj,hd,AAP n L D t ht,hv]
 unfold wpList;rw[if_neg (by simp[hw]),hdd,yS];exact h
theorem cnd{c:Operand}{x y:Code}{b:Bool}(hc:ev n L c=.bool b)(ht:b=true->x.wp P Q (act n L D) w)(hf:b=false->y.wp P Q (act n L D) w):
  (Code.cond c x y).wp P Q (act n L D) w:=
 wp_cond_split (by rw[AAW];exact hc) ht hf
def gK(I:Nat->Fr->World->Prop)(m n:Nat)(D:List Deferred)(a:Act)(w:World):Prop:=∃m' L',m'<m/\a=act n L' D/\I m' L' w
def Mt(R:Fr->World->Prop)(n:Nat)(D:List Deferred)(a:Act)(w:World):Prop:=∃L',a=act n L' D/\R L' w
theorem lp{c:Code}{I:Nat->Fr->World->Prop}(m:Nat)(h0:I m L w)
  (round:∀m L w,I m L w->c.wp P (Exit.then (gK I m n D) Q) (act n L D) w):(Code.loop c).wp P Q (act n L D) w:=by
 intro b k cs;have key:∀m L w,I m L w->∃e a' w',Q e a' w'/\Arrives P (lone (b.at (act n L D) (.code c::.inLoop c::k)) cs w) b k cs e a' w':=by
  intro m
  induction m using Nat.strongRecOn with
  |_ m ih=>
   intro L w hI;obtain⟨e,a₁,w₁,hq,harr⟩:=round m L w hI b (.inLoop c::k) cs;cases e with
   |normal=>
    obtain⟨m',L',hlt,rfl,hI₁⟩:=hq;obtain⟨e₂,a₂,w₂,hq₂,harr₂⟩:=ih m' hlt L' w₁ hI₁;exact⟨e₂,a₂,w₂,hq₂,.of_steps (Steps.trans harr (.one step_inLoop)) harr₂⟩
   |exit id=>exact⟨_,a₁,w₁,hq,.pass (x:=.inLoop c) rfl (fun _ _=>.inl (by simp)) harr⟩
   |goto l=>exact⟨_,a₁,w₁,hq,.pass (x:=.inLoop c) rfl (fun _ _=>.inl (by simp)) harr⟩
   |ret=>exact⟨_,a₁,w₁,hq,.pass (x:=.inLoop c) rfl (fun _ _=>.inl (by simp)) harr⟩
   |panic ch=>exact⟨_,a₁,w₁,hq,.pass (x:=.inLoop c) rfl (fun _ _=>.inl (by simp)) harr⟩
   |outgrown=>exact⟨_,a₁,w₁,hq,.pass (x:=.inLoop c) rfl (fun _ _=>.inl (by simp)) harr⟩
 obtain⟨e,a',w',hq,harr⟩:=key _ _ _ h0;exact⟨e,a',w',hq,.of_steps (.one step_loop) harr⟩
theorem ct{c:Code}(R:Fr->World->Prop)(h:c.wp P (Exit.then (Mt R n D) Q) (act n L D) w)
  (k:∀L' w',R L' w'->Q .normal (act n L' D) w'):c.wp P Q (act n L D) w:=
 wp_mono h fun e a w' hq=>by
  cases e with
  |normal=>obtain⟨L',rfl,hr⟩:=hq;exact k L' w' hr
  |_=>exact hq
theorem ret1{fn:Func}{R:Ending->World->Prop}{t:Nat}(hr:fn.results=#[.tmp t])(ht:Nat.blt t n=true)(h:R (.returned (L t)) w):bodyPost P fn R .ret (act n L []) w:=by
 refine⟨rfl,_,results_tmp hr _ _ _,?_⟩;have:=AAP n L [] t ht;simpa[Array.getD_eq_getD_getElem?,this]using h
variable {ty:TypeId}{pos:String}{af:Array Edge}{dst:Option Nat}{gd:Option (Nat×Bool)}{x y z:Operand}
theorem Zk:(execOp (ev n L) {dst:=dst,op:=.move x,type:=ty,pos:=pos,after:=af,guard:=gd}).run P w=.ok (.value (ev n L x)) w:=rfl
theorem xas:(execOp (ev n L) {dst:=dst,op:=.assign x,type:=ty,pos:=pos,after:=af,guard:=gd}).run P w=.ok (.value (ev n L x)) w:=rfl
theorem xpk{b:Bool}(h:ev n L x=.bool b):(execOp (ev n L) {dst:=dst,op:=.pick x y z,type:=ty,pos:=pos,after:=af,guard:=gd}).run P w=.ok (.value (bif b then ev n L y else ev n L z)) w:=by
 cases b<;>simp[execOp,h,asBool]
section ints
variable {t t':TypeId}{k:IntKind}{a b:Int}(hx:ev n L x=.int k a)(hy:ev n L y=.int k b)
include hx hy
theorem FH:(execOp (ev n L) {dst:=dst,op:=.binOp .add t x y t',type:=ty,pos:=pos,after:=af,guard:=gd}).run P w=.ok (.value (.int k (k.wrap (a+b)))) w:=by
 simp[execOp,hx,hy,eqGuard,Go.binOp,Op.intArith]
theorem AB4:(execOp (ev n L) {dst:=dst,op:=.binOp .sub t x y t',type:=ty,pos:=pos,after:=af,guard:=gd}).run P w=.ok (.value (.int k (k.wrap (a-b)))) w:=by
 simp[execOp,hx,hy,eqGuard,Go.binOp,Op.intArith]
theorem ATK:(execOp (ev n L) {dst:=dst,op:=.binOp .mul t x y t',type:=ty,pos:=pos,after:=af,guard:=gd}).run P w=.ok (.value (.int k (k.wrap (a*b)))) w:=by
 simp[execOp,hx,hy,eqGuard,Go.binOp,Op.intArith]
theorem Oi:(execOp (ev n L) {dst:=dst,op:=.binOp .lss t x y t',type:=ty,pos:=pos,after:=af,guard:=gd}).run P w=.ok (.value (.bool (decide (a<b)))) w:=by
 simp[execOp,hx,hy,eqGuard,Go.binOp,Op.intCmp]
theorem ADo:(execOp (ev n L) {dst:=dst,op:=.binOp .leq t x y t',type:=ty,pos:=pos,after:=af,guard:=gd}).run P w=.ok (.value (.bool (decide (a<=b)))) w:=by
 simp[execOp,hx,hy,eqGuard,Go.binOp,Op.intCmp]
theorem xU:(execOp (ev n L) {dst:=dst,op:=.binOp .gtr t x y t',type:=ty,pos:=pos,after:=af,guard:=gd}).run P w=.ok (.value (.bool (decide (b<a)))) w:=by
 simp[execOp,hx,hy,eqGuard,Go.binOp,Op.intCmp]
theorem ACq:(execOp (ev n L) {dst:=dst,op:=.binOp .geq t x y t',type:=ty,pos:=pos,after:=af,guard:=gd}).run P w=.ok (.value (.bool (decide (b<=a)))) w:=by
 simp[execOp,hx,hy,eqGuard,Go.binOp,Op.intCmp]
theorem zL:(execOp (ev n L) {dst:=dst,op:=.binOp .eql t x y t',type:=ty,pos:=pos,after:=af,guard:=gd}).run P w=.ok (.value (.bool (decide (a=b)))) w:=by
 simp[execOp,hx,hy,eqGuard,Go.binOp,Op.intCmp]
 rfl
theorem wO:(execOp (ev n L) {dst:=dst,op:=.binOp .neq t x y t',type:=ty,pos:=pos,after:=af,guard:=gd}).run P w=.ok (.value (.bool (!decide (a=b)))) w:=by
 simp[execOp,hx,hy,eqGuard,Go.binOp,Op.intCmp]
 rfl
end ints
theorem wP{t:TypeId}{b:Bool}(h:ev n L x=.bool b):(execOp (ev n L) {dst:=dst,op:=.unOp .not t x,type:=ty,pos:=pos,after:=af,guard:=gd}).run P w=.ok (.value (.bool !b)) w:=by
 simp[execOp,h,Op.unary]
theorem AK6{t:TypeId}{k:IntKind}{a:Int}(h:ev n L x=.int k a):(execOp (ev n L) {dst:=dst,op:=.unOp .neg t x,type:=ty,pos:=pos,after:=af,guard:=gd}).run P w=.ok (.value (.int k (k.wrap (0-a)))) w:=by
 simp[execOp,h,Op.unary,Op.intArith]
theorem Kz{t:TypeId}{a:Option Addr}{len cap:Nat}{e:TypeId}(h:ev n L x=.slice a len cap)(ht:P.underlying t=some (.slice e)):
  (execOp (ev n L) {dst:=dst,op:=.call {callee:=.builtin .len,args:=#[x],argTypes:=#[t]},type:=ty,pos:=pos,after:=af,guard:=gd}).run P w=.ok (.value (.int .i64 len)) w:=by
 simp[execOp,resolve,invoke,Go.builtin,h,Builtin.len_,run_underlying ht,goInt]
theorem AQE{t t':TypeId}{k:IntKind}{a b:Int}(hx:ev n L x=.int k a)(hy:ev n L y=.int k b):
  (execOp (ev n L) {dst:=dst,op:=.call {callee:=.builtin .min,args:=#[x,y],argTypes:=#[t,t']},type:=ty,pos:=pos,after:=af,guard:=gd}).run P w=.ok (.value (.int k (if b<a then b else a))) w:=by
 simp[execOp,resolve,invoke,Go.builtin,hx,hy,Builtin.min_,Builtin.min2]
theorem xC{t:Nat}{vs:List Value}{v:Value}(h:ev n L x=.tuple vs.toArray)(hv:vs[t]?=some v):
  (execOp (ev n L) {dst:=dst,op:=.extract x t,type:=ty,pos:=pos,after:=af,guard:=gd}).run P w=.ok (.value v) w:=by
 simp[execOp,h,Instr.extract,hv]
theorem tX{p:Addr}(h:ev n L x=.pointer (some p)):
  (execOp (ev n L) {dst:=dst,op:=.nilCheck x,type:=ty,pos:=pos,after:=af,guard:=gd}).run P w=.ok (.value (.pointer (some p))) w:=by
 simp[execOp,h]
theorem ATL{f:Fn}{fs cs:List Operand}:
  (execOp (ev n L) {dst:=dst,op:=.makeFunc f fs.toArray cs.toArray,type:=ty,pos:=pos,after:=af,guard:=gd}).run P w=.ok (.value (.func f (fs.map (ev n L)).toArray (cs.map (ev n L)).toArray)) w:=by
 simp[execOp,Instr.makeFunc]
def Ad (P : Program) (g : FuncId) : Prop := ∃ fn, P.funcs[g]? = some fn ∧ (fn.name == "runtime.NumGoroutine") = false ∧ fn.body.isNone = false
theorem ACR{g:FuncId}{args:Array Value}(h:Ad P g):(callFunc g args).run P w=.ok (.enter g args) w:=by
 obtain⟨fn,hf,hn,hb⟩:=h;simp only[callFunc,Sem.run_bind,run_program,Result.andThen_ok,hf,hn,hb]
 rfl
theorem xcl{g:FuncId}{l:List Operand}{tys:Array TypeId}(h:Ad P g):
  (execOp (ev n L) {dst:=dst,op:=.call {callee:=.value (.func g),args:=l.toArray,argTypes:=tys},type:=ty,pos:=pos,after:=af,guard:=gd}).run P w=.ok (.enter g (l.map (ev n L)).toArray) w:=by
 simp[execOp,resolve,Deferred.ofValue,invoke,ev,ACR h]
theorem ATM{g:FuncId}{l fs cs:List Value}{os:List Operand}{tys:Array TypeId}(hx:ev n L x=.func (.func g) fs.toArray cs.toArray)(h:Ad P g)(hl:fs++os.map (ev n L)++cs=l):
  (execOp (ev n L) {dst:=dst,op:=.call {callee:=.value x,args:=os.toArray,argTypes:=tys},type:=ty,pos:=pos,after:=af,guard:=gd}).run P w=.ok (.enter g l.toArray) w:=by
 subst hl;simp[execOp,resolve,Deferred.ofValue,invoke,hx,ACR h]
end
end
section
abbrev Ext(w w':World):Prop:=Below w.heap.size w w'
theorem Ext.refl(w:World):Ext w w:=Below.refl _ _
theorem Ext.tr{a b c:World}(h:Ext a b)(k:Ext b c):Ext a c:=h.trans (k.mono h.size)
theorem Ext.alloc(w:World)(o:Obj):Ext w (w.alloc o):=(Below.refl _ _).alloc (Nat.le_refl _) o
theorem Ext.drew(w:World):Ext w w.drew:=(Below.refl _ _).drew
theorem blt{B:Nat}{a b c:World}(h:Below B a b)(hB:B<=b.heap.size)(k:Ext b c):Below B a c:=h.trans (k.mono hB)
structure Chg(b:Nat)(w w':World):Prop where
 os:w'.os=w.os
 tape:w'.tape=w.tape
 output:w'.output=w.output
 size:w'.heap.size=w.heap.size
 other:∀k,k≠b->w'.heap[k]?=w.heap[k]?
theorem Chg.below{b:Nat}{w w':World}(h:Chg b w w'){B:Nat}(hb:B<=b):Below B w w':=
 ⟨h.os,h.tape,h.output,by rw[h.size];exact Nat.le_refl _,fun k hk=>h.other k (by omega)⟩
def Bx(w:World)(b:Nat)(T:TypeId)(cs:List Value):Prop:=w.heap[b]?=some (.cells cs.toArray T (0,0))
theorem Bx.lt{w:World}{b:Nat}{T:TypeId}{cs:List Value}(h:Bx w b T cs):b<w.heap.size:=by
 rcases Nat.lt_or_ge b w.heap.size with h'|h'
 ·exact h'
 ·simp[Bx,Array.getElem?_eq_none h']at h
theorem Bx.below{w w':World}{b:Nat}{T:TypeId}{cs:List Value}(h:Bx w b T cs){B:Nat}(k:Below B w w')(hb:b<B):Bx w' b T cs:=(k.block b hb).trans h
theorem Bx.ext{w w':World}{b:Nat}{T:TypeId}{cs:List Value}(h:Bx w b T cs)(k:Ext w w'):Bx w' b T cs:=h.below k h.lt
theorem Bx.chg{w w':World}{b c:Nat}{T:TypeId}{cs:List Value}(h:Bx w b T cs)(k:Chg c w w')(hne:b≠c):Bx w' b T cs:=(k.other b hne).trans h
theorem Bx.new(w:World)(T:TypeId)(cs:List Value):Bx (w.alloc (.cells cs.toArray T (0,0))) w.heap.size T cs:=by
 show(w.heap.push _)[w.heap.size]?=_;rw[Array.getElem?_push,if_pos rfl]
def Cs(w:World)(b o:Nat)(cs:List Value):Prop:=∀j c,cs[j]?=some c->w.cell? ⟨b,o+j,none⟩=some c
theorem Bx.cs{w:World}{b:Nat}{T:TypeId}{cs:List Value}(h:Bx w b T cs):Cs w b 0 cs:=fun j c hc=>by
 simp only[World.cell?,Nat.zero_add];rw[show w.heap[b]?=_ from h];simpa using hc
theorem Cs.below{w w':World}{b o:Nat}{cs:List Value}(h:Cs w b o cs){B:Nat}(k:Below B w w')(hb:b<B):Cs w' b o cs:=fun j c hc=>(k.cell (p:=⟨b,o+j,none⟩) hb).trans (h j c hc)
theorem Cs.ext{w w':World}{b o:Nat}{cs:List Value}(h:Cs w b o cs)(k:Ext w w'):Cs w' b o cs:=fun j c hc=>
 (k.cell (p:=⟨b,o+j,none⟩) (World.block_lt_of_cell? w _ (h j c hc))).trans (h j c hc)
theorem Cs.same{w w':World}{b o:Nat}{cs:List Value}(h:Cs w b o cs)(k:w'.heap[b]?=w.heap[b]?):Cs w' b o cs:=fun j c hc=>
 (World.cell?_of_block (a:=⟨b,o+j,none⟩) k).trans (h j c hc)
theorem Cs.at{w:World}{b o:Nat}{cs:List Value}(h:Cs w b o cs)(j:Nat){c:Value}(hc:cs[j]?=some c):w.cell? ⟨b,o+j,none⟩=some c:=h j c hc
class Enc(α:Type)where
 agg:Bool
 n:Nat
 rep:(Nat->Prop)->World->List Value->α->Prop
 len:∀{ok w cs x},rep ok w cs x->cs.length=n
 one:∀{ok w cs x},rep ok w cs x->∀c∈cs,c.oneCell'=true
 sgl:agg=false->n=1
 keep:∀{ok w w' cs x},(∀b,ok b->b<w.heap.size->w'.heap[b]?=w.heap[b]?)->w.heap.size<=w'.heap.size->rep ok w cs x->rep ok w' cs x
 mono:∀{ok ok':Nat->Prop}{w cs x},(∀b,b<w.heap.size->ok b->ok' b)->rep ok w cs x->rep ok' w cs x
def Enc.val(α:Type)[Enc α](cs:List Value):Value:=bif Enc.agg α then .agg cs.toArray else cs.getD 0 undef
theorem Enc.cells{α:Type}[Enc α]{ok w cs}{x:α}(h:Enc.rep ok w cs x):(Enc.val α cs).cells=cs.toArray:=by
 unfold Enc.val;cases ha:Enc.agg α with
 |true=>rfl
 |false=>
  have hl:=Enc.len h;rw[Enc.sgl ha]at hl
  match cs,hl with
  |[c],_=>
   have h1:=Enc.one h c (by simp);show c.cells=#[c];cases c<;>first|rfl|simp[Value.oneCell']at h1
def RVo{α:Type}[Enc α](ok:Nat->Prop)(w:World)(v:Value)(x:α):Prop:=∃cs,v=Enc.val α cs/\Enc.rep ok w cs x
def RV{α:Type}[Enc α](w:World)(v:Value)(x:α):Prop:=RVo (fun _=>True) w v x
section
variable {α:Type}[Enc α]{ok ok':Nat->Prop}{w w':World}{v:Value}{x:α}
theorem RVo.keep(h:RVo ok w v x)(k:∀b,ok b->b<w.heap.size->w'.heap[b]?=w.heap[b]?)(hs:w.heap.size<=w'.heap.size):RVo ok w' v x:=
 let⟨cs,e,r⟩:=h
 ⟨cs,e,Enc.keep k hs r⟩
theorem RVo.ext(h:RVo ok w v x)(k:Ext w w'):RVo ok w' v x:=h.keep (fun b _ hb=>k.block b hb) k.size
theorem RVo.chg{b:Nat}(h:RVo ok w v x)(k:Chg b w w')(hb:¬ok b):RVo ok w' v x:=h.keep (fun c hc _=>k.other c (fun e=>hb (e▸hc))) (by rw[k.size];exact Nat.le_refl _)
theorem RVo.mono(h:RVo ok w v x)(hm:∀b,b<w.heap.size->ok b->ok' b):RVo ok' w v x:=
 let⟨cs,e,r⟩:=h
 ⟨cs,e,Enc.mono hm r⟩
theorem RVo.rv(h:RVo ok w v x):RV w v x:=h.mono fun _ _ _=>trivial
theorem RV.ext(h:RV w v x)(k:Ext w w'):RV w' v x:=RVo.ext h k
theorem RV.old(h:RV w v x):RVo (·<w.heap.size) w v x:=RVo.mono h fun _ hb _=>hb
theorem RV.below(h:RV w v x)(k:Below w.heap.size w w'):RV w' v x:=RV.ext h k
end
instance:Enc Int where
 agg:=false
 n:=1
 rep _ _ cs x:=cs=[.int .i64 x]
 len h:=by subst h;rfl
 one h:=by subst h;simp[Value.oneCell']
 sgl _:=rfl
 keep _ _ h:=h
 mono _ h:=h
instance:Enc Bool where
 agg:=false
 n:=1
 rep _ _ cs x:=cs=[.bool x]
 len h:=by subst h;rfl
 one h:=by subst h;simp[Value.oneCell']
 sgl _:=rfl
 keep _ _ h:=h
 mono _ h:=h
def Els(α:Type)[Enc α](ok:Nat->Prop)(w:World)(a:Option Addr)(l:List α):Prop:=
 l=[]\/∃b off,a=some ⟨b,off,none⟩/\ok b/\b<w.heap.size/\∀i x,l[i]?=some x->∃cs,Enc.rep ok w cs x/\Cs w b (off+i*Enc.n α) cs
theorem Els.keep{α:Type}[Enc α]{ok:Nat->Prop}{w w':World}{a:Option Addr}{l:List α}(h:Els α ok w a l)(k:∀b,ok b->b<w.heap.size->w'.heap[b]?=w.heap[b]?)(hs:w.heap.size<=w'.heap.size):
  Els α ok w' a l:=by
 rcases h with rfl|⟨b,off,e,hb,hlt,h⟩
 ·exact .inl rfl
 ·refine .inr ⟨b,off,e,hb,by omega,fun i x hx=>?_⟩
  obtain⟨cs,h1,h2⟩:=h i x hx;exact⟨cs,Enc.keep k hs h1,h2.same (k b hb hlt)⟩
instance {α:Type}[Enc α]:Enc (List α)where
 agg:=false
 n:=1
 rep ok w cs l:=∃a cap,cs=[.slice a l.length cap]/\l.length<=cap/\cap<=maxLen/\Els α ok w a l
 len:=by rintro ok w cs l⟨a,cap,rfl,_⟩;rfl
 one:=by rintro ok w cs l⟨a,cap,rfl,_⟩;simp[Value.oneCell']
 sgl _:=rfl
 keep:=by
  rintro ok w w' cs l k hs⟨a,cap,rfl,h1,h2,h3⟩;exact⟨a,cap,rfl,h1,h2,h3.keep k hs⟩
 mono:=by
  rintro ok ok' w cs l hm⟨a,cap,rfl,h1,h2,h3⟩;refine⟨a,cap,rfl,h1,h2,?_⟩;rcases h3 with rfl|⟨b,off,e,hb,hlt,h⟩
  ·exact .inl rfl
  ·refine .inr ⟨b,off,e,hm b hlt hb,hlt,fun i x hx=>?_⟩
   obtain⟨cs,h1,h2⟩:=h i x hx;exact⟨cs,Enc.mono hm h1,h2⟩
theorem RVo.int{ok:Nat->Prop}{w:World}{v:Value}{x:Int}:RVo ok w v x↔v=.int .i64 x:=by
 constructor
 ·rintro⟨cs,rfl,rfl⟩;rfl
 ·rintro rfl;exact⟨_,rfl,rfl⟩
theorem RVo.bool{ok:Nat->Prop}{w:World}{v:Value}{x:Bool}:RVo ok w v x↔v=.bool x:=by
 constructor
 ·rintro⟨cs,rfl,rfl⟩;rfl
 ·rintro rfl;exact⟨_,rfl,rfl⟩
theorem RVo.sl{α:Type}[Enc α]{ok:Nat->Prop}{w:World}{v:Value}{l:List α}:RVo ok w v l↔∃a cap,v=.slice a l.length cap/\l.length<=cap/\cap<=maxLen/\Els α ok w a l:=by
 constructor
 ·rintro⟨cs,rfl,a,cap,rfl,h⟩;exact⟨a,cap,rfl,h⟩
 ·rintro⟨a,cap,rfl,h⟩;exact⟨_,rfl,a,cap,rfl,h⟩
theorem RV.sl{α:Type}[Enc α]{w:World}{v:Value}{l:List α}(h:RV w v l):∃a cap,v=.slice a l.length cap/\l.length<=cap/\cap<=maxLen/\Els α (fun _=>True) w a l:=RVo.sl.1 h
theorem RVo.nil{α:Type}[Enc α]{ok:Nat->Prop}{w:World}{a:Option Addr}{cap:Nat}(hc:cap<=maxLen):RVo ok w (.slice a 0 cap) ([]:List α):=RVo.sl.2 ⟨a,cap,rfl,Nat.zero_le _,hc,.inl rfl⟩
structure TI(P:Program)(t:TypeId)(agg:Bool)(n bytes:Nat)(z:List Value):Prop where
 ag:∀w,(isAgg t).run P w=.ok agg w
 info:∃i v,P.info? t=some i/\i.size=n/\i.bytes=bytes/\i.zero=some v/\v.cells=z.toArray/\v=bif agg then .agg z.toArray else z.getD 0 undef
 zlen:z.length=n
theorem TI.mk'{P:Program}{t:TypeId}{agg:Bool}{n bytes:Nat}{z:List Value}{d:TypeDesc}(hu:P.underlying t=some d)
  (ha:(match d with|.struct _|.array _ _=>true|_=>false)=agg)
  (hi:(P.info? t).map (fun i=>(i.size,i.bytes,i.zero))=some (n,bytes,some (bif agg then .agg z.toArray else z.getD 0 undef)))
  (hc:(bif agg then Value.agg z.toArray else z.getD 0 undef).cells=z.toArray) (hl:z.length=n):TI P t agg n bytes z:=by
 refine⟨fun w=>by subst ha;simp only[isAgg,Sem.run_bind,run_underlying hu,Result.andThen_ok];cases d<;>rfl,?_,hl⟩;obtain⟨i,h1,h2⟩:=Option.map_eq_some_iff.1 hi;simp only[Prod.mk.injEq]at h2;exact⟨i,_,h1,h2.1,h2.2.1,h2.2.2,hc,rfl⟩
section
variable {P:Program}{t:TypeId}{agg:Bool}{m bytes:Nat}{z:List Value}
theorem TI.size(h:TI P t agg m bytes z)(w:World):(sizeOf t).run P w=.ok m w:=by
 obtain⟨i,v,hi,hn,_⟩:=h.info;simp[sizeOf,typeInfo,hi,hn]
theorem TI.zero(h:TI P t agg m bytes z)(w:World):∃v,(zeroValue t).run P w=.ok v w/\v.cells=z.toArray/\v=bif agg then .agg z.toArray else z.getD 0 undef:=by
 obtain⟨i,v,hi,_,_,hz,hc,hv⟩:=h.info;exact⟨v,by simp[zeroValue,typeInfo,hi,hz],hc,hv⟩
end
theorem AAq(b o i:Nat):(⟨b,o,none⟩:Addr).add i=⟨b,o+i,none⟩:=by unfold Addr.add;split<;>simp_all
section
variable {P:Program}{Q:Exit->Act->World->Prop}{n:Nat}{L:Fr}{D:List Deferred}{w:World}{ops:Array Oper}{rest:List Oper}
variable {ty:TypeId}{pos:String}{af:Array Edge}{dst:Option Nat}{gd:Option (Nat×Bool)}{x y:Operand}
theorem AP{t:TypeId}{b o m bytes:Nat}{z:List Value}{c:Value}(hp:ev n L x=.pointer (some ⟨b,o,none⟩))(ht:TI P t false m bytes z)(hc:w.cell? ⟨b,o,none⟩=some c):
  (execOp (ev n L) {dst:=dst,op:=.load t x,type:=ty,pos:=pos,after:=af,guard:=gd}).run P w=.ok (.value c) w:=by
 simp[execOp,hp,Instr.loadAt,Instr.sureAddr,loadVar,ht.ag,hc]
theorem Jq{t:TypeId}{b o m bytes:Nat}{z cs:List Value}(hp:ev n L x=.pointer (some ⟨b,o,none⟩))(ht:TI P t true m bytes z)(hl:cs.length=m)(hc:Cs w b o cs):
  (execOp (ev n L) {dst:=dst,op:=.load t x,type:=ty,pos:=pos,after:=af,guard:=gd}).run P w=.ok (.value (.agg cs.toArray)) w:=by
 have h:=run_loadCells_list (P:=P) w ⟨b,o,none⟩ cs (fun j v hv=>by rw[AAq];exact hc j v hv);rw[hl]at h;simp[execOp,hp,Instr.loadAt,Instr.sureAddr,loadVar,ht.ag,ht.size,h]
structure FA(P:Program)(s:TypeId)(f off:Nat):Prop where
 run:∀b o w,(Instr.fieldAt s (.pointer (some ⟨b,o,none⟩)) f).run P w=.ok (.pointer (some ⟨b,o+off,none⟩)) w
theorem FA.mk'{P:Program}{s f off:Nat}
  (h:((P.underlying s).bind fun d=>match d with|.struct fs=>(fs[f]?).bind (fun fd=>(P.info? fd.type).map fun i=>(fd.offset,i.size==0))|_=>none)=some (off,false)):FA P s f off:=
 ⟨fun b o w=>by
  obtain⟨d,hu,h⟩:=Option.bind_eq_some_iff.1 h;cases d<;>simp only[reduceCtorEq]at h;rename_i fs;obtain⟨fd,hf,h⟩:=Option.bind_eq_some_iff.1 h;obtain⟨i,hi,h⟩:=Option.map_eq_some_iff.1 h;simp only[Prod.mk.injEq,beq_eq_false_iff_ne]at h;simp[Instr.fieldAt,run_underlying hu,hf,Instr.sureAddr,fieldPlace,sizeOf,typeInfo,hi,h.2,AAq,h.1]⟩
theorem BA{s:TypeId}{b o f off:Nat}(hp:ev n L x=.pointer (some ⟨b,o,none⟩))(hf:FA P s f off):
  (execOp (ev n L) {dst:=dst,op:=.fieldAddr s x f,type:=ty,pos:=pos,after:=af,guard:=gd}).run P w=.ok (.value (.pointer (some ⟨b,o+off,none⟩))) w:=by
 simp[execOp,hp,hf.run]
theorem xW{t e:TypeId}{b o len m bytes:Nat}{agg:Bool}{z:List Value}{k:IntKind}{i:Int}(hp:ev n L x=.pointer (some ⟨b,o,none⟩))(hi:ev n L y=.int k i)(ht:P.underlying t=some (.array len e))
  (he:TI P e agg m bytes z) (h0:0<=i) (h1:i<len):
  (execOp (ev n L) {dst:=dst,op:=.indexAddr t x y,type:=ty,pos:=pos,after:=af,guard:=gd}).run P w=.ok (.value (.pointer (some ⟨b,o+i.toNat*m,none⟩))) w:=by
 simp[execOp,hp,hi,Instr.indexAt,asIntOf,run_underlying ht,Instr.sureAddr,h0,h1,he.size,AAq]
theorem Dq{t e:TypeId}{b o len cap m bytes:Nat}{agg:Bool}{z:List Value}{k:IntKind}{i:Int}(hp:ev n L x=.slice (some ⟨b,o,none⟩) len cap)(hi:ev n L y=.int k i)(ht:P.underlying t=some (.slice e))
  (he:TI P e agg m bytes z) (h0:0<=i) (h1:i<len):
  (execOp (ev n L) {dst:=dst,op:=.indexAddr t x y,type:=ty,pos:=pos,after:=af,guard:=gd}).run P w=.ok (.value (.pointer (some ⟨b,o+i.toNat*m,none⟩))) w:=by
 simp[execOp,hp,hi,Instr.indexAt,asIntOf,run_underlying ht,h0,h1,he.size,AAq]
theorem yX{d:Nat}{t:TypeId}{v:Value}{cs:List Value}(hv:ev n L x=v)(hc:v.cells=cs.toArray)
  (k:∀b w',Ext w w'->w.heap.size<=b->Bx w' b t cs->wpList P ops Q rest (act n (vG L d (.pointer (some ⟨b,0,none⟩))) D) w'):
  wpList P ops Q ({dst:=some d,op:=.box t x,type:=ty,pos:=pos,after:=af,guard:=none}::rest) (act n L D) w:=
 vl rfl rfl (w':=w.alloc (.cells cs.toArray t)) (v:=.pointer (some ⟨w.heap.size,0,none⟩)) (by simp[execOp,hv,Instr.box,newVar,newRow,hc]) (k _ _ (Ext.alloc _ _) (Nat.le_refl _) (Bx.new w t cs))
theorem yY{d:Nat}{t:TypeId}{agg:Bool}{m bytes:Nat}{z:List Value}(ht:TI P t agg m bytes z)
  (k:∀b w',Ext w w'->w.heap.size<=b->Bx w' b t z->wpList P ops Q rest (act n (vG L d (.pointer (some ⟨b,0,none⟩))) D) w'):
  wpList P ops Q ({dst:=some d,op:=.alloc t,type:=ty,pos:=pos,after:=af,guard:=none}::rest) (act n L D) w:=by
 obtain⟨v,hv,hc,_⟩:=ht.zero w;exact vl rfl rfl (w':=w.alloc (.cells z.toArray t)) (v:=.pointer (some ⟨w.heap.size,0,none⟩)) (by simp[execOp,Instr.alloc,hv,newVar,newRow,hc]) (k _ _ (Ext.alloc _ _) (Nat.le_refl _) (Bx.new w t z))
def iW(cur:List Value)(o:Nat)(vs:List Value):List Value:=cur.take o++vs++cur.drop (o+vs.length)
theorem AMO{t T:TypeId}{agg:Bool}{b o m bytes:Nat}{z cur vs:List Value}{v:Value}(ht:TI P t agg m bytes z)(hb:Bx w b T cur)(hv:v.cells=vs.toArray)(hl:vs.length=m)
  (h1:vs.all Value.oneCell'=true) (hfit:o+vs.length<=cur.length):
  ∃w',(storeVar t ⟨b,o,none⟩ v).run P w=.ok () w'/\Chg b w w'/\Bx w' b T (iW cur o vs):=by
 have h:=run_storeCells_at P b o T vs 0 cur.toArray w hb (by simpa using hfit) (fun v hv=>List.all_eq_true.1 h1 v hv);refine⟨w.setRow b (iW cur o vs).toArray,?_,⟨rfl,rfl,rfl,by simp,fun k hk=>setRow_other _ _ _ _ hk⟩,setRow_heap w b cur.toArray (iW cur o vs).toArray T _ hb⟩;simp only[storeVar,Sem.run_bind,ht.size,Result.andThen_ok,hv];simp only[List.size_toArray,hl,ne_eq,not_true_eq_false,if_false];simpa[iW]using h
theorem xk{t T:TypeId}{agg:Bool}{b o m bytes:Nat}{z cur vs:List Value}{v:Value}(hp:ev n L x=.pointer (some ⟨b,o,none⟩))(hy:ev n L y=v)(hv:v.cells=vs.toArray)(ht:TI P t agg m bytes z)(hb:Bx w b T cur)
  (hl:vs.length=m) (h1:vs.all Value.oneCell'=true) (hfit:o+vs.length<=cur.length)
  (k:∀w',Chg b w w'->Bx w' b T (iW cur o vs)->wpList P ops Q rest (act n L D) w'):
  wpList P ops Q ({dst:=none,op:=.store t x y,type:=ty,pos:=pos,after:=af,guard:=none}::rest) (act n L D) w:=by
 obtain⟨w',hr,hc,hb'⟩:=AMO (o:=o) ht hb hv hl h1 hfit;exact sk rfl rfl (w':=w') (by simp[execOp,hp,hy,Instr.storeAt,Instr.sureAddr,hr]) (k w' hc hb')
end
end
section
theorem bs{α β:Type}{o:Option α}{f:α->Option β}{r:β}(h:(o>>=f)=some r):∃x,o=some x/\f x=some r:=Option.bind_eq_some_iff.1 h
theorem Cj{α:Type}{c:Bool}{a b:Option α}{r:α}(h:(if c=true then a else b)=some r)(hc:c=true):a=some r:=by rwa [if_pos hc]at h
theorem DF{α:Type}{c:Bool}{a b:Option α}{r:α}(h:(if c=true then a else b)=some r)(hc:c=false):b=some r:=by rwa [if_neg (by simp[hc])]at h
def gd{α:Type}(c:Bool)(o:Option α)(d:α):Option α:=bif c then o else some d
theorem gdp{α:Type}{c:Bool}{o:Option α}{d r:α}(h:gd c o d=some r)(hc:c=true):o=some r:=by subst hc;exact h
abbrev BH(n:Int):Int:=IntKind.i64.wrap n
def ix{α:Type}(l:List α)(i:Int):Option α:=if 0<=i then l[i.toNat]? else none
theorem vX{α:Type}{l:List α}{i:Int}{x:α}(h:ix l i=some x):0<=i/\i<l.length/\l[i.toNat]?=some x:=by
 unfold ix at h;split at h
 ·rename_i h0
  have:=(List.getElem?_eq_some_iff.1 h).1;exact⟨h0,by omega,h⟩
 ·cases h
def app{α:Type}(bytes:Nat)(l k:List α):Option (List α):=if(l.length+k.length)*bytes<=140737488355328 then some (l++k)else none
theorem AE7{α:Type}{bytes:Nat}{l k r:List α}(h:app bytes l k=some r):(l.length+k.length)*bytes<=140737488355328/\r=l++k:=by
 unfold app at h;split at h
 ·rename_i h0;exact⟨h0,by cases h;rfl⟩
 ·cases h
instance {α β:Type}[Enc α][Enc β]:Enc (α×β)where
 agg:=true
 n:=Enc.n α+Enc.n β
 rep ok w cs x:=∃c1 c2,cs=c1++c2/\Enc.rep ok w c1 x.1/\Enc.rep ok w c2 x.2
 len:=by rintro ok w cs x⟨c1,c2,rfl,h1,h2⟩;simp[Enc.len h1,Enc.len h2]
 one:=by
  rintro ok w cs x⟨c1,c2,rfl,h1,h2⟩ c hc;rcases List.mem_append.1 hc with hc|hc
  ·exact Enc.one h1 c hc
  ·exact Enc.one h2 c hc
 sgl h:=by cases h
 keep:=by rintro ok w w' cs x k hs⟨c1,c2,rfl,h1,h2⟩;exact⟨c1,c2,rfl,Enc.keep k hs h1,Enc.keep k hs h2⟩
 mono:=by rintro ok ok' w cs x hm⟨c1,c2,rfl,h1,h2⟩;exact⟨c1,c2,rfl,Enc.mono hm h1,Enc.mono hm h2⟩
structure KI(k:IntKind)where
 v:Int
deriving DecidableEq
instance {k:IntKind}:Inhabited (KI k):=⟨⟨0⟩⟩
structure Uno(α:Type)where
 v:α
deriving DecidableEq,Inhabited
instance {α:Type}[Enc α]:Enc (Uno α)where
 agg:=true
 n:=Enc.n α
 rep ok w cs x:=Enc.rep ok w cs x.v
 len h:=Enc.len h
 one h:=Enc.one h
 sgl h:=by cases h
 keep k hs h:=Enc.keep k hs h
 mono k h:=Enc.mono k h
instance {k:IntKind}:Enc (KI k)where
 agg:=false
 n:=1
 rep _ _ cs x:=cs=[.int k x.v]
 len h:=by subst h;rfl
 one h:=by subst h;simp[Value.oneCell']
 sgl _:=rfl
 keep _ _ h:=h
 mono _ h:=h
class Flat(α:Type)[Enc α]where
 enc:α->List Value
 iff:∀{ok w cs x},Enc.rep ok w cs x↔cs=enc x
instance:Flat Int:=⟨fun x=>[.int .i64 x],Iff.rfl⟩
instance:Flat Bool:=⟨fun x=>[.bool x],Iff.rfl⟩
instance {k:IntKind}:Flat (KI k):=⟨fun x=>[.int k x.v],Iff.rfl⟩
instance {α β:Type}[Enc α][Enc β][Flat α][Flat β]:Flat (α×β):=⟨fun x=>Flat.enc x.1++Flat.enc x.2,by
 intro ok w cs x;constructor
 ·rintro⟨c1,c2,rfl,h1,h2⟩;rw[Flat.iff.1 h1,Flat.iff.1 h2]
 ·rintro rfl;exact⟨_,_,rfl,Flat.iff.2 rfl,Flat.iff.2 rfl⟩⟩
theorem Flat.len{α:Type}[Enc α][Flat α](x:α):(Flat.enc x).length=Enc.n α:=Enc.len (ok:=fun _=>True) (w:=default) (Flat.iff.2 rfl)
theorem Flat.one{α:Type}[Enc α][Flat α](x:α):∀c∈Flat.enc x,c.oneCell'=true:=Enc.one (ok:=fun _=>True) (w:=default) (Flat.iff.2 rfl)
theorem Flat.flen{α:Type}[Enc α][Flat α](l:List α):(l.flatMap Flat.enc).length=l.length*Enc.n α:=by
 induction l with
 |nil=>simp
 |cons x l ih=>simp[ih,Flat.len,Nat.add_mul,Nat.add_comm]
structure Ar(m:Nat)(α:Type)where
 l:List α
 h:l.length=m
instance {m:Nat}{α:Type}[DecidableEq α]:DecidableEq (Ar m α):=fun a b=>
 if h:a.l=b.l then .isTrue (by cases a;cases b;cases h;rfl)else .isFalse (fun e=>h (by rw[e]))
def Ar.fill(m:Nat){α:Type}(x:α):Ar m α:=⟨List.replicate m x,by simp⟩
instance {m:Nat}{α:Type}[Inhabited α]:Inhabited (Ar m α):=⟨Ar.fill m default⟩
def vZ{m:Nat}{α:Type}(X:Ar m α)(i:Int)(x:α):Ar m α:=⟨X.l.set i.toNat x,by rw[List.length_set,X.h]⟩
def NG{α:Type}(l:List α)(i:Int)(x:α):List α:=l.set i.toNat x
instance {m:Nat}{α:Type}[Enc α][Flat α]:Enc (Ar m α)where
 agg:=true
 n:=m*Enc.n α
 rep _ _ cs x:=cs=x.l.flatMap Flat.enc
 len:=by rintro ok w cs x rfl;rw[Flat.flen,x.h]
 one:=by
  rintro ok w cs x rfl c hc;obtain⟨y,_,hy⟩:=List.mem_flatMap.1 hc;exact Flat.one y c hy
 sgl h:=by cases h
 keep _ _ h:=h
 mono _ h:=h
instance {m:Nat}{α:Type}[Enc α][Flat α]:Flat (Ar m α):=⟨fun x=>x.l.flatMap Flat.enc,Iff.rfl⟩
theorem AEj{α:Type}[Enc α][Flat α]:∀(l:List α)(i:Nat)(x:α)(j:Nat)(c:Value),l[i]?=some x->(Flat.enc x)[j]?=some c->(l.flatMap Flat.enc)[i*Enc.n α+j]?=some c
 |[],i,x,j,c,h,_=>by simp at h
 |y::l,0,x,j,c,h,hc=>by
  simp only[List.getElem?_cons_zero,Option.some.injEq]at h;subst h;have:j<(Flat.enc y).length:=(List.getElem?_eq_some_iff.1 hc).1;simp[List.getElem?_append_left this,hc]
 |y::l,i+1,x,j,c,h,hc=>by
  simp only[List.getElem?_cons_succ]at h;have ih:=AEj l i x j c h hc;rw[List.flatMap_cons,List.getElem?_append_right (by rw[Flat.len,Nat.add_mul];omega),Flat.len,show(i+1)*Enc.n α+j-Enc.n α=i*Enc.n α+j by rw[Nat.add_mul];omega];exact ih
theorem RV.els{α:Type}[Enc α]{w:World}{a:Option Addr}{n cap:Nat}{l:List α}(h:RV w (.slice a n cap) l):Els α (fun _=>True) w a l:=by
 obtain⟨a',cap',e,_,_,h'⟩:=h.sl;cases e;exact h'
theorem RV.cap{α:Type}[Enc α]{w:World}{a:Option Addr}{n cap:Nat}{l:List α}(h:RV w (.slice a n cap) l):n=l.length/\l.length<=cap/\cap<=maxLen:=by
 obtain⟨a',cap',e,h1,h2,h⟩:=h.sl;cases e;exact⟨rfl,h1,h2⟩
theorem RV.rep1{α:Type}[Enc α]{w:World}{v:Value}{l:List α}(h:RV w v l):Enc.rep (fun _=>True) w [v] l:=by
 obtain⟨a,cap,rfl,h1,h2,h3⟩:=h.sl;exact⟨a,cap,rfl,h1,h2,h3⟩
theorem RV.of1{α:Type}[Enc α]{w:World}{a:Option Addr}{cap:Nat}{l:List α}(h1:l.length<=cap)(h2:cap<=maxLen)(h3:Els α (fun _=>True) w a l):RV w (.slice a l.length cap) l:=RVo.sl.2 ⟨a,cap,rfl,h1,h2,h3⟩
theorem Els.ix{α:Type}[Enc α]{ok:Nat->Prop}{w:World}{a:Option Addr}{l:List α}{i:Int}{x:α}(h:Els α ok w a l)(hi:ix l i=some x):
  ∃b off cs,a=some ⟨b,off,none⟩/\0<=i/\i<l.length/\Enc.rep ok w cs x/\Cs w b (off+i.toNat*Enc.n α) cs:=by
 obtain⟨h0,h1,h2⟩:=vX hi;rcases h with rfl|⟨b,off,e,_,_,h⟩
 ·simp at h2
 ·obtain⟨cs,h3,h4⟩:=h _ x h2
  exact⟨b,off,cs,e,h0,h1,h3,h4⟩
def AEE(place:Nat->Option (Nat×Nat))(cells:List Value):List (Nat×List Value)->Option (List Value)
 |[]=>some cells
 |(i,v)::rest=>
  match place i with
  |none=>none
  |some (off,size)=>bif Nat.beq v.length size&&Nat.ble (off+v.length) cells.length then AEE place (iW cells off v) rest else none
theorem AFU{place:Nat->Option (Nat×Nat)}:∀(ps:List (Nat×Value))(cells r:List Value),AEE place cells (ps.map fun p=>(p.1,p.2.cells.toList))=some r->Instr.fill place cells.toArray ps=some r.toArray
 |[],cells,r,h=>by simp only[List.map_nil,AEE,Option.some.injEq]at h;subst h;rfl
 |(i,v)::ps,cells,r,h=>by
  simp only[List.map_cons,AEE]at h;unfold Instr.fill;cases hp:place i with
  |none=>simp[hp]at h
  |some os=>
   obtain⟨off,size⟩:=os;simp only[hp]at h⊢;cases hb:(Nat.beq v.cells.toList.length size&&Nat.ble (off+v.cells.toList.length) cells.length)with
   |false=>rw[hb]at h;cases h
   |true=>
    rw[hb]at h;simp only[Bool.and_eq_true,Nat.beq_eq,Nat.ble_eq,Array.length_toList]at hb;rw[if_neg (by simp;omega)];have:=AFU ps _ r h;rw[<-this]
    congr 1
    have hg:=Great.foldl_set off v.cells.toList 0 cells.toArray;have e:Array.foldl (fun cs(x:Value×Nat)=>cs.setIfInBounds (off+x.2) x.1) cells.toArray v.cells.zipIdx=(v.cells.toList.zipIdx 0).foldl (fun cs(x:Value×Nat)=>cs.setIfInBounds (off+x.2) x.1) cells.toArray:=by
     rw[<-Array.foldl_toList,Array.toList_zipIdx]
    refine Eq.trans e ?_;apply Array.ext_getElem?;intro k;rw[hg.2 k];simp only[iW,List.getElem?_toArray,Nat.add_zero,Array.length_toList,List.size_toArray];by_cases h1:k<off
    ·rw[if_neg (by omega),List.getElem?_append_left (by simp;omega),List.getElem?_append_left (by simp;omega),List.getElem?_take,if_pos h1]
    ·by_cases h2:k<off+v.cells.size
     ·rw[if_pos (by omega),List.getElem?_append_left (by simp;omega),List.getElem?_append_right (by simp;omega)]
      congr 1
      simp;omega
     ·rw[if_neg (by omega),List.getElem?_append_right (by simp;omega),List.getElem?_drop]
      congr 1
      simp;omega
structure SP(P:Program)(t:TypeId)(pl:List (Nat×Nat)):Prop where
 run:∀w,∃fs,P.underlying t=some (.struct fs)/\(fs.mapM (fun(f:Field)=>(do pure (f.offset,<-sizeOf f.type):Sem (Nat×Nat)))).run P w=.ok pl.toArray w
section
variable {P:Program}{Q:Exit->Act->World->Prop}{n:Nat}{L:Fr}{D:List Deferred}{w:World}{ops:Array Oper}{rest:List Oper}
variable {ty:TypeId}{pos:String}{af:Array Edge}{dst:Option Nat}{gdd:Option (Nat×Bool)}{x y:Operand}
theorem xbd{t:TypeId}{ps:List (Nat×Operand)}{m bytes:Nat}{z r:List Value}{pl:List (Nat×Nat)}(ht:TI P t true m bytes z)(hp:SP P t pl)
  (hr:AEE (pl[·]?) z (ps.map fun p=>(p.1,(ev n L p.2).cells.toList))=some r):
  (execOp (ev n L) {dst:=dst,op:=.build t ps.toArray,type:=ty,pos:=pos,after:=af,guard:=gdd}).run P w=.ok (.value (.agg r.toArray)) w:=by
 obtain⟨v,hv,hc,_⟩:=ht.zero w;obtain⟨fs,hu,hm⟩:=hp.run w;have hf:=AFU (place:=(pl[·]?)) (ps.map fun p=>(p.1,ev n L p.2)) z r (by simpa[List.map_map,Function.comp_def]using hr);simp only[execOp,Instr.build,Sem.run_bind,hv,Result.andThen_ok,run_underlying hu,hc];have e:(Array.map (fun x:Nat×Operand=>(x.1,ev n L x.2)) ps.toArray).toList=ps.map fun p=>(p.1,ev n L p.2):=by simp
 simp only[e];rw[hm];simp only[Result.andThen_ok];have e2:(fun i:Nat=>pl.toArray[i]?)=(fun i:Nat=>pl[i]?):=by funext i;simp
 simp only[e2,hf]
 rfl
theorem AQF{t e len:TypeId}{ps:List (Nat×Operand)}{m bytes m' bytes':Nat}{agg:Bool}{z z' r:List Value}(ht:TI P t true m bytes z)(hu:P.underlying t=some (.array len e))(he:TI P e agg m' bytes' z')
  (hr:AEE (fun i=>some (i*m',m')) z (ps.map fun p=>(p.1,(ev n L p.2).cells.toList))=some r):
  (execOp (ev n L) {dst:=dst,op:=.build t ps.toArray,type:=ty,pos:=pos,after:=af,guard:=gdd}).run P w=.ok (.value (.agg r.toArray)) w:=by
 obtain⟨v,hv,hc,_⟩:=ht.zero w;have hf:=AFU (place:=fun i=>some (i*m',m')) (ps.map fun p=>(p.1,ev n L p.2)) z r (by simpa[List.map_map,Function.comp_def]using hr);have e:(Array.map (fun x:Nat×Operand=>(x.1,ev n L x.2)) ps.toArray).toList=ps.map fun p=>(p.1,ev n L p.2):=by simp
 simp only[execOp,Instr.build,Sem.run_bind,hv,Result.andThen_ok,run_underlying hu,hc,he.size,e,hf]
 rfl
theorem sbs{d:Nat}{t e:TypeId}{agg:Bool}{m bytes:Nat}{z:List Value}{vs:List Operand}{ps:List (Nat×Operand)}{len:Nat}{cs:List Value}(ht:P.underlying t=some (.slice e))(he:TI P e agg m bytes z)(hm:Nat.ble 1 m=true)
  (hps:ps=vs.zipIdx.map fun x=>(x.2,x.1)) (hlen:vs.length=len) (h24:Nat.ble (len*m) 16777216=true) (hs:vs.all (fun v=>Nat.beq (ev n L v).cells.size m)=true)
  (hcs:(vs.map (ev n L)).flatMap (fun v=>v.cells.toList)=cs)
  (k:∀b w',Ext w w'->w.heap.size<=b->Bx w' b e cs->wpList P ops Q rest (act n (vG L d (.slice (some ⟨b,0,none⟩) len len)) D) w'):
  wpList P ops Q ({dst:=some d,op:=.buildSlice t len ps.toArray,type:=ty,pos:=pos,after:=af,guard:=none}::rest) (act n L D) w:=by
 obtain⟨v,hv,hc,_⟩:=he.zero w;have hm':0<m:=Nat.le_of_ble_eq_true hm;have h24':¬len*m>2^24:=by have:=Nat.ble_eq▸h24;simp at this⊢;omega
 have hss:∀u∈vs.map (ev n L),u.cells.size=m:=by
  intro u hu;obtain⟨o,ho,rfl⟩:=List.mem_map.1 hu;simpa using List.all_eq_true.1 hs o ho
 have e1:(Array.map (fun x:Nat×Operand=>(x.1,ev n L x.2)) ps.toArray).toList=((vs.map (ev n L)).zipIdx 0).map fun x=>(x.2,x.1):=by
  subst hps;simp[List.zipIdx_map,List.map_map,Function.comp_def]
 have hf:∀(z0:Array Value),Instr.fill (fun i=>some (i*m,m)) ((Array.range (len*m)).map (z0[·% z0.size]!)) (((vs.map (ev n L)).zipIdx 0).map fun x=>(x.2,x.1))=some cs.toArray:=by
  intro z0;rw[Great.fill_whole hm' _ _ hss (by simp[hlen]),hcs]
 refine vl rfl rfl (w':=w.alloc (.cells cs.toArray e)) (v:=.slice (some ⟨w.heap.size,0,none⟩) len len) ?_ (k _ _ (Ext.alloc _ _) (Nat.le_refl _) (Bx.new w e cs));simp only[execOp,Instr.buildSlice,Sem.run_bind,run_underlying ht,Result.andThen_ok,he.size,if_neg h24',e1];by_cases h0:len*m=0
 ·have:=hf #[]
  rw[if_pos h0];simp only[pure_bind,Sem.run_bind,Sem.run_pure,Result.andThen_ok,this]
  rfl
 ·have:=hf v.cells
  rw[if_neg h0];simp only[Sem.run_bind,hv,Result.andThen_ok,Sem.run_pure,this]
  rfl
def Row{α:Type}[Enc α][Flat α](e:TypeId)(base:Nat)(w:World)(v:Value)(l:List α):Prop:=w.ownsRow base e (Enc.n α) v l.length (l.flatMap Flat.enc)
variable {α:Type}[Enc α][Flat α]{e:TypeId}{base:Nat}{v:Value}{l k:List α}{w':World}
theorem Row.nil:Row (α:=α) e base w (.slice none 0 0) []:=World.ownsRow_nil _ _ _ _
theorem Row.ext(h:Row e base w v l)(k:Ext w w'):Row e base w' v l:=by
 refine⟨h.1,?_⟩;rcases h.2 with hn|⟨g,cap,cur,e1,hb,hg,r⟩
 ·exact .inl hn
 ·exact .inr ⟨g,cap,cur,e1,hb,(k.block g (Array.getElem?_eq_some_iff.1 hg).1).trans hg,r⟩
theorem Row.lit{b m:Nat}(hb:base<=b)(hx:Bx w b e (l.flatMap Flat.enc))(hm:l.length=m)(h63:m<=maxLen):Row e base w (.slice (some ⟨b,0,none⟩) m m) l:=by
 subst hm;exact⟨Flat.flen l,.inr ⟨b,l.length,_,rfl,hb,hx,Nat.le_refl _,h63,by rw[List.size_toArray,Flat.flen],by rw[List.take_of_length_le (by rw[Flat.flen];exact Nat.le_refl _)]⟩⟩
theorem Row.rvo(h:Row e base w v l):RVo (fun b=>base<=b) w v l:=by
 rcases h.2 with⟨rfl,h0⟩|⟨g,cap,cur,rfl,hb,hg,hnc,hcm,_,_⟩
 ·have:l=[]:=List.eq_nil_of_length_eq_zero h0
  subst this;exact RVo.nil (Nat.zero_le _)
 ·refine RVo.sl.2 ⟨_,cap,rfl,hnc,hcm,.inr ⟨g,0,rfl,hb,(Array.getElem?_eq_some_iff.1 hg).1,fun i x hx=>⟨Flat.enc x,Flat.iff.2 rfl,fun j c hc=>?_⟩⟩⟩
  have:=h.cells (g:=g) rfl (i*Enc.n α+j) c (AEj l i x j c hx hc);rw[AAq]at this;simpa[Nat.add_assoc]using this
theorem Row.rv(h:Row e base w v l):RV w v l:=h.rvo.rv
theorem Row.bnd{B:Nat}(h:Row e base w v l)(hB:B<=base):Row e B w v l:=by
 refine⟨h.1,?_⟩;rcases h.2 with hn|⟨g,cap,cur,e1,hb,r⟩
 ·exact .inl hn
 ·exact .inr ⟨g,cap,cur,e1,by omega,r⟩
theorem AHi{w:World}{b off:Nat}:∀(k:List α)(i0:Nat),(∀i x,k[i]?=some x->Cs w b (off+(i0+i)*Enc.n α) (Flat.enc x))->∀j u,(k.flatMap Flat.enc)[j]?=some u->w.cell? ⟨b,off+i0*Enc.n α+j,none⟩=some u
 |[],_,_,j,u,h=>by simp at h
 |x::k,i0,hk,j,u,h=>by
  rw[List.flatMap_cons]at h;by_cases hj:j<(Flat.enc x).length
  ·rw[List.getElem?_append_left hj]at h
   simpa using hk 0 x rfl j u h
  ·rw[List.getElem?_append_right (by omega)]at h
   have:=AHi k (i0+1) (fun i y hy=>by have:=hk (i+1) y hy;rwa [show i0+(i+1)=i0+1+i by omega]at this) _ u h;rw[Flat.len]at this hj;rwa [Nat.add_mul,show off+(i0*Enc.n α+1*Enc.n α)+(j-Enc.n α)=off+i0*Enc.n α+j by omega]at this
end
end
end Go.Md
end
section
namespace Go.Md
open Go Go.RowKit
section
variable {P:Program}{Q:Exit->Act->World->Prop}{n:Nat}{L:Fr}{D:List Deferred}{w:World}{ops:Array Oper}{rest:List Oper}
theorem gfn{o:Oper}{j:Nat}{b:Bool}{oj:Oper}{t d:Nat}(hg:o.guard=some (j,b))(hj:ops[j]?=some oj)(hd:oj.dst=some t)(ht:Nat.blt t n=true)
  (hv:L t≠.bool b) (hdd:o.dst=some d) (h:wpList P ops Q rest (act n (vG L d undef) D) w):wpList P ops Q (o::rest) (act n L D) w:=by
 have hw:Region.wanted o (yielded ops (act n L D).tmps)=false:=by
  simp only[Region.wanted,hg,yielded,hj,hd,Option.bind_some,AAP n L D t ht];cases hL:L t<;>simp;rename_i c;intro e;exact hv (by rw[hL,e])
 unfold wpList;rw[if_neg (by simp[hw]),hdd,yS];exact h
theorem gv{o:Oper}{j:Nat}{b W:Bool}{oj:Oper}{t d:Nat}{v:Value}(hg:o.guard=some (j,b))(hj:ops[j]?=some oj)(hd:oj.dst=some t)(ht:Nat.blt t n=true)
  (hw:(W=true->L t=.bool b)/\(W=false->L t≠.bool b)) (hdd:o.dst=some d) (h:W=true->(execOp (ev n L) o).run P w=.ok (.value v) w)
  (k:wpList P ops Q rest (act n (vG L d (bif W then v else undef)) D) w):wpList P ops Q (o::rest) (act n L D) w:=by
 cases hW:W with
 |true=>
  subst hW;refine gt (b:=b) hg hj hd ht (hw.1 rfl) (vl (o:={o with guard:=none}) rfl hdd (v:=v) ?_ (by simpa using k));exact h rfl
 |false=>
  subst hW;exact gfn hg hj hd ht (hw.2 rfl) hdd (by simpa using k)
theorem gc{o:Oper}{j:Nat}{b W:Bool}{oj:Oper}{t d:Nat}{g:FuncId}{args:Array Value}{R:Value->World->Prop}(hg:o.guard=some (j,b))(hj:ops[j]?=some oj)(hd:oj.dst=some t)(ht:Nat.blt t n=true)
  (hw:(W=true->L t=.bool b)/\(W=false->L t≠.bool b)) (hdd:o.dst=some d) (h:W=true->(execOp (ev n L) o).run P w=.ok (.enter g args) w) (hc:W=true->Calls P g args w (IA R))
  (k:∀v w',(W=true->R v w')->(W=false->v=undef/\w'=w)->wpList P ops Q rest (act n (vG L d v) D) w'):wpList P ops Q (o::rest) (act n L D) w:=by
 cases hW:W with
 |true=>exact gt (b:=b) hg hj hd ht (hw.1 hW) (cl (o:={o with guard:=none}) rfl hdd (g:=g) (args:=args) (R:=R) (h hW) (hc hW) fun v w' hr=>k v w' (fun _=>hr) (fun h=>by simp[hW]at h))
 |false=>exact gfn hg hj hd ht (hw.2 hW) hdd (k undef w (fun h=>by simp[hW]at h) (fun _=>⟨rfl,rfl⟩))
theorem gm{o:Oper}{j:Nat}{b W:Bool}{oj:Oper}{t d:Nat}(R:Value->World->Prop)(hg:o.guard=some (j,b))(hj:ops[j]?=some oj)(hd:oj.dst=some t)(ht:Nat.blt t n=true)
  (hw:(W=true->L t=.bool b)/\(W=false->L t≠.bool b)) (hdd:o.dst=some d)
  (h:W=true->wpList P ops (fun e a w=>match e with|.normal=>∃v,a=act n (vG L d v) D/\R v w|_=>False) [{o with guard:=none}] (act n L D) w)
  (k:∀v w',(W=true->R v w')->(W=false->v=undef/\w'=w)->wpList P ops Q rest (act n (vG L d v) D) w'):wpList P ops Q (o::rest) (act n L D) w:=by
 cases hW:W with
 |true=>
  refine gt (b:=b) hg hj hd ht (hw.1 hW) ?_;have h1:=h hW;unfold wpList at h1⊢;rw[if_pos (by simp[Region.wanted])]at h1⊢;rcases h1 with h1|⟨_,_,_,h1⟩
  case inr=>exact h1.elim
  refine .inl ?_;unfold Oper.wp at*
  generalize(execOp (act n L D).eval {o with guard:=none}).run P w=r at*
  have fin:∀a' w',wpList P ops (fun e a w=>match e with|.normal=>∃v,a=act n (vG L d v) D/\R v w|_=>False) [] a' w'->wpList P ops Q rest a' w':=by
   intro a' w' hh;unfold wpList at hh;obtain⟨v,rfl,hr⟩:=hh;exact k v w' (fun _=>hr) (fun h=>by simp[hW]at h)
  cases r with
  |ok m w'=>
   cases m<;>simp only[Oper.upon]at h1⊢<;>
    first
     |exact fin _ _ h1
     |exact Calls.mono h1 (fun e w'' he=>by cases e<;>first|exact fin _ _ he|exact he.elim|(obtain⟨_,_,he⟩:=he;exact he.elim))
     |exact Rows.mono h1 (fun _ _ he=>fin _ _ he)
  |halt x w'=>cases x<;>simp only[Oper.upon]at h1
 |false=>exact gfn hg hj hd ht (hw.2 hW) hdd (k undef w (fun h=>by simp[hW]at h) (fun _=>⟨rfl,rfl⟩))
theorem xB{t:Nat}{g:Bool}(hv:L t=.bool g):(g=true->L t=.bool true)/\(g=false->L t≠.bool true):=by
 rw[hv];cases g<;>simp
theorem EO{t:Nat}{g:Bool}(hv:L t=.bool g):((!g)=true->L t=.bool false)/\((!g)=false->L t≠.bool false):=by
 rw[hv];cases g<;>simp
theorem mv{W:Bool}{y v u:Value}(hc:W=true)(h:y=bif W then v else u):y=v:=by subst hc;exact h
theorem mkw{W:Bool}{v a:Value}(h1:W=true->v=a)(h2:W=false->v=undef):v=bif W then a else undef:=by cases W<;>simp_all
theorem gx{W:Bool}{A:Prop}(h1:W=true->A)(h2:W=false->A):A:=by cases hW:W;exact h2 hW;exact h1 hW
theorem xpa{c q:Bool}{ty:TypeId}{pos:String}{af:Array Edge}{dst:Option Nat}{gd:Option (Nat×Bool)}{x y z:Operand}(hx:ev n L x=.bool c)(hy:ev n L y=bif c then .bool q else undef)(hz:ev n L z=.bool false):
  (execOp (ev n L) {dst:=dst,op:=.pick x y z,type:=ty,pos:=pos,after:=af,guard:=gd}).run P w=.ok (.value (.bool (c&&q))) w:=by
 rw[xpk hx,hy,hz];cases c<;>rfl
theorem xpo{c q:Bool}{ty:TypeId}{pos:String}{af:Array Edge}{dst:Option Nat}{gd:Option (Nat×Bool)}{x y z:Operand}(hx:ev n L x=.bool c)(hz:ev n L z=bif !c then .bool q else undef)(hy:ev n L y=.bool true):
  (execOp (ev n L) {dst:=dst,op:=.pick x y z,type:=ty,pos:=pos,after:=af,guard:=gd}).run P w=.ok (.value (.bool (c||q))) w:=by
 rw[xpk hx,hy,hz];cases c<;>rfl
variable {S:World->Prop}{T:List Nat}{QQ:Act->World->Prop}
theorem wpl{id:Nat}{l:List Oper}(T:List Nat)(p:Plan)(hm:P.follows .mixedOrders=true)
  (hok:(Region.noSelect l.toArray&&p.ok l.toArray T false l.length (Array.replicate l.length false))=true)
  (h:∀wd,Ext w wd->p.wp P l.toArray (fun w'=>Ext wd w') T (Q .normal) false (act n L D) wd):(Code.region id l.toArray true).wp P Q (act n L D) w:=
 APY _ T p hm hok (h w.drew (Ext.drew w))
theorem pv{any:Bool}{i:Nat}{p:Plan}{o:Oper}{d:Nat}{v:Value}(ho:ops[i]?=some o)(hg:o.guard=none)(hd:o.dst=some d)
  (h:∀w',(any=true\/S w')->(execOp (ev n L) o).run P w'=.ok (.value v) w') (hS:any=true\/S w) (k:p.wp P ops S T QQ false (act n (vG L d v) D) w):
  Plan.wp P ops S T QQ false (.pure any i p) (act n L D) w:=by
 refine⟨o,v,ho,.inl ⟨by simp[Region.wanted,hg],fun w' hw'=>by rw[AAW];exact h w' hw'⟩,hS,?_⟩;rw[hd,yS];exact k
theorem pe{i:Nat}{p m:Plan}{o:Oper}(ho:ops[i]?=some o)
  (h:wpList P ops (fun e a' w'=>match e with|.normal=>(i∉T->S w->S w')/\p.wp P ops S T QQ false a' w'|_=>False) [o] (act n L D) w) (hm:m.wp P ops S T QQ true (act n L D) w):
  Plan.wp P ops S T QQ false (.eff i p m) (act n L D) w:=by
 refine⟨?_,hm⟩;unfold opC wpOp;simp only[ho];unfold wpList at h;split
 ·rename_i hw
  rw[if_pos hw]at h;rcases h with h|⟨_,_,_,h⟩
  case inr=>exact h.elim
  refine .inl ?_;unfold Oper.wp at*
  generalize(execOp (act n L D).eval o).run P w=r at*
  have fin:∀a' w',wpList P ops (fun e a' w'=>match e with|.normal=>(i∉T->S w->S w')/\p.wp P ops S T QQ false a' w'|_=>False) [] a' w'->(i∉T->S w->S w')/\p.wp P ops S T QQ false a' w':=by
   intro a' w' hh;unfold wpList at hh;exact hh
  cases r with
  |ok q w'=>
   cases q<;>simp only[Oper.upon]at h⊢<;>
    first
     |exact fin _ _ h
     |exact Calls.mono h (fun e w'' he=>by cases e<;>first|exact fin _ _ he|exact he.elim|(obtain⟨_,_,he⟩:=he;exact he.elim))
     |exact Rows.mono h (fun _ _ he=>fin _ _ he)
  |halt x w'=>cases x<;>simp only[Oper.upon]at h
 ·rename_i hw
  rw[if_neg hw]at h;unfold wpList at h;exact h
theorem pe1{i:Nat}{p:Plan}{o:Oper}(ho:ops[i]?=some o)
  (h:wpList P ops (fun e a' w'=>match e with|.normal=>(i∉T->S w->S w')/\p.wp P ops S T QQ false a' w'|_=>False) [o] (act n L D) w):
  Plan.wp P ops S T QQ false (.eff i p .stop) (act n L D) w:=pe ho h trivial
end
def FnB(P:Program)(α:Type)[Enc α](w:World)(v:Value)(p:α->Option Bool):Prop:=
 ∃g fs cs,v=.func (.func g) (List.toArray fs) (List.toArray cs)/\Ad P g/\∀w' u x b,Ext w w'->RV w' u x->p x=some b->
  Calls P g (fs++[u]++cs).toArray w' (IA fun r w''=>r=.bool b/\Ext w' w'')
theorem FnB.ext{P:Program}{α:Type}[Enc α]{w w':World}{v:Value}{p:α->Option Bool}(h:FnB P α w v p)(k:Ext w w'):FnB P α w' v p:=
 let⟨g,fs,cs,e,c,h⟩:=h
 ⟨g,fs,cs,e,c,fun w2 u x b h2=>h w2 u x b (k.tr h2)⟩
end Go.Md
namespace Go.Md
open Go Go.RowKit
inductive RVs(P:Program)(w:World)(n:Nat)(L:Fr):List ResultVar->List Value->Prop
 |nil:RVs P w n L [] []
 |tmp {t:Nat} {v:Value} {rs:List ResultVar} {vs:List Value} (hv:L t=v) (ht:Nat.blt t n=true) (h:RVs P w n L rs vs):RVs P w n L (.tmp t::rs) (v::vs)
 |cell {t:Nat} {ty:TypeId} {b o m bytes:Nat} {z cs:List Value} {rs:List ResultVar} {vs:List Value} (hv:L t=.pointer (some ⟨b,o,none⟩)) (ht:Nat.blt t n=true) (hi:TI P ty true m bytes z) (hl:cs.length=m)
   (hc:Cs w b o cs) (h:RVs P w n L rs vs):RVs P w n L (.cell t ty::rs) (.agg cs.toArray::vs)
 |cell1 {t:Nat} {ty:TypeId} {b o m bytes:Nat} {z:List Value} {c:Value} {rs:List ResultVar} {vs:List Value} (hv:L t=.pointer (some ⟨b,o,none⟩)) (ht:Nat.blt t n=true) (hi:TI P ty false m bytes z)
   (hc:w.cell? ⟨b,o,none⟩=some c) (h:RVs P w n L rs vs):RVs P w n L (.cell t ty::rs) (c::vs)
def res:List Value->Value
 |[v]=>v
 |vs=>.tuple vs.toArray
def AFW(tmps:Array Value)(r:ResultVar):Sem Value:=match r with
 |.tmp t=>pure (tmps.getD t undef)
 |.cell a t=>do loadVar t (<-asAddr (tmps.getD a undef))
theorem AGd(n:Nat)(L:Fr)(D:List Deferred)(t:Nat)(h:Nat.blt t n=true):(act n L D).tmps.getD t undef=L t:=by
 simp[Array.getD_eq_getD_getElem?,AAP n L D t h]
theorem RVs.run{P:Program}{w:World}{n:Nat}{L:Fr}{D:List Deferred}:∀{rs:List ResultVar}{vs:List Value},RVs P w n L rs vs->
  (rs.mapM (AFW (act n L D).tmps)).run P w=Result.ok vs w
 |_,_,.nil=>by simp
 |_,_,.tmp (t:=t) (v:=v) hv ht h=>by
  have ih:=RVs.run (D:=D) h;have h1:(AFW (act n L D).tmps (.tmp t)).run P w=.ok v w:=by simp only[AFW,AGd n L D t ht,hv];rfl
  simp only[List.mapM_cons,Sem.run_bind,h1,Result.andThen_ok,ih,Sem.run_pure]
 |_,_,.cell (t:=t) (ty:=ty) (b:=b) (o:=o) (cs:=cs) hv ht hi hl hc h=>by
  have ih:=RVs.run (D:=D) h;have hld:=run_loadCells_list (P:=P) w ⟨b,o,none⟩ cs (fun j v hv=>by rw[AAq];exact hc j v hv);rw[hl]at hld;have h1:(AFW (act n L D).tmps (.cell t ty)).run P w=.ok (.agg cs.toArray) w:=by
   simp[AFW,AGd n L D t ht,hv,asAddr,loadVar,hi.ag,hi.size,hld,-Array.getD_eq_getD_getElem?]
  simp only[List.mapM_cons,Sem.run_bind,h1,Result.andThen_ok,ih,Sem.run_pure]
 |_,_,.cell1 (t:=t) (ty:=ty) (b:=b) (o:=o) (c:=c) hv ht hi hc h=>by
  have ih:=RVs.run (D:=D) h;have h1:(AFW (act n L D).tmps (.cell t ty)).run P w=.ok c w:=by
   simp[AFW,AGd n L D t ht,hv,asAddr,loadVar,hi.ag,hc,-Array.getD_eq_getD_getElem?]
  simp only[List.mapM_cons,Sem.run_bind,h1,Result.andThen_ok,ih,Sem.run_pure]
section
variable {P:Program}{w:World}{n:Nat}{L:Fr}
theorem RVs.results{D:List Deferred}{fn:Func}{rs:List ResultVar}{vs:List Value}(hr:fn.results=rs.toArray)(h:RVs P w n L rs vs):(results fn (act n L D).tmps).run P w=.ok (res vs) w:=by
 have h1:=RVs.run (D:=D) h;have e:Go.results fn (act n L D).tmps=(do
   let vs<-fn.results.mapM (AFW (act n L D).tmps)
   pure (if h:vs.size=1 then vs[0]else .tuple vs)):=rfl
 rw[e,hr,List.mapM_toArray];simp only[Sem.run_bind,Sem.run_map,h1,Result.andThen_ok,Sem.run_pure]
 congr 1
 match vs with
 |[]=>rfl
 |[v]=>rfl
 |_::_::_=>simp[res]
theorem rt{fn:Func}{R:Value->World->Prop}{rs:List ResultVar}{vs:List Value}(hr:fn.results=rs.toArray)(h:RVs P w n L rs vs)(hR:R (res vs) w):bodyPost P fn (IA R) .ret (act n L []) w:=
 ⟨rfl,_,h.results hr,_,rfl,hR⟩
theorem rtn{fn:Func}{R:Value->World->Prop}{rs:List ResultVar}{vs:List Value}(hr:fn.results=rs.toArray)(h:RVs P w n L rs vs)(hR:R (res vs) w):bodyPost P fn (IA R) .normal (act n L []) w:=
 ⟨rfl,_,h.results hr,_,rfl,hR⟩
end
end Go.Md
namespace Go.Md
open Go Go.RowKit
section
variable {P:Program}{Q:Exit->Act->World->Prop}{n:Nat}{L:Fr}{D:List Deferred}{w:World}{ops:Array Oper}{rest:List Oper}
variable {ty:TypeId}{pos:String}{af:Array Edge}{dst:Option Nat}{gdd:Option (Nat×Bool)}{x y:Operand}
theorem mn:([]:List Operand).map (ev n L)=[]:=rfl
theorem mc{x:Operand}{xs:List Operand}{v:Value}{vs:List Value}(h:ev n L x=v)(h2:xs.map (ev n L)=vs):(x::xs).map (ev n L)=v::vs:=by rw[List.map_cons,h,h2]
theorem xc{g:FuncId}{os:List Operand}{l:List Value}{tys:Array TypeId}(h:Ad P g)(hl:os.map (ev n L)=l):
  (execOp (ev n L) {dst:=dst,op:=.call {callee:=.value (.func g),args:=os.toArray,argTypes:=tys},type:=ty,pos:=pos,after:=af,guard:=gdd}).run P w=.ok (.enter g l.toArray) w:=hl▸xcl h
theorem xcv{g:FuncId}{fs cs l l':List Value}{os:List Operand}{tys:Array TypeId}(hx:ev n L x=.func (.func g) fs.toArray cs.toArray)(h:Ad P g)(hl:os.map (ev n L)=l)(he:fs++l++cs=l'):
  (execOp (ev n L) {dst:=dst,op:=.call {callee:=.value x,args:=os.toArray,argTypes:=tys},type:=ty,pos:=pos,after:=af,guard:=gdd}).run P w=.ok (.enter g l'.toArray) w:=
 ATM hx h (by rw[hl];exact he)
theorem xmf{f:Fn}{fs cs:List Operand}{l k:List Value}(h1:fs.map (ev n L)=l)(h2:cs.map (ev n L)=k):
  (execOp (ev n L) {dst:=dst,op:=.makeFunc f fs.toArray cs.toArray,type:=ty,pos:=pos,after:=af,guard:=gdd}).run P w=.ok (.value (.func f l.toArray k.toArray)) w:=by subst h1;subst h2;exact ATL
theorem lf{R:Fr->World->Prop}(h:R L w):Mt R n D (act n L D) w:=⟨L,rfl,h⟩
theorem lq{I:Nat->Fr->World->Prop}{m:Nat}(m':Nat)(hlt:m'<m)(h:I m' L w):gK I m n D (act n L D) w:=⟨m',L,hlt,rfl,h⟩
theorem FY{v:Value}(h:ev n L x=v):(execOp (ev n L) {dst:=dst,op:=.move x,type:=ty,pos:=pos,after:=af,guard:=gdd}).run P w=.ok (.value v) w:=h▸Zk
theorem ATO{v:Value}(h:ev n L x=v):(execOp (ev n L) {dst:=dst,op:=.assign x,type:=ty,pos:=pos,after:=af,guard:=gdd}).run P w=.ok (.value v) w:=h▸xas
theorem APZ{t:TypeId}{a b:Bool}(ht:P.underlying t=some .bool):(Op.equal t (.bool a) (.bool b)).run P w=.ok (a==b) w:=by
 show(Op.equalIn (9999+1) t _ _).run P w=_;rw[Op.equalIn];simp only[Sem.run_bind,run_underlying ht,Result.andThen_ok]
 rfl
theorem ATP{t t':TypeId}{a b:Bool}(ht:P.underlying t=some .bool)(hx:ev n L x=.bool a)(hy:ev n L y=.bool b):(execOp (ev n L) {dst:=dst,op:=.binOp .neq t x y t',type:=ty,pos:=pos,after:=af,guard:=gdd}).run P w=.ok (.value (.bool (!(a==b)))) w:=by
 simp only[execOp,hx,hy,eqGuard,Go.binOp,Sem.run_bind,APZ ht]
 rfl
end
theorem Ext.chg{a w w':World}{b:Nat}(h:Ext a w)(c:Chg b w w')(hb:a.heap.size<=b):Ext a w':=h.trans (c.below hb)
theorem Ext.grow{a b w w':World}(h:Ext a w)(hab:a.heap.size<=b.heap.size)(c:Below b.heap.size w w'):Ext a w':=h.trans (c.mono hab)
theorem Cs.sub{w:World}{b o:Nat}{cs:List Value}(h:Cs w b o cs)(k m:Nat):Cs w b (o+k) ((cs.drop k).take m):=fun j c hc=>by
 have hj:j<m:=by
  rcases Nat.lt_or_ge j m with h'|h'
  ·exact h'
  ·rw[List.getElem?_take,if_neg (by omega)]at hc;cases hc
 rw[List.getElem?_take,if_pos hj,List.getElem?_drop]at hc;have:=h (k+j) c hc;rwa [<-Nat.add_assoc]at this
theorem ix2{α:Type}[Enc α]{w:World}{b off n cap:Nat}{l:List α}{i:Int}{x:α}(h:RV w (.slice (some ⟨b,off,none⟩) n cap) l)(hi:ix l i=some x):
  ∃cs,0<=i/\i<l.length/\Enc.rep (fun _=>True) w cs x/\Cs w b (off+i.toNat*Enc.n α) cs:=by
 obtain⟨b',off',cs,e,h0,h1,h2,h3⟩:=h.els.ix hi;cases e;exact⟨cs,h0,h1,h2,h3⟩
theorem ble{a b:Nat}(h:Nat.ble a b=true):a<=b:=Nat.le_of_ble_eq_true h
theorem SP.mk'{P:Program}{t:TypeId}{pl:List (Nat×Nat)}{fs:Array Field}(hu:P.underlying t=some (.struct fs))(hs:fs.toList.map (fun f=>(f.offset,(P.info? f.type).map (·.size)))=pl.map (fun p=>(p.1,some p.2))):SP P t pl:=by
 refine⟨fun w=>⟨fs,hu,?_⟩⟩;have key:∀(l:List Field)(pl:List (Nat×Nat)),l.map (fun f=>(f.offset,(P.info? f.type).map (·.size)))=pl.map (fun p=>(p.1,some p.2))->
   (l.mapM (fun(f:Field)=>(do pure (f.offset,<-sizeOf f.type):Sem (Nat×Nat)))).run P w=.ok pl w:=by
  intro l
  induction l with
  |nil=>intro pl h;cases pl<;>simp_all
  |cons f l ih=>
   intro pl h;cases pl with
   |nil=>simp at h
   |cons p pl=>
    simp only[List.map_cons,List.cons.injEq,Prod.mk.injEq]at h;obtain⟨⟨h1,h2⟩,h3⟩:=h;obtain⟨i,hi,hsz⟩:=Option.map_eq_some_iff.1 h2;have h4:=ih pl h3;have h5:(sizeOf f.type).run P w=.ok p.2 w:=by simp[sizeOf,typeInfo,hi,hsz]
    simp only[List.mapM_cons,Sem.run_bind,h5,Result.andThen_ok,h4,Sem.run_pure,h1]
 have e:fs=fs.toList.toArray:=by simp
 rw[e,List.mapM_toArray,Sem.run_map,key _ pl hs]
 rfl
end Go.Md
namespace Go.Md
open Go Go.RowKit
section
variable {P:Program}{Q:Exit->Act->World->Prop}{n:Nat}{L:Fr}{D:List Deferred}{w:World}{ops:Array Oper}{rest:List Oper}
variable {ty:TypeId}{pos:String}{af:Array Edge}{dst:Option Nat}{gdd:Option (Nat×Bool)}{x y:Operand}
theorem pn:([]:List (Nat×Operand)).map (fun p=>(p.1,ev n L p.2))=[]:=rfl
theorem pc{i:Nat}{x:Operand}{xs:List (Nat×Operand)}{v:Value}{vs:List (Nat×Value)}(h:ev n L x=v)(h2:xs.map (fun p=>(p.1,ev n L p.2))=vs):
  ((i,x)::xs).map (fun p=>(p.1,ev n L p.2))=(i,v)::vs:=by rw[List.map_cons,h2,h]
theorem AAe{t:TypeId}{ps:List (Nat×Operand)}{l:List (Nat×Value)}{m bytes:Nat}{z r:List Value}{pl:List (Nat×Nat)}(ht:TI P t true m bytes z)(hp:SP P t pl)(hl:ps.map (fun p=>(p.1,ev n L p.2))=l)
  (hr:AEE (pl[·]?) z (l.map fun p=>(p.1,p.2.cells.toList))=some r):
  (execOp (ev n L) {dst:=dst,op:=.build t ps.toArray,type:=ty,pos:=pos,after:=af,guard:=gdd}).run P w=.ok (.value (.agg r.toArray)) w:=by
 subst hl;exact xbd ht hp (by simpa[List.map_map,Function.comp_def]using hr)
theorem ARh{t e len:TypeId}{ps:List (Nat×Operand)}{l:List (Nat×Value)}{m bytes m' bytes':Nat}{agg:Bool}{z z' r:List Value}(ht:TI P t true m bytes z)(hu:P.underlying t=some (.array len e))(he:TI P e agg m' bytes' z')
  (hl:ps.map (fun p=>(p.1,ev n L p.2))=l) (hr:AEE (fun i=>some (i*m',m')) z (l.map fun p=>(p.1,p.2.cells.toList))=some r):
  (execOp (ev n L) {dst:=dst,op:=.build t ps.toArray,type:=ty,pos:=pos,after:=af,guard:=gdd}).run P w=.ok (.value (.agg r.toArray)) w:=by
 subst hl;exact AQF ht hu he (by simpa[List.map_map,Function.comp_def]using hr)
theorem AAR{d:Nat}{t e:TypeId}{agg:Bool}{m bytes:Nat}{z:List Value}{ps:List (Nat×Operand)}{r:List (Nat×Value)}{len:Nat}{cs:List Value}(ht:P.underlying t=some (.slice e))(he:TI P e agg m bytes z)(hm:Nat.ble 1 m=true)
  (hl:ps.map (fun p=>(p.1,ev n L p.2))=r) (hz:r=(r.map (·.2)).zipIdx.map (fun x=>(x.2,x.1))) (hlen:r.length=len) (h24:Nat.ble (len*m) 16777216=true) (hs:r.all (fun p=>Nat.beq p.2.cells.size m)=true)
  (hcs:r.flatMap (fun p=>p.2.cells.toList)=cs)
  (k:∀b w',Ext w w'->w.heap.size<=b->Bx w' b e cs->wpList P ops Q rest (act n (vG L d (.slice (some ⟨b,0,none⟩) len len)) D) w'):
  wpList P ops Q ({dst:=some d,op:=.buildSlice t len ps.toArray,type:=ty,pos:=pos,after:=af,guard:=none}::rest) (act n L D) w:=by
 have hps:ps.length=r.length:=by rw[<-hl];simp
 refine sbs (vs:=ps.map (·.2)) ht he hm ?_ (by simpa[hps]using hlen) h24 ?_ ?_ k
 ·have h1:ps.map (·.1)=r.map (·.1):=by rw[<-hl];simp[List.map_map,Function.comp_def]
  have h2:r.map (·.1)=List.range r.length:=by
   have:=congrArg (List.map (·.1)) hz;rw[List.map_map]at this;rw[this];apply List.ext_getElem?;intro i;by_cases hi:i<r.length<;>simp[hi]
  apply List.ext_getElem?;intro i;have h3:=congrArg (·[i]?) (h1.trans h2);by_cases hi:i<ps.length
  ·simp[hi,hps▸hi]at h3⊢
   ext
   ·simpa using h3
   ·rfl
  ·simp[hi,Nat.le_of_not_lt hi]
 ·rw[<-hl]at hs
  simpa[List.all_map,Function.comp_def]using hs
 ·rw[<-hl]at hcs
  rw[<-hcs];simp[List.flatMap_map,List.map_map,Function.comp_def]
end
end Go.Md
namespace Go.Md
open Go Go.RowKit
section
variable {P:Program}{Q:Exit->Act->World->Prop}{n:Nat}{L:Fr}{D:List Deferred}{w:World}{ops:Array Oper}{rest:List Oper}
variable {ty:TypeId}{pos:String}{af:Array Edge}{dst:Option Nat}{gdd:Option (Nat×Bool)}{x y z:Operand}
theorem yZ{α:Type}[Enc α][Flat α]{m:Nat}{X:Ar m α}{b o:Nat}{i:Int}{y:α}(h:Cs w b o (X.l.flatMap Flat.enc))(hi:ix X.l i=some y):
  0<=i/\i<m/\Cs w b (o+i.toNat*Enc.n α) (Flat.enc y):=by
 obtain⟨h0,h1,h2⟩:=vX hi;rw[X.h]at h1;refine⟨h0,h1,fun j c hc=>?_⟩;rw[Nat.add_assoc];exact h _ _ (AEj X.l _ y j c h2 hc)
theorem ADV{α:Type}[Enc α][Flat α](l:List α)(i:Nat)(v:α)(hi:i<l.length):iW (l.flatMap Flat.enc) (i*Enc.n α) (Flat.enc v)=(l.set i v).flatMap Flat.enc:=by
 induction l generalizing i with
 |nil=>simp at hi
 |cons x l ih=>
  cases i with
  |zero=>
   simp only[iW,Nat.zero_mul,List.take_zero,List.nil_append,Nat.zero_add,List.set_cons_zero,List.flatMap_cons,Flat.len];rw[List.drop_append_of_le_length (by rw[Flat.len];exact Nat.le_refl _),List.drop_of_length_le (by rw[Flat.len];exact Nat.le_refl _)]
   rfl
  |succ i=>
   have:=ih i (by simpa using hi);simp only[iW,List.set_cons_succ,List.flatMap_cons]at this⊢;rw[<-this];have e:(i+1)*Enc.n α=(Flat.enc x).length+i*Enc.n α:=by rw[Flat.len,Nat.add_mul];omega
   rw[e,List.take_append,List.take_of_length_le (by omega),show(Flat.enc x).length+i*Enc.n α-(Flat.enc x).length=i*Enc.n α by omega,
    show(Flat.enc x).length+i*Enc.n α+(Flat.enc v).length=(Flat.enc x).length+(i*Enc.n α+(Flat.enc v).length) by omega,List.drop_append,List.drop_of_length_le (by omega),
    show(Flat.enc x).length+(i*Enc.n α+(Flat.enc v).length)-(Flat.enc x).length=i*Enc.n α+(Flat.enc v).length by omega]
   simp[List.append_assoc]
theorem AFX{α:Type}[Enc α][Flat α]{m:Nat}{X:Ar m α}{i:Int}{y0 v:α}{t T:TypeId}{agg:Bool}{b bytes:Nat}{z:List Value}{vv:Value}(hp:ev n L x=.pointer (some ⟨b,0+i.toNat*Enc.n α,none⟩))(hy:ev n L y=vv)(hv:vv.cells=(Flat.enc v).toArray)
  (ht:TI P t agg (Enc.n α) bytes z) (hb:Bx w b T (X.l.flatMap Flat.enc)) (hi:ix X.l i=some y0)
  (k:∀w',Chg b w w'->Bx w' b T ((vZ X i v).l.flatMap Flat.enc)->wpList P ops Q rest (act n L D) w'):
  wpList P ops Q ({dst:=none,op:=.store t x y,type:=ty,pos:=pos,after:=af,guard:=none}::rest) (act n L D) w:=by
 obtain⟨h0,h1,h2⟩:=vX hi;have hil:i.toNat<X.l.length:=(List.getElem?_eq_some_iff.1 h2).1;have e:=ADV X.l i.toNat v hil;refine xk hp hy hv ht hb (Flat.len v) (List.all_eq_true.2 (Flat.one v)) ?_ fun w' hc hb'=>k w' hc ?_
 ·rw[Flat.len,Flat.flen,Nat.zero_add]
  have:=Nat.mul_le_mul_right (Enc.n α) (show i.toNat+1<=X.l.length from hil);rw[Nat.add_mul]at this;omega
 ·rw[Nat.zero_add,e]at hb'
  exact hb'
theorem Row.ge{α:Type}[Enc α][Flat α]{e:TypeId}{base b off len cap:Nat}{l:List α}(h:Row e base w (.slice (some ⟨b,off,none⟩) len cap) l):base<=b:=by
 rcases h.2 with⟨h,_⟩|⟨g,cap',cur,e1,hb,_⟩
 ·cases h
 ·cases e1;exact hb
theorem AGw{cur vs:List Value}{o:Nat}(hf:o+vs.length<=cur.length)(j:Nat):(iW cur o vs)[j]?=if o<=j/\j<o+vs.length then vs[j-o]? else cur[j]?:=by
 unfold iW;have h1:(cur.take o).length=o:=by rw[List.length_take];omega
 by_cases h:j<o
 ·rw[if_neg (by omega),List.append_assoc,List.getElem?_append_left (by omega),List.getElem?_take,if_pos h]
 ·by_cases h2:j<o+vs.length
  ·rw[if_pos (by omega),List.append_assoc,List.getElem?_append_right (by omega),List.getElem?_append_left (by omega),h1]
  ·rw[if_neg (by omega),List.append_assoc,List.getElem?_append_right (by omega),List.getElem?_append_right (by omega),List.getElem?_drop,h1]
   congr 1
   omega
theorem ADO{α:Type}[Enc α][Flat α]{l:List α}{i:Int}{y0 v:α}{t e:TypeId}{agg:Bool}{b off len cap base bytes:Nat}{z:List Value}{vv:Value}(hp:ev n L x=.pointer (some ⟨b,off+i.toNat*Enc.n α,none⟩))(hy:ev n L y=vv)(hv:vv.cells=(Flat.enc v).toArray)
  (ht:TI P t agg (Enc.n α) bytes z) (hr:Row e base w (.slice (some ⟨b,off,none⟩) len cap) l) (hi:ix l i=some y0)
  (k:∀w',Chg b w w'->Row e base w' (.slice (some ⟨b,off,none⟩) len cap) (NG l i v)->wpList P ops Q rest (act n L D) w'):
  wpList P ops Q ({dst:=none,op:=.store t x y,type:=ty,pos:=pos,after:=af,guard:=none}::rest) (act n L D) w:=by
 obtain⟨h0,h1,h2⟩:=vX hi;have hil:i.toNat<l.length:=(List.getElem?_eq_some_iff.1 h2).1;have hlen:=hr.1;rcases hr.2 with⟨hn,_⟩|⟨g,cap',cur,e1,hb,hg,hnc,hcm,hsz,hcur⟩
 ·cases hn
 ·cases e1
  have hle:=Nat.mul_le_mul_right (Enc.n α) (show i.toNat+1<=l.length from hil);have hle2:=Nat.mul_le_mul_right (Enc.n α) hnc;rw[Nat.add_mul,Nat.one_mul]at hle;have hcl:cur.toList.length=cap*Enc.n α:=by simpa using hsz
  have hg':Bx w b e cur.toList:=by simpa[Bx]using hg
  refine xk hp hy hv ht hg' (Flat.len v) (List.all_eq_true.2 (Flat.one v)) (by rw[Flat.len,hcl];omega) fun w' hc hb'=>k w' hc ?_;refine⟨Flat.flen _,.inr ⟨b,cap,_,by rw[NG,List.length_set],hb,hb',by rw[NG,List.length_set];exact hnc,hcm,?_,?_⟩⟩
  ·simp only[iW,List.size_toArray,List.length_append,List.length_take,List.length_drop,Flat.len]
   omega
  ·rw[NG,List.length_set,<-ADV l i.toNat v hil]
   have hxl:(l.flatMap Flat.enc).length=l.length*Enc.n α:=Flat.flen l;apply List.ext_getElem?;intro j;rw[show(iW cur.toList (0+i.toNat*Enc.n α) (Flat.enc v)).toArray.toList=iW cur.toList (0+i.toNat*Enc.n α) (Flat.enc v)from rfl,List.getElem?_take,AGw (by rw[Flat.len,hcl];omega),AGw (by rw[Flat.len,hxl];omega),<-hcur,List.getElem?_take];rw[Flat.len];by_cases hj:j<l.length*Enc.n α
   ·rw[if_pos hj,if_pos hj];simp only[Nat.zero_add]
   ·rw[if_neg hj,if_neg (by omega),if_neg hj]
end
end Go.Md
end
section
namespace Go.Md
open Go Go.RowKit
section
structure EQ(P:Program)(t:TypeId)(α:Type)[Enc α][Flat α][DecidableEq α](k:Nat):Prop where
 run:∀d w(x y:α),(Op.equalIn (d+k) t (Enc.val α (Flat.enc x)) (Enc.val α (Flat.enc y))).run P w=.ok (decide (x=y)) w
theorem EQ.int{P:Program}{t:TypeId}(h:P.underlying t=some (.int .i64)):EQ P t Int 1:=⟨fun d w x y=>by
 have:=run_equalIn_int (P:=P) w d t .i64 .i64 x y h;exact this⟩
theorem EQ.bool{P:Program}{t:TypeId}(h:P.underlying t=some .bool):EQ P t Bool 1:=⟨fun d w x y=>by
 have:=run_equalIn_bool' (P:=P) w d t x y h;refine Eq.trans this ?_;cases x<;>cases y<;>rfl⟩
theorem EQ.up{P:Program}{t k:Nat}{α:Type}[Enc α][Flat α][DecidableEq α](h:EQ P t α k):EQ P t α (k+1):=⟨fun d w x y=>by
 rw[show d+(k+1)=(d+1)+k by omega];exact h.run (d+1) w x y⟩
theorem ABK{P:Program}{e:TypeId}{β:Type}[Enc β][Flat β]{by':Nat}{z:List Value}(ht:TI P e (Enc.agg β) (Enc.n β) by' z)(w:World)(pre post:List Value)(y:β):
  (part e (pre++(Flat.enc y++post)).toArray pre.length).run P w=.ok (Enc.val β (Flat.enc y)) w:=by
 have hl:=Flat.len y;unfold part Enc.val;simp only[Sem.run_bind,ht.ag,Result.andThen_ok];cases ha:Enc.agg β with
 |true=>
  simp only[if_true,Sem.run_bind,ht.size,Result.andThen_ok,Sem.run_pure,cond_true]
  congr 2
  apply Array.ext';simp[<-hl]
 |false=>
  rw[Enc.sgl ha]at hl
  match hc:Flat.enc y,hl with
  |[c],_=>simp
structure EL(P:Program)(fs:List Field)(off:Nat)(α:Type)[Enc α][Flat α][DecidableEq α](k:Nat):Prop where
 run:∀d w(pre pre':List Value)(x y:α),pre.length=off->pre'.length=off->(Op.eqFields (d+k) (pre++Flat.enc x).toArray (pre'++Flat.enc y).toArray fs).run P w=.ok (decide (x=y)) w
theorem EL.one {P : Program} {f : Field} {off by' k : Nat} {z : List Value} {α : Type} [Enc α] [Flat α] [DecidableEq α] (hn : (f.name != "_") = true) (ho : f.offset = off) (ht : TI P f.type (Enc.agg α) (Enc.n α) by' z) (h : EQ P f.type α k) :
  EL P [f] off α k:=⟨fun d w pre pre' x y h1 h2=>by
 have p1:=ABK ht w pre [] x;have p2:=ABK ht w pre' [] y;rw[List.append_nil,h1]at p1;rw[List.append_nil,h2]at p2;have hn' : f.name ≠ "_" := by simpa using hn
 simp only[Op.eqFields,hn',ne_eq,not_false_eq_true,if_true,Sem.run_bind,ho,p1,p2,Result.andThen_ok,h.run];cases decide (x=y)<;>rfl⟩
theorem EL.cons {P : Program} {f : Field} {fs : List Field} {off by' k : Nat} {z : List Value} {α β : Type} [Enc α] [Flat α] [DecidableEq α] [Enc β] [Flat β] [DecidableEq β] (hn : (f.name != "_") = true) (ho : f.offset = off)
  (ht:TI P f.type (Enc.agg α) (Enc.n α) by' z) (h:EQ P f.type α k) (hs:EL P fs (off+Enc.n α) β k):EL P (f::fs) off (α×β) k:=⟨fun d w pre pre' x y h1 h2=>by
 obtain⟨x1,x2⟩:=x;obtain⟨y1,y2⟩:=y;have p1:=ABK ht w pre (Flat.enc x2) x1;have p2:=ABK ht w pre' (Flat.enc y2) y1;have p3:=hs.run d w (pre++Flat.enc x1) (pre'++Flat.enc y1) x2 y2 (by simp[h1,Flat.len]) (by simp[h2,Flat.len]);rw[h1]at p1;rw[h2]at p2;rw[List.append_assoc,List.append_assoc]at p3;have hn' : f.name ≠ "_" := by simpa using hn
 simp only[Op.eqFields,hn',ne_eq,not_false_eq_true,if_true,Sem.run_bind,ho];show Result.andThen ((part f.type (pre++(Flat.enc x1++Flat.enc x2)).toArray off).run P w) _=_;rw[p1];simp only[Result.andThen_ok];rw[show(pre'++Flat.enc (y1,y2))=pre'++(Flat.enc y1++Flat.enc y2)from rfl,p2];simp only[Result.andThen_ok,h.run];by_cases e:x1=y1
 ·subst e
  simp only[decide_true,Bool.not_true,Bool.false_eq_true,if_false];rw[show(pre++Flat.enc (x1,x2))=pre++(Flat.enc x1++Flat.enc x2)from rfl,p3];simp
 ·simp[e]⟩
theorem EQ.st{P:Program}{t k:Nat}{fs:List Field}{α:Type}[Enc α][Flat α][DecidableEq α](ha:Enc.agg α=true)(hu:P.underlying t=some (.struct fs.toArray))(hp:P.stoodInHeld t=false)(h:EL P fs 0 α k):EQ P t α (k+1):=⟨fun d w x y=>by
 have hf:P.fieldsOf t=fs.toArray:=by simp[Program.fieldsOf,hu]
 have:=h.run d w [] [] x y rfl rfl;unfold Enc.val;rw[ha];show(Op.equalIn (d+k+1) t (.agg (Flat.enc x).toArray) (.agg (Flat.enc y).toArray)).run P w=_;rw[run_equalIn_struct w (d+k) t _ _ (by rw[hf];exact hu) hp,hf];simpa using this⟩
theorem AH8{P:Program}{e by' k:Nat}{z:List Value}{α:Type}[Enc α][Flat α][DecidableEq α](he:TI P e (Enc.agg α) (Enc.n α) by' z)(h:EQ P e α k)(d:Nat)(w:World):∀(a b:List α)(pre pre':List α),a.length=b.length->pre.length=pre'.length->
  (Op.eqItems (d+k) e (Enc.n α) ((pre++a).flatMap Flat.enc).toArray ((pre'++b).flatMap Flat.enc).toArray (List.range' pre.length a.length)).run P w=.ok (decide (a=b)) w
 |[],[],_,_,_,_=>by simp[Op.eqItems]
 |x::a,y::b,pre,pre',hl,hp=>by
  have p1:=ABK he w (pre.flatMap Flat.enc) (a.flatMap Flat.enc) x;have p2:=ABK he w (pre'.flatMap Flat.enc) (b.flatMap Flat.enc) y;have p3:=AH8 he h d w a b (pre++[x]) (pre'++[y]) (by simpa using hl) (by simp[hp]);rw[Flat.flen]at p1 p2;rw[<-hp]at p2;rw[List.append_assoc,List.append_assoc]at p3;simp only[List.length_cons,List.range'_succ,Op.eqItems,Sem.run_bind];rw[List.flatMap_append,List.flatMap_append,List.flatMap_cons,List.flatMap_cons,p1];simp only[Result.andThen_ok];rw[p2];simp only[Result.andThen_ok,h.run];by_cases e:x=y
  ·subst e
   simp only[decide_true,Bool.not_true,Bool.false_eq_true,if_false];simp only[List.length_append,List.length_cons,List.length_nil,Nat.zero_add,List.cons_append,List.nil_append,List.flatMap_append,List.flatMap_cons]at p3;rw[p3];simp
  ·simp[e]
 |[],_::_,_,_,hl,_=>by simp at hl
 |_::_,[],_,_,hl,_=>by simp at hl
theorem EQ.ar{P:Program}{t e m by' k:Nat}{z:List Value}{α:Type}[Enc α][Flat α][DecidableEq α](hu:P.underlying t=some (.array m e))(he:TI P e (Enc.agg α) (Enc.n α) by' z)(h:EQ P e α k):EQ P t (Ar m α) (k+1):=⟨fun d w x y=>by
 obtain⟨i,v,hi,hn,_⟩:=he.info;have hc:P.cellsOf e=Enc.n α:=by simp[Program.cellsOf,hi,hn]
 have:=AH8 he h d w x.l y.l [] [] (by rw[x.h,y.h]) rfl;show(Op.equalIn (d+k+1) t (.agg (x.l.flatMap Flat.enc).toArray) (.agg (y.l.flatMap Flat.enc).toArray)).run P w=_;rw[run_equalIn_array w (d+k) _ _ hu hi,hc,List.range_eq_range'];rw[x.h]at this;refine Eq.trans this ?_
 congr 1
 obtain⟨xl,xh⟩:=x;obtain⟨yl,yh⟩:=y;simp⟩
section
variable {P:Program}{Q:Exit->Act->World->Prop}{n:Nat}{L:Fr}{D:List Deferred}{w:World}{ops:Array Oper}{rest:List Oper}
variable {ty:TypeId}{pos:String}{af:Array Edge}{dst:Option Nat}{gdd:Option (Nat×Bool)}{x y z:Operand}
theorem AQG{α:Type}[Enc α][Flat α][DecidableEq α]{t t' k:Nat}{a b:α}{va vb:Value}(ha:Enc.agg α=true)(hg:P.eqGuardType P.depth t=false)(he:EQ P t α k)(hk:Nat.ble k 10000=true)(hx:ev n L x=va)(hy:ev n L y=vb)(hva:va=.agg (Flat.enc a).toArray)(hvb:vb=.agg (Flat.enc b).toArray):
  (execOp (ev n L) {dst:=dst,op:=.binOp .eql t x y t',type:=ty,pos:=pos,after:=af,guard:=gdd}).run P w=.ok (.value (.bool (decide (a=b)))) w:=by
 have h:=he.run (10000-k) w a b;rw[show 10000-k+k=10000 by have:=ble hk;omega]at h;unfold Enc.val at h;rw[ha]at h;have h':(Op.equal t (.agg (Flat.enc a).toArray) (.agg (Flat.enc b).toArray)).run P w=.ok (decide (a=b)) w:=h;subst hva hvb;simp[execOp,hx,hy,eqGuard,Go.binOp,hg,h']
theorem AK7{α:Type}[Enc α][Flat α][DecidableEq α]{t t' k:Nat}{a b:α}{va vb:Value}(ha:Enc.agg α=true)(hg:P.eqGuardType P.depth t=false)(he:EQ P t α k)(hk:Nat.ble k 10000=true)(hx:ev n L x=va)(hy:ev n L y=vb)(hva:va=.agg (Flat.enc a).toArray)(hvb:vb=.agg (Flat.enc b).toArray):
  (execOp (ev n L) {dst:=dst,op:=.binOp .neq t x y t',type:=ty,pos:=pos,after:=af,guard:=gdd}).run P w=.ok (.value (.bool (!decide (a=b)))) w:=by
 have h:=he.run (10000-k) w a b;rw[show 10000-k+k=10000 by have:=ble hk;omega]at h;unfold Enc.val at h;rw[ha]at h;have h':(Op.equal t (.agg (Flat.enc a).toArray) (.agg (Flat.enc b).toArray)).run P w=.ok (decide (a=b)) w:=h;subst hva hvb;simp[execOp,hx,hy,eqGuard,Go.binOp,hg,h']
theorem gtk{o:Oper}{j:Nat}{b:Bool}{oj:Oper}{t:Nat}{v:Value}(hg:o.guard=some (j,b))(hj:ops[j]?=some oj)(hd:oj.dst=some t)(ht:Nat.blt t n=true)
  (hv:L t=v) (hb:v=.bool b) (h:wpList P ops Q ({o with guard:=none}::rest) (act n L D) w):wpList P ops Q (o::rest) (act n L D) w:=gt hg hj hd ht (hv.trans hb) h
theorem gfk{o:Oper}{j:Nat}{b:Bool}{oj:Oper}{t d:Nat}{v:Value}(hg:o.guard=some (j,b))(hj:ops[j]?=some oj)(hd:oj.dst=some t)(ht:Nat.blt t n=true)
  (hv:L t=v) (hb:v≠.bool b) (hdd:o.dst=some d) (h:wpList P ops Q rest (act n (vG L d undef) D) w):wpList P ops Q (o::rest) (act n L D) w:=gfn hg hj hd ht (fun e=>hb (hv.symm.trans e)) hdd h
theorem bt{c:Bool}(h:c=true):Value.bool c=.bool true:=by rw[h]
theorem bf{c:Bool}(h:c=false):Value.bool c=.bool false:=by rw[h]
theorem BP{c:Bool}(h:c=true):Value.bool c≠.bool false:=by rw[h];simp
theorem Gi{c:Bool}(h:c=false):Value.bool c≠.bool true:=by rw[h];simp
theorem bu{b:Bool}:undef≠Value.bool b:=by simp[undef]
theorem wI{c:Bool}{v:Value}(hx:ev n L x=.bool c)(hc:c=true)(hy:ev n L y=v):(execOp (ev n L) {dst:=dst,op:=.pick x y z,type:=ty,pos:=pos,after:=af,guard:=gdd}).run P w=.ok (.value v) w:=by
 rw[xpk hx,hc,hy];rfl
theorem yH{c:Bool}{v:Value}(hx:ev n L x=.bool c)(hc:c=false)(hz:ev n L z=v):(execOp (ev n L) {dst:=dst,op:=.pick x y z,type:=ty,pos:=pos,after:=af,guard:=gdd}).run P w=.ok (.value v) w:=by
 rw[xpk hx,hc,hz];rfl
variable {S:World->Prop}{T:List Nat}{QQ:Act->World->Prop}
theorem pvt{any:Bool}{i:Nat}{p:Plan}{o:Oper}{d j:Nat}{b:Bool}{oj:Oper}{t:Nat}{v u:Value}(ho:ops[i]?=some o)(hg:o.guard=some (j,b))(hj:ops[j]?=some oj)(hdj:oj.dst=some t)(ht:Nat.blt t n=true)
  (hv:L t=u) (hb:u=.bool b) (hd:o.dst=some d)
  (h:∀w',(any=true\/S w')->(execOp (ev n L) o).run P w'=.ok (.value v) w') (hS:any=true\/S w) (k:p.wp P ops S T QQ false (act n (vG L d v) D) w):
  Plan.wp P ops S T QQ false (.pure any i p) (act n L D) w:=by
 refine⟨o,v,ho,.inl ⟨?_,fun w' hw'=>by rw[AAW];exact h w' hw'⟩,hS,by rw[hd,yS];exact k⟩;simp[Region.wanted,hg,yielded,hj,hdj,AAP n L D t ht,hv,hb]
theorem pvf{any:Bool}{i:Nat}{p:Plan}{o:Oper}{d j:Nat}{b:Bool}{oj:Oper}{t:Nat}{u:Value}(ho:ops[i]?=some o)(hg:o.guard=some (j,b))(hj:ops[j]?=some oj)(hdj:oj.dst=some t)(ht:Nat.blt t n=true)
  (hv:L t=u) (hb:u≠.bool b) (hd:o.dst=some d) (hS:any=true\/S w) (k:p.wp P ops S T QQ false (act n (vG L d undef) D) w):
  Plan.wp P ops S T QQ false (.pure any i p) (act n L D) w:=by
 refine⟨o,undef,ho,.inr ⟨?_,rfl⟩,hS,by rw[hd,yS];exact k⟩;simp only[Region.wanted,hg,yielded,hj,hdj,Option.bind_some,AAP n L D t ht,hv];cases u<;>simp_all
end
end
section
section
variable {P:Program}{Q:Exit->Act->World->Prop}{n:Nat}{L:Fr}{D:List Deferred}{w:World}{ops:Array Oper}{rest:List Oper}
variable {ty:TypeId}{pos:String}{af:Array Edge}{op:Op}{x:Operand}{d:Nat}{v:Value}
theorem Zv{w':World}(h:(execOp (ev n L) {dst:=some d,op:=op,type:=ty,pos:=pos,after:=af,guard:=none}).run P w=.ok (.value v) w')
  (k:wpList P ops Q rest (act n (vG L d v) D) w'):wpList P ops Q ({dst:=some d,op:=op,type:=ty,pos:=pos,after:=af,guard:=none}::rest) (act n L D) w:=vl rfl rfl h k
theorem Zm(k:wpList P ops Q rest (act n (vG L d (ev n L x)) D) w):wpList P ops Q ({dst:=some d,op:=.move x,type:=ty,pos:=pos,after:=af,guard:=none}::rest) (act n L D) w:=vl rfl rfl Zk k
theorem Za(k:wpList P ops Q rest (act n (vG L d (ev n L x)) D) w):wpList P ops Q ({dst:=some d,op:=.assign x,type:=ty,pos:=pos,after:=af,guard:=none}::rest) (act n L D) w:=vl rfl rfl xas k
theorem Zc{g:FuncId}{args:Array Value}{R:Value->World->Prop}
  (h:(execOp (ev n L) {dst:=some d,op:=op,type:=ty,pos:=pos,after:=af,guard:=none}).run P w=.ok (.enter g args) w) (hc:Calls P g args w (IA R))
  (k:∀v w',R v w'->wpList P ops Q rest (act n (vG L d v) D) w'):wpList P ops Q ({dst:=some d,op:=op,type:=ty,pos:=pos,after:=af,guard:=none}::rest) (act n L D) w:=cl rfl rfl h hc k
theorem Zg{j t:Nat}{b W:Bool}{op2:Op}{ty2:TypeId}{pos2:String}{af2:Array Edge}{gd2:Option (Nat×Bool)}(hj:ops[j]?=some {dst:=some t,op:=op2,type:=ty2,pos:=pos2,after:=af2,guard:=gd2})(ht:Nat.blt t n=true)
  (hw:(W=true->L t=.bool b)/\(W=false->L t≠.bool b)) (h:W=true->(execOp (ev n L) {dst:=some d,op:=op,type:=ty,pos:=pos,after:=af,guard:=some (j,b)}).run P w=.ok (.value v) w)
  (k:wpList P ops Q rest (act n (vG L d (bif W then v else undef)) D) w):wpList P ops Q ({dst:=some d,op:=op,type:=ty,pos:=pos,after:=af,guard:=some (j,b)}::rest) (act n L D) w:=gv rfl hj rfl ht hw rfl h k
variable {S:World->Prop}{T:List Nat}{QQ:Act->World->Prop}{i:Nat}{p:Plan}
theorem Zp(ho:ops[i]?=some {dst:=some d,op:=op,type:=ty,pos:=pos,after:=af,guard:=none})
  (h:∀w',(execOp (ev n L) {dst:=some d,op:=op,type:=ty,pos:=pos,after:=af,guard:=none}).run P w'=.ok (.value v) w') (k:p.wp P ops S T QQ false (act n (vG L d v) D) w):
  Plan.wp P ops S T QQ false (.pure true i p) (act n L D) w:=pv ho rfl rfl (fun w' _=>h w') (.inl rfl) k
theorem Zn(ho:ops[i]?=some {dst:=some d,op:=.move x,type:=ty,pos:=pos,after:=af,guard:=none})(k:p.wp P ops S T QQ false (act n (vG L d (ev n L x)) D) w):
  Plan.wp P ops S T QQ false (.pure true i p) (act n L D) w:=pv ho rfl rfl (fun _ _=>Zk) (.inl rfl) k
theorem Zq(ho:ops[i]?=some {dst:=some d,op:=op,type:=ty,pos:=pos,after:=af,guard:=none})
  (h:∀w',(false=true\/S w')->(execOp (ev n L) {dst:=some d,op:=op,type:=ty,pos:=pos,after:=af,guard:=none}).run P w'=.ok (.value v) w') (hS:S w) (k:p.wp P ops S T QQ false (act n (vG L d v) D) w):
  Plan.wp P ops S T QQ false (.pure false i p) (act n L D) w:=pv ho rfl rfl h (.inr hS) k
theorem Zf{j t:Nat}{b:Bool}{op2:Op}{ty2:TypeId}{pos2:String}{af2:Array Edge}{gd2:Option (Nat×Bool)}(ho:ops[i]?=some {dst:=some d,op:=op,type:=ty,pos:=pos,after:=af,guard:=some (j,b)})
  (hj:ops[j]?=some {dst:=some t,op:=op2,type:=ty2,pos:=pos2,after:=af2,guard:=gd2}) (ht:Nat.blt t n=true) {u:Value} (hv:L t=u) (hb:u≠.bool b) (k:p.wp P ops S T QQ false (act n (vG L d undef) D) w):
  Plan.wp P ops S T QQ false (.pure true i p) (act n L D) w:=pvf ho rfl hj rfl ht hv hb rfl (.inl rfl) k
theorem Zr{P:Program}{Q:Exit->Act->World->Prop}{n:Nat}{L:Fr}{D:List Deferred}{w:World}{id:Nat}{l:List Oper}{c:Code}(h:wpList P l.toArray (Exit.then (c.wp P Q) Q) l (act n L D) w):((Code.region id l.toArray false).seq c).wp P Q (act n L D) w:=wp_seq (rg h)
end
theorem bS{α β:Type}{o:Option α}{f:α->Option β}{r:β}{G:Prop}(h:(o>>=f)=some r)(k:∀x,o=some x->f x=some r->G):G:=by
 obtain⟨x,h1,h2⟩:=bs h;exact k x h1 h2
theorem AU{α β:Type}(a:α)(f:α->Option β):(some a).bind f=f a:=rfl
theorem DJ{α β:Type}:bind=@Option.bind α β:=rfl
abbrev ZTc:=(List ((((Int×Int)×Int)×((Int×Int)×Int))×Bool))×Int×(Int×Int)
section
variable {P:Program}{Q:Exit->Act->World->Prop}{n:Nat}{L:Fr}{D:List Deferred}{w:World}{ops:Array Oper}{rest:List Oper}{S:World->Prop}{T:List Nat}{QQ:Act->World->Prop}{i d j t:Nat}{p:Plan}{b:Bool}{o oj:Oper}{v u:Value}
theorem Gk(e:(o.guard,ops[j]?,oj.dst,Nat.blt t n,L t,o.dst)=(some (j,b),some oj,some t,true,v,some d))(hb:v≠.bool b)(h:wpList P ops Q rest (act n (vG L d undef) D) w):wpList P ops Q (o::rest) (act n L D) w:=by
 simp only[Prod.mk.injEq]at e;exact gfk e.1 e.2.1 e.2.2.1 e.2.2.2.1 e.2.2.2.2.1 hb e.2.2.2.2.2 h
theorem Gt(e:(o.guard,ops[j]?,oj.dst,Nat.blt t n,L t)=(some (j,b),some oj,some t,true,v))(hb:v=.bool b)(h:wpList P ops Q ({o with guard:=none}::rest) (act n L D) w):wpList P ops Q (o::rest) (act n L D) w:=by
 simp only[Prod.mk.injEq]at e;exact gtk e.1 e.2.1 e.2.2.1 e.2.2.2.1 e.2.2.2.2 hb h
theorem Yf(e:(ops[i]?,o.guard,ops[j]?,oj.dst,Nat.blt t n,L t,o.dst)=(some o,some (j,b),some oj,some t,true,u,some d))(hb:u≠.bool b)(k:p.wp P ops S T QQ false (act n (vG L d undef) D) w):
  Plan.wp P ops S T QQ false (.pure true i p) (act n L D) w:=by
 simp only[Prod.mk.injEq]at e;exact pvf e.1 e.2.1 e.2.2.1 e.2.2.2.1 e.2.2.2.2.1 e.2.2.2.2.2.1 hb e.2.2.2.2.2.2 (.inl rfl) k
theorem Yh(e:(ops[i]?,o.guard,ops[j]?,oj.dst,Nat.blt t n,L t,o.dst)=(some o,some (j,b),some oj,some t,true,u,some d))(hb:u≠.bool b)(hS:S w)(k:p.wp P ops S T QQ false (act n (vG L d undef) D) w):
  Plan.wp P ops S T QQ false (.pure false i p) (act n L D) w:=by
 simp only[Prod.mk.injEq]at e;exact pvf e.1 e.2.1 e.2.2.1 e.2.2.2.1 e.2.2.2.2.1 e.2.2.2.2.2.1 hb e.2.2.2.2.2.2 (.inr hS) k
theorem Yt(e:(ops[i]?,o.guard,ops[j]?,oj.dst,Nat.blt t n,L t,o.dst)=(some o,some (j,b),some oj,some t,true,u,some d))(hb:u=.bool b)
  (h:∀w',(execOp (ev n L) o).run P w'=.ok (.value v) w') (k:p.wp P ops S T QQ false (act n (vG L d v) D) w):Plan.wp P ops S T QQ false (.pure true i p) (act n L D) w:=by
 simp only[Prod.mk.injEq]at e;exact pvt e.1 e.2.1 e.2.2.1 e.2.2.2.1 e.2.2.2.2.1 e.2.2.2.2.2.1 hb e.2.2.2.2.2.2 (fun w' _=>h w') (.inl rfl) k
theorem Yi(e:(ops[i]?,o.guard,ops[j]?,oj.dst,Nat.blt t n,L t,o.dst)=(some o,some (j,b),some oj,some t,true,u,some d))(hb:u=.bool b)
  (h:∀w',(false=true\/S w')->(execOp (ev n L) o).run P w'=.ok (.value v) w') (hS:S w) (k:p.wp P ops S T QQ false (act n (vG L d v) D) w):Plan.wp P ops S T QQ false (.pure false i p) (act n L D) w:=by
 simp only[Prod.mk.injEq]at e;exact pvt e.1 e.2.1 e.2.2.1 e.2.2.2.1 e.2.2.2.2.1 e.2.2.2.2.2.1 hb e.2.2.2.2.2.2 h (.inr hS) k
theorem Zw{fn:Func}{R:Value->World->Prop}(hr:fn.results=[ResultVar.tmp t].toArray)(hv:L t=v)(ht:Nat.blt t n=true)(hR:R v w):bodyPost P fn (IA R) .ret (act n L []) w:=rt hr (.tmp hv ht .nil) hR
end
end
end Go.Md
end
section
namespace Go.Proofs.YtfmelbioccbdoaaGreat
open Go Go.Md
theorem Bh:TI Tryz.prog 2 false 1 8 [.int .i64 0]:=TI.mk' Tryz.underlying2 rfl (by kernel_rfl) rfl rfl
theorem Ap:TI Tryz.prog 3 false 1 8 [.int .i64 0]:=TI.mk' Tryz.underlying3 rfl (by kernel_rfl) rfl rfl
theorem ti4:TI Tryz.prog 4 false 1 1 [.bool false]:=TI.mk' Tryz.underlying4 rfl (by kernel_rfl) rfl rfl
theorem AAw:TI Tryz.prog 22 false 1 24 [.slice none 0 0]:=TI.mk' Tryz.underlying22 rfl (by kernel_rfl) rfl rfl
theorem AB5:TI Tryz.prog 24 true 2 32 [.int .i64 0,.slice none 0 0]:=TI.mk' Tryz.underlying24 rfl (by kernel_rfl) rfl rfl
theorem ATQ:SP Tryz.prog 24 [(0,1),(1,1)]:=SP.mk' Tryz.underlying24 (by kernel_rfl)
theorem AB8:FA Tryz.prog 24 0 0:=FA.mk' (by kernel_rfl)
theorem AAH:FA Tryz.prog 24 1 1:=FA.mk' (by kernel_rfl)
theorem AFZ:TI Tryz.prog 28 false 1 24 [.slice none 0 0]:=TI.mk' Tryz.underlying28 rfl (by kernel_rfl) rfl rfl
theorem ACB:TI Tryz.prog 35 true 2 16 [.int .i64 0,.int .i64 0]:=TI.mk' Tryz.underlying35 rfl (by kernel_rfl) rfl rfl
theorem AK8:SP Tryz.prog 35 [(0,1),(1,1)]:=SP.mk' Tryz.underlying35 (by kernel_rfl)
theorem AQI:FA Tryz.prog 35 0 0:=FA.mk' (by kernel_rfl)
theorem AMP:FA Tryz.prog 35 1 1:=FA.mk' (by kernel_rfl)
theorem Le:TI Tryz.prog 41 false 1 24 [.slice none 0 0]:=TI.mk' Tryz.underlying41 rfl (by kernel_rfl) rfl rfl
theorem ATR:TI Tryz.prog 46 false 1 24 [.slice none 0 0]:=TI.mk' Tryz.underlying46 rfl (by kernel_rfl) rfl rfl
theorem AQJ:FA Tryz.prog 48 0 0:=FA.mk' (by kernel_rfl)
theorem AK9:TI Tryz.prog 51 false 1 24 [.slice none 0 0]:=TI.mk' Tryz.underlying51 rfl (by kernel_rfl) rfl rfl
theorem ANi:TI Tryz.prog 56 true 2 16 [.int .i64 0,.bool false]:=TI.mk' Tryz.underlying56 rfl (by kernel_rfl) rfl rfl
theorem AI1:FA Tryz.prog 56 0 0:=FA.mk' (by kernel_rfl)
theorem xY:TI Tryz.prog 58 true 3 24 [.int .i64 0,.int .i64 0,.int .i64 0]:=TI.mk' Tryz.underlying58 rfl (by kernel_rfl) rfl rfl
theorem AHj:SP Tryz.prog 58 [(0,1),(1,1),(2,1)]:=SP.mk' Tryz.underlying58 (by kernel_rfl)
theorem ABl:FA Tryz.prog 58 0 0:=FA.mk' (by kernel_rfl)
theorem ACT:FA Tryz.prog 58 1 1:=FA.mk' (by kernel_rfl)
theorem AEk:FA Tryz.prog 58 2 2:=FA.mk' (by kernel_rfl)
theorem ARi:TI Tryz.prog 108 false 1 24 [.slice none 0 0]:=TI.mk' Tryz.underlying108 rfl (by kernel_rfl) rfl rfl
theorem APa:FA Tryz.prog 110 2 2:=FA.mk' (by kernel_rfl)
theorem AIk:TI Tryz.prog 112 true 2 16 [.int .i64 0,.int .i64 0]:=TI.mk' Tryz.underlying112 rfl (by kernel_rfl) rfl rfl
theorem APb:FA Tryz.prog 112 0 0:=FA.mk' (by kernel_rfl)
theorem AAz:TI Tryz.prog 135 false 1 24 [.slice none 0 0]:=TI.mk' Tryz.underlying135 rfl (by kernel_rfl) rfl rfl
theorem AA0:TI Tryz.prog 137 true 4 80 [.int .i64 0,.slice none 0 0,.slice none 0 0,.slice none 0 0]:=TI.mk' Tryz.underlying137 rfl (by kernel_rfl) rfl rfl
theorem vV:FA Tryz.prog 137 0 0:=FA.mk' (by kernel_rfl)
theorem yj:FA Tryz.prog 137 1 1:=FA.mk' (by kernel_rfl)
theorem yT:FA Tryz.prog 137 2 2:=FA.mk' (by kernel_rfl)
theorem AAo:FA Tryz.prog 137 3 3:=FA.mk' (by kernel_rfl)
theorem wQ:TI Tryz.prog 147 true 3 24 [.int .i64 0,.int .i64 0,.int .i64 0]:=TI.mk' Tryz.underlying147 rfl (by kernel_rfl) rfl rfl
theorem zX:FA Tryz.prog 147 0 0:=FA.mk' (by kernel_rfl)
theorem zu:FA Tryz.prog 147 1 1:=FA.mk' (by kernel_rfl)
theorem yu:FA Tryz.prog 147 2 2:=FA.mk' (by kernel_rfl)
theorem yO:TI Tryz.prog 159 true 21 168 (List.replicate 21 (.int .i64 0)):=TI.mk' Tryz.underlying159 rfl (by kernel_rfl) rfl rfl
theorem AEG:TI Tryz.prog 177 false 1 8 [.pointer none]:=TI.mk' Tryz.underlying177 rfl (by kernel_rfl) rfl rfl
theorem AGx:TI Tryz.prog 180 false 1 8 [.pointer none]:=TI.mk' Tryz.underlying180 rfl (by kernel_rfl) rfl rfl
theorem ARj:TI Tryz.prog 183 false 1 8 [.map none]:=TI.mk' Tryz.underlying183 rfl (by kernel_rfl) rfl rfl
theorem AIl:TI Tryz.prog 195 true 16 128 (List.replicate 16 (.int .i64 0)):=TI.mk' Tryz.underlying195 rfl (by kernel_rfl) rfl rfl
theorem APc:FA Tryz.prog 199 0 0:=FA.mk' (by kernel_rfl)
theorem AGB:FA Tryz.prog 199 1 4:=FA.mk' (by kernel_rfl)
theorem AKM:FA Tryz.prog 199 2 5:=FA.mk' (by kernel_rfl)
theorem ARk:TI Tryz.prog 229 true 3 56 [.int .i64 0,.slice none 0 0,.slice none 0 0]:=TI.mk' Tryz.underlying229 rfl (by kernel_rfl) rfl rfl
theorem ARl:SP Tryz.prog 229 [(0,2),(2,1)]:=SP.mk' Tryz.underlying229 (by kernel_rfl)
theorem AKN:FA Tryz.prog 229 0 0:=FA.mk' (by kernel_rfl)
theorem AEl:FA Tryz.prog 229 1 2:=FA.mk' (by kernel_rfl)
theorem ARm:TI Tryz.prog 233 false 1 8 [.pointer none]:=TI.mk' Tryz.underlying233 rfl (by kernel_rfl) rfl rfl
theorem AGC:TI Tryz.prog 236 false 1 8 [.nilFunc]:=TI.mk' Tryz.underlying236 rfl (by kernel_rfl) rfl rfl
theorem APd:FA Tryz.prog 241 0 0:=FA.mk' (by kernel_rfl)
theorem yU:TI Tryz.prog 256 false 1 8 [.pointer none]:=TI.mk' Tryz.underlying256 rfl (by kernel_rfl) rfl rfl
theorem ARn:TI Tryz.prog 261 true 46 448 ([.int .i64 0,.slice none 0 0,.slice none 0 0,.slice none 0 0,.slice none 0 0,.slice none 0 0]++List.replicate 40 (.int .i64 0)):=TI.mk' Tryz.underlying261 rfl (by kernel_rfl) rfl rfl
theorem ARo:SP Tryz.prog 261 [(0,4),(4,1),(5,1),(6,40)]:=SP.mk' Tryz.underlying261 (by kernel_rfl)
theorem AAM:FA Tryz.prog 261 0 0:=FA.mk' (by kernel_rfl)
theorem APe:FA Tryz.prog 261 1 4:=FA.mk' (by kernel_rfl)
theorem ACG:FA Tryz.prog 261 2 5:=FA.mk' (by kernel_rfl)
theorem AEm:FA Tryz.prog 261 3 6:=FA.mk' (by kernel_rfl)
theorem AGD:TI Tryz.prog 262 false 1 24 [.slice none 0 0]:=TI.mk' Tryz.underlying262 rfl (by kernel_rfl) rfl rfl
theorem ARp:TI Tryz.prog 264 false 1 8 [.nilFunc]:=TI.mk' Tryz.underlying264 rfl (by kernel_rfl) rfl rfl
theorem bF:TI Tryz.prog 266 true 3 24 [.int .i64 0,.int .i64 0,.int .i64 0]:=TI.mk' Tryz.underlying266 rfl (by kernel_rfl) rfl rfl
theorem ADW:SP Tryz.prog 266 [(0,1),(1,1),(2,1)]:=SP.mk' Tryz.underlying266 (by kernel_rfl)
theorem AHk:FA Tryz.prog 266 0 0:=FA.mk' (by kernel_rfl)
theorem ABM:FA Tryz.prog 266 1 1:=FA.mk' (by kernel_rfl)
theorem ACr:FA Tryz.prog 266 2 2:=FA.mk' (by kernel_rfl)
theorem AE8:TI Tryz.prog 268 false 1 24 [.slice none 0 0]:=TI.mk' Tryz.underlying268 rfl (by kernel_rfl) rfl rfl
theorem AGE:TI Tryz.prog 314 false 1 8 [.pointer none]:=TI.mk' Tryz.underlying314 rfl (by kernel_rfl) rfl rfl
theorem AE9:TI Tryz.prog 326 true 2 16 [.int .i64 0,.int .i64 0]:=TI.mk' Tryz.underlying326 rfl (by kernel_rfl) rfl rfl
theorem AOm:SP Tryz.prog 326 [(0,1),(1,1)]:=SP.mk' Tryz.underlying326 (by kernel_rfl)
theorem AKO:FA Tryz.prog 326 0 0:=FA.mk' (by kernel_rfl)
theorem AGF:FA Tryz.prog 326 1 1:=FA.mk' (by kernel_rfl)
theorem ADX:TI Tryz.prog 364 true 40 320 (List.replicate 40 (.int .i64 0)):=TI.mk' Tryz.underlying364 rfl (by kernel_rfl) rfl rfl
theorem eq2:EQ Tryz.prog 2 Int 1:=EQ.int Tryz.underlying2
theorem eq3:EQ Tryz.prog 3 Int 1:=EQ.int Tryz.underlying3
theorem ARq:EQ Tryz.prog 159 (Ar 21 Int) 2:=EQ.ar Tryz.underlying159 Bh eq2
theorem ARr:Program.eqGuardType Tryz.prog (Program.depth Tryz.prog) 159=false:=by kernel_rfl
theorem ARs:EQ Tryz.prog 195 (Ar 16 Int) 2:=EQ.ar Tryz.underlying195 Ap eq3
theorem ARt:Program.eqGuardType Tryz.prog (Program.depth Tryz.prog) 195=false:=by kernel_rfl
theorem AIm:EQ Tryz.prog 266 (Int×Int×Int) 2:=EQ.st rfl Tryz.underlying266 (by kernel_rfl) (EL.cons rfl rfl Ap eq3 (EL.cons rfl rfl Ap eq3 (EL.one rfl rfl Ap eq3)))
theorem AIn:Program.eqGuardType Tryz.prog (Program.depth Tryz.prog) 266=false:=by kernel_rfl
theorem ATS:Ad Tryz.prog 15:=⟨_,Tryz.func15,by kernel_rfl,by kernel_rfl⟩
theorem AQL:Ad Tryz.prog 29:=⟨_,Tryz.func29,by kernel_rfl,by kernel_rfl⟩
theorem AQM:Ad Tryz.prog 31:=⟨_,Tryz.func31,by kernel_rfl,by kernel_rfl⟩
theorem ATT:Ad Tryz.prog 35:=⟨_,Tryz.func35,by kernel_rfl,by kernel_rfl⟩
theorem ATU:Ad Tryz.prog 50:=⟨_,Tryz.func50,by kernel_rfl,by kernel_rfl⟩
theorem ATV:Ad Tryz.prog 73:=⟨_,Tryz.func73,by kernel_rfl,by kernel_rfl⟩
theorem ANj:Ad Tryz.prog 74:=⟨_,Tryz.func74,by kernel_rfl,by kernel_rfl⟩
theorem ATW:Ad Tryz.prog 75:=⟨_,Tryz.func75,by kernel_rfl,by kernel_rfl⟩
theorem ATX:Ad Tryz.prog 76:=⟨_,Tryz.func76,by kernel_rfl,by kernel_rfl⟩
theorem ATY:Ad Tryz.prog 77:=⟨_,Tryz.func77,by kernel_rfl,by kernel_rfl⟩
theorem ATZ:Ad Tryz.prog 78:=⟨_,Tryz.func78,by kernel_rfl,by kernel_rfl⟩
theorem AI2:Ad Tryz.prog 79:=⟨_,Tryz.func79,by kernel_rfl,by kernel_rfl⟩
theorem ATa:Ad Tryz.prog 80:=⟨_,Tryz.func80,by kernel_rfl,by kernel_rfl⟩
theorem ATb:Ad Tryz.prog 81:=⟨_,Tryz.func81,by kernel_rfl,by kernel_rfl⟩
theorem AQN:Ad Tryz.prog 84:=⟨_,Tryz.func84,by kernel_rfl,by kernel_rfl⟩
theorem ATc:Ad Tryz.prog 86:=⟨_,Tryz.func86,by kernel_rfl,by kernel_rfl⟩
theorem ATd:Ad Tryz.prog 87:=⟨_,Tryz.func87,by kernel_rfl,by kernel_rfl⟩
theorem ATe:Ad Tryz.prog 88:=⟨_,Tryz.func88,by kernel_rfl,by kernel_rfl⟩
theorem AQO:Ad Tryz.prog 90:=⟨_,Tryz.func90,by kernel_rfl,by kernel_rfl⟩
theorem ATf:Ad Tryz.prog 91:=⟨_,Tryz.func91,by kernel_rfl,by kernel_rfl⟩
theorem ATg:Ad Tryz.prog 92:=⟨_,Tryz.func92,by kernel_rfl,by kernel_rfl⟩
theorem ANk:Ad Tryz.prog 93:=⟨_,Tryz.func93,by kernel_rfl,by kernel_rfl⟩
theorem AOo:Ad Tryz.prog 104:=⟨_,Tryz.func104,by kernel_rfl,by kernel_rfl⟩
theorem AIo:Ad Tryz.prog 105:=⟨_,Tryz.func105,by kernel_rfl,by kernel_rfl⟩
theorem ARu:Ad Tryz.prog 106:=⟨_,Tryz.func106,by kernel_rfl,by kernel_rfl⟩
theorem ARv:Ad Tryz.prog 107:=⟨_,Tryz.func107,by kernel_rfl,by kernel_rfl⟩
theorem ARw:Ad Tryz.prog 108:=⟨_,Tryz.func108,by kernel_rfl,by kernel_rfl⟩
theorem ARx:Ad Tryz.prog 109:=⟨_,Tryz.func109,by kernel_rfl,by kernel_rfl⟩
theorem AOp:Ad Tryz.prog 110:=⟨_,Tryz.func110,by kernel_rfl,by kernel_rfl⟩
theorem ARy:Ad Tryz.prog 116:=⟨_,Tryz.func116,by kernel_rfl,by kernel_rfl⟩
theorem ARz:Ad Tryz.prog 131:=⟨_,Tryz.func131,by kernel_rfl,by kernel_rfl⟩
theorem AR0:Ad Tryz.prog 135:=⟨_,Tryz.func135,by kernel_rfl,by kernel_rfl⟩
theorem ALA:Ad Tryz.prog 144:=⟨_,Tryz.func144,by kernel_rfl,by kernel_rfl⟩
theorem AIp:Ad Tryz.prog 146:=⟨_,Tryz.func146,by kernel_rfl,by kernel_rfl⟩
theorem ALB:Ad Tryz.prog 158:=⟨_,Tryz.func158,by kernel_rfl,by kernel_rfl⟩
theorem AR1:Ad Tryz.prog 159:=⟨_,Tryz.func159,by kernel_rfl,by kernel_rfl⟩
theorem ALC:Ad Tryz.prog 160:=⟨_,Tryz.func160,by kernel_rfl,by kernel_rfl⟩
theorem ALD:Ad Tryz.prog 161:=⟨_,Tryz.func161,by kernel_rfl,by kernel_rfl⟩
theorem AGy:Ad Tryz.prog 162:=⟨_,Tryz.func162,by kernel_rfl,by kernel_rfl⟩
theorem AR2:Ad Tryz.prog 163:=⟨_,Tryz.func163,by kernel_rfl,by kernel_rfl⟩
theorem AR3:Ad Tryz.prog 164:=⟨_,Tryz.func164,by kernel_rfl,by kernel_rfl⟩
theorem AOq:Ad Tryz.prog 165:=⟨_,Tryz.func165,by kernel_rfl,by kernel_rfl⟩
theorem ALE:Ad Tryz.prog 166:=⟨_,Tryz.func166,by kernel_rfl,by kernel_rfl⟩
theorem AR4:Ad Tryz.prog 167:=⟨_,Tryz.func167,by kernel_rfl,by kernel_rfl⟩
theorem AR5:Ad Tryz.prog 168:=⟨_,Tryz.func168,by kernel_rfl,by kernel_rfl⟩
theorem AR6:Ad Tryz.prog 169:=⟨_,Tryz.func169,by kernel_rfl,by kernel_rfl⟩
theorem AR7:Ad Tryz.prog 173:=⟨_,Tryz.func173,by kernel_rfl,by kernel_rfl⟩
theorem AR8:Ad Tryz.prog 197:=⟨_,Tryz.func197,by kernel_rfl,by kernel_rfl⟩
theorem AR9:Ad Tryz.prog 198:=⟨_,Tryz.func198,by kernel_rfl,by kernel_rfl⟩
theorem ASA:Ad Tryz.prog 199:=⟨_,Tryz.func199,by kernel_rfl,by kernel_rfl⟩
theorem ASB:Ad Tryz.prog 200:=⟨_,Tryz.func200,by kernel_rfl,by kernel_rfl⟩
theorem ASC:Ad Tryz.prog 201:=⟨_,Tryz.func201,by kernel_rfl,by kernel_rfl⟩
theorem ALF:Ad Tryz.prog 212:=⟨_,Tryz.func212,by kernel_rfl,by kernel_rfl⟩
theorem ASD:Ad Tryz.prog 213:=⟨_,Tryz.func213,by kernel_rfl,by kernel_rfl⟩
theorem ASE:Ad Tryz.prog 250:=⟨_,Tryz.func250,by kernel_rfl,by kernel_rfl⟩
theorem ASF:Ad Tryz.prog 251:=⟨_,Tryz.func251,by kernel_rfl,by kernel_rfl⟩
theorem AOr:Ad Tryz.prog 254:=⟨_,Tryz.func254,by kernel_rfl,by kernel_rfl⟩
theorem ASG:Ad Tryz.prog 261:=⟨_,Tryz.func261,by kernel_rfl,by kernel_rfl⟩
theorem AIq:Ad Tryz.prog 262:=⟨_,Tryz.func262,by kernel_rfl,by kernel_rfl⟩
theorem AOs:Ad Tryz.prog 263:=⟨_,Tryz.func263,by kernel_rfl,by kernel_rfl⟩
theorem ASH:Ad Tryz.prog 264:=⟨_,Tryz.func264,by kernel_rfl,by kernel_rfl⟩
theorem ASI:Ad Tryz.prog 265:=⟨_,Tryz.func265,by kernel_rfl,by kernel_rfl⟩
theorem AOt:Ad Tryz.prog 266:=⟨_,Tryz.func266,by kernel_rfl,by kernel_rfl⟩
theorem ASJ:Ad Tryz.prog 267:=⟨_,Tryz.func267,by kernel_rfl,by kernel_rfl⟩
theorem ASL:Ad Tryz.prog 268:=⟨_,Tryz.func268,by kernel_rfl,by kernel_rfl⟩
theorem ASM:Ad Tryz.prog 269:=⟨_,Tryz.func269,by kernel_rfl,by kernel_rfl⟩
theorem AOu:Ad Tryz.prog 272:=⟨_,Tryz.func272,by kernel_rfl,by kernel_rfl⟩
theorem ASN:Ad Tryz.prog 277:=⟨_,Tryz.func277,by kernel_rfl,by kernel_rfl⟩
theorem ASO:Ad Tryz.prog 278:=⟨_,Tryz.func278,by kernel_rfl,by kernel_rfl⟩
theorem ASP:Ad Tryz.prog 294:=⟨_,Tryz.func294,by kernel_rfl,by kernel_rfl⟩
theorem ASQ:Ad Tryz.prog 308:=⟨_,Tryz.func308,by kernel_rfl,by kernel_rfl⟩
theorem ASR:Ad Tryz.prog 309:=⟨_,Tryz.func309,by kernel_rfl,by kernel_rfl⟩
theorem ASS:Ad Tryz.prog 310:=⟨_,Tryz.func310,by kernel_rfl,by kernel_rfl⟩
theorem ASU:Ad Tryz.prog 318:=⟨_,Tryz.func318,by kernel_rfl,by kernel_rfl⟩
theorem ASV:Ad Tryz.prog 319:=⟨_,Tryz.func319,by kernel_rfl,by kernel_rfl⟩
theorem AOv:Ad Tryz.prog 322:=⟨_,Tryz.func322,by kernel_rfl,by kernel_rfl⟩
theorem ASW:Ad Tryz.prog 323:=⟨_,Tryz.func323,by kernel_rfl,by kernel_rfl⟩
theorem AOw:Ad Tryz.prog 324:=⟨_,Tryz.func324,by kernel_rfl,by kernel_rfl⟩
theorem ASX:Ad Tryz.prog 325:=⟨_,Tryz.func325,by kernel_rfl,by kernel_rfl⟩
theorem ASY:Ad Tryz.prog 338:=⟨_,Tryz.func338,by kernel_rfl,by kernel_rfl⟩
theorem ASZ:Ad Tryz.prog 344:=⟨_,Tryz.func344,by kernel_rfl,by kernel_rfl⟩
theorem mixed:Tryz.prog.follows .mixedOrders=true:=by kernel_rfl
end Go.Proofs.YtfmelbioccbdoaaGreat
end
section
namespace Go.Md
open Go Go.RowKit
section
structure Ob(α:Type)where
 v:Option α
instance {α:Type}:Inhabited (Ob α):=⟨⟨none⟩⟩
instance {α:Type}[Enc α]:Enc (Ob α)where
 agg:=false
 n:=1
 rep ok w cs x:=∃a,cs=[.pointer a]/\match x.v with
  |none=>a=none
  |some y=>∃b ds,a=some ⟨b,0,none⟩/\ok b/\b<w.heap.size/\Enc.rep ok w ds y/\Cs w b 0 ds
 len:=by rintro ok w cs x⟨a,rfl,_⟩;rfl
 one:=by rintro ok w cs x⟨a,rfl,_⟩;simp[Value.oneCell']
 sgl _:=rfl
 keep:=by
  rintro ok w w' cs⟨x⟩ k hs⟨a,rfl,h⟩;refine⟨a,rfl,?_⟩;cases x with
  |none=>exact h
  |some y=>
   obtain⟨b,ds,e,h1,h2,h3,h4⟩:=h;exact⟨b,ds,e,h1,by omega,Enc.keep k hs h3,h4.same (k b h1 h2)⟩
 mono:=by
  rintro ok ok' w cs⟨x⟩ hm⟨a,rfl,h⟩;refine⟨a,rfl,?_⟩;cases x with
  |none=>exact h
  |some y=>
   obtain⟨b,ds,e,h1,h2,h3,h4⟩:=h;exact⟨b,ds,e,hm b h2 h1,h2,Enc.mono hm h3,h4⟩
inductive Opq|mk
instance:Inhabited Opq:=⟨.mk⟩
instance:Enc Opq where
 agg:=false
 n:=1
 rep _ _ cs _:=∃v:Value,cs=[v]/\v.oneCell'=true
 len:=by rintro ok w cs x⟨v,rfl,_⟩;rfl
 one:=by rintro ok w cs x⟨v,rfl,h⟩;simpa using h
 sgl _:=rfl
 keep _ _ h:=h
 mono _ h:=h
section
variable {α:Type}[Enc α]{w:World}
theorem AOx:RV w (.pointer none) (⟨none⟩:Ob α):=⟨_,rfl,none,rfl,rfl⟩
theorem AGz{b:Nat}{ds:List Value}{y:α}(hc:Cs w b 0 ds)(hl:Nat.ble 1 ds.length=true)(h:Enc.rep (fun _=>True) w ds y):RV w (.pointer (some ⟨b,0,none⟩)) (⟨some y⟩:Ob α):=by
 refine⟨_,rfl,_,rfl,b,ds,rfl,trivial,?_,h,hc⟩;have hl:=Nat.le_of_ble_eq_true hl;exact World.block_lt_of_cell? w ⟨b,0+0,none⟩ (hc 0 ds[0] (by simp))
theorem ALG{v:Value}{x:Ob α}(h:RV w v x):∃a,v=.pointer a:=by
 obtain⟨cs,rfl,a,rfl,_⟩:=h;exact⟨a,rfl⟩
theorem AOy{cs:List Value}{x:Ob α}(h:Enc.rep (fun _=>True) w cs x):∃a,cs=[.pointer a]/\RV w (.pointer a) x:=by
 obtain⟨a,rfl,h⟩:=h;exact⟨a,rfl,_,rfl,a,rfl,h⟩
theorem AI3{a:Option Addr}{x:Ob α}(h:RV w (.pointer a) x):Enc.rep (fun _=>True) w [.pointer a] x:=by
 obtain⟨cs,e,a',rfl,h⟩:=h;cases e;exact⟨a,rfl,h⟩
theorem AG0{a:Option Addr}{x:Ob α}{y:α}(h:RV w (.pointer a) x)(hy:x.v=some y):∃b ds,a=some ⟨b,0,none⟩/\Enc.rep (fun _=>True) w ds y/\Cs w b 0 ds:=by
 obtain⟨_,e,h⟩:=AI3 h;cases e;rw[hy]at h;obtain⟨b,ds,e,_,_,h1,h2⟩:=h;exact⟨b,ds,e,h1,h2⟩
end
def FnI(P:Program)(α:Type)[Enc α](w:World)(v:Value)(p:α->Option Int):Prop:=
 ∃g fs cs,v=.func (.func g) (List.toArray fs) (List.toArray cs)/\Ad P g/\∀w' u x b,Ext w w'->RV w' u x->p x=some b->
  Calls P g (fs++[u]++cs).toArray w' (IA fun r w''=>r=.int .i64 b/\Ext w' w'')
theorem FnI.ext{P:Program}{α:Type}[Enc α]{w w':World}{v:Value}{p:α->Option Int}(h:FnI P α w v p)(k:Ext w w'):FnI P α w' v p:=
 let⟨g,fs,cs,e,c,h⟩:=h
 ⟨g,fs,cs,e,c,fun w2 u x b h2=>h w2 u x b (k.tr h2)⟩
section
variable {P:Program}{Q:Exit->Act->World->Prop}{n:Nat}{L:Fr}{D:List Deferred}{w:World}{ops:Array Oper}{rest:List Oper}
variable {ty:TypeId}{pos:String}{af:Array Edge}{dst:Option Nat}{gdd:Option (Nat×Bool)}{x y z:Operand}
theorem AQP{t e:TypeId}{agg:Bool}{m bytes:Nat}{zz:List Value}{a:Option Addr}{len cap:Nat}(hx:ev n L x=.slice a len cap)(hc:len<=cap)(ht:P.underlying t=some (.slice e))(he:TI P e agg m bytes zz)(hy:ev n L y=.int .i64 (len:Int))(hz:ev n L z=.int .i64 (len:Int)):
  (execOp (ev n L) {dst:=dst,op:=.slice t x none (some y) (some z),type:=ty,pos:=pos,after:=af,guard:=gdd}).run P w=.ok (.value (.slice a len len)) w:=by
 have e2:a.map (fun x:Addr=>x.add 0)=a:=by
  cases a with
  |none=>rfl
  |some ad=>obtain⟨b,o,s⟩:=ad;simp[Addr.add]
 by_cases hl:len=0
 ·subst hl
  simp[execOp,Instr.sliceAt,run_underlying ht,Instr.slice,hx,hy,hz,Instr.sliceBounds,Instr.sliceBound,asIntOf,he.size]
 ·have hl':¬(len=0):=hl
  simp[execOp,Instr.sliceAt,run_underlying ht,Instr.slice,hx,hy,hz,Instr.sliceBounds,Instr.sliceBound,asIntOf,he.size,e2];omega
theorem RV.full{α:Type}[Enc α]{a:Option Addr}{len cap:Nat}{l:List α}(h:RV w (.slice a len cap) l):RV w (.slice a l.length l.length) l:=by
 obtain⟨rfl,h1,h2⟩:=h.cap;exact RV.of1 (Nat.le_refl _) (by omega) h.els
theorem AQQ{α:Type}[Enc α][Flat α]{d:Nat}{st e:TypeId}{agg:Bool}{bytes:Nat}{zz:List Value}{a a2:Option Addr}{cap:Nat}{l k r:List α}(hs:ev n L x=.slice a l.length l.length)(hy:ev n L y=.slice a2 k.length cap)(ht:P.underlying st=some (.slice e))
  (he:TI P e agg (Enc.n α) bytes zz) (hm:Nat.ble 1 (Enc.n α)=true) (hb1:Nat.ble 1 bytes=true) (hl:RV w (.slice a l.length l.length) l) (hk:RV w (.slice a2 k.length cap) k) (hk0:Nat.ble 1 k.length=true) (hr:app bytes l k=some r)
  (cont:∀v' w',Row e w.heap.size w' v' r->Ext w w'->wpList P ops Q rest (act n (vG L d v') D) w'):
  wpList P ops Q ({dst:=some d,op:=.call {callee:=.builtin .append,args:=#[x,y],argTypes:=#[st,st]},type:=ty,pos:=pos,after:=af,guard:=none}::rest) (act n L D) w:=by
 obtain⟨hb,hrr⟩:=AE7 hr;have hk0':1<=k.length:=Nat.le_of_ble_eq_true hk0;by_cases hl0:l=[]
 ·subst hl0
  obtain⟨i,zv,hi,hn,hby,hz,hzc,_⟩:=he.info;have hm':0<Enc.n α:=Nat.le_of_ble_eq_true hm;have hb1':1<=bytes:=Nat.le_of_ble_eq_true hb1;have hkb:k.length<=k.length*bytes:=by have:=Nat.mul_le_mul_left k.length hb1';omega
  simp only[List.length_nil,Nat.zero_add]at hb;have h63:k.length<=maxLen:=by unfold maxLen;omega
  rcases hk.els with rfl|⟨b2,off2,rfl,_,_,h2⟩
  ·simp at hk0'
  have hnews:∀j u,(k.flatMap Flat.enc)[j]?=some u->w.cell? ((⟨b2,off2,none⟩:Addr).add j)=some u:=by
   intro j u hj;rw[AAq];have:=AHi (w:=w) (b:=b2) (off:=off2) k 0 (fun i x hx=>by
    obtain⟨cs,h1,h2⟩:=h2 i x hx;rw[Flat.iff.1 h1]at h2;simpa using h2) j u hj
   simpa using this
  have h1:∀u∈k.flatMap Flat.enc,u.oneCell'=true:=fun u hu=>by obtain⟨y,_,hy⟩:=List.mem_flatMap.1 hu;exact Flat.one y u hy
  have hzs:zv.cells.size=Enc.n α:=by rw[hzc];simpa using he.zlen
  have key:∃v' w',(Builtin.append_ #[st,st] ty #[.slice a 0 0,.slice (some ⟨b2,off2,none⟩) k.length cap]).run P w=.ok v' w'/\w'.ownsRow w.heap.size e (Enc.n α) v' k.length (k.flatMap Flat.enc)/\w.grownBy w' none:=by
   cases a with
   |none=>
    obtain⟨v',w',hrun,hown,hg,_⟩:=run_append_own (P:=P) w w.heap.size st ty e i zv (Enc.n α) bytes ht hi hz hn hby hzs hm' _ 0 _ (World.ownsRow_nil w _ e _) ⟨b2,off2,none⟩ k.length cap (k.flatMap Flat.enc) (Flat.flen k) hnews h1 (by simpa using h63) (by simpa using hb) (Nat.le_refl _);exact⟨v',w',hrun,by simpa using hown,hg⟩
   |some ad=>
    obtain⟨v',w',hrun,hown,hg⟩:=run_append_arg_grows (P:=P) w st ty e i zv (Enc.n α) bytes ht hi hz hn hby hzs hm' ad 0 0 [] (by simp) (by simp) ⟨b2,off2,none⟩ k.length cap (k.flatMap Flat.enc) (Flat.flen k) hnews (by omega) (by simpa using h63) (by simpa using hb);exact⟨v',w',hrun,by simpa using hown,hg⟩
  obtain⟨v',w',hrun,hown,hg⟩:=key;refine Zv (v:=v') (w':=w') (by simp only[List.length_nil]at hs;simp[execOp,resolve,invoke,Go.builtin,hs,hy,hrun]) (cont v' w' ?_ ⟨hg.os,hg.tape,hg.output,hg.size,fun q hq=>hg.block q hq (by simp)⟩);subst hrr;exact hown
 ·obtain⟨i,zv,hi,hn,hby,hz,hzc,_⟩:=he.info
  have hm':0<Enc.n α:=Nat.le_of_ble_eq_true hm;have hb1':1<=bytes:=Nat.le_of_ble_eq_true hb1;have hkb:l.length+k.length<=(l.length+k.length)*bytes:=by have:=Nat.mul_le_mul_left (l.length+k.length) hb1';omega
  have h63:l.length+k.length<=maxLen:=by unfold maxLen;omega
  rcases hk.els with rfl|⟨b2,off2,rfl,_,_,h2⟩
  ·simp at hk0'
  rcases hl.els with h|⟨b1,off1,rfl,_,_,h3⟩
  ·exact(hl0 h).elim
  have cells:∀(b off:Nat)(q:List α),(∀i x,q[i]?=some x->∃cs,Enc.rep (fun _=>True) w cs x/\Cs w b (off+i*Enc.n α) cs)->∀j u,(q.flatMap Flat.enc)[j]?=some u->w.cell? ((⟨b,off,none⟩:Addr).add j)=some u:=by
   intro b off q hq j u hj;rw[AAq];have:=AHi (w:=w) (b:=b) (off:=off) q 0 (fun i x hx=>by
    obtain⟨cs,h1,h2⟩:=hq i x hx;rw[Flat.iff.1 h1]at h2;simpa using h2) j u hj
   simpa using this
  have hzs:zv.cells.size=Enc.n α:=by rw[hzc];simpa using he.zlen
  obtain⟨v',w',hrun,hown,hg⟩:=run_append_arg_grows (P:=P) w st ty e i zv (Enc.n α) bytes ht hi hz hn hby hzs hm' ⟨b1,off1,none⟩ l.length l.length (l.flatMap Flat.enc) (Flat.flen l) (cells _ _ _ h3) ⟨b2,off2,none⟩ k.length cap (k.flatMap Flat.enc) (Flat.flen k)
   (cells _ _ _ h2) (by omega) h63 hb
  refine Zv (v:=v') (w':=w') (by simp[execOp,resolve,invoke,Go.builtin,hs,hy,hrun]) (cont v' w' ?_ ⟨hg.os,hg.tape,hg.output,hg.size,fun q hq=>hg.block q hq (by simp)⟩);subst hrr;unfold Row;rw[List.length_append,List.flatMap_append];exact hown
end
theorem Row.chg{α:Type}[Enc α][Flat α]{e:TypeId}{base b:Nat}{w w':World}{v:Value}{l:List α}(h:Row e base w v l)(c:Chg b w w')(hb:b<base):Row e base w' v l:=by
 refine⟨h.1,?_⟩;rcases h.2 with hn|⟨g,cap,cur,e1,hg,hh,r⟩
 ·exact .inl hn
 ·exact .inr ⟨g,cap,cur,e1,hg,(c.other g (by omega)).trans hh,r⟩
def Reps{α:Type}[Enc α](w:World):List (List Value)->List α->Prop
 |[],[]=>True
 |c::cs,x::xs=>Enc.rep (fun _=>True) w c x/\Reps w cs xs
 |_,_=>False
theorem Reps.at{α:Type}[Enc α]{w:World}:∀{css:List (List Value)}{l:List α},Reps w css l->∀i x,l[i]?=some x->∃cs,Enc.rep (fun _=>True) w cs x/\∀j c,cs[j]?=some c->css.flatten[i*Enc.n α+j]?=some c
 |[],[],_,i,x,h=>by simp at h
 |c::css,y::l,hr,0,x,h=>by
  simp only[List.getElem?_cons_zero,Option.some.injEq]at h;subst h;refine⟨c,hr.1,fun j u hu=>?_⟩;have:j<c.length:=(List.getElem?_eq_some_iff.1 hu).1;simp[List.getElem?_append_left this,hu]
 |c::css,y::l,hr,i+1,x,h=>by
  obtain⟨cs,h1,h2⟩:=Reps.at hr.2 i x (by simpa using h);refine⟨cs,h1,fun j u hu=>?_⟩;have hl:=Enc.len hr.1;rw[List.flatten_cons,List.getElem?_append_right (by rw[hl,Nat.add_mul];omega),hl,show(i+1)*Enc.n α+j-Enc.n α=i*Enc.n α+j by rw[Nat.add_mul];omega];exact h2 j u hu
 |[],_::_,h,_,_,_=>h.elim
 |_::_,[],h,_,_,_=>h.elim
theorem RV.lit{α:Type}[Enc α]{w:World}{b n:Nat}{T:TypeId}{cs:List Value}{css:List (List Value)}{l:List α}(hb:Bx w b T cs)(hf:cs=css.flatten)(h:Reps w css l)(hn:l.length=n)(hm:n<=maxLen):RV w (.slice (some ⟨b,0,none⟩) n n) l:=by
 subst hn hf;refine RV.of1 (Nat.le_refl _) hm (.inr ⟨b,0,rfl,trivial,hb.lt,fun i x hx=>?_⟩);obtain⟨cs,h1,h2⟩:=h.at i x hx;refine⟨cs,h1,fun j c hc=>?_⟩;have:=hb.cs _ _ (h2 j c hc);simpa using this
theorem AI4{w:World}{base size n:Nat}{e:TypeId}{v:Value}{xs:List Value}(h:w.ownsRow base e size v n xs):v.ownBlock=none/\n=0\/∃g,v.ownBlock=some g/\base<=g/\g<w.heap.size:=by
 rcases h.2 with⟨rfl,h0⟩|⟨g,cap,cur,rfl,hb,hg,_⟩
 ·exact .inl ⟨rfl,h0⟩
 ·exact .inr ⟨g,rfl,hb,(Array.getElem?_eq_some_iff.1 hg).1⟩
theorem AKP{P:Program}{α:Type}[Enc α][Flat α]{w:World}{st ty e:TypeId}{agg:Bool}{bytes base:Nat}{z:List Value}{v:Value}{a:Option Addr}{cap:Nat}{l k:List α}(ht:P.underlying st=some (.slice e))
  (he:TI P e agg (Enc.n α) bytes z) (hm:0<Enc.n α) (hb1:1<=bytes) (hrow:Row e base w v l) (hk:Els α (fun _=>True) w a k) (hb:(l.length+k.length)*bytes<=140737488355328) (hbase:base<=w.heap.size):
  ∃v' w',(Builtin.append_ #[st,st] ty #[v,.slice a k.length cap]).run P w=.ok v' w'/\Row e base w' v' (l++k)/\w.grownBy w' v.ownBlock/\(v'.ownBlock=v.ownBlock\/∃g,v'.ownBlock=some g/\w.heap.size<=g):=by
 obtain⟨i,zv,hi,hn,hby,hz,hzc,_⟩:=he.info;have h63:l.length+k.length<=maxLen:=by
  have h1:l.length+k.length<=(l.length+k.length)*bytes:=by
   have:=Nat.mul_le_mul_left (l.length+k.length) hb1;omega
  have h2:(140737488355328:Nat)<=maxLen:=by unfold maxLen;omega
  omega
 have hzs:zv.cells.size=Enc.n α:=by rw[hzc];simpa using he.zlen
 have h1:∀u∈k.flatMap Flat.enc,u.oneCell'=true:=fun u hu=>by obtain⟨y,_,hy⟩:=List.mem_flatMap.1 hu;exact Flat.one y u hy
 have fin:∀{v' w'}{b:Nat},base<=b->w'.ownsRow b e (Enc.n α) v' (l.length+k.length) (l.flatMap Flat.enc++k.flatMap Flat.enc)->Row e base w' v' (l++k):=fun hbb h=>by
  refine Row.bnd ?_ hbb;unfold Row;rw[List.length_append,List.flatMap_append];exact h
 cases a with
 |none=>
  have hk0:k=[]:=by
   rcases hk with h|⟨_,_,h,_⟩
   ·exact h
   ·cases h
  subst hk0;have hrun:(Builtin.append_ #[st,st] ty #[v,.slice none 0 cap]).run P w=.ok v w:=by
   rcases hrow.2 with⟨rfl,h0⟩|⟨g,cap',cur,rfl,_,_,hnc,_⟩
   ·simp[Builtin.append_,run_underlying ht,sizeOf,typeInfo,hi,Builtin.lenOf,Builtin.firstCells]
   ·simp[Builtin.append_,run_underlying ht,sizeOf,typeInfo,hi,Builtin.lenOf,Builtin.firstCells,hnc,storeCells]
  exact⟨v,w,hrun,by simpa using hrow,⟨rfl,rfl,rfl,Nat.le_refl _,fun _ _ _=>rfl⟩,.inl rfl⟩
 |some ad=>
  have hsrc:∀j u,(k.flatMap Flat.enc)[j]?=some u->w.cell? (ad.add j)=some u:=by
   rcases hk with rfl|⟨b,off,e1,_,_,h⟩
   ·intro j u h;simp at h
   ·cases e1
    intro j u hj;rw[AAq];have:=AHi (w:=w) (b:=b) (off:=off) k 0 (fun i x hx=>by
     obtain⟨cs,h1,h2⟩:=h i x hx;rw[Flat.iff.1 h1]at h2;simpa using h2) j u hj
    simpa using this
  have hlen:=hrow.1;rcases hrow.2 with⟨rfl,h0⟩|⟨g,cap',cur,rfl,hbg,hg,hnc,hcm,hcs,htake⟩
  ·have hl0:l=[]:=List.eq_nil_of_length_eq_zero h0
   subst hl0;obtain⟨v',w',hrun,hown,hgr,_⟩:=run_append_own (P:=P) w w.heap.size st ty e i zv (Enc.n α) bytes ht hi hz hn hby hzs hm _ 0 _ (World.ownsRow_nil w _ e _) ad k.length cap (k.flatMap Flat.enc) (Flat.flen k) hsrc h1 (by simpa using h63) (by simpa using hb) (Nat.le_refl _);refine⟨v',w',hrun,fin hbase (by simpa using hown),hgr,?_⟩;rcases AI4 hown with⟨h,_⟩|⟨g,h,h2,_⟩
   ·exact .inl h
   ·exact .inr ⟨g,h,h2⟩
  ·by_cases hc:l.length+k.length<=cap'
   ·obtain⟨w',hrun,hown,hgr⟩:=run_append_fits (P:=P) w base st ty e i (Enc.n α) ht hi hn g l.length cap' (l.flatMap Flat.enc) hrow ad k.length cap (k.flatMap Flat.enc) (Flat.flen k) hsrc h1 hc
    exact⟨_,w',hrun,fin (Nat.le_refl _) hown,hgr,.inl rfl⟩
   ·obtain⟨v',w',hrun,hown,hgr⟩:=run_append_arg_grows (P:=P) w st ty e i zv (Enc.n α) bytes ht hi hz hn hby hzs hm ⟨g,0,none⟩ l.length cap' (l.flatMap Flat.enc) (Flat.flen l) (fun j u hj=>by
      have:=hrow.cells (g:=g) rfl j u hj;simpa[AAq]using this) ad k.length cap (k.flatMap Flat.enc) (Flat.flen k) hsrc (by omega) h63 hb
    refine⟨v',w',hrun,fin hbase hown,⟨hgr.os,hgr.tape,hgr.output,hgr.size,fun q hq _=>hgr.block q hq (by simp)⟩,?_⟩;rcases AI4 hown with⟨h,h0⟩|⟨g,h,h2,_⟩
    ·omega
    ·exact .inr ⟨g,h,h2⟩
section
variable {P:Program}{Q:Exit->Act->World->Prop}{n:Nat}{L:Fr}{D:List Deferred}{w:World}{ops:Array Oper}{rest:List Oper}
variable {ty:TypeId}{pos:String}{af:Array Edge}{dst:Option Nat}{gdd:Option (Nat×Bool)}{x y z:Operand}
theorem ADq{α:Type}[Enc α][Flat α]{d:Nat}{st e:TypeId}{agg:Bool}{bytes base:Nat}{z:List Value}{v:Value}{a:Option Addr}{cap:Nat}{l k r:List α}(hs:ev n L x=v)(hy:ev n L y=.slice a k.length cap)(ht:P.underlying st=some (.slice e))
  (he:TI P e agg (Enc.n α) bytes z) (hm:Nat.ble 1 (Enc.n α)=true) (hb1:Nat.ble 1 bytes=true) (hrow:Row e base w v l) (hk:Els α (fun _=>True) w a k) (hr:app bytes l k=some r) (hbase:base<=w.heap.size)
  (cont:∀v' w',Row e base w' v' r->Below base w w'->w.grownBy w' v.ownBlock->(v'.ownBlock=v.ownBlock\/∃g,v'.ownBlock=some g/\w.heap.size<=g)->wpList P ops Q rest (act n (vG L d v') D) w'):
  wpList P ops Q ({dst:=some d,op:=.call {callee:=.builtin .append,args:=#[x,y],argTypes:=#[st,st]},type:=ty,pos:=pos,after:=af,guard:=none}::rest) (act n L D) w:=by
 obtain⟨hb,rfl⟩:=AE7 hr;obtain⟨v',w',hrun,hrow',hg,ho⟩:=AKP (ty:=ty) (cap:=cap) ht he (Nat.le_of_ble_eq_true hm) (Nat.le_of_ble_eq_true hb1) hrow hk hb hbase;refine Zv (v:=v') (w':=w') (by simp[execOp,resolve,invoke,Go.builtin,hs,hy,hrun]) (cont v' w' hrow' ⟨hg.os,hg.tape,hg.output,hg.size,fun q hq=>hg.block q (by omega) (fun e2=>?_)⟩ hg ho);have:=hrow.lt q e2.symm;omega
end
theorem Row.ne_new{α:Type}[Enc α][Flat α]{e:TypeId}{base b:Nat}{w:World}{v:Value}{l:List α}(h:Row e base w v l)(hb:w.heap.size<=b):some b≠v.ownBlock:=fun e2=>by
 have:=h.lt b e2.symm;omega
theorem Row.ne_old{α:Type}[Enc α][Flat α]{e:TypeId}{base b:Nat}{w:World}{v:Value}{l:List α}(h:Row e base w v l)(hb:b<base):some b≠v.ownBlock:=fun e2=>by
 have:=h.lt b e2.symm;omega
theorem Bx.gr{w w':World}{b:Nat}{T:TypeId}{cs:List Value}{row:Option Nat}(h:Bx w b T cs)(g:w.grownBy w' row)(hne:some b≠row):Bx w' b T cs:=(g.block b h.lt hne).trans h
theorem AFa{w:World}{b:Nat}{v v':Value}(ho:v'.ownBlock=v.ownBlock\/∃g,v'.ownBlock=some g/\w.heap.size<=g)(hne:some b≠v.ownBlock)(hb:b<w.heap.size):some b≠v'.ownBlock:=by
 rcases ho with h|⟨g,h,hg⟩
 ·rw[h];exact hne
 ·rw[h];intro e;cases e;omega
theorem Row.chgn{α:Type}[Enc α][Flat α]{e:TypeId}{base b:Nat}{w w':World}{v:Value}{l:List α}(h:Row e base w v l)(c:Chg b w w')(hb:some b≠v.ownBlock):Row e base w' v l:=by
 refine⟨h.1,?_⟩;rcases h.2 with hn|⟨g,cap,cur,e1,hg,hh,r⟩
 ·exact .inl hn
 ·refine .inr ⟨g,cap,cur,e1,hg,(c.other g fun e2=>hb ?_).trans hh,r⟩
  rw[e1,<-e2];rfl
theorem Row.gr{α:Type}[Enc α][Flat α]{e:TypeId}{base:Nat}{w w':World}{v:Value}{l:List α}{row:Option Nat}(h:Row e base w v l)(g:w.grownBy w' row)(hb:∀q,row=some q->q<base):Row e base w' v l:=by
 refine⟨h.1,?_⟩;rcases h.2 with hn|⟨q,cap,cur,e1,hq,hh,r⟩
 ·exact .inl hn
 ·refine .inr ⟨q,cap,cur,e1,hq,(g.block q (Array.getElem?_eq_some_iff.1 hh).1 fun e2=>?_).trans hh,r⟩
  have:=hb q e2.symm;omega
theorem Row.own_lt{α:Type}[Enc α][Flat α]{e:TypeId}{base:Nat}{w:World}{v:Value}{l:List α}(h:Row e base w v l):∀q,v.ownBlock=some q->q<w.heap.size:=fun q e2=>(h.lt q e2).2
section
variable {P:Program}{n:Nat}{L:Fr}{w:World}
variable {ty:TypeId}{pos:String}{af:Array Edge}{dst:Option Nat}{gdd:Option (Nat×Bool)}{x y:Operand}
theorem ATh{t t' e:TypeId}{a:Option Addr}{len cap:Nat}(ht:P.underlying t=some (.slice e))(hx:ev n L x=.slice a len cap)(hy:ev n L y=.slice none 0 0):
  (execOp (ev n L) {dst:=dst,op:=.binOp .eql t x y t',type:=ty,pos:=pos,after:=af,guard:=gdd}).run P w=.ok (.value (.bool a.isNone)) w:=by
 have h:(Op.equal t (.slice a len cap) (.slice none 0 0)).run P w=.ok a.isNone w:=by
  show(Op.equalIn (9999+1) t _ _).run P w=_;rw[Op.equalIn];simp only[Sem.run_bind,run_underlying ht,Result.andThen_ok];cases a<;>rfl
 simp[execOp,hx,hy,eqGuard,Go.binOp,h]
end
end
section
def RF(l:Nat):Fence:=Fence.wide.inRound l
def AGG(K:Act->World->Prop):Exit->Act->World->Prop:=fun e a w=>match e with
 |.normal=>K a w
 |_=>False
section
variable {P:Program}{Q:Exit->Act->World->Prop}{l m n:Nat}{L:Fr}{D:List Deferred}{w:World}{ops:Array Oper}{rest:List Oper}
theorem opR{o:Oper}{a:Act}{K K':Act->World->Prop}(hd:∀c,o.op≠.defer c)(h:o.wp P a w K (AGG K')):o.wpIn (RF l) m P a w K Q:=by
 unfold Oper.wpIn;refine⟨fun _ _=>trivial,?_⟩;rw[Oper.semAt_eq _ _ _ hd];unfold Oper.wp at h;generalize(execOp a.eval o).run P w=r at*
 have hdep:(RF l).depth.isSome=true->1<=m:=fun h=>by simp[RF,Fence.wide]at h
 cases r with
 |ok x w'=>
  cases x<;>simp only[Oper.upon,Oper.uponIn]at h⊢
  case value=>exact h
  case skip=>exact h
  case defer=>exact h
  case enter f args=>
   refine⟨hdep,CallsIn.inRound l ((callsIn_wide.2 h).mono fun e w'' he=>?_)⟩;cases e with
   |returned v=>exact he
   |panicked c=>exact he.elim
   |outgrown=>obtain⟨_,_,he⟩:=he;exact he.elim
  case row row args=>
   refine⟨hdep,fun c cs _=>?_⟩;obtain⟨v,w'',hr,hs⟩:=h c cs;exact⟨v,w'',hr,by rw[RF,fenced_inRound];exact stepsIn_wide.2 hs⟩
 |halt x w'=>cases x<;>simp only[Oper.upon]at h;exact h.elim
theorem ALH(hd:∀(i:Nat)(o:Oper)c,ops[i]?=some o->o.op≠.defer c):∀(is:List Nat)(a:Act)(w:World),wpOps P ops (AGG (Q .normal)) is a w->wpOpsIn (RF l) m P ops Q is a w
 |[],a,w,h=>h
 |i::is,a,w,h=>by
  simp only[wpOps]at h;simp only[wpOpsIn];cases ho:ops[i]? with
  |none=>simp only[ho]at h;exact ALH hd is a w h
  |some o=>
   simp only[ho]at h⊢;split
   ·rename_i hw
    rw[if_pos hw]at h;rcases h with h|⟨_,_,_,h⟩
    ·exact Oper.wpIn_mono (fun a w h=>ALH hd is a w h) (opR (K':=Q .normal) (fun c=>hd i o c ho) h)
    ·exact h.elim
   ·rename_i hw
    rw[if_neg hw]at h;exact⟨fun _ _=>trivial,ALH hd is _ w h⟩
def noDefer(l:List Oper):Bool:=l.all fun o=>match o.op with|.defer _=>false|_=>true
theorem AFb{k:List Oper}(h:noDefer k=true):∀(i:Nat)(o:Oper)c,k.toArray[i]?=some o->o.op≠.defer c:=by
 intro i o c ho e;have:=List.all_eq_true.1 h o (by
  simp only[List.getElem?_toArray]at ho;exact List.mem_of_getElem? ho)
 rw[e]at this;cases this
theorem rgR{id:Nat}{k:List Oper}(hd:noDefer k=true)(h:wpList P k.toArray (AGG (Q .normal)) k (act n L D) w):(Code.region id k.toArray false).wpIn (RF l) m P Q (act n L D) w:=by
 refine wpIn_region (ALH (AFb hd) _ _ _ ?_);have e:=wpOps_eq_wpList (P:=P) (ops:=k.toArray) (Q:=AGG (Q .normal)) k 0 (fun j=>by simp);rw[List.range_eq_range'];have:k.toArray.size=k.length:=by simp
 rw[this,e];exact h
theorem ALI(hd:∀(i:Nat)(o:Oper)c,ops[i]?=some o->o.op≠.defer c):∀(f:Nat)(listed:Array Bool)(a:Act)(w:World),wpAny P .any ops (AGG (Q .normal)) f listed a w->wpAnyIn (RF l) m P .any ops Q f listed a w
 |0,_,_,_,h=>h
 |f+1,listed,a,w,h=>⟨h.1,fun i hi=>by
   have h1:=h.2 i hi;unfold wpOp at h1;unfold wpOpIn;cases ho:ops[i]? with
   |none=>simp only[ho]at h1;exact ALI hd f _ a w h1
   |some o=>
    simp only[ho]at h1⊢;split
    ·rename_i hw
     rw[if_pos hw]at h1;rcases h1 with h1|⟨_,_,_,h1⟩
     ·exact Oper.wpIn_mono (fun a w h=>ALI hd f _ a w h) (opR (K':=Q .normal) (fun c=>hd i o c ho) h1)
     ·exact h1.elim
    ·rename_i hw
     rw[if_neg hw]at h1;exact⟨fun _ _=>trivial,ALI hd f _ _ w h1⟩⟩
theorem AGe{id:Nat}{k:List Oper}(T:List Nat)(p:Plan)(hm:P.follows .mixedOrders=true)
  (hok:(noDefer k&&(Region.noSelect k.toArray&&p.ok k.toArray T false k.length (Array.replicate k.length false)))=true)
  (h:∀wd,Ext w wd->p.wp P k.toArray (fun w'=>Ext wd w') T (Q .normal) false (act n L D) wd):(Code.region id k.toArray true).wpIn (RF l) m P Q (act n L D) w:=by
 simp only[Bool.and_eq_true]at hok;refine wpIn_region_any hm (ALI (AFb hok.1) _ _ _ _ ?_);have:=Plan.sound (P:=P) (S:=fun w'=>Ext w.drew w') (T:=T) (Q:=Q .normal) hok.2.1 k.length p _ (act n L D) w.drew ClosedL.none hok.2.2 (h w.drew (Ext.drew w));have:=AE4 (Q:=AGG (Q .normal)) (S:=fun w'=>Ext w.drew w') (T:=T) k.length (Array.replicate k.length false) (act n L D) w.drew this;simpa using this
theorem AEX{c:Operand}{x y:Code}{b:Bool}(hc:ev n L c=.bool b)(ht:b=true->x.wpIn (RF l) m P Q (act n L D) w)(hf:b=false->y.wpIn (RF l) m P Q (act n L D) w):
  (Code.cond c x y).wpIn (RF l) m P Q (act n L D) w:=
 wpIn_cond_split (by rw[AAW];exact hc) ht hf
theorem ctR{c:Code}(R:Fr->World->Prop)(h:c.wpIn (RF l) m P (Exit.then (Mt R n D) Q) (act n L D) w)
  (k:∀L' w',R L' w'->Q .normal (act n L' D) w'):c.wpIn (RF l) m P Q (act n L D) w:=
 wpIn_mono h fun e a w' hq=>by
  cases e with
  |normal=>obtain⟨L',rfl,hr⟩:=hq;exact k L' w' hr
  |_=>exact hq
end
end
end Go.Md
end
section
namespace Go.Md
open Go Go.RowKit
open Go.Maps (Keyed)
section
section
variable {κ ν:Type}[DecidableEq κ]
def AAI(d:ν):List (κ×ν)->κ->ν
 |[],_=>d
 |(a,b)::l,k=>if a=k then b else AAI d l k
def AHl:List (κ×ν)->κ->Bool
 |[],_=>false
 |(a,_)::l,k=>if a=k then true else AHl l k
def xZ:List (κ×ν)->κ->ν->List (κ×ν)
 |[],k,v=>[(k,v)]
 |(a,b)::l,k,v=>if a=k then(k,v)::l else(a,b)::xZ l k v
def AHm:List (κ×ν)->κ->List (κ×ν)
 |[],_=>[]
 |(a,b)::l,k=>if a=k then l else(a,b)::AHm l k
theorem AHn{d:ν}{k:κ}:∀{l:List (κ×ν)},(∀p∈l,p.1≠k)->AAI d l k=d/\AHl l k=false/\(∀v,xZ l k v=l++[(k,v)])/\AHm l k=l
 |[],_=>⟨rfl,rfl,fun _=>rfl,rfl⟩
 |(a,b)::l,h=>by
  have h1:a≠k:=h (a,b) (by simp);obtain⟨i1,i2,i3,i4⟩:=AHn (d:=d) (l:=l) (fun p hp=>h p (by simp[hp]));simp only[AAI,AHl,xZ,AHm,if_neg h1,i1,i2,i4,true_and];exact⟨fun v=>by rw[i3];rfl,trivial⟩
theorem AHo{d:ν}{k:κ}{u:ν}:∀{l:List (κ×ν)}{j:Nat},(l.map (·.1)).Nodup->l[j]?=some (k,u)->AAI d l k=u/\AHl l k=true/\(∀v,xZ l k v=l.set j (k,v))/\AHm l k=l.eraseIdx j
 |[],j,_,h=>by simp at h
 |(a,b)::l,0,_,h=>by
  simp only[List.getElem?_cons_zero,Option.some.injEq,Prod.mk.injEq]at h;obtain⟨rfl,rfl⟩:=h;simp[AAI,AHl,xZ,AHm]
 |(a,b)::l,j+1,hn,h=>by
  simp only[List.map_cons,List.nodup_cons]at hn;have hj:l[j]?=some (k,u):=by simpa using h
  have h1:a≠k:=fun e=>hn.1 (by rw[e];exact List.mem_map.2 ⟨(k,u),List.mem_of_getElem? hj,rfl⟩);obtain⟨i1,i2,i3,i4⟩:=AHo (d:=d) hn.2 hj;simp only[AAI,AHl,xZ,AHm,if_neg h1,i1,i2,i4,true_and,List.eraseIdx_cons_succ];exact⟨fun v=>by rw[i3];rfl,trivial⟩
theorem AH9{k:κ}{v:ν}:∀{l:List (κ×ν)}{q:κ×ν},q∈xZ l k v->q=(k,v)\/q∈l
 |[],q,h=>by simp[xZ]at h;exact .inl h
 |(a,b)::l,q,h=>by
  simp only[xZ]at h;split at h
  ·rcases List.mem_cons.1 h with h|h
   ·exact .inl h
   ·exact .inr (by simp[h])
  ·rcases List.mem_cons.1 h with h|h
   ·exact .inr (by simp[h])
   ·rcases AH9 h with h|h
    ·exact .inl h
    ·exact .inr (by simp[h])
theorem AI5{k:κ}{v:ν}{x:κ}:∀{l:List (κ×ν)},x∈(xZ l k v).map (·.1)↔x=k\/x∈l.map (·.1)
 |[]=>by simp[xZ]
 |(a,b)::l=>by
  simp only[xZ];split
  ·rename_i h;subst h;simp
  ·simp only[List.map_cons,List.mem_cons,AI5 (l:=l)]
   constructor
   ·rintro(h|h|h)
    ·exact .inr (.inl h)
    ·exact .inl h
    ·exact .inr (.inr h)
   ·rintro(h|h|h)
    ·exact .inr (.inl h)
    ·exact .inl h
    ·exact .inr (.inr h)
theorem AFA{k:κ}{v:ν}:∀{l:List (κ×ν)},(l.map (·.1)).Nodup->((xZ l k v).map (·.1)).Nodup
 |[],_=>by simp[xZ]
 |(a,b)::l,h=>by
  simp only[List.map_cons,List.nodup_cons]at h;simp only[xZ];split
  ·rename_i e;subst e;simp only[List.map_cons,List.nodup_cons];exact h
  ·rename_i e
   simp only[List.map_cons,List.nodup_cons,AI5];exact⟨by rintro(h'|h');exact e h';exact h.1 h',AFA h.2⟩
end
class Key(κ:Type)[Enc κ][Flat κ]where
 ok:κ->Bool
instance:Key Int:=⟨fun k=>(Lit.int .i64 k).wf⟩
def fv{α:Type}[Enc α][Flat α](x:α):Value:=Enc.val α (Flat.enc x)
structure KT(P:Program)(tk:TypeId)(κ:Type)[Enc κ][Flat κ][Key κ]:Prop where
 kd:Keyed P tk
 of:∀k:κ,Key.ok k=true->∃l,keyOf P tk (fv k)=some l
 inj:∀a b:κ,fv a=fv b->a=b
theorem KT.int{P:Program}{tk:TypeId}(h:P.underlying tk=some (.int .i64)):KT P tk Int:=
 ⟨Maps.int_keyed h,fun k hk=>⟨_,Maps.keyOf_int_mk h hk⟩,fun a b e=>by
  have:Value.int .i64 a=Value.int .i64 b:=e;cases this;rfl⟩
set_option linter.unusedSectionVars false
variable {κ ν:Type}[DecidableEq κ][Enc κ][Flat κ][Key κ][Enc ν][Flat ν]
def Mp(w:World)(b:Nat)(l:List (κ×ν)):Prop:=
 ∃es clock,w.heap[b]?=some (.map es clock)/\es.toList.map (fun e=>(e.key,e.val))=l.map (fun p=>(fv p.1,fv p.2))/\(l.map (·.1)).Nodup/\∀p∈l,Key.ok p.1=true
section
variable {w w':World}{b:Nat}{l:List (κ×ν)}
theorem Mp.same(h:Mp w b l)(k:w'.heap[b]?=w.heap[b]?):Mp w' b l:=by
 obtain⟨es,c,h1,h⟩:=h;exact⟨es,c,k.trans h1,h⟩
theorem Mp.lt(h:Mp w b l):b<w.heap.size:=by
 obtain⟨es,c,h1,_⟩:=h;exact(Array.getElem?_eq_some_iff.1 h1).1
theorem Mp.below(h:Mp w b l){B:Nat}(k:Below B w w')(hb:b<B):Mp w' b l:=h.same (k.block b hb)
theorem Mp.ext(h:Mp w b l)(k:Ext w w'):Mp w' b l:=h.below k h.lt
theorem Mp.chg{c:Nat}(h:Mp w b l)(k:Chg c w w')(hne:b≠c):Mp w' b l:=h.same (k.other b hne)
theorem Mp.gr{row:Option Nat}(h:Mp w b l)(g:w.grownBy w' row)(hne:some b≠row):Mp w' b l:=h.same (g.block b h.lt hne)
theorem Mp.new(w:World):Mp (κ:=κ) (ν:=ν) (w.alloc (.map #[] 0)) w.heap.size []:=
 ⟨#[],0,by show(w.heap.push _)[w.heap.size]?=_;rw[Array.getElem?_push,if_pos rfl],rfl,by simp,by simp⟩
theorem Mp.ok(h:Mp w b l):∀p∈l,Key.ok p.1=true:=by
 obtain⟨_,_,_,_,_,h⟩:=h;exact h
theorem Mp.not_cells(h:Mp w b l){T:TypeId}{cs:List Value}{c:Nat}(hx:Bx w c T cs):b≠c:=by
 rintro rfl;obtain⟨es,cl,h1,_⟩:=h;rw[show w.heap[b]?=_ from hx]at h1;cases h1
theorem ALJ{es:Array MapEntry}{l:List (κ×ν)}(h:es.toList.map (fun e=>(e.key,e.val))=l.map (fun p=>(fv p.1,fv p.2))){j:Nat}{e:MapEntry}(he:es.toList[j]?=some e):
  ∃p,l[j]?=some p/\e.key=fv p.1/\e.val=fv p.2:=by
 have:=congrArg (fun x=>x[j]?) h;simp only[List.getElem?_map,he,Option.map_some]at this;cases hl:l[j]? with
 |none=>rw[hl]at this;cases this
 |some p=>
  rw[hl]at this;simp only[Option.map_some,Option.some.injEq,Prod.mk.injEq]at this;exact⟨p,rfl,this.1,this.2⟩
theorem Mp.find{P:Program}{tk:TypeId}{es:Array MapEntry}(K:KT P tk κ)(h:es.toList.map (fun e=>(e.key,e.val))=l.map (fun p=>(fv p.1,fv p.2)))(hok:∀p∈l,Key.ok p.1=true){k:κ}(hk:Key.ok k=true)(w:World):
  ((Instr.findKey tk (fv k) es.toList).run P w=.ok none w/\∀p∈l,p.1≠k)\/
  ∃j u,(Instr.findKey tk (fv k) es.toList).run P w=.ok (some (j,fv u)) w/\l[j]?=some (k,u)/\∃e,es[j]?=some e/\e.key=fv k:=by
 obtain⟨lk,hlk⟩:=K.of k hk;have hr:∀e∈es.toList,∃l,keyOf P tk e.key=some l:=by
  intro e he;obtain⟨j,hj,rfl⟩:=List.getElem_of_mem he;obtain⟨p,hp,h1,_⟩:=ALJ h (j:=j) (List.getElem?_eq_getElem hj);rw[h1];exact K.of _ (hok p (List.mem_of_getElem? hp))
 rcases K.kd.find w hlk es.toList hr with⟨h1,h2⟩|⟨j,e,h1,h2,h3⟩
 ·refine .inl ⟨h1,fun p hp e=>?_⟩
  obtain⟨j,hj,rfl⟩:=List.getElem_of_mem hp;have hlen:es.toList.length=l.length:=by have:=congrArg List.length h;simpa using this
  obtain⟨p2,hp2,h4,_⟩:=ALJ h (j:=j) (List.getElem?_eq_getElem (by omega));rw[List.getElem?_eq_getElem hj]at hp2;cases hp2;exact h2 _ (List.getElem_mem _) (by rw[h4,e])
 ·obtain⟨p,hp,h4,h5⟩:=ALJ h h2
  have:p.1=k:=K.inj _ _ (by rw[<-h4,h3]);refine .inr ⟨j,p.2,by rw[<-h5];exact h1,by rw[hp,<-this],e,by simpa using h2,h3⟩
end
section
variable {P:Program}{Q:Exit->Act->World->Prop}{n:Nat}{L:Fr}{D:List Deferred}{w:World}{ops:Array Oper}{rest:List Oper}
variable {ty:TypeId}{pos:String}{af:Array Edge}{dst:Option Nat}{gdd:Option (Nat×Bool)}{x y z:Operand}
variable {t tk te:TypeId}{agg:Bool}{m bytes:Nat}{zz:List Value}
theorem AQR{b:Nat}{l:List (κ×ν)}{k:κ}{d:ν}(ht:P.underlying t=some (.map tk te))(K:KT P tk κ)(hz:(zeroValue te).run P w=.ok (fv d) w)(h:Mp w b l)(hk:Key.ok k=true)(hx:ev n L x=.map (some b))(hy:ev n L y=fv k):
  (execOp (ev n L) {dst:=dst,op:=.lookup t x y false,type:=ty,pos:=pos,after:=af,guard:=gdd}).run P w=.ok (.value (fv (AAI d l k))) w:=by
 obtain⟨es,c,hb,he,hn,hok⟩:=h;obtain⟨lk,hlk⟩:=K.of k hk;rcases Mp.find K he hok hk w with⟨h1,h2⟩|⟨j,u,h1,h2,e,h3,h4⟩
 ·rw[(AHn h2).1]
  simp[execOp,Instr.lookup,hx,hy,run_underlying ht,MapKept.run_getObj_map hb,K.kd.check w _ hlk,h1,hz,Result.andThen]
 ·rw[(AHo hn h2).1]
  simp[execOp,Instr.lookup,hx,hy,run_underlying ht,MapKept.run_getObj_map hb,K.kd.check w _ hlk,h1,Result.andThen]
theorem AKQ{b:Nat}{o:Obj}{es:Array MapEntry}{c:Nat}(hb:w.heap[b]?=some (.map es c)):Chg b w (ChangeMaps.setBlock w b o)/\(ChangeMaps.setBlock w b o).heap[b]?=some o:=
 ⟨⟨rfl,rfl,rfl,by simp[ChangeMaps.setBlock],fun i hi=>ChangeMaps.heap_setBlock_other hb _ hi⟩,ChangeMaps.heap_setBlock_same hb _⟩
theorem ANl{b:Nat}{l:List (κ×ν)}{k:κ}{v:ν}(ht:P.underlying t=some (.map tk te))(K:KT P tk κ)(h:Mp w b l)(hk:Key.ok k=true):
  ∃w',(Instr.mapUpdate t (.map (some b)) (fv k) (fv v)).run P w=.ok () w'/\Chg b w w'/\Mp w' b (xZ l k v):=by
 obtain⟨es,c,hb,he,hn,hok⟩:=h;obtain⟨lk,hlk⟩:=K.of k hk;have hok':∀p∈xZ l k v,Key.ok p.1=true:=fun p hp=>by
  rcases AH9 hp with rfl|hp
  ·exact hk
  ·exact hok p hp
 rcases Mp.find K he hok hk w with⟨h1,h2⟩|⟨j,u,h1,h2,e,h3,h4⟩
 ·obtain⟨h5,h6⟩:=AKQ (w:=w) (o:=.map (es.push ⟨fv k,fv v,c⟩) (c+1)) hb
  refine⟨_,?_,h5,_,_,h6,?_,AFA hn,hok'⟩
  ·simp[Instr.mapUpdate,run_underlying ht,MapKept.run_getObj_map hb,K.kd.check w false hlk,h1,MapKept.run_setObj_map _ hb,Result.andThen,ChangeMaps.setBlock]
  ·rw[(AHn (d:=v) h2).2.2.1 v,Array.toList_push,List.map_append,he]
   simp
 ·obtain⟨h5,h6⟩:=AKQ (w:=w) (o:=.map (es.modify j (fun e'=>{e' with key:=fv k,val:=fv v})) c) hb
  refine⟨_,?_,h5,_,_,h6,?_,AFA hn,hok'⟩
  ·simp[Instr.mapUpdate,run_underlying ht,MapKept.run_getObj_map hb,K.kd.check w false hlk,h1,h3,h4,K.kd.stays w hlk,MapKept.run_setObj_map _ hb,Result.andThen,ChangeMaps.setBlock]
  ·rw[(AHo (d:=v) hn h2).2.2.1 v,Array.toList_modify,ChangeMaps.modify_eq_set _ _ _ e (by simpa using h3),List.map_set,he,List.map_set]
theorem ATi{b:Nat}{l:List (κ×ν)}{k:κ}{v:ν}(hx:ev n L x=.map (some b))(hy:ev n L y=fv k)(hz:ev n L z=fv v)(ht:P.underlying t=some (.map tk te))(K:KT P tk κ)(h:Mp w b l)(hk:Key.ok k=true)
  (cont:∀w',Chg b w w'->Mp w' b (xZ l k v)->wpList P ops Q rest (act n L D) w'):
  wpList P ops Q ({dst:=none,op:=.mapUpdate t x y z,type:=ty,pos:=pos,after:=af,guard:=none}::rest) (act n L D) w:=by
 obtain⟨w',hr,h1,h2⟩:=ANl (v:=v) ht K h hk;refine wpList_plain rfl fun K hK=>?_;simp only[Oper.wp,AAW,execOp,hx,hy,hz,Sem.run_bind,hr,Result.andThen,Oper.upon];exact hK _ _ (cont w' h1 h2)
theorem AQS{d:Nat}(cont:∀b w',Ext w w'->w.heap.size<=b->Mp (κ:=κ) (ν:=ν) w' b []->wpList P ops Q rest (act n (vG L d (.map (some b))) D) w'):
  wpList P ops Q ({dst:=some d,op:=.makeMap t none,type:=ty,pos:=pos,after:=af,guard:=none}::rest) (act n L D) w:=
 Zv (v:=.map (some w.heap.size)) (w':=w.alloc (.map #[] 0)) (by simp[execOp,RowKit.run_makeMap]) (cont _ _ (Ext.alloc _ _) (Nat.le_refl _) (Mp.new w))
end
end
end Go.Md
end
section
namespace Go.Md
open Go Go.RowKit
section
theorem ifs{α:Type}{c:Bool}{a:Option α}{r:α}(h:(if c=true then a else none)=some r):c=true/\a=some r:=by
 cases c<;>simp_all
structure BelX(N b c:Nat)(w w':World):Prop where
 os:w'.os=w.os
 tape:w'.tape=w.tape
 output:w'.output=w.output
 size:w.heap.size<=w'.heap.size
 block:∀k,k<N->k≠b->k≠c->w'.heap[k]?=w.heap[k]?
section
variable {N b c:Nat}{w w1 w2:World}
theorem BelX.refl:BelX N b c w w:=⟨rfl,rfl,rfl,Nat.le_refl _,fun _ _ _ _=>rfl⟩
theorem BelX.trans(h:BelX N b c w w1)(k:BelX N b c w1 w2):BelX N b c w w2:=
 ⟨k.os.trans h.os,k.tape.trans h.tape,k.output.trans h.output,Nat.le_trans h.size k.size,fun q hq h1 h2=>(k.block q hq h1 h2).trans (h.block q hq h1 h2)⟩
theorem BelX.mono{M:Nat}(h:BelX N b c w w1)(hM:M<=N):BelX M b c w w1:=⟨h.os,h.tape,h.output,h.size,fun q hq h1 h2=>h.block q (by omega) h1 h2⟩
theorem BelX.ext(h:BelX N b c w w1)(k:Ext w1 w2)(hN:N<=w1.heap.size):BelX N b c w w2:=
 ⟨k.os.trans h.os,k.tape.trans h.tape,k.output.trans h.output,Nat.le_trans h.size k.size,fun q hq h1 h2=>(k.block q (by omega)).trans (h.block q hq h1 h2)⟩
theorem BelX.of(k:Ext w w1)(hN:N<=w.heap.size):BelX N b c w w1:=BelX.refl.ext k hN
theorem BelX.chgb(h:BelX N b c w w1)(k:Chg b w1 w2):BelX N b c w w2:=
 ⟨k.os.trans h.os,k.tape.trans h.tape,k.output.trans h.output,by rw[k.size];exact h.size,fun q hq h1 h2=>(k.other q h1).trans (h.block q hq h1 h2)⟩
theorem BelX.chgc(h:BelX N b c w w1)(k:Chg c w1 w2):BelX N b c w w2:=
 ⟨k.os.trans h.os,k.tape.trans h.tape,k.output.trans h.output,by rw[k.size];exact h.size,fun q hq h1 h2=>(k.other q h2).trans (h.block q hq h1 h2)⟩
theorem BelX.chg{q:Nat}(h:BelX N b c w w1)(k:Chg q w1 w2)(hq:N<=q):BelX N b c w w2:=
 ⟨k.os.trans h.os,k.tape.trans h.tape,k.output.trans h.output,by rw[k.size];exact h.size,fun p hp h1 h2=>(k.other p (by omega)).trans (h.block p hp h1 h2)⟩
theorem BelX.below(h:BelX N b c w w1){B:Nat}(hN:B<=N)(hb:B<=b)(hc:B<=c):Below B w w1:=⟨h.os,h.tape,h.output,h.size,fun q hq=>h.block q (by omega) (by omega) (by omega)⟩
theorem BelX.old{wb:World}(h:BelX w.heap.size b c w w1)(hk:Ext wb w)(hb:wb.heap.size<=b)(hc:wb.heap.size<=c):Ext wb w1:=hk.trans (h.below hk.size hb hc)
theorem RVo.belx{α:Type}[Enc α]{v:Value}{x:α}(h:RVo (fun q=>q<N/\q≠b/\q≠c) w v x)(k:BelX N b c w w1):RVo (fun q=>q<N/\q≠b/\q≠c) w1 v x:=
 h.keep (fun q hq _=>k.block q hq.1 hq.2.1 hq.2.2) k.size
theorem Bx.belx{q:Nat}{T:TypeId}{cs:List Value}(h:Bx w q T cs)(k:BelX N b c w w1)(hq:q<N)(h1:q≠b)(h2:q≠c):Bx w1 q T cs:=(k.block q hq h1 h2).trans h
theorem Ext.gr(k:Ext w w1):w.grownBy w1 none:=⟨k.os,k.tape,k.output,k.size,fun q hq _=>k.block q hq⟩
theorem Chg.others(k:Chg b w w1){T:TypeId}{cs cs':List Value}(h:Bx w b T cs):KeepsOthers w w1:=⟨by rw[k.size];exact Nat.le_refl _,fun q o hq ho=>by
 by_cases e:q=b
 ·subst e
  rw[show w.heap[q]?=_ from h]at hq;cases hq;cases ho
 ·exact(k.other q e).trans hq⟩
theorem Ext.others(k:Ext w w1):KeepsOthers w w1:=⟨k.size,fun q o hq _=>(k.block q (Array.getElem?_eq_some_iff.1 hq).1).trans hq⟩
theorem Ext.kf{B:Nat}(k:Ext w w1):KeepsFrom B w w1:=k.others.from B
theorem Chg.kf{B:Nat}(k:Chg b w w1){T:TypeId}{cs:List Value}(h:Bx w b T cs):KeepsFrom B w w1:=(k.others (cs':=[]) h).from B
theorem Chg.kfm{B:Nat}(k:Chg b w w1)(h:b<B):KeepsFrom B w w1:=⟨by rw[k.size];exact Nat.le_refl _,fun q o hB hq _=>(k.other q (by omega)).trans hq⟩
end
theorem AEn{α:Type}[Enc α]{ok:Nat->Prop}{w:World}{a:Option Addr}{x:Ob α}{y:α}(h:RVo ok w (.pointer a) x)(hy:x.v=some y):∃b ds,a=some ⟨b,0,none⟩/\ok b/\Enc.rep ok w ds y/\Cs w b 0 ds:=by
 obtain⟨cs,e,h⟩:=h;obtain⟨a',rfl,h⟩:=h;cases e;rw[hy]at h;obtain⟨b,ds,e,h0,_,h1,h2⟩:=h;exact⟨b,ds,e,h0,h1,h2⟩
section
variable {β:Type}{B:Nat}
theorem AKR{I J:β->World->Prop}(h:OwnFrom B I)(k:OwnFrom B J):OwnFrom B (fun s w=>I s w/\J s w):=fun s W W' row hs hg hr=>⟨h s W W' row hs.1 hg hr,k s W W' row hs.2 hg hr⟩
theorem AMQ{b:Nat}{T:TypeId}{f:β->List Value}:OwnFrom B (fun s w=>Bx w b T (f s)):=fun s W W' row hs hg hr=>hs.gr hg fun e=>by
 obtain⟨_,o,ho,hc⟩:=hr b e.symm;rw[show W.heap[b]?=_ from hs]at ho;cases ho;cases hc
theorem AQT{κ ν:Type}[DecidableEq κ][Enc κ][Flat κ][Key κ][Enc ν][Flat ν]{b:Nat}{f:β->List (κ×ν)}(hb:b<B):OwnFrom B (fun s w=>Mp w b (f s)):=fun s W W' row hs hg hr=>hs.gr hg fun e=>by
 have:=(hr b e.symm).1;omega
theorem ANm{N b c:Nat}{w0:World}(hN:N<=B)(h0:N<=w0.heap.size):OwnFrom B (fun(_:β)w=>BelX N b c w0 w):=fun s W W' row hs hg hr=>
 ⟨hg.os.trans hs.os,hg.tape.trans hs.tape,hg.output.trans hs.output,Nat.le_trans hs.size hg.size,fun q hq h1 h2=>
  (hg.block q (by have:=hs.size;omega) fun e=>by have:=(hr q e.symm).1;omega).trans (hs.block q hq h1 h2)⟩
end
section
variable {P:Program}{Q:Exit->Act->World->Prop}{m n:Nat}{L:Fr}{D:List Deferred}{w:World}{ops:Array Oper}{rest:List Oper}
theorem ADs{ty:TypeId}{pos:String}{af:Array Edge}{x y:Operand}{t T:TypeId}{b k bytes:Nat}{z cur vs:List Value}(hp:ev n L x=.pointer (some ⟨b,0,none⟩))(hy:ev n L y=.agg vs.toArray)(ht:TI P t true k bytes z)(hb:Bx w b T cur)
  (hc:cur.length=k) (hl:vs.length=k) (h1:∀v∈vs,v.oneCell'=true) (cont:∀w',Chg b w w'->Bx w' b T vs->wpList P ops Q rest (act n L D) w'):
  wpList P ops Q ({dst:=none,op:=.store t x y,type:=ty,pos:=pos,after:=af,guard:=none}::rest) (act n L D) w:=
 xk hp hy rfl ht hb hl (List.all_eq_true.2 h1) (by omega) fun w' h2 h3=>cont w' h2 (by
  have:iW cur 0 vs=vs:=by simp[iW,hl,hc]
  rwa [this]at h3)
theorem AAr{α:Type}[Enc α][Flat α](l:List α):∀v∈l.flatMap Flat.enc,v.oneCell'=true:=fun v hv=>by
 obtain⟨y,_,hy⟩:=List.mem_flatMap.1 hv;exact Flat.one y v hy
theorem rgW{id:Nat}{l:List Oper}(h:wpListIn Fence.wide m P l.toArray Q l (act n L D) w):(Code.region id l.toArray false).wp P Q (act n L D) w:=wpIn_wide.1 (wpIn_region_lit h)
theorem Ko{o:Oper}{d:Nat}{v:Value}{w':World}(hg:o.guard=none)(hd:o.dst=some d)(hdf:∀c,o.op≠.defer c)(h:(execOp (ev n L) o).run P w=.ok (.value v) w')
  (k:wpListIn Fence.wide m P ops Q rest (act n (vG L d v) D) w'):wpListIn Fence.wide m P ops Q (o::rest) (act n L D) w:=by
 refine wpListIn_plain hg fun K hK=>?_;unfold Oper.wpIn;refine⟨fun _ _=>trivial,?_⟩;rw[Oper.semAt_eq _ _ _ hdf];simp only[AAW,h,Oper.uponIn,hd,yS];exact hK _ _ k
theorem ylW{o:Oper}{d l:Nat}{fn:FuncId}{tmps:Array Value}{assign body:Code}{R:Ending->World->Prop}(hg:o.guard=none)(hd:o.dst=some d)(hdf:∀c,o.op≠.defer c)
  (h:(execOp (ev n L) o).run P w=.ok (.round l fn tmps assign body) w) (hr:RoundIn Fence.wide (m-1) P l fn tmps assign body w R)
  (k:∀e w',R e w'->∃v,e=.returned v/\wpListIn Fence.wide m P ops Q rest (act n (vG L d v) D) w'):wpListIn Fence.wide m P ops Q (o::rest) (act n L D) w:=by
 refine wpListIn_plain hg fun K hK=>?_;unfold Oper.wpIn;refine⟨fun _ _=>trivial,?_⟩;rw[Oper.semAt_eq _ _ _ hdf];simp only[AAW,h,Oper.uponIn];refine⟨fun h=>by simp[Fence.wide]at h,hr.mono fun e w' he=>?_⟩;obtain⟨v,rfl,hk⟩:=k e w' he;simp only[hd,yS];exact hK _ _ hk
theorem nlW{a:Act}(h:Q .normal a w):wpListIn Fence.wide m P ops Q [] a w:=h
theorem xyl{ty:TypeId}{pos:String}{af:Array Edge}{dst:Option Nat}{gdd:Option (Nat×Bool)}{x:Operand}{os:List Operand}{vs:List Value}{tys:Array TypeId}{l:Nat}{fn:FuncId}{tmps:Array Value}{assign body:Code}
  (hx:ev n L x=.func (.yield l) #[] #[]) (hl:os.map (ev n L)=vs) (h:(Instr.yield l vs.toArray).run P w=.ok (.round l fn tmps assign body) w):
  (execOp (ev n L) {dst:=dst,op:=.call {callee:=.value x,args:=os.toArray,argTypes:=tys},type:=ty,pos:=pos,after:=af,guard:=gdd}).run P w=.ok (.round l fn tmps assign body) w:=by
 subst hl;simp[execOp,resolve,Deferred.ofValue,invoke,hx,h]
theorem AIr{f:FuncId}{fn:Func}{c:Code}{args:List Value}{R:Ending->World->Prop}(hf:P.funcs[f]?=some fn)(hb:fn.body=some c)(hn:fn.ntmps=n)
  (hs:Nat.ble args.length n=true) (h:c.wp P (bodyPostM Fence.wide m P fn R) (act n (fr args) []) w):Calls P f args.toArray w R:=by
 refine(callsIn_wide (n:=m)).1 (callsIn_of_wp_marks hf hb trivial (wpIn_wide.2 ?_) rfl);have hs':args.length<=n:=by simpa[Nat.ble_eq]using hs
 have e:({tmps:=args.toArray++Array.replicate (fn.ntmps-args.toArray.size) undef,defers:=[]}:Act)=act n (fr args) []:=by
  unfold act
  congr 1
  apply Array.ext
  ·simp[hn];omega
  ·intro i h1 h2
   simp only[Array.getElem_ofFn,fr];by_cases hi:i<args.length
   ·rw[Array.getElem_append_left (by simpa using hi)]
    simp[hi]
   ·rw[Array.getElem_append_right (by simpa using hi)]
    simp[List.getElem?_eq_none (Nat.le_of_not_lt hi)]
 rw[e];exact h
theorem rtM{fn:Func}{R:Value->World->Prop}{rs:List ResultVar}{vs:List Value}{d:Nat}(hr:fn.results=rs.toArray)(hd:w.heap[d]?=some (.deferred (some [])))
  (h:RVs P (w.putObj d (.deferred none)) n L rs vs) (hR:R (res vs) (w.putObj d (.deferred none))):bodyPostM Fence.wide m P fn (IA R) .ret (act n L [{target:=.collected d,args:=#[]}]) w:=by
 refine⟨by simp,.inl ⟨_,_,rfl,run_takeDeferred hd,?_⟩⟩;exact⟨_,h.results (D:=[{target:=.collected d,args:=#[]}]) hr,_,rfl,hR⟩
theorem AGH{d:Nat}{o o':Obj}(_h:w.heap[d]?=some o):Chg d w (w.putObj d o'):=⟨rfl,rfl,rfl,by simp,fun k hk=>World.putObj_heap_other hk⟩
theorem round2{p q:Nat}{v u:Value}:({tmps:=((#[p,q]:Array Nat).zip #[v,u]).foldl (fun t(p,v)=>t.setIfInBounds p v) (act n L D).tmps,defers:=[]}:Act)=act n (vG (vG L p v) q u) []:=by
 have h1:=congrArg Act.tmps (yS n L D p v);have h2:=congrArg Act.tmps (yS n (vG L p v) D q u);simp only[Act.put]at h1 h2;have e:((act n L D).tmps.setIfInBounds p v).setIfInBounds q u=(act n (vG (vG L p v) q u) D).tmps:=by rw[h1];exact h2
 rw[<-Array.foldl_toList,Array.toList_zip];simp only[List.zip_cons_cons,List.zip_nil_right,List.foldl_cons,List.foldl_nil,e]
 rfl
theorem AMS{ps:List Nat}{vs:List Value}:∀(L:Fr),(ps.zip vs).foldl (fun t(p,v)=>t.setIfInBounds p v) (act n L D).tmps=(act n ((ps.zip vs).foldl (fun L(p,v)=>vG L p v) L) D).tmps:=by
 generalize ps.zip vs=l
 induction l with
 |nil=>intro L;rfl
 |cons p l ih=>
  intro L;simp only[List.foldl_cons];rw[<-ih];have:(act n L D).tmps.setIfInBounds p.1 p.2=(act n (vG L p.1 p.2) D).tmps:=by
   have:=yS n L D p.1 p.2;have h:=congrArg Act.tmps this;simpa[Act.put]using h
  rw[this]
end
end
end Go.Md
end
section
namespace Go.Md
open Go Go.RowKit Go.ChangeShapes Go.WideShapes
section
section
variable {H:Type}{enc:TypeId×Value->H}{P:Program}{W W':World}
theorem AGT(hl:laidOutB P=true)(hb:Ext W W'):∀{ts:List TypeId}{vs:List Value}{ds:List (DataW H)}{ps:List MemPlace},(ts.all fun t=>P.readableRec t&&Nat.blt t P.types.size)=true->
  DataW.TrodAll enc P W 0 (fun _=>true) true ts vs ds ps->(∀x∈ps,x.block<W.heap.size)->DataW.TrodAll enc P W' 0 (fun b=>decide (b<W.heap.size)) true ts vs ds ps
 |[],vs,ds,ps,_,h,_=>by
  obtain⟨rfl,rfl,rfl⟩:=trodAll_nil h;exact trodAll_mk0
 |t::ts,vs,ds,ps,ht,h,hp=>by
  obtain⟨v,vs',d,ds',p,q,rfl,rfl,rfl,h1,h2⟩:=trodAll_cons h;simp only[List.all_cons,Bool.and_eq_true,Nat.blt_eq]at ht;exact⟨p,q,Below.trod hl ht.1.1 ht.1.2 h1 hb (fun x hx=>hp x (by simp[hx])),AGT hl hb ht.2 h2 (fun x hx=>hp x (by simp[hx])),rfl⟩
theorem ANn{f:Func}{s:ChangeSpec}{args:Array Value}{ds gs:List (DataW H)}{before:List MemPlace}{tb:TypeId}(hl:laidOutB P=true)(hts:(f.params.toList.all fun t=>P.readableRec t&&Nat.blt t P.types.size)=true)
  (hW:DataW.Whole enc P f.params.toList s.vars false W args.toList ds gs before) (hv:s.vars=[]) (hb:Ext W W') (hrt:f.resultTypes=#[tb]) (htb:P.underlying tb=some .bool)
  (hfn:s.fn H ds={results:=[.lit (.bool true)],args:=ds}):s.post enc P f false true false false W args (.bool true) W':=by
 have hlt:∀p∈before,p.block<W.heap.size:=fun p hp=>hW.lt p hp;have hW':=hW;obtain⟨p,q,hA,hV,rfl,hz,hn⟩:=hW;have hV':=hV;rw[hv]at hV';obtain⟨rfl,rfl⟩:=trodVars_none hV';simp only[List.append_nil]at hW' hlt;refine⟨ds,[],p,[],p,[],hW',?_,?_,?_,Below.frame hb _,fun h=>by cases h⟩
 ·rw[hrt,List.append_nil,hfn]
  exact trodAll_mk1 (shut_bool htb true)
 ·rw[List.append_nil,hfn]
  exact AGT hl hb hts hA hlt
 ·rw[List.append_nil,hfn,hv]
  exact rfl
end
structure OpT(P:Program)(t:TypeId)(α:Type)[Enc α](Rg:α->Prop):Prop where
 n:P.cellsOf t=Enc.n α
 run:∀{H:Type}{enc:TypeId×Value->H}{W:World}{sp:Nat->Bool}{held:Bool}{fuel:Nat}{cs:List Value}{x:DataW H×List MemPlace},DataW.trod enc P W 0 sp held fuel t cs=some x->∃a:α,Enc.rep (fun _=>True) W cs a/\Rg a
structure OpF(P:Program)(fs:List Field)(off:Nat)(α:Type)[Enc α](Rg:α->Prop):Prop where
 run:∀{H:Type}{enc:TypeId×Value->H}{W:World}{sp:Nat->Bool}{held:Bool}{fuel:Nat}{cs:List Value}{xs:List (DataW H×List MemPlace)},
  (fs.mapM fun f=>DataW.trod enc P W 0 sp held fuel f.type ((cs.drop f.offset).take (P.cellsOf f.type)))=some xs->∃a:α,Enc.rep (fun _=>True) W ((cs.drop off).take (Enc.n α)) a/\Rg a
abbrev I64(x:Int):Prop:=-9223372036854775808<=x/\x<=9223372036854775807
theorem AQU{x:Int}(h:(Lit.int .i64 x).wf=true):I64 x:=by
 simp only[Lit.wf,Bool.and_eq_true,decide_eq_true_eq]at h;exact h
section
variable {P:Program}
theorem OpT.int{t:TypeId}(ht:P.underlying t=some (.int .i64))(hn:P.cellsOf t=1):OpT P t Int I64:=⟨hn,by
 intro H enc W sp held fuel cs x h;cases fuel with
 |zero=>cases h
 |succ fuel=>
  unfold DataW.trod at h;rw[ht]at h
  match cs,h with
  |[.int k n],h=>
   simp only at h;split at h
   ·rename_i hc
    obtain⟨rfl,hw⟩:=hc;exact⟨n,rfl,AQU hw⟩
   ·cases h⟩
theorem OpT.bool{t:TypeId}(ht:P.underlying t=some .bool)(hn:P.cellsOf t=1):OpT P t Bool (fun _=>True):=⟨hn,by
 intro H enc W sp held fuel cs x h;cases fuel with
 |zero=>cases h
 |succ fuel=>
  unfold DataW.trod at h;rw[ht]at h
  match cs,h with
  |[.bool b],h=>exact⟨b,rfl,trivial⟩⟩
theorem ADl{α β:Type}{f:α->Option β}:∀{l:List α}{r:List β},l.mapM f=some r->∀(i:Nat)(x:α),l[i]?=some x->∃y,f x=some y/\r[i]?=some y
 |[],r,_,i,x,hx=>by simp at hx
 |a::l,r,h,i,x,hx=>by
  simp only[List.mapM_cons,DJ,Option.bind_eq_some_iff,Option.pure_def,Option.some.injEq]at h;obtain⟨y,hy,ys,hys,rfl⟩:=h;cases i with
  |zero=>simp at hx;subst hx;exact⟨y,hy,rfl⟩
  |succ i=>simpa using ADl hys i x (by simpa using hx)
theorem AI6{W:World}{a:Addr}{n:Nat}{cs:List Value}(h:W.cells? 0 a n=some cs)(hn:0<n):a.spot=none/\Cs W a.block a.off cs/\cs.length=n:=by
 unfold World.cells? at h;rw[if_pos (Nat.zero_le _)]at h;have hlen:cs.length=n:=by
  have:∀{l:List Nat}{r:List Value}{f:Nat->Option Value},l.mapM f=some r->r.length=l.length:=by
   intro l
   induction l with
   |nil=>intro r f h;simp at h;subst h;rfl
   |cons a l ih=>
    intro r f h;simp only[List.mapM_cons,DJ,Option.bind_eq_some_iff,Option.pure_def,Option.some.injEq]at h;obtain⟨y,_,ys,hys,rfl⟩:=h;simp[ih hys]
  simpa using this h
 have hsp:a.spot=none:=by
  obtain⟨y,hy,_⟩:=ADl h 0 0 (by simp[List.getElem?_range,hn]);unfold World.cell? at hy;unfold Addr.add at hy;cases hs:a.spot with
  |none=>rfl
  |some s=>
   simp[hs]at hy;revert hy;split<;>intro hy<;>simp_all
 refine⟨hsp,fun j c hc=>?_,hlen⟩;have hj:j<n:=by rw[<-hlen];exact(List.getElem?_eq_some_iff.1 hc).1
 obtain⟨y,hy,hr⟩:=ADl h j j (by simp[List.getElem?_range,hj]);rw[hc]at hr;cases hr;obtain⟨b,o,s⟩:=a;simp only at hsp;subst hsp;rw[AAq]at hy;exact hy
theorem OpT.sl{t e:TypeId}{α:Type}[Enc α]{Rg:α->Prop}(ht:P.underlying t=some (.slice e))(hn:P.cellsOf t=1)(hm:Nat.ble 1 (Enc.n α)=true)(he:OpT P e α Rg):
  OpT P t (List α) (fun l=>(∀x∈l,Rg x)/\l.length<=maxLen):=⟨hn,by
 intro H enc W sp held fuel cs x h;cases fuel with
 |zero=>cases h
 |succ fuel=>
  unfold DataW.trod at h;rw[ht]at h;have nilc:∀(a:Option Addr),∃l:List α,Enc.rep (fun _=>True) W [Value.slice a 0 0] l/\(∀x∈l,Rg x)/\l.length<=maxLen:=fun a=>⟨[],⟨a,0,rfl,Nat.le_refl _,Nat.zero_le _,.inl rfl⟩,by simp,Nat.zero_le _⟩
  match cs,h with
  |[.slice none 0 0],h=>exact nilc none
  |[.slice (some a) len cap],h=>
   simp only at h;split at h
   case isFalse=>cases h
   rename_i hc;obtain⟨elems,hel,_⟩:=Option.bind_eq_some_iff.1 h;have hm':0<Enc.n α:=Nat.le_of_ble_eq_true hm;have hs0:0<len->a.spot=none:=by
    intro hi;obtain⟨z,hz,_⟩:=ADl hel 0 0 (by simp[List.getElem?_range,hi]);obtain⟨c,hc1,_⟩:=Option.bind_eq_some_iff.1 hz;rw[he.n]at hc1;obtain⟨h1,_,_⟩:=AI6 hc1 hm';simpa[Addr.add]using h1
   have key:∀i,i<len->∃y:α,(∃c,Enc.rep (fun _=>True) W c y/\Cs W a.block (a.off+i*Enc.n α) c)/\Rg y/\a.spot=none:=by
    intro i hi;obtain⟨z,hz,_⟩:=ADl hel i i (by simp[List.getElem?_range,hi]);obtain⟨c,hc1,hc2⟩:=Option.bind_eq_some_iff.1 hz;obtain⟨y,hy1,hy2⟩:=he.run hc2;rw[he.n]at hc1;obtain⟨h1,h2,h3⟩:=AI6 hc1 hm';have hs:a.spot=none:=hs0 (by omega);obtain⟨b,o,s⟩:=a;simp only at hs;subst hs;rw[AAq]at h2;exact⟨y,⟨c,hy1,h2⟩,hy2,rfl⟩
   have build:∀m,m<=len->∃l:List α,l.length=m/\∀i y,l[i]?=some y->(∃c,Enc.rep (fun _=>True) W c y/\Cs W a.block (a.off+i*Enc.n α) c)/\Rg y:=by
    intro m
    induction m with
    |zero=>intro _;exact⟨[],rfl,by simp⟩
    |succ m ih=>
     intro hm;obtain⟨l,hl,hall⟩:=ih (by omega);obtain⟨y,h1,h2,_⟩:=key m (by omega);refine⟨l++[y],by simp[hl],fun i z hz=>?_⟩;rw[List.getElem?_append]at hz;split at hz
     ·exact hall i z hz
     ·rename_i hi
      have:i=m:=by
       rcases Nat.lt_or_ge (i-l.length) 1 with h|h
       ·omega
       ·rw[List.getElem?_eq_none (by simpa using h)]at hz;cases hz
      subst this;rw[hl,Nat.sub_self]at hz;simp at hz;subst hz;exact⟨h1,h2⟩
   obtain⟨l,hl,hall⟩:=build len (Nat.le_refl _);refine⟨l,⟨some a,cap,by rw[hl],by rw[hl];exact hc.2.1,hc.2.2,?_⟩,fun y hy=>?_,by rw[hl];omega⟩
   ·by_cases h0:len=0
    ·exact .inl (List.eq_nil_of_length_eq_zero (by omega))
    ·obtain⟨y,_,_,hs⟩:=key 0 (by omega)
     obtain⟨y',⟨c,hc1,hc2⟩,_,_⟩:=key 0 (by omega);obtain⟨b,o,s⟩:=a;simp only at hs;subst hs;refine .inr ⟨b,o,rfl,trivial,?_,fun i x hx=>(hall i x hx).1⟩;have hcl:=Enc.len hc1;exact World.block_lt_of_cell? W ⟨b,o+0*Enc.n α+0,none⟩ (hc2 0 (c[0]'(by omega)) (List.getElem?_eq_getElem (by omega)))
   ·obtain⟨i,hi,rfl⟩:=List.getElem_of_mem hy
    exact(hall i _ (List.getElem?_eq_getElem hi)).2⟩
theorem OpF.one{f:Field}{off:Nat}{α:Type}[Enc α]{Rg:α->Prop}(ho:f.offset=off)(h:OpT P f.type α Rg):OpF P [f] off α Rg:=⟨by
 intro H enc W sp held fuel cs xs hx;obtain⟨y,hy,_⟩:=ADl hx 0 f rfl;rw[ho,h.n]at hy;exact h.run hy⟩
theorem OpF.cons{f:Field}{fs:List Field}{off:Nat}{α β:Type}[Enc α][Enc β]{R:α->Prop}{S:β->Prop}(ho:f.offset=off)(h:OpT P f.type α R)(k:OpF P fs (off+Enc.n α) β S):OpF P (f::fs) off (α×β) (fun x=>R x.1/\S x.2):=⟨by
 intro H enc W sp held fuel cs xs hx;simp only[List.mapM_cons,DJ,Option.bind_eq_some_iff,Option.pure_def,Option.some.injEq]at hx;obtain⟨y,hy,ys,hys,rfl⟩:=hx;rw[ho,h.n]at hy;obtain⟨a,ha,hra⟩:=h.run hy;obtain⟨b,hb,hrb⟩:=k.run hys;refine⟨(a,b),⟨_,_,?_,ha,hb⟩,hra,hrb⟩;show(cs.drop off).take (Enc.n α+Enc.n β)=_;rw[List.take_add,List.drop_drop]⟩
theorem OpT.st{t:TypeId}{fs:List Field}{α:Type}[Enc α]{Rg:α->Prop}(ht:P.underlying t=some (.struct fs.toArray))(hn:P.cellsOf t=Enc.n α)(h:OpF P fs 0 α Rg):OpT P t α Rg:=⟨hn,by
 intro H enc W sp held fuel cs x hx;cases fuel with
 |zero=>cases hx
 |succ fuel=>
  unfold DataW.trod at hx;rw[ht]at hx;simp only at hx;split at hx
  case isFalse=>cases hx
  rename_i hl;obtain⟨xs,hxs,_⟩:=Option.map_eq_some_iff.1 hx;obtain⟨a,ha,hr⟩:=h.run hxs;rw[List.drop_zero,List.take_of_length_le (by rw[hl,hn];exact Nat.le_refl _)]at ha;exact⟨a,ha,hr⟩⟩
theorem OpT.argA{H:Type}{enc:TypeId×Value->H}{W:World}{sp:Nat->Bool}{held:Bool}{base:Nat}{r:Reach}{t:TypeId}{α:Type}[Enc α]{Rg:α->Prop}{v:Value}{d:DataW H}{ps:List MemPlace}{ty:TypeDesc}(h:OpT P t α Rg)(ha:Enc.agg α=true)
  (hu:P.underlying t=some ty) (hs:(match ty with|.struct _|.array _ _=>true|_=>false)=true) (hd:DataW.Trod enc P W 0 sp held t v d ps) (hval:Value.okWide P W r base t v):∃a:α,RV W v a/\Rg a:=by
 obtain⟨fuel,hf⟩:=hd;obtain⟨a,h1,h2⟩:=h.run hf;refine⟨a,⟨_,?_,h1⟩,h2⟩;have:∃cs,v=.agg cs:=by
  unfold Value.okWide at hval;rw[hu]at hval;cases ty<;>simp at hs
  ·obtain⟨cs,e,_⟩:=hval;exact⟨cs,e⟩
  ·obtain⟨cs,e,_⟩:=hval;exact⟨cs,e⟩
 obtain⟨cs,rfl⟩:=this;simp[Enc.val,ha,Value.cells]
end
end
end Go.Md
end
section
namespace Go.Md
open Go Go.RowKit
abbrev RgL{α:Type}(R:α->Prop)(l:List α):Prop:=(∀x∈l,R x)/\l.length<=maxLen
end Go.Md
namespace Go.Proofs.YtfmelbioccbdoaaGreat
open Go Go.Md Go.RowKit
theorem ot2:OpT Tryz.prog 2 Int I64:=OpT.int Tryz.underlying2 (by kernel_rfl)
theorem ot3:OpT Tryz.prog 3 Int I64:=OpT.int Tryz.underlying3 (by kernel_rfl)
def AFc(x:Int×Int×Int):Prop:=I64 x.1/\I64 x.2.1/\I64 x.2.2
end Go.Proofs.YtfmelbioccbdoaaGreat
end
section
namespace Go.Proofs.YtfmelbioccbdoaaGreat
open Go Go.Md Go.RowKit
theorem ASa:OpT Tryz.prog 147 (Int×Int×Int) AFc:=OpT.st Tryz.underlying147 (by kernel_rfl) (OpF.cons rfl ot3 (OpF.cons rfl ot3 (OpF.one rfl ot2)))
theorem ASb:OpT Tryz.prog 135 (List (Int×Int×Int)) (RgL AFc):=OpT.sl Tryz.underlying135 (by kernel_rfl) rfl ASa
theorem AQV:OpT Tryz.prog 41 (List Int) (RgL I64):=OpT.sl Tryz.underlying41 (by kernel_rfl) rfl ot3
theorem ASc:OpT Tryz.prog 137 (Int×List (Int×Int×Int)×List Int×List Int) (fun x=>I64 x.1/\RgL AFc x.2.1/\RgL I64 x.2.2.1/\RgL I64 x.2.2.2):=
 OpT.st Tryz.underlying137 (by kernel_rfl) (OpF.cons (R:=I64) (S:=fun(x:List (Int×Int×Int)×List Int×List Int)=>RgL AFc x.1/\RgL I64 x.2.1/\RgL I64 x.2.2) rfl ot3 (OpF.cons (R:=RgL AFc) (S:=fun(x:List Int×List Int)=>RgL I64 x.1/\RgL I64 x.2) rfl ASb (OpF.cons (R:=RgL I64) (S:=RgL I64) rfl AQV (OpF.one rfl AQV))))
end Go.Proofs.YtfmelbioccbdoaaGreat
end
section
namespace Go.Md
open Go Go.RowKit
section
theorem xO{m:Nat}{α:Type}[Enc α][Flat α](X:Ar m α):(X.l.flatMap Flat.enc).length=m*Enc.n α:=by rw[Flat.flen,X.h]
section
variable {P:Program}{Q:Exit->Act->World->Prop}{n:Nat}{L:Fr}{D:List Deferred}{w:World}{ops:Array Oper}{rest:List Oper}
variable {ty:TypeId}{pos:String}{af:Array Edge}{dst:Option Nat}{gdd:Option (Nat×Bool)}{x y z:Operand}
end
end
section
structure SV where
 a:Option Addr
 len:Nat
 cap:Nat
def SV.val(s:SV):Value:=.slice s.a s.len s.cap
instance:Enc SV where
 agg:=false
 n:=1
 rep _ _ cs x:=cs=[.slice x.a x.len x.cap]
 len h:=by subst h;rfl
 one h:=by subst h;simp[Value.oneCell']
 sgl _:=rfl
 keep _ _ h:=h
 mono _ h:=h
instance:Flat SV:=⟨fun x=>[.slice x.a x.len x.cap],Iff.rfl⟩
structure MatS(e0 e1:TypeId)(base:Nat)(w:World)(v:Value)(S:List SV)(M:List (List Int)):Prop where
 own:Row (α:=SV) e0 base w v S
 len:S.length=M.length
 row:∀(i:Nat)(s:SV)(r:List Int),S[i]?=some s->M[i]?=some r->Row (α:=Int) e1 base w s.val r
 dif:∀(i j:Nat)(s t:SV),i≠j->S[i]?=some s->S[j]?=some t->∀g,s.val.ownBlock=some g->t.val.ownBlock≠some g
 out:∀(i:Nat)(s:SV),S[i]?=some s->∀g,s.val.ownBlock=some g->v.ownBlock≠some g
def Mat(e0 e1:TypeId)(base:Nat)(w:World)(v:Value)(M:List (List Int)):Prop:=∃S,MatS e0 e1 base w v S M
theorem Row.grn{α:Type}[Enc α][Flat α]{e:TypeId}{base:Nat}{w w':World}{v:Value}{l:List α}{row:Option Nat}(h:Row e base w v l)(g:w.grownBy w' row)(hb:∀q,v.ownBlock=some q->row≠some q):Row e base w' v l:=by
 refine⟨h.1,?_⟩;rcases h.2 with hn|⟨q,cap,cur,e1,hq,hh,r⟩
 ·exact .inl hn
 ·exact .inr ⟨q,cap,cur,e1,hq,(g.block q (Array.getElem?_eq_some_iff.1 hh).1 fun e2=>hb q (by rw[e1];rfl) e2.symm).trans hh,r⟩
section
variable {e0 e1:TypeId}{base:Nat}{w w':World}{v:Value}{M:List (List Int)}
theorem Mat.nil:Mat e0 e1 base w (.slice none 0 0) []:=⟨[],Row.nil,rfl,by simp,by simp,by simp⟩
theorem Mat.ext(h:Mat e0 e1 base w v M)(k:Ext w w'):Mat e0 e1 base w' v M:=by
 obtain⟨S,h⟩:=h;exact⟨S,h.own.ext k,h.len,fun i s r h1 h2=>(h.row i s r h1 h2).ext k,h.dif,h.out⟩
theorem Mat.sl(h:Mat e0 e1 base w v M):∃a cap,v=.slice a M.length cap:=by
 obtain⟨S,h⟩:=h;obtain⟨a,cap,e,_⟩:=RV.sl h.own.rv;exact⟨a,cap,by rw[e,h.len]⟩
theorem Mat.rv(h:Mat e0 e1 base w v M):RV w v M:=by
 obtain⟨S,h⟩:=h;obtain⟨a,cap,rfl,h1,h2,h3⟩:=RV.sl h.own.rv;rw[h.len];refine RV.of1 (by rw[<-h.len];exact h1) h2 ?_;rcases h3 with rfl|⟨b,off,e,hb,hlt,h3⟩
 ·left
  have:=h.len;simp at this;exact List.eq_nil_of_length_eq_zero this.symm
 ·refine .inr ⟨b,off,e,hb,hlt,fun i r hr=>?_⟩
  have hi:i<S.length:=by rw[h.len];exact(List.getElem?_eq_some_iff.1 hr).1
  have hs:S[i]?=some S[i]:=List.getElem?_eq_getElem hi;obtain⟨cs,h4,h5⟩:=h3 i _ hs;have hrow:=h.row i _ r hs hr;refine⟨[S[i].val],RV.rep1 hrow.rv,?_⟩;have h4':cs=[S[i].val]:=h4;rw[<-h4'];exact h5
theorem MatS.snoc{S:List SV}{v':Value}{s:SV}{r:List Int}{b2:Nat}(h:MatS e0 e1 base w v S M)(hr:Row (α:=Int) e1 b2 w s.val r)(hb:base<=b2)(hnew:∀(i:Nat)(t:SV),S[i]?=some t->∀g,t.val.ownBlock=some g->g<b2)(hv:∀g,v.ownBlock=some g->g<b2)
  (g:w.grownBy w' v.ownBlock) (ho:Row (α:=SV) e0 base w' v' (S++[s])) (how:v'.ownBlock=v.ownBlock\/∃g,v'.ownBlock=some g/\w.heap.size<=g):MatS e0 e1 base w' v' (S++[s]) (M++[r]):=by
 have hsb:∀g,s.val.ownBlock=some g->b2<=g/\g<w.heap.size:=fun g hg=>hr.lt g hg;have hout:∀x:Value,(∀g,x.ownBlock=some g->g<w.heap.size/\v.ownBlock≠some g)->∀g,x.ownBlock=some g->v'.ownBlock≠some g:=fun x hx g hg=>by
  obtain⟨h1,h2⟩:=hx g hg;rcases how with h3|⟨q,h3,h4⟩
  ·rw[h3];exact h2
  ·rw[h3]
   intro e;cases e;omega
 refine⟨ho,by simp[h.len],fun i t q h1 h2=>?_,fun i j x y hij h1 h2 gg hg=>?_,fun i t h1=>?_⟩
 ·rw[List.getElem?_append]at h1 h2
  rw[<-h.len]at h2;split at h1
  ·rename_i hi
   rw[if_pos hi]at h2;have:=h.row i t q h1 h2;exact this.grn g fun p hp=>h.out i t h1 p hp
  ·rename_i hi
   rw[if_neg hi]at h2;have hi0:i-S.length=0:=by
    rcases Nat.eq_zero_or_pos (i-S.length)with h'|h'
    ·exact h'
    ·rw[List.getElem?_eq_none (by simp only[List.length_cons,List.length_nil];omega)]at h1;cases h1
   rw[hi0]at h1 h2;simp only[List.getElem?_cons_zero,Option.some.injEq]at h1 h2;subst h1 h2;refine(hr.grn g fun p hp=>?_).bnd hb;intro e;have:=hv p e;have:=(hsb p hp).1;omega
 ·have hS:∀k z,(S++[s])[k]?=some z->(S[k]?=some z/\k<S.length)\/(z=s/\k=S.length):=fun k z hz=>by
   rw[List.getElem?_append]at hz;split at hz
   ·rename_i hk;exact .inl ⟨hz,hk⟩
   ·rename_i hk
    have hk0:k-S.length=0:=by
     rcases Nat.eq_zero_or_pos (k-S.length)with h'|h'
     ·exact h'
     ·rw[List.getElem?_eq_none (by simp only[List.length_cons,List.length_nil];omega)]at hz;cases hz
    rw[hk0]at hz;simp only[List.getElem?_cons_zero,Option.some.injEq]at hz;exact .inr ⟨hz.symm,by omega⟩
  rcases hS i x h1 with⟨a1,a2⟩|⟨a1,a2⟩<;>rcases hS j y h2 with⟨c1,c2⟩|⟨c1,c2⟩
  ·exact h.dif i j x y hij a1 c1 gg hg
  ·subst c1
   intro e;have:=hnew i x a1 gg hg;have:=(hsb gg e).1;omega
  ·subst a1
   intro e;have:=hnew j y c1 gg e;have:=(hsb gg hg).1;omega
  ·omega
 ·rw[List.getElem?_append]at h1
  split at h1
  ·refine hout t.val fun q hq=>⟨?_,h.out i t h1 q hq⟩
   rename_i hi;have hM:M[i]?=some (M[i]'(by rw[<-h.len];exact hi)):=List.getElem?_eq_getElem _;exact((h.row i t _ h1 hM).lt q hq).2
  ·rename_i hi
   have hi0:i-S.length=0:=by
    rcases Nat.eq_zero_or_pos (i-S.length)with h'|h'
    ·exact h'
    ·rw[List.getElem?_eq_none (by simp only[List.length_cons,List.length_nil];omega)]at h1;cases h1
   rw[hi0]at h1;simp only[List.getElem?_cons_zero,Option.some.injEq]at h1;subst h1;refine hout s.val fun q hq=>⟨(hsb q hq).2,fun e=>?_⟩;have:=hv q e;have:=(hsb q hq).1;omega
theorem MatS.at{S:List SV}{a:Option Addr}{len cap:Nat}{i:Int}{r:List Int}(h:MatS e0 e1 base w (.slice a len cap) S M)(hi:ix M i=some r):
  ∃s b off,ix S i=some s/\a=some ⟨b,off,none⟩/\0<=i/\i<len/\Cs w b (off+i.toNat*1) [s.val]/\Row (α:=Int) e1 base w s.val r:=by
 obtain⟨i0,i1,i2⟩:=vX hi;have hl:=(RV.cap h.own.rv).1;have his:i.toNat<S.length:=by rw[h.len];omega
 have hs:S[i.toNat]?=some S[i.toNat]:=List.getElem?_eq_getElem his;have hix:ix S i=some S[i.toNat]:=by unfold ix;rw[if_pos i0,hs]
 obtain⟨b,off,cs,e,_,h1,h2,h3⟩:=(RV.els h.own.rv).ix hix;have h2':cs=[S[i.toNat].val]:=h2;subst h2';exact⟨_,b,off,hix,e,i0,by omega,h3,h.row i.toNat _ r hs i2⟩
theorem MatS.set{S:List SV}{i:Int}{s:SV}{r r':List Int}{b:Nat}(h:MatS e0 e1 base w v S M)(hs:ix S i=some s)(hi:ix M i=some r)(c:Chg b w w')(hb:s.val.ownBlock=some b)(hr:Row (α:=Int) e1 base w' s.val r'):
  MatS e0 e1 base w' v S (NG M i r'):=by
 obtain⟨i0,_,is⟩:=vX hs;refine⟨h.own.chgn c fun e=>?_,by rw[NG,List.length_set];exact h.len,fun j t q h1 h2=>?_,h.dif,h.out⟩
 ·exact h.out i.toNat s is b hb e.symm
 ·unfold NG at h2
  rw[List.getElem?_set]at h2;by_cases hj:i.toNat=j
  ·subst hj
   rw[is]at h1;cases h1;split at h2
   ·split at h2
    ·cases h2;exact hr
    ·cases h2
   ·contradiction
  ·rw[if_neg hj]at h2
   exact(h.row j t q h1 h2).chgn c fun e=>h.dif j i.toNat t s (Ne.symm hj) h1 is b e.symm hb
end
end
section
def band(k:IntKind)(a b:Int):Int:=k.wrap ((BitVec.ofInt k.bits a&&&BitVec.ofInt k.bits b).toNat:Int)
def bor(k:IntKind)(a b:Int):Int:=k.wrap ((BitVec.ofInt k.bits a|||BitVec.ofInt k.bits b).toNat:Int)
def shl(k:IntKind)(a c:Int):Option Int:=if c<0 then none else some (k.wrap (a*2^(min c.toNat k.bits)))
def shr(k:IntKind)(a c:Int):Option Int:=if c<0 then none else some (a.fdiv (2^(min c.toNat k.bits)))
section
variable {P:Program}{Q:Exit->Act->World->Prop}{n:Nat}{L:Fr}{D:List Deferred}{w:World}{ops:Array Oper}{rest:List Oper}
variable {ty:TypeId}{pos:String}{af:Array Edge}{dst:Option Nat}{gdd:Option (Nat×Bool)}{x y z:Operand}
variable {t t':TypeId}{k yk:IntKind}{a b v:Int}
theorem AQW(hx:ev n L x=.int k a)(hy:ev n L y=.int k b):(execOp (ev n L) {dst:=dst,op:=.binOp .and t x y t',type:=ty,pos:=pos,after:=af,guard:=gdd}).run P w=.ok (.value (.int k (band k a b))) w:=by
 simp[execOp,hx,hy,eqGuard,Go.binOp,Op.intBits,band]
theorem ATj(hx:ev n L x=.int k a)(hy:ev n L y=.int k b):(execOp (ev n L) {dst:=dst,op:=.binOp .or t x y t',type:=ty,pos:=pos,after:=af,guard:=gdd}).run P w=.ok (.value (.int k (bor k a b))) w:=by
 simp[execOp,hx,hy,eqGuard,Go.binOp,Op.intBits,bor]
theorem ANo(hx:ev n L x=.int k a)(hy:ev n L y=.int yk b)(h:shl k a b=some v):(execOp (ev n L) {dst:=dst,op:=.binOp .shl t x y t',type:=ty,pos:=pos,after:=af,guard:=gdd}).run P w=.ok (.value (.int k v)) w:=by
 unfold shl at h;split at h
 ·cases h
 ·rename_i hb
  cases h;simp[execOp,hx,hy,eqGuard,Go.binOp,Op.shift,hb]
theorem ATk(hx:ev n L x=.int k a)(hy:ev n L y=.int yk b)(h:shr k a b=some v):(execOp (ev n L) {dst:=dst,op:=.binOp .shr t x y t',type:=ty,pos:=pos,after:=af,guard:=gdd}).run P w=.ok (.value (.int k v)) w:=by
 unfold shr at h;split at h
 ·cases h
 ·rename_i hb
  cases h;simp[execOp,hx,hy,eqGuard,Go.binOp,Op.shift,hb]
end
end
section
structure BelI(a t N:Nat)(w w':World):Prop where
 os:w'.os=w.os
 tape:w'.tape=w.tape
 output:w'.output=w.output
 size:w.heap.size<=w'.heap.size
 block:∀k,k<N->(k<a\/t<=k)->w'.heap[k]?=w.heap[k]?
section
variable {a t N:Nat}{w w1 w2:World}
theorem BelI.refl:BelI a t N w w:=⟨rfl,rfl,rfl,Nat.le_refl _,fun _ _ _=>rfl⟩
theorem BelI.trans(h:BelI a t N w w1)(k:BelI a t N w1 w2):BelI a t N w w2:=
 ⟨k.os.trans h.os,k.tape.trans h.tape,k.output.trans h.output,Nat.le_trans h.size k.size,fun q hq h1=>(k.block q hq h1).trans (h.block q hq h1)⟩
theorem BelI.mono{M:Nat}(h:BelI a t N w w1)(hM:M<=N):BelI a t M w w1:=⟨h.os,h.tape,h.output,h.size,fun q hq h1=>h.block q (by omega) h1⟩
theorem BelI.ext(h:BelI a t N w w1)(k:Ext w1 w2)(hN:N<=w.heap.size):BelI a t N w w2:=
 ⟨k.os.trans h.os,k.tape.trans h.tape,k.output.trans h.output,Nat.le_trans h.size k.size,fun q hq h1=>(k.block q (Nat.lt_of_lt_of_le hq (Nat.le_trans hN h.size))).trans (h.block q hq h1)⟩
theorem BelI.of(k:Ext w w1)(hN:N<=w.heap.size):BelI a t N w w1:=BelI.refl.ext k hN
theorem BelI.chg{b:Nat}(h:BelI a t N w w1)(k:Chg b w1 w2)(hb:(a<=b/\b<t)\/N<=b):BelI a t N w w2:=
 ⟨k.os.trans h.os,k.tape.trans h.tape,k.output.trans h.output,by rw[k.size];exact h.size,fun q hq h1=>(k.other q (by omega)).trans (h.block q hq h1)⟩
theorem BelI.gr{row:Option Nat}(h:BelI a t N w w1)(k:w1.grownBy w2 row)(hN:N<=w.heap.size)(hr:∀q,row=some q->(a<=q/\q<t)\/N<=q):BelI a t N w w2:=
 ⟨k.os.trans h.os,k.tape.trans h.tape,k.output.trans h.output,Nat.le_trans h.size k.size,fun q hq h1=>(k.block q (Nat.lt_of_lt_of_le hq (Nat.le_trans hN h.size)) fun e=>by have:=hr q e.symm;omega).trans (h.block q hq h1)⟩
theorem BelI.below(h:BelI a t N w w1)(ha:a<=N):Below a w w1:=⟨h.os,h.tape,h.output,h.size,fun q hq=>h.block q (by omega) (.inl hq)⟩
end
structure Okb(B:Nat)(I:World->Prop):Prop where
 ext:∀{A W:World},I A->Ext A W->I W
 put:∀{A W:World}{l:Nat}{o:Obj},I A->B<=l->A.heap[l]?=some o->o.isCells=false->Chg l A W->I W
section
variable {B:Nat}
theorem Okb.and{I J:World->Prop}(h:Okb B I)(k:Okb B J):Okb B (fun w=>I w/\J w):=
 ⟨fun h1 h2=>⟨h.ext h1.1 h2,k.ext h1.2 h2⟩,fun h1 h2 h3 h4 h5=>⟨h.put h1.1 h2 h3 h4 h5,k.put h1.2 h2 h3 h4 h5⟩⟩
theorem Okb.ex{γ:Type}{I:γ->World->Prop}(h:∀g,Okb B (I g)):Okb B (fun w=>∃g,I g w):=
 ⟨fun⟨g,h1⟩ h2=>⟨g,(h g).ext h1 h2⟩,fun⟨g,h1⟩ h2 h3 h4 h5=>⟨g,(h g).put h1 h2 h3 h4 h5⟩⟩
theorem Okb.pure{p:Prop}:Okb B (fun _=>p):=⟨fun h _=>h,fun h _ _ _ _=>h⟩
theorem Bx.putne{w w':World}{b l:Nat}{T:TypeId}{cs:List Value}{o:Obj}(h:Bx w b T cs)(hl:w.heap[l]?=some o)(ho:o.isCells=false)(k:Chg l w w'):Bx w' b T cs:=h.chg k fun e=>by
 subst e;rw[show w.heap[b]?=_ from h]at hl;cases hl;cases ho
theorem Okb.bx{b:Nat}{T:TypeId}{cs:List Value}:Okb B (fun w=>Bx w b T cs):=⟨fun h k=>h.ext k,fun h _ hl ho k=>h.putne hl ho k⟩
theorem Row.cells{α:Type}[Enc α][Flat α]{e:TypeId}{base:Nat}{w:World}{v:Value}{l:List α}(h:Row e base w v l){q:Nat}(hq:v.ownBlock=some q):∃o:Obj,w.heap[q]?=some o/\o.isCells=true:=by
 rcases h.2 with⟨rfl,_⟩|⟨g,cap,cur,rfl,_,hh,_⟩
 ·cases hq
 ·cases hq
  exact⟨_,hh,rfl⟩
theorem Row.putne{α:Type}[Enc α][Flat α]{e:TypeId}{base l:Nat}{w w':World}{v:Value}{x:List α}{o:Obj}(h:Row e base w v x)(hl:w.heap[l]?=some o)(ho:o.isCells=false)(k:Chg l w w'):Row e base w' v x:=
 h.chgn k fun e=>by
  obtain⟨o',h1,h2⟩:=h.cells e.symm;rw[hl]at h1;cases h1;rw[ho]at h2;cases h2
theorem Okb.row{α:Type}[Enc α][Flat α]{e:TypeId}{base:Nat}{v:Value}{l:List α}:Okb B (fun w=>Row e base w v l):=⟨fun h k=>h.ext k,fun h _ hl ho k=>h.putne hl ho k⟩
theorem Okb.mp{κ ν:Type}[DecidableEq κ][Enc κ][Flat κ][Key κ][Enc ν][Flat ν]{b:Nat}{l:List (κ×ν)}(hb:b<B):Okb B (fun w=>Mp w b l):=⟨fun h k=>h.ext k,fun h hB _ _ k=>h.chg k (by omega)⟩
theorem Okb.extw{wb:World}(hB:wb.heap.size<=B):Okb B (fun w=>Ext wb w):=⟨fun h k=>h.tr k,fun h hl _ _ k=>h.chg k (Nat.le_trans hB hl)⟩
theorem Okb.size{m:Nat}:Okb B (fun w=>m<=w.heap.size):=⟨fun h k=>Nat.le_trans h k.size,fun h _ _ _ k=>by rw[k.size];exact h⟩
end
structure KeepC(a t:Nat)(w w':World):Prop where
 os:w'.os=w.os
 tape:w'.tape=w.tape
 output:w'.output=w.output
 size:w.heap.size<=w'.heap.size
 block:∀(k:Nat)(o:Obj),w.heap[k]?=some o->(∀r,o≠.loop r)->(k<a\/t<=k)->w'.heap[k]?=some o
section
variable {a t:Nat}{w w1 w2:World}
theorem KeepC.refl:KeepC a t w w:=⟨rfl,rfl,rfl,Nat.le_refl _,fun _ _ h _ _=>h⟩
theorem KeepC.trans(h:KeepC a t w w1)(k:KeepC a t w1 w2):KeepC a t w w2:=
 ⟨k.os.trans h.os,k.tape.trans h.tape,k.output.trans h.output,Nat.le_trans h.size k.size,fun q o hq h1 h2=>k.block q o (h.block q o hq h1 h2) h1 h2⟩
theorem KeepC.of(k:Ext w w1):KeepC a t w w1:=⟨k.os,k.tape,k.output,k.size,fun q _ hq _ _=>(k.block q (Array.getElem?_eq_some_iff.1 hq).1).trans hq⟩
theorem KeepC.ext(h:KeepC a t w w1)(k:Ext w1 w2):KeepC a t w w2:=h.trans (KeepC.of k)
theorem KeepC.chg{b:Nat}(h:KeepC a t w w1)(k:Chg b w1 w2)(hb:(a<=b/\b<t)\/w.heap.size<=b):KeepC a t w w2:=
 ⟨k.os.trans h.os,k.tape.trans h.tape,k.output.trans h.output,by rw[k.size];exact h.size,fun q o hq h1 h2=>(k.other q (by have:=(Array.getElem?_eq_some_iff.1 hq).1;omega)).trans (h.block q o hq h1 h2)⟩
end
structure KpOk(B:Nat)(Kp:World->World->Prop):Prop where
 trans:∀{A C E:World},Kp A C->Kp C E->Kp A E
 ext:∀{A C:World},B<=A.heap.size->Ext A C->Kp A C
 put:∀{A C:World}{l:Nat}{r:Loop},B<=l->A.heap[l]?=some (.loop r)->Chg l A C->Kp A C
def AB6(P:Program)(Kp:World->World->Prop)(m:Nat)(g:FuncId)(cs:Array Value)(us:List (Array Value))(w:World):Prop:=
 ∀(l:Nat)(J:Nat->World->Prop)(Jx:World->Prop)(W:World),Ext w W->(∀k A B,J k A->Ext A B->J k B)->(∀A B,Jx A->Ext A B->Jx B)->
  (∀k u A,us[k]?=some u->J k A->YieldAt Fence.wide (m-1) P l u A fun e B=>
   (e=.returned (.bool true)/\J (k+1) B/\Kp A B)\/(e=.returned (.bool false)/\Jx B))->
  J 0 W->CallsIn Fence.wide m P g (#[.func (.yield l) #[] #[]]++cs) W fun e B=>(∃v,e=.returned v)/\(J us.length B\/Jx B)
def SeqV(P:Program)(a t:Nat)(w:World)(v:Value)(us:List (Array Value)):Prop:=
 ∃g cs,v=.func (.func g) #[] cs/\Ad P g/\∀m w',4<=m->BelI a t w.heap.size w w'->AB6 P (BelI a t w'.heap.size) m g cs us w'
def SeqS(P:Program)(a t:Nat)(w:World)(v:Value)(us:List (Array Value)):Prop:=
 ∃g cs,v=.func (.func g) #[] cs/\Ad P g/\∀m w',4<=m->KeepC a t w w'->AB6 P (KeepC a t) m g cs us w'
theorem SeqS.ext{P:Program}{a t:Nat}{w w':World}{v:Value}{us:List (Array Value)}(h:SeqS P a t w v us)(k:Ext w w'):SeqS P a t w' v us:=by
 obtain⟨g,cs,e,c,h⟩:=h;exact⟨g,cs,e,c,fun m w2 hm hk=>h m w2 hm ((KeepC.of k).trans hk)⟩
def AO0(B:Nat)(Kp:World->World->Prop)(I':World->Prop)(Ix:Code->World->Prop)(W:World):Exit->Act->World->Prop
 |.normal,_,W'=>KeepsFrom B W W'/\Kp W W'/\I' W'
 |.ret,_,W'=>KeepsFrom B W W'/\Ix .ret W'
 |.exit id,_,W'=>KeepsFrom B W W'/\Ix (.exit id) W'
 |_,_,_=>False
section
variable {P:Program}{Q:Exit->Act->World->Prop}{m n:Nat}{L:Fr}{D:List Deferred}{w:World}
theorem ALK{W:World}{l:Nat}{o o':Obj}(h:W.heap[l]?=some o):Chg l W (W.putObj l o')/\(W.putObj l o').heap[l]?=some o':=
 ⟨AGH h,World.putObj_heap_same (Array.getElem?_eq_some_iff.1 h).1⟩
theorem AQX{g:Operand}{ps:List Nat}{assign body:Code}{gf:FuncId}{cs:Array Value}{us:List (Array Value)}{Kp:World->World->Prop}(hm:1<=m)(hKp:KpOk w.heap.size Kp)
  (hg:ev n L g=.func (.func gf) #[] cs) (hc:Ad P gf) (hseq:AB6 P Kp (m-1) gf cs us w) (hps:∀u∈us,u.size=ps.length)
  (I:Nat->World->Prop) (Ix:Code->World->Prop) (hI:∀k,Okb w.heap.size (I k)) (hIx:∀c,Okb w.heap.size (Ix c)) (h0:I 0 w)
  (hround:∀(l k:Nat)(u:Array Value)(A:World)(K:Act->World->Prop),w.heap.size<l->us[k]?=some u->I k A->
   (∀a' W,Ext A W->(∀W2 o,W.heap[l]?=some o->o.isCells=false->(∀ds,o≠.deferred ds)->Chg l W W2->body.wpIn (RF l) (m-1-1) P (AO0 w.heap.size Kp (I (k+1)) Ix W2) a' W2)->K a' W)->
   assign.wpIn (RF l) (m-1-1) P (Exit.then K (fun _ _ _=>False)) (act n ((ps.zip u.toList).foldl (fun L(p,v)=>vG L p v) L) []) A)
  (hdone:∀D' W,w.heap.size<=D'->I us.length W->W.heap[D']?=some (.deferred (some []))->Q .normal (act n L ({target:=.collected D',args:=#[]}::D)) W)
  (hstop:∀D' c W,w.heap.size<=D'->Ix c W->W.heap[D']?=some (.deferred (some []))->c.wp P Q (act n L ({target:=.collected D',args:=#[]}::D)) W):
  (Code.rangeFunc g ps.toArray assign body).wp P Q (act n L D) w:=by
 refine(wpIn_wide (n:=m)).1 (wpIn_rangeFunc fun fn hfn=>?_);generalize hrec:(fun(st:LoopState)(pe:Option Code)=>({state:=st,pending:=pe,fn:=fn,tmps:=(act n L D).tmps,params:=ps.toArray,assign:=assign,body:=body,defers:=w.heap.size}:Loop))=rec;have hrec':∀st pe,rec st pe={state:=st,pending:=pe,fn:=fn,tmps:=(act n L D).tmps,params:=ps.toArray,assign:=assign,body:=body,defers:=w.heap.size}:=fun st pe=>by rw[<-hrec]
 generalize hB:w.heap.size=B at*
 have hx1:Ext w (w.alloc (.deferred (some []))):=Ext.alloc _ _;have hx2:=hx1.tr (Ext.alloc (w.alloc (.deferred (some []))) (.loop (rec .ready none)));have hL1:((w.alloc (.deferred (some []))).alloc (.loop (rec .ready none))).heap[B+1]?=some (.loop (rec .ready none)):=by
  have:=World.alloc_heap_new (w.alloc (.deferred (some []))) (.loop (rec .ready none));rwa [World.size_alloc,hB]at this
 have hK1:((w.alloc (.deferred (some []))).alloc (.loop (rec .ready none))).heap[B]?=some (.deferred (some [])):=by
  have:=World.alloc_heap_new w (.deferred (some []));rw[hB]at this;exact((Ext.alloc (w.alloc (.deferred (some []))) (.loop (rec .ready none))).block B (by simp[hB])).trans this
 generalize hW1:(w.alloc (.deferred (some []))).alloc (.loop (rec .ready none))=W1 at*
 refine⟨B+1,[{target:=.collected B,args:=#[]}],W1,{target:=.fn (.func gf) cs,args:=#[.func (.yield (B+1)) #[] #[]]},W1,gf,#[.func (.yield (B+1)) #[] #[]]++cs,W1,?_,?_,?_,?_,fun _=>hm,?_⟩
 ·rw[show Fence.wide.round=none from rfl,run_enterLoop_outer,hB,<-hrec',hW1]
 ·simp only[AAW,resolve,Deferred.ofValue,hg]
  simp[ev]
 ·intro f' _
  exact trivial
 ·simp[invoke,ACR hc]
 refine(hseq (B+1) (fun k A=>I k A/\A.heap[B+1]?=some (.loop (rec .ready none))/\A.heap[B]?=some (.deferred (some [])))
  (fun A=>∃c,Ix c A/\A.heap[B+1]?=some (.loop (rec .done (some c)))/\A.heap[B]?=some (.deferred (some []))) W1 hx2
  (fun k A C h e=>⟨(hI k).ext h.1 e,(e.block _ (Array.getElem?_eq_some_iff.1 h.2.1).1).trans h.2.1,(e.block _ (Array.getElem?_eq_some_iff.1 h.2.2).1).trans h.2.2⟩)
  (fun A C⟨c,h1,h2,h3⟩ e=>⟨c,(hIx c).ext h1 e,(e.block _ (Array.getElem?_eq_some_iff.1 h2).1).trans h2,(e.block _ (Array.getElem?_eq_some_iff.1 h3).1).trans h3⟩)
  ?_ ⟨(hI 0).ext h0 hx2,hL1,hK1⟩).mono ?_
 ·rintro k u A hu⟨hi,hl,hk⟩;have hy:=run_yield (P:=P) (args:=u) hl (by rw[hrec'];simpa using hps u (List.mem_of_getElem? hu));rw[hrec']at hy;refine⟨fn,_,assign,body,hy,roundIn_of_wpIn hfn ?_⟩;have hact:({tmps:=((ps.toArray.zip u).foldl (fun t(p,v)=>t.setIfInBounds p v) (act n L D).tmps),defers:=[]}:Act)=act n ((ps.zip u.toList).foldl (fun L(p,v)=>vG L p v) L) []:=by
   have:=AMS (n:=n) (D:=D) (ps:=ps) (vs:=u.toList) L;rw[<-Array.foldl_toList,Array.toList_zip];simp only at this⊢;rw[this]
   rfl
  refine(congrArg (fun q=>Code.wpIn (RF (B+1)) (m-1-1) P assign _ q A) hact).mpr ?_;refine hround (B+1) k u A _ (Nat.lt_succ_self _) hu hi fun a' W hAW hbd=>?_;have hl1:=(hAW.block _ (Array.getElem?_eq_some_iff.1 hl).1).trans hl;have hk1:=(hAW.block _ (Array.getElem?_eq_some_iff.1 hk).1).trans hk;refine⟨_,run_beginRound hl1 (by rw[hrec']),?_⟩;obtain⟨c1,c2⟩:=ALK (o':=.loop {rec .ready none with state:=.busy}) hl1;have hk2:=(c1.other B (by omega)).trans hk1;generalize hW2:W.putObj (B+1) (.loop {rec .ready none with state:=.busy})=W2 at*
  refine wpIn_mono (hbd W2 _ hl1 rfl nofun c1) ?_;have fin:∀(jump:Option Code)(W3:World),KeepsFrom B W2 W3->(Instr.endRound (B+1) jump).run P W3=.ok (.bool jump.isNone) (W3.putObj (B+1) (.loop (rec (if jump.isNone then .ready else .done) jump)))/\
    W3.heap[B+1]?=some (.loop {rec .ready none with state:=.busy})/\Chg (B+1) W3 (W3.putObj (B+1) (.loop (rec (if jump.isNone then .ready else .done) jump)))/\
    (W3.putObj (B+1) (.loop (rec (if jump.isNone then .ready else .done) jump))).heap[B+1]?=some (.loop (rec (if jump.isNone then .ready else .done) jump))/\
    (W3.putObj (B+1) (.loop (rec (if jump.isNone then .ready else .done) jump))).heap[B]?=some (.deferred (some [])):=fun jump W3 hk3=>by
   have hl3:=hk3.same _ _ (by omega) c2 rfl;have hd3:=hk3.same _ _ (Nat.le_refl _) hk2 rfl;have he:=run_endRound (P:=P) jump hl3;obtain⟨e1,e2⟩:=ALK (o':=.loop (rec (if jump.isNone then .ready else .done) jump)) hl3;refine⟨?_,hl3,e1,e2,(e1.other B (by omega)).trans hd3⟩;simp only[hrec']at he⊢;exact he
  rintro e a3 W3 hp;cases e with
  |normal=>
   obtain⟨hk3,hb3,hi3⟩:=hp;obtain⟨hr,hl3,e1,hl4,hd4⟩:=fin none W3 hk3;have hBA:B<=A.heap.size:=Nat.le_of_lt (Nat.lt_of_succ_lt (Array.getElem?_eq_some_iff.1 hl).1);exact⟨_,_,hr,.inl ⟨rfl,⟨(hI (k+1)).put hi3 (by omega) hl3 rfl e1,hl4,hd4⟩,hKp.trans (hKp.ext hBA hAW) (hKp.trans (hKp.put (by omega) hl1 c1) (hKp.trans hb3 (hKp.put (by omega) hl3 e1)))⟩⟩
  |ret=>
   obtain⟨hk3,hi3⟩:=hp;obtain⟨hr,hl3,e1,hl4,hd4⟩:=fin (some .ret) W3 hk3;exact⟨_,_,hr,.inr ⟨rfl,.ret,(hIx _).put hi3 (by omega) hl3 rfl e1,hl4,hd4⟩⟩
  |exit id=>
   obtain⟨hk3,hi3⟩:=hp;obtain⟨hr,hl3,e1,hl4,hd4⟩:=fin (some (.exit id)) W3 hk3;exact⟨_,_,hr,.inr ⟨rfl,.exit id,(hIx _).put hi3 (by omega) hl3 rfl e1,hl4,hd4⟩⟩
  |goto t=>exact hp.elim
  |panic ch=>exact hp.elim
  |outgrown=>exact hp.elim
 ·rintro e W2⟨⟨v,rfl⟩,⟨hi,hl,hk⟩|⟨c,hi,hl,hk⟩⟩
  ·obtain⟨e1,_⟩:=ALK (o':=.loop {rec .ready none with state:=.exhausted}) hl
   exact⟨none,_,by have:=run_endLoop (P:=P) hl (by rw[hrec'];simp);simpa only[hrec']using this,hdone B _ (Nat.le_refl _) ((hI _).put hi (by omega) hl rfl e1) ((e1.other B (by omega)).trans hk)⟩
  ·obtain⟨e1,_⟩:=ALK (o':=.loop {rec .done (some c)with state:=.exhausted}) hl
   exact⟨some c,_,by have:=run_endLoop (P:=P) hl (by rw[hrec'];simp);simpa only[hrec']using this,wpIn_wide.2 (hstop B c _ (Nat.le_refl _) ((hIx c).put hi (by omega) hl rfl e1) ((e1.other B (by omega)).trans hk))⟩
end
end
end Go.Md
end
section
namespace Go.Md
open Go Go.RowKit
def Asg(B:Nat)(A W:World):Prop:=∃W1 l o,B<=l/\Ext A W1/\W1.heap[l]?=some o/\o.isCells=false/\(∀ds,o≠.deferred ds)/\Chg l W1 W
section
variable {B:Nat}{A W:World}
theorem Asg.size(k:Asg B A W):A.heap.size<=W.heap.size:=by
 obtain⟨W1,l,o,_,h1,_,_,_,h2⟩:=k;rw[h2.size];exact h1.size
theorem Bx.asg{b:Nat}{T:TypeId}{cs:List Value}(h:Bx A b T cs)(k:Asg B A W):Bx W b T cs:=by
 obtain⟨W1,l,o,_,h1,h2,h3,_,h4⟩:=k;exact(h.ext h1).putne h2 h3 h4
theorem Row.asg{α:Type}[Enc α][Flat α]{e:TypeId}{base:Nat}{v:Value}{x:List α}(h:Row e base A v x)(k:Asg B A W):Row e base W v x:=by
 obtain⟨W1,l,o,_,h1,h2,h3,_,h4⟩:=k;exact(h.ext h1).putne h2 h3 h4
theorem Below.asg{w:World}(h:Ext w A)(k:Asg B A W)(hB:w.heap.size<=B):Ext w W:=by
 obtain⟨W1,l,o,hl,h1,h2,h3,_,h4⟩:=k;exact(h.tr h1).chg h4 (Nat.le_trans hB hl)
theorem Mp.asg{κ ν:Type}[DecidableEq κ][Enc κ][Flat κ][Key κ][Enc ν][Flat ν]{b:Nat}{x:List (κ×ν)}(h:Mp A b x)(k:Asg B A W)(hb:b<B):Mp W b x:=by
 obtain⟨W1,l,o,hl,h1,h2,h3,_,h4⟩:=k;exact(h.ext h1).chg h4 (by omega)
end
def mkD(r:Nat):Deferred:={target:=.collected r,args:=#[]}
theorem AHp:∀{a b:List Nat},a.map mkD=b.map mkD->a=b
 |[],[],_=>rfl
 |[],_::_,h=>by cases h
 |_::_,[],h=>by cases h
 |x::a,y::b,h=>by
  simp only[List.map_cons,List.cons.injEq]at h;have h1:x=y:=by have:=h.1;unfold mkD at this;cases this;rfl
  rw[h1,AHp h.2]
def Mks(B:Nat)(D:List Deferred)(w:World):Prop:=∃rs:List Nat,D=rs.map mkD/\rs.Nodup/\∀r∈rs,B<=r/\w.heap[r]?=some (.deferred (some []))
section
variable {B:Nat}{D:List Deferred}{w w':World}
theorem Mks.nil:Mks B [] w:=⟨[],rfl,List.nodup_nil,by simp⟩
theorem Mks.ext(h:Mks B D w)(k:Ext w w'):Mks B D w':=by
 obtain⟨rs,e,hn,h⟩:=h;exact⟨rs,e,hn,fun r hr=>⟨(h r hr).1,(k.block r (Array.getElem?_eq_some_iff.1 (h r hr).2).1).trans (h r hr).2⟩⟩
theorem Mks.chg{b:Nat}(h:Mks B D w)(k:Chg b w w')(hc:∃o:Obj,w.heap[b]?=some o/\∀ds,o≠.deferred ds):Mks B D w':=by
 obtain⟨rs,e,hn,h⟩:=h;obtain⟨o,ho,hd⟩:=hc;refine⟨rs,e,hn,fun r hr=>⟨(h r hr).1,(k.other r fun e=>?_).trans (h r hr).2⟩⟩;subst e;have:=(h r hr).2;rw[ho]at this;cases this;exact hd _ rfl
theorem Mks.gr{row:Option Nat}(h:Mks B D w)(k:w.grownBy w' row)(hc:∀b,row=some b->∃o:Obj,w.heap[b]?=some o/\∀ds,o≠.deferred ds):Mks B D w':=by
 obtain⟨rs,e,hn,h⟩:=h;refine⟨rs,e,hn,fun r hr=>⟨(h r hr).1,(k.block r (Array.getElem?_eq_some_iff.1 (h r hr).2).1 fun e=>?_).trans (h r hr).2⟩⟩;obtain⟨o,ho,hd⟩:=hc r e.symm;have:=(h r hr).2;rw[ho]at this;cases this;exact hd _ rfl
theorem Mks.asg{C:Nat}(h:Mks B D w)(k:Asg C w w'):Mks B D w':=by
 obtain⟨W1,l,o,_,h1,h2,_,h3,h4⟩:=k;exact(h.ext h1).chg h4 ⟨o,h2,h3⟩
theorem Bx.nd{b:Nat}{T:TypeId}{cs:List Value}(h:Bx w b T cs):∃o:Obj,w.heap[b]?=some o/\∀ds,o≠.deferred ds:=⟨_,h,nofun⟩
theorem Row.nd{α:Type}[Enc α][Flat α]{e:TypeId}{base:Nat}{v:Value}{l:List α}(h:Row e base w v l):∀b,v.ownBlock=some b->∃o:Obj,w.heap[b]?=some o/\∀ds,o≠.deferred ds:=fun b hb=>by
 rcases h.2 with⟨rfl,_⟩|⟨g,cap,cur,rfl,_,hh,_⟩
 ·cases hb
 ·cases hb
  exact⟨_,hh,nofun⟩
theorem Mp.nd{κ ν:Type}[DecidableEq κ][Enc κ][Flat κ][Key κ][Enc ν][Flat ν]{b:Nat}{x:List (κ×ν)}(h:Mp w b x):∃o:Obj,w.heap[b]?=some o/\∀ds,o≠.deferred ds:=by
 obtain⟨es,c,h,_⟩:=h;exact⟨_,h,nofun⟩
theorem Okb.mks{C:Nat}(h:Mks B D w)(hC:w.heap.size=C):Okb C (fun w=>Mks B D w):=⟨fun h k=>h.ext k,fun{A W l o} h1 hl ho hc k=>by
 obtain⟨rs,e,hn,h1⟩:=h1;obtain⟨rs',e',_,h2⟩:=h;have:rs=rs':=AHp (e.symm.trans e');subst this;refine⟨rs,e,hn,fun r hr=>⟨(h1 r hr).1,(k.other r ?_).trans (h1 r hr).2⟩⟩;have:=(Array.getElem?_eq_some_iff.1 (h2 r hr).2).1;omega⟩
theorem Mks.cons{D':Nat}(h:Mks B D w)(h':Mks B D w')(hb:B<=w.heap.size)(hD:w.heap.size<=D')(hk:w'.heap[D']?=some (.deferred (some []))):Mks B ({target:=.collected D',args:=#[]}::D) w':=by
 obtain⟨rs,e,hn,h⟩:=h;obtain⟨rs',e',_,h'⟩:=h';have:rs=rs':=AHp (e.symm.trans e');subst this;refine⟨D'::rs,by rw[e];rfl,List.nodup_cons.2 ⟨fun hr=>?_,hn⟩,fun r hr=>?_⟩
 ·have:=(Array.getElem?_eq_some_iff.1 (h D' hr).2).1
  omega
 ·rcases List.mem_cons.1 hr with rfl|hr
  ·exact⟨by omega,hk⟩
  ·exact h' r hr
structure Tak(B:Nat)(w w':World):Prop where
 os:w'.os=w.os
 tape:w'.tape=w.tape
 output:w'.output=w.output
 size:w'.heap.size=w.heap.size
 low:∀k,k<B->w'.heap[k]?=w.heap[k]?
 old:∀(k:Nat)(o:Obj),w.heap[k]?=some o->(∀ds,o≠.deferred ds)->w'.heap[k]?=some o
theorem Tak.refl:Tak B w w:=⟨rfl,rfl,rfl,rfl,fun _ _=>rfl,fun _ _ h _=>h⟩
theorem Bx.tak{b:Nat}{T:TypeId}{cs:List Value}(h:Bx w b T cs)(k:Tak B w w'):Bx w' b T cs:=k.old _ _ h nofun
theorem Row.tak{α:Type}[Enc α][Flat α]{e:TypeId}{base:Nat}{v:Value}{l:List α}(h:Row e base w v l)(k:Tak B w w'):Row e base w' v l:=by
 refine⟨h.1,?_⟩;rcases h.2 with hn|⟨g,cap,cur,e1,hb,hg,r⟩
 ·exact .inl hn
 ·exact .inr ⟨g,cap,cur,e1,hb,k.old _ _ hg nofun,r⟩
theorem Below.tak{a:World}(h:Ext a w)(k:Tak B w w')(hB:a.heap.size<=B):Ext a w':=
 ⟨k.os.trans h.os,k.tape.trans h.tape,k.output.trans h.output,by rw[k.size];exact h.size,fun q hq=>(k.low q (by omega)).trans (h.block q hq)⟩
theorem Mp.tak{κ ν:Type}[DecidableEq κ][Enc κ][Flat κ][Key κ][Enc ν][Flat ν]{b:Nat}{x:List (κ×ν)}(h:Mp w b x)(k:Tak B w w'):Mp w' b x:=by
 obtain⟨es,c,h,r⟩:=h;exact⟨es,c,k.old _ _ h nofun,r⟩
end
section
variable {P:Program}{Q:Exit->Act->World->Prop}{n B:Nat}{L:Fr}{D:List Deferred}{w:World}
theorem AKT{fn:Func}{tmps:Array Value}{m:Nat}{R:Ending->World->Prop}:∀(rs:List Nat)(w:World),rs.Nodup->(∀r∈rs,B<=r/\w.heap[r]?=some (.deferred (some [])))->
  (∀w',Tak B w w'->LeavesInM Fence.wide m P fn tmps R [] .returning w')->LeavesInM Fence.wide m P fn tmps R (rs.map mkD) .returning w
 |[],w,_,_,h=>h w Tak.refl
 |r::rs,w,hn,hr,h=>by
  obtain⟨hB,hd⟩:=hr r (by simp);have hn':=List.nodup_cons.1 hn;refine⟨by simp,.inl ⟨r,_,rfl,run_takeDeferred hd,?_⟩⟩;have hc:=AGH (o':=.deferred none) hd;refine AKT rs _ hn'.2 (fun q hq=>?_) fun w' hk=>h w' ?_
  ·obtain⟨h1,h2⟩:=hr q (by simp[hq])
   exact⟨h1,(hc.other q fun e=>hn'.1 (e▸hq)).trans h2⟩
  ·refine⟨hk.os.trans hc.os,hk.tape.trans hc.tape,hk.output.trans hc.output,hk.size.trans hc.size,fun q hq=>(hk.low q hq).trans (hc.other q (by omega)),fun q o ho hdd=>hk.old q o ((hc.other q fun e=>?_).trans ho) hdd⟩
   subst e;rw[hd]at ho;cases ho;exact hdd _ rfl
theorem AQY{fn:Func}{m:Nat}{R:Value->World->Prop}{rs:List ResultVar}(hr:fn.results=rs.toArray)(hm:Mks B D w)
  (h:∀w',Tak B w w'->∃vs,RVs P w' n L rs vs/\R (res vs) w'):bodyPostM Fence.wide m P fn (IA R) .ret (act n L D) w:=by
 obtain⟨ds,rfl,hn,hd⟩:=hm;refine AKT ds w hn hd fun w' hk=>?_;obtain⟨vs,h1,h2⟩:=h w' hk;exact⟨_,h1.results (D:=[]) hr,_,rfl,h2⟩
theorem AQZ{fn:Func}{m:Nat}{R:Value->World->Prop}{rs:List ResultVar}(hr:fn.results=rs.toArray)(hm:Mks B D w)
  (h:∀w',Tak B w w'->∃vs,RVs P w' n L rs vs/\R (res vs) w'):bodyPostM Fence.wide m P fn (IA R) .normal (act n L D) w:=AQY hr hm h
def vN(B:Nat)(R:Fr->World->Prop)(n:Nat)(a:Act)(w:World):Prop:=∃L' D',a=act n L' D'/\Mks B D' w/\R L' w
def PE(B:Nat)(I:Nat->Fr->World->Prop)(m n:Nat)(a:Act)(w:World):Prop:=∃m' L' D',m'<m/\a=act n L' D'/\Mks B D' w/\I m' L' w
theorem lfM{R:Fr->World->Prop}(hm:Mks B D w)(h:R L w):vN B R n (act n L D) w:=⟨L,D,rfl,hm,h⟩
theorem lqM{I:Nat->Fr->World->Prop}{m:Nat}(m':Nat)(hlt:m'<m)(hm:Mks B D w)(h:I m' L w):PE B I m n (act n L D) w:=⟨m',L,D,hlt,rfl,hm,h⟩
theorem ctM{c:Code}(B:Nat)(R:Fr->World->Prop)(h:c.wp P (Exit.then (vN B R n) Q) (act n L D) w)
  (k:∀L' D' w',Mks B D' w'->R L' w'->Q .normal (act n L' D') w'):c.wp P Q (act n L D) w:=
 wp_mono h fun e a w' hq=>by
  cases e with
  |normal=>obtain⟨L',D',rfl,hm,hr⟩:=hq;exact k L' D' w' hm hr
  |_=>exact hq
theorem lpM{c:Code}(B:Nat){I:Nat->Fr->World->Prop}(m:Nat)(hm:Mks B D w)(h0:I m L w)
  (round:∀m L D w,Mks B D w->I m L w->c.wp P (Exit.then (PE B I m n) Q) (act n L D) w):(Code.loop c).wp P Q (act n L D) w:=by
 intro b k cs;have key:∀m L D w,Mks B D w->I m L w->∃e a' w',Q e a' w'/\Arrives P (lone (b.at (act n L D) (.code c::.inLoop c::k)) cs w) b k cs e a' w':=by
  intro m
  induction m using Nat.strongRecOn with
  |_ m ih=>
   intro L D w hM hI;obtain⟨e,a₁,w₁,hq,harr⟩:=round m L D w hM hI b (.inLoop c::k) cs;cases e with
   |normal=>
    obtain⟨m',L',D',hlt,rfl,hM₁,hI₁⟩:=hq;obtain⟨e₂,a₂,w₂,hq₂,harr₂⟩:=ih m' hlt L' D' w₁ hM₁ hI₁;exact⟨e₂,a₂,w₂,hq₂,.of_steps (Steps.trans harr (.one step_inLoop)) harr₂⟩
   |exit id=>exact⟨_,a₁,w₁,hq,.pass (x:=.inLoop c) rfl (fun _ _=>.inl (by simp)) harr⟩
   |goto l=>exact⟨_,a₁,w₁,hq,.pass (x:=.inLoop c) rfl (fun _ _=>.inl (by simp)) harr⟩
   |ret=>exact⟨_,a₁,w₁,hq,.pass (x:=.inLoop c) rfl (fun _ _=>.inl (by simp)) harr⟩
   |panic ch=>exact⟨_,a₁,w₁,hq,.pass (x:=.inLoop c) rfl (fun _ _=>.inl (by simp)) harr⟩
   |outgrown=>exact⟨_,a₁,w₁,hq,.pass (x:=.inLoop c) rfl (fun _ _=>.inl (by simp)) harr⟩
 obtain⟨e,a',w',hq,harr⟩:=key _ _ _ _ hm h0;exact⟨e,a',w',hq,.of_steps (.one step_loop) harr⟩
theorem ANp{α:Type}[Enc α][Flat α](x:α):(fv x).cells=(Flat.enc x).toArray:=Enc.cells (ok:=fun _=>True) (w:=default) (Flat.iff.2 rfl)
theorem rangeB{α:Type}[Enc α][Flat α]{g:Operand}{p d id T bytes k':Nat}{agg:Bool}{z:List Value}{body:Code}{xs:List α}{Kp:World->World->Prop}{v:Value}{pos pos':String}{ty ty':TypeId}{af af':Array Edge}{m:Nat}(hm:8<=m)(hg:ev n L g=v)(hKp:KpOk w.heap.size Kp)(hs:∃gf cs,v=.func (.func gf) #[] cs/\Ad P gf/\AB6 P Kp (m-1) gf cs (xs.map fun x=>#[fv x]) w)(hp:Nat.blt p n=true)(hd:Nat.blt d n=true)(hpd:Nat.beq p d=false)
  (hT:TI P T agg k' bytes z) (hk':k'=Enc.n α)
  (I:Nat->World->Prop) (Ix:Code->World->Prop) (hI:∀k,Okb w.heap.size (I k)) (hIx:∀c,Okb w.heap.size (Ix c)) (h0:I 0 w)
  (hround:∀(l k:Nat)(x:α)(A W:World)(b:Nat),xs[k]?=some x->I k A->Asg w.heap.size A W->A.heap.size<=b->w.heap.size<=b->Bx W b T (Flat.enc x)->
   body.wpIn (RF l) (m-2) P (AO0 w.heap.size Kp (I (k+1)) Ix W) (act n (vG (vG L p (fv x)) d (.pointer (some ⟨b,0,none⟩))) []) W)
  (hsz:∀k A,I k A->w.heap.size<=A.heap.size)
  (hdone:∀D' W,w.heap.size<=D'->I xs.length W->W.heap[D']?=some (.deferred (some []))->Q .normal (act n L ({target:=.collected D',args:=#[]}::D)) W)
  (hstop:∀D' c W,w.heap.size<=D'->Ix c W->W.heap[D']?=some (.deferred (some []))->c.wp P Q (act n L ({target:=.collected D',args:=#[]}::D)) W):
  (Code.rangeFunc g #[p] (.region id #[{dst:=some d,op:=.alloc T,type:=ty,pos:=pos,after:=af,guard:=none},{dst:=none,op:=.store T (.tmp d) (.tmp p),type:=ty',pos:=pos',after:=af',guard:=none}] false) body).wp P Q (act n L D) w:=by
 obtain⟨gf,cs,rfl,hc,hs⟩:=hs;refine AQX (m:=m) (ps:=[p]) (by omega) hKp hg hc hs (fun u hu=>by obtain⟨x,_,rfl⟩:=List.mem_map.1 hu;rfl) I Ix hI hIx h0 (fun l k u A K hl hu hi hK=>?_) (fun D' W h1 h2 h3=>hdone D' W h1 (by rwa [List.length_map]at h2) h3) hstop;rw[List.getElem?_map]at hu;obtain⟨x,hx,rfl⟩:=Option.map_eq_some_iff.1 hu;have hzl:=hT.zlen;refine rgR rfl<|yY hT fun b w1 hx1 hg1 hb1=>?_;have e1:ev n (vG (vG L p (fv x)) d (.pointer (some ⟨b,0,none⟩))) (.tmp d)=.pointer (some ⟨b,0,none⟩):=by simp[ev,hd,vG]
 have e2:ev n (vG (vG L p (fv x)) d (.pointer (some ⟨b,0,none⟩))) (.tmp p)=fv x:=by
  simp only[ev,hp,vG,cond_true,hpd,cond_false];simp
 refine xk e1 e2 (ANp x) hT hb1 (by rw[Flat.len,hk']) (List.all_eq_true.2 (Flat.one x)) (by rw[Flat.len,<-hk',hzl];omega) fun w2 hch hb2=>nl<|hK _ w2 (hx1.chg hch hg1) fun W2 o ho hc2 hnd hc3=>?_;have hb3:Bx w2 b T (Flat.enc x):=by
  have:iW z 0 (Flat.enc x)=Flat.enc x:=by simp[iW,Flat.len,<-hk',<-hzl]
  rwa [this]at hb2
 exact hround l k x A W2 b hx hi ⟨w2,l,o,by omega,hx1.chg hch hg1,ho,hc2,hnd,hc3⟩ hg1 (Nat.le_trans (hsz k A hi) hg1) (hb3.putne ho hc2 hc3)
theorem SeqV.go{a t m:Nat}{v:Value}{us:List (Array Value)}(hm:8<=m)(h:SeqV P a t w v us):∃gf cs,v=.func (.func gf) #[] cs/\Ad P gf/\AB6 P (BelI a t w.heap.size) (m-1) gf cs us w:=by
 obtain⟨g,cs,e,hc,h⟩:=h;exact⟨g,cs,e,hc,h _ _ (by omega) BelI.refl⟩
theorem SeqS.go{a t m:Nat}{v:Value}{us:List (Array Value)}(hm:8<=m)(h:SeqS P a t w v us):∃gf cs,v=.func (.func gf) #[] cs/\Ad P gf/\AB6 P (KeepC a t) (m-1) gf cs us w:=by
 obtain⟨g,cs,e,hc,h⟩:=h;exact⟨g,cs,e,hc,h _ _ (by omega) KeepC.refl⟩
theorem AGI{α:Type}{xs:List α}{k:Nat}{x:α}(h:xs[k]?=some x):xs.drop k=x::xs.drop (k+1):=by
 obtain⟨hk,rfl⟩:=List.getElem?_eq_some_iff.1 h;exact List.drop_eq_getElem_cons hk
theorem Bx.isc{b:Nat}{T:TypeId}{cs:List Value}{w:World}(h:Bx w b T cs):∃o:Obj,w.heap[b]?=some o/\o.isCells=true:=⟨_,h,rfl⟩
def Out(t N:Nat)(v:Value):Prop:=∀q,v.ownBlock=some q->q<t\/N<=q
theorem Out.old{α:Type}[Enc α][Flat α]{e:TypeId}{base t N:Nat}{w:World}{v:Value}{l:List α}(h:Row e base w v l)(ht:w.heap.size<=t):Out t N v:=fun q hq=>.inl (by have:=h.lt q hq;omega)
theorem Out.new{α:Type}[Enc α][Flat α]{e:TypeId}{base t N:Nat}{w:World}{v:Value}{l:List α}(h:Row e base w v l)(hN:N<=base):Out t N v:=fun q hq=>.inr (by have:=h.lt q hq;omega)
theorem Out.nil{t N:Nat}:Out t N (.slice none 0 0):=fun _ h=>by cases h
theorem Out.app{t N:Nat}{w:World}{v v':Value}(h:Out t N v)(ho:v'.ownBlock=v.ownBlock\/∃g,v'.ownBlock=some g/\w.heap.size<=g)(hN:N<=w.heap.size):Out t N v':=fun q hq=>by
 rcases ho with e|⟨g,e,hg⟩
 ·exact h q (e▸hq)
 ·rw[e]at hq
  cases hq;exact .inr (by omega)
end
end Go.Md
namespace Go
open Go.RowKit Go.Md
variable {B:Nat}
theorem KeepsFrom.ext{w0 w1 w2:World}(h:KeepsFrom B w0 w1)(k:Ext w1 w2):KeepsFrom B w0 w2:=h.trans k.kf
theorem KeepsFrom.chgc{b:Nat}{w0 w1 w2:World}(h:KeepsFrom B w0 w1)(k:Chg b w1 w2)(hc:b<B\/∃o:Obj,w1.heap[b]?=some o/\o.isCells=true):KeepsFrom B w0 w2:=
 h.trans ⟨by rw[k.size];exact Nat.le_refl _,fun q o hB hq hoc=>(k.other q fun e=>by
  subst e;rcases hc with hc|⟨o',h1,h2⟩
  ·omega
  ·rw[hq]at h1
   cases h1;rw[hoc]at h2;cases h2).trans hq⟩
theorem KeepsFrom.grc{row:Option Nat}{w0 w1 w2:World}(h:KeepsFrom B w0 w1)(k:w1.grownBy w2 row)(hc:∀b,row=some b->∃o:Obj,w1.heap[b]?=some o/\o.isCells=true):KeepsFrom B w0 w2:=
 h.trans ⟨k.size,fun q o _ hq hoc=>(k.block q (Array.getElem?_eq_some_iff.1 hq).1 fun e=>by
  obtain⟨o',h1,h2⟩:=hc q e.symm;rw[hq]at h1;cases h1;rw[hoc]at h2;cases h2).trans hq⟩
end Go
namespace Go.Md
open Go Go.RowKit
section
variable {P:Program}{Q:Exit->Act->World->Prop}{m n:Nat}{L:Fr}{D:List Deferred}{w:World}{ops:Array Oper}{rest:List Oper}
theorem xq{o:Oper}{j:Nat}{b:Bool}{oj:Oper}{t:Nat}{v:Value}(hg:o.guard=some (j,b))(hj:ops[j]?=some oj)(hd:oj.dst=some t)(ht:Nat.blt t n=true)
  (hv:L t=v) (hb:v=.bool b) (h:wpListIn Fence.wide m P ops Q ({o with guard:=none}::rest) (act n L D) w):wpListIn Fence.wide m P ops Q (o::rest) (act n L D) w:=by
 have hw:Region.wanted o (yielded ops (act n L D).tmps)=true:=by
  simp[Region.wanted,hg,yielded,hj,hd,AAP n L D t ht,hv,hb]
 unfold wpListIn at h⊢;rw[if_pos hw];rw[if_pos (by simp[Region.wanted])]at h;exact h
theorem gfW{o:Oper}{j:Nat}{b:Bool}{oj:Oper}{t d:Nat}{v:Value}(hg:o.guard=some (j,b))(hj:ops[j]?=some oj)(hd:oj.dst=some t)(ht:Nat.blt t n=true)
  (hv:L t=v) (hb:v≠.bool b) (hdd:o.dst=some d) (h:wpListIn Fence.wide m P ops Q rest (act n (vG L d undef) D) w):wpListIn Fence.wide m P ops Q (o::rest) (act n L D) w:=by
 have hw:Region.wanted o (yielded ops (act n L D).tmps)=false:=by
  simp only[Region.wanted,hg,yielded,hj,hd,AU,AAP n L D t ht,hv];cases v<;>simp;rename_i c;intro e;exact hb (by rw[e])
 unfold wpListIn;rw[if_neg (by simp[hw]),hdd,yS];exact⟨fun _ _=>trivial,h⟩
theorem clW{o:Oper}{d:Nat}{g:FuncId}{args:Array Value}{R:Value->World->Prop}(hg:o.guard=none)(hd:o.dst=some d)(hdf:∀c,o.op≠.defer c)
  (h:(execOp (ev n L) o).run P w=.ok (.enter g args) w) (hc:Calls P g args w (IA R))
  (k:∀v w',R v w'->wpListIn Fence.wide m P ops Q rest (act n (vG L d v) D) w'):wpListIn Fence.wide m P ops Q (o::rest) (act n L D) w:=by
 refine wpListIn_plain hg fun K hK=>?_;unfold Oper.wpIn;refine⟨fun _ _=>trivial,?_⟩;rw[Oper.semAt_eq _ _ _ hdf];simp only[AAW,h,Oper.uponIn];refine⟨fun h=>by simp[Fence.wide]at h,(callsIn_wide.2 hc).mono fun e w' he=>?_⟩;obtain⟨v,rfl,hr⟩:=he;simp only[hd,yS];exact hK _ _ (k v w' hr)
end
end Go.Md
namespace Go.Md
open Go Go.RowKit
def Apart(v1 v2:Value):Prop:=∀q,v1.ownBlock=some q->v2.ownBlock≠some q
section
variable {w w' wb:World}{v v' v1 v2:Value}
theorem Apart.symm(h:Apart v1 v2):Apart v2 v1:=fun q h2 h1=>h q h1 h2
theorem Apart.nil1:Apart (.slice none 0 0) v2:=fun q h=>by cases h
theorem Apart.nil2:Apart v1 (.slice none 0 0):=fun q _ h=>by cases h
theorem Apart.old{α β:Type}[Enc α][Flat α][Enc β][Flat β]{e1 e2:TypeId}{b1:Nat}{l1:List α}{l2:List β}(h1:Row e1 b1 wb v1 l1)(h2:Row e2 wb.heap.size w v2 l2):Apart v1 v2:=fun q a b=>by
 have:=h1.lt q a;have:=h2.lt q b;omega
theorem Apart.app(ho:v'.ownBlock=v.ownBlock\/∃g,v'.ownBlock=some g/\w.heap.size<=g)(h:Apart v v2)(h2:∀q,v2.ownBlock=some q->q<w.heap.size):Apart v' v2:=fun q a b=>by
 rcases ho with e|⟨g,e,hg⟩
 ·exact h q (e▸a) b
 ·rw[e]at a
  cases a;have:=h2 _ b;omega
theorem Row.gra{α:Type}[Enc α][Flat α]{e:TypeId}{base:Nat}{l:List α}(h:Row e base w v2 l)(g:w.grownBy w' v.ownBlock)(ha:Apart v v2):Row e base w' v2 l:=h.grn g fun q hq e=>ha q e hq
end
end Go.Md
end
section
namespace Go.Md
open Go Go.RowKit
section
def mks{α:Type}(bytes:Nat)(c:Int)(z:α):Option (List α):=if 0<=c/\c.toNat*bytes<=140737488355328 then some (List.replicate c.toNat z)else none
def ADY{α:Type}(l k:List α):List α:=k.take l.length++l.drop k.length
theorem ADB{α:Type}(l k:List α):(ADY l k).length=l.length:=by
 simp only[ADY,List.length_append,List.length_take,List.length_drop];omega
theorem ANq{α:Type}[Enc α][Flat α](hm:1<=Enc.n α)(z:α)(c:Nat):(madeCells (Flat.enc z).toArray (c*Enc.n α)).toList=(List.replicate c z).flatMap Flat.enc:=by
 have hl:=Flat.len z;apply List.ext_getElem?;intro j;have hlen:((List.replicate c z).flatMap Flat.enc).length=c*Enc.n α:=by rw[Flat.flen,List.length_replicate]
 by_cases hj:j<c*Enc.n α
 ·have h1:(madeCells (Flat.enc z).toArray (c*Enc.n α)).toList[j]?=some ((Flat.enc z).toArray[j % (Flat.enc z).toArray.size]!):=by
   simp[madeCells,hj]
  have hq:j/Enc.n α<c:=Nat.div_lt_of_lt_mul (by rwa [Nat.mul_comm]at hj);have hr:j % Enc.n α<(Flat.enc z).length:=by rw[hl];exact Nat.mod_lt _ hm
  have h2:=AEj (List.replicate c z) (j/Enc.n α) z (j % Enc.n α) (Flat.enc z)[j % Enc.n α] (by rw[List.getElem?_replicate,if_pos hq]) (List.getElem?_eq_getElem hr);rw[show j/Enc.n α*Enc.n α+j % Enc.n α=j by rw[Nat.mul_comm];exact Nat.div_add_mod j _]at h2;rw[h1,h2];simp only[List.size_toArray,hl];rw[getElem!_pos _ _ (by simpa using hr)];simp
 ·rw[List.getElem?_eq_none (by simp[madeCells];omega),List.getElem?_eq_none (by omega)]
theorem AIC{α:Type}[Enc α][Flat α]:∀(q:List α)(j:Nat),(q.flatMap Flat.enc).drop (j*Enc.n α)=(q.drop j).flatMap Flat.enc
 |[],j=>by simp
 |a::q,0=>by simp
 |a::q,j+1=>by
  rw[List.flatMap_cons,List.drop_succ_cons,List.drop_append,List.drop_of_length_le (by rw[Flat.len,Nat.add_mul];omega),Flat.len,<-AIC q j,List.nil_append]
  congr 1
  rw[Nat.add_mul];omega
section
variable {P:Program}{Q:Exit->Act->World->Prop}{n:Nat}{L:Fr}{D:List Deferred}{w:World}{ops:Array Oper}{rest:List Oper}
variable {ty:TypeId}{pos:String}{af:Array Edge}{dst:Option Nat}{gdd:Option (Nat×Bool)}{x y z:Operand}
variable {α:Type}[Enc α][Flat α]
theorem AGf{d:Nat}{t e:TypeId}{agg:Bool}{bytes:Nat}{zc:List Value}{kl kc:IntKind}{c:Int}{z0:α}{r:List α}(hx:ev n L x=.int kl c)(hy:ev n L y=.int kc c)(ht:P.underlying t=some (.slice e))(he:TI P e agg (Enc.n α) bytes zc)
  (hz:zc=Flat.enc z0) (hm:Nat.ble 1 (Enc.n α)=true) (hb1:Nat.ble 1 bytes=true) (hr:mks bytes c z0=some r)
  (k:∀b w',Ext w w'->Row e w.heap.size w' (.slice (some ⟨b,0,none⟩) r.length r.length) r->wpList P ops Q rest (act n (vG L d (.slice (some ⟨b,0,none⟩) r.length r.length)) D) w'):
  wpList P ops Q ({dst:=some d,op:=.makeSlice t x y,type:=ty,pos:=pos,after:=af,guard:=none}::rest) (act n L D) w:=by
 subst hz;unfold mks at hr;split at hr
 case isFalse=>cases hr
 rename_i hc;cases hr;obtain⟨h0,hb⟩:=hc;have hm':1<=Enc.n α:=Nat.le_of_ble_eq_true hm;have hb1':1<=bytes:=Nat.le_of_ble_eq_true hb1;obtain⟨i,zv,hi,hn,hby,hzz,hzc,_⟩:=he.info;obtain⟨C,rfl⟩:∃C:Nat,c=(C:Int):=⟨c.toNat,by omega⟩;simp only[Int.toNat_natCast]at hb k⊢;have hC:C<=C*bytes:=Nat.le_mul_of_pos_right _ hb1';have hmx:C<=maxLen:=by unfold maxLen;omega
 have hrun:=run_make (P:=P) w t e i zv ht hi hzz kl kc (C:Int) (C:Int) (by omega) (Int.le_refl _) (by rw[hby,<-Int.natCast_mul,Nat.mul_comm];omega) (by omega);simp only[Int.toNat_natCast,hzc,hn]at hrun;have hlen:(List.replicate C z0).length=C:=List.length_replicate;rw[hlen]at k;refine Zv (v:=.slice (some ⟨w.heap.size,0,none⟩) C C) (w':=w.alloc (.cells (madeCells (Flat.enc z0).toArray (C*Enc.n α)) e)) (by simp[execOp,hx,hy,hrun]) (k _ _ (Ext.alloc _ _) ?_);refine Row.lit (Nat.le_refl _) ?_ hlen hmx;have h1:=Bx.new w e ((List.replicate C z0).flatMap Flat.enc);rw[show madeCells (Flat.enc z0).toArray (C*Enc.n α)=((List.replicate C z0).flatMap Flat.enc).toArray by rw[<-ANq hm']];exact h1
theorem AIi(w:World)(dT sT ty elem:TypeId)(g dLen dCap:Nat)(a:Addr)(sLen sCap:Nat)(cur:Array Value)(t:TypeId)(cs:List Value)(sz:Nat)
  (hu:P.underlying dT=some (.slice elem)) (hs:(P.info? elem).map (·.size)=some sz)
  (hg:w.heap[g]?=some (.cells cur t (0,0))) (hn:cs.length=Nat.min sLen dLen*sz)
  (hsrc:∀j v,cs[j]?=some v->w.cell? (a.add j)=some v) (hfit:cs.length<=cur.size) (h1:∀v∈cs,v.oneCell'=true):
  (Builtin.copy_ #[dT,sT] ty #[.slice (some ⟨g,0,none⟩) dLen dCap,.slice (some a) sLen sCap]).run P w=
   .ok (goInt (Nat.min sLen dLen)) (w.setRow g (cs++cur.toList.drop cs.length).toArray):=by
 have hl:=run_loadCells_list (P:=P) w a cs hsrc;have hst:=run_storeCells_at P g 0 t cs 0 cur w hg (by simpa using hfit) h1;simp only[List.take_zero,List.nil_append,Nat.zero_add,Nat.add_zero]at hst;cases hq:P.info? elem with
 |none=>simp[hq]at hs
 |some i=>
  have hi:i.size=sz:=by simpa[hq]using hs
  simp[Builtin.copy_,run_underlying hu,Builtin.lenOf,Builtin.firstCells,sizeOf,typeInfo,hq,hi,<-hn,hl,hst]
theorem ATl{d:Nat}{dT sT e:TypeId}{agg:Bool}{bytes base len cap cap2 b:Nat}{zz:List Value}{a:Option Addr}{l k:List α}(hs:ev n L x=.slice (some ⟨b,0,none⟩) len cap)(hy:ev n L y=.slice a k.length cap2)
  (ht:P.underlying dT=some (.slice e)) (he:TI P e agg (Enc.n α) bytes zz) (hr:Row e base w (.slice (some ⟨b,0,none⟩) len cap) l) (hk:RV w (.slice a k.length cap2) k)
  (cont:∀w' c,Chg b w w'->Row e base w' (.slice (some ⟨b,0,none⟩) len cap) (ADY l k)->wpList P ops Q rest (act n (vG L d (.int .i64 c)) D) w'):
  wpList P ops Q ({dst:=some d,op:=.call {callee:=.builtin .copy,args:=#[x,y],argTypes:=#[dT,sT]},type:=ty,pos:=pos,after:=af,guard:=none}::rest) (act n L D) w:=by
 obtain⟨i,v,hi,hn,_⟩:=he.info;obtain⟨hsz,hcase⟩:=hr;have hlen:len=l.length:=by
  obtain⟨_,_,e1,_⟩:=(show RV w _ l from Row.rv ⟨hsz,hcase⟩).sl;cases e1
  rfl
 subst hlen;rcases hcase with⟨h,_⟩|⟨g,cap',cur,e1,hb,hg,hnc,hcm,hcs,htk⟩
 ·cases h
 cases e1;rcases hk.els with rfl|⟨b2,off2,rfl,_,_,h2⟩
 ·have hrun:(Builtin.copy_ #[dT,sT] ty #[.slice (some ⟨b,0,none⟩) l.length cap,.slice a 0 cap2]).run P w=.ok (goInt 0) w:=by
   cases a<;>simp[Builtin.copy_,run_underlying ht,Builtin.lenOf,Builtin.firstCells,sizeOf,typeInfo,hi,storeCells,loadCells,loadCellsFrom]
  refine Zv (v:=.int .i64 0) (w':=w) (by simp[execOp,resolve,invoke,Go.builtin,hs,hy,hrun,goInt]) (cont w 0 ⟨rfl,rfl,rfl,rfl,fun _ _=>rfl⟩ ?_);have:ADY l ([]:List α)=l:=by simp[ADY]
  rw[this];exact⟨hsz,.inr ⟨b,cap,cur,rfl,hb,hg,hnc,hcm,hcs,htk⟩⟩
 ·have hsrc:∀j u,((k.take l.length).flatMap Flat.enc)[j]?=some u->w.cell? ((⟨b2,off2,none⟩:Addr).add j)=some u:=by
   intro j u hj;rw[AAq];have:=AHi (w:=w) (b:=b2) (off:=off2) (k.take l.length) 0 (fun i x hx=>by
    rw[List.getElem?_take]at hx;split at hx
    ·obtain⟨cs,h3,h4⟩:=h2 i x hx
     rw[Flat.iff.1 h3]at h4;simpa using h4
    ·cases hx) j u hj
   simpa using this
  have hone:∀u∈(k.take l.length).flatMap Flat.enc,u.oneCell'=true:=fun u hu=>by obtain⟨y,_,hy⟩:=List.mem_flatMap.1 hu;exact Flat.one y u hy
  have hlen2:((k.take l.length).flatMap Flat.enc).length=Nat.min k.length l.length*Enc.n α:=by rw[Flat.flen,List.length_take,Nat.min_comm]
  have hfit:((k.take l.length).flatMap Flat.enc).length<=cur.size:=by
   rw[hlen2,hcs];exact Nat.mul_le_mul_right _ (Nat.le_trans (Nat.min_le_right _ _) hnc)
  have hrun:=AIi (P:=P) w dT sT ty e b l.length cap ⟨b2,off2,none⟩ k.length cap2 cur e ((k.take l.length).flatMap Flat.enc) (Enc.n α) ht (by simp[hi,hn]) hg hlen2 hsrc hfit hone;refine Zv (v:=goInt (Nat.min k.length l.length)) (w':=w.setRow b ((k.take l.length).flatMap Flat.enc++cur.toList.drop ((k.take l.length).flatMap Flat.enc).length).toArray) (by simp only[execOp,resolve,invoke,Go.builtin,List.map_toArray,List.map_cons,List.map_nil,hs,hy,Sem.run_bind,Sem.run_pure,hrun,Result.andThen]) (cont _ _ ⟨rfl,rfl,rfl,by simp,fun k hk=>setRow_other _ _ _ _ hk⟩ ?_);have hset:=setRow_heap w b cur ((k.take l.length).flatMap Flat.enc++cur.toList.drop ((k.take l.length).flatMap Flat.enc).length).toArray e _ hg;refine⟨by rw[ADB];exact Flat.flen _|>.trans (by rw[ADB]),.inr ⟨b,cap,_,by rw[ADB],hb,hset,by rw[ADB];exact hnc,hcm,?_,?_⟩⟩
  ·simp only[List.size_toArray,List.length_append,List.length_drop,Array.length_toList]
   omega
  ·rw[ADB]
   simp only[List.toList_toArray];rw[List.take_append,List.take_of_length_le (by rw[hlen2];exact Nat.mul_le_mul_right _ (Nat.min_le_right _ _)),ADY,List.flatMap_append]
   congr 1
   have e1:((k.take l.length).flatMap Flat.enc).length=min l.length k.length*Enc.n α:=by rw[Flat.flen,List.length_take]
   have e2:cur.toList.take (l.length*Enc.n α)=l.flatMap Flat.enc:=htk;rw[e1,<-List.drop_take,e2,AIC]
   congr 1
   rcases Nat.le_total k.length l.length with h|h
   ·rw[Nat.min_eq_right h]
   ·rw[Nat.min_eq_left h,List.drop_of_length_le (Nat.le_refl _),List.drop_of_length_le h]
end
end
end Go.Md
end
section
namespace Go.Md
open Go Go.RowKit
structure Cl(n:Nat)where
 l:List Value
 h:l.length=n
 one:∀c∈l,c.oneCell'=true
instance {n:Nat}:Enc (Cl n)where
 agg:=true
 n:=n
 rep _ _ cs x:=cs=x.l
 len {_ _ _ x} h:=by subst h;exact x.h
 one {_ _ _ x} h:=by subst h;exact x.one
 sgl h:=by cases h
 keep _ _ h:=h
 mono _ h:=h
instance {n:Nat}:Flat (Cl n):=⟨fun x=>x.l,Iff.rfl⟩
def Okd(lo base:Nat)(v:Value)(b:Nat):Prop:=(b<lo\/base<=b)/\some b≠v.ownBlock
def DRow{α:Type}[Enc α](lo:Nat)(e:TypeId)(base:Nat)(w:World)(v:Value)(l:List α):Prop:=
 ∃S:List (Cl (Enc.n α)),Row (α:=Cl (Enc.n α)) e base w v S/\S.length=l.length/\∀(i:Nat)(s:Cl (Enc.n α))(x:α),S[i]?=some s->l[i]?=some x->Enc.rep (Okd lo base v) w s.l x
def ElsD{α:Type}[Enc α](ok:Nat->Prop)(w:World)(a:Option Addr)(k:List α):Prop:=
 k=[]\/∃b off,a=some ⟨b,off,none⟩/\∀(i:Nat)(x:α),k[i]?=some x->∃cs,Enc.rep ok w cs x/\Cs w b (off+i*Enc.n α) cs
section
variable {α:Type}[Enc α]{lo base:Nat}{e:TypeId}{w w':World}{v v2:Value}{l k:List α}
theorem DRow.nil:DRow lo e base w (.slice none 0 0) ([]:List α):=⟨[],Row.nil,rfl,by simp⟩
theorem DRow.ext(h:DRow lo e base w v l)(k:Ext w w'):DRow lo e base w' v l:=by
 obtain⟨S,h1,h2,h3⟩:=h;exact⟨S,h1.ext k,h2,fun i s x a b=>Enc.keep (fun q _ hq=>k.block q hq) k.size (h3 i s x a b)⟩
theorem DRow.lt(h:DRow lo e base w v l):∀q,v.ownBlock=some q->base<=q/\q<w.heap.size:=by
 obtain⟨S,h1,_⟩:=h;exact fun q hq=>h1.lt q hq
theorem DRow.own_lt(h:DRow lo e base w v l):∀q,v.ownBlock=some q->q<w.heap.size:=fun q hq=>(h.lt q hq).2
theorem DRow.sl(h:DRow lo e base w v l):∃a cap,v=.slice a l.length cap:=by
 obtain⟨S,h1,h2,_⟩:=h;obtain⟨a,cap,e1,_⟩:=RV.sl h1.rv;exact⟨a,cap,by rw[e1,h2]⟩
theorem DRow.rv(h:DRow lo e base w v l):RV w v l:=by
 obtain⟨S,h1,h2,h3⟩:=h;obtain⟨a,cap,rfl,c1,c2,c3⟩:=RV.sl h1.rv;rw[h2];refine RV.of1 (by rw[<-h2];exact c1) c2 ?_;rcases c3 with rfl|⟨b,off,e1,hb,hlt,c3⟩
 ·left
  simp at h2;exact List.eq_nil_of_length_eq_zero h2.symm
 ·refine .inr ⟨b,off,e1,hb,hlt,fun i x hx=>?_⟩
  have hi:i<S.length:=by rw[h2];exact(List.getElem?_eq_some_iff.1 hx).1
  have hs:S[i]?=some S[i]:=List.getElem?_eq_getElem hi;obtain⟨cs,c4,c5⟩:=c3 i _ hs;have c4':cs=S[i].l:=c4;subst c4';exact⟨_,Enc.mono (fun _ _ _=>trivial) (h3 i _ x hs hx),c5⟩
theorem DRow.bnd{B:Nat}(h:DRow lo e base w v l)(hB:B<=base):DRow lo e B w v l:=by
 obtain⟨S,h1,h2,h3⟩:=h;refine⟨S,h1.bnd hB,h2,fun i s x a b=>Enc.mono (fun q _ hq=>⟨?_,hq.2⟩) (h3 i s x a b)⟩;have:=hq.1;omega
theorem DRow.chgo{b:Nat}(h:DRow lo e base w v l)(c:Chg b w w')(h1:lo<=b)(h2:b<base):DRow lo e base w' v l:=by
 obtain⟨S,g1,g2,g3⟩:=h;refine⟨S,g1.chg c h2,g2,fun i s x a d=>Enc.keep (fun q hq _=>c.other q fun e1=>?_) (by rw[c.size];exact Nat.le_refl _) (g3 i s x a d)⟩;have:=hq.1;omega
theorem RVo.rep1{β:Type}[Enc β]{ok:Nat->Prop}{c:Value}{y:List β}(h:RVo ok w c y):Enc.rep ok w [c] y:=by
 obtain⟨a,cap,rfl,h1,h2,h3⟩:=RVo.sl.1 h;exact⟨a,cap,rfl,h1,h2,h3⟩
theorem ElsD.of{ok:Nat->Prop}{a:Option Addr}{cap:Nat}(h:RVo ok w (.slice a k.length cap) k):ElsD ok w a k:=by
 obtain⟨a',cap',e1,_,_,h3⟩:=RVo.sl.1 h;cases e1;rcases h3 with h3|⟨b,off,e1,_,_,h3⟩
 ·exact .inl h3
 ·exact .inr ⟨b,off,e1,h3⟩
end
section
variable {P:Program}{Q:Exit->Act->World->Prop}{n:Nat}{L:Fr}{D:List Deferred}{w:World}{ops:Array Oper}{rest:List Oper}
variable {ty:TypeId}{pos:String}{af:Array Edge}{x y:Operand}
variable {α:Type}[Enc α]
theorem DRow.gra{lo base:Nat}{e:TypeId}{w w':World}{v v2:Value}{l:List α}(h:DRow lo e base w v2 l)(g:w.grownBy w' v.ownBlock)(ha:Apart v v2)(h1:∀q,v.ownBlock=some q->lo<=q/\q<base):DRow lo e base w' v2 l:=by
 obtain⟨S,g1,g2,g3⟩:=h;refine⟨S,g1.gra g ha,g2,fun i s x a d=>Enc.keep (fun q hq hlt=>g.block q hlt fun e1=>?_) g.size (g3 i s x a d)⟩;have:=h1 q e1.symm;have:=hq.1;omega
end
end Go.Md
namespace Go.Md
open Go Go.RowKit
theorem Apart.old'{N:Nat}{v1 v2:Value}(h1:∀q,v1.ownBlock=some q->q<N)(h2:∀q,v2.ownBlock=some q->N<=q):Apart v1 v2:=fun q a b=>by
 have:=h1 q a;have:=h2 q b;omega
end Go.Md
namespace Go.Md
open Go Go.RowKit
end Go.Md
namespace Go
theorem World.grownBy.tr{w w1 w2:World}{row:Option Nat}(h:w.grownBy w1 row)(k:w1.grownBy w2 row):w.grownBy w2 row:=
 ⟨k.os.trans h.os,k.tape.trans h.tape,k.output.trans h.output,Nat.le_trans h.size k.size,fun q hq hn=>(k.block q (Nat.lt_of_lt_of_le hq h.size) hn).trans (h.block q hq hn)⟩
end Go
namespace Go.Md
open Go Go.RowKit
theorem Ext.gro{w w1:World}{row:Option Nat}(k:Ext w w1):w.grownBy w1 row:=⟨k.os,k.tape,k.output,k.size,fun q hq _=>k.block q hq⟩
theorem Cs.gro{w w':World}{b o:Nat}{cs:List Value}{row:Option Nat}(h:Cs w b o cs)(g:w.grownBy w' row)(ne:some b≠row):Cs w' b o cs:=fun j c hc=>by
 have h1:=h j c hc;have hlt:=World.block_lt_of_cell? w _ h1;exact(World.cell?_of_block (a:=⟨b,o+j,none⟩) (g.block b hlt ne)).trans h1
end Go.Md
namespace Go.Md
open Go Go.RowKit
section
variable {α:Type}[Enc α]{lo base b:Nat}{e:TypeId}{w:World}{v:Value}{l:List α}
theorem DRow.ne_new(h:DRow lo e base w v l)(hb:w.heap.size<=b):some b≠v.ownBlock:=fun e2=>by
 have:=h.lt b e2.symm;omega
theorem DRow.ne_old(h:DRow lo e base w v l)(hb:b<base):some b≠v.ownBlock:=fun e2=>by
 have:=h.lt b e2.symm;omega
end
end Go.Md
namespace Go.Md
open Go Go.RowKit
theorem Chg.gro{b:Nat}{w w':World}(k:Chg b w w'):w.grownBy w' (some b):=⟨k.os,k.tape,k.output,by rw[k.size];exact Nat.le_refl _,fun q _ hq=>k.other q fun e=>hq (by rw[e])⟩
end Go.Md
namespace Go.Md
open Go Go.RowKit
end Go.Md
end
section
namespace Go.Md
open Go Go.RowKit
section
section
variable {κ ν:Type}[DecidableEq κ][Enc κ][Flat κ][Key κ][Enc ν][Flat ν]{P:Program}{w w':World}{b:Nat}{l:List (κ×ν)}
theorem TI.zv{α:Type}[Enc α][Flat α]{t:TypeId}{agg:Bool}{n bytes:Nat}{z:List Value}{d:α}(ht:TI P t agg n bytes z)(ha:agg=Enc.agg α)(hz:z=Flat.enc d)(w:World):(zeroValue t).run P w=.ok (fv d) w:=by
 obtain⟨v,h1,_,h3⟩:=ht.zero w;rw[h1,h3,ha,hz]
 rfl
omit [DecidableEq κ]in
theorem Row.ne_map{α:Type}[Enc α][Flat α]{e:TypeId}{base:Nat}{v:Value}{x:List α}(h:Row e base w v x)(hm:Mp w b l):some b≠v.ownBlock:=fun e1=>by
 obtain⟨o,h1,h2⟩:=h.cells e1.symm;obtain⟨es,c,h3,_⟩:=hm;rw[h3]at h1;cases h1;cases h2
theorem Mp.chgb{c:Nat}{T:TypeId}{cs:List Value}(h:Mp w b l)(k:Chg c w w')(hx:Bx w c T cs):Mp w' b l:=h.chg k (h.not_cells hx)
theorem Bx.chgm{c:Nat}{T:TypeId}{cs:List Value}(h:Bx w c T cs)(k:Chg b w w')(hm:Mp w b l):Bx w' c T cs:=h.chg k (Ne.symm (hm.not_cells h))
omit [DecidableEq κ]in
theorem Row.chgm{α:Type}[Enc α][Flat α]{e:TypeId}{base:Nat}{v:Value}{x:List α}(h:Row e base w v x)(k:Chg b w w')(hm:Mp w b l):Row e base w' v x:=h.chgn k (h.ne_map hm)
theorem Mp.grr{α:Type}[Enc α][Flat α]{e:TypeId}{base:Nat}{v:Value}{x:List α}(h:Mp w b l)(g:w.grownBy w' v.ownBlock)(r:Row e base w v x):Mp w' b l:=h.gr g (r.ne_map h)
end
end
end Go.Md
end
