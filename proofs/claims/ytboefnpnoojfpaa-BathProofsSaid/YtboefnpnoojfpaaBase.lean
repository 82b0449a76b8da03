/-
  The steps of a walk, one lemma an operation, over frames that are functions and worlds that are variables with facts. No condition: lemmas about the model.
-/
import Derived.Test.YtboefnpnoojfpaaPlan
import Derived.Below
import Derived.Laws.AppendOwn
import Derived.Laws.Cells
import Derived.Laws.CopyRow
import Derived.Laws.Tables
import Derived.Laws.Small
import Derived.Laws.Rows
import Derived.Laws.ByValue
import Derived.KernelRfl
import Derived.Tactics
namespace Go.Md
open Go Go.RowKit

/-! ### Frames -/
abbrev Fr := Nat → Value
def upd (L : Fr) (d : Nat) (v : Value) : Fr := fun i => bif Nat.beq i d then v else L i
def fr (l : List Value) : Fr := fun i => l.getD i undef
def act (n : Nat) (L : Fr) (D : List Deferred) : Act := ⟨Array.ofFn (n := n) fun i => L i.val, D⟩
def ev (n : Nat) (L : Fr) : Operand → Value
  | .tmp t => bif Nat.blt t n then L t else undef
  | .const v => v
  | .global g => .pointer (some ⟨g, 0, none⟩)
  | .func f => .func (.func f) #[] #[]

theorem ev_act (n : Nat) (L : Fr) (D : List Deferred) : (act n L D).eval = ev n L := by
  funext x
  cases x with
  | tmp t =>
    simp only [Act.eval, act, ev]
    by_cases h : t < n
    · have : Nat.blt t n = true := by simp [Nat.blt_eq, h]
      simp [this, Array.getD, h]
    · have : Nat.blt t n = false := by
        cases hb : Nat.blt t n with
        | false => rfl
        | true => exact absurd (Nat.blt_eq ▸ hb) h
      simp [this, Array.getD, h]
  | _ => rfl

theorem put_act (n : Nat) (L : Fr) (D : List Deferred) (d : Nat) (v : Value) : (act n L D).put (some d) v = act n (upd L d v) D := by
  simp only [Act.put, act]
  congr 1
  apply Array.ext
  · simp
  · intro i h1 h2
    simp only [Array.size_setIfInBounds, Array.size_ofFn] at h1
    simp only [Array.getElem_ofFn, upd]
    by_cases h : d = i
    · subst h; simp
    · have : Nat.beq i d = false := by rw [Bool.eq_false_iff]; simp [Nat.beq_eq]; omega
      rw [Array.getElem_setIfInBounds_ne (by simpa using h1) h, this]
      simp only [cond_false]
      rw [Array.getElem_ofFn]

theorem put_none (a : Act) (v : Value) : a.put none v = a := rfl

theorem tmps_act (n : Nat) (L : Fr) (D : List Deferred) (t : Nat) (h : Nat.blt t n = true) : (act n L D).tmps[t]? = some (L t) := by
  have h' : t < n := by simpa [Nat.blt_eq] using h
  simp [act, h']

/-! ### Code -/
section
variable {P : Program} {Q : Exit → Act → World → Prop} {n : Nat} {L : Fr} {D : List Deferred} {w : World} {ops : Array Oper} {rest : List Oper}

theorem entr {f : FuncId} {fn : Func} {c : Code} {args : List Value} {R : Ending → World → Prop} (hf : P.funcs[f]? = some fn) (hb : fn.body = some c) (hn : fn.ntmps = n)
    (hs : Nat.ble args.length n = true) (h : c.wp P (bodyPost P fn R) (act n (fr args) []) w) : Calls P f args.toArray w R := by
  refine calls_of_wp hf hb ?_
  have hs' : args.length ≤ n := by simpa [Nat.ble_eq] using hs
  have e : ({ tmps := args.toArray ++ Array.replicate (fn.ntmps - args.toArray.size) undef, defers := [] } : Act) = act n (fr args) [] := by
    unfold act
    congr 1
    apply Array.ext
    · simp [hn]; omega
    · intro i h1 h2
      simp only [Array.getElem_ofFn, fr]
      by_cases hi : i < args.length
      · rw [Array.getElem_append_left (by simpa using hi)]
        simp [hi]
      · rw [Array.getElem_append_right (by simpa using hi)]
        simp [List.getElem?_eq_none (Nat.le_of_not_lt hi)]
  rw [e]
  exact h

theorem rg {id : Nat} {l : List Oper} (h : wpList P l.toArray Q l (act n L D) w) : (Code.region id l.toArray false).wp P Q (act n L D) w := wp_region_lit h
theorem nl {a : Act} (h : Q .normal a w) : wpList P ops Q [] a w := h

theorem vl {o : Oper} {d : Nat} {v : Value} {w' : World} (hg : o.guard = none) (hd : o.dst = some d) (h : (execOp (ev n L) o).run P w = .ok (.value v) w')
    (k : wpList P ops Q rest (act n (upd L d v) D) w') : wpList P ops Q (o :: rest) (act n L D) w := by
  refine wpList_plain hg fun K hK => ?_
  simp only [Oper.wp, ev_act, h, Oper.upon, hd, put_act]
  exact hK _ _ k

theorem vn {o : Oper} {v : Value} {w' : World} (hg : o.guard = none) (hd : o.dst = none) (h : (execOp (ev n L) o).run P w = .ok (.value v) w')
    (k : wpList P ops Q rest (act n L D) w') : wpList P ops Q (o :: rest) (act n L D) w := by
  refine wpList_plain hg fun K hK => ?_
  simp only [Oper.wp, ev_act, h, Oper.upon, hd, put_none]
  exact hK _ _ k

theorem sk {o : Oper} {w' : World} (hg : o.guard = none) (hd : o.dst = none) (h : (execOp (ev n L) o).run P w = .ok .skip w')
    (k : wpList P ops Q rest (act n L D) w') : wpList P ops Q (o :: rest) (act n L D) w := by
  refine wpList_plain hg fun K hK => ?_
  simp only [Oper.wp, ev_act, h, Oper.upon, hd, put_none]
  exact hK _ _ k

/-- A function that returns a value of which R holds. -/
def Ret (R : Value → World → Prop) : Ending → World → Prop := fun e w => ∃ v, e = .returned v ∧ R v w

theorem cl {o : Oper} {d : Nat} {g : FuncId} {args : Array Value} {R : Value → World → Prop} (hg : o.guard = none) (hd : o.dst = some d)
    (h : (execOp (ev n L) o).run P w = .ok (.enter g args) w) (hc : Calls P g args w (Ret R))
    (k : ∀ v w', R v w' → wpList P ops Q rest (act n (upd L d v) D) w') : wpList P ops Q (o :: rest) (act n L D) w := by
  refine wpList_plain hg fun K hK => ?_
  simp only [Oper.wp, ev_act, h, Oper.upon, hd]
  refine hc.mono fun e w' ⟨v, he, hr⟩ => ?_
  subst he
  simp only [put_act]
  exact hK _ _ (k v w' hr)

theorem cln {o : Oper} {g : FuncId} {args : Array Value} {R : Value → World → Prop} (hg : o.guard = none) (hd : o.dst = none)
    (h : (execOp (ev n L) o).run P w = .ok (.enter g args) w) (hc : Calls P g args w (Ret R))
    (k : ∀ v w', R v w' → wpList P ops Q rest (act n L D) w') : wpList P ops Q (o :: rest) (act n L D) w := by
  refine wpList_plain hg fun K hK => ?_
  simp only [Oper.wp, ev_act, h, Oper.upon, hd]
  refine hc.mono fun e w' ⟨v, he, hr⟩ => ?_
  subst he
  simp only [put_none]
  exact hK _ _ (k v w' hr)

/-- A guarded operation that runs. -/
theorem gt {o : Oper} {j : Nat} {b : Bool} {oj : Oper} {t : Nat} (hg : o.guard = some (j, b)) (hj : ops[j]? = some oj) (hd : oj.dst = some t) (ht : Nat.blt t n = true)
    (hv : L t = .bool b) (h : wpList P ops Q ({ o with guard := none } :: rest) (act n L D) w) : wpList P ops Q (o :: rest) (act n L D) w := by
  have hw : Region.wanted o (yielded ops (act n L D).tmps) = true := by
    simp [Region.wanted, hg, yielded, hj, hd, tmps_act n L D t ht, hv]
  unfold wpList at h ⊢
  rw [if_pos hw]
  rw [if_pos (by simp [Region.wanted])] at h
  exact h

/-- A guarded operation that does not run. -/
theorem gf {o : Oper} {j : Nat} {b c : Bool} {oj : Oper} {t d : Nat} (hg : o.guard = some (j, b)) (hj : ops[j]? = some oj) (hd : oj.dst = some t) (ht : Nat.blt t n = true)
    (hv : L t = .bool c) (hbc : (!b) = c) (hdd : o.dst = some d) (h : wpList P ops Q rest (act n (upd L d undef) D) w) : wpList P ops Q (o :: rest) (act n L D) w := by
  have hw : Region.wanted o (yielded ops (act n L D).tmps) = false := by
    subst hbc
    simp [Region.wanted, hg, yielded, hj, hd, tmps_act n L D t ht, hv]
  unfold wpList
  rw [if_neg (by simp [hw]), hdd, put_act]
  exact h

theorem cnd {c : Operand} {x y : Code} {b : Bool} (hc : ev n L c = .bool b) (ht : b = true → x.wp P Q (act n L D) w) (hf : b = false → y.wp P Q (act n L D) w) :
    (Code.cond c x y).wp P Q (act n L D) w :=
  wp_cond_split (by rw [ev_act]; exact hc) ht hf

/-- What holds behind a round of a loop. -/
def Rnd (I : Nat → Fr → World → Prop) (m n : Nat) (D : List Deferred) (a : Act) (w : World) : Prop := ∃ m' L', m' < m ∧ a = act n L' D ∧ I m' L' w
/-- What holds where ways meet. -/
def Mt (R : Fr → World → Prop) (n : Nat) (D : List Deferred) (a : Act) (w : World) : Prop := ∃ L', a = act n L' D ∧ R L' w

/-- A loop, with a number that falls in every round. -/
theorem lp {c : Code} {I : Nat → Fr → World → Prop} (m : Nat) (h0 : I m L w)
    (round : ∀ m L w, I m L w → c.wp P (Exit.then (Rnd I m n D) Q) (act n L D) w) : (Code.loop c).wp P Q (act n L D) w := by
  intro b k cs
  have key : ∀ m L w, I m L w → ∃ e a' w', Q e a' w' ∧ Arrives P (lone (b.at (act n L D) (.code c :: .inLoop c :: k)) cs w) b k cs e a' w' := by
    intro m
    induction m using Nat.strongRecOn with
    | _ m ih =>
      intro L w hI
      obtain ⟨e, a₁, w₁, hq, harr⟩ := round m L w hI b (.inLoop c :: k) cs
      cases e with
      | normal =>
        obtain ⟨m', L', hlt, rfl, hI₁⟩ := hq
        obtain ⟨e₂, a₂, w₂, hq₂, harr₂⟩ := ih m' hlt L' w₁ hI₁
        exact ⟨e₂, a₂, w₂, hq₂, .of_steps (Steps.trans harr (.one step_inLoop)) harr₂⟩
      | exit id => exact ⟨_, a₁, w₁, hq, .pass (x := .inLoop c) rfl (fun _ _ => .inl (by simp)) harr⟩
      | goto l => exact ⟨_, a₁, w₁, hq, .pass (x := .inLoop c) rfl (fun _ _ => .inl (by simp)) harr⟩
      | ret => exact ⟨_, a₁, w₁, hq, .pass (x := .inLoop c) rfl (fun _ _ => .inl (by simp)) harr⟩
      | panic ch => exact ⟨_, a₁, w₁, hq, .pass (x := .inLoop c) rfl (fun _ _ => .inl (by simp)) harr⟩
      | outgrown => exact ⟨_, a₁, w₁, hq, .pass (x := .inLoop c) rfl (fun _ _ => .inl (by simp)) harr⟩
  obtain ⟨e, a', w', hq, harr⟩ := key _ _ _ h0
  exact ⟨e, a', w', hq, .of_steps (.one step_loop) harr⟩

/-- A place where ways meet: what holds there. -/
theorem ct {c : Code} (R : Fr → World → Prop) (h : c.wp P (Exit.then (Mt R n D) Q) (act n L D) w)
    (k : ∀ L' w', R L' w' → Q .normal (act n L' D) w') : c.wp P Q (act n L D) w :=
  wp_mono h fun e a w' hq => by
    cases e with
    | normal => obtain ⟨L', rfl, hr⟩ := hq; exact k L' w' hr
    | _ => exact hq

theorem ret1 {fn : Func} {R : Ending → World → Prop} {t : Nat} (hr : fn.results = #[.tmp t]) (ht : Nat.blt t n = true) (h : R (.returned (L t)) w) : bodyPost P fn R .ret (act n L []) w := by
  refine ⟨rfl, _, results_tmp hr _ _ _, ?_⟩
  have := tmps_act n L [] t ht
  simpa [Array.getD_eq_getD_getElem?, this] using h

theorem ret2 {fn : Func} {R : Ending → World → Prop} {t u : Nat} (hr : fn.results = #[.tmp t, .tmp u]) (ht : Nat.blt t n = true) (hu : Nat.blt u n = true) (h : R (.returned (.tuple #[L t, L u])) w) :
    bodyPost P fn R .ret (act n L []) w := by
  refine ⟨rfl, _, results_tmp2 hr _ _ _, ?_⟩
  have h1 := tmps_act n L [] t ht
  have h2 := tmps_act n L [] u hu
  simpa [Array.getD_eq_getD_getElem?, h1, h2] using h

theorem ret3 {fn : Func} {R : Ending → World → Prop} {t u s : Nat} (hr : fn.results = #[.tmp t, .tmp u, .tmp s]) (ht : Nat.blt t n = true) (hu : Nat.blt u n = true) (hs : Nat.blt s n = true)
    (h : R (.returned (.tuple #[L t, L u, L s])) w) : bodyPost P fn R .ret (act n L []) w := by
  have h1 := tmps_act n L [] t ht
  have h2 := tmps_act n L [] u hu
  have h3 := tmps_act n L [] s hs
  refine ⟨rfl, .tuple #[L t, L u, L s], ?_, h⟩
  simp [results, hr, Array.getD_eq_getD_getElem?, h1, h2, h3]

theorem ret4 {fn : Func} {R : Ending → World → Prop} {t u s r : Nat} (hr : fn.results = #[.tmp t, .tmp u, .tmp s, .tmp r]) (ht : Nat.blt t n = true) (hu : Nat.blt u n = true) (hs : Nat.blt s n = true) (hrr : Nat.blt r n = true)
    (h : R (.returned (.tuple #[L t, L u, L s, L r])) w) : bodyPost P fn R .ret (act n L []) w := by
  have h1 := tmps_act n L [] t ht
  have h2 := tmps_act n L [] u hu
  have h3 := tmps_act n L [] s hs
  have h4 := tmps_act n L [] r hrr
  refine ⟨rfl, .tuple #[L t, L u, L s, L r], ?_, h⟩
  simp [results, hr, Array.getD_eq_getD_getElem?, h1, h2, h3, h4]

theorem ret0 {fn : Func} {R : Ending → World → Prop} (hr : fn.results = #[]) (h : R (.returned (.tuple #[])) w) : bodyPost P fn R .ret (act n L []) w :=
  ⟨rfl, _, results_none hr _ _ _, h⟩
theorem end0 {fn : Func} {R : Ending → World → Prop} (hr : fn.results = #[]) (h : R (.returned (.tuple #[])) w) : bodyPost P fn R .normal (act n L []) w :=
  ⟨rfl, _, results_none hr _ _ _, h⟩

/-! ### Operations that leave the world alone -/
variable {ty : TypeId} {pos : String} {af : Array Edge} {dst : Option Nat} {gd : Option (Nat × Bool)} {x y z : Operand}

theorem xmv : (execOp (ev n L) { dst := dst, op := .move x, type := ty, pos := pos, after := af, guard := gd }).run P w = .ok (.value (ev n L x)) w := rfl
theorem xas : (execOp (ev n L) { dst := dst, op := .assign x, type := ty, pos := pos, after := af, guard := gd }).run P w = .ok (.value (ev n L x)) w := rfl
theorem xpk {b : Bool} (h : ev n L x = .bool b) : (execOp (ev n L) { dst := dst, op := .pick x y z, type := ty, pos := pos, after := af, guard := gd }).run P w = .ok (.value (bif b then ev n L y else ev n L z)) w := by
  cases b <;> simp [execOp, h, asBool]

section ints
variable {t t' : TypeId} {k : IntKind} {a b : Int} (hx : ev n L x = .int k a) (hy : ev n L y = .int k b)
include hx hy
theorem xadd : (execOp (ev n L) { dst := dst, op := .binOp .add t x y t', type := ty, pos := pos, after := af, guard := gd }).run P w = .ok (.value (.int k (k.wrap (a + b)))) w := by
  simp [execOp, hx, hy, eqGuard, Go.binOp, Op.intArith]
theorem xsub : (execOp (ev n L) { dst := dst, op := .binOp .sub t x y t', type := ty, pos := pos, after := af, guard := gd }).run P w = .ok (.value (.int k (k.wrap (a - b)))) w := by
  simp [execOp, hx, hy, eqGuard, Go.binOp, Op.intArith]
theorem xmul : (execOp (ev n L) { dst := dst, op := .binOp .mul t x y t', type := ty, pos := pos, after := af, guard := gd }).run P w = .ok (.value (.int k (k.wrap (a * b)))) w := by
  simp [execOp, hx, hy, eqGuard, Go.binOp, Op.intArith]
theorem xquo (hb : b ≠ 0) : (execOp (ev n L) { dst := dst, op := .binOp .quo t x y t', type := ty, pos := pos, after := af, guard := gd }).run P w = .ok (.value (.int k (k.wrap (a.tdiv b)))) w := by
  simp [execOp, hx, hy, eqGuard, Go.binOp, Op.intDiv, hb]
theorem xrem (hb : b ≠ 0) : (execOp (ev n L) { dst := dst, op := .binOp .rem t x y t', type := ty, pos := pos, after := af, guard := gd }).run P w = .ok (.value (.int k (a.tmod b))) w := by
  simp [execOp, hx, hy, eqGuard, Go.binOp, Op.intDiv, hb]
theorem xlss : (execOp (ev n L) { dst := dst, op := .binOp .lss t x y t', type := ty, pos := pos, after := af, guard := gd }).run P w = .ok (.value (.bool (decide (a < b)))) w := by
  simp [execOp, hx, hy, eqGuard, Go.binOp, Op.intCmp]
theorem xleq : (execOp (ev n L) { dst := dst, op := .binOp .leq t x y t', type := ty, pos := pos, after := af, guard := gd }).run P w = .ok (.value (.bool (decide (a ≤ b)))) w := by
  simp [execOp, hx, hy, eqGuard, Go.binOp, Op.intCmp]
theorem xgtr : (execOp (ev n L) { dst := dst, op := .binOp .gtr t x y t', type := ty, pos := pos, after := af, guard := gd }).run P w = .ok (.value (.bool (decide (b < a)))) w := by
  simp [execOp, hx, hy, eqGuard, Go.binOp, Op.intCmp]
theorem xgeq : (execOp (ev n L) { dst := dst, op := .binOp .geq t x y t', type := ty, pos := pos, after := af, guard := gd }).run P w = .ok (.value (.bool (decide (b ≤ a)))) w := by
  simp [execOp, hx, hy, eqGuard, Go.binOp, Op.intCmp]
theorem xeql : (execOp (ev n L) { dst := dst, op := .binOp .eql t x y t', type := ty, pos := pos, after := af, guard := gd }).run P w = .ok (.value (.bool (decide (a = b)))) w := by
  simp [execOp, hx, hy, eqGuard, Go.binOp, Op.intCmp]
  rfl
theorem xneq : (execOp (ev n L) { dst := dst, op := .binOp .neq t x y t', type := ty, pos := pos, after := af, guard := gd }).run P w = .ok (.value (.bool (!decide (a = b)))) w := by
  simp [execOp, hx, hy, eqGuard, Go.binOp, Op.intCmp]
  rfl
end ints

theorem xnot {t : TypeId} {b : Bool} (h : ev n L x = .bool b) : (execOp (ev n L) { dst := dst, op := .unOp .not t x, type := ty, pos := pos, after := af, guard := gd }).run P w = .ok (.value (.bool !b)) w := by
  simp [execOp, h, Op.unary]
theorem xneg {t : TypeId} {k : IntKind} {a : Int} (h : ev n L x = .int k a) : (execOp (ev n L) { dst := dst, op := .unOp .neg t x, type := ty, pos := pos, after := af, guard := gd }).run P w = .ok (.value (.int k (k.wrap (0 - a)))) w := by
  simp [execOp, h, Op.unary, Op.intArith]
theorem xcvt {s t : TypeId} {k k' : IntKind} {a : Int} {d : TypeDesc} (h : ev n L x = .int k a) (hs : P.underlying s = some d) (ht : P.underlying t = some (.int k')) :
    (execOp (ev n L) { dst := dst, op := .convert s t x, type := ty, pos := pos, after := af, guard := gd }).run P w = .ok (.value (.int k' (k'.wrap a))) w := by
  simp [execOp, h, Go.convert, run_underlying hs, run_underlying ht, Conv.intToInt]

theorem xlen {t : TypeId} {a : Option Addr} {len cap : Nat} {e : TypeId} (h : ev n L x = .slice a len cap) (ht : P.underlying t = some (.slice e)) :
    (execOp (ev n L) { dst := dst, op := .call { callee := .builtin .len, args := #[x], argTypes := #[t] }, type := ty, pos := pos, after := af, guard := gd }).run P w = .ok (.value (.int .i64 len)) w := by
  simp [execOp, resolve, invoke, Go.builtin, h, Builtin.len_, run_underlying ht, goInt]
theorem xmin {t t' : TypeId} {k : IntKind} {a b : Int} (hx : ev n L x = .int k a) (hy : ev n L y = .int k b) :
    (execOp (ev n L) { dst := dst, op := .call { callee := .builtin .min, args := #[x, y], argTypes := #[t, t'] }, type := ty, pos := pos, after := af, guard := gd }).run P w = .ok (.value (.int k (if b < a then b else a))) w := by
  simp [execOp, resolve, invoke, Go.builtin, hx, hy, Builtin.min_, Builtin.min2]
theorem xmax {t t' : TypeId} {k : IntKind} {a b : Int} (hx : ev n L x = .int k a) (hy : ev n L y = .int k b) :
    (execOp (ev n L) { dst := dst, op := .call { callee := .builtin .max, args := #[x, y], argTypes := #[t, t'] }, type := ty, pos := pos, after := af, guard := gd }).run P w = .ok (.value (.int k (if b > a then b else a))) w := by
  simp [execOp, resolve, invoke, Go.builtin, hx, hy, Builtin.max_, Builtin.max2]

theorem xext {t : Nat} {vs : List Value} {v : Value} (h : ev n L x = .tuple vs.toArray) (hv : vs[t]? = some v) :
    (execOp (ev n L) { dst := dst, op := .extract x t, type := ty, pos := pos, after := af, guard := gd }).run P w = .ok (.value v) w := by
  simp [execOp, h, Instr.extract, hv]
theorem xnil {p : Addr} (h : ev n L x = .pointer (some p)) :
    (execOp (ev n L) { dst := dst, op := .nilCheck x, type := ty, pos := pos, after := af, guard := gd }).run P w = .ok (.value (.pointer (some p))) w := by
  simp [execOp, h]
theorem xmkf {f : Fn} {fs cs : List Operand} :
    (execOp (ev n L) { dst := dst, op := .makeFunc f fs.toArray cs.toArray, type := ty, pos := pos, after := af, guard := gd }).run P w = .ok (.value (.func f (fs.map (ev n L)).toArray (cs.map (ev n L)).toArray)) w := by
  simp [execOp, Instr.makeFunc]

/-! ### Calls -/
def Callable (P : Program) (g : FuncId) : Prop := ∃ fn, P.funcs[g]? = some fn ∧ (fn.name == "runtime.NumGoroutine") = false ∧ fn.body.isNone = false

theorem run_callFunc {g : FuncId} {args : Array Value} (h : Callable P g) : (callFunc g args).run P w = .ok (.enter g args) w := by
  obtain ⟨fn, hf, hn, hb⟩ := h
  simp only [callFunc, Sem.run_bind, run_program, Result.andThen_ok, hf, hn, hb]
  rfl

theorem xcl {g : FuncId} {l : List Operand} {tys : Array TypeId} (h : Callable P g) :
    (execOp (ev n L) { dst := dst, op := .call { callee := .value (.func g), args := l.toArray, argTypes := tys }, type := ty, pos := pos, after := af, guard := gd }).run P w = .ok (.enter g (l.map (ev n L)).toArray) w := by
  simp [execOp, resolve, Deferred.ofValue, invoke, ev, run_callFunc h]

theorem xclv {g : FuncId} {l fs cs : List Value} {os : List Operand} {tys : Array TypeId} (hx : ev n L x = .func (.func g) fs.toArray cs.toArray) (h : Callable P g) (hl : fs ++ os.map (ev n L) ++ cs = l) :
    (execOp (ev n L) { dst := dst, op := .call { callee := .value x, args := os.toArray, argTypes := tys }, type := ty, pos := pos, after := af, guard := gd }).run P w = .ok (.enter g l.toArray) w := by
  subst hl
  simp [execOp, resolve, Deferred.ofValue, invoke, hx, run_callFunc h]
end
end Go.Md
