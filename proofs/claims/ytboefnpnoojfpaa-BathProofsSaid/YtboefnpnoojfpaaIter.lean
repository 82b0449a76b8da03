/-
  Iterators and their callers in a walk: the call of yield, the loop over a function, the return behind it. No condition: lemmas about the model.
-/
import Derived.Test.YtboefnpnoojfpaaMap
import Derived.RangeFuncNested
import Derived.RangeFuncLeaves
namespace Go.Md
open Go Go.RowKit

/-! ### Ways that are not walked -/
theorem ifs {α : Type} {c : Bool} {a : Option α} {r : α} (h : (if c = true then a else none) = some r) : c = true ∧ a = some r := by
  cases c <;> simp_all
theorem ifsn {α : Type} {c : Bool} {a : Option α} {r : α} (h : (if c = true then none else a) = some r) : c = false ∧ a = some r := by
  cases c <;> simp_all

/-- Below N only b and c may have changed. -/
structure BelX (N b c : Nat) (w w' : World) : Prop where
  os : w'.os = w.os
  tape : w'.tape = w.tape
  output : w'.output = w.output
  size : w.heap.size ≤ w'.heap.size
  block : ∀ k, k < N → k ≠ b → k ≠ c → w'.heap[k]? = w.heap[k]?

section
variable {N b c : Nat} {w w1 w2 : World}
theorem BelX.refl : BelX N b c w w := ⟨rfl, rfl, rfl, Nat.le_refl _, fun _ _ _ _ => rfl⟩
theorem BelX.trans (h : BelX N b c w w1) (k : BelX N b c w1 w2) : BelX N b c w w2 :=
  ⟨k.os.trans h.os, k.tape.trans h.tape, k.output.trans h.output, Nat.le_trans h.size k.size, fun q hq h1 h2 => (k.block q hq h1 h2).trans (h.block q hq h1 h2)⟩
theorem BelX.mono {M : Nat} (h : BelX N b c w w1) (hM : M ≤ N) : BelX M b c w w1 := ⟨h.os, h.tape, h.output, h.size, fun q hq h1 h2 => h.block q (by omega) h1 h2⟩
theorem BelX.ext (h : BelX N b c w w1) (k : Ext w1 w2) (hN : N ≤ w1.heap.size) : BelX N b c w w2 :=
  ⟨k.os.trans h.os, k.tape.trans h.tape, k.output.trans h.output, Nat.le_trans h.size k.size, fun q hq h1 h2 => (k.block q (by omega)).trans (h.block q hq h1 h2)⟩
theorem BelX.of (k : Ext w w1) (hN : N ≤ w.heap.size) : BelX N b c w w1 := BelX.refl.ext k hN
theorem BelX.chgb (h : BelX N b c w w1) (k : Chg b w1 w2) : BelX N b c w w2 :=
  ⟨k.os.trans h.os, k.tape.trans h.tape, k.output.trans h.output, by rw [k.size]; exact h.size, fun q hq h1 h2 => (k.other q h1).trans (h.block q hq h1 h2)⟩
theorem BelX.chgc (h : BelX N b c w w1) (k : Chg c w1 w2) : BelX N b c w w2 :=
  ⟨k.os.trans h.os, k.tape.trans h.tape, k.output.trans h.output, by rw [k.size]; exact h.size, fun q hq h1 h2 => (k.other q h2).trans (h.block q hq h1 h2)⟩
theorem BelX.chg {q : Nat} (h : BelX N b c w w1) (k : Chg q w1 w2) (hq : N ≤ q) : BelX N b c w w2 :=
  ⟨k.os.trans h.os, k.tape.trans h.tape, k.output.trans h.output, by rw [k.size]; exact h.size, fun p hp h1 h2 => (k.other p (by omega)).trans (h.block p hp h1 h2)⟩
theorem BelX.below (h : BelX N b c w w1) {B : Nat} (hN : B ≤ N) (hb : B ≤ b) (hc : B ≤ c) : Below B w w1 := ⟨h.os, h.tape, h.output, h.size, fun q hq => h.block q (by omega) (by omega) (by omega)⟩
/-- What the call's checkpoint bore is there. -/
theorem BelX.old {wb : World} (h : BelX w.heap.size b c w w1) (hk : Ext wb w) (hb : wb.heap.size ≤ b) (hc : wb.heap.size ≤ c) : Ext wb w1 := hk.trans (h.below hk.size hb hc)
theorem RVo.belx {α : Type} [Enc α] {v : Value} {x : α} (h : RVo (fun q => q < N ∧ q ≠ b ∧ q ≠ c) w v x) (k : BelX N b c w w1) : RVo (fun q => q < N ∧ q ≠ b ∧ q ≠ c) w1 v x :=
  h.keep (fun q hq _ => k.block q hq.1 hq.2.1 hq.2.2) k.size
theorem Bx.belx {q : Nat} {T : TypeId} {cs : List Value} (h : Bx w q T cs) (k : BelX N b c w w1) (hq : q < N) (h1 : q ≠ b) (h2 : q ≠ c) : Bx w1 q T cs := (k.block q hq h1 h2).trans h
theorem Ext.gr (k : Ext w w1) : w.grownBy w1 none := ⟨k.os, k.tape, k.output, k.size, fun q hq _ => k.block q hq⟩
theorem Chg.others (k : Chg b w w1) {T : TypeId} {cs cs' : List Value} (h : Bx w b T cs) : KeepsOthers w w1 := ⟨by rw [k.size]; exact Nat.le_refl _, fun q o hq ho => by
  by_cases e : q = b
  · subst e
    rw [show w.heap[q]? = _ from h] at hq
    cases hq
    cases ho
  · exact (k.other q e).trans hq⟩
theorem Ext.others (k : Ext w w1) : KeepsOthers w w1 := ⟨k.size, fun q o hq _ => (k.block q (Array.getElem?_eq_some_iff.1 hq).1).trans hq⟩
theorem Ext.kf {B : Nat} (k : Ext w w1) : KeepsFrom B w w1 := k.others.from B
theorem Chg.kf {B : Nat} (k : Chg b w w1) {T : TypeId} {cs : List Value} (h : Bx w b T cs) : KeepsFrom B w w1 := (k.others (cs' := []) h).from B
theorem Chg.kfm {B : Nat} (k : Chg b w w1) (h : b < B) : KeepsFrom B w w1 := ⟨by rw [k.size]; exact Nat.le_refl _, fun q o hB hq _ => (k.other q (by omega)).trans hq⟩
end

theorem obGetO {α : Type} [Enc α] {ok : Nat → Prop} {w : World} {a : Option Addr} {x : Ob α} {y : α} (h : RVo ok w (.pointer a) x) (hy : x.v = some y) : ∃ b ds, a = some ⟨b, 0, none⟩ ∧ ok b ∧ Enc.rep ok w ds y ∧ Cs w b 0 ds := by
  obtain ⟨cs, e, h⟩ := h
  obtain ⟨a', rfl, h⟩ := h
  cases e
  rw [hy] at h
  obtain ⟨b, ds, e, h0, _, h1, h2⟩ := h
  exact ⟨b, ds, e, h0, h1, h2⟩

/-! ### What abides a loop's book-keeping -/
section
variable {β : Type} {B : Nat}
theorem own_and {I J : β → World → Prop} (h : OwnFrom B I) (k : OwnFrom B J) : OwnFrom B (fun s w => I s w ∧ J s w) := fun s W W' row hs hg hr => ⟨h s W W' row hs.1 hg hr, k s W W' row hs.2 hg hr⟩
theorem own_ex {γ : Type} {I : γ → β → World → Prop} (h : ∀ g, OwnFrom B (I g)) : OwnFrom B (fun s w => ∃ g, I g s w) := fun s W W' row ⟨g, hs⟩ hg hr => ⟨g, h g s W W' row hs hg hr⟩
theorem own_bx {b : Nat} {T : TypeId} {f : β → List Value} : OwnFrom B (fun s w => Bx w b T (f s)) := fun s W W' row hs hg hr => hs.gr hg fun e => by
  obtain ⟨_, o, ho, hc⟩ := hr b e.symm
  rw [show W.heap[b]? = _ from hs] at ho
  cases ho
  cases hc
theorem own_mp {κ ν : Type} [DecidableEq κ] [Enc κ] [Flat κ] [Key κ] [Enc ν] [Flat ν] {b : Nat} {f : β → List (κ × ν)} (hb : b < B) : OwnFrom B (fun s w => Mp w b (f s)) := fun s W W' row hs hg hr => hs.gr hg fun e => by
  have := (hr b e.symm).1
  omega
theorem own_belx {N b c : Nat} {w0 : World} (hN : N ≤ B) (h0 : N ≤ w0.heap.size) : OwnFrom B (fun (_ : β) w => BelX N b c w0 w) := fun s W W' row hs hg hr =>
  ⟨hg.os.trans hs.os, hg.tape.trans hs.tape, hg.output.trans hs.output, Nat.le_trans hs.size hg.size, fun q hq h1 h2 =>
    (hg.block q (by have := hs.size; omega) fun e => by have := (hr q e.symm).1; omega).trans (hs.block q hq h1 h2)⟩
theorem own_pure {p : β → Prop} : OwnFrom B (fun s (_ : World) => p s) := fun _ _ _ _ hs _ _ => hs
theorem own_size {m : Nat} : OwnFrom B (fun (_ : β) w => m ≤ w.heap.size) := fun _ _ _ _ hs hg _ => Nat.le_trans hs hg.size
end

section
variable {P : Program} {Q : Exit → Act → World → Prop} {m n : Nat} {L : Fr} {D : List Deferred} {w : World} {ops : Array Oper} {rest : List Oper}

/-- A store of a whole variable. -/
theorem sstw {ty : TypeId} {pos : String} {af : Array Edge} {x y : Operand} {t T : TypeId} {b k bytes : Nat} {z cur vs : List Value} (hp : ev n L x = .pointer (some ⟨b, 0, none⟩)) (hy : ev n L y = .agg vs.toArray) (ht : TI P t true k bytes z) (hb : Bx w b T cur)
    (hc : cur.length = k) (hl : vs.length = k) (h1 : ∀ v ∈ vs, v.oneCell' = true) (cont : ∀ w', Chg b w w' → Bx w' b T vs → wpList P ops Q rest (act n L D) w') :
    wpList P ops Q ({ dst := none, op := .store t x y, type := ty, pos := pos, after := af, guard := none } :: rest) (act n L D) w :=
  sst hp hy rfl ht hb hl (List.all_eq_true.2 h1) (by omega) fun w' h2 h3 => cont w' h2 (by
    have : splice cur 0 vs = vs := by simp [splice, hl, hc]
    rwa [this] at h3)
theorem flat_one {α : Type} [Enc α] [Flat α] (l : List α) : ∀ v ∈ l.flatMap Flat.enc, v.oneCell' = true := fun v hv => by
  obtain ⟨y, _, hy⟩ := List.mem_flatMap.1 hv
  exact Flat.one y v hy

/-! ### The call of yield -/
theorem rgW {id : Nat} {l : List Oper} (h : wpListIn Fence.wide m P l.toArray Q l (act n L D) w) : (Code.region id l.toArray false).wp P Q (act n L D) w := wpIn_wide.1 (wpIn_region_lit h)
theorem vlW {o : Oper} {d : Nat} {v : Value} {w' : World} (hg : o.guard = none) (hd : o.dst = some d) (hdf : ∀ c, o.op ≠ .defer c) (h : (execOp (ev n L) o).run P w = .ok (.value v) w')
    (k : wpListIn Fence.wide m P ops Q rest (act n (upd L d v) D) w') : wpListIn Fence.wide m P ops Q (o :: rest) (act n L D) w := by
  refine wpListIn_plain hg fun K hK => ?_
  unfold Oper.wpIn
  refine ⟨fun _ _ => trivial, ?_⟩
  rw [Oper.semAt_eq _ _ _ hdf]
  simp only [ev_act, h, Oper.uponIn, hd, put_act]
  exact hK _ _ k
theorem ylW {o : Oper} {d l : Nat} {fn : FuncId} {tmps : Array Value} {assign body : Code} {R : Ending → World → Prop} (hg : o.guard = none) (hd : o.dst = some d) (hdf : ∀ c, o.op ≠ .defer c)
    (h : (execOp (ev n L) o).run P w = .ok (.round l fn tmps assign body) w) (hr : RoundIn Fence.wide (m - 1) P l fn tmps assign body w R)
    (k : ∀ e w', R e w' → ∃ v, e = .returned v ∧ wpListIn Fence.wide m P ops Q rest (act n (upd L d v) D) w') : wpListIn Fence.wide m P ops Q (o :: rest) (act n L D) w := by
  refine wpListIn_plain hg fun K hK => ?_
  unfold Oper.wpIn
  refine ⟨fun _ _ => trivial, ?_⟩
  rw [Oper.semAt_eq _ _ _ hdf]
  simp only [ev_act, h, Oper.uponIn]
  refine ⟨fun h => by simp [Fence.wide] at h, hr.mono fun e w' he => ?_⟩
  obtain ⟨v, rfl, hk⟩ := k e w' he
  simp only [hd, put_act]
  exact hK _ _ hk
theorem nlW {a : Act} (h : Q .normal a w) : wpListIn Fence.wide m P ops Q [] a w := h
theorem xyl {ty : TypeId} {pos : String} {af : Array Edge} {dst : Option Nat} {gdd : Option (Nat × Bool)} {x : Operand} {os : List Operand} {vs : List Value} {tys : Array TypeId} {l : Nat} {fn : FuncId} {tmps : Array Value} {assign body : Code}
    (hx : ev n L x = .func (.yield l) #[] #[]) (hl : os.map (ev n L) = vs) (h : (Instr.yield l vs.toArray).run P w = .ok (.round l fn tmps assign body) w) :
    (execOp (ev n L) { dst := dst, op := .call { callee := .value x, args := os.toArray, argTypes := tys }, type := ty, pos := pos, after := af, guard := gdd }).run P w = .ok (.round l fn tmps assign body) w := by
  subst hl
  simp [execOp, resolve, Deferred.ofValue, invoke, hx, h]

/-! ### A function with a loop over a function -/
theorem entrM {f : FuncId} {fn : Func} {c : Code} {args : List Value} {R : Ending → World → Prop} (hf : P.funcs[f]? = some fn) (hb : fn.body = some c) (hn : fn.ntmps = n)
    (hs : Nat.ble args.length n = true) (h : c.wp P (bodyPostM Fence.wide m P fn R) (act n (fr args) []) w) : Calls P f args.toArray w R := by
  refine (callsIn_wide (n := m)).1 (callsIn_of_wp_marks hf hb trivial (wpIn_wide.2 ?_) rfl)
  have hs' : args.length ≤ n := by simpa [Nat.ble_eq] using hs
  have e : ({ tmps := args.toArray ++ Array.replicate (fn.ntmps - args.toArray.size) undef, defers := [] } : Act) = act n (fr args) [] := by
    unfold act
    congr 1
    apply Array.ext
    · simp [hn]; omega
    · intro i h1 h2
      simp only [Array.getElem_ofFn, fr]
      by_cases hi : i < args.length
      · rw [Array.getElem_append_left (by simpa using hi)]
        simp [hi]
      · rw [Array.getElem_append_right (by simpa using hi)]
        simp [List.getElem?_eq_none (Nat.le_of_not_lt hi)]
  rw [e]
  exact h
/-- A return behind a loop over a function. -/
theorem rtM {fn : Func} {R : Value → World → Prop} {rs : List ResultVar} {vs : List Value} {d : Nat} (hr : fn.results = rs.toArray) (hd : w.heap[d]? = some (.deferred (some [])))
    (h : RVs P (w.putObj d (.deferred none)) n L rs vs) (hR : R (res vs) (w.putObj d (.deferred none))) : bodyPostM Fence.wide m P fn (Ret R) .ret (act n L [{ target := .collected d, args := #[] }]) w := by
  refine ⟨by simp, .inl ⟨_, _, rfl, run_takeDeferred hd, ?_⟩⟩
  exact ⟨_, h.results (D := [{ target := .collected d, args := #[] }]) hr, _, rfl, hR⟩
theorem chg_put {d : Nat} {o o' : Obj} (_h : w.heap[d]? = some o) : Chg d w (w.putObj d o') := ⟨rfl, rfl, rfl, by simp, fun k hk => World.putObj_heap_other hk⟩
theorem round2 {p q : Nat} {v u : Value} : ({ tmps := ((#[p, q] : Array Nat).zip #[v, u]).foldl (fun t (p, v) => t.setIfInBounds p v) (act n L D).tmps, defers := [] } : Act) = act n (upd (upd L p v) q u) [] := by
  have h1 := congrArg Act.tmps (put_act n L D p v)
  have h2 := congrArg Act.tmps (put_act n (upd L p v) D q u)
  simp only [Act.put] at h1 h2
  have e : ((act n L D).tmps.setIfInBounds p v).setIfInBounds q u = (act n (upd (upd L p v) q u) D).tmps := by rw [h1]; exact h2
  rw [← Array.foldl_toList, Array.toList_zip]
  simp only [List.zip_cons_cons, List.zip_nil_right, List.foldl_cons, List.foldl_nil, e]
  rfl
/-- The frame of a round. -/
theorem act_round {ps : List Nat} {vs : List Value} : ∀ (L : Fr), (ps.zip vs).foldl (fun t (p, v) => t.setIfInBounds p v) (act n L D).tmps = (act n ((ps.zip vs).foldl (fun L (p, v) => upd L p v) L) D).tmps := by
  generalize ps.zip vs = l
  induction l with
  | nil => intro L; rfl
  | cons p l ih =>
    intro L
    simp only [List.foldl_cons]
    rw [← ih]
    have : (act n L D).tmps.setIfInBounds p.1 p.2 = (act n (upd L p.1 p.2) D).tmps := by
      have := put_act n L D p.1 p.2
      have h := congrArg Act.tmps this
      simpa [Act.put] using h
    rw [this]
end
end Go.Md
