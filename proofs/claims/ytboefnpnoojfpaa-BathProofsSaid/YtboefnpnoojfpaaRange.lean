/-
  A loop over a function, element by element of a known list: the iterator's word, the caller's law, marks of deferred calls behind it. No condition: lemmas about the model.
-/
import Derived.Test.YtboefnpnoojfpaaBit
namespace Go.Md
open Go Go.RowKit

/-- Below N nothing but what lies from a to t has changed. -/
structure BelI (a t N : Nat) (w w' : World) : Prop where
  os : w'.os = w.os
  tape : w'.tape = w.tape
  output : w'.output = w.output
  size : w.heap.size ≤ w'.heap.size
  block : ∀ k, k < N → (k < a ∨ t ≤ k) → w'.heap[k]? = w.heap[k]?

section
variable {a t N : Nat} {w w1 w2 : World}
theorem BelI.refl : BelI a t N w w := ⟨rfl, rfl, rfl, Nat.le_refl _, fun _ _ _ => rfl⟩
theorem BelI.trans (h : BelI a t N w w1) (k : BelI a t N w1 w2) : BelI a t N w w2 :=
  ⟨k.os.trans h.os, k.tape.trans h.tape, k.output.trans h.output, Nat.le_trans h.size k.size, fun q hq h1 => (k.block q hq h1).trans (h.block q hq h1)⟩
theorem BelI.mono {M : Nat} (h : BelI a t N w w1) (hM : M ≤ N) : BelI a t M w w1 := ⟨h.os, h.tape, h.output, h.size, fun q hq h1 => h.block q (by omega) h1⟩
theorem BelI.ext (h : BelI a t N w w1) (k : Ext w1 w2) (hN : N ≤ w.heap.size) : BelI a t N w w2 :=
  ⟨k.os.trans h.os, k.tape.trans h.tape, k.output.trans h.output, Nat.le_trans h.size k.size, fun q hq h1 => (k.block q (Nat.lt_of_lt_of_le hq (Nat.le_trans hN h.size))).trans (h.block q hq h1)⟩
theorem BelI.of (k : Ext w w1) (hN : N ≤ w.heap.size) : BelI a t N w w1 := BelI.refl.ext k hN
theorem BelI.chg {b : Nat} (h : BelI a t N w w1) (k : Chg b w1 w2) (hb : (a ≤ b ∧ b < t) ∨ N ≤ b) : BelI a t N w w2 :=
  ⟨k.os.trans h.os, k.tape.trans h.tape, k.output.trans h.output, by rw [k.size]; exact h.size, fun q hq h1 => (k.other q (by omega)).trans (h.block q hq h1)⟩
theorem BelI.gr {row : Option Nat} (h : BelI a t N w w1) (k : w1.grownBy w2 row) (hN : N ≤ w.heap.size) (hr : ∀ q, row = some q → (a ≤ q ∧ q < t) ∨ N ≤ q) : BelI a t N w w2 :=
  ⟨k.os.trans h.os, k.tape.trans h.tape, k.output.trans h.output, Nat.le_trans h.size k.size, fun q hq h1 => (k.block q (Nat.lt_of_lt_of_le hq (Nat.le_trans hN h.size)) fun e => by have := hr q e.symm; omega).trans (h.block q hq h1)⟩
theorem Bx.beli {q : Nat} {T : TypeId} {cs : List Value} (h : Bx w q T cs) (k : BelI a t N w w1) (h1 : t ≤ q) (h2 : q < N) : Bx w1 q T cs := (k.block q h2 (.inr h1)).trans h
theorem RVo.beli {α : Type} [Enc α] {v : Value} {x : α} (h : RVo (· < a) w v x) (k : BelI a t N w w1) (ha : a ≤ N) : RVo (· < a) w1 v x := h.keep (fun q hq _ => k.block q (by omega) (.inl hq)) k.size
theorem BelI.below (h : BelI a t N w w1) (ha : a ≤ N) : Below a w w1 := ⟨h.os, h.tape, h.output, h.size, fun q hq => h.block q (by omega) (.inl hq)⟩
end

/-- What outlives the loop's book-keeping from block B on. -/
structure Okb (B : Nat) (I : World → Prop) : Prop where
  ext : ∀ {A W : World}, I A → Ext A W → I W
  put : ∀ {A W : World} {l : Nat} {o : Obj}, I A → B ≤ l → A.heap[l]? = some o → o.isCells = false → Chg l A W → I W
section
variable {B : Nat}
theorem Okb.and {I J : World → Prop} (h : Okb B I) (k : Okb B J) : Okb B (fun w => I w ∧ J w) :=
  ⟨fun h1 h2 => ⟨h.ext h1.1 h2, k.ext h1.2 h2⟩, fun h1 h2 h3 h4 h5 => ⟨h.put h1.1 h2 h3 h4 h5, k.put h1.2 h2 h3 h4 h5⟩⟩
theorem Okb.ex {γ : Type} {I : γ → World → Prop} (h : ∀ g, Okb B (I g)) : Okb B (fun w => ∃ g, I g w) :=
  ⟨fun ⟨g, h1⟩ h2 => ⟨g, (h g).ext h1 h2⟩, fun ⟨g, h1⟩ h2 h3 h4 h5 => ⟨g, (h g).put h1 h2 h3 h4 h5⟩⟩
theorem Okb.pure {p : Prop} : Okb B (fun _ => p) := ⟨fun h _ => h, fun h _ _ _ _ => h⟩
theorem Bx.putne {w w' : World} {b l : Nat} {T : TypeId} {cs : List Value} {o : Obj} (h : Bx w b T cs) (hl : w.heap[l]? = some o) (ho : o.isCells = false) (k : Chg l w w') : Bx w' b T cs := h.chg k fun e => by
  subst e
  rw [show w.heap[b]? = _ from h] at hl
  cases hl
  cases ho
theorem Okb.bx {b : Nat} {T : TypeId} {cs : List Value} : Okb B (fun w => Bx w b T cs) := ⟨fun h k => h.ext k, fun h _ hl ho k => h.putne hl ho k⟩
theorem Row.cells {α : Type} [Enc α] [Flat α] {e : TypeId} {base : Nat} {w : World} {v : Value} {l : List α} (h : Row e base w v l) {q : Nat} (hq : v.ownBlock = some q) : ∃ o : Obj, w.heap[q]? = some o ∧ o.isCells = true := by
  rcases h.2 with ⟨rfl, _⟩ | ⟨g, cap, cur, rfl, _, hh, _⟩
  · cases hq
  · cases hq
    exact ⟨_, hh, rfl⟩
theorem Row.putne {α : Type} [Enc α] [Flat α] {e : TypeId} {base l : Nat} {w w' : World} {v : Value} {x : List α} {o : Obj} (h : Row e base w v x) (hl : w.heap[l]? = some o) (ho : o.isCells = false) (k : Chg l w w') : Row e base w' v x :=
  h.chgn k fun e => by
    obtain ⟨o', h1, h2⟩ := h.cells e.symm
    rw [hl] at h1
    cases h1
    rw [ho] at h2
    cases h2
theorem Okb.row {α : Type} [Enc α] [Flat α] {e : TypeId} {base : Nat} {v : Value} {l : List α} : Okb B (fun w => Row e base w v l) := ⟨fun h k => h.ext k, fun h _ hl ho k => h.putne hl ho k⟩
theorem Okb.mp {κ ν : Type} [DecidableEq κ] [Enc κ] [Flat κ] [Key κ] [Enc ν] [Flat ν] {b : Nat} {l : List (κ × ν)} (hb : b < B) : Okb B (fun w => Mp w b l) := ⟨fun h k => h.ext k, fun h hB _ _ k => h.chg k (by omega)⟩
theorem Okb.extw {wb : World} (hB : wb.heap.size ≤ B) : Okb B (fun w => Ext wb w) := ⟨fun h k => h.tr k, fun h hl _ _ k => h.chg k (Nat.le_trans hB hl)⟩
theorem Okb.beli {a t N : Nat} {w0 : World} (h0 : N ≤ w0.heap.size) (hN : N ≤ B) : Okb B (fun w => BelI a t N w0 w) := ⟨fun h k => h.ext k h0, fun h hl _ _ k => h.chg k (.inr (by omega))⟩
theorem Okb.size {m : Nat} : Okb B (fun w => m ≤ w.heap.size) := ⟨fun h k => Nat.le_trans h k.size, fun h _ _ _ k => by rw [k.size]; exact h⟩
end

/-- Nothing but what lies from a to t, and records of loops, has changed. -/
structure KeepC (a t : Nat) (w w' : World) : Prop where
  os : w'.os = w.os
  tape : w'.tape = w.tape
  output : w'.output = w.output
  size : w.heap.size ≤ w'.heap.size
  block : ∀ (k : Nat) (o : Obj), w.heap[k]? = some o → (∀ r, o ≠ .loop r) → (k < a ∨ t ≤ k) → w'.heap[k]? = some o
section
variable {a t : Nat} {w w1 w2 : World}
theorem KeepC.refl : KeepC a t w w := ⟨rfl, rfl, rfl, Nat.le_refl _, fun _ _ h _ _ => h⟩
theorem KeepC.trans (h : KeepC a t w w1) (k : KeepC a t w1 w2) : KeepC a t w w2 :=
  ⟨k.os.trans h.os, k.tape.trans h.tape, k.output.trans h.output, Nat.le_trans h.size k.size, fun q o hq h1 h2 => k.block q o (h.block q o hq h1 h2) h1 h2⟩
theorem KeepC.of (k : Ext w w1) : KeepC a t w w1 := ⟨k.os, k.tape, k.output, k.size, fun q _ hq _ _ => (k.block q (Array.getElem?_eq_some_iff.1 hq).1).trans hq⟩
theorem KeepC.ext (h : KeepC a t w w1) (k : Ext w1 w2) : KeepC a t w w2 := h.trans (KeepC.of k)
theorem KeepC.chg {b : Nat} (h : KeepC a t w w1) (k : Chg b w1 w2) (hb : (a ≤ b ∧ b < t) ∨ w.heap.size ≤ b) : KeepC a t w w2 :=
  ⟨k.os.trans h.os, k.tape.trans h.tape, k.output.trans h.output, by rw [k.size]; exact h.size, fun q o hq h1 h2 => (k.other q (by have := (Array.getElem?_eq_some_iff.1 hq).1; omega)).trans (h.block q o hq h1 h2)⟩
theorem Bx.keepc {q : Nat} {T : TypeId} {cs : List Value} (h : Bx w q T cs) (k : KeepC a t w w1) (h1 : t ≤ q) : Bx w1 q T cs := k.block q _ h nofun (.inr h1)
end
/-- What an iterator may ask its caller to keep. -/
structure KpOk (B : Nat) (Kp : World → World → Prop) : Prop where
  trans : ∀ {A C E : World}, Kp A C → Kp C E → Kp A E
  ext : ∀ {A C : World}, B ≤ A.heap.size → Ext A C → Kp A C
  put : ∀ {A C : World} {l : Nat} {r : Loop}, B ≤ l → A.heap[l]? = some (.loop r) → Chg l A C → Kp A C
theorem KpOk.beli {a t B : Nat} : KpOk B (BelI a t B) := ⟨BelI.trans, fun h k => BelI.of k h, fun h _ k => BelI.refl.chg k (.inr h)⟩
theorem KpOk.keepc {a t B : Nat} : KpOk B (KeepC a t) := ⟨KeepC.trans, fun _ k => KeepC.of k, fun _ h1 k => ⟨k.os, k.tape, k.output, by rw [k.size]; exact Nat.le_refl _, fun q o hq ho _ => (k.other q fun e => by
  subst e
  rw [h1] at hq
  cases hq
  exact ho _ rfl).trans hq⟩⟩

/-- An iterator that hands these lists of values to yield, one after another; its caller keeps what Kp says. -/
def SeqP (P : Program) (Kp : World → World → Prop) (m : Nat) (g : FuncId) (cs : Array Value) (us : List (Array Value)) (w : World) : Prop :=
  ∀ (l : Nat) (J : Nat → World → Prop) (Jx : World → Prop) (W : World), Ext w W → (∀ k A B, J k A → Ext A B → J k B) → (∀ A B, Jx A → Ext A B → Jx B) →
    (∀ k u A, us[k]? = some u → J k A → YieldAt Fence.wide (m - 1) P l u A fun e B =>
      (e = .returned (.bool true) ∧ J (k + 1) B ∧ Kp A B) ∨ (e = .returned (.bool false) ∧ Jx B)) →
    J 0 W → CallsIn Fence.wide m P g (#[.func (.yield l) #[] #[]] ++ cs) W fun e B => (∃ v, e = .returned v) ∧ (J us.length B ∨ Jx B)

/-- v is an iterator over these elements: it reads what lies below the heap's end but from a to t. -/
def SeqV (P : Program) (a t : Nat) (w : World) (v : Value) (us : List (Array Value)) : Prop :=
  ∃ g cs, v = .func (.func g) #[] cs ∧ Callable P g ∧ ∀ m w', 4 ≤ m → BelI a t w.heap.size w w' → SeqP P (BelI a t w'.heap.size) m g cs us w'
/-- The same, of an iterator with memory of its own. -/
def SeqS (P : Program) (a t : Nat) (w : World) (v : Value) (us : List (Array Value)) : Prop :=
  ∃ g cs, v = .func (.func g) #[] cs ∧ Callable P g ∧ ∀ m w', 4 ≤ m → KeepC a t w w' → SeqP P (KeepC a t) m g cs us w'

theorem SeqS.ext {P : Program} {a t : Nat} {w w' : World} {v : Value} {us : List (Array Value)} (h : SeqS P a t w v us) (k : Ext w w') : SeqS P a t w' v us := by
  obtain ⟨g, cs, e, c, h⟩ := h
  exact ⟨g, cs, e, c, fun m w2 hm hk => h m w2 hm ((KeepC.of k).trans hk)⟩
/-- How a round's body may be left. -/
def RPost (B : Nat) (Kp : World → World → Prop) (I' : World → Prop) (Ix : Code → World → Prop) (W : World) : Exit → Act → World → Prop
  | .normal, _, W' => KeepsFrom B W W' ∧ Kp W W' ∧ I' W'
  | .ret, _, W' => KeepsFrom B W W' ∧ Ix .ret W'
  | .exit id, _, W' => KeepsFrom B W W' ∧ Ix (.exit id) W'
  | _, _, _ => False

section
variable {P : Program} {Q : Exit → Act → World → Prop} {m n : Nat} {L : Fr} {D : List Deferred} {w : World}

theorem chgp {W : World} {l : Nat} {o o' : Obj} (h : W.heap[l]? = some o) : Chg l W (W.putObj l o') ∧ (W.putObj l o').heap[l]? = some o' :=
  ⟨chg_put h, World.putObj_heap_same (Array.getElem?_eq_some_iff.1 h).1⟩

/-- The law: a loop over a function in a walk. -/
theorem rangeW {g : Operand} {ps : List Nat} {assign body : Code} {gf : FuncId} {cs : Array Value} {us : List (Array Value)} {Kp : World → World → Prop} (hm : 1 ≤ m) (hKp : KpOk w.heap.size Kp)
    (hg : ev n L g = .func (.func gf) #[] cs) (hc : Callable P gf) (hseq : SeqP P Kp (m - 1) gf cs us w) (hps : ∀ u ∈ us, u.size = ps.length)
    (I : Nat → World → Prop) (Ix : Code → World → Prop) (hI : ∀ k, Okb w.heap.size (I k)) (hIx : ∀ c, Okb w.heap.size (Ix c)) (h0 : I 0 w)
    (hround : ∀ (l k : Nat) (u : Array Value) (A : World) (K : Act → World → Prop), w.heap.size < l → us[k]? = some u → I k A →
      (∀ a' W, Ext A W → (∀ W2 o, W.heap[l]? = some o → o.isCells = false → (∀ ds, o ≠ .deferred ds) → Chg l W W2 → body.wpIn (RF l) (m - 1 - 1) P (RPost w.heap.size Kp (I (k + 1)) Ix W2) a' W2) → K a' W) →
      assign.wpIn (RF l) (m - 1 - 1) P (Exit.then K (fun _ _ _ => False)) (act n ((ps.zip u.toList).foldl (fun L (p, v) => upd L p v) L) []) A)
    (hdone : ∀ D' W, w.heap.size ≤ D' → I us.length W → W.heap[D']? = some (.deferred (some [])) → Q .normal (act n L ({ target := .collected D', args := #[] } :: D)) W)
    (hstop : ∀ D' c W, w.heap.size ≤ D' → Ix c W → W.heap[D']? = some (.deferred (some [])) → c.wp P Q (act n L ({ target := .collected D', args := #[] } :: D)) W) :
    (Code.rangeFunc g ps.toArray assign body).wp P Q (act n L D) w := by
  refine (wpIn_wide (n := m)).1 (wpIn_rangeFunc fun fn hfn => ?_)
  generalize hrec : (fun (st : LoopState) (pe : Option Code) => ({ state := st, pending := pe, fn := fn, tmps := (act n L D).tmps, params := ps.toArray, assign := assign, body := body, defers := w.heap.size } : Loop)) = rec
  have hrec' : ∀ st pe, rec st pe = { state := st, pending := pe, fn := fn, tmps := (act n L D).tmps, params := ps.toArray, assign := assign, body := body, defers := w.heap.size } := fun st pe => by rw [← hrec]
  generalize hB : w.heap.size = B at *
  -- the two blocks of the loop's own
  have hx1 : Ext w (w.alloc (.deferred (some []))) := Ext.alloc _ _
  have hx2 := hx1.tr (Ext.alloc (w.alloc (.deferred (some []))) (.loop (rec .ready none)))
  have hL1 : ((w.alloc (.deferred (some []))).alloc (.loop (rec .ready none))).heap[B + 1]? = some (.loop (rec .ready none)) := by
    have := World.alloc_heap_new (w.alloc (.deferred (some []))) (.loop (rec .ready none))
    rwa [World.size_alloc, hB] at this
  have hK1 : ((w.alloc (.deferred (some []))).alloc (.loop (rec .ready none))).heap[B]? = some (.deferred (some [])) := by
    have := World.alloc_heap_new w (.deferred (some []))
    rw [hB] at this
    exact ((Ext.alloc (w.alloc (.deferred (some []))) (.loop (rec .ready none))).block B (by simp [hB])).trans this
  generalize hW1 : (w.alloc (.deferred (some []))).alloc (.loop (rec .ready none)) = W1 at *
  refine ⟨B + 1, [{ target := .collected B, args := #[] }], W1, { target := .fn (.func gf) cs, args := #[.func (.yield (B + 1)) #[] #[]] }, W1, gf, #[.func (.yield (B + 1)) #[] #[]] ++ cs, W1, ?_, ?_, ?_, ?_, fun _ => hm, ?_⟩
  · rw [show Fence.wide.round = none from rfl, run_enterLoop_outer, hB, ← hrec', hW1]
  · simp only [ev_act, resolve, Deferred.ofValue, hg]
    simp [ev]
  · intro f' _
    exact trivial
  · simp [invoke, run_callFunc hc]
  -- the iterator's word, with the loop's record beside
  refine (hseq (B + 1) (fun k A => I k A ∧ A.heap[B + 1]? = some (.loop (rec .ready none)) ∧ A.heap[B]? = some (.deferred (some [])))
    (fun A => ∃ c, Ix c A ∧ A.heap[B + 1]? = some (.loop (rec .done (some c))) ∧ A.heap[B]? = some (.deferred (some []))) W1 hx2
    (fun k A C h e => ⟨(hI k).ext h.1 e, (e.block _ (Array.getElem?_eq_some_iff.1 h.2.1).1).trans h.2.1, (e.block _ (Array.getElem?_eq_some_iff.1 h.2.2).1).trans h.2.2⟩)
    (fun A C ⟨c, h1, h2, h3⟩ e => ⟨c, (hIx c).ext h1 e, (e.block _ (Array.getElem?_eq_some_iff.1 h2).1).trans h2, (e.block _ (Array.getElem?_eq_some_iff.1 h3).1).trans h3⟩)
    ?_ ⟨(hI 0).ext h0 hx2, hL1, hK1⟩).mono ?_
  · -- one round
    rintro k u A hu ⟨hi, hl, hk⟩
    have hy := run_yield (P := P) (args := u) hl (by rw [hrec']; simpa using hps u (List.mem_of_getElem? hu))
    rw [hrec'] at hy
    refine ⟨fn, _, assign, body, hy, roundIn_of_wpIn hfn ?_⟩
    have hact : ({ tmps := ((ps.toArray.zip u).foldl (fun t (p, v) => t.setIfInBounds p v) (act n L D).tmps), defers := [] } : Act) = act n ((ps.zip u.toList).foldl (fun L (p, v) => upd L p v) L) [] := by
      have := act_round (n := n) (D := D) (ps := ps) (vs := u.toList) L
      rw [← Array.foldl_toList, Array.toList_zip]
      simp only at this ⊢
      rw [this]
      rfl
    refine (congrArg (fun q => Code.wpIn (RF (B + 1)) (m - 1 - 1) P assign _ q A) hact).mpr ?_
    refine hround (B + 1) k u A _ (Nat.lt_succ_self _) hu hi fun a' W hAW hbd => ?_
    have hl1 := (hAW.block _ (Array.getElem?_eq_some_iff.1 hl).1).trans hl
    have hk1 := (hAW.block _ (Array.getElem?_eq_some_iff.1 hk).1).trans hk
    refine ⟨_, run_beginRound hl1 (by rw [hrec']), ?_⟩
    obtain ⟨c1, c2⟩ := chgp (o' := .loop { rec .ready none with state := .busy }) hl1
    have hk2 := (c1.other B (by omega)).trans hk1
    generalize hW2 : W.putObj (B + 1) (.loop { rec .ready none with state := .busy }) = W2 at *
    refine wpIn_mono (hbd W2 _ hl1 rfl nofun c1) ?_
    have fin : ∀ (jump : Option Code) (W3 : World), KeepsFrom B W2 W3 → (Instr.endRound (B + 1) jump).run P W3 = .ok (.bool jump.isNone) (W3.putObj (B + 1) (.loop (rec (if jump.isNone then .ready else .done) jump))) ∧
        W3.heap[B + 1]? = some (.loop { rec .ready none with state := .busy }) ∧ Chg (B + 1) W3 (W3.putObj (B + 1) (.loop (rec (if jump.isNone then .ready else .done) jump))) ∧
        (W3.putObj (B + 1) (.loop (rec (if jump.isNone then .ready else .done) jump))).heap[B + 1]? = some (.loop (rec (if jump.isNone then .ready else .done) jump)) ∧
        (W3.putObj (B + 1) (.loop (rec (if jump.isNone then .ready else .done) jump))).heap[B]? = some (.deferred (some [])) := fun jump W3 hk3 => by
      have hl3 := hk3.same _ _ (by omega) c2 rfl
      have hd3 := hk3.same _ _ (Nat.le_refl _) hk2 rfl
      have he := run_endRound (P := P) jump hl3
      obtain ⟨e1, e2⟩ := chgp (o' := .loop (rec (if jump.isNone then .ready else .done) jump)) hl3
      refine ⟨?_, hl3, e1, e2, (e1.other B (by omega)).trans hd3⟩
      simp only [hrec'] at he ⊢
      exact he
    rintro e a3 W3 hp
    cases e with
    | normal =>
      obtain ⟨hk3, hb3, hi3⟩ := hp
      obtain ⟨hr, hl3, e1, hl4, hd4⟩ := fin none W3 hk3
      have hBA : B ≤ A.heap.size := Nat.le_of_lt (Nat.lt_of_succ_lt (Array.getElem?_eq_some_iff.1 hl).1)
      exact ⟨_, _, hr, .inl ⟨rfl, ⟨(hI (k + 1)).put hi3 (by omega) hl3 rfl e1, hl4, hd4⟩, hKp.trans (hKp.ext hBA hAW) (hKp.trans (hKp.put (by omega) hl1 c1) (hKp.trans hb3 (hKp.put (by omega) hl3 e1)))⟩⟩
    | ret =>
      obtain ⟨hk3, hi3⟩ := hp
      obtain ⟨hr, hl3, e1, hl4, hd4⟩ := fin (some .ret) W3 hk3
      exact ⟨_, _, hr, .inr ⟨rfl, .ret, (hIx _).put hi3 (by omega) hl3 rfl e1, hl4, hd4⟩⟩
    | exit id =>
      obtain ⟨hk3, hi3⟩ := hp
      obtain ⟨hr, hl3, e1, hl4, hd4⟩ := fin (some (.exit id)) W3 hk3
      exact ⟨_, _, hr, .inr ⟨rfl, .exit id, (hIx _).put hi3 (by omega) hl3 rfl e1, hl4, hd4⟩⟩
    | goto t => exact hp.elim
    | panic ch => exact hp.elim
    | outgrown => exact hp.elim
  · -- behind the iterator
    rintro e W2 ⟨⟨v, rfl⟩, ⟨hi, hl, hk⟩ | ⟨c, hi, hl, hk⟩⟩
    · obtain ⟨e1, _⟩ := chgp (o' := .loop { rec .ready none with state := .exhausted }) hl
      exact ⟨none, _, by have := run_endLoop (P := P) hl (by rw [hrec']; simp); simpa only [hrec'] using this, hdone B _ (Nat.le_refl _) ((hI _).put hi (by omega) hl rfl e1) ((e1.other B (by omega)).trans hk)⟩
    · obtain ⟨e1, _⟩ := chgp (o' := .loop { rec .done (some c) with state := .exhausted }) hl
      exact ⟨some c, _, by have := run_endLoop (P := P) hl (by rw [hrec']; simp); simpa only [hrec'] using this, wpIn_wide.2 (hstop B c _ (Nat.le_refl _) ((hIx c).put hi (by omega) hl rfl e1) ((e1.other B (by omega)).trans hk))⟩
end
end Go.Md
