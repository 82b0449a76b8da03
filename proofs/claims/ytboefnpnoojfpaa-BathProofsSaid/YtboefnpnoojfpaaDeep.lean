/-
  Rows of the call's own whose elements point to other memory. No condition: lemmas about the model.
-/
import Derived.Test.YtboefnpnoojfpaaMake
namespace Go.Md
open Go Go.RowKit

/-- The cells of an element, as they lie. -/
structure Cl (n : Nat) where
  l : List Value
  h : l.length = n
  one : ∀ c ∈ l, c.oneCell' = true
instance {n : Nat} : Enc (Cl n) where
  agg := true
  n := n
  rep _ _ cs x := cs = x.l
  len {_ _ _ x} h := by subst h; exact x.h
  one {_ _ _ x} h := by subst h; exact x.one
  sgl h := by cases h
  keep _ _ h := h
  mono _ h := h
instance {n : Nat} : Flat (Cl n) := ⟨fun x => x.l, Iff.rfl⟩

/-- The blocks in which elements of a row may lie. -/
def Okd (lo base : Nat) (v : Value) (b : Nat) : Prop := (b < lo ∨ base ≤ b) ∧ some b ≠ v.ownBlock
/-- The slice v is the call's own; its elements read in blocks that are older than lo, or not older than base, and none is the row's. -/
def DRow {α : Type} [Enc α] (lo : Nat) (e : TypeId) (base : Nat) (w : World) (v : Value) (l : List α) : Prop :=
  ∃ S : List (Cl (Enc.n α)), Row (α := Cl (Enc.n α)) e base w v S ∧ S.length = l.length ∧ ∀ (i : Nat) (s : Cl (Enc.n α)) (x : α), S[i]? = some s → l[i]? = some x → Enc.rep (Okd lo base v) w s.l x
def ElsD {α : Type} [Enc α] (ok : Nat → Prop) (w : World) (a : Option Addr) (k : List α) : Prop :=
  k = [] ∨ ∃ b off, a = some ⟨b, off, none⟩ ∧ ∀ (i : Nat) (x : α), k[i]? = some x → ∃ cs, Enc.rep ok w cs x ∧ Cs w b (off + i * Enc.n α) cs

section
variable {α : Type} [Enc α] {lo base : Nat} {e : TypeId} {w w' : World} {v v2 : Value} {l k : List α}
theorem DRow.nil : DRow lo e base w (.slice none 0 0) ([] : List α) := ⟨[], Row.nil, rfl, by simp⟩
theorem DRow.ext (h : DRow lo e base w v l) (k : Ext w w') : DRow lo e base w' v l := by
  obtain ⟨S, h1, h2, h3⟩ := h
  exact ⟨S, h1.ext k, h2, fun i s x a b => Enc.keep (fun q _ hq => k.block q hq) k.size (h3 i s x a b)⟩
theorem DRow.lt (h : DRow lo e base w v l) : ∀ q, v.ownBlock = some q → base ≤ q ∧ q < w.heap.size := by
  obtain ⟨S, h1, _⟩ := h
  exact fun q hq => h1.lt q hq
theorem DRow.own_lt (h : DRow lo e base w v l) : ∀ q, v.ownBlock = some q → q < w.heap.size := fun q hq => (h.lt q hq).2
theorem DRow.sl (h : DRow lo e base w v l) : ∃ a cap, v = .slice a l.length cap := by
  obtain ⟨S, h1, h2, _⟩ := h
  obtain ⟨a, cap, e1, _⟩ := RV.sl h1.rv
  exact ⟨a, cap, by rw [e1, h2]⟩
theorem DRow.rv (h : DRow lo e base w v l) : RV w v l := by
  obtain ⟨S, h1, h2, h3⟩ := h
  obtain ⟨a, cap, rfl, c1, c2, c3⟩ := RV.sl h1.rv
  rw [h2]
  refine RV.of1 (by rw [← h2]; exact c1) c2 ?_
  rcases c3 with rfl | ⟨b, off, e1, hb, hlt, c3⟩
  · left
    simp at h2
    exact List.eq_nil_of_length_eq_zero h2.symm
  · refine .inr ⟨b, off, e1, hb, hlt, fun i x hx => ?_⟩
    have hi : i < S.length := by rw [h2]; exact (List.getElem?_eq_some_iff.1 hx).1
    have hs : S[i]? = some S[i] := List.getElem?_eq_getElem hi
    obtain ⟨cs, c4, c5⟩ := c3 i _ hs
    have c4' : cs = S[i].l := c4
    subst c4'
    exact ⟨_, Enc.mono (fun _ _ _ => trivial) (h3 i _ x hs hx), c5⟩
theorem DRow.bnd {B : Nat} (h : DRow lo e base w v l) (hB : B ≤ base) : DRow lo e B w v l := by
  obtain ⟨S, h1, h2, h3⟩ := h
  refine ⟨S, h1.bnd hB, h2, fun i s x a b => Enc.mono (fun q _ hq => ⟨?_, hq.2⟩) (h3 i s x a b)⟩
  have := hq.1
  omega
/-- A variable of the call's own that is older than the row is written. -/
theorem DRow.chgo {b : Nat} (h : DRow lo e base w v l) (c : Chg b w w') (h1 : lo ≤ b) (h2 : b < base) : DRow lo e base w' v l := by
  obtain ⟨S, g1, g2, g3⟩ := h
  refine ⟨S, g1.chg c h2, g2, fun i s x a d => Enc.keep (fun q hq _ => c.other q fun e1 => ?_) (by rw [c.size]; exact Nat.le_refl _) (g3 i s x a d)⟩
  have := hq.1
  omega
theorem Row.rvob {β : Type} [Enc β] [Flat β] {e' : TypeId} {br : Nat} {c : Value} {y : List β} (h : Row e' br w c y) : RVo (fun b => br ≤ b) w c y := h.rvo
theorem RVo.okn {β : Type} [Enc β] {wr : World} {c : Value} {y : β} (h : RVo (fun b => wr.heap.size ≤ b) w c y) (hb : base ≤ wr.heap.size) (hv : ∀ q, v.ownBlock = some q → q < wr.heap.size) : RVo (Okd lo base v) w c y :=
  h.mono fun b _ hq => ⟨.inr (by omega), fun e1 => by have := hv b e1.symm; omega⟩
theorem RVo.oko {β : Type} [Enc β] {c : Value} {y : β} (h : RVo (· < lo) w c y) (hv : ∀ q, v.ownBlock = some q → lo ≤ q) : RVo (Okd lo base v) w c y :=
  h.mono fun b _ hq => ⟨.inl hq, fun e1 => by have := hv b e1.symm; omega⟩
theorem RVo.rep1 {β : Type} [Enc β] {ok : Nat → Prop} {c : Value} {y : List β} (h : RVo ok w c y) : Enc.rep ok w [c] y := by
  obtain ⟨a, cap, rfl, h1, h2, h3⟩ := RVo.sl.1 h
  exact ⟨a, cap, rfl, h1, h2, h3⟩
theorem RVo.nilok {β : Type} [Enc β] {ok : Nat → Prop} : RVo ok w (.slice none 0 0) ([] : List β) := RVo.nil (Nat.zero_le _)
theorem DRow.geo (h : DRow lo e base w v l) (hb : lo ≤ base) : ∀ q, v.ownBlock = some q → lo ≤ q := fun q hq => by have := (h.lt q hq).1; omega
theorem nilown {m : Nat} {p : Nat → Nat → Prop} : ∀ q, (Value.slice none 0 0).ownBlock = some q → p q m := fun q h => by cases h
theorem ElsD.lit1 {ok : Nat → Prop} {b : Nat} {T : TypeId} {cs : List Value} {x : α} (hb : Bx w b T cs) (h : Enc.rep ok w cs x) : ElsD ok w (some ⟨b, 0, none⟩) [x] :=
  .inr ⟨b, 0, rfl, fun i y hy => by
    cases i with
    | zero =>
      simp only [List.getElem?_cons_zero, Option.some.injEq] at hy
      subst hy
      exact ⟨cs, h, by simpa using hb.cs⟩
    | succ i => simp at hy⟩
theorem ElsD.of {ok : Nat → Prop} {a : Option Addr} {cap : Nat} (h : RVo ok w (.slice a k.length cap) k) : ElsD ok w a k := by
  obtain ⟨a', cap', e1, _, _, h3⟩ := RVo.sl.1 h
  cases e1
  rcases h3 with h3 | ⟨b, off, e1, _, _, h3⟩
  · exact .inl h3
  · exact .inr ⟨b, off, e1, h3⟩

theorem pickl {β γ : Type} {p : Nat → β → γ → Prop} : ∀ (k : List β) (o : Nat), (∀ i x, k[i]? = some x → ∃ y, p (o + i) x y) → ∃ S : List γ, S.length = k.length ∧ ∀ i x y, k[i]? = some x → S[i]? = some y → p (o + i) x y
  | [], _, _ => ⟨[], rfl, by simp⟩
  | b :: k, o, h => by
    obtain ⟨y, hy⟩ := h 0 b rfl
    obtain ⟨S, h1, h2⟩ := pickl (p := p) k (o + 1) (fun i x hx => by have := h (i + 1) x hx; rwa [show o + 1 + i = o + (i + 1) by omega])
    refine ⟨y :: S, by simp [h1], fun i x z hx hz => ?_⟩
    cases i with
    | zero =>
      simp only [List.getElem?_cons_zero, Option.some.injEq] at hx hz
      subst hx hz
      exact hy
    | succ i =>
      simp only [List.getElem?_cons_succ] at hx hz
      have := h2 i x z hx hz
      rwa [show o + 1 + i = o + (i + 1) by omega] at this
end

section
variable {P : Program} {Q : Exit → Act → World → Prop} {n : Nat} {L : Fr} {D : List Deferred} {w : World} {ops : Array Oper} {rest : List Oper}
variable {ty : TypeId} {pos : String} {af : Array Edge} {x y : Operand}
variable {α : Type} [Enc α]

/-- An append to a row whose elements point to other memory. -/
theorem sapd {d : Nat} {st e : TypeId} {agg : Bool} {bytes base lo : Nat} {z : List Value} {v : Value} {a : Option Addr} {cap : Nat} {l k r : List α} (hs : ev n L x = v) (hy : ev n L y = .slice a k.length cap) (ht : P.underlying st = some (.slice e))
    (he : TI P e agg (Enc.n α) bytes z) (hm : Nat.ble 1 (Enc.n α) = true) (hb1 : Nat.ble 1 bytes = true) (hrow : DRow lo e base w v l) (hk : ElsD (Okd lo base v) w a k) (hr : app bytes l k = some r) (hbase : base ≤ w.heap.size)
    (cont : ∀ v' w', DRow lo e base w' v' r → Below base w w' → w.grownBy w' v.ownBlock → (v'.ownBlock = v.ownBlock ∨ ∃ g, v'.ownBlock = some g ∧ w.heap.size ≤ g) → wpList P ops Q rest (act n (upd L d v') D) w') :
    wpList P ops Q ({ dst := some d, op := .call { callee := .builtin .append, args := #[x, y], argTypes := #[st, st] }, type := ty, pos := pos, after := af, guard := none } :: rest) (act n L D) w := by
  obtain ⟨hb, rfl⟩ := app_spec hr
  obtain ⟨S, h1, h2, h3⟩ := hrow
  have hK : ∃ K : List (Cl (Enc.n α)), K.length = k.length ∧ Els (Cl (Enc.n α)) (fun _ => True) w a K ∧ ∀ (i : Nat) (s : Cl (Enc.n α)) (x : α), K[i]? = some s → k[i]? = some x → Enc.rep (Okd lo base v) w s.l x := by
    rcases hk with rfl | ⟨b, off, rfl, hk⟩
    · exact ⟨[], rfl, .inl rfl, by simp⟩
    · obtain ⟨K, k1, k2⟩ := pickl (p := fun i x (s : Cl (Enc.n α)) => Enc.rep (Okd lo base v) w s.l x ∧ Cs w b (off + i * Enc.n α) s.l) k 0 (fun i x hx => by
        obtain ⟨cs, c1, c2⟩ := hk i x hx
        exact ⟨⟨cs, Enc.len c1, Enc.one c1⟩, c1, by simpa using c2⟩)
      refine ⟨K, k1, ?_, fun i s x hs hx => (k2 i x s hx hs).1⟩
      by_cases h0 : K = []
      · exact .inl h0
      · have hm' : 0 < Enc.n α := Nat.le_of_ble_eq_true hm
        obtain ⟨s0, hs0⟩ : ∃ s, K[0]? = some s := ⟨K[0]'(List.length_pos_iff.2 h0), List.getElem?_eq_getElem _⟩
        have hx0 : ∃ x, k[0]? = some x := ⟨k[0]'(by rw [← k1]; exact List.length_pos_iff.2 h0), List.getElem?_eq_getElem _⟩
        obtain ⟨x0, hx0⟩ := hx0
        have hc0 := (k2 0 x0 s0 hx0 hs0).2
        have hl0 : 0 < s0.l.length := by rw [s0.h]; exact hm'
        refine .inr ⟨b, off, rfl, trivial, World.block_lt_of_cell? w ⟨b, off + (0 + 0) * Enc.n α + 0, none⟩ (hc0 0 s0.l[0] (List.getElem?_eq_getElem hl0)), fun i s hs => ⟨s.l, rfl, ?_⟩⟩
        have hi : i < k.length := by rw [← k1]; exact (List.getElem?_eq_some_iff.1 hs).1
        have := (k2 i _ s (List.getElem?_eq_getElem hi) hs).2
        rw [Nat.zero_add] at this
        exact this
  obtain ⟨K, k1, k2, k3⟩ := hK
  obtain ⟨v', w', hrun, hrow', hg, ho⟩ := run_app (α := Cl (Enc.n α)) (ty := ty) (cap := cap) ht he (Nat.le_of_ble_eq_true hm) (Nat.le_of_ble_eq_true hb1) h1 k2 (by rw [h2, k1]; exact hb) hbase
  rw [k1] at hrun
  refine vl rfl rfl (v := v') (w' := w') (by simp [execOp, resolve, invoke, Go.builtin, hs, hy, hrun]) (cont v' w' ⟨S ++ K, hrow', by simp [h2, k1], fun i s x a b => ?_⟩ ⟨hg.os, hg.tape, hg.output, hg.size, fun q hq => hg.block q (by omega) (fun e2 => ?_)⟩ hg ho)
  · have hrep : Enc.rep (Okd lo base v) w s.l x := by
      rw [List.getElem?_append] at a b
      rw [← h2] at b
      split at a
      · rename_i hi
        rw [if_pos hi] at b
        exact h3 i s x a b
      · rename_i hi
        rw [if_neg hi] at b
        exact k3 _ s x a b
    have hrep' : Enc.rep (fun q => Okd lo base v q ∧ some q ≠ v'.ownBlock) w s.l x := Enc.mono (fun q hq hok => ⟨hok, fun e1 => by
      rcases ho with h | ⟨g, h, hgg⟩
      · exact hok.2 (by rw [← h]; exact e1)
      · rw [h] at e1
        cases e1
        omega⟩) hrep
    have := Enc.keep (w' := w') (fun q hok hq => hg.block q hq hok.1.2) hg.size hrep'
    exact Enc.mono (fun q _ hok => ⟨hok.1.1, hok.2⟩) this
  · have := h1.lt q e2.symm
    omega
theorem DRow.gra {lo base : Nat} {e : TypeId} {w w' : World} {v v2 : Value} {l : List α} (h : DRow lo e base w v2 l) (g : w.grownBy w' v.ownBlock) (ha : Apart v v2) (h1 : ∀ q, v.ownBlock = some q → lo ≤ q ∧ q < base) : DRow lo e base w' v2 l := by
  obtain ⟨S, g1, g2, g3⟩ := h
  refine ⟨S, g1.gra g ha, g2, fun i s x a d => Enc.keep (fun q hq hlt => g.block q hlt fun e1 => ?_) g.size (g3 i s x a d)⟩
  have := h1 q e1.symm
  have := hq.1
  omega
end
end Go.Md
namespace Go.Md
open Go Go.RowKit
theorem Apart.old' {N : Nat} {v1 v2 : Value} (h1 : ∀ q, v1.ownBlock = some q → q < N) (h2 : ∀ q, v2.ownBlock = some q → N ≤ q) : Apart v1 v2 := fun q a b => by
  have := h1 q a
  have := h2 q b
  omega
end Go.Md
namespace Go.Md
open Go Go.RowKit
/-- A new variable with these cells. -/
def PX (T : TypeId) (base : Nat) (w : World) (v : Value) (cs : List Value) : Prop := ∃ b, v = .pointer (some ⟨b, 0, none⟩) ∧ base ≤ b ∧ Bx w b T cs
end Go.Md
namespace Go
theorem World.grownBy.tr {w w1 w2 : World} {row : Option Nat} (h : w.grownBy w1 row) (k : w1.grownBy w2 row) : w.grownBy w2 row :=
  ⟨k.os.trans h.os, k.tape.trans h.tape, k.output.trans h.output, Nat.le_trans h.size k.size, fun q hq hn => (k.block q (Nat.lt_of_lt_of_le hq h.size) hn).trans (h.block q hq hn)⟩
end Go
namespace Go.Md
open Go Go.RowKit
theorem Ext.gro {w w1 : World} {row : Option Nat} (k : Ext w w1) : w.grownBy w1 row := ⟨k.os, k.tape, k.output, k.size, fun q hq _ => k.block q hq⟩
theorem Cs.gro {w w' : World} {b o : Nat} {cs : List Value} {row : Option Nat} (h : Cs w b o cs) (g : w.grownBy w' row) (ne : some b ≠ row) : Cs w' b o cs := fun j c hc => by
  have h1 := h j c hc
  have hlt := World.block_lt_of_cell? w _ h1
  exact (World.cell?_of_block (a := ⟨b, o + j, none⟩) (g.block b hlt ne)).trans h1
/-- A region by a plan, where all but a row's block is kept. -/
theorem wplG {P : Program} {Q : Exit → Act → World → Prop} {n : Nat} {L : Fr} {D : List Deferred} {w : World} {row : Option Nat} {id : Nat} {l : List Oper} (T : List Nat) (p : Plan) (hm : P.follows .mixedOrders = true)
    (hok : (Region.noSelect l.toArray && p.ok l.toArray T false l.length (Array.replicate l.length false)) = true)
    (h : ∀ wd, Ext w wd → p.wp P l.toArray (fun w' => wd.grownBy w' row) T (Q .normal) false (act n L D) wd) : (Code.region id l.toArray true).wp P Q (act n L D) w :=
  wp_plan _ T p hm hok (h w.drew (Ext.drew w))
end Go.Md
namespace Go.Md
open Go Go.RowKit
section
variable {α : Type} [Enc α] {lo base b : Nat} {e : TypeId} {w : World} {v : Value} {l : List α}
theorem DRow.ne_new (h : DRow lo e base w v l) (hb : w.heap.size ≤ b) : some b ≠ v.ownBlock := fun e2 => by
  have := h.lt b e2.symm
  omega
theorem DRow.ne_old (h : DRow lo e base w v l) (hb : b < base) : some b ≠ v.ownBlock := fun e2 => by
  have := h.lt b e2.symm
  omega
end
end Go.Md
namespace Go.Md
open Go Go.RowKit
theorem Chg.gro {b : Nat} {w w' : World} (k : Chg b w w') : w.grownBy w' (some b) := ⟨k.os, k.tape, k.output, by rw [k.size]; exact Nat.le_refl _, fun q _ hq => k.other q fun e => hq (by rw [e])⟩
end Go.Md
namespace Go.Md
open Go Go.RowKit
theorem Cs.gro0 {w0 w w' : World} {b o : Nat} {cs : List Value} {row : Option Nat} (h : Cs w0 b o cs) (k : Ext w0 w) (g : w.grownBy w' row) (hr : ∀ q, row = some q → w0.heap.size ≤ q) : Cs w' b o cs := fun j c hc => by
  have h1 := h j c hc
  have hlt := World.block_lt_of_cell? w0 _ h1
  have hlt' : b < w0.heap.size := hlt
  have e1 : w'.heap[b]? = w0.heap[b]? := (g.block b (Nat.lt_of_lt_of_le hlt' k.size) fun e => by have := hr b e.symm; omega).trans (k.block b hlt')
  exact (World.cell?_of_block (a := ⟨b, o + j, none⟩) e1).trans h1
end Go.Md
