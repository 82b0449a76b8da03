/-
  Slices of whole arrays. No condition: lemmas about the model.
-/
import Derived.Test.YtboefnpnoojfpaaSeqm
import Derived.Test.YtboefnpnoojfpaaCopy
namespace Go.Md
open Go Go.RowKit
section
variable {P : Program} {n : Nat} {L : Fr} {w : World} {ty : TypeId} {pos : String} {af : Array Edge} {dst : Option Nat} {gdd : Option (Nat × Bool)} {x : Operand} {α : Type} [Enc α] [Flat α]

omit [Enc α] [Flat α] in
theorem xslw {t e m k bytes b : Nat} {agg : Bool} {zz : List Value} {X : Ar m α} (hx : ev n L x = .pointer (some ⟨b, 0, none⟩)) (ht : P.underlying t = some (.array m e)) (he : TI P e agg k bytes zz) (hm : Nat.blt 0 m = true) :
    (execOp (ev n L) { dst := dst, op := .slice t x none none none, type := ty, pos := pos, after := af, guard := gdd }).run P w = .ok (.value (.slice (some ⟨b, 0, none⟩) X.l.length m)) w := by
  have h1 : 0 < m := by simpa [Nat.blt_eq] using hm
  have h3 : ¬ (m = 0) := by omega
  have hl : X.l.length = m := X.h
  simp [execOp, hx, Instr.sliceAt, Instr.sureAddr, run_underlying ht, Instr.sliceBounds, he.size, add_mk, hl]

theorem Bx.arsl {m b : Nat} {T : TypeId} {X : Ar m α} (hb : Bx w b T (X.l.flatMap Flat.enc)) (hm : m ≤ maxLen) : RV w (.slice (some ⟨b, 0, none⟩) X.l.length m) X.l := by
  refine RV.of1 (by rw [X.h]; exact Nat.le_refl _) hm (.inr ⟨b, 0, rfl, trivial, hb.lt, fun i x hx => ?_⟩)
  have hix : ix X.l (i : Int) = some x := by simp [ix, hx]
  obtain ⟨_, _, hc⟩ := ixar (Bx.cs hb) hix
  exact ⟨Flat.enc x, Flat.iff.2 rfl, by simpa using hc⟩
theorem arall1 {m k q : Nat} (X : Ar m α) (hk : m * Enc.n α = k) : [((q, .agg (X.l.flatMap Flat.enc).toArray) : Nat × Value)].all (fun p => Nat.beq p.2.cells.size k) = true := by
  have : (X.l.flatMap Flat.enc).length = k := by rw [Flat.flen, X.h, hk]
  simp [Value.cells, this]
theorem Cs.tl {b o : Nat} {v : Value} {cs : List Value} (h : Cs w b o (v :: cs)) : Cs w b (o + 1) cs := fun j c hc => by
  have := h (j + 1) c (by simpa using hc)
  rwa [show o + (j + 1) = o + 1 + j by omega] at this
end
section
variable {P : Program} {Q : Exit → Act → World → Prop} {n : Nat} {L : Fr} {D : List Deferred} {w : World} {ops : Array Oper} {rest : List Oper} {ty : TypeId} {pos : String} {af : Array Edge} {x y : Operand} {α : Type} [Enc α] [Flat α]
/-- A store of flat data into a whole variable. -/
theorem sstf {t T : TypeId} {b k bytes : Nat} {agg : Bool} {z cur : List Value} {u : α} (hp : ev n L x = .pointer (some ⟨b, 0, none⟩)) (hy : ev n L y = fv u) (ht : TI P t agg k bytes z) (hk : k = Enc.n α) (hb : Bx w b T cur) (hc : cur.length = k)
    (cont : ∀ w', Chg b w w' → Bx w' b T (Flat.enc u) → wpList P ops Q rest (act n L D) w') :
    wpList P ops Q ({ dst := none, op := .store t x y, type := ty, pos := pos, after := af, guard := none } :: rest) (act n L D) w :=
  sst hp hy (cells_fv u) ht hb (by rw [Flat.len, hk]) (List.all_eq_true.2 (Flat.one u)) (by rw [Flat.len, ← hk, hc]; omega) fun w' h2 h3 => cont w' h2 (by
    have : splice cur 0 (Flat.enc u) = Flat.enc u := by simp [splice, Flat.len, ← hk, ← hc]
    rwa [this] at h3)
end

/-! ### Maps: literals, a nil map that is cleared -/
section
variable {P : Program} {Q : Exit → Act → World → Prop} {n : Nat} {L : Fr} {D : List Deferred} {w : World} {ops : Array Oper} {rest : List Oper} {ty : TypeId} {pos : String} {af : Array Edge} {x y z : Operand}
variable {κ ν : Type} [DecidableEq κ] [Enc κ] [Flat κ] [Key κ] [Enc ν] [Flat ν] {t tk te : TypeId}
theorem smin {b : Nat} {l : List (κ × ν)} {k : κ} {v : ν} (hx : ev n L x = .map (some b)) (hy : ev n L y = fv k) (hz : ev n L z = fv v) (ht : P.underlying t = some (.map tk te)) (K : KT P tk κ) (h : Mp w b l) (hk : Key.ok k = true)
    (cont : ∀ w', Chg b w w' → Mp w' b (mput l k v) → wpList P ops Q rest (act n L D) w') :
    wpList P ops Q ({ dst := none, op := .insert t x y z, type := ty, pos := pos, after := af, guard := none } :: rest) (act n L D) w := by
  obtain ⟨w', hr, h1, h2⟩ := run_mput (v := v) ht K h hk
  refine wpList_plain rfl fun K hK => ?_
  simp only [Oper.wp, ev_act, execOp, hx, hy, hz, Sem.run_bind, hr, Result.andThen, Oper.upon]
  exact hK _ _ (cont w' h1 h2)
theorem scln (hx : ev n L x = .map none) (ht : P.underlying t = some (.map tk te)) (cont : wpList P ops Q rest (act n L D) w) :
    wpList P ops Q ({ dst := none, op := .call { callee := .builtin .clear, args := #[x], argTypes := #[t] }, type := ty, pos := pos, after := af, guard := none } :: rest) (act n L D) w := by
  have hr : (Builtin.clear_ #[t] ty #[.map none]).run P w = .ok (.tuple #[]) w := by simp [Builtin.clear_, run_underlying ht, Result.andThen]
  refine wpList_plain rfl fun K hK => ?_
  simp only [Oper.wp, ev_act, execOp, resolve, invoke, Go.builtin, List.map_toArray, List.map_cons, List.map_nil, hx, Sem.run_bind, Sem.run_pure, hr, Result.andThen, Oper.upon]
  exact hK _ _ cont
end
section
variable {a t N B : Nat} {w w1 : World}
theorem Mp.keepc {κ ν : Type} [DecidableEq κ] [Enc κ] [Flat κ] [Key κ] [Enc ν] [Flat ν] {q : Nat} {l : List (κ × ν)} (h : Mp w q l) (k : KeepC a t w w1) (hq : q < a ∨ t ≤ q) : Mp w1 q l := by
  obtain ⟨es, c, h1, r⟩ := h
  exact ⟨es, c, k.block q _ h1 nofun hq, r⟩
theorem Bx.keep2 {q : Nat} {T : TypeId} {cs : List Value} (h : Bx w q T cs) (k : KeepC a t w w1) (hq : q < a ∨ t ≤ q) : Bx w1 q T cs := k.block q _ h nofun hq
theorem Ext.belx {w0 : World} {b c : Nat} (h : Ext w0 w) (k : BelX N b c w w1) (hN : w0.heap.size ≤ N) (hb : w0.heap.size ≤ b) (hc : w0.heap.size ≤ c) : Ext w0 w1 := h.trans (k.below hN hb hc)
theorem KpOk.and {K1 K2 : World → World → Prop} (h1 : KpOk B K1) (h2 : KpOk B K2) : KpOk B (fun A C => K1 A C ∧ K2 A C) :=
  ⟨fun h k => ⟨h1.trans h.1 k.1, h2.trans h.2 k.2⟩, fun h k => ⟨h1.ext h k, h2.ext h k⟩, fun h k c => ⟨h1.put h k c, h2.put h k c⟩⟩
end

/-! ### A pointer that is nil, or points to a new variable whose last cell is a nil map -/
def FBm {α : Type} (T : TypeId) (base : Nat) (w : World) (v : Value) (cs : List Value) (x : Ob α) : Prop :=
  match x.v with
  | none => v = .pointer none
  | some _ => ∃ b : Nat, v = .pointer (some ⟨b, 0, none⟩) ∧ base ≤ b ∧ Bx w b T (cs ++ [.map none])
section
variable {α : Type} {T : TypeId} {base : Nat} {w : World} {cs : List Value}
theorem FBm.nil : FBm T base w (.pointer none) cs (⟨none⟩ : Ob α) := rfl
theorem FBm.mk {b : Nat} {y : α} (h1 : base ≤ b) (h2 : Bx w b T (cs ++ [.map none])) : FBm T base w (.pointer (some ⟨b, 0, none⟩)) cs (⟨some y⟩ : Ob α) := ⟨b, rfl, h1, h2⟩
theorem FBm.get {v : Value} {x : Ob α} {y : α} (h : FBm T base w v cs x) (hy : x.v = some y) : ∃ b : Nat, v = .pointer (some ⟨b, 0, none⟩) ∧ base ≤ b ∧ Bx w b T (cs ++ [.map none]) := by
  unfold FBm at h
  rwa [hy] at h
end

/-! ### Rows of the call's own whose elements read in old memory alone -/
def Oko (lo : Nat) (v : Value) (b : Nat) : Prop := b < lo ∧ some b ≠ v.ownBlock
def DRowO {α : Type} [Enc α] (lo : Nat) (e : TypeId) (base : Nat) (w : World) (v : Value) (l : List α) : Prop :=
  ∃ S : List (Cl (Enc.n α)), Row (α := Cl (Enc.n α)) e base w v S ∧ S.length = l.length ∧ ∀ (i : Nat) (s : Cl (Enc.n α)) (x : α), S[i]? = some s → l[i]? = some x → Enc.rep (Oko lo v) w s.l x
section
variable {α : Type} [Enc α] {lo base : Nat} {e : TypeId} {w w' : World} {v v2 : Value} {l k : List α}
theorem DRowO.d (h : DRowO lo e base w v l) : DRow lo e base w v l := by
  obtain ⟨S, h1, h2, h3⟩ := h
  exact ⟨S, h1, h2, fun i s x a b => Enc.mono (fun q _ hq => ⟨.inl hq.1, hq.2⟩) (h3 i s x a b)⟩
theorem DRowO.nil : DRowO lo e base w (.slice none 0 0) ([] : List α) := ⟨[], Row.nil, rfl, by simp⟩
theorem DRowO.ext (h : DRowO lo e base w v l) (k : Ext w w') : DRowO lo e base w' v l := by
  obtain ⟨S, h1, h2, h3⟩ := h
  exact ⟨S, h1.ext k, h2, fun i s x a b => Enc.keep (fun q _ hq => k.block q hq) k.size (h3 i s x a b)⟩
theorem DRowO.lt (h : DRowO lo e base w v l) : ∀ q, v.ownBlock = some q → base ≤ q ∧ q < w.heap.size := h.d.lt
theorem DRowO.own_lt (h : DRowO lo e base w v l) : ∀ q, v.ownBlock = some q → q < w.heap.size := h.d.own_lt
theorem DRowO.sl (h : DRowO lo e base w v l) : ∃ a cap, v = .slice a l.length cap := h.d.sl
theorem DRowO.rv (h : DRowO lo e base w v l) : RV w v l := h.d.rv
theorem DRowO.geo (h : DRowO lo e base w v l) (hb : lo ≤ base) : ∀ q, v.ownBlock = some q → lo ≤ q := h.d.geo hb
theorem DRowO.bnd {B : Nat} (h : DRowO lo e base w v l) (hB : B ≤ base) : DRowO lo e B w v l := by
  obtain ⟨S, h1, h2, h3⟩ := h
  exact ⟨S, h1.bnd hB, h2, h3⟩
theorem DRowO.ne_new {b : Nat} (h : DRowO lo e base w v l) (hb : w.heap.size ≤ b) : some b ≠ v.ownBlock := h.d.ne_new hb
theorem DRowO.ne_old {b : Nat} (h : DRowO lo e base w v l) (hb : b < base) : some b ≠ v.ownBlock := h.d.ne_old hb
/-- A variable of the call's own is written. -/
theorem DRowO.chgb {b : Nat} (h : DRowO lo e base w v l) (c : Chg b w w') (h1 : lo ≤ b) (h2 : some b ≠ v.ownBlock) : DRowO lo e base w' v l := by
  obtain ⟨S, g1, g2, g3⟩ := h
  refine ⟨S, g1.chgn c h2, g2, fun i s x a d => Enc.keep (fun q hq _ => c.other q fun e1 => ?_) (by rw [c.size]; exact Nat.le_refl _) (g3 i s x a d)⟩
  have := hq.1
  omega
theorem DRowO.chgo {b : Nat} (h : DRowO lo e base w v l) (c : Chg b w w') (h1 : lo ≤ b) (h2 : b < base) : DRowO lo e base w' v l := h.chgb c h1 (h.ne_old h2)
theorem RVo.okoO {β : Type} [Enc β] {c : Value} {y : β} (h : RVo (· < lo) w c y) (hv : ∀ q, v.ownBlock = some q → lo ≤ q) : RVo (Oko lo v) w c y :=
  h.mono fun b _ hq => ⟨hq, fun e1 => by have := hv b e1.symm; omega⟩
end
section
variable {P : Program} {Q : Exit → Act → World → Prop} {n : Nat} {L : Fr} {D : List Deferred} {w : World} {ops : Array Oper} {rest : List Oper}
variable {ty : TypeId} {pos : String} {af : Array Edge} {x y : Operand}
variable {α : Type} [Enc α]
/-- An append to a row whose elements point to other memory. -/
theorem sapdO {d : Nat} {st e : TypeId} {agg : Bool} {bytes base lo : Nat} {z : List Value} {v : Value} {a : Option Addr} {cap : Nat} {l k r : List α} (hs : ev n L x = v) (hy : ev n L y = .slice a k.length cap) (ht : P.underlying st = some (.slice e))
    (he : TI P e agg (Enc.n α) bytes z) (hm : Nat.ble 1 (Enc.n α) = true) (hb1 : Nat.ble 1 bytes = true) (hrow : DRowO lo e base w v l) (hk : ElsD (Oko lo v) w a k) (hr : app bytes l k = some r) (hbase : base ≤ w.heap.size)
    (cont : ∀ v' w', DRowO lo e base w' v' r → Below base w w' → w.grownBy w' v.ownBlock → (v'.ownBlock = v.ownBlock ∨ ∃ g, v'.ownBlock = some g ∧ w.heap.size ≤ g) → wpList P ops Q rest (act n (upd L d v') D) w') :
    wpList P ops Q ({ dst := some d, op := .call { callee := .builtin .append, args := #[x, y], argTypes := #[st, st] }, type := ty, pos := pos, after := af, guard := none } :: rest) (act n L D) w := by
  obtain ⟨hb, rfl⟩ := app_spec hr
  obtain ⟨S, h1, h2, h3⟩ := hrow
  have hK : ∃ K : List (Cl (Enc.n α)), K.length = k.length ∧ Els (Cl (Enc.n α)) (fun _ => True) w a K ∧ ∀ (i : Nat) (s : Cl (Enc.n α)) (x : α), K[i]? = some s → k[i]? = some x → Enc.rep (Oko lo v) w s.l x := by
    rcases hk with rfl | ⟨b, off, rfl, hk⟩
    · exact ⟨[], rfl, .inl rfl, by simp⟩
    · obtain ⟨K, k1, k2⟩ := pickl (p := fun i x (s : Cl (Enc.n α)) => Enc.rep (Oko lo v) w s.l x ∧ Cs w b (off + i * Enc.n α) s.l) k 0 (fun i x hx => by
        obtain ⟨cs, c1, c2⟩ := hk i x hx
        exact ⟨⟨cs, Enc.len c1, Enc.one c1⟩, c1, by simpa using c2⟩)
      refine ⟨K, k1, ?_, fun i s x hs hx => (k2 i x s hx hs).1⟩
      by_cases h0 : K = []
      · exact .inl h0
      · have hm' : 0 < Enc.n α := Nat.le_of_ble_eq_true hm
        obtain ⟨s0, hs0⟩ : ∃ s, K[0]? = some s := ⟨K[0]'(List.length_pos_iff.2 h0), List.getElem?_eq_getElem _⟩
        have hx0 : ∃ x, k[0]? = some x := ⟨k[0]'(by rw [← k1]; exact List.length_pos_iff.2 h0), List.getElem?_eq_getElem _⟩
        obtain ⟨x0, hx0⟩ := hx0
        have hc0 := (k2 0 x0 s0 hx0 hs0).2
        have hl0 : 0 < s0.l.length := by rw [s0.h]; exact hm'
        refine .inr ⟨b, off, rfl, trivial, World.block_lt_of_cell? w ⟨b, off + (0 + 0) * Enc.n α + 0, none⟩ (hc0 0 s0.l[0] (List.getElem?_eq_getElem hl0)), fun i s hs => ⟨s.l, rfl, ?_⟩⟩
        have hi : i < k.length := by rw [← k1]; exact (List.getElem?_eq_some_iff.1 hs).1
        have := (k2 i _ s (List.getElem?_eq_getElem hi) hs).2
        rw [Nat.zero_add] at this
        exact this
  obtain ⟨K, k1, k2, k3⟩ := hK
  obtain ⟨v', w', hrun, hrow', hg, ho⟩ := run_app (α := Cl (Enc.n α)) (ty := ty) (cap := cap) ht he (Nat.le_of_ble_eq_true hm) (Nat.le_of_ble_eq_true hb1) h1 k2 (by rw [h2, k1]; exact hb) hbase
  rw [k1] at hrun
  refine vl rfl rfl (v := v') (w' := w') (by simp [execOp, resolve, invoke, Go.builtin, hs, hy, hrun]) (cont v' w' ⟨S ++ K, hrow', by simp [h2, k1], fun i s x a b => ?_⟩ ⟨hg.os, hg.tape, hg.output, hg.size, fun q hq => hg.block q (by omega) (fun e2 => ?_)⟩ hg ho)
  · have hrep : Enc.rep (Oko lo v) w s.l x := by
      rw [List.getElem?_append] at a b
      rw [← h2] at b
      split at a
      · rename_i hi
        rw [if_pos hi] at b
        exact h3 i s x a b
      · rename_i hi
        rw [if_neg hi] at b
        exact k3 _ s x a b
    have hrep' : Enc.rep (fun q => Oko lo v q ∧ some q ≠ v'.ownBlock) w s.l x := Enc.mono (fun q hq hok => ⟨hok, fun e1 => by
      rcases ho with h | ⟨g, h, hgg⟩
      · exact hok.2 (by rw [← h]; exact e1)
      · rw [h] at e1
        cases e1
        omega⟩) hrep
    have := Enc.keep (w' := w') (fun q hok hq => hg.block q hq hok.1.2) hg.size hrep'
    exact Enc.mono (fun q _ hok => ⟨hok.1.1, hok.2⟩) this
  · have := h1.lt q e2.symm
    omega
end
end Go.Md
