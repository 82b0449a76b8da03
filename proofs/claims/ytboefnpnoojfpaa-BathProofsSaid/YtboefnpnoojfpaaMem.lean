/-
  Memory in a walk: worlds as variables, facts on blocks, cells, and values that read as data. No condition: lemmas about the model.
-/
import Derived.Test.YtboefnpnoojfpaaBase
namespace Go.Md
open Go Go.RowKit

/-! ### Worlds -/
/-- All that was there is there, unchanged. -/
abbrev Ext (w w' : World) : Prop := Below w.heap.size w w'

theorem Ext.refl (w : World) : Ext w w := Below.refl _ _
theorem Ext.tr {a b c : World} (h : Ext a b) (k : Ext b c) : Ext a c := h.trans (k.mono h.size)
theorem Ext.alloc (w : World) (o : Obj) : Ext w (w.alloc o) := (Below.refl _ _).alloc (Nat.le_refl _) o
theorem Ext.drew (w : World) : Ext w w.drew := (Below.refl _ _).drew
/-- Below B, then a world in which all is unchanged. -/
theorem blt {B : Nat} {a b c : World} (h : Below B a b) (hB : B ≤ b.heap.size) (k : Ext b c) : Below B a c := h.trans (k.mono hB)

/-- Only block b may have changed; nothing is new. -/
structure Chg (b : Nat) (w w' : World) : Prop where
  os : w'.os = w.os
  tape : w'.tape = w.tape
  output : w'.output = w.output
  size : w'.heap.size = w.heap.size
  other : ∀ k, k ≠ b → w'.heap[k]? = w.heap[k]?

theorem Chg.below {b : Nat} {w w' : World} (h : Chg b w w') {B : Nat} (hb : B ≤ b) : Below B w w' :=
  ⟨h.os, h.tape, h.output, by rw [h.size]; exact Nat.le_refl _, fun k hk => h.other k (by omega)⟩

/-- Block b is a row of these cells. -/
def Bx (w : World) (b : Nat) (T : TypeId) (cs : List Value) : Prop := w.heap[b]? = some (.cells cs.toArray T (0, 0))

theorem Bx.lt {w : World} {b : Nat} {T : TypeId} {cs : List Value} (h : Bx w b T cs) : b < w.heap.size := by
  rcases Nat.lt_or_ge b w.heap.size with h' | h'
  · exact h'
  · simp [Bx, Array.getElem?_eq_none h'] at h
theorem Bx.below {w w' : World} {b : Nat} {T : TypeId} {cs : List Value} (h : Bx w b T cs) {B : Nat} (k : Below B w w') (hb : b < B) : Bx w' b T cs := (k.block b hb).trans h
theorem Bx.ext {w w' : World} {b : Nat} {T : TypeId} {cs : List Value} (h : Bx w b T cs) (k : Ext w w') : Bx w' b T cs := h.below k h.lt
theorem Bx.chg {w w' : World} {b c : Nat} {T : TypeId} {cs : List Value} (h : Bx w b T cs) (k : Chg c w w') (hne : b ≠ c) : Bx w' b T cs := (k.other b hne).trans h
theorem Bx.new (w : World) (T : TypeId) (cs : List Value) : Bx (w.alloc (.cells cs.toArray T (0, 0))) w.heap.size T cs := by
  show (w.heap.push _)[w.heap.size]? = _
  rw [Array.getElem?_push, if_pos rfl]

/-- These cells stand at this place. -/
def Cs (w : World) (b o : Nat) (cs : List Value) : Prop := ∀ j c, cs[j]? = some c → w.cell? ⟨b, o + j, none⟩ = some c

theorem Bx.cs {w : World} {b : Nat} {T : TypeId} {cs : List Value} (h : Bx w b T cs) : Cs w b 0 cs := fun j c hc => by
  simp only [World.cell?, Nat.zero_add]
  rw [show w.heap[b]? = _ from h]
  simpa using hc
theorem Cs.below {w w' : World} {b o : Nat} {cs : List Value} (h : Cs w b o cs) {B : Nat} (k : Below B w w') (hb : b < B) : Cs w' b o cs := fun j c hc => (k.cell (p := ⟨b, o + j, none⟩) hb).trans (h j c hc)
theorem Cs.ext {w w' : World} {b o : Nat} {cs : List Value} (h : Cs w b o cs) (k : Ext w w') : Cs w' b o cs := fun j c hc =>
  (k.cell (p := ⟨b, o + j, none⟩) (World.block_lt_of_cell? w _ (h j c hc))).trans (h j c hc)
theorem Cs.same {w w' : World} {b o : Nat} {cs : List Value} (h : Cs w b o cs) (k : w'.heap[b]? = w.heap[b]?) : Cs w' b o cs := fun j c hc =>
  (World.cell?_of_block (a := ⟨b, o + j, none⟩) k).trans (h j c hc)
theorem Cs.at {w : World} {b o : Nat} {cs : List Value} (h : Cs w b o cs) (j : Nat) {c : Value} (hc : cs[j]? = some c) : w.cell? ⟨b, o + j, none⟩ = some c := h j c hc

/-! ### Data -/
/-- A type whose values read as α. -/
class Enc (α : Type) where
  agg : Bool
  n : Nat
  rep : (Nat → Prop) → World → List Value → α → Prop
  len : ∀ {ok w cs x}, rep ok w cs x → cs.length = n
  one : ∀ {ok w cs x}, rep ok w cs x → ∀ c ∈ cs, c.oneCell' = true
  sgl : agg = false → n = 1
  keep : ∀ {ok w w' cs x}, (∀ b, ok b → b < w.heap.size → w'.heap[b]? = w.heap[b]?) → w.heap.size ≤ w'.heap.size → rep ok w cs x → rep ok w' cs x
  mono : ∀ {ok ok' : Nat → Prop} {w cs x}, (∀ b, b < w.heap.size → ok b → ok' b) → rep ok w cs x → rep ok' w cs x

def Enc.val (α : Type) [Enc α] (cs : List Value) : Value := bif Enc.agg α then .agg cs.toArray else cs.getD 0 undef

theorem Enc.cells {α : Type} [Enc α] {ok w cs} {x : α} (h : Enc.rep ok w cs x) : (Enc.val α cs).cells = cs.toArray := by
  unfold Enc.val
  cases ha : Enc.agg α with
  | true => rfl
  | false =>
    have hl := Enc.len h
    rw [Enc.sgl ha] at hl
    match cs, hl with
    | [c], _ =>
      have h1 := Enc.one h c (by simp)
      show c.cells = #[c]
      cases c <;> first | rfl | simp [Value.oneCell'] at h1

/-- The value v reads as x; its memory lies in blocks that are 'ok'. -/
def RVo {α : Type} [Enc α] (ok : Nat → Prop) (w : World) (v : Value) (x : α) : Prop := ∃ cs, v = Enc.val α cs ∧ Enc.rep ok w cs x
def RV {α : Type} [Enc α] (w : World) (v : Value) (x : α) : Prop := RVo (fun _ => True) w v x

section
variable {α : Type} [Enc α] {ok ok' : Nat → Prop} {w w' : World} {v : Value} {x : α}
theorem RVo.keep (h : RVo ok w v x) (k : ∀ b, ok b → b < w.heap.size → w'.heap[b]? = w.heap[b]?) (hs : w.heap.size ≤ w'.heap.size) : RVo ok w' v x :=
  let ⟨cs, e, r⟩ := h
  ⟨cs, e, Enc.keep k hs r⟩
theorem RVo.ext (h : RVo ok w v x) (k : Ext w w') : RVo ok w' v x := h.keep (fun b _ hb => k.block b hb) k.size
theorem RVo.chg {b : Nat} (h : RVo ok w v x) (k : Chg b w w') (hb : ¬ ok b) : RVo ok w' v x := h.keep (fun c hc _ => k.other c (fun e => hb (e ▸ hc))) (by rw [k.size]; exact Nat.le_refl _)
theorem RVo.mono (h : RVo ok w v x) (hm : ∀ b, b < w.heap.size → ok b → ok' b) : RVo ok' w v x :=
  let ⟨cs, e, r⟩ := h
  ⟨cs, e, Enc.mono hm r⟩
theorem RVo.rv (h : RVo ok w v x) : RV w v x := h.mono fun _ _ _ => trivial
theorem RV.ext (h : RV w v x) (k : Ext w w') : RV w' v x := RVo.ext h k
theorem RV.old (h : RV w v x) : RVo (· < w.heap.size) w v x := RVo.mono h fun _ hb _ => hb
theorem RV.below (h : RV w v x) (k : Below w.heap.size w w') : RV w' v x := RV.ext h k
end

instance : Enc Int where
  agg := false
  n := 1
  rep _ _ cs x := cs = [.int .i64 x]
  len h := by subst h; rfl
  one h := by subst h; simp [Value.oneCell']
  sgl _ := rfl
  keep _ _ h := h
  mono _ h := h

instance : Enc Bool where
  agg := false
  n := 1
  rep _ _ cs x := cs = [.bool x]
  len h := by subst h; rfl
  one h := by subst h; simp [Value.oneCell']
  sgl _ := rfl
  keep _ _ h := h
  mono _ h := h

/-- What a slice's first address, and its elements, are. -/
def Els (α : Type) [Enc α] (ok : Nat → Prop) (w : World) (a : Option Addr) (l : List α) : Prop :=
  l = [] ∨ ∃ b off, a = some ⟨b, off, none⟩ ∧ ok b ∧ b < w.heap.size ∧ ∀ i x, l[i]? = some x → ∃ cs, Enc.rep ok w cs x ∧ Cs w b (off + i * Enc.n α) cs

theorem Els.keep {α : Type} [Enc α] {ok : Nat → Prop} {w w' : World} {a : Option Addr} {l : List α} (h : Els α ok w a l) (k : ∀ b, ok b → b < w.heap.size → w'.heap[b]? = w.heap[b]?) (hs : w.heap.size ≤ w'.heap.size) :
    Els α ok w' a l := by
  rcases h with rfl | ⟨b, off, e, hb, hlt, h⟩
  · exact .inl rfl
  · refine .inr ⟨b, off, e, hb, by omega, fun i x hx => ?_⟩
    obtain ⟨cs, h1, h2⟩ := h i x hx
    exact ⟨cs, Enc.keep k hs h1, h2.same (k b hb hlt)⟩

instance {α : Type} [Enc α] : Enc (List α) where
  agg := false
  n := 1
  rep ok w cs l := ∃ a cap, cs = [.slice a l.length cap] ∧ l.length ≤ cap ∧ cap ≤ maxLen ∧ Els α ok w a l
  len := by rintro ok w cs l ⟨a, cap, rfl, _⟩; rfl
  one := by rintro ok w cs l ⟨a, cap, rfl, _⟩; simp [Value.oneCell']
  sgl _ := rfl
  keep := by
    rintro ok w w' cs l k hs ⟨a, cap, rfl, h1, h2, h3⟩
    exact ⟨a, cap, rfl, h1, h2, h3.keep k hs⟩
  mono := by
    rintro ok ok' w cs l hm ⟨a, cap, rfl, h1, h2, h3⟩
    refine ⟨a, cap, rfl, h1, h2, ?_⟩
    rcases h3 with rfl | ⟨b, off, e, hb, hlt, h⟩
    · exact .inl rfl
    · refine .inr ⟨b, off, e, hm b hlt hb, hlt, fun i x hx => ?_⟩
      obtain ⟨cs, h1, h2⟩ := h i x hx
      exact ⟨cs, Enc.mono hm h1, h2⟩

theorem RVo.int {ok : Nat → Prop} {w : World} {v : Value} {x : Int} : RVo ok w v x ↔ v = .int .i64 x := by
  constructor
  · rintro ⟨cs, rfl, rfl⟩; rfl
  · rintro rfl; exact ⟨_, rfl, rfl⟩
theorem RVo.bool {ok : Nat → Prop} {w : World} {v : Value} {x : Bool} : RVo ok w v x ↔ v = .bool x := by
  constructor
  · rintro ⟨cs, rfl, rfl⟩; rfl
  · rintro rfl; exact ⟨_, rfl, rfl⟩
theorem RVo.sl {α : Type} [Enc α] {ok : Nat → Prop} {w : World} {v : Value} {l : List α} : RVo ok w v l ↔ ∃ a cap, v = .slice a l.length cap ∧ l.length ≤ cap ∧ cap ≤ maxLen ∧ Els α ok w a l := by
  constructor
  · rintro ⟨cs, rfl, a, cap, rfl, h⟩; exact ⟨a, cap, rfl, h⟩
  · rintro ⟨a, cap, rfl, h⟩; exact ⟨_, rfl, a, cap, rfl, h⟩
theorem RV.sl {α : Type} [Enc α] {w : World} {v : Value} {l : List α} (h : RV w v l) : ∃ a cap, v = .slice a l.length cap ∧ l.length ≤ cap ∧ cap ≤ maxLen ∧ Els α (fun _ => True) w a l := RVo.sl.1 h
theorem RVo.nil {α : Type} [Enc α] {ok : Nat → Prop} {w : World} {a : Option Addr} {cap : Nat} (hc : cap ≤ maxLen) : RVo ok w (.slice a 0 cap) ([] : List α) := RVo.sl.2 ⟨a, cap, rfl, Nat.zero_le _, hc, .inl rfl⟩

/-! ### Types of the program -/
/-- What the walk asks of a type: whether it is a struct or an array, its cells, its bytes, its zero value's cells. -/
structure TI (P : Program) (t : TypeId) (agg : Bool) (n bytes : Nat) (z : List Value) : Prop where
  ag : ∀ w, (isAgg t).run P w = .ok agg w
  info : ∃ i v, P.info? t = some i ∧ i.size = n ∧ i.bytes = bytes ∧ i.zero = some v ∧ v.cells = z.toArray ∧ v = bif agg then .agg z.toArray else z.getD 0 undef
  zlen : z.length = n

theorem TI.mk' {P : Program} {t : TypeId} {agg : Bool} {n bytes : Nat} {z : List Value} {d : TypeDesc} (hu : P.underlying t = some d)
    (ha : (match d with | .struct _ | .array _ _ => true | _ => false) = agg)
    (hi : (P.info? t).map (fun i => (i.size, i.bytes, i.zero)) = some (n, bytes, some (bif agg then .agg z.toArray else z.getD 0 undef)))
    (hc : (bif agg then Value.agg z.toArray else z.getD 0 undef).cells = z.toArray) (hl : z.length = n) : TI P t agg n bytes z := by
  refine ⟨fun w => by subst ha; simp only [isAgg, Sem.run_bind, run_underlying hu, Result.andThen_ok]; cases d <;> rfl, ?_, hl⟩
  obtain ⟨i, h1, h2⟩ := Option.map_eq_some_iff.1 hi
  simp only [Prod.mk.injEq] at h2
  exact ⟨i, _, h1, h2.1, h2.2.1, h2.2.2, hc, rfl⟩

section
variable {P : Program} {t : TypeId} {agg : Bool} {m bytes : Nat} {z : List Value}
theorem TI.size (h : TI P t agg m bytes z) (w : World) : (sizeOf t).run P w = .ok m w := by
  obtain ⟨i, v, hi, hn, _⟩ := h.info
  simp [sizeOf, typeInfo, hi, hn]
theorem TI.zero (h : TI P t agg m bytes z) (w : World) : ∃ v, (zeroValue t).run P w = .ok v w ∧ v.cells = z.toArray ∧ v = bif agg then .agg z.toArray else z.getD 0 undef := by
  obtain ⟨i, v, hi, _, _, hz, hc, hv⟩ := h.info
  exact ⟨v, by simp [zeroValue, typeInfo, hi, hz], hc, hv⟩
theorem TI.byts (h : TI P t agg m bytes z) (w : World) : ∃ i, (typeInfo t).run P w = .ok i w ∧ i.bytes = bytes ∧ i.size = m := by
  obtain ⟨i, v, hi, hn, hb, _⟩ := h.info
  exact ⟨i, by simp [typeInfo, hi], hb, hn⟩
end

theorem add_mk (b o i : Nat) : (⟨b, o, none⟩ : Addr).add i = ⟨b, o + i, none⟩ := by unfold Addr.add; split <;> simp_all

/-! ### Operations on memory -/
section
variable {P : Program} {Q : Exit → Act → World → Prop} {n : Nat} {L : Fr} {D : List Deferred} {w : World} {ops : Array Oper} {rest : List Oper}
variable {ty : TypeId} {pos : String} {af : Array Edge} {dst : Option Nat} {gd : Option (Nat × Bool)} {x y : Operand}

/-- A load of one cell. -/
theorem xld {t : TypeId} {b o m bytes : Nat} {z : List Value} {c : Value} (hp : ev n L x = .pointer (some ⟨b, o, none⟩)) (ht : TI P t false m bytes z) (hc : w.cell? ⟨b, o, none⟩ = some c) :
    (execOp (ev n L) { dst := dst, op := .load t x, type := ty, pos := pos, after := af, guard := gd }).run P w = .ok (.value c) w := by
  simp [execOp, hp, Instr.loadAt, Instr.sureAddr, loadVar, ht.ag, hc]

/-- A load of a struct or an array. -/
theorem xlda {t : TypeId} {b o m bytes : Nat} {z cs : List Value} (hp : ev n L x = .pointer (some ⟨b, o, none⟩)) (ht : TI P t true m bytes z) (hl : cs.length = m) (hc : Cs w b o cs) :
    (execOp (ev n L) { dst := dst, op := .load t x, type := ty, pos := pos, after := af, guard := gd }).run P w = .ok (.value (.agg cs.toArray)) w := by
  have h := run_loadCells_list (P := P) w ⟨b, o, none⟩ cs (fun j v hv => by rw [add_mk]; exact hc j v hv)
  rw [hl] at h
  simp [execOp, hp, Instr.loadAt, Instr.sureAddr, loadVar, ht.ag, ht.size, h]

/-- The address of a field. -/
structure FA (P : Program) (s : TypeId) (f off : Nat) : Prop where
  run : ∀ b o w, (Instr.fieldAt s (.pointer (some ⟨b, o, none⟩)) f).run P w = .ok (.pointer (some ⟨b, o + off, none⟩)) w

theorem FA.mk' {P : Program} {s f off : Nat}
    (h : ((P.underlying s).bind fun d => match d with | .struct fs => (fs[f]?).bind (fun fd => (P.info? fd.type).map fun i => (fd.offset, i.size == 0)) | _ => none) = some (off, false)) : FA P s f off :=
  ⟨fun b o w => by
    obtain ⟨d, hu, h⟩ := Option.bind_eq_some_iff.1 h
    cases d <;> simp only [reduceCtorEq] at h
    rename_i fs
    obtain ⟨fd, hf, h⟩ := Option.bind_eq_some_iff.1 h
    obtain ⟨i, hi, h⟩ := Option.map_eq_some_iff.1 h
    simp only [Prod.mk.injEq, beq_eq_false_iff_ne] at h
    simp [Instr.fieldAt, run_underlying hu, hf, Instr.sureAddr, fieldPlace, sizeOf, typeInfo, hi, h.2, add_mk, h.1]⟩

theorem xfa {s : TypeId} {b o f off : Nat} (hp : ev n L x = .pointer (some ⟨b, o, none⟩)) (hf : FA P s f off) :
    (execOp (ev n L) { dst := dst, op := .fieldAddr s x f, type := ty, pos := pos, after := af, guard := gd }).run P w = .ok (.value (.pointer (some ⟨b, o + off, none⟩))) w := by
  simp [execOp, hp, hf.run]

/-- The address of an element of an array. -/
theorem xixa {t e : TypeId} {b o len m bytes : Nat} {agg : Bool} {z : List Value} {k : IntKind} {i : Int} (hp : ev n L x = .pointer (some ⟨b, o, none⟩)) (hi : ev n L y = .int k i) (ht : P.underlying t = some (.array len e))
    (he : TI P e agg m bytes z) (h0 : 0 ≤ i) (h1 : i < len) :
    (execOp (ev n L) { dst := dst, op := .indexAddr t x y, type := ty, pos := pos, after := af, guard := gd }).run P w = .ok (.value (.pointer (some ⟨b, o + i.toNat * m, none⟩))) w := by
  simp [execOp, hp, hi, Instr.indexAt, asIntOf, run_underlying ht, Instr.sureAddr, h0, h1, he.size, add_mk]

/-- The address of an element of a slice. -/
theorem xixs {t e : TypeId} {b o len cap m bytes : Nat} {agg : Bool} {z : List Value} {k : IntKind} {i : Int} (hp : ev n L x = .slice (some ⟨b, o, none⟩) len cap) (hi : ev n L y = .int k i) (ht : P.underlying t = some (.slice e))
    (he : TI P e agg m bytes z) (h0 : 0 ≤ i) (h1 : i < len) :
    (execOp (ev n L) { dst := dst, op := .indexAddr t x y, type := ty, pos := pos, after := af, guard := gd }).run P w = .ok (.value (.pointer (some ⟨b, o + i.toNat * m, none⟩))) w := by
  simp [execOp, hp, hi, Instr.indexAt, asIntOf, run_underlying ht, h0, h1, he.size, add_mk]

/-- A new variable with a value. -/
theorem sbx {d : Nat} {t : TypeId} {v : Value} {cs : List Value} (hv : ev n L x = v) (hc : v.cells = cs.toArray)
    (k : ∀ b w', Ext w w' → w.heap.size ≤ b → Bx w' b t cs → wpList P ops Q rest (act n (upd L d (.pointer (some ⟨b, 0, none⟩))) D) w') :
    wpList P ops Q ({ dst := some d, op := .box t x, type := ty, pos := pos, after := af, guard := none } :: rest) (act n L D) w :=
  vl rfl rfl (w' := w.alloc (.cells cs.toArray t)) (v := .pointer (some ⟨w.heap.size, 0, none⟩)) (by simp [execOp, hv, Instr.box, newVar, newRow, hc]) (k _ _ (Ext.alloc _ _) (Nat.le_refl _) (Bx.new w t cs))

theorem sal {d : Nat} {t : TypeId} {agg : Bool} {m bytes : Nat} {z : List Value} (ht : TI P t agg m bytes z)
    (k : ∀ b w', Ext w w' → w.heap.size ≤ b → Bx w' b t z → wpList P ops Q rest (act n (upd L d (.pointer (some ⟨b, 0, none⟩))) D) w') :
    wpList P ops Q ({ dst := some d, op := .alloc t, type := ty, pos := pos, after := af, guard := none } :: rest) (act n L D) w := by
  obtain ⟨v, hv, hc, _⟩ := ht.zero w
  exact vl rfl rfl (w' := w.alloc (.cells z.toArray t)) (v := .pointer (some ⟨w.heap.size, 0, none⟩)) (by simp [execOp, Instr.alloc, hv, newVar, newRow, hc]) (k _ _ (Ext.alloc _ _) (Nat.le_refl _) (Bx.new w t z))

def splice (cur : List Value) (o : Nat) (vs : List Value) : List Value := cur.take o ++ vs ++ cur.drop (o + vs.length)

theorem run_store {t T : TypeId} {agg : Bool} {b o m bytes : Nat} {z cur vs : List Value} {v : Value} (ht : TI P t agg m bytes z) (hb : Bx w b T cur) (hv : v.cells = vs.toArray) (hl : vs.length = m)
    (h1 : vs.all Value.oneCell' = true) (hfit : o + vs.length ≤ cur.length) :
    ∃ w', (storeVar t ⟨b, o, none⟩ v).run P w = .ok () w' ∧ Chg b w w' ∧ Bx w' b T (splice cur o vs) := by
  have h := run_storeCells_at P b o T vs 0 cur.toArray w hb (by simpa using hfit) (fun v hv => List.all_eq_true.1 h1 v hv)
  refine ⟨w.setRow b (splice cur o vs).toArray, ?_, ⟨rfl, rfl, rfl, by simp, fun k hk => setRow_other _ _ _ _ hk⟩, setRow_heap w b cur.toArray (splice cur o vs).toArray T _ hb⟩
  simp only [storeVar, Sem.run_bind, ht.size, Result.andThen_ok, hv]
  simp only [List.size_toArray, hl, ne_eq, not_true_eq_false, if_false]
  simpa [splice] using h

/-- A store into a variable of the call's own. -/
theorem sst {t T : TypeId} {agg : Bool} {b o m bytes : Nat} {z cur vs : List Value} {v : Value} (hp : ev n L x = .pointer (some ⟨b, o, none⟩)) (hy : ev n L y = v) (hv : v.cells = vs.toArray) (ht : TI P t agg m bytes z) (hb : Bx w b T cur)
    (hl : vs.length = m) (h1 : vs.all Value.oneCell' = true) (hfit : o + vs.length ≤ cur.length)
    (k : ∀ w', Chg b w w' → Bx w' b T (splice cur o vs) → wpList P ops Q rest (act n L D) w') :
    wpList P ops Q ({ dst := none, op := .store t x y, type := ty, pos := pos, after := af, guard := none } :: rest) (act n L D) w := by
  obtain ⟨w', hr, hc, hb'⟩ := run_store (o := o) ht hb hv hl h1 hfit
  exact sk rfl rfl (w' := w') (by simp [execOp, hp, hy, Instr.storeAt, Instr.sureAddr, hr]) (k w' hc hb')
end
end Go.Md
