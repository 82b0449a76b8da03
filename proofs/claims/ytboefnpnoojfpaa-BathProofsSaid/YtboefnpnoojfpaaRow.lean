/-
  Structs, arrays, literals, rows that grow, and small pure words. No condition: lemmas about the model.
-/
import Derived.Test.YtboefnpnoojfpaaMem
import Derived.Great.FillDense
import Derived.Laws.OwnMore
import Derived.Laws.MakeOwn
import Derived.Laws.CopyOwn
namespace Go.Md
open Go Go.RowKit

/-! ### Pure words -/
theorem bs {α β : Type} {o : Option α} {f : α → Option β} {r : β} (h : (o >>= f) = some r) : ∃ x, o = some x ∧ f x = some r := Option.bind_eq_some_iff.1 h
theorem ifp {α : Type} {c : Bool} {a b : Option α} {r : α} (h : (if c = true then a else b) = some r) (hc : c = true) : a = some r := by rwa [if_pos hc] at h
theorem ifn {α : Type} {c : Bool} {a b : Option α} {r : α} (h : (if c = true then a else b) = some r) (hc : c = false) : b = some r := by rwa [if_neg (by simp [hc])] at h
/-- A guarded value. -/
def gd {α : Type} (c : Bool) (o : Option α) (d : α) : Option α := bif c then o else some d
theorem gdp {α : Type} {c : Bool} {o : Option α} {d r : α} (h : gd c o d = some r) (hc : c = true) : o = some r := by subst hc; exact h
abbrev w64 (n : Int) : Int := IntKind.i64.wrap n
/-- An element of a list by a number. -/
def ix {α : Type} (l : List α) (i : Int) : Option α := if 0 ≤ i then l[i.toNat]? else none
theorem ix_spec {α : Type} {l : List α} {i : Int} {x : α} (h : ix l i = some x) : 0 ≤ i ∧ i < l.length ∧ l[i.toNat]? = some x := by
  unfold ix at h
  split at h
  · rename_i h0
    have := (List.getElem?_eq_some_iff.1 h).1
    exact ⟨h0, by omega, h⟩
  · cases h
/-- A list and another one behind it, if there is room for so many elements of so many bytes. -/
def app {α : Type} (bytes : Nat) (l k : List α) : Option (List α) := if (l.length + k.length) * bytes ≤ 140737488355328 then some (l ++ k) else none
theorem app_spec {α : Type} {bytes : Nat} {l k r : List α} (h : app bytes l k = some r) : (l.length + k.length) * bytes ≤ 140737488355328 ∧ r = l ++ k := by
  unfold app at h
  split at h
  · rename_i h0; exact ⟨h0, by cases h; rfl⟩
  · cases h
def quo (a b : Int) : Option Int := if b = 0 then none else some (w64 (a.tdiv b))
theorem quo_spec {a b r : Int} (h : quo a b = some r) : b ≠ 0 ∧ r = w64 (a.tdiv b) := by
  unfold quo at h; split at h <;> cases h; exact ⟨by assumption, rfl⟩
def rem (a b : Int) : Option Int := if b = 0 then none else some (a.tmod b)
theorem rem_spec {a b r : Int} (h : rem a b = some r) : b ≠ 0 ∧ r = a.tmod b := by
  unfold rem at h; split at h <;> cases h; exact ⟨by assumption, rfl⟩

/-! ### More data -/
instance {α β : Type} [Enc α] [Enc β] : Enc (α × β) where
  agg := true
  n := Enc.n α + Enc.n β
  rep ok w cs x := ∃ c1 c2, cs = c1 ++ c2 ∧ Enc.rep ok w c1 x.1 ∧ Enc.rep ok w c2 x.2
  len := by rintro ok w cs x ⟨c1, c2, rfl, h1, h2⟩; simp [Enc.len h1, Enc.len h2]
  one := by
    rintro ok w cs x ⟨c1, c2, rfl, h1, h2⟩ c hc
    rcases List.mem_append.1 hc with hc | hc
    · exact Enc.one h1 c hc
    · exact Enc.one h2 c hc
  sgl h := by cases h
  keep := by rintro ok w w' cs x k hs ⟨c1, c2, rfl, h1, h2⟩; exact ⟨c1, c2, rfl, Enc.keep k hs h1, Enc.keep k hs h2⟩
  mono := by rintro ok ok' w cs x hm ⟨c1, c2, rfl, h1, h2⟩; exact ⟨c1, c2, rfl, Enc.mono hm h1, Enc.mono hm h2⟩

/-- A number of another kind than int. -/
structure KI (k : IntKind) where
  v : Int
deriving DecidableEq
instance {k : IntKind} : Inhabited (KI k) := ⟨⟨0⟩⟩
instance {k : IntKind} : Enc (KI k) where
  agg := false
  n := 1
  rep _ _ cs x := cs = [.int k x.v]
  len h := by subst h; rfl
  one h := by subst h; simp [Value.oneCell']
  sgl _ := rfl
  keep _ _ h := h
  mono _ h := h

/-- Elements whose cells do not lean on memory. -/
class Flat (α : Type) [Enc α] where
  enc : α → List Value
  iff : ∀ {ok w cs x}, Enc.rep ok w cs x ↔ cs = enc x
instance : Flat Int := ⟨fun x => [.int .i64 x], Iff.rfl⟩
instance : Flat Bool := ⟨fun x => [.bool x], Iff.rfl⟩
instance {k : IntKind} : Flat (KI k) := ⟨fun x => [.int k x.v], Iff.rfl⟩
instance {α β : Type} [Enc α] [Enc β] [Flat α] [Flat β] : Flat (α × β) := ⟨fun x => Flat.enc x.1 ++ Flat.enc x.2, by
  intro ok w cs x
  constructor
  · rintro ⟨c1, c2, rfl, h1, h2⟩; rw [Flat.iff.1 h1, Flat.iff.1 h2]
  · rintro rfl; exact ⟨_, _, rfl, Flat.iff.2 rfl, Flat.iff.2 rfl⟩⟩

theorem Flat.len {α : Type} [Enc α] [Flat α] (x : α) : (Flat.enc x).length = Enc.n α := Enc.len (ok := fun _ => True) (w := default) (Flat.iff.2 rfl)
theorem Flat.one {α : Type} [Enc α] [Flat α] (x : α) : ∀ c ∈ Flat.enc x, c.oneCell' = true := Enc.one (ok := fun _ => True) (w := default) (Flat.iff.2 rfl)
theorem Flat.flen {α : Type} [Enc α] [Flat α] (l : List α) : (l.flatMap Flat.enc).length = l.length * Enc.n α := by
  induction l with
  | nil => simp
  | cons x l ih => simp [ih, Flat.len, Nat.add_mul, Nat.add_comm]

/-- An array of a fixed length. -/
structure Ar (m : Nat) (α : Type) where
  l : List α
  h : l.length = m
instance {m : Nat} {α : Type} [DecidableEq α] : DecidableEq (Ar m α) := fun a b =>
  if h : a.l = b.l then .isTrue (by cases a; cases b; cases h; rfl) else .isFalse (fun e => h (by rw [e]))
def Ar.fill (m : Nat) {α : Type} (x : α) : Ar m α := ⟨List.replicate m x, by simp⟩
instance {m : Nat} {α : Type} [Inhabited α] : Inhabited (Ar m α) := ⟨Ar.fill m default⟩
def aset {m : Nat} {α : Type} (X : Ar m α) (i : Int) (x : α) : Ar m α := ⟨X.l.set i.toNat x, by rw [List.length_set, X.h]⟩
def rset {α : Type} (l : List α) (i : Int) (x : α) : List α := l.set i.toNat x
instance {m : Nat} {α : Type} [Enc α] [Flat α] : Enc (Ar m α) where
  agg := true
  n := m * Enc.n α
  rep _ _ cs x := cs = x.l.flatMap Flat.enc
  len := by rintro ok w cs x rfl; rw [Flat.flen, x.h]
  one := by
    rintro ok w cs x rfl c hc
    obtain ⟨y, _, hy⟩ := List.mem_flatMap.1 hc
    exact Flat.one y c hy
  sgl h := by cases h
  keep _ _ h := h
  mono _ h := h
instance {m : Nat} {α : Type} [Enc α] [Flat α] : Flat (Ar m α) := ⟨fun x => x.l.flatMap Flat.enc, Iff.rfl⟩

theorem flat_at {α : Type} [Enc α] [Flat α] : ∀ (l : List α) (i : Nat) (x : α) (j : Nat) (c : Value), l[i]? = some x → (Flat.enc x)[j]? = some c → (l.flatMap Flat.enc)[i * Enc.n α + j]? = some c
  | [], i, x, j, c, h, _ => by simp at h
  | y :: l, 0, x, j, c, h, hc => by
    simp only [List.getElem?_cons_zero, Option.some.injEq] at h
    subst h
    have : j < (Flat.enc y).length := (List.getElem?_eq_some_iff.1 hc).1
    simp [List.getElem?_append_left this, hc]
  | y :: l, i + 1, x, j, c, h, hc => by
    simp only [List.getElem?_cons_succ] at h
    have ih := flat_at l i x j c h hc
    rw [List.flatMap_cons, List.getElem?_append_right (by rw [Flat.len, Nat.add_mul]; omega), Flat.len, show (i + 1) * Enc.n α + j - Enc.n α = i * Enc.n α + j by rw [Nat.add_mul]; omega]
    exact ih

/-- The elements of a slice that reads as a list. -/
theorem RV.els {α : Type} [Enc α] {w : World} {a : Option Addr} {n cap : Nat} {l : List α} (h : RV w (.slice a n cap) l) : Els α (fun _ => True) w a l := by
  obtain ⟨a', cap', e, _, _, h'⟩ := h.sl
  cases e
  exact h'
theorem RV.cap {α : Type} [Enc α] {w : World} {a : Option Addr} {n cap : Nat} {l : List α} (h : RV w (.slice a n cap) l) : n = l.length ∧ l.length ≤ cap ∧ cap ≤ maxLen := by
  obtain ⟨a', cap', e, h1, h2, h⟩ := h.sl
  cases e
  exact ⟨rfl, h1, h2⟩
theorem RV.rep1 {α : Type} [Enc α] {w : World} {v : Value} {l : List α} (h : RV w v l) : Enc.rep (fun _ => True) w [v] l := by
  obtain ⟨a, cap, rfl, h1, h2, h3⟩ := h.sl
  exact ⟨a, cap, rfl, h1, h2, h3⟩
theorem RV.of1 {α : Type} [Enc α] {w : World} {a : Option Addr} {cap : Nat} {l : List α} (h1 : l.length ≤ cap) (h2 : cap ≤ maxLen) (h3 : Els α (fun _ => True) w a l) : RV w (.slice a l.length cap) l := RVo.sl.2 ⟨a, cap, rfl, h1, h2, h3⟩
theorem Els.ix {α : Type} [Enc α] {ok : Nat → Prop} {w : World} {a : Option Addr} {l : List α} {i : Int} {x : α} (h : Els α ok w a l) (hi : ix l i = some x) :
    ∃ b off cs, a = some ⟨b, off, none⟩ ∧ 0 ≤ i ∧ i < l.length ∧ Enc.rep ok w cs x ∧ Cs w b (off + i.toNat * Enc.n α) cs := by
  obtain ⟨h0, h1, h2⟩ := ix_spec hi
  rcases h with rfl | ⟨b, off, e, _, _, h⟩
  · simp at h2
  · obtain ⟨cs, h3, h4⟩ := h _ x h2
    exact ⟨b, off, cs, e, h0, h1, h3, h4⟩

/-! ### Literals -/
def fillL (place : Nat → Option (Nat × Nat)) (cells : List Value) : List (Nat × List Value) → Option (List Value)
  | [] => some cells
  | (i, v) :: rest =>
    match place i with
    | none => none
    | some (off, size) => bif Nat.beq v.length size && Nat.ble (off + v.length) cells.length then fillL place (splice cells off v) rest else none

theorem fill_list {place : Nat → Option (Nat × Nat)} : ∀ (ps : List (Nat × Value)) (cells r : List Value), fillL place cells (ps.map fun p => (p.1, p.2.cells.toList)) = some r → Instr.fill place cells.toArray ps = some r.toArray
  | [], cells, r, h => by simp only [List.map_nil, fillL, Option.some.injEq] at h; subst h; rfl
  | (i, v) :: ps, cells, r, h => by
    simp only [List.map_cons, fillL] at h
    unfold Instr.fill
    cases hp : place i with
    | none => simp [hp] at h
    | some os =>
      obtain ⟨off, size⟩ := os
      simp only [hp] at h ⊢
      cases hb : (Nat.beq v.cells.toList.length size && Nat.ble (off + v.cells.toList.length) cells.length) with
      | false => rw [hb] at h; cases h
      | true =>
        rw [hb] at h
        simp only [Bool.and_eq_true, Nat.beq_eq, Nat.ble_eq, Array.length_toList] at hb
        rw [if_neg (by simp; omega)]
        have := fill_list ps _ r h
        rw [← this]
        congr 1
        have hg := Great.foldl_set off v.cells.toList 0 cells.toArray
        have e : Array.foldl (fun cs (x : Value × Nat) => cs.setIfInBounds (off + x.2) x.1) cells.toArray v.cells.zipIdx = (v.cells.toList.zipIdx 0).foldl (fun cs (x : Value × Nat) => cs.setIfInBounds (off + x.2) x.1) cells.toArray := by
          rw [← Array.foldl_toList, Array.toList_zipIdx]
        refine Eq.trans e ?_
        apply Array.ext_getElem?
        intro k
        rw [hg.2 k]
        simp only [splice, List.getElem?_toArray, Nat.add_zero, Array.length_toList, List.size_toArray]
        by_cases h1 : k < off
        · rw [if_neg (by omega), List.getElem?_append_left (by simp; omega), List.getElem?_append_left (by simp; omega), List.getElem?_take, if_pos h1]
        · by_cases h2 : k < off + v.cells.size
          · rw [if_pos (by omega), List.getElem?_append_left (by simp; omega), List.getElem?_append_right (by simp; omega)]
            congr 1
            simp; omega
          · rw [if_neg (by omega), List.getElem?_append_right (by simp; omega), List.getElem?_drop]
            congr 1
            simp; omega

/-- Where the fields of a struct lie. -/
structure SP (P : Program) (t : TypeId) (pl : List (Nat × Nat)) : Prop where
  run : ∀ w, ∃ fs, P.underlying t = some (.struct fs) ∧ (fs.mapM (fun (f : Field) => (do pure (f.offset, ← sizeOf f.type) : Sem (Nat × Nat)))).run P w = .ok pl.toArray w

section
variable {P : Program} {Q : Exit → Act → World → Prop} {n : Nat} {L : Fr} {D : List Deferred} {w : World} {ops : Array Oper} {rest : List Oper}
variable {ty : TypeId} {pos : String} {af : Array Edge} {dst : Option Nat} {gdd : Option (Nat × Bool)} {x y : Operand}

/-- A struct literal. -/
theorem xbd {t : TypeId} {ps : List (Nat × Operand)} {m bytes : Nat} {z r : List Value} {pl : List (Nat × Nat)} (ht : TI P t true m bytes z) (hp : SP P t pl)
    (hr : fillL (pl[·]?) z (ps.map fun p => (p.1, (ev n L p.2).cells.toList)) = some r) :
    (execOp (ev n L) { dst := dst, op := .build t ps.toArray, type := ty, pos := pos, after := af, guard := gdd }).run P w = .ok (.value (.agg r.toArray)) w := by
  obtain ⟨v, hv, hc, _⟩ := ht.zero w
  obtain ⟨fs, hu, hm⟩ := hp.run w
  have hf := fill_list (place := (pl[·]?)) (ps.map fun p => (p.1, ev n L p.2)) z r (by simpa [List.map_map, Function.comp_def] using hr)
  simp only [execOp, Instr.build, Sem.run_bind, hv, Result.andThen_ok, run_underlying hu, hc]
  have e : (Array.map (fun x : Nat × Operand => (x.1, ev n L x.2)) ps.toArray).toList = ps.map fun p => (p.1, ev n L p.2) := by simp
  simp only [e]
  rw [hm]
  simp only [Result.andThen_ok]
  have e2 : (fun i : Nat => pl.toArray[i]?) = (fun i : Nat => pl[i]?) := by funext i; simp
  simp only [e2, hf]
  rfl

/-- A literal of an array. -/
theorem xbda {t e len : TypeId} {ps : List (Nat × Operand)} {m bytes m' bytes' : Nat} {agg : Bool} {z z' r : List Value} (ht : TI P t true m bytes z) (hu : P.underlying t = some (.array len e)) (he : TI P e agg m' bytes' z')
    (hr : fillL (fun i => some (i * m', m')) z (ps.map fun p => (p.1, (ev n L p.2).cells.toList)) = some r) :
    (execOp (ev n L) { dst := dst, op := .build t ps.toArray, type := ty, pos := pos, after := af, guard := gdd }).run P w = .ok (.value (.agg r.toArray)) w := by
  obtain ⟨v, hv, hc, _⟩ := ht.zero w
  have hf := fill_list (place := fun i => some (i * m', m')) (ps.map fun p => (p.1, ev n L p.2)) z r (by simpa [List.map_map, Function.comp_def] using hr)
  have e : (Array.map (fun x : Nat × Operand => (x.1, ev n L x.2)) ps.toArray).toList = ps.map fun p => (p.1, ev n L p.2) := by simp
  simp only [execOp, Instr.build, Sem.run_bind, hv, Result.andThen_ok, run_underlying hu, hc, he.size, e, hf]
  rfl

/-- A slice literal. -/
theorem sbs {d : Nat} {t e : TypeId} {agg : Bool} {m bytes : Nat} {z : List Value} {vs : List Operand} {ps : List (Nat × Operand)} {len : Nat} {cs : List Value} (ht : P.underlying t = some (.slice e)) (he : TI P e agg m bytes z) (hm : Nat.ble 1 m = true)
    (hps : ps = vs.zipIdx.map fun x => (x.2, x.1)) (hlen : vs.length = len) (h24 : Nat.ble (len * m) 16777216 = true) (hs : vs.all (fun v => Nat.beq (ev n L v).cells.size m) = true)
    (hcs : (vs.map (ev n L)).flatMap (fun v => v.cells.toList) = cs)
    (k : ∀ b w', Ext w w' → w.heap.size ≤ b → Bx w' b e cs → wpList P ops Q rest (act n (upd L d (.slice (some ⟨b, 0, none⟩) len len)) D) w') :
    wpList P ops Q ({ dst := some d, op := .buildSlice t len ps.toArray, type := ty, pos := pos, after := af, guard := none } :: rest) (act n L D) w := by
  obtain ⟨v, hv, hc, _⟩ := he.zero w
  have hm' : 0 < m := Nat.le_of_ble_eq_true hm
  have h24' : ¬ len * m > 2 ^ 24 := by have := Nat.ble_eq ▸ h24; simp at this ⊢; omega
  have hss : ∀ u ∈ vs.map (ev n L), u.cells.size = m := by
    intro u hu
    obtain ⟨o, ho, rfl⟩ := List.mem_map.1 hu
    simpa using List.all_eq_true.1 hs o ho
  have e1 : (Array.map (fun x : Nat × Operand => (x.1, ev n L x.2)) ps.toArray).toList = ((vs.map (ev n L)).zipIdx 0).map fun x => (x.2, x.1) := by
    subst hps
    simp [List.zipIdx_map, List.map_map, Function.comp_def]
  have hf : ∀ (z0 : Array Value), Instr.fill (fun i => some (i * m, m)) ((Array.range (len * m)).map (z0[· % z0.size]!)) (((vs.map (ev n L)).zipIdx 0).map fun x => (x.2, x.1)) = some cs.toArray := by
    intro z0
    rw [Great.fill_whole hm' _ _ hss (by simp [hlen]), hcs]
  refine vl rfl rfl (w' := w.alloc (.cells cs.toArray e)) (v := .slice (some ⟨w.heap.size, 0, none⟩) len len) ?_ (k _ _ (Ext.alloc _ _) (Nat.le_refl _) (Bx.new w e cs))
  simp only [execOp, Instr.buildSlice, Sem.run_bind, run_underlying ht, Result.andThen_ok, he.size, if_neg h24', e1]
  by_cases h0 : len * m = 0
  · have := hf #[]
    rw [if_pos h0]
    simp only [pure_bind, Sem.run_bind, Sem.run_pure, Result.andThen_ok, this]
    rfl
  · have := hf v.cells
    rw [if_neg h0]
    simp only [Sem.run_bind, hv, Result.andThen_ok, Sem.run_pure, this]
    rfl

/-! ### Rows that grow -/
/-- The slice v is the call's own from block 'base' on, and holds just l. -/
def Row {α : Type} [Enc α] [Flat α] (e : TypeId) (base : Nat) (w : World) (v : Value) (l : List α) : Prop := w.ownsRow base e (Enc.n α) v l.length (l.flatMap Flat.enc)

variable {α : Type} [Enc α] [Flat α] {e : TypeId} {base : Nat} {v : Value} {l k : List α} {w' : World}
theorem Row.nil : Row (α := α) e base w (.slice none 0 0) [] := World.ownsRow_nil _ _ _ _
theorem Row.ext (h : Row e base w v l) (k : Ext w w') : Row e base w' v l := by
  refine ⟨h.1, ?_⟩
  rcases h.2 with hn | ⟨g, cap, cur, e1, hb, hg, r⟩
  · exact .inl hn
  · exact .inr ⟨g, cap, cur, e1, hb, (k.block g (Array.getElem?_eq_some_iff.1 hg).1).trans hg, r⟩
theorem Row.lit {b m : Nat} (hb : base ≤ b) (hx : Bx w b e (l.flatMap Flat.enc)) (hm : l.length = m) (h63 : m ≤ maxLen) : Row e base w (.slice (some ⟨b, 0, none⟩) m m) l := by
  subst hm
  exact ⟨Flat.flen l, .inr ⟨b, l.length, _, rfl, hb, hx, Nat.le_refl _, h63, by rw [List.size_toArray, Flat.flen], by rw [List.take_of_length_le (by rw [Flat.flen]; exact Nat.le_refl _)]⟩⟩
theorem Row.rvo (h : Row e base w v l) : RVo (fun b => base ≤ b) w v l := by
  rcases h.2 with ⟨rfl, h0⟩ | ⟨g, cap, cur, rfl, hb, hg, hnc, hcm, _, _⟩
  · have : l = [] := List.eq_nil_of_length_eq_zero h0
    subst this
    exact RVo.nil (Nat.zero_le _)
  · refine RVo.sl.2 ⟨_, cap, rfl, hnc, hcm, .inr ⟨g, 0, rfl, hb, (Array.getElem?_eq_some_iff.1 hg).1, fun i x hx => ⟨Flat.enc x, Flat.iff.2 rfl, fun j c hc => ?_⟩⟩⟩
    have := h.cells (g := g) rfl (i * Enc.n α + j) c (flat_at l i x j c hx hc)
    rw [add_mk] at this
    simpa [Nat.add_assoc] using this
theorem Row.rv (h : Row e base w v l) : RV w v l := h.rvo.rv
theorem Row.bnd {B : Nat} (h : Row e base w v l) (hB : B ≤ base) : Row e B w v l := by
  refine ⟨h.1, ?_⟩
  rcases h.2 with hn | ⟨g, cap, cur, e1, hb, r⟩
  · exact .inl hn
  · exact .inr ⟨g, cap, cur, e1, by omega, r⟩

theorem news {w : World} {b off : Nat} : ∀ (k : List α) (i0 : Nat), (∀ i x, k[i]? = some x → Cs w b (off + (i0 + i) * Enc.n α) (Flat.enc x)) → ∀ j u, (k.flatMap Flat.enc)[j]? = some u → w.cell? ⟨b, off + i0 * Enc.n α + j, none⟩ = some u
  | [], _, _, j, u, h => by simp at h
  | x :: k, i0, hk, j, u, h => by
    rw [List.flatMap_cons] at h
    by_cases hj : j < (Flat.enc x).length
    · rw [List.getElem?_append_left hj] at h
      simpa using hk 0 x rfl j u h
    · rw [List.getElem?_append_right (by omega)] at h
      have := news k (i0 + 1) (fun i y hy => by have := hk (i + 1) y hy; rwa [show i0 + (i + 1) = i0 + 1 + i by omega] at this) _ u h
      rw [Flat.len] at this hj
      rwa [Nat.add_mul, show off + (i0 * Enc.n α + 1 * Enc.n α) + (j - Enc.n α) = off + i0 * Enc.n α + j by omega] at this

theorem sap {d : Nat} {st : TypeId} {agg : Bool} {bytes : Nat} {z : List Value} {a : Option Addr} {cap : Nat} {r : List α} (hs : ev n L x = v) (hy : ev n L y = .slice a k.length cap) (ht : P.underlying st = some (.slice e))
    (he : TI P e agg (Enc.n α) bytes z) (hm : Nat.ble 1 (Enc.n α) = true) (hb1 : Nat.ble 1 bytes = true) (hrow : Row e base w v l) (hk : Els α (fun _ => True) w a k) (hr : app bytes l k = some r) (hbase : base ≤ w.heap.size)
    (cont : ∀ v' w', Row e base w' v' r → Below base w w' → wpList P ops Q rest (act n (upd L d v') D) w') :
    wpList P ops Q ({ dst := some d, op := .call { callee := .builtin .append, args := #[x, y], argTypes := #[st, st] }, type := ty, pos := pos, after := af, guard := none } :: rest) (act n L D) w := by
  obtain ⟨hb, rfl⟩ := app_spec hr
  obtain ⟨i, zv, hi, hn, hby, hz, hzc, _⟩ := he.info
  have hm' : 0 < Enc.n α := Nat.le_of_ble_eq_true hm
  have hb1' : 1 ≤ bytes := Nat.le_of_ble_eq_true hb1
  have h63 : l.length + k.length ≤ maxLen := by
    have h1 : l.length + k.length ≤ (l.length + k.length) * bytes := by
      have := Nat.mul_le_mul_left (l.length + k.length) hb1'
      omega
    have h2 : (140737488355328 : Nat) ≤ maxLen := by unfold maxLen; omega
    omega
  have hzs : zv.cells.size = Enc.n α := by rw [hzc]; simpa using he.zlen
  have key : ∃ v' w', (Builtin.append_ #[st, st] ty #[v, .slice a k.length cap]).run P w = .ok v' w' ∧ Row e base w' v' (l ++ k) ∧ Below base w w' := by
    cases a with
    | none =>
      have hk0 : k = [] := by
        rcases hk with h | ⟨_, _, h, _⟩
        · exact h
        · cases h
      subst hk0
      refine ⟨v, w, ?_, by simpa using hrow, Below.refl _ _⟩
      rcases hrow.2 with ⟨rfl, h0⟩ | ⟨g, cap', cur, rfl, _, _, hnc, _⟩
      · simp [Builtin.append_, run_underlying ht, sizeOf, typeInfo, hi, Builtin.lenOf, Builtin.firstCells]
      · simp [Builtin.append_, run_underlying ht, sizeOf, typeInfo, hi, Builtin.lenOf, Builtin.firstCells, hnc, storeCells]
    | some ad =>
      have hsrc : ∀ j u, (k.flatMap Flat.enc)[j]? = some u → w.cell? (ad.add j) = some u := by
        rcases hk with rfl | ⟨b, off, e1, _, _, h⟩
        · intro j u h; simp at h
        · cases e1
          intro j u hj
          rw [add_mk]
          have := news (w := w) (b := b) (off := off) k 0 (fun i x hx => by
            obtain ⟨cs, h1, h2⟩ := h i x hx
            rw [Flat.iff.1 h1] at h2
            simpa using h2) j u hj
          simpa using this
      obtain ⟨v', w', hrun, hown, hg, _⟩ := run_append_own (P := P) w base st ty e i zv (Enc.n α) bytes ht hi hz hn hby hzs hm' v l.length _ hrow ad k.length cap (k.flatMap Flat.enc) (Flat.flen k) hsrc
        (fun u hu => by obtain ⟨y, _, hy⟩ := List.mem_flatMap.1 hu; exact Flat.one y u hy) h63 hb hbase
      refine ⟨v', w', hrun, ?_, ⟨hg.os, hg.tape, hg.output, hg.size, fun q hq => hg.block q (by omega) (fun e2 => ?_)⟩⟩
      · unfold Row
        rw [List.length_append, List.flatMap_append]
        exact hown
      · have := hrow.lt q e2.symm
        omega
  obtain ⟨v', w', hrun, hrow', hbel⟩ := key
  exact vl rfl rfl (v := v') (w' := w') (by simp [execOp, resolve, invoke, Go.builtin, hs, hy, hrun]) (cont v' w' hrow' hbel)
end
end Go.Md
