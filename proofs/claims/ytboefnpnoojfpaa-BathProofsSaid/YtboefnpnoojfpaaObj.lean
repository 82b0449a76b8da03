/-
  Pointers that read as data, slices of slices, appends to full slices, function values with numbers for answers. No condition: lemmas about the model.
-/
import Derived.Test.YtboefnpnoojfpaaEq
import Derived.ArgAppend
import Derived.Laws.OwnMore
namespace Go.Md
open Go Go.RowKit

/-- A pointer, nil or to something that reads as α. -/
structure Ob (α : Type) where
  v : Option α
instance {α : Type} : Inhabited (Ob α) := ⟨⟨none⟩⟩
instance {α : Type} [Enc α] : Enc (Ob α) where
  agg := false
  n := 1
  rep ok w cs x := ∃ a, cs = [.pointer a] ∧ match x.v with
    | none => a = none
    | some y => ∃ b ds, a = some ⟨b, 0, none⟩ ∧ ok b ∧ b < w.heap.size ∧ Enc.rep ok w ds y ∧ Cs w b 0 ds
  len := by rintro ok w cs x ⟨a, rfl, _⟩; rfl
  one := by rintro ok w cs x ⟨a, rfl, _⟩; simp [Value.oneCell']
  sgl _ := rfl
  keep := by
    rintro ok w w' cs ⟨x⟩ k hs ⟨a, rfl, h⟩
    refine ⟨a, rfl, ?_⟩
    cases x with
    | none => exact h
    | some y =>
      obtain ⟨b, ds, e, h1, h2, h3, h4⟩ := h
      exact ⟨b, ds, e, h1, by omega, Enc.keep k hs h3, h4.same (k b h1 h2)⟩
  mono := by
    rintro ok ok' w cs ⟨x⟩ hm ⟨a, rfl, h⟩
    refine ⟨a, rfl, ?_⟩
    cases x with
    | none => exact h
    | some y =>
      obtain ⟨b, ds, e, h1, h2, h3, h4⟩ := h
      exact ⟨b, ds, e, hm b h2 h1, h2, Enc.mono hm h3, h4⟩

/-- A cell of which nothing is told. -/
inductive Opq | mk
instance : Inhabited Opq := ⟨.mk⟩
instance : Enc Opq where
  agg := false
  n := 1
  rep _ _ cs _ := ∃ v : Value, cs = [v] ∧ v.oneCell' = true
  len := by rintro ok w cs x ⟨v, rfl, _⟩; rfl
  one := by rintro ok w cs x ⟨v, rfl, h⟩; simpa using h
  sgl _ := rfl
  keep _ _ h := h
  mono _ h := h

section
variable {α : Type} [Enc α] {w : World}
theorem obNil : RV w (.pointer none) (⟨none⟩ : Ob α) := ⟨_, rfl, none, rfl, rfl⟩
theorem obNew {b : Nat} {ds : List Value} {y : α} (hc : Cs w b 0 ds) (hl : Nat.ble 1 ds.length = true) (h : Enc.rep (fun _ => True) w ds y) : RV w (.pointer (some ⟨b, 0, none⟩)) (⟨some y⟩ : Ob α) := by
  refine ⟨_, rfl, _, rfl, b, ds, rfl, trivial, ?_, h, hc⟩
  have hl := Nat.le_of_ble_eq_true hl
  exact World.block_lt_of_cell? w ⟨b, 0 + 0, none⟩ (hc 0 ds[0] (by simp))
theorem obPtr {v : Value} {x : Ob α} (h : RV w v x) : ∃ a, v = .pointer a := by
  obtain ⟨cs, rfl, a, rfl, _⟩ := h
  exact ⟨a, rfl⟩
theorem obRep {cs : List Value} {x : Ob α} (h : Enc.rep (fun _ => True) w cs x) : ∃ a, cs = [.pointer a] ∧ RV w (.pointer a) x := by
  obtain ⟨a, rfl, h⟩ := h
  exact ⟨a, rfl, _, rfl, a, rfl, h⟩
theorem obRep1 {a : Option Addr} {x : Ob α} (h : RV w (.pointer a) x) : Enc.rep (fun _ => True) w [.pointer a] x := by
  obtain ⟨cs, e, a', rfl, h⟩ := h
  cases e
  exact ⟨a, rfl, h⟩
theorem obGet {a : Option Addr} {x : Ob α} {y : α} (h : RV w (.pointer a) x) (hy : x.v = some y) : ∃ b ds, a = some ⟨b, 0, none⟩ ∧ Enc.rep (fun _ => True) w ds y ∧ Cs w b 0 ds := by
  obtain ⟨_, e, h⟩ := obRep1 h
  cases e
  rw [hy] at h
  obtain ⟨b, ds, e, _, _, h1, h2⟩ := h
  exact ⟨b, ds, e, h1, h2⟩
end

/-- v is a function value that answers a number for x, and leaves all memory as it is. -/
def FnI (P : Program) (α : Type) [Enc α] (w : World) (v : Value) (p : α → Option Int) : Prop :=
  ∃ g fs cs, v = .func (.func g) (List.toArray fs) (List.toArray cs) ∧ Callable P g ∧ ∀ w' u x b, Ext w w' → RV w' u x → p x = some b →
    Calls P g (fs ++ [u] ++ cs).toArray w' (Ret fun r w'' => r = .int .i64 b ∧ Ext w' w'')
theorem FnI.ext {P : Program} {α : Type} [Enc α] {w w' : World} {v : Value} {p : α → Option Int} (h : FnI P α w v p) (k : Ext w w') : FnI P α w' v p :=
  let ⟨g, fs, cs, e, c, h⟩ := h
  ⟨g, fs, cs, e, c, fun w2 u x b h2 => h w2 u x b (k.tr h2)⟩

section
variable {P : Program} {Q : Exit → Act → World → Prop} {n : Nat} {L : Fr} {D : List Deferred} {w : World} {ops : Array Oper} {rest : List Oper}
variable {ty : TypeId} {pos : String} {af : Array Edge} {dst : Option Nat} {gdd : Option (Nat × Bool)} {x y z : Operand}

/-- s[:len(s):len(s)]. -/
theorem xslf {t e : TypeId} {agg : Bool} {m bytes : Nat} {zz : List Value} {a : Option Addr} {len cap : Nat} (hx : ev n L x = .slice a len cap) (hc : len ≤ cap) (ht : P.underlying t = some (.slice e)) (he : TI P e agg m bytes zz) (hy : ev n L y = .int .i64 (len : Int)) (hz : ev n L z = .int .i64 (len : Int)) :
    (execOp (ev n L) { dst := dst, op := .slice t x none (some y) (some z), type := ty, pos := pos, after := af, guard := gdd }).run P w = .ok (.value (.slice a len len)) w := by
  have e2 : a.map (fun x : Addr => x.add 0) = a := by
    cases a with
    | none => rfl
    | some ad => obtain ⟨b, o, s⟩ := ad; simp [Addr.add]
  by_cases hl : len = 0
  · subst hl
    simp [execOp, Instr.sliceAt, run_underlying ht, Instr.slice, hx, hy, hz, Instr.sliceBounds, Instr.sliceBound, asIntOf, he.size]
  · have hl' : ¬ (len = 0) := hl
    simp [execOp, Instr.sliceAt, run_underlying ht, Instr.slice, hx, hy, hz, Instr.sliceBounds, Instr.sliceBound, asIntOf, he.size, e2]
    omega

theorem RV.full {α : Type} [Enc α] {a : Option Addr} {len cap : Nat} {l : List α} (h : RV w (.slice a len cap) l) : RV w (.slice a l.length l.length) l := by
  obtain ⟨rfl, h1, h2⟩ := h.cap
  exact RV.of1 (Nat.le_refl _) (by omega) h.els

/-- An append to a slice that is full: a new row. -/
theorem sapf {α : Type} [Enc α] [Flat α] {d : Nat} {st e : TypeId} {agg : Bool} {bytes : Nat} {zz : List Value} {a a2 : Option Addr} {cap : Nat} {l k r : List α} (hs : ev n L x = .slice a l.length l.length) (hy : ev n L y = .slice a2 k.length cap) (ht : P.underlying st = some (.slice e))
    (he : TI P e agg (Enc.n α) bytes zz) (hm : Nat.ble 1 (Enc.n α) = true) (hb1 : Nat.ble 1 bytes = true) (hl : RV w (.slice a l.length l.length) l) (hk : RV w (.slice a2 k.length cap) k) (hk0 : Nat.ble 1 k.length = true) (hr : app bytes l k = some r)
    (cont : ∀ v' w', Row e w.heap.size w' v' r → Ext w w' → wpList P ops Q rest (act n (upd L d v') D) w') :
    wpList P ops Q ({ dst := some d, op := .call { callee := .builtin .append, args := #[x, y], argTypes := #[st, st] }, type := ty, pos := pos, after := af, guard := none } :: rest) (act n L D) w := by
  obtain ⟨hb, hrr⟩ := app_spec hr
  have hk0' : 1 ≤ k.length := Nat.le_of_ble_eq_true hk0
  by_cases hl0 : l = []
  · subst hl0
    -- a slice of length 0 and of no room
    obtain ⟨i, zv, hi, hn, hby, hz, hzc, _⟩ := he.info
    have hm' : 0 < Enc.n α := Nat.le_of_ble_eq_true hm
    have hb1' : 1 ≤ bytes := Nat.le_of_ble_eq_true hb1
    have hkb : k.length ≤ k.length * bytes := by have := Nat.mul_le_mul_left k.length hb1'; omega
    simp only [List.length_nil, Nat.zero_add] at hb
    have h63 : k.length ≤ maxLen := by unfold maxLen; omega
    rcases hk.els with rfl | ⟨b2, off2, rfl, _, _, h2⟩
    · simp at hk0'
    have hnews : ∀ j u, (k.flatMap Flat.enc)[j]? = some u → w.cell? ((⟨b2, off2, none⟩ : Addr).add j) = some u := by
      intro j u hj
      rw [add_mk]
      have := news (w := w) (b := b2) (off := off2) k 0 (fun i x hx => by
        obtain ⟨cs, h1, h2⟩ := h2 i x hx
        rw [Flat.iff.1 h1] at h2
        simpa using h2) j u hj
      simpa using this
    have h1 : ∀ u ∈ k.flatMap Flat.enc, u.oneCell' = true := fun u hu => by obtain ⟨y, _, hy⟩ := List.mem_flatMap.1 hu; exact Flat.one y u hy
    have hzs : zv.cells.size = Enc.n α := by rw [hzc]; simpa using he.zlen
    have key : ∃ v' w', (Builtin.append_ #[st, st] ty #[.slice a 0 0, .slice (some ⟨b2, off2, none⟩) k.length cap]).run P w = .ok v' w' ∧ w'.ownsRow w.heap.size e (Enc.n α) v' k.length (k.flatMap Flat.enc) ∧ w.grownBy w' none := by
      cases a with
      | none =>
        obtain ⟨v', w', hrun, hown, hg, _⟩ := run_append_own (P := P) w w.heap.size st ty e i zv (Enc.n α) bytes ht hi hz hn hby hzs hm' _ 0 _ (World.ownsRow_nil w _ e _) ⟨b2, off2, none⟩ k.length cap (k.flatMap Flat.enc) (Flat.flen k) hnews h1 (by simpa using h63) (by simpa using hb) (Nat.le_refl _)
        exact ⟨v', w', hrun, by simpa using hown, hg⟩
      | some ad =>
        obtain ⟨v', w', hrun, hown, hg⟩ := run_append_arg_grows (P := P) w st ty e i zv (Enc.n α) bytes ht hi hz hn hby hzs hm' ad 0 0 [] (by simp) (by simp) ⟨b2, off2, none⟩ k.length cap (k.flatMap Flat.enc) (Flat.flen k) hnews (by omega) (by simpa using h63) (by simpa using hb)
        exact ⟨v', w', hrun, by simpa using hown, hg⟩
    obtain ⟨v', w', hrun, hown, hg⟩ := key
    refine vl rfl rfl (v := v') (w' := w') (by simp only [List.length_nil] at hs; simp [execOp, resolve, invoke, Go.builtin, hs, hy, hrun]) (cont v' w' ?_ ⟨hg.os, hg.tape, hg.output, hg.size, fun q hq => hg.block q hq (by simp)⟩)
    subst hrr
    exact hown
  · obtain ⟨i, zv, hi, hn, hby, hz, hzc, _⟩ := he.info
    have hm' : 0 < Enc.n α := Nat.le_of_ble_eq_true hm
    have hb1' : 1 ≤ bytes := Nat.le_of_ble_eq_true hb1
    have hkb : l.length + k.length ≤ (l.length + k.length) * bytes := by have := Nat.mul_le_mul_left (l.length + k.length) hb1'; omega
    have h63 : l.length + k.length ≤ maxLen := by unfold maxLen; omega
    rcases hk.els with rfl | ⟨b2, off2, rfl, _, _, h2⟩
    · simp at hk0'
    rcases hl.els with h | ⟨b1, off1, rfl, _, _, h3⟩
    · exact (hl0 h).elim
    have cells : ∀ (b off : Nat) (q : List α), (∀ i x, q[i]? = some x → ∃ cs, Enc.rep (fun _ => True) w cs x ∧ Cs w b (off + i * Enc.n α) cs) → ∀ j u, (q.flatMap Flat.enc)[j]? = some u → w.cell? ((⟨b, off, none⟩ : Addr).add j) = some u := by
      intro b off q hq j u hj
      rw [add_mk]
      have := news (w := w) (b := b) (off := off) q 0 (fun i x hx => by
        obtain ⟨cs, h1, h2⟩ := hq i x hx
        rw [Flat.iff.1 h1] at h2
        simpa using h2) j u hj
      simpa using this
    have hzs : zv.cells.size = Enc.n α := by rw [hzc]; simpa using he.zlen
    obtain ⟨v', w', hrun, hown, hg⟩ := run_append_arg_grows (P := P) w st ty e i zv (Enc.n α) bytes ht hi hz hn hby hzs hm' ⟨b1, off1, none⟩ l.length l.length (l.flatMap Flat.enc) (Flat.flen l) (cells _ _ _ h3) ⟨b2, off2, none⟩ k.length cap (k.flatMap Flat.enc) (Flat.flen k)
      (cells _ _ _ h2) (by omega) h63 hb
    refine vl rfl rfl (v := v') (w' := w') (by simp [execOp, resolve, invoke, Go.builtin, hs, hy, hrun]) (cont v' w' ?_ ⟨hg.os, hg.tape, hg.output, hg.size, fun q hq => hg.block q hq (by simp)⟩)
    subst hrr
    unfold Row
    rw [List.length_append, List.flatMap_append]
    exact hown
end

/-! ### Rows beside other blocks, literals of deep elements, boxes as state -/
theorem Row.chg {α : Type} [Enc α] [Flat α] {e : TypeId} {base b : Nat} {w w' : World} {v : Value} {l : List α} (h : Row e base w v l) (c : Chg b w w') (hb : b < base) : Row e base w' v l := by
  refine ⟨h.1, ?_⟩
  rcases h.2 with hn | ⟨g, cap, cur, e1, hg, hh, r⟩
  · exact .inl hn
  · exact .inr ⟨g, cap, cur, e1, hg, (c.other g (by omega)).trans hh, r⟩

def Reps {α : Type} [Enc α] (w : World) : List (List Value) → List α → Prop
  | [], [] => True
  | c :: cs, x :: xs => Enc.rep (fun _ => True) w c x ∧ Reps w cs xs
  | _, _ => False
theorem Reps.at {α : Type} [Enc α] {w : World} : ∀ {css : List (List Value)} {l : List α}, Reps w css l → ∀ i x, l[i]? = some x → ∃ cs, Enc.rep (fun _ => True) w cs x ∧ ∀ j c, cs[j]? = some c → css.flatten[i * Enc.n α + j]? = some c
  | [], [], _, i, x, h => by simp at h
  | c :: css, y :: l, hr, 0, x, h => by
    simp only [List.getElem?_cons_zero, Option.some.injEq] at h
    subst h
    refine ⟨c, hr.1, fun j u hu => ?_⟩
    have : j < c.length := (List.getElem?_eq_some_iff.1 hu).1
    simp [List.getElem?_append_left this, hu]
  | c :: css, y :: l, hr, i + 1, x, h => by
    obtain ⟨cs, h1, h2⟩ := Reps.at hr.2 i x (by simpa using h)
    refine ⟨cs, h1, fun j u hu => ?_⟩
    have hl := Enc.len hr.1
    rw [List.flatten_cons, List.getElem?_append_right (by rw [hl, Nat.add_mul]; omega), hl, show (i + 1) * Enc.n α + j - Enc.n α = i * Enc.n α + j by rw [Nat.add_mul]; omega]
    exact h2 j u hu
  | [], _ :: _, h, _, _, _ => h.elim
  | _ :: _, [], h, _, _, _ => h.elim
theorem RV.lit {α : Type} [Enc α] {w : World} {b n : Nat} {T : TypeId} {cs : List Value} {css : List (List Value)} {l : List α} (hb : Bx w b T cs) (hf : cs = css.flatten) (h : Reps w css l) (hn : l.length = n) (hm : n ≤ maxLen) : RV w (.slice (some ⟨b, 0, none⟩) n n) l := by
  subst hn hf
  refine RV.of1 (Nat.le_refl _) hm (.inr ⟨b, 0, rfl, trivial, hb.lt, fun i x hx => ?_⟩)
  obtain ⟨cs, h1, h2⟩ := h.at i x hx
  refine ⟨cs, h1, fun j c hc => ?_⟩
  have := hb.cs _ _ (h2 j c hc)
  simpa using this

/-- v points to a block that is not below 'base', and holds y. -/
def PB {α : Type} [Enc α] (T : TypeId) (base : Nat) (w : World) (v : Value) (y : α) : Prop := ∃ b cs, v = .pointer (some ⟨b, 0, none⟩) ∧ base ≤ b ∧ Bx w b T cs ∧ Enc.rep (fun _ => True) w cs y

/-! ### The rest of a slice -/
def sdrop {α : Type} (l : List α) (i : Int) : Option (List α) := if 0 ≤ i ∧ i ≤ l.length then some (l.drop i.toNat) else none
theorem sdrop_spec {α : Type} {l r : List α} {i : Int} (h : sdrop l i = some r) : 0 ≤ i ∧ i ≤ l.length ∧ r = l.drop i.toNat := by
  unfold sdrop at h
  split at h
  · cases h; exact ⟨by omega, by omega, rfl⟩
  · cases h

theorem slo {P : Program} {α : Type} [Enc α] {w : World} {t e : TypeId} {agg : Bool} {bytes : Nat} {zz : List Value} {a : Option Addr} {len cap : Nat} {l r : List α} {i : Int} (hl : RV w (.slice a len cap) l) (hr : sdrop l i = some r) (ht : P.underlying t = some (.slice e)) (he : TI P e agg (Enc.n α) bytes zz) :
    ∃ a' c', RV w (.slice a' r.length c') r ∧ ∀ (w' : World) (n : Nat) (L : Fr) (x y : Operand) (ty : TypeId) (pos : String) (af : Array Edge) (dst : Option Nat) (gdd : Option (Nat × Bool)), ev n L x = .slice a l.length cap → ev n L y = .int .i64 i →
      (execOp (ev n L) { dst := dst, op := .slice t x (some y) none none, type := ty, pos := pos, after := af, guard := gdd }).run P w' = .ok (.value (.slice a' r.length c')) w' := by
  obtain ⟨h0, h1, rfl⟩ := sdrop_spec hr
  obtain ⟨rfl, h2, h3⟩ := hl.cap
  refine ⟨if cap = i.toNat then a else a.map (·.add (i.toNat * Enc.n α)), cap - i.toNat, ?_, ?_⟩
  · refine RV.of1 (by rw [List.length_drop]; omega) (by omega) ?_
    rcases hl.els with rfl | ⟨b, off, rfl, hb, hlt, h⟩
    · exact .inl (by simp)
    · by_cases hc : cap = i.toNat
      · exact .inl (List.drop_of_length_le (by omega))
      · refine .inr ⟨b, off + i.toNat * Enc.n α, by simp [hc, Addr.add], hb, hlt, fun j x hx => ?_⟩
        rw [List.getElem?_drop] at hx
        obtain ⟨cs, h4, h5⟩ := h _ _ hx
        refine ⟨cs, h4, ?_⟩
        rw [Nat.add_assoc, ← Nat.add_mul]
        exact h5
  · intro w' n L x y ty pos af dst gdd hx hy
    have hle : i.toNat ≤ l.length := by omega
    simp [execOp, Instr.sliceAt, run_underlying ht, Instr.slice, hx, hy, Instr.sliceBounds, Instr.sliceBound, asIntOf, he.size, h0, h1]

/-! ### Appends, and what else stands -/
theorem own_ge {w : World} {base size n : Nat} {e : TypeId} {v : Value} {xs : List Value} (h : w.ownsRow base e size v n xs) : v.ownBlock = none ∧ n = 0 ∨ ∃ g, v.ownBlock = some g ∧ base ≤ g ∧ g < w.heap.size := by
  rcases h.2 with ⟨rfl, h0⟩ | ⟨g, cap, cur, rfl, hb, hg, _⟩
  · exact .inl ⟨rfl, h0⟩
  · exact .inr ⟨g, rfl, hb, (Array.getElem?_eq_some_iff.1 hg).1⟩

theorem run_app {P : Program} {α : Type} [Enc α] [Flat α] {w : World} {st ty e : TypeId} {agg : Bool} {bytes base : Nat} {z : List Value} {v : Value} {a : Option Addr} {cap : Nat} {l k : List α} (ht : P.underlying st = some (.slice e))
    (he : TI P e agg (Enc.n α) bytes z) (hm : 0 < Enc.n α) (hb1 : 1 ≤ bytes) (hrow : Row e base w v l) (hk : Els α (fun _ => True) w a k) (hb : (l.length + k.length) * bytes ≤ 140737488355328) (hbase : base ≤ w.heap.size) :
    ∃ v' w', (Builtin.append_ #[st, st] ty #[v, .slice a k.length cap]).run P w = .ok v' w' ∧ Row e base w' v' (l ++ k) ∧ w.grownBy w' v.ownBlock ∧ (v'.ownBlock = v.ownBlock ∨ ∃ g, v'.ownBlock = some g ∧ w.heap.size ≤ g) := by
  obtain ⟨i, zv, hi, hn, hby, hz, hzc, _⟩ := he.info
  have h63 : l.length + k.length ≤ maxLen := by
    have h1 : l.length + k.length ≤ (l.length + k.length) * bytes := by
      have := Nat.mul_le_mul_left (l.length + k.length) hb1
      omega
    have h2 : (140737488355328 : Nat) ≤ maxLen := by unfold maxLen; omega
    omega
  have hzs : zv.cells.size = Enc.n α := by rw [hzc]; simpa using he.zlen
  have h1 : ∀ u ∈ k.flatMap Flat.enc, u.oneCell' = true := fun u hu => by obtain ⟨y, _, hy⟩ := List.mem_flatMap.1 hu; exact Flat.one y u hy
  have fin : ∀ {v' w'} {b : Nat}, base ≤ b → w'.ownsRow b e (Enc.n α) v' (l.length + k.length) (l.flatMap Flat.enc ++ k.flatMap Flat.enc) → Row e base w' v' (l ++ k) := fun hbb h => by
    refine Row.bnd ?_ hbb
    unfold Row
    rw [List.length_append, List.flatMap_append]
    exact h
  cases a with
  | none =>
    have hk0 : k = [] := by
      rcases hk with h | ⟨_, _, h, _⟩
      · exact h
      · cases h
    subst hk0
    have hrun : (Builtin.append_ #[st, st] ty #[v, .slice none 0 cap]).run P w = .ok v w := by
      rcases hrow.2 with ⟨rfl, h0⟩ | ⟨g, cap', cur, rfl, _, _, hnc, _⟩
      · simp [Builtin.append_, run_underlying ht, sizeOf, typeInfo, hi, Builtin.lenOf, Builtin.firstCells]
      · simp [Builtin.append_, run_underlying ht, sizeOf, typeInfo, hi, Builtin.lenOf, Builtin.firstCells, hnc, storeCells]
    exact ⟨v, w, hrun, by simpa using hrow, ⟨rfl, rfl, rfl, Nat.le_refl _, fun _ _ _ => rfl⟩, .inl rfl⟩
  | some ad =>
    have hsrc : ∀ j u, (k.flatMap Flat.enc)[j]? = some u → w.cell? (ad.add j) = some u := by
      rcases hk with rfl | ⟨b, off, e1, _, _, h⟩
      · intro j u h; simp at h
      · cases e1
        intro j u hj
        rw [add_mk]
        have := news (w := w) (b := b) (off := off) k 0 (fun i x hx => by
          obtain ⟨cs, h1, h2⟩ := h i x hx
          rw [Flat.iff.1 h1] at h2
          simpa using h2) j u hj
        simpa using this
    have hlen := hrow.1
    rcases hrow.2 with ⟨rfl, h0⟩ | ⟨g, cap', cur, rfl, hbg, hg, hnc, hcm, hcs, htake⟩
    · have hl0 : l = [] := List.eq_nil_of_length_eq_zero h0
      subst hl0
      obtain ⟨v', w', hrun, hown, hgr, _⟩ := run_append_own (P := P) w w.heap.size st ty e i zv (Enc.n α) bytes ht hi hz hn hby hzs hm _ 0 _ (World.ownsRow_nil w _ e _) ad k.length cap (k.flatMap Flat.enc) (Flat.flen k) hsrc h1 (by simpa using h63) (by simpa using hb) (Nat.le_refl _)
      refine ⟨v', w', hrun, fin hbase (by simpa using hown), hgr, ?_⟩
      rcases own_ge hown with ⟨h, _⟩ | ⟨g, h, h2, _⟩
      · exact .inl h
      · exact .inr ⟨g, h, h2⟩
    · by_cases hc : l.length + k.length ≤ cap'
      · obtain ⟨w', hrun, hown, hgr⟩ := run_append_fits (P := P) w base st ty e i (Enc.n α) ht hi hn g l.length cap' (l.flatMap Flat.enc) hrow ad k.length cap (k.flatMap Flat.enc) (Flat.flen k) hsrc h1 hc
        exact ⟨_, w', hrun, fin (Nat.le_refl _) hown, hgr, .inl rfl⟩
      · obtain ⟨v', w', hrun, hown, hgr⟩ := run_append_arg_grows (P := P) w st ty e i zv (Enc.n α) bytes ht hi hz hn hby hzs hm ⟨g, 0, none⟩ l.length cap' (l.flatMap Flat.enc) (Flat.flen l) (fun j u hj => by
            have := hrow.cells (g := g) rfl j u hj
            simpa [add_mk] using this) ad k.length cap (k.flatMap Flat.enc) (Flat.flen k) hsrc (by omega) h63 hb
        refine ⟨v', w', hrun, fin hbase hown, ⟨hgr.os, hgr.tape, hgr.output, hgr.size, fun q hq _ => hgr.block q hq (by simp)⟩, ?_⟩
        rcases own_ge hown with ⟨h, h0⟩ | ⟨g, h, h2, _⟩
        · omega
        · exact .inr ⟨g, h, h2⟩

section
variable {P : Program} {Q : Exit → Act → World → Prop} {n : Nat} {L : Fr} {D : List Deferred} {w : World} {ops : Array Oper} {rest : List Oper}
variable {ty : TypeId} {pos : String} {af : Array Edge} {dst : Option Nat} {gdd : Option (Nat × Bool)} {x y z : Operand}
theorem sapx {α : Type} [Enc α] [Flat α] {d : Nat} {st e : TypeId} {agg : Bool} {bytes base : Nat} {z : List Value} {v : Value} {a : Option Addr} {cap : Nat} {l k r : List α} (hs : ev n L x = v) (hy : ev n L y = .slice a k.length cap) (ht : P.underlying st = some (.slice e))
    (he : TI P e agg (Enc.n α) bytes z) (hm : Nat.ble 1 (Enc.n α) = true) (hb1 : Nat.ble 1 bytes = true) (hrow : Row e base w v l) (hk : Els α (fun _ => True) w a k) (hr : app bytes l k = some r) (hbase : base ≤ w.heap.size)
    (cont : ∀ v' w', Row e base w' v' r → Below base w w' → w.grownBy w' v.ownBlock → (v'.ownBlock = v.ownBlock ∨ ∃ g, v'.ownBlock = some g ∧ w.heap.size ≤ g) → wpList P ops Q rest (act n (upd L d v') D) w') :
    wpList P ops Q ({ dst := some d, op := .call { callee := .builtin .append, args := #[x, y], argTypes := #[st, st] }, type := ty, pos := pos, after := af, guard := none } :: rest) (act n L D) w := by
  obtain ⟨hb, rfl⟩ := app_spec hr
  obtain ⟨v', w', hrun, hrow', hg, ho⟩ := run_app (ty := ty) (cap := cap) ht he (Nat.le_of_ble_eq_true hm) (Nat.le_of_ble_eq_true hb1) hrow hk hb hbase
  refine vl rfl rfl (v := v') (w' := w') (by simp [execOp, resolve, invoke, Go.builtin, hs, hy, hrun]) (cont v' w' hrow' ⟨hg.os, hg.tape, hg.output, hg.size, fun q hq => hg.block q (by omega) (fun e2 => ?_)⟩ hg ho)
  have := hrow.lt q e2.symm
  omega
end

theorem Row.ne_new {α : Type} [Enc α] [Flat α] {e : TypeId} {base b : Nat} {w : World} {v : Value} {l : List α} (h : Row e base w v l) (hb : w.heap.size ≤ b) : some b ≠ v.ownBlock := fun e2 => by
  have := h.lt b e2.symm
  omega
theorem Row.ne_old {α : Type} [Enc α] [Flat α] {e : TypeId} {base b : Nat} {w : World} {v : Value} {l : List α} (h : Row e base w v l) (hb : b < base) : some b ≠ v.ownBlock := fun e2 => by
  have := h.lt b e2.symm
  omega
theorem Bx.gr {w w' : World} {b : Nat} {T : TypeId} {cs : List Value} {row : Option Nat} (h : Bx w b T cs) (g : w.grownBy w' row) (hne : some b ≠ row) : Bx w' b T cs := (g.block b h.lt hne).trans h
theorem ne_app {w : World} {b : Nat} {v v' : Value} (ho : v'.ownBlock = v.ownBlock ∨ ∃ g, v'.ownBlock = some g ∧ w.heap.size ≤ g) (hne : some b ≠ v.ownBlock) (hb : b < w.heap.size) : some b ≠ v'.ownBlock := by
  rcases ho with h | ⟨g, h, hg⟩
  · rw [h]; exact hne
  · rw [h]; intro e; cases e; omega
theorem Row.chgn {α : Type} [Enc α] [Flat α] {e : TypeId} {base b : Nat} {w w' : World} {v : Value} {l : List α} (h : Row e base w v l) (c : Chg b w w') (hb : some b ≠ v.ownBlock) : Row e base w' v l := by
  refine ⟨h.1, ?_⟩
  rcases h.2 with hn | ⟨g, cap, cur, e1, hg, hh, r⟩
  · exact .inl hn
  · refine .inr ⟨g, cap, cur, e1, hg, (c.other g fun e2 => hb ?_).trans hh, r⟩
    rw [e1, ← e2]; rfl
theorem Row.gr {α : Type} [Enc α] [Flat α] {e : TypeId} {base : Nat} {w w' : World} {v : Value} {l : List α} {row : Option Nat} (h : Row e base w v l) (g : w.grownBy w' row) (hb : ∀ q, row = some q → q < base) : Row e base w' v l := by
  refine ⟨h.1, ?_⟩
  rcases h.2 with hn | ⟨q, cap, cur, e1, hq, hh, r⟩
  · exact .inl hn
  · refine .inr ⟨q, cap, cur, e1, hq, (g.block q (Array.getElem?_eq_some_iff.1 hh).1 fun e2 => ?_).trans hh, r⟩
    have := hb q e2.symm
    omega
theorem Row.own_lt {α : Type} [Enc α] [Flat α] {e : TypeId} {base : Nat} {w : World} {v : Value} {l : List α} (h : Row e base w v l) : ∀ q, v.ownBlock = some q → q < w.heap.size := fun q e2 => (h.lt q e2).2
theorem ne_ptr {a b : Nat} (h : a ≠ b) : Value.pointer (some ⟨a, 0, none⟩) ≠ .pointer (some ⟨b, 0, none⟩) := fun e => h (by cases e; rfl)
theorem ptr_ne {a b : Nat} (h : Value.pointer (some ⟨a, 0, none⟩) ≠ .pointer (some ⟨b, 0, none⟩)) : a ≠ b := fun e => h (by rw [e])

section
variable {P : Program} {n : Nat} {L : Fr} {w : World}
variable {ty : TypeId} {pos : String} {af : Array Edge} {dst : Option Nat} {gdd : Option (Nat × Bool)} {x y : Operand}
/-- s == nil. -/
theorem xsln {t t' e : TypeId} {a : Option Addr} {len cap : Nat} (ht : P.underlying t = some (.slice e)) (hx : ev n L x = .slice a len cap) (hy : ev n L y = .slice none 0 0) :
    (execOp (ev n L) { dst := dst, op := .binOp .eql t x y t', type := ty, pos := pos, after := af, guard := gdd }).run P w = .ok (.value (.bool a.isNone)) w := by
  have h : (Op.equal t (.slice a len cap) (.slice none 0 0)).run P w = .ok a.isNone w := by
    show (Op.equalIn (9999 + 1) t _ _).run P w = _
    rw [Op.equalIn]
    simp only [Sem.run_bind, run_underlying ht, Result.andThen_ok]
    cases a <;> rfl
  simp [execOp, hx, hy, eqGuard, Go.binOp, h]
end
end Go.Md
