/-
  Maps as data: a map's block holds just these pairs, in the order in which their keys came. No condition: lemmas about the model.
-/
import Derived.Test.YtboefnpnoojfpaaRound
import Derived.Maps.OwnIn
namespace Go.Md
open Go Go.RowKit
open Go.Maps (Keyed)

/-! ### Pairs -/
section
variable {κ ν : Type} [DecidableEq κ]
def mget (d : ν) : List (κ × ν) → κ → ν
  | [], _ => d
  | (a, b) :: l, k => if a = k then b else mget d l k
def mhas : List (κ × ν) → κ → Bool
  | [], _ => false
  | (a, _) :: l, k => if a = k then true else mhas l k
def mput : List (κ × ν) → κ → ν → List (κ × ν)
  | [], k, v => [(k, v)]
  | (a, b) :: l, k, v => if a = k then (k, v) :: l else (a, b) :: mput l k v
def mdel : List (κ × ν) → κ → List (κ × ν)
  | [], _ => []
  | (a, b) :: l, k => if a = k then l else (a, b) :: mdel l k

theorem mget_no {d : ν} {k : κ} : ∀ {l : List (κ × ν)}, (∀ p ∈ l, p.1 ≠ k) → mget d l k = d ∧ mhas l k = false ∧ (∀ v, mput l k v = l ++ [(k, v)]) ∧ mdel l k = l
  | [], _ => ⟨rfl, rfl, fun _ => rfl, rfl⟩
  | (a, b) :: l, h => by
    have h1 : a ≠ k := h (a, b) (by simp)
    obtain ⟨i1, i2, i3, i4⟩ := mget_no (d := d) (l := l) (fun p hp => h p (by simp [hp]))
    simp only [mget, mhas, mput, mdel, if_neg h1, i1, i2, i4, true_and]
    exact ⟨fun v => by rw [i3]; rfl, trivial⟩
theorem mget_at {d : ν} {k : κ} {u : ν} : ∀ {l : List (κ × ν)} {j : Nat}, (l.map (·.1)).Nodup → l[j]? = some (k, u) → mget d l k = u ∧ mhas l k = true ∧ (∀ v, mput l k v = l.set j (k, v)) ∧ mdel l k = l.eraseIdx j
  | [], j, _, h => by simp at h
  | (a, b) :: l, 0, _, h => by
    simp only [List.getElem?_cons_zero, Option.some.injEq, Prod.mk.injEq] at h
    obtain ⟨rfl, rfl⟩ := h
    simp [mget, mhas, mput, mdel]
  | (a, b) :: l, j + 1, hn, h => by
    simp only [List.map_cons, List.nodup_cons] at hn
    have hj : l[j]? = some (k, u) := by simpa using h
    have h1 : a ≠ k := fun e => hn.1 (by rw [e]; exact List.mem_map.2 ⟨(k, u), List.mem_of_getElem? hj, rfl⟩)
    obtain ⟨i1, i2, i3, i4⟩ := mget_at (d := d) hn.2 hj
    simp only [mget, mhas, mput, mdel, if_neg h1, i1, i2, i4, true_and, List.eraseIdx_cons_succ]
    exact ⟨fun v => by rw [i3]; rfl, trivial⟩
theorem mput_keys {k : κ} {v : ν} : ∀ {l : List (κ × ν)} {q : κ × ν}, q ∈ mput l k v → q = (k, v) ∨ q ∈ l
  | [], q, h => by simp [mput] at h; exact .inl h
  | (a, b) :: l, q, h => by
    simp only [mput] at h
    split at h
    · rcases List.mem_cons.1 h with h | h
      · exact .inl h
      · exact .inr (by simp [h])
    · rcases List.mem_cons.1 h with h | h
      · exact .inr (by simp [h])
      · rcases mput_keys h with h | h
        · exact .inl h
        · exact .inr (by simp [h])
theorem mput_mem {k : κ} {v : ν} {x : κ} : ∀ {l : List (κ × ν)}, x ∈ (mput l k v).map (·.1) ↔ x = k ∨ x ∈ l.map (·.1)
  | [] => by simp [mput]
  | (a, b) :: l => by
    simp only [mput]
    split
    · rename_i h; subst h; simp
    · simp only [List.map_cons, List.mem_cons, mput_mem (l := l)]
      constructor
      · rintro (h | h | h)
        · exact .inr (.inl h)
        · exact .inl h
        · exact .inr (.inr h)
      · rintro (h | h | h)
        · exact .inr (.inl h)
        · exact .inl h
        · exact .inr (.inr h)
theorem mput_nodup {k : κ} {v : ν} : ∀ {l : List (κ × ν)}, (l.map (·.1)).Nodup → ((mput l k v).map (·.1)).Nodup
  | [], _ => by simp [mput]
  | (a, b) :: l, h => by
    simp only [List.map_cons, List.nodup_cons] at h
    simp only [mput]
    split
    · rename_i e; subst e; simp only [List.map_cons, List.nodup_cons]; exact h
    · rename_i e
      simp only [List.map_cons, List.nodup_cons, mput_mem]
      exact ⟨by rintro (h' | h'); exact e h'; exact h.1 h', mput_nodup h.2⟩
theorem mdel_mem {k : κ} : ∀ {l : List (κ × ν)} {q : κ × ν}, q ∈ mdel l k → q ∈ l
  | [], _, h => h
  | (a, b) :: l, q, h => by
    simp only [mdel] at h
    split at h
    · simp [h]
    · rcases List.mem_cons.1 h with h | h
      · simp [h]
      · simp [mdel_mem h]
theorem mdel_nodup {k : κ} : ∀ {l : List (κ × ν)}, (l.map (·.1)).Nodup → ((mdel l k).map (·.1)).Nodup
  | [], h => h
  | (a, b) :: l, h => by
    simp only [List.map_cons, List.nodup_cons] at h
    simp only [mdel]
    split
    · exact h.2
    · simp only [List.map_cons, List.nodup_cons]
      refine ⟨fun hm => h.1 ?_, mdel_nodup h.2⟩
      obtain ⟨p, hp, e⟩ := List.mem_map.1 hm
      exact List.mem_map.2 ⟨p, mdel_mem hp, e⟩
end

/-! ### The block -/
/-- Keys that a map may have. -/
class Key (κ : Type) [Enc κ] [Flat κ] where
  ok : κ → Bool
instance : Key Int := ⟨fun k => (Lit.int .i64 k).wf⟩

def fv {α : Type} [Enc α] [Flat α] (x : α) : Value := Enc.val α (Flat.enc x)
/-- The key's type. -/
structure KT (P : Program) (tk : TypeId) (κ : Type) [Enc κ] [Flat κ] [Key κ] : Prop where
  kd : Keyed P tk
  of : ∀ k : κ, Key.ok k = true → ∃ l, keyOf P tk (fv k) = some l
  inj : ∀ a b : κ, fv a = fv b → a = b
theorem KT.int {P : Program} {tk : TypeId} (h : P.underlying tk = some (.int .i64)) : KT P tk Int :=
  ⟨Maps.int_keyed h, fun k hk => ⟨_, Maps.keyOf_int_mk h hk⟩, fun a b e => by
    have : Value.int .i64 a = Value.int .i64 b := e
    cases this; rfl⟩

set_option linter.unusedSectionVars false
variable {κ ν : Type} [DecidableEq κ] [Enc κ] [Flat κ] [Key κ] [Enc ν] [Flat ν]
/-- Block b is a map of these pairs. -/
def Mp (w : World) (b : Nat) (l : List (κ × ν)) : Prop :=
  ∃ es clock, w.heap[b]? = some (.map es clock) ∧ es.toList.map (fun e => (e.key, e.val)) = l.map (fun p => (fv p.1, fv p.2)) ∧ (l.map (·.1)).Nodup ∧ ∀ p ∈ l, Key.ok p.1 = true

section
variable {w w' : World} {b : Nat} {l : List (κ × ν)}
theorem Mp.same (h : Mp w b l) (k : w'.heap[b]? = w.heap[b]?) : Mp w' b l := by
  obtain ⟨es, c, h1, h⟩ := h
  exact ⟨es, c, k.trans h1, h⟩
theorem Mp.lt (h : Mp w b l) : b < w.heap.size := by
  obtain ⟨es, c, h1, _⟩ := h
  exact (Array.getElem?_eq_some_iff.1 h1).1
theorem Mp.below (h : Mp w b l) {B : Nat} (k : Below B w w') (hb : b < B) : Mp w' b l := h.same (k.block b hb)
theorem Mp.ext (h : Mp w b l) (k : Ext w w') : Mp w' b l := h.below k h.lt
theorem Mp.chg {c : Nat} (h : Mp w b l) (k : Chg c w w') (hne : b ≠ c) : Mp w' b l := h.same (k.other b hne)
theorem Mp.gr {row : Option Nat} (h : Mp w b l) (g : w.grownBy w' row) (hne : some b ≠ row) : Mp w' b l := h.same (g.block b h.lt hne)
theorem Mp.new (w : World) : Mp (κ := κ) (ν := ν) (w.alloc (.map #[] 0)) w.heap.size [] :=
  ⟨#[], 0, by show (w.heap.push _)[w.heap.size]? = _; rw [Array.getElem?_push, if_pos rfl], rfl, by simp, by simp⟩
theorem Mp.ok (h : Mp w b l) : ∀ p ∈ l, Key.ok p.1 = true := by
  obtain ⟨_, _, _, _, _, h⟩ := h
  exact h

/-- Not a block of cells. -/
theorem Mp.not_cells (h : Mp w b l) {T : TypeId} {cs : List Value} {c : Nat} (hx : Bx w c T cs) : b ≠ c := by
  rintro rfl
  obtain ⟨es, cl, h1, _⟩ := h
  rw [show w.heap[b]? = _ from hx] at h1
  cases h1

theorem es_at {es : Array MapEntry} {l : List (κ × ν)} (h : es.toList.map (fun e => (e.key, e.val)) = l.map (fun p => (fv p.1, fv p.2))) {j : Nat} {e : MapEntry} (he : es.toList[j]? = some e) :
    ∃ p, l[j]? = some p ∧ e.key = fv p.1 ∧ e.val = fv p.2 := by
  have := congrArg (fun x => x[j]?) h
  simp only [List.getElem?_map, he, Option.map_some] at this
  cases hl : l[j]? with
  | none => rw [hl] at this; cases this
  | some p =>
    rw [hl] at this
    simp only [Option.map_some, Option.some.injEq, Prod.mk.injEq] at this
    exact ⟨p, rfl, this.1, this.2⟩

theorem Mp.find {P : Program} {tk : TypeId} {es : Array MapEntry} (K : KT P tk κ) (h : es.toList.map (fun e => (e.key, e.val)) = l.map (fun p => (fv p.1, fv p.2))) (hok : ∀ p ∈ l, Key.ok p.1 = true) {k : κ} (hk : Key.ok k = true) (w : World) :
    ((Instr.findKey tk (fv k) es.toList).run P w = .ok none w ∧ ∀ p ∈ l, p.1 ≠ k) ∨
    ∃ j u, (Instr.findKey tk (fv k) es.toList).run P w = .ok (some (j, fv u)) w ∧ l[j]? = some (k, u) ∧ ∃ e, es[j]? = some e ∧ e.key = fv k := by
  obtain ⟨lk, hlk⟩ := K.of k hk
  have hr : ∀ e ∈ es.toList, ∃ l, keyOf P tk e.key = some l := by
    intro e he
    obtain ⟨j, hj, rfl⟩ := List.getElem_of_mem he
    obtain ⟨p, hp, h1, _⟩ := es_at h (j := j) (List.getElem?_eq_getElem hj)
    rw [h1]
    exact K.of _ (hok p (List.mem_of_getElem? hp))
  rcases K.kd.find w hlk es.toList hr with ⟨h1, h2⟩ | ⟨j, e, h1, h2, h3⟩
  · refine .inl ⟨h1, fun p hp e => ?_⟩
    obtain ⟨j, hj, rfl⟩ := List.getElem_of_mem hp
    have hlen : es.toList.length = l.length := by have := congrArg List.length h; simpa using this
    obtain ⟨p2, hp2, h4, _⟩ := es_at h (j := j) (List.getElem?_eq_getElem (by omega))
    rw [List.getElem?_eq_getElem hj] at hp2
    cases hp2
    exact h2 _ (List.getElem_mem _) (by rw [h4, e])
  · obtain ⟨p, hp, h4, h5⟩ := es_at h h2
    have : p.1 = k := K.inj _ _ (by rw [← h4, h3])
    refine .inr ⟨j, p.2, by rw [← h5]; exact h1, by rw [hp, ← this], e, by simpa using h2, h3⟩
end

section
variable {P : Program} {Q : Exit → Act → World → Prop} {n : Nat} {L : Fr} {D : List Deferred} {w : World} {ops : Array Oper} {rest : List Oper}
variable {ty : TypeId} {pos : String} {af : Array Edge} {dst : Option Nat} {gdd : Option (Nat × Bool)} {x y z : Operand}
variable {t tk te : TypeId} {agg : Bool} {m bytes : Nat} {zz : List Value}

/-- m[k]. -/
theorem xlku {b : Nat} {l : List (κ × ν)} {k : κ} {d : ν} (ht : P.underlying t = some (.map tk te)) (K : KT P tk κ) (hz : (zeroValue te).run P w = .ok (fv d) w) (h : Mp w b l) (hk : Key.ok k = true) (hx : ev n L x = .map (some b)) (hy : ev n L y = fv k) :
    (execOp (ev n L) { dst := dst, op := .lookup t x y false, type := ty, pos := pos, after := af, guard := gdd }).run P w = .ok (.value (fv (mget d l k))) w := by
  obtain ⟨es, c, hb, he, hn, hok⟩ := h
  obtain ⟨lk, hlk⟩ := K.of k hk
  rcases Mp.find K he hok hk w with ⟨h1, h2⟩ | ⟨j, u, h1, h2, e, h3, h4⟩
  · rw [(mget_no h2).1]
    simp [execOp, Instr.lookup, hx, hy, run_underlying ht, MapKept.run_getObj_map hb, K.kd.check w _ hlk, h1, hz, Result.andThen]
  · rw [(mget_at hn h2).1]
    simp [execOp, Instr.lookup, hx, hy, run_underlying ht, MapKept.run_getObj_map hb, K.kd.check w _ hlk, h1, Result.andThen]

/-- v, ok := m[k]. -/
theorem xlkuo {b : Nat} {l : List (κ × ν)} {k : κ} {d : ν} (ht : P.underlying t = some (.map tk te)) (K : KT P tk κ) (hz : (zeroValue te).run P w = .ok (fv d) w) (h : Mp w b l) (hk : Key.ok k = true) (hx : ev n L x = .map (some b)) (hy : ev n L y = fv k) :
    (execOp (ev n L) { dst := dst, op := .lookup t x y true, type := ty, pos := pos, after := af, guard := gdd }).run P w = .ok (.value (.tuple #[fv (mget d l k), .bool (mhas l k)])) w := by
  obtain ⟨es, c, hb, he, hn, hok⟩ := h
  obtain ⟨lk, hlk⟩ := K.of k hk
  rcases Mp.find K he hok hk w with ⟨h1, h2⟩ | ⟨j, u, h1, h2, e, h3, h4⟩
  · rw [(mget_no h2).1, (mget_no (d := d) h2).2.1]
    simp [execOp, Instr.lookup, hx, hy, run_underlying ht, MapKept.run_getObj_map hb, K.kd.check w _ hlk, h1, hz, Result.andThen]
  · rw [(mget_at hn h2).1, (mget_at (d := d) hn h2).2.1]
    simp [execOp, Instr.lookup, hx, hy, run_underlying ht, MapKept.run_getObj_map hb, K.kd.check w _ hlk, h1, Result.andThen]

theorem chg_set {b : Nat} {o : Obj} {es : Array MapEntry} {c : Nat} (hb : w.heap[b]? = some (.map es c)) : Chg b w (ChangeMaps.setBlock w b o) ∧ (ChangeMaps.setBlock w b o).heap[b]? = some o :=
  ⟨⟨rfl, rfl, rfl, by simp [ChangeMaps.setBlock], fun i hi => ChangeMaps.heap_setBlock_other hb _ hi⟩, ChangeMaps.heap_setBlock_same hb _⟩

theorem run_mput {b : Nat} {l : List (κ × ν)} {k : κ} {v : ν} (ht : P.underlying t = some (.map tk te)) (K : KT P tk κ) (h : Mp w b l) (hk : Key.ok k = true) :
    ∃ w', (Instr.mapUpdate t (.map (some b)) (fv k) (fv v)).run P w = .ok () w' ∧ Chg b w w' ∧ Mp w' b (mput l k v) := by
  obtain ⟨es, c, hb, he, hn, hok⟩ := h
  obtain ⟨lk, hlk⟩ := K.of k hk
  have hok' : ∀ p ∈ mput l k v, Key.ok p.1 = true := fun p hp => by
    rcases mput_keys hp with rfl | hp
    · exact hk
    · exact hok p hp
  rcases Mp.find K he hok hk w with ⟨h1, h2⟩ | ⟨j, u, h1, h2, e, h3, h4⟩
  · obtain ⟨h5, h6⟩ := chg_set (w := w) (o := .map (es.push ⟨fv k, fv v, c⟩) (c + 1)) hb
    refine ⟨_, ?_, h5, _, _, h6, ?_, mput_nodup hn, hok'⟩
    · simp [Instr.mapUpdate, run_underlying ht, MapKept.run_getObj_map hb, K.kd.check w false hlk, h1, MapKept.run_setObj_map _ hb, Result.andThen, ChangeMaps.setBlock]
    · rw [(mget_no (d := v) h2).2.2.1 v, Array.toList_push, List.map_append, he]
      simp
  · obtain ⟨h5, h6⟩ := chg_set (w := w) (o := .map (es.modify j (fun e' => { e' with key := fv k, val := fv v })) c) hb
    refine ⟨_, ?_, h5, _, _, h6, ?_, mput_nodup hn, hok'⟩
    · simp [Instr.mapUpdate, run_underlying ht, MapKept.run_getObj_map hb, K.kd.check w false hlk, h1, h3, h4, K.kd.stays w hlk, MapKept.run_setObj_map _ hb, Result.andThen, ChangeMaps.setBlock]
    · rw [(mget_at (d := v) hn h2).2.2.1 v, Array.toList_modify, ChangeMaps.modify_eq_set _ _ _ e (by simpa using h3), List.map_set, he, List.map_set]

theorem run_mdel {b : Nat} {l : List (κ × ν)} {k : κ} (ht : P.underlying t = some (.map tk te)) (K : KT P tk κ) (h : Mp w b l) (hk : Key.ok k = true) :
    ∃ w', (Builtin.delete_ #[t, tk] ty #[.map (some b), fv k]).run P w = .ok (.tuple #[]) w' ∧ Chg b w w' ∧ Mp w' b (mdel l k) := by
  obtain ⟨es, c, hb, he, hn, hok⟩ := h
  obtain ⟨lk, hlk⟩ := K.of k hk
  have hok' : ∀ p ∈ mdel l k, Key.ok p.1 = true := fun p hp => hok p (mdel_mem hp)
  rcases Mp.find K he hok hk w with ⟨h1, h2⟩ | ⟨j, u, h1, h2, e, h3, h4⟩
  · obtain ⟨h5, h6⟩ := chg_set (w := w) (o := .map es c) hb
    refine ⟨_, ?_, h5, _, _, h6, ?_, mdel_nodup hn, hok'⟩
    · simp [Builtin.delete_, run_underlying ht, MapKept.run_getObj_map hb, K.kd.check w _ hlk, h1, MapKept.run_setObj_map _ hb, Result.andThen, ChangeMaps.setBlock]
    · have hu : ∀ v : ν, mdel l k = l := fun v => (mget_no (d := v) h2).2.2.2
      by_cases hl : l = []
      · subst hl; exact he
      · obtain ⟨p, hp⟩ := List.exists_mem_of_ne_nil l hl
        rw [hu p.2, he]
  · obtain ⟨h5, h6⟩ := chg_set (w := w) (o := .map (es.eraseIdxIfInBounds j) c) hb
    refine ⟨_, ?_, h5, _, _, h6, ?_, mdel_nodup hn, hok'⟩
    · simp [Builtin.delete_, run_underlying ht, MapKept.run_getObj_map hb, K.kd.check w _ hlk, h1, MapKept.run_setObj_map _ hb, Result.andThen, ChangeMaps.setBlock]
    · have hjs : j < es.size := (Array.getElem?_eq_some_iff.1 h3).1
      have hsub : (es.eraseIdxIfInBounds j).toList = es.toList.eraseIdx j := by
        unfold Array.eraseIdxIfInBounds
        rw [dif_pos hjs]
        simp
      rw [(mget_at (d := u) hn h2).2.2.2, hsub, ChangeMaps.map_eraseIdx, he, ChangeMaps.map_eraseIdx]

theorem smup {b : Nat} {l : List (κ × ν)} {k : κ} {v : ν} (hx : ev n L x = .map (some b)) (hy : ev n L y = fv k) (hz : ev n L z = fv v) (ht : P.underlying t = some (.map tk te)) (K : KT P tk κ) (h : Mp w b l) (hk : Key.ok k = true)
    (cont : ∀ w', Chg b w w' → Mp w' b (mput l k v) → wpList P ops Q rest (act n L D) w') :
    wpList P ops Q ({ dst := none, op := .mapUpdate t x y z, type := ty, pos := pos, after := af, guard := none } :: rest) (act n L D) w := by
  obtain ⟨w', hr, h1, h2⟩ := run_mput (v := v) ht K h hk
  refine wpList_plain rfl fun K hK => ?_
  simp only [Oper.wp, ev_act, execOp, hx, hy, hz, Sem.run_bind, hr, Result.andThen, Oper.upon]
  exact hK _ _ (cont w' h1 h2)

theorem smdl {b d : Nat} {l : List (κ × ν)} {k : κ} (hx : ev n L x = .map (some b)) (hy : ev n L y = fv k) (ht : P.underlying t = some (.map tk te)) (K : KT P tk κ) (h : Mp w b l) (hk : Key.ok k = true)
    (cont : ∀ w', Chg b w w' → Mp w' b (mdel l k) → wpList P ops Q rest (act n (upd L d (.tuple #[])) D) w') :
    wpList P ops Q ({ dst := some d, op := .call { callee := .builtin .delete, args := #[x, y], argTypes := #[t, tk] }, type := ty, pos := pos, after := af, guard := none } :: rest) (act n L D) w := by
  obtain ⟨w', hr, h1, h2⟩ := run_mdel (ty := ty) ht K h hk
  exact vl rfl rfl (v := .tuple #[]) (w' := w') (by simp [execOp, resolve, invoke, Go.builtin, hx, hy, hr]) (cont w' h1 h2)
theorem smdn {b : Nat} {l : List (κ × ν)} {k : κ} (hx : ev n L x = .map (some b)) (hy : ev n L y = fv k) (ht : P.underlying t = some (.map tk te)) (K : KT P tk κ) (h : Mp w b l) (hk : Key.ok k = true)
    (cont : ∀ w', Chg b w w' → Mp w' b (mdel l k) → wpList P ops Q rest (act n L D) w') :
    wpList P ops Q ({ dst := none, op := .call { callee := .builtin .delete, args := #[x, y], argTypes := #[t, tk] }, type := ty, pos := pos, after := af, guard := none } :: rest) (act n L D) w := by
  obtain ⟨w', hr, h1, h2⟩ := run_mdel (ty := ty) ht K h hk
  refine wpList_plain rfl fun K hK => ?_
  simp only [Oper.wp, ev_act, execOp, resolve, invoke, Go.builtin, List.map_toArray, List.map_cons, List.map_nil, hx, hy, Sem.run_bind, Sem.run_pure, hr, Result.andThen, Oper.upon]
  exact hK _ _ (cont w' h1 h2)

theorem smmk {d : Nat} (cont : ∀ b w', Ext w w' → w.heap.size ≤ b → Mp (κ := κ) (ν := ν) w' b [] → wpList P ops Q rest (act n (upd L d (.map (some b))) D) w') :
    wpList P ops Q ({ dst := some d, op := .makeMap t none, type := ty, pos := pos, after := af, guard := none } :: rest) (act n L D) w :=
  vl rfl rfl (v := .map (some w.heap.size)) (w' := w.alloc (.map #[] 0)) (by simp [execOp, RowKit.run_makeMap]) (cont _ _ (Ext.alloc _ _) (Nat.le_refl _) (Mp.new w))
end
end Go.Md
