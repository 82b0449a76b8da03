/-
  '==' at structs and arrays of numbers; guards that are known. No condition: lemmas about the model.
-/
import Derived.Test.YtboefnpnoojfpaaStep
import Derived.ChangeKeysEq
namespace Go.Md
open Go Go.RowKit

/-- '==' at the type t is equality of what is read. -/
structure EQ (P : Program) (t : TypeId) (α : Type) [Enc α] [Flat α] [DecidableEq α] (k : Nat) : Prop where
  run : ∀ d w (x y : α), (Op.equalIn (d + k) t (Enc.val α (Flat.enc x)) (Enc.val α (Flat.enc y))).run P w = .ok (decide (x = y)) w

theorem EQ.int {P : Program} {t : TypeId} (h : P.underlying t = some (.int .i64)) : EQ P t Int 1 := ⟨fun d w x y => by
  have := run_equalIn_int (P := P) w d t .i64 .i64 x y h
  exact this⟩
theorem EQ.ki {P : Program} {t : TypeId} {k : IntKind} (h : P.underlying t = some (.int k)) : EQ P t (KI k) 1 := ⟨fun d w x y => by
  have := run_equalIn_int (P := P) w d t k k x.v y.v h
  refine Eq.trans this ?_
  congr 1
  cases x; cases y
  simp only [KI.mk.injEq]
  rfl⟩
theorem EQ.bool {P : Program} {t : TypeId} (h : P.underlying t = some .bool) : EQ P t Bool 1 := ⟨fun d w x y => by
  have := run_equalIn_bool' (P := P) w d t x y h
  refine Eq.trans this ?_
  cases x <;> cases y <;> rfl⟩

theorem EQ.up {P : Program} {t k : Nat} {α : Type} [Enc α] [Flat α] [DecidableEq α] (h : EQ P t α k) : EQ P t α (k + 1) := ⟨fun d w x y => by
  rw [show d + (k + 1) = (d + 1) + k by omega]
  exact h.run (d + 1) w x y⟩

theorem run_part_mid {P : Program} {e : TypeId} {β : Type} [Enc β] [Flat β] {by' : Nat} {z : List Value} (ht : TI P e (Enc.agg β) (Enc.n β) by' z) (w : World) (pre post : List Value) (y : β) :
    (part e (pre ++ (Flat.enc y ++ post)).toArray pre.length).run P w = .ok (Enc.val β (Flat.enc y)) w := by
  have hl := Flat.len y
  unfold part Enc.val
  simp only [Sem.run_bind, ht.ag, Result.andThen_ok]
  cases ha : Enc.agg β with
  | true =>
    simp only [if_true, Sem.run_bind, ht.size, Result.andThen_ok, Sem.run_pure, cond_true]
    congr 2
    apply Array.ext'
    simp [← hl]
  | false =>
    rw [Enc.sgl ha] at hl
    match hc : Flat.enc y, hl with
    | [c], _ => simp

/-- '==' of fields, from an offset on. -/
structure EL (P : Program) (fs : List Field) (off : Nat) (α : Type) [Enc α] [Flat α] [DecidableEq α] (k : Nat) : Prop where
  run : ∀ d w (pre pre' : List Value) (x y : α), pre.length = off → pre'.length = off → (Op.eqFields (d + k) (pre ++ Flat.enc x).toArray (pre' ++ Flat.enc y).toArray fs).run P w = .ok (decide (x = y)) w

theorem EL.one {P : Program} {f : Field} {off by' k : Nat} {z : List Value} {α : Type} [Enc α] [Flat α] [DecidableEq α] (hn : (f.name != "_") = true) (ho : f.offset = off) (ht : TI P f.type (Enc.agg α) (Enc.n α) by' z) (h : EQ P f.type α k) :
    EL P [f] off α k := ⟨fun d w pre pre' x y h1 h2 => by
  have p1 := run_part_mid ht w pre [] x
  have p2 := run_part_mid ht w pre' [] y
  rw [List.append_nil, h1] at p1
  rw [List.append_nil, h2] at p2
  have hn' : f.name ≠ "_" := by simpa using hn
  simp only [Op.eqFields, hn', ne_eq, not_false_eq_true, if_true, Sem.run_bind, ho, p1, p2, Result.andThen_ok, h.run]
  cases decide (x = y) <;> rfl⟩

theorem EL.cons {P : Program} {f : Field} {fs : List Field} {off by' k : Nat} {z : List Value} {α β : Type} [Enc α] [Flat α] [DecidableEq α] [Enc β] [Flat β] [DecidableEq β] (hn : (f.name != "_") = true) (ho : f.offset = off)
    (ht : TI P f.type (Enc.agg α) (Enc.n α) by' z) (h : EQ P f.type α k) (hs : EL P fs (off + Enc.n α) β k) : EL P (f :: fs) off (α × β) k := ⟨fun d w pre pre' x y h1 h2 => by
  obtain ⟨x1, x2⟩ := x
  obtain ⟨y1, y2⟩ := y
  have p1 := run_part_mid ht w pre (Flat.enc x2) x1
  have p2 := run_part_mid ht w pre' (Flat.enc y2) y1
  have p3 := hs.run d w (pre ++ Flat.enc x1) (pre' ++ Flat.enc y1) x2 y2 (by simp [h1, Flat.len]) (by simp [h2, Flat.len])
  rw [h1] at p1
  rw [h2] at p2
  rw [List.append_assoc, List.append_assoc] at p3
  have hn' : f.name ≠ "_" := by simpa using hn
  simp only [Op.eqFields, hn', ne_eq, not_false_eq_true, if_true, Sem.run_bind, ho]
  show Result.andThen ((part f.type (pre ++ (Flat.enc x1 ++ Flat.enc x2)).toArray off).run P w) _ = _
  rw [p1]
  simp only [Result.andThen_ok]
  rw [show (pre' ++ Flat.enc (y1, y2)) = pre' ++ (Flat.enc y1 ++ Flat.enc y2) from rfl, p2]
  simp only [Result.andThen_ok, h.run]
  by_cases e : x1 = y1
  · subst e
    simp only [decide_true, Bool.not_true, Bool.false_eq_true, if_false]
    rw [show (pre ++ Flat.enc (x1, x2)) = pre ++ (Flat.enc x1 ++ Flat.enc x2) from rfl, p3]
    simp
  · simp [e]⟩

theorem EQ.st {P : Program} {t k : Nat} {fs : List Field} {α : Type} [Enc α] [Flat α] [DecidableEq α] (ha : Enc.agg α = true) (hu : P.underlying t = some (.struct fs.toArray)) (hp : P.stoodInHeld t = false) (h : EL P fs 0 α k) : EQ P t α (k + 1) := ⟨fun d w x y => by
  have hf : P.fieldsOf t = fs.toArray := by simp [Program.fieldsOf, hu]
  have := h.run d w [] [] x y rfl rfl
  unfold Enc.val
  rw [ha]
  show (Op.equalIn (d + k + 1) t (.agg (Flat.enc x).toArray) (.agg (Flat.enc y).toArray)).run P w = _
  rw [run_equalIn_struct w (d + k) t _ _ (by rw [hf]; exact hu) hp, hf]
  simpa using this⟩

theorem run_items {P : Program} {e by' k : Nat} {z : List Value} {α : Type} [Enc α] [Flat α] [DecidableEq α] (he : TI P e (Enc.agg α) (Enc.n α) by' z) (h : EQ P e α k) (d : Nat) (w : World) : ∀ (a b : List α) (pre pre' : List α), a.length = b.length → pre.length = pre'.length →
    (Op.eqItems (d + k) e (Enc.n α) ((pre ++ a).flatMap Flat.enc).toArray ((pre' ++ b).flatMap Flat.enc).toArray (List.range' pre.length a.length)).run P w = .ok (decide (a = b)) w
  | [], [], _, _, _, _ => by simp [Op.eqItems]
  | x :: a, y :: b, pre, pre', hl, hp => by
    have p1 := run_part_mid he w (pre.flatMap Flat.enc) (a.flatMap Flat.enc) x
    have p2 := run_part_mid he w (pre'.flatMap Flat.enc) (b.flatMap Flat.enc) y
    have p3 := run_items he h d w a b (pre ++ [x]) (pre' ++ [y]) (by simpa using hl) (by simp [hp])
    rw [Flat.flen] at p1 p2
    rw [← hp] at p2
    rw [List.append_assoc, List.append_assoc] at p3
    simp only [List.length_cons, List.range'_succ, Op.eqItems, Sem.run_bind]
    rw [List.flatMap_append, List.flatMap_append, List.flatMap_cons, List.flatMap_cons, p1]
    simp only [Result.andThen_ok]
    rw [p2]
    simp only [Result.andThen_ok, h.run]
    by_cases e : x = y
    · subst e
      simp only [decide_true, Bool.not_true, Bool.false_eq_true, if_false]
      simp only [List.length_append, List.length_cons, List.length_nil, Nat.zero_add, List.cons_append, List.nil_append, List.flatMap_append, List.flatMap_cons] at p3
      rw [p3]
      simp
    · simp [e]
  | [], _ :: _, _, _, hl, _ => by simp at hl
  | _ :: _, [], _, _, hl, _ => by simp at hl

theorem EQ.ar {P : Program} {t e m by' k : Nat} {z : List Value} {α : Type} [Enc α] [Flat α] [DecidableEq α] (hu : P.underlying t = some (.array m e)) (he : TI P e (Enc.agg α) (Enc.n α) by' z) (h : EQ P e α k) : EQ P t (Ar m α) (k + 1) := ⟨fun d w x y => by
  obtain ⟨i, v, hi, hn, _⟩ := he.info
  have hc : P.cellsOf e = Enc.n α := by simp [Program.cellsOf, hi, hn]
  have := run_items he h d w x.l y.l [] [] (by rw [x.h, y.h]) rfl
  show (Op.equalIn (d + k + 1) t (.agg (x.l.flatMap Flat.enc).toArray) (.agg (y.l.flatMap Flat.enc).toArray)).run P w = _
  rw [run_equalIn_array w (d + k) _ _ hu hi, hc, List.range_eq_range']
  rw [x.h] at this
  refine Eq.trans this ?_
  congr 1
  obtain ⟨xl, xh⟩ := x
  obtain ⟨yl, yh⟩ := y
  simp⟩

section
variable {P : Program} {Q : Exit → Act → World → Prop} {n : Nat} {L : Fr} {D : List Deferred} {w : World} {ops : Array Oper} {rest : List Oper}
variable {ty : TypeId} {pos : String} {af : Array Edge} {dst : Option Nat} {gdd : Option (Nat × Bool)} {x y z : Operand}

theorem xage {α : Type} [Enc α] [Flat α] [DecidableEq α] {t t' k : Nat} {a b : α} {va vb : Value} (ha : Enc.agg α = true) (hg : P.eqGuardType P.depth t = false) (he : EQ P t α k) (hk : Nat.ble k 10000 = true) (hx : ev n L x = va) (hy : ev n L y = vb) (hva : va = .agg (Flat.enc a).toArray) (hvb : vb = .agg (Flat.enc b).toArray) :
    (execOp (ev n L) { dst := dst, op := .binOp .eql t x y t', type := ty, pos := pos, after := af, guard := gdd }).run P w = .ok (.value (.bool (decide (a = b)))) w := by
  have h := he.run (10000 - k) w a b
  rw [show 10000 - k + k = 10000 by have := ble hk; omega] at h
  unfold Enc.val at h
  rw [ha] at h
  have h' : (Op.equal t (.agg (Flat.enc a).toArray) (.agg (Flat.enc b).toArray)).run P w = .ok (decide (a = b)) w := h
  subst hva hvb
  simp [execOp, hx, hy, eqGuard, Go.binOp, hg, h']
theorem xagn {α : Type} [Enc α] [Flat α] [DecidableEq α] {t t' k : Nat} {a b : α} {va vb : Value} (ha : Enc.agg α = true) (hg : P.eqGuardType P.depth t = false) (he : EQ P t α k) (hk : Nat.ble k 10000 = true) (hx : ev n L x = va) (hy : ev n L y = vb) (hva : va = .agg (Flat.enc a).toArray) (hvb : vb = .agg (Flat.enc b).toArray) :
    (execOp (ev n L) { dst := dst, op := .binOp .neq t x y t', type := ty, pos := pos, after := af, guard := gdd }).run P w = .ok (.value (.bool (!decide (a = b)))) w := by
  have h := he.run (10000 - k) w a b
  rw [show 10000 - k + k = 10000 by have := ble hk; omega] at h
  unfold Enc.val at h
  rw [ha] at h
  have h' : (Op.equal t (.agg (Flat.enc a).toArray) (.agg (Flat.enc b).toArray)).run P w = .ok (decide (a = b)) w := h
  subst hva hvb
  simp [execOp, hx, hy, eqGuard, Go.binOp, hg, h']

/-! ### Guards that are known -/
theorem gtk {o : Oper} {j : Nat} {b : Bool} {oj : Oper} {t : Nat} {v : Value} (hg : o.guard = some (j, b)) (hj : ops[j]? = some oj) (hd : oj.dst = some t) (ht : Nat.blt t n = true)
    (hv : L t = v) (hb : v = .bool b) (h : wpList P ops Q ({ o with guard := none } :: rest) (act n L D) w) : wpList P ops Q (o :: rest) (act n L D) w := gt hg hj hd ht (hv.trans hb) h
theorem gfk {o : Oper} {j : Nat} {b : Bool} {oj : Oper} {t d : Nat} {v : Value} (hg : o.guard = some (j, b)) (hj : ops[j]? = some oj) (hd : oj.dst = some t) (ht : Nat.blt t n = true)
    (hv : L t = v) (hb : v ≠ .bool b) (hdd : o.dst = some d) (h : wpList P ops Q rest (act n (upd L d undef) D) w) : wpList P ops Q (o :: rest) (act n L D) w := gfn hg hj hd ht (fun e => hb (hv.symm.trans e)) hdd h
theorem bt {c : Bool} (h : c = true) : Value.bool c = .bool true := by rw [h]
theorem bf {c : Bool} (h : c = false) : Value.bool c = .bool false := by rw [h]
theorem btf {c : Bool} (h : c = true) : Value.bool c ≠ .bool false := by rw [h]; simp
theorem bft {c : Bool} (h : c = false) : Value.bool c ≠ .bool true := by rw [h]; simp
theorem bu {b : Bool} : undef ≠ Value.bool b := by simp [undef]
theorem xpt {c : Bool} {v : Value} (hx : ev n L x = .bool c) (hc : c = true) (hy : ev n L y = v) : (execOp (ev n L) { dst := dst, op := .pick x y z, type := ty, pos := pos, after := af, guard := gdd }).run P w = .ok (.value v) w := by
  rw [xpk hx, hc, hy]; rfl
theorem xpf {c : Bool} {v : Value} (hx : ev n L x = .bool c) (hc : c = false) (hz : ev n L z = v) : (execOp (ev n L) { dst := dst, op := .pick x y z, type := ty, pos := pos, after := af, guard := gdd }).run P w = .ok (.value v) w := by
  rw [xpk hx, hc, hz]; rfl

variable {S : World → Prop} {T : List Nat} {QQ : Act → World → Prop}
theorem pvt {any : Bool} {i : Nat} {p : Plan} {o : Oper} {d j : Nat} {b : Bool} {oj : Oper} {t : Nat} {v u : Value} (ho : ops[i]? = some o) (hg : o.guard = some (j, b)) (hj : ops[j]? = some oj) (hdj : oj.dst = some t) (ht : Nat.blt t n = true)
    (hv : L t = u) (hb : u = .bool b) (hd : o.dst = some d)
    (h : ∀ w', (any = true ∨ S w') → (execOp (ev n L) o).run P w' = .ok (.value v) w') (hS : any = true ∨ S w) (k : p.wp P ops S T QQ false (act n (upd L d v) D) w) :
    Plan.wp P ops S T QQ false (.pure any i p) (act n L D) w := by
  refine ⟨o, v, ho, .inl ⟨?_, fun w' hw' => by rw [ev_act]; exact h w' hw'⟩, hS, by rw [hd, put_act]; exact k⟩
  simp [Region.wanted, hg, yielded, hj, hdj, tmps_act n L D t ht, hv, hb]
theorem pvf {any : Bool} {i : Nat} {p : Plan} {o : Oper} {d j : Nat} {b : Bool} {oj : Oper} {t : Nat} {u : Value} (ho : ops[i]? = some o) (hg : o.guard = some (j, b)) (hj : ops[j]? = some oj) (hdj : oj.dst = some t) (ht : Nat.blt t n = true)
    (hv : L t = u) (hb : u ≠ .bool b) (hd : o.dst = some d) (hS : any = true ∨ S w) (k : p.wp P ops S T QQ false (act n (upd L d undef) D) w) :
    Plan.wp P ops S T QQ false (.pure any i p) (act n L D) w := by
  refine ⟨o, undef, ho, .inr ⟨?_, rfl⟩, hS, by rw [hd, put_act]; exact k⟩
  simp only [Region.wanted, hg, yielded, hj, hdj, Option.bind_some, tmps_act n L D t ht, hv]
  cases u <;> simp_all
end
end Go.Md
