/-
  From a statement's arguments to data, and back: what the given rows ask around a walk. No condition: lemmas about the model.
-/
import Derived.Test.YtboefnpnoojfpaaIter
import Derived.ChangeSame
import Derived.Carry
import Derived.WalkKit
import Derived.ProofKit
import Derived.OpenShut
namespace Go.Md
open Go Go.RowKit Go.ChangeShapes Go.WideShapes

/-! ### Behind the call -/
section
variable {H : Type} {enc : TypeId × Value → H} {P : Program} {W W' : World}
theorem trodAll_ext (hl : laidOutB P = true) (hb : Ext W W') : ∀ {ts : List TypeId} {vs : List Value} {ds : List (DataW H)} {ps : List MemPlace}, (ts.all fun t => P.readableRec t && Nat.blt t P.types.size) = true →
    DataW.TrodAll enc P W 0 (fun _ => true) true ts vs ds ps → (∀ x ∈ ps, x.block < W.heap.size) → DataW.TrodAll enc P W' 0 (fun b => decide (b < W.heap.size)) true ts vs ds ps
  | [], vs, ds, ps, _, h, _ => by
    obtain ⟨rfl, rfl, rfl⟩ := trodAll_nil h
    exact trodAll_mk0
  | t :: ts, vs, ds, ps, ht, h, hp => by
    obtain ⟨v, vs', d, ds', p, q, rfl, rfl, rfl, h1, h2⟩ := trodAll_cons h
    simp only [List.all_cons, Bool.and_eq_true, Nat.blt_eq] at ht
    exact ⟨p, q, Below.trod hl ht.1.1 ht.1.2 h1 hb (fun x hx => hp x (by simp [hx])), trodAll_ext hl hb ht.2 h2 (fun x hx => hp x (by simp [hx])), rfl⟩

theorem post_law {f : Func} {s : ChangeSpec} {args : Array Value} {ds gs : List (DataW H)} {before : List MemPlace} {tb : TypeId} (hl : laidOutB P = true) (hts : (f.params.toList.all fun t => P.readableRec t && Nat.blt t P.types.size) = true)
    (hW : DataW.Whole enc P f.params.toList s.vars false W args.toList ds gs before) (hv : s.vars = []) (hb : Ext W W') (hrt : f.resultTypes = #[tb]) (htb : P.underlying tb = some .bool)
    (hfn : s.fn H ds = { results := [.lit (.bool true)], args := ds }) : s.post enc P f false true false false W args (.bool true) W' := by
  have hlt : ∀ p ∈ before, p.block < W.heap.size := fun p hp => hW.lt p hp
  have hW' := hW
  obtain ⟨p, q, hA, hV, rfl, hz, hn⟩ := hW
  have hV' := hV
  rw [hv] at hV'
  obtain ⟨rfl, rfl⟩ := trodVars_none hV'
  simp only [List.append_nil] at hW' hlt
  refine ⟨ds, [], p, [], p, [], hW', ?_, ?_, ?_, Below.frame hb _, fun h => by cases h⟩
  · rw [hrt, List.append_nil, hfn]
    exact trodAll_mk1 (shut_bool htb true)
  · rw [List.append_nil, hfn]
    exact trodAll_ext hl hb hts hA hlt
  · rw [List.append_nil, hfn, hv]
    exact rfl
end

/-! ### Ahead of the call -/
/-- What a cell row reads as, if the reader reads it. -/
structure OpT (P : Program) (t : TypeId) (α : Type) [Enc α] (Rg : α → Prop) : Prop where
  n : P.cellsOf t = Enc.n α
  run : ∀ {H : Type} {enc : TypeId × Value → H} {W : World} {sp : Nat → Bool} {held : Bool} {fuel : Nat} {cs : List Value} {x : DataW H × List MemPlace}, DataW.trod enc P W 0 sp held fuel t cs = some x → ∃ a : α, Enc.rep (fun _ => True) W cs a ∧ Rg a

structure OpF (P : Program) (fs : List Field) (off : Nat) (α : Type) [Enc α] (Rg : α → Prop) : Prop where
  run : ∀ {H : Type} {enc : TypeId × Value → H} {W : World} {sp : Nat → Bool} {held : Bool} {fuel : Nat} {cs : List Value} {xs : List (DataW H × List MemPlace)},
    (fs.mapM fun f => DataW.trod enc P W 0 sp held fuel f.type ((cs.drop f.offset).take (P.cellsOf f.type))) = some xs → ∃ a : α, Enc.rep (fun _ => True) W ((cs.drop off).take (Enc.n α)) a ∧ Rg a

abbrev I64 (x : Int) : Prop := -9223372036854775808 ≤ x ∧ x ≤ 9223372036854775807
theorem wf_i64 {x : Int} (h : (Lit.int .i64 x).wf = true) : I64 x := by
  simp only [Lit.wf, Bool.and_eq_true, decide_eq_true_eq] at h
  exact h

section
variable {P : Program}
theorem OpT.int {t : TypeId} (ht : P.underlying t = some (.int .i64)) (hn : P.cellsOf t = 1) : OpT P t Int I64 := ⟨hn, by
  intro H enc W sp held fuel cs x h
  cases fuel with
  | zero => cases h
  | succ fuel =>
    unfold DataW.trod at h
    rw [ht] at h
    match cs, h with
    | [.int k n], h =>
      simp only at h
      split at h
      · rename_i hc
        obtain ⟨rfl, hw⟩ := hc
        exact ⟨n, rfl, wf_i64 hw⟩
      · cases h⟩
theorem OpT.bool {t : TypeId} (ht : P.underlying t = some .bool) (hn : P.cellsOf t = 1) : OpT P t Bool (fun _ => True) := ⟨hn, by
  intro H enc W sp held fuel cs x h
  cases fuel with
  | zero => cases h
  | succ fuel =>
    unfold DataW.trod at h
    rw [ht] at h
    match cs, h with
    | [.bool b], h => exact ⟨b, rfl, trivial⟩⟩
theorem OpT.ki {t : TypeId} {k : IntKind} (ht : P.underlying t = some (.int k)) (hn : P.cellsOf t = 1) : OpT P t (KI k) (fun x => (Lit.int k x.v).wf = true) := ⟨hn, by
  intro H enc W sp held fuel cs x h
  cases fuel with
  | zero => cases h
  | succ fuel =>
    unfold DataW.trod at h
    rw [ht] at h
    match cs, h with
    | [.int k' n], h =>
      simp only at h
      split at h
      · rename_i hc
        obtain ⟨rfl, hw⟩ := hc
        exact ⟨⟨n⟩, rfl, hw⟩
      · cases h⟩

theorem mapM_at {α β : Type} {f : α → Option β} : ∀ {l : List α} {r : List β}, l.mapM f = some r → ∀ (i : Nat) (x : α), l[i]? = some x → ∃ y, f x = some y ∧ r[i]? = some y
  | [], r, _, i, x, hx => by simp at hx
  | a :: l, r, h, i, x, hx => by
    simp only [List.mapM_cons, Option.bind_eq_bind, Option.bind_eq_some_iff, Option.pure_def, Option.some.injEq] at h
    obtain ⟨y, hy, ys, hys, rfl⟩ := h
    cases i with
    | zero => simp at hx; subst hx; exact ⟨y, hy, rfl⟩
    | succ i => simpa using mapM_at hys i x (by simpa using hx)

theorem cells_at {W : World} {a : Addr} {n : Nat} {cs : List Value} (h : W.cells? 0 a n = some cs) (hn : 0 < n) : a.spot = none ∧ Cs W a.block a.off cs ∧ cs.length = n := by
  unfold World.cells? at h
  rw [if_pos (Nat.zero_le _)] at h
  have hlen : cs.length = n := by
    have : ∀ {l : List Nat} {r : List Value} {f : Nat → Option Value}, l.mapM f = some r → r.length = l.length := by
      intro l
      induction l with
      | nil => intro r f h; simp at h; subst h; rfl
      | cons a l ih =>
        intro r f h
        simp only [List.mapM_cons, Option.bind_eq_bind, Option.bind_eq_some_iff, Option.pure_def, Option.some.injEq] at h
        obtain ⟨y, _, ys, hys, rfl⟩ := h
        simp [ih hys]
    simpa using this h
  have hsp : a.spot = none := by
    obtain ⟨y, hy, _⟩ := mapM_at h 0 0 (by simp [List.getElem?_range, hn])
    unfold World.cell? at hy
    unfold Addr.add at hy
    cases hs : a.spot with
    | none => rfl
    | some s =>
      simp [hs] at hy
      revert hy
      split <;> intro hy <;> simp_all
  refine ⟨hsp, fun j c hc => ?_, hlen⟩
  have hj : j < n := by rw [← hlen]; exact (List.getElem?_eq_some_iff.1 hc).1
  obtain ⟨y, hy, hr⟩ := mapM_at h j j (by simp [List.getElem?_range, hj])
  rw [hc] at hr
  cases hr
  obtain ⟨b, o, s⟩ := a
  simp only at hsp
  subst hsp
  rw [add_mk] at hy
  exact hy

theorem OpT.sl {t e : TypeId} {α : Type} [Enc α] {Rg : α → Prop} (ht : P.underlying t = some (.slice e)) (hn : P.cellsOf t = 1) (hm : Nat.ble 1 (Enc.n α) = true) (he : OpT P e α Rg) :
    OpT P t (List α) (fun l => (∀ x ∈ l, Rg x) ∧ l.length ≤ maxLen) := ⟨hn, by
  intro H enc W sp held fuel cs x h
  cases fuel with
  | zero => cases h
  | succ fuel =>
    unfold DataW.trod at h
    rw [ht] at h
    have nilc : ∀ (a : Option Addr), ∃ l : List α, Enc.rep (fun _ => True) W [Value.slice a 0 0] l ∧ (∀ x ∈ l, Rg x) ∧ l.length ≤ maxLen := fun a => ⟨[], ⟨a, 0, rfl, Nat.le_refl _, Nat.zero_le _, .inl rfl⟩, by simp, Nat.zero_le _⟩
    match cs, h with
    | [.slice none 0 0], h => exact nilc none
    | [.slice (some a) len cap], h =>
      simp only at h
      split at h
      case isFalse => cases h
      rename_i hc
      obtain ⟨elems, hel, _⟩ := Option.bind_eq_some_iff.1 h
      have hm' : 0 < Enc.n α := Nat.le_of_ble_eq_true hm
      have hs0 : 0 < len → a.spot = none := by
        intro hi
        obtain ⟨z, hz, _⟩ := mapM_at hel 0 0 (by simp [List.getElem?_range, hi])
        obtain ⟨c, hc1, _⟩ := Option.bind_eq_some_iff.1 hz
        rw [he.n] at hc1
        obtain ⟨h1, _, _⟩ := cells_at hc1 hm'
        simpa [Addr.add] using h1
      have key : ∀ i, i < len → ∃ y : α, (∃ c, Enc.rep (fun _ => True) W c y ∧ Cs W a.block (a.off + i * Enc.n α) c) ∧ Rg y ∧ a.spot = none := by
        intro i hi
        obtain ⟨z, hz, _⟩ := mapM_at hel i i (by simp [List.getElem?_range, hi])
        obtain ⟨c, hc1, hc2⟩ := Option.bind_eq_some_iff.1 hz
        obtain ⟨y, hy1, hy2⟩ := he.run hc2
        rw [he.n] at hc1
        obtain ⟨h1, h2, h3⟩ := cells_at hc1 hm'
        have hs : a.spot = none := hs0 (by omega)
        obtain ⟨b, o, s⟩ := a
        simp only at hs
        subst hs
        rw [add_mk] at h2
        exact ⟨y, ⟨c, hy1, h2⟩, hy2, rfl⟩
      have build : ∀ m, m ≤ len → ∃ l : List α, l.length = m ∧ ∀ i y, l[i]? = some y → (∃ c, Enc.rep (fun _ => True) W c y ∧ Cs W a.block (a.off + i * Enc.n α) c) ∧ Rg y := by
        intro m
        induction m with
        | zero => intro _; exact ⟨[], rfl, by simp⟩
        | succ m ih =>
          intro hm
          obtain ⟨l, hl, hall⟩ := ih (by omega)
          obtain ⟨y, h1, h2, _⟩ := key m (by omega)
          refine ⟨l ++ [y], by simp [hl], fun i z hz => ?_⟩
          rw [List.getElem?_append] at hz
          split at hz
          · exact hall i z hz
          · rename_i hi
            have : i = m := by
              rcases Nat.lt_or_ge (i - l.length) 1 with h | h
              · omega
              · rw [List.getElem?_eq_none (by simpa using h)] at hz; cases hz
            subst this
            rw [hl, Nat.sub_self] at hz
            simp at hz
            subst hz
            exact ⟨h1, h2⟩
      obtain ⟨l, hl, hall⟩ := build len (Nat.le_refl _)
      refine ⟨l, ⟨some a, cap, by rw [hl], by rw [hl]; exact hc.2.1, hc.2.2, ?_⟩, fun y hy => ?_, by rw [hl]; omega⟩
      · by_cases h0 : len = 0
        · exact .inl (List.eq_nil_of_length_eq_zero (by omega))
        · obtain ⟨y, _, _, hs⟩ := key 0 (by omega)
          obtain ⟨y', ⟨c, hc1, hc2⟩, _, _⟩ := key 0 (by omega)
          obtain ⟨b, o, s⟩ := a
          simp only at hs
          subst hs
          refine .inr ⟨b, o, rfl, trivial, ?_, fun i x hx => (hall i x hx).1⟩
          have hcl := Enc.len hc1
          exact World.block_lt_of_cell? W ⟨b, o + 0 * Enc.n α + 0, none⟩ (hc2 0 (c[0]'(by omega)) (List.getElem?_eq_getElem (by omega)))
      · obtain ⟨i, hi, rfl⟩ := List.getElem_of_mem hy
        exact (hall i _ (List.getElem?_eq_getElem hi)).2⟩

theorem OpF.one {f : Field} {off : Nat} {α : Type} [Enc α] {Rg : α → Prop} (ho : f.offset = off) (h : OpT P f.type α Rg) : OpF P [f] off α Rg := ⟨by
  intro H enc W sp held fuel cs xs hx
  obtain ⟨y, hy, _⟩ := mapM_at hx 0 f rfl
  rw [ho, h.n] at hy
  exact h.run hy⟩
theorem OpF.cons {f : Field} {fs : List Field} {off : Nat} {α β : Type} [Enc α] [Enc β] {R : α → Prop} {S : β → Prop} (ho : f.offset = off) (h : OpT P f.type α R) (k : OpF P fs (off + Enc.n α) β S) : OpF P (f :: fs) off (α × β) (fun x => R x.1 ∧ S x.2) := ⟨by
  intro H enc W sp held fuel cs xs hx
  simp only [List.mapM_cons, Option.bind_eq_bind, Option.bind_eq_some_iff, Option.pure_def, Option.some.injEq] at hx
  obtain ⟨y, hy, ys, hys, rfl⟩ := hx
  rw [ho, h.n] at hy
  obtain ⟨a, ha, hra⟩ := h.run hy
  obtain ⟨b, hb, hrb⟩ := k.run hys
  refine ⟨(a, b), ⟨_, _, ?_, ha, hb⟩, hra, hrb⟩
  show (cs.drop off).take (Enc.n α + Enc.n β) = _
  rw [List.take_add, List.drop_drop]⟩
theorem OpT.st {t : TypeId} {fs : List Field} {α : Type} [Enc α] {Rg : α → Prop} (ht : P.underlying t = some (.struct fs.toArray)) (hn : P.cellsOf t = Enc.n α) (h : OpF P fs 0 α Rg) : OpT P t α Rg := ⟨hn, by
  intro H enc W sp held fuel cs x hx
  cases fuel with
  | zero => cases hx
  | succ fuel =>
    unfold DataW.trod at hx
    rw [ht] at hx
    simp only at hx
    split at hx
    case isFalse => cases hx
    rename_i hl
    obtain ⟨xs, hxs, _⟩ := Option.map_eq_some_iff.1 hx
    obtain ⟨a, ha, hr⟩ := h.run hxs
    rw [List.drop_zero, List.take_of_length_le (by rw [hl, hn]; exact Nat.le_refl _)] at ha
    exact ⟨a, ha, hr⟩⟩

/-- An argument that is a struct or an array. -/
theorem OpT.argA {H : Type} {enc : TypeId × Value → H} {W : World} {sp : Nat → Bool} {held : Bool} {base : Nat} {r : Reach} {t : TypeId} {α : Type} [Enc α] {Rg : α → Prop} {v : Value} {d : DataW H} {ps : List MemPlace} {ty : TypeDesc} (h : OpT P t α Rg) (ha : Enc.agg α = true)
    (hu : P.underlying t = some ty) (hs : (match ty with | .struct _ | .array _ _ => true | _ => false) = true) (hd : DataW.Trod enc P W 0 sp held t v d ps) (hval : Value.okWide P W r base t v) : ∃ a : α, RV W v a ∧ Rg a := by
  obtain ⟨fuel, hf⟩ := hd
  obtain ⟨a, h1, h2⟩ := h.run hf
  refine ⟨a, ⟨_, ?_, h1⟩, h2⟩
  have : ∃ cs, v = .agg cs := by
    unfold Value.okWide at hval
    rw [hu] at hval
    cases ty <;> simp at hs
    · obtain ⟨cs, e, _⟩ := hval; exact ⟨cs, e⟩
    · obtain ⟨cs, e, _⟩ := hval; exact ⟨cs, e⟩
  obtain ⟨cs, rfl⟩ := this
  simp [Enc.val, ha, Value.cells]
/-- An argument of one cell. -/
theorem OpT.arg1 {H : Type} {enc : TypeId × Value → H} {W : World} {sp : Nat → Bool} {held : Bool} {base : Nat} {r : Reach} {t : TypeId} {α : Type} [Enc α] {Rg : α → Prop} {v : Value} {d : DataW H} {ps : List MemPlace} {ty : TypeDesc} (h : OpT P t α Rg) (ha : Enc.agg α = false)
    (hu : P.underlying t = some ty) (hs : (match ty with | .bool | .int _ | .slice _ => true | _ => false) = true) (hd : DataW.Trod enc P W 0 sp held t v d ps) (hval : Value.okWide P W r base t v) : ∃ a : α, RV W v a ∧ Rg a := by
  obtain ⟨fuel, hf⟩ := hd
  obtain ⟨a, h1, h2⟩ := h.run hf
  refine ⟨a, ⟨_, ?_, h1⟩, h2⟩
  have : ∀ cs, v ≠ .agg cs := by
    rintro cs rfl
    unfold Value.okWide at hval
    rw [hu] at hval
    cases ty <;> simp at hs <;> simp [Cell.okWide, Cell.ok, hu] at hval
  simp only [Enc.val, ha, cond_false]
  cases v <;> first | rfl | exact (this _ rfl).elim
end
end Go.Md
