/-
  The functions whose walks are written by hand: a list turned round in place, a way out of a map. Condition: the pure function computes something.
-/
import Derived.Test.YtboefnpnoojfpaaFacts
import Derived.Test.YtboefnpnoojfpaaMore
import Derived.Test.YtboefnpnoojfpaaMapw
import Derived.DeepKeys4
namespace Go.Proofs.Ytboefnpnoojfpaa
open Go Go.Md Go.RowKit
attribute [local irreducible] Go.wpList Go.Code.wp Go.Calls Go.Md.Rnd Go.Md.Mt

/-! ### Keys -/
abbrev St := Ar 5 Int
instance {n : Nat} : Key (Ar n Int) := ⟨fun k => k.l.all fun i => (Lit.int .i64 i).wf⟩
theorem laid_out : laidOutB Try.prog = true := by kernel_rfl
theorem row79 : (79 : TypeId) < Try.prog.types.size := of_decide_eq_true (by kernel_rfl)
theorem cells79 : Try.prog.cellsOf 79 = 5 := by kernel_rfl
theorem cells2 : Try.prog.cellsOf 2 = 1 := by kernel_rfl
theorem keyt79 : Try.prog.keyType 79 = true := by kernel_rfl
theorem keyat79 : Try.prog.keyTypeAt 2 79 = true := by kernel_rfl
theorem kt3 : KT Try.prog 3 Int := KT.int Try.underlying3
theorem lit_of {d : Nat} (hd : 0 < d) {a : Int} (h : (Lit.int .i64 a).wf = true) : Try.prog.keyLits d 2 [.int .i64 a] = some [.int .i64 a] := by
  obtain ⟨d, rfl⟩ : ∃ e, d = e + 1 := ⟨d - 1, by omega⟩
  unfold Program.keyLits
  rw [Try.underlying2]
  simp [h]
theorem kt79 : KT Try.prog 79 St where
  kd := Maps.Keyed.of_law (by refine deep_law_laid laid_out (m := 2) (by omega) row79 keyat79 ?_; rw [Try.underlying79])
  of := by
    rintro ⟨l, hl⟩ h
    match l, hl, h with
    | [a, b, c, d, e], hl, h =>
      have h' : (Lit.int .i64 a).wf = true ∧ (Lit.int .i64 b).wf = true ∧ (Lit.int .i64 c).wf = true ∧ (Lit.int .i64 d).wf = true ∧ (Lit.int .i64 e).wf = true := by
        simpa [Key.ok] using h
      obtain ⟨ha, hb, hc, hd, he⟩ := h'
      have hv : fv (⟨[a, b, c, d, e], hl⟩ : St) = .agg #[.int .i64 a, .int .i64 b, .int .i64 c, .int .i64 d, .int .i64 e] := rfl
      have hp : 0 < 143 := by decide
      refine ⟨.string (keyBytes [.int .i64 a, .int .i64 b, .int .i64 c, .int .i64 d, .int .i64 e]), ?_⟩
      rw [hv, keyOf, Try.underlying79]
      simp only [keyt79, Value.formed, Try.underlying79, cells79]
      unfold Program.keyLits
      rw [Try.underlying79]
      simp [Value.cells, cells79, cells2, List.range, List.range.loop, lit_of hp ha, lit_of hp hb, lit_of hp hc, lit_of hp hd, lit_of hp he]
  inj := by
    rintro ⟨l, hl⟩ ⟨k, hk⟩ h
    have h1 : (l.flatMap Flat.enc).toArray = (k.flatMap Flat.enc).toArray := by
      have : (Value.agg (l.flatMap Flat.enc).toArray) = .agg (k.flatMap Flat.enc).toArray := h
      simpa using this
    have h2 : l.flatMap Flat.enc = k.flatMap Flat.enc := by simpa using h1
    have h3 : ∀ (l k : List Int), l.flatMap Flat.enc = k.flatMap Flat.enc → l = k := by
      intro l
      induction l with
      | nil => intro k h; cases k with
        | nil => rfl
        | cons x k => simp [Flat.enc] at h
      | cons y l ih => intro k h; cases k with
        | nil => simp [Flat.enc] at h
        | cons x k =>
          simp only [List.flatMap_cons] at h
          have h4 : (Value.int .i64 y :: l.flatMap Flat.enc) = Value.int .i64 x :: k.flatMap Flat.enc := h
          simp only [List.cons.injEq, Value.int.injEq, true_and] at h4
          rw [h4.1, ih k h4.2]
    have := h3 l k h2
    subst this
    rfl

/-! ### slices.Reverse -/
def slices_Reverse_int_l1 : Nat → List Int → Int → Int → Option (List Int)
  | 0, _, _, _ => none
  | m + 1, l, i, j =>
    if (decide (i < j)) = true then
      (ix l j) >>= fun a => (ix l i) >>= fun b => slices_Reverse_int_l1 m (rset (rset l i a) j b) (w64 (i + 1)) (w64 (j - 1))
    else some l
def slices_Reverse_int (F : Nat) (x0 : List Int) : Option (List Int) := slices_Reverse_int_l1 F x0 0 (w64 ((x0.length : Int) - 1))

theorem ix_rset {l : List Int} {i j a b : Int} (h : ix l j = some b) : ∃ c, ix (rset l i a) j = some c := by
  obtain ⟨h0, h1, h2⟩ := ix_spec h
  unfold ix rset
  rw [if_pos h0]
  have : j.toNat < (l.set i.toNat a).length := by rw [List.length_set]; omega
  exact ⟨_, List.getElem?_eq_getElem this⟩

set_option maxHeartbeats 1000000 in
theorem c75a {wb w0 : World} (hk : Ext wb w0) {v0 : Value} {x0 : List Int} (o0 : Row 3 wb.heap.size w0 v0 x0) {F : Nat} {r : List Int} (hF : slices_Reverse_int F x0 = some r) :
    Calls Try.prog 75 [v0].toArray w0 (Ret fun v w' => v = .tuple #[] ∧ Row 3 wb.heap.size w' v0 r ∧ Ext wb w' ∧ w0.heap.size ≤ w'.heap.size) := by
  unfold slices_Reverse_int at hF
  have hz := RV.sl o0.rv; obtain ⟨a1, c1, rfl, -, -, -⟩ := hz
  refine entr (n := 28) Try.func75 rfl rfl rfl <| wp_seq <| rg <| vl rfl rfl xmv <| vl rfl rfl (xlen rfl Try.underlying26) <| vl rfl rfl (xsub rfl rfl) <| vl rfl rfl xas <| vl rfl rfl xas <| nl <| ?_
  refine ct (fun L w => Row 3 wb.heap.size w (.slice a1 x0.length c1) r ∧ Ext wb w ∧ w0.heap.size ≤ w.heap.size) ?_ ?_
  · refine wp_block <| lp (I := fun m L w => ∃ l : List Int, ∃ i j : Int, slices_Reverse_int_l1 m l i j = some r ∧ L 2 = .int .i64 i ∧ L 3 = .int .i64 j ∧ L 0 = .slice a1 x0.length c1 ∧ Row 3 wb.heap.size w (.slice a1 x0.length c1) l ∧ Ext wb w ∧ w0.heap.size ≤ w.heap.size) F ⟨_, _, _, hF, rfl, rfl, rfl, o0, hk, Nat.le_refl _⟩ ?_
    rintro m L w1 ⟨l, i, j, hB, l2, l3, l0, o1, k1, hs1⟩
    rcases m with _ | m
    · rw [slices_Reverse_int_l1] at hB; cases hB
    rw [slices_Reverse_int_l1] at hB
    refine wp_seq <| wp_seq <| rg <| vl rfl rfl xmv <| vl rfl rfl xmv <| vl rfl rfl (xlss l2 l3) <| nl <| cnd rfl (fun h2 => ?_) (fun h2 => ?_)
    · have hB := ifp hB h2
      have hz := bs hB; obtain ⟨a, Ea, hB⟩ := hz
      have hz := bs hB; obtain ⟨b, Eb, hB⟩ := hz
      have hln : x0.length = l.length := (RV.cap o1.rv).1
      refine wp_skip <| wp_seq <| wp_block <| wpl [13, 15] (.pure true 0 (.pure true 1 (.pure true 2 (.pure true 3 (.pure true 4 (.pure true 5 (.pure true 6 (.pure false 7 (.pure true 8 (.pure true 9 (.pure true 10 (.pure false 11 (.pure true 12 (.eff 13 (.pure true 14 (.eff 15 .fin .stop)) .stop)))))))))))))) mixed (by kernel_rfl) (fun w2 hx1 => ?_)
      have o2 := o1.ext hx1
      have k2 := k1.tr hx1
      have hz := (RV.els o2.rv).ix Ea; obtain ⟨b2, f1, cs2, e1, i2, i3, q2, hc1⟩ := hz
      cases e1
      obtain rfl := q2
      have hz := ix2 o2.rv Eb; obtain ⟨cs3, i4, i5, q3, hc2⟩ := hz
      obtain rfl := q3
      rw [← hln] at i3 i5
      have hz := ix_rset (i := i) (a := a) Ea; obtain ⟨y0, Ey⟩ := hz
      refine pv rfl rfl rfl (fun _ _ => xmv) (.inl rfl) <| pv rfl rfl rfl (fun _ _ => xmv) (.inl rfl) <| pv rfl rfl rfl (fun _ _ => xmv) (.inl rfl) <| pv rfl rfl rfl (fun _ _ => xmv) (.inl rfl) <| pv rfl rfl rfl (fun _ _ => xmv) (.inl rfl) <| pv rfl rfl rfl (fun _ _ => xmv) (.inl rfl) <| ?_
      refine pv rfl rfl rfl (fun _ _ => xixs l0 l3 Try.underlying26 ti3 i2 i3) (.inl rfl) <| pv rfl rfl rfl (fun _ hS => xld rfl ti3 ((hc1.ext (hS.resolve_left nofun)).at 0 rfl)) (.inr (Ext.refl _)) <| pv rfl rfl rfl (fun _ _ => xmv) (.inl rfl) <| pv rfl rfl rfl (fun _ _ => xmv) (.inl rfl) <| ?_
      refine pv rfl rfl rfl (fun _ _ => xixs l0 l2 Try.underlying26 ti3 i4 i5) (.inl rfl) <| pv rfl rfl rfl (fun _ hS => xld rfl ti3 ((hc2.ext (hS.resolve_left nofun)).at 0 rfl)) (.inr (Ext.refl _)) <| ?_
      refine pv rfl rfl rfl (fun _ _ => xixs l0 l2 Try.underlying26 ti3 i4 i5) (.inl rfl) <| ?_
      refine pe1 rfl <| sstr (l := l) (i := i) (v := a) rfl rfl rfl ti3 o2 Eb fun w3 hch1 o3 => ?_
      refine nl ⟨fun h => (h (by decide)).elim, ?_⟩
      refine pv rfl rfl rfl (fun _ _ => xixs l0 l3 Try.underlying26 ti3 i2 i3) (.inl rfl) <| ?_
      refine pe1 rfl <| sstr (l := rset l i a) (i := j) (v := b) rfl rfl rfl ti3 o3 Ey fun w4 hch2 o4 => ?_
      refine nl ⟨fun h => (h (by decide)).elim, ?_⟩
      have k4 := (k2.chg hch1 (Row.ge o2)).chg hch2 (Row.ge o2)
      refine rg <| vl rfl rfl xmv <| vl rfl rfl (xadd l2 rfl) <| vl rfl rfl xmv <| vl rfl rfl (xsub l3 rfl) <| vl rfl rfl xas <| vl rfl rfl xas <| nl <| ?_
      exact lq m (Nat.lt_succ_self _) ⟨_, _, _, hB, rfl, rfl, l0, o4, k4, by rw [hch2.size, hch1.size]; exact Nat.le_trans hs1 hx1.size⟩
    · have hB := ifn hB h2
      cases hB
      exact wp_exit <| lf ⟨o1, k1, hs1⟩
  · rintro L w ⟨o1, k1, hs1⟩
    exact rtn rfl .nil ⟨rfl, o1, k1, hs1⟩

/-- slices.Reverse of a row from any block on. -/
theorem c75 {base : Nat} {w0 : World} (hb : base ≤ w0.heap.size) {v0 : Value} {x0 : List Int} (o0 : Row 3 base w0 v0 x0) {F : Nat} {r : List Int} (hF : slices_Reverse_int F x0 = some r) :
    Calls Try.prog 75 [v0].toArray w0 (Ret fun v w' => v = .tuple #[] ∧ Row 3 base w' v0 r ∧ Below base w0 w') := by
  let wb : World := { w0 with heap := w0.heap.extract 0 base }
  have hs : wb.heap.size = base := by simp [wb]; omega
  have hg : ∀ k, k < base → wb.heap[k]? = w0.heap[k]? := fun k hk => by simp [wb, Array.getElem?_extract]; intro h; omega
  have hk : Ext wb w0 := ⟨rfl, rfl, rfl, by rw [hs]; exact hb, fun k hk => (hg k (by rw [← hs]; exact hk)).symm⟩
  have o1 : Row 3 wb.heap.size w0 v0 x0 := by rw [hs]; exact o0
  refine (c75a (wb := wb) hk o1 hF).mono ?_
  rintro e w' ⟨v, rfl, rfl, ho, hw, hsz⟩
  rw [hs] at ho
  exact ⟨_, rfl, rfl, ho, hw.os.trans rfl, hw.tape.trans rfl, hw.output.trans rfl, hsz, fun k hk => (hw.block k (by rw [hs]; exact hk)).trans (hg k hk)⟩
end Go.Proofs.Ytboefnpnoojfpaa
