/-
  The functions whose walks are written by hand. Condition: the pure function computes something.
-/
import Derived.Test.YthppacohnciinaaFacts
import Derived.Test.YthppacohnciinaaObj
namespace Go.Proofs.Ythppacohnciinaa
open Go Go.Md Go.RowKit
attribute [local irreducible] Go.wpList Go.Code.wp Go.Calls Go.Md.Rnd Go.Md.Mt

def slices_Clone_rules (x0 : List (Int × Int × Int)) : Option (List (Int × Int × Int)) := app 24 [] x0

theorem c77 {w0 : World} {v0 : Value} {x0 : List (Int × Int × Int)} (r0 : RV w0 v0 x0) {r : List (Int × Int × Int)} (hF : slices_Clone_rules x0 = some r) :
    Calls Try.prog 77 [v0].toArray w0 (Ret fun v w' => ∃ u0 : Value, v = u0 ∧ Row 56 w0.heap.size w' u0 r ∧ Ext w0 w') := by
  unfold slices_Clone_rules at hF
  have hz := r0.sl; obtain ⟨a1, c1, rfl, -, -, -⟩ := hz
  refine entr (n := 8) Try.func77 rfl rfl rfl <| wp_seq <| rg <| vl rfl rfl xas <| nl <| wp_seq <| wp_seq <| rg <| vl rfl rfl xmv <| vl rfl rfl (xsln Try.underlying22 rfl rfl) <| nl <| cnd rfl (fun h => ?_) (fun h => ?_)
  · have hl : x0 = [] := by
      rcases r0.els with h1 | ⟨b, off, h1, _⟩
      · exact h1
      · rw [h1] at h; cases h
    subst hl
    obtain ⟨_, rfl⟩ := app_spec hF
    refine wp_seq <| rg <| vl rfl rfl xas <| nl <| ?_
    exact wp_ret <| rt rfl (.tmp rfl rfl .nil) ⟨_, rfl, Row.nil, Ext.refl _⟩
  · refine wp_skip <| wp_seq <| rg <| sbsv (cs := []) Try.underlying22 ti56 rfl pn rfl rfl rfl rfl rfl fun b w1 hx1 hg1 hb1 => ?_
    have o1 : Row (α := (Int × Int × Int)) 56 w0.heap.size w1 (.slice (some ⟨b, 0, none⟩) 0 0) [] := Row.lit hg1 hb1 rfl (ble rfl)
    have r1 := r0.ext hx1
    refine vl rfl rfl xmv <| sapx (l := []) (k := x0) rfl rfl Try.underlying22 ti56 rfl rfl o1 (RV.els r1) hF hx1.size fun v2 w2 o2 hB _ _ => ?_
    refine vl rfl rfl xas <| nl <| wp_ret <| rt rfl (.tmp rfl rfl .nil) ⟨_, rfl, o2, hx1.trans hB⟩

def slices_Reverse_l1 : Nat → List Int → Int → Int → Option (List Int)
  | 0, _, _, _ => none
  | m + 1, l, i, j =>
    if (decide (i < j)) = true then
      (ix l j) >>= fun a => (ix l i) >>= fun b => slices_Reverse_l1 m (rset (rset l i a) j b) (w64 (i + 1)) (w64 (j - 1))
    else some l
def slices_Reverse (F : Nat) (x0 : List Int) : Option (List Int) := slices_Reverse_l1 F x0 0 (w64 ((x0.length : Int) - 1))

theorem ix_rset {l : List Int} {i j a b : Int} (h : ix l j = some b) : ∃ c, ix (rset l i a) j = some c := by
  obtain ⟨h0, h1, h2⟩ := ix_spec h
  unfold ix rset
  rw [if_pos h0]
  have : j.toNat < (l.set i.toNat a).length := by rw [List.length_set]; omega
  exact ⟨_, List.getElem?_eq_getElem this⟩

set_option maxHeartbeats 1000000 in
theorem c60 {wb w0 : World} (hk : Ext wb w0) {v0 : Value} {x0 : List Int} (o0 : Row 3 wb.heap.size w0 v0 x0) {F : Nat} {r : List Int} (hF : slices_Reverse F x0 = some r) :
    Calls Try.prog 60 [v0].toArray w0 (Ret fun v w' => v = .tuple #[] ∧ Row 3 wb.heap.size w' v0 r ∧ Ext wb w' ∧ w0.heap.size ≤ w'.heap.size) := by
  unfold slices_Reverse at hF
  have hz := RV.sl o0.rv; obtain ⟨a1, c1, rfl, -, -, -⟩ := hz
  refine entr (n := 28) Try.func60 rfl rfl rfl <| wp_seq <| rg <| vl rfl rfl xmv <| vl rfl rfl (xlen rfl Try.underlying36) <| vl rfl rfl (xsub rfl rfl) <| vl rfl rfl xas <| vl rfl rfl xas <| nl <| ?_
  refine ct (fun L w => Row 3 wb.heap.size w (.slice a1 x0.length c1) r ∧ Ext wb w ∧ w0.heap.size ≤ w.heap.size) ?_ ?_
  · refine wp_block <| lp (I := fun m L w => ∃ l : List Int, ∃ i j : Int, slices_Reverse_l1 m l i j = some r ∧ L 2 = .int .i64 i ∧ L 3 = .int .i64 j ∧ L 0 = .slice a1 x0.length c1 ∧ Row 3 wb.heap.size w (.slice a1 x0.length c1) l ∧ Ext wb w ∧ w0.heap.size ≤ w.heap.size) F ⟨_, _, _, hF, rfl, rfl, rfl, o0, hk, Nat.le_refl _⟩ ?_
    rintro m L w1 ⟨l, i, j, hB, l2, l3, l0, o1, k1, hs1⟩
    rcases m with _ | m
    · rw [slices_Reverse_l1] at hB; cases hB
    rw [slices_Reverse_l1] at hB
    refine wp_seq <| wp_seq <| rg <| vl rfl rfl xmv <| vl rfl rfl xmv <| vl rfl rfl (xlss l2 l3) <| nl <| cnd rfl (fun h2 => ?_) (fun h2 => ?_)
    · have hB := ifp hB h2
      have hz := bs hB; obtain ⟨a, Ea, hB⟩ := hz
      have hz := bs hB; obtain ⟨b, Eb, hB⟩ := hz
      have hln : x0.length = l.length := (RV.cap o1.rv).1
      refine wp_skip <| wp_seq <| wp_block <| wpl [13, 15] (.pure true 0 (.pure true 1 (.pure true 2 (.pure true 3 (.pure true 4 (.pure true 5 (.pure true 6 (.pure false 7 (.pure true 8 (.pure true 9 (.pure true 10 (.pure false 11 (.pure true 12 (.eff 13 (.pure true 14 (.eff 15 .fin .stop)) .stop)))))))))))))) mixed (by kernel_rfl) (fun w2 hx1 => ?_)
      have o2 := o1.ext hx1
      have k2 := k1.tr hx1
      have hz := (RV.els o2.rv).ix Ea; obtain ⟨b2, f1, cs2, e1, i2, i3, q2, hc1⟩ := hz
      cases e1
      obtain rfl := q2
      have hz := ix2 o2.rv Eb; obtain ⟨cs3, i4, i5, q3, hc2⟩ := hz
      obtain rfl := q3
      rw [← hln] at i3 i5
      have hz := ix_rset (i := i) (a := a) Ea; obtain ⟨y0, Ey⟩ := hz
      refine pv rfl rfl rfl (fun _ _ => xmv) (.inl rfl) <| pv rfl rfl rfl (fun _ _ => xmv) (.inl rfl) <| pv rfl rfl rfl (fun _ _ => xmv) (.inl rfl) <| pv rfl rfl rfl (fun _ _ => xmv) (.inl rfl) <| pv rfl rfl rfl (fun _ _ => xmv) (.inl rfl) <| pv rfl rfl rfl (fun _ _ => xmv) (.inl rfl) <| ?_
      refine pv rfl rfl rfl (fun _ _ => xixs l0 l3 Try.underlying36 ti3 i2 i3) (.inl rfl) <| pv rfl rfl rfl (fun _ hS => xld rfl ti3 ((hc1.ext (hS.resolve_left nofun)).at 0 rfl)) (.inr (Ext.refl _)) <| pv rfl rfl rfl (fun _ _ => xmv) (.inl rfl) <| pv rfl rfl rfl (fun _ _ => xmv) (.inl rfl) <| ?_
      refine pv rfl rfl rfl (fun _ _ => xixs l0 l2 Try.underlying36 ti3 i4 i5) (.inl rfl) <| pv rfl rfl rfl (fun _ hS => xld rfl ti3 ((hc2.ext (hS.resolve_left nofun)).at 0 rfl)) (.inr (Ext.refl _)) <| ?_
      refine pv rfl rfl rfl (fun _ _ => xixs l0 l2 Try.underlying36 ti3 i4 i5) (.inl rfl) <| ?_
      refine pe1 rfl <| sstr (l := l) (i := i) (v := a) rfl rfl rfl ti3 o2 Eb fun w3 hch1 o3 => ?_
      refine nl ⟨fun h => (h (by decide)).elim, ?_⟩
      refine pv rfl rfl rfl (fun _ _ => xixs l0 l3 Try.underlying36 ti3 i2 i3) (.inl rfl) <| ?_
      refine pe1 rfl <| sstr (l := rset l i a) (i := j) (v := b) rfl rfl rfl ti3 o3 Ey fun w4 hch2 o4 => ?_
      refine nl ⟨fun h => (h (by decide)).elim, ?_⟩
      have k4 := (k2.chg hch1 (Row.ge o2)).chg hch2 (Row.ge o2)
      refine rg <| vl rfl rfl xmv <| vl rfl rfl (xadd l2 rfl) <| vl rfl rfl xmv <| vl rfl rfl (xsub l3 rfl) <| vl rfl rfl xas <| vl rfl rfl xas <| nl <| ?_
      exact lq m (Nat.lt_succ_self _) ⟨_, _, _, hB, rfl, rfl, l0, o4, k4, by rw [hch2.size, hch1.size]; exact Nat.le_trans hs1 hx1.size⟩
    · have hB := ifn hB h2
      cases hB
      exact wp_exit <| lf ⟨o1, k1, hs1⟩
  · rintro L w ⟨o1, k1, hs1⟩
    exact rtn rfl .nil ⟨rfl, o1, k1, hs1⟩
end Go.Proofs.Ythppacohnciinaa
