/-
  The cheapest way between two turns. Condition: the pure function computes something.
-/
import Derived.Test.YthppacohnciinaaWalkC
namespace Go.Proofs.Ythppacohnciinaa
open Go Go.Md Go.RowKit
attribute [local irreducible] Go.wpList Go.Code.wp Go.Calls Go.Md.Rnd Go.Md.Mt

/-- slices.Reverse of a row from any block on. -/
theorem c60b {base : Nat} {w0 : World} (hb : base ≤ w0.heap.size) {v0 : Value} {x0 : List Int} (o0 : Row 3 base w0 v0 x0) {F : Nat} {r : List Int} (hF : slices_Reverse F x0 = some r) :
    Calls Try.prog 60 [v0].toArray w0 (Ret fun v w' => v = .tuple #[] ∧ Row 3 base w' v0 r ∧ Below base w0 w') := by
  let wb : World := { w0 with heap := w0.heap.extract 0 base }
  have hs : wb.heap.size = base := by simp [wb]; omega
  have hg : ∀ k, k < base → wb.heap[k]? = w0.heap[k]? := fun k hk => by simp [wb, Array.getElem?_extract, hk]; intro h; omega
  have hk : Ext wb w0 := ⟨rfl, rfl, rfl, by rw [hs]; exact hb, fun k hk => (hg k (by rw [← hs]; exact hk)).symm⟩
  have o1 : Row 3 wb.heap.size w0 v0 x0 := by rw [hs]; exact o0
  refine (c60 (wb := wb) hk o1 hF).mono ?_
  rintro e w' ⟨v, rfl, rfl, ho, hw, hsz⟩
  rw [hs] at ho
  exact ⟨_, rfl, rfl, ho, hw.os.trans rfl, hw.tape.trans rfl, hw.output.trans rfl, hsz, fun k hk => (hw.block k (by rw [hs]; exact hk)).trans (hg k hk)⟩

def speed_Way_l1 (all : List TRule) (from_ : Int) : Nat → List Int → Int → List (Int × Int) → Option (List Int)
  | 0, _, _, _ => none
  | m + 1, way, at_, by_ =>
    if (!decide (at_ = from_)) = true then
      (speed_from all by_ at_) >>= fun p => (app 8 way [p.1]) >>= fun way' => speed_Way_l1 all from_ m way' p.2 (mdel by_ at_)
    else some way
def speed_Way (F : Nat) (x0 : TSheet) (x1 x2 : Int) : Option (List Int × Int × Int) :=
  (speed_CheckSheet F (x0.1, x0.2)) >>= fun x4 =>
  if (!decide (x4 = 0)) = true then some ([], 0, x4) else
  (speed_turns F 0 x0.1 ([x1, x2] : List Int)) >>= fun x5 =>
  if (!x5) = true then some ([], 0, 2) else
  (speed_open F (x0.1, x0.2)) >>= fun x6 =>
  if (!decide (x6.2 = 0)) = true then some ([], 0, x6.2) else
  (x6.1.v) >>= fun x7 =>
  (speed_net_find F ((x7.1.1, x7.1.2), x7.2) x1) >>= fun x8 =>
  (speed_Way_l1 x7.2 x1 F [] x2 x8.2) >>= fun z1 =>
  (slices_Reverse F z1) >>= fun z2 =>
  (ix x8.1.l x2) >>= fun d =>
  some (z2, d, 0)

set_option maxHeartbeats 4000000 in
theorem c22 {w0 : World} {v0 : Value} {x0 : TSheet} (r0 : RV w0 v0 x0) {x1 x2 : Int} {F : Nat} {r : List Int × Int × Int} (hF : speed_Way F x0 x1 x2 = some r) :
    Calls Try.prog 22 [v0, .int .i64 x1, .int .i64 x2].toArray w0 (Ret fun v w' => ∃ u0 : Value, v = .tuple #[u0, .int .i64 r.2.1, .int .i64 r.2.2] ∧ RV w' u0 r.1 ∧ Ext w0 w') := by
  unfold speed_Way at hF
  have hz := id r0; obtain ⟨_, rfl, ⟨_, _, rfl, rfl, ⟨a1, c1, rfl, p1, q4, e1⟩⟩⟩ := hz
  have r4 := RV.of1 p1 q4 e1
  refine entr (n := 71) Try.func22 rfl rfl rfl <| wp_seq <| rg <| sbx rfl rfl fun b4 w1 hx1 hg1 hb1 => ?_
  have r5 := r4.ext hx1
  have r6 := r0.ext hx1
  refine vl rfl rfl xas <| vl rfl rfl xas <| vl rfl rfl xas <| nl <| wp_seq <| rg <| vl rfl rfl (xlda rfl ti24 rfl (Bx.cs hb1)) <| ?_
  have hz := bs hF; obtain ⟨x4, Ex4, hF⟩ := hz
  refine cl rfl rfl (xc cb43 (mc rfl mn)) (c43 (show RV (α := (Int × (List (Int × Int × Int)))) _ (.agg [.int .i64 x0.1, .slice a1 x0.2.length c1].toArray) (x0.1, x0.2) from ⟨_, rfl, ⟨[.int .i64 x0.1], [.slice a1 x0.2.length c1], rfl, rfl, r5.rep1⟩⟩) Ex4) ?_
  rintro _ w2 ⟨rfl, hx2⟩
  have k1 := hx1.tr hx2
  have hb2 := hb1.ext hx2
  have r7 := r5.ext hx2
  refine vl rfl rfl xas <| nl <| wp_seq <| wp_block <| wp_seq <| rg <| vl rfl rfl xmv <| vl rfl rfl (xneq rfl rfl) <| vl rfl rfl xas <| nl <| cnd rfl (fun h4 => ?_) (fun h4 => ?_)
  ·
    have hF := ifp hF h4
    refine wp_seq <| rg <| vl rfl rfl xmv <| vl rfl rfl xas <| vl rfl rfl xas <| vl rfl rfl xas <| nl <| ?_
    cases hF
    exact wp_ret <| rt rfl (.tmp rfl rfl (.tmp rfl rfl (.tmp rfl rfl .nil))) ⟨_, rfl, (RVo.nil (Nat.zero_le _)), k1⟩
  ·
    have hF := ifn hF h4
    refine wp_seq <| rg <| vl rfl rfl (xfa rfl fa24_0) <| vl rfl rfl (xld rfl ti3 ((Bx.cs hb2).at 0 rfl)) <| vl rfl rfl xmv <| vl rfl rfl xmv <| sbsv (cs := [.int .i64 x1, .int .i64 x2]) Try.underlying36 ti3 rfl (pc rfl (pc rfl pn)) rfl rfl rfl rfl rfl fun b5 w3 hx3 hg2 hb3 => ?_
    have k2 := k1.tr hx3
    have hb4 := hb2.ext hx3
    have r8 := r7.ext hx3
    have o1 : Row (α := Int) 3 w2.heap.size w3 (.slice (some ⟨b5, 0, none⟩) 2 2) [x1, x2] := Row.lit hg2 hb3 rfl (ble rfl)
    have hz := bs hF; obtain ⟨x5, Ex5, hF⟩ := hz
    refine cl rfl rfl (xc cb53 (mc rfl (mc rfl (mc rfl mn)))) (c53 o1.rv Ex5) ?_
    rintro _ w4 ⟨rfl, hx4⟩
    have k3 := k2.tr hx4
    have k4 := hx3.tr hx4
    have hb5 := hb4.ext hx4
    have r10 := r8.ext hx4
    refine vl rfl rfl (xnot rfl) <| vl rfl rfl xas <| nl <| cnd rfl (fun h5 => ?_) (fun h5 => ?_)
    ·
      have hF := ifp hF h5
      refine wp_seq <| rg <| vl rfl rfl xas <| vl rfl rfl xas <| vl rfl rfl xas <| nl <| ?_
      cases hF
      exact wp_ret <| rt rfl (.tmp rfl rfl (.tmp rfl rfl (.tmp rfl rfl .nil))) ⟨_, rfl, (RVo.nil (Nat.zero_le _)), k3⟩
    ·
      have hF := ifn hF h5
      refine wp_skip <| wp_seq <| rg <| vl rfl rfl (xlda rfl ti24 rfl (Bx.cs hb5)) <| ?_
      have hz := bs hF; obtain ⟨x6, Ex6, hF⟩ := hz
      refine cl rfl rfl (xc cb54 (mc rfl mn)) (c54 (show RV (α := (Int × (List (Int × Int × Int)))) _ (.agg [.int .i64 x0.1, .slice a1 x0.2.length c1].toArray) (x0.1, x0.2) from ⟨_, rfl, ⟨[.int .i64 x0.1], [.slice a1 x0.2.length c1], rfl, rfl, r10.rep1⟩⟩) Ex6) ?_
      rintro _ w5 ⟨u1, rfl, r11, hx5⟩
      have k5 := k3.tr hx5
      have k6 := k4.tr hx5
      have hz := obPtr r11; obtain ⟨a2, rfl⟩ := hz
      refine vl rfl rfl xmv <| vl rfl rfl (xext rfl rfl) <| vl rfl rfl (xext rfl rfl) <| vl rfl rfl xas <| vl rfl rfl xas <| nl <| wp_seq <| wp_seq <| rg <| vl rfl rfl xmv <| vl rfl rfl (xneq rfl rfl) <| nl <| cnd rfl (fun h6 => ?_) (fun h6 => ?_)
      ·
        have hF := ifp hF h6
        refine wp_seq <| rg <| vl rfl rfl xmv <| vl rfl rfl xas <| vl rfl rfl xas <| vl rfl rfl xas <| nl <| ?_
        cases hF
        exact wp_ret <| rt rfl (.tmp rfl rfl (.tmp rfl rfl (.tmp rfl rfl .nil))) ⟨_, rfl, (RVo.nil (Nat.zero_le _)), k5⟩
      ·
        have hF := ifn hF h6
        refine wp_skip <| wp_seq <| rg <| vl rfl rfl xmv <| vl rfl rfl xmv <| ?_
        have hz := bs hF; obtain ⟨x7, Ex7, hF⟩ := hz
        have hz := obGet r11 Ex7; obtain ⟨b6, cs4, e2, q5, hc1⟩ := hz
        cases e2
        obtain ⟨_, _, rfl, ⟨_, _, rfl, rfl, ⟨a3, c2, rfl, p2, q6, e3⟩⟩, ⟨a4, c3, rfl, p3, q7, e4⟩⟩ := q5
        have r12 := RV.of1 p2 q6 e3
        have r13 := RV.of1 p3 q7 e4
        have hz := bs hF; obtain ⟨x8, Ex8, hF⟩ := hz
        refine cl rfl rfl (xc cb55 (mc rfl (mc rfl mn))) (c55 hc1 ⟨[.int .i64 x7.1.1] ++ [.slice a3 x7.1.2.length c2], [.slice a4 x7.2.length c3], rfl, ⟨[.int .i64 x7.1.1], [.slice a3 x7.1.2.length c2], rfl, rfl, r12.rep1⟩, r13.rep1⟩ Ex8) ?_
        rintro _ w6 ⟨u2, u3, rfl, r14, r15, hx6⟩
        have k7 := k5.tr hx6
        have k8 := k6.tr hx6
        have r16 := r12.ext hx6
        have r17 := r13.ext hx6
        have hc2 := hc1.ext hx6
        have hz := id r14; obtain ⟨_, rfl, rfl⟩ := hz
        refine vl rfl rfl xmv <| vl rfl rfl (xext rfl rfl) <| vl rfl rfl (xext rfl rfl) <| sal ti83 fun b7 w7 hx7 hg3 hb6 => ?_
        have k9 := k7.tr hx7
        have k10 := k8.tr hx7
        have r18 := r16.ext hx7
        have r19 := r17.ext hx7
        have hc3 := hc2.ext hx7
        have r20 := r14.ext hx7
        have hb7 : Bx w7 b7 83 (List.flatMap Flat.enc ((Ar.fill 21 0 : (Ar 21 Int))).l) := hb6
        refine sstw rfl rfl ti83 hb7 (arlen _) (arlen _) (flat_one _) fun w8 hch1 hb8 => ?_
        have k11 := Ext.chg k9 hch1 (Nat.le_trans k7.size hg3)
        have k12 := Ext.chg k10 hch1 (Nat.le_trans k8.size hg3)
        have k13 := Ext.chg hx7 hch1 (Nat.le_trans (Nat.le_refl _) hg3)
        have r21 := r16.ext k13
        have r22 := r17.ext k13
        have hc4 := hc2.ext k13
        have hb9 : Bx w8 b7 83 (List.flatMap Flat.enc x8.1.l) := hb8
        refine vl rfl rfl xas <| nl <| wp_seq <| rg <| vl rfl rfl xas <| nl <| wp_seq <| wp_seq <| rg <| vl rfl rfl xmv <| vl rfl rfl xas <| nl <| ?_
        have o2 : Row (α := Int) 3 w8.heap.size w8 (.slice none 0 0) [] := Row.nil
        obtain ⟨bm, rfl, hgm, hm6⟩ := r15
        have hm8 := hm6.ext k13
        have hs6 := hm6.lt
        have hs8 := k13.size
        have hs5 := hx6.size
        have hl7 := hb9.lt
        have hne : b7 ≠ bm := by have := hb6.lt; omega
        have hz := bs hF; obtain ⟨z1, hB1, hF⟩ := hz
        have hz := bs hF; obtain ⟨z2, hR, hF⟩ := hz
        have hz := bs hF; obtain ⟨d, Ed, hF⟩ := hz
        cases hF
        have k56 : Ext w5 w8 := hx6.tr k13
        refine ct (fun L w => ∃ v5 : Value, L 13 = v5 ∧ Row 3 w8.heap.size w v5 z1 ∧ L 2 = .int .i64 x2 ∧ L 11 = .pointer (some ⟨b7, 0, none⟩) ∧ Bx w b7 83 (x8.1.l.flatMap Flat.enc) ∧ Ext w5 w ∧ w8.heap.size ≤ w.heap.size) ?_ ?_
        · refine wp_block <| lp (I := fun m L w => ∃ way at_ by_ v4, speed_Way_l1 x7.2 x1 m way at_ by_ = some z1 ∧ L 13 = v4 ∧ Row 3 w8.heap.size w v4 way ∧ L 14 = .int .i64 at_ ∧ L 1 = .int .i64 x1 ∧ L 2 = .int .i64 x2 ∧ L 10 = .pointer (some ⟨b6, 0, none⟩) ∧ L 11 = .pointer (some ⟨b7, 0, none⟩) ∧ L 12 = .map (some bm) ∧ Mp w bm by_ ∧ Bx w b7 83 (x8.1.l.flatMap Flat.enc) ∧ Ext w5 w ∧ w8.heap.size ≤ w.heap.size) F
            ⟨_, _, _, _, hB1, rfl, o2, rfl, rfl, rfl, rfl, rfl, rfl, hm8, hb9, k56, Nat.le_refl _⟩ ?_
          rintro m L w9 ⟨way, at_, by_, v4, hB, l13, o9, l14, l1, l2, l10, l11, l12, m9, bf9, k9', hs9⟩
          rcases m with _ | m
          · rw [speed_Way_l1] at hB; cases hB
          rw [speed_Way_l1] at hB
          refine wp_seq <| wp_seq <| rg <| vl rfl rfl (xmva l14) <| vl rfl rfl (xmva l1) <| vl rfl rfl (xneq rfl rfl) <| nl <| cnd rfl (fun h => ?_) (fun h => ?_)
          · have hB := ifp hB h
            have hz := bs hB; obtain ⟨p, Ep, hB⟩ := hz
            have hz := bs hB; obtain ⟨o', Eo, hB⟩ := hz
            have hz := from_spec Ep; obtain ⟨hk, hp1, rr, Er, hp2⟩ := hz
            refine wp_skip <| wp_block <| wp_seq <| rg <| vl rfl rfl (xmva l12) <| vl rfl rfl (xmva l14) <| vl rfl rfl (xlku (d := (0 : Int)) Try.underlying84 kt3 (zero3 _) m9 hk rfl rfl) <| vl rfl rfl xas <| nl <| ?_
            rw [← hp1]
            refine wp_seq <| rg <| vl rfl rfl (xmva l12) <| vl rfl rfl (xmva l14) <| smdn (k := at_) rfl rfl Try.underlying84 kt3 m9 hk fun w10 hch10 m10 => ?_
            have bf10 := bf9.chg hch10 hne
            have o10 := o9.chg hch10 (by omega)
            have k10' := k9'.chg hch10 hgm
            have hs10 : w8.heap.size ≤ w10.heap.size := by rw [hch10.size]; exact hs9
            refine nl <| wp_seq <| rg <| vl rfl rfl (xmva l13) <| vl rfl rfl xmv <| sbsv (cs := [.int .i64 p.1]) Try.underlying36 ti3 rfl (pc rfl pn) rfl rfl rfl rfl rfl fun b5 w16 hx16 hg16 hb16 => ?_
            have o1' : Row (α := Int) 3 w10.heap.size w16 (.slice (some ⟨b5, 0, none⟩) 1 1) [p.1] := Row.lit hg16 hb16 rfl (ble rfl)
            have o16 := o10.ext hx16
            refine sapx (l := way) (k := [p.1]) rfl rfl Try.underlying36 ti3 rfl rfl o16 (RV.els o1'.rv) Eo (Nat.le_trans hs10 hx16.size) fun v2 w17 o17 hB17 _ _ => ?_
            have m17 := (m10.ext hx16).below hB17 (by omega)
            have bf17 := (bf10.ext hx16).below hB17 hl7
            have k17 : Ext w5 w17 := (k10'.tr hx16).grow k56.size hB17
            have r17' := r13.ext k17
            have h17 := hc1.ext k17
            have hz := r17'.els.ix Er; obtain ⟨b6', f5, cs5, rfl, i3, i4, q5, hc5⟩ := hz
            obtain ⟨_, _, rfl, rfl, ⟨_, _, rfl, rfl, rfl⟩⟩ := q5
            refine vl rfl rfl xas <| nl <| rg <| vl rfl rfl (xmva l10) <| vl rfl rfl (xnil rfl) <| vl rfl rfl (xfa rfl fa91_1) <| vl rfl rfl (xld rfl ti22 (h17.at 2 rfl)) <| vl rfl rfl xmv <| vl rfl rfl (xixs rfl rfl Try.underlying22 ti56 i3 i4) <| vl rfl rfl (xfa rfl fa56_0) <| vl rfl rfl (xld rfl ti3 (hc5.at 0 rfl)) <| vl rfl rfl xas <| nl <| ?_
            exact lq m (Nat.lt_succ_self _) ⟨_, _, _, _, hB, rfl, o17, by rw [hp2]; rfl, l1, l2, l10, l11, l12, m17, bf17, k17, Nat.le_trans hs10 (Nat.le_trans hx16.size hB17.size)⟩
          · have hB := ifn hB h
            cases hB
            exact wp_exit <| lf ⟨_, l13, o9, l2, l11, bf9, k9', hs9⟩
        rintro L w18 ⟨v, l13, ro, l2, l11, bf18, k18, hs18⟩
        refine wp_seq <| rg <| vl rfl rfl (xmva l13) <| cl rfl rfl (xc cb60 (mc rfl mn)) (c60b hs18 ro hR) fun v2 w19 hv => ?_
        obtain ⟨_, ro19, hB19⟩ := hv
        have bf19 := bf18.below hB19 hl7
        have k19 : Ext w5 w19 := k18.grow k56.size hB19
        refine nl <| wp_seq <| wpl [] (.pure true 0 (.pure true 1 (.pure true 2 (.pure false 3 (.pure true 4 (.pure true 5 (.pure true 6 .fin))))))) mixed (by kernel_rfl) (fun wd hxd => ?_)
        have hz := ixar (Bx.cs (bf19.ext hxd)) Ed; obtain ⟨i1, i2, hcd⟩ := hz
        refine pv rfl rfl rfl (fun _ _ => xmva l13) (.inl rfl) <| pv rfl rfl rfl (fun _ _ => xmva l2) (.inl rfl) <| pv rfl rfl rfl (fun _ _ => xixa l11 rfl Try.underlying83 ti2 i1 i2) (.inl rfl) <| pv rfl rfl rfl (fun _ hS => xld rfl ti2 ((hcd.ext (hS.resolve_left nofun)).at 0 rfl)) (.inr (Ext.refl _)) <| pv rfl rfl rfl (fun _ _ => xas) (.inl rfl) <| pv rfl rfl rfl (fun _ _ => xas) (.inl rfl) <| pv rfl rfl rfl (fun _ _ => xas) (.inl rfl) <| ?_
        exact wp_ret <| rt rfl (.tmp rfl rfl (.tmp rfl rfl (.tmp rfl rfl .nil))) ⟨_, rfl, (ro19.ext hxd).rv, (k5.tr k19).tr hxd⟩
end Go.Proofs.Ythppacohnciinaa
