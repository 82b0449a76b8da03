/-
  Each function of the program returns what its pure function computes, and leaves all memory that was there as it was. Condition: the pure function computes something.
-/
import Derived.Test.YthppacohnciinaaFacts
import Derived.Test.YthppacohnciinaaPureM
import Derived.Test.YthppacohnciinaaWalkH
namespace Go.Proofs.Ythppacohnciinaa
open Go Go.Md Go.RowKit
attribute [local irreducible] Go.wpList Go.Code.wp Go.Calls Go.Md.Rnd Go.Md.Mt Go.Md.MtM Go.Md.RndM Go.Code.wpIn

set_option maxHeartbeats 4000000 in
theorem c7 {w0 : World} {v0 : Value} {x0 : (Int × (List (Int × Int × Int)))} (r0 : RV w0 v0 x0) {v1 : Value} {x1 : (List (KI .u16))} (r1 : RV w0 v1 x1) {x2 : Int} {F : Nat} {r : Bool} (hF : law01_SpeedMirrored F x0 x1 x2 = some r) :
    Calls Try.prog 7 [v0, v1, .int .u8 x2].toArray w0 (Ret fun v w' => v = .bool r ∧ Ext w0 w') := by
  unfold law01_SpeedMirrored at hF
  have hz := id r0; obtain ⟨_, rfl, ⟨_, _, rfl, rfl, ⟨a1, cq1, rfl, p1, q4, e1⟩⟩⟩ := hz
  have r4 := RV.of1 p1 q4 e1
  have hz := r1.sl; obtain ⟨a2, cq2, rfl, -, -, -⟩ := hz
  refine entr (n := 159) Try.func7 rfl rfl rfl <| wp_seq <| rg <| sbx rfl rfl fun b4 w1 hx1 hg1 hb1 => ?_
  have r5 := r1.ext hx1
  have r6 := r4.ext hx1
  have r7 := r0.ext hx1
  refine vl rfl rfl xas <| nl <| wp_seq <| wp_seq <| rg <| vl rfl rfl (xlda rfl ti24 rfl (Bx.cs hb1)) <| ?_
  have hz := bs hF; obtain ⟨x4, Ex4, hF⟩ := hz
  refine cl rfl rfl (xc cb14 (mc rfl mn)) (c14 (show RV (α := (Int × (List (Int × Int × Int)))) _ (.agg [.int .i64 x0.1, .slice a1 x0.2.length cq1].toArray) (x0.1, x0.2) from ⟨_, rfl, ⟨[.int .i64 x0.1], [.slice a1 x0.2.length cq1], rfl, rfl, r6.rep1⟩⟩) Ex4) ?_
  rintro _ w2 ⟨rfl, hx2⟩
  have k1 := hx1.tr hx2
  have hb2 := hb1.ext hx2
  have r8 := r6.ext hx2
  have r9 := r5.ext hx2
  refine vl rfl rfl xmv <| gv rfl rfl rfl rfl (gw0 rfl) rfl (fun hc => xlda rfl ti24 rfl (Bx.cs hb2)) <| ?_
  have hz := bs hF; obtain ⟨x5, Ex5, hF⟩ := hz
  refine gc rfl rfl rfl rfl (gw0 rfl) rfl (fun hc => xc cb36 (mc (mv hc rfl) mn)) (fun hc => (c36 (show RV (α := (Int × (List (Int × Int × Int)))) _ (.agg [.int .i64 x0.1, .slice a1 x0.2.length cq1].toArray) (x0.1, x0.2) from ⟨_, rfl, ⟨[.int .i64 x0.1], [.slice a1 x0.2.length cq1], rfl, rfl, r8.rep1⟩⟩) (gdp Ex5 hc))) (fun v4 w3 hy1 hn1 => ?_)
  have hx3 : Ext w2 w3 := gx (fun h => (hy1 h).2) (fun h => (hn1 h).2 ▸ Ext.refl _)
  have e2 := mkw (fun h => (hy1 h).1) (fun h => (hn1 h).1)
  have k2 := k1.tr hx3
  have hb3 := hb2.ext hx3
  have r10 := r8.ext hx3
  have r11 := r9.ext hx3
  refine gv rfl rfl rfl rfl (gw0 rfl) rfl (fun hc => xneq (mv hc e2) rfl) <| vl rfl rfl (xpo rfl rfl rfl) <| vl rfl rfl xmv <| gv rfl rfl rfl rfl (gw0 rfl) rfl (fun hc => xmva rfl) <| gv rfl rfl rfl rfl (gw0 rfl) rfl (fun hc => xlen (mv hc rfl) Try.underlying49) <| gv rfl rfl rfl rfl (gw0 rfl) rfl (fun hc => xgtr (mv hc rfl) rfl) <| vl rfl rfl (xpo rfl rfl rfl) <| nl <| cnd rfl (fun h4 => ?_) (fun h4 => ?_)
  ·
    have hF := ifp hF h4
    refine wp_seq <| rg <| ?_
    have hz := bs hF; obtain ⟨x6, Ex6, hF⟩ := hz
    refine cl rfl rfl (xc cb15 mn) (c15 Ex6) ?_
    rintro _ w4 ⟨rfl, hx4⟩
    have k3 := k2.tr hx4
    refine vl rfl rfl xas <| nl <| ?_
    cases hF
    exact wp_ret <| rt rfl (.tmp rfl rfl .nil) ⟨rfl, k3⟩
  ·
    have hF := ifn hF h4
    refine wp_skip <| wp_seq <| ?_
    have hz := bs hF; obtain ⟨⟨⟩, hB1, hF⟩ := hz
    refine ct (fun L w => ∃ v5 v6 : Value, L 7 = v5 ∧ PX 24 w3.heap.size w v5 [.int .i64 x0.1, .slice none 0 0] ∧ L 8 = v6 ∧ PX 24 w3.heap.size w v6 [.int .i64 x0.1, .slice none 0 0] ∧ v5 ≠ v6 ∧ L 1 = .slice a2 x1.length cq2 ∧ L 2 = .int .u8 x2 ∧ L 3 = .pointer (some ⟨b4, 0, none⟩) ∧ Ext w3 w) ?_ ?_
    ·
      refine wpl [] (.pure true 0 (.pure false 1 (.pure true 2 (.pure true 3 (.pure false 4 (.pure true 5 (.eff 6 (.eff 7 (.eff 8 (.eff 9 .fin .stop) .stop) .stop) (.eff 7 (.eff 6 (.eff 8 (.eff 9 .fin .stop) .stop) .stop) .stop)))))))) mixed (by kernel_rfl) (fun w10 hx8 => ?_)
      have k16 := k2.tr hx8
      have hb18 := hb3.ext hx8
      have r22 := r10.ext hx8
      have r23 := r11.ext hx8
      refine pv rfl rfl rfl (fun _ _ => xfa rfl fa24_0) (.inl rfl) <| pv rfl rfl rfl (fun _ hS => xld rfl ti3 ((Bx.cs (hb18.ext (hS.resolve_left nofun))).at 0 rfl)) (.inr (Ext.refl _)) <| pv rfl rfl rfl (fun _ _ => xbdv (r := [.int .i64 x0.1, .slice none 0 0]) ti24 sp24 (pc rfl pn) rfl) (.inl rfl) <| pv rfl rfl rfl (fun _ _ => xfa rfl fa24_0) (.inl rfl) <| pv rfl rfl rfl (fun _ hS => xld rfl ti3 ((Bx.cs (hb18.ext (hS.resolve_left nofun))).at 0 rfl)) (.inr (Ext.refl _)) <| pv rfl rfl rfl (fun _ _ => xbdv (r := [.int .i64 x0.1, .slice none 0 0]) ti24 sp24 (pc rfl pn) rfl) (.inl rfl) <| ?_
      refine pe rfl ?_ ?_
      ·
        refine sal ti24 fun b7 w11 hx9 hg4 hb19 => ?_
        have k17 := k16.tr hx9
        have k18 := hx8.tr hx9
        have hb20 := hb18.ext hx9
        have r24 := r22.ext hx9
        have r25 := r23.ext hx9
        refine nl ⟨fun _ _ => hx9, ?_⟩
        refine pe1 rfl <| sal ti24 fun b8 w12 hx10 hg5 hb21 => ?_
        have k19 := k17.tr hx10
        have k20 := k18.tr hx10
        have k21 := hx9.tr hx10
        have hb22 := hb20.ext hx10
        have r26 := r24.ext hx10
        have hb23 := hb19.ext hx10
        have r27 := r25.ext hx10
        refine nl ⟨fun _ _ => k21, ?_⟩
        refine pe1 rfl <| sst rfl rfl rfl ti24 hb23 rfl rfl (ble rfl) fun w13 hch3 hb24 => ?_
        have k22 := Ext.chg k19 hch3 (Nat.le_trans k16.size hg4)
        have k23 := Ext.chg k20 hch3 (Nat.le_trans hx8.size hg4)
        have k24 := Ext.chg k21 hch3 (Nat.le_trans (Nat.le_refl _) hg4)
        have hb25 := hb18.ext k24
        have r28 := r22.ext k24
        have hb26 := Bx.chg hb21 hch3 (Ne.symm (Nat.ne_of_lt (Nat.lt_of_lt_of_le hb19.lt hg5)))
        have r29 := r23.ext k24
        have hb27 : Bx w13 b7 24 [.int .i64 x0.1, .slice none 0 0] := hb24
        refine nl ⟨fun _ _ => k24, ?_⟩
        refine pe1 rfl <| sst rfl rfl rfl ti24 hb26 rfl rfl (ble rfl) fun w14 hch4 hb28 => ?_
        have k25 := Ext.chg k22 hch4 (Nat.le_trans k16.size (Nat.le_trans hx9.size hg5))
        have k26 := Ext.chg k23 hch4 (Nat.le_trans hx8.size (Nat.le_trans hx9.size hg5))
        have k27 := Ext.chg k24 hch4 (Nat.le_trans (Nat.le_refl _) (Nat.le_trans hx9.size hg5))
        have hb29 := hb18.ext k27
        have r30 := r22.ext k27
        have hb30 := Bx.chg hb27 hch4 (Nat.ne_of_lt (Nat.lt_of_lt_of_le hb19.lt hg5))
        have r31 := r23.ext k27
        have hb31 : Bx w14 b8 24 [.int .i64 x0.1, .slice none 0 0] := hb28
        refine nl ⟨fun _ _ => k27, ?_⟩
        cases hB1
        refine lf <| ?_
        exact ⟨_, _, rfl, ⟨_, rfl, (Nat.le_trans hx8.size hg4), hb30⟩, rfl, ⟨_, rfl, (Nat.le_trans hx8.size (Nat.le_trans hx9.size hg5)), hb31⟩, (ne_ptr (Nat.ne_of_lt (Nat.lt_of_lt_of_le hb19.lt hg5))), rfl, rfl, rfl, k26⟩
      refine pm rfl ?_ ?_
      ·
        refine sal ti24 fun b9 w15 hx11 hg6 hb32 => ?_
        have k28 := k16.tr hx11
        have k29 := hx8.tr hx11
        have hb33 := hb18.ext hx11
        have r32 := r22.ext hx11
        have r33 := r23.ext hx11
        refine nl ⟨fun _ _ => hx11, ?_⟩
        refine pe1 rfl <| sal ti24 fun b10 w16 hx12 hg7 hb34 => ?_
        have k30 := k28.tr hx12
        have k31 := k29.tr hx12
        have k32 := hx11.tr hx12
        have hb35 := hb33.ext hx12
        have r34 := r32.ext hx12
        have hb36 := hb32.ext hx12
        have r35 := r33.ext hx12
        refine nl ⟨fun _ _ => k32, ?_⟩
        refine pe1 rfl <| sst rfl rfl rfl ti24 hb34 rfl rfl (ble rfl) fun w17 hch5 hb37 => ?_
        have k33 := Ext.chg k30 hch5 (Nat.le_trans k28.size hg7)
        have k34 := Ext.chg k31 hch5 (Nat.le_trans k29.size hg7)
        have k35 := Ext.chg k32 hch5 (Nat.le_trans hx11.size hg7)
        have k36 := Ext.chg hx12 hch5 (Nat.le_trans (Nat.le_refl _) hg7)
        have hb38 := hb33.ext k36
        have r36 := r32.ext k36
        have hb39 := hb32.ext k36
        have r37 := r33.ext k36
        have hb40 : Bx w17 b10 24 [.int .i64 x0.1, .slice none 0 0] := hb37
        refine nl ⟨fun _ _ => k35, ?_⟩
        refine pe1 rfl <| sst rfl rfl rfl ti24 hb39 rfl rfl (ble rfl) fun w18 hch6 hb41 => ?_
        have k37 := Ext.chg k33 hch6 (Nat.le_trans k16.size hg6)
        have k38 := Ext.chg k34 hch6 (Nat.le_trans hx8.size hg6)
        have k39 := Ext.chg k35 hch6 (Nat.le_trans (Nat.le_refl _) hg6)
        have hb42 := hb18.ext k39
        have r38 := r22.ext k39
        have hb43 := Bx.chg hb40 hch6 (Ne.symm (Nat.ne_of_lt (Nat.lt_of_lt_of_le hb32.lt hg7)))
        have r39 := r23.ext k39
        have hb44 : Bx w18 b9 24 [.int .i64 x0.1, .slice none 0 0] := hb41
        refine nl ⟨fun _ _ => k39, ?_⟩
        cases hB1
        refine lf <| ?_
        exact ⟨_, _, rfl, ⟨_, rfl, (Nat.le_trans hx8.size (Nat.le_trans hx11.size hg7)), hb43⟩, rfl, ⟨_, rfl, (Nat.le_trans hx8.size hg6), hb44⟩, (ne_ptr (Ne.symm (Nat.ne_of_lt (Nat.lt_of_lt_of_le hb32.lt hg7)))), rfl, rfl, rfl, k38⟩
      trivial
    rintro L w19 ⟨v5, v6, l7_j1, P7_j1, l8_j1, P8_j1, N7_8_j1, l1_j1, l2_j1, l3_j1, K0_j1⟩
    have k40 := k2.tr K0_j1
    have r40 := r11.ext K0_j1
    have r41 := r10.ext K0_j1
    have hb45 := hb3.ext K0_j1
    obtain ⟨b11, rfl, hg8, hb46⟩ := P7_j1
    obtain ⟨b12, rfl, hg9, hb47⟩ := P8_j1
    refine wp_seq <| wp_seq <| rg <| vl rfl rfl xas <| nl <| ?_
    have hz := bs hF; obtain ⟨⟨z1, z2⟩, hB2, hF⟩ := hz
    refine ct (fun L w => ∃ v9 v10 : Value, Bx w b11 24 [.int .i64 z1.1, v9] ∧ Row 56 w19.heap.size w v9 z1.2 ∧ some b11 ≠ Value.ownBlock v9 ∧ Bx w b12 24 [.int .i64 z2.1, v10] ∧ Row 56 w19.heap.size w v10 z2.2 ∧ some b12 ≠ Value.ownBlock v10 ∧ Apart (v9) (v10) ∧ L 1 = .slice a2 x1.length cq2 ∧ L 2 = .int .u8 x2 ∧ L 3 = .pointer (some ⟨b4, 0, none⟩) ∧ L 7 = .pointer (some ⟨b11, 0, none⟩) ∧ L 8 = .pointer (some ⟨b12, 0, none⟩) ∧ w19.heap.size ≤ w.heap.size ∧ Ext w3 w) ?_ ?_
    ·
      refine wp_block <| lp (I := fun m L w => ∃ y1 : Int, ∃ y2 : (Int × (List (Int × Int × Int))), ∃ y3 : (Int × (List (Int × Int × Int))), ∃ v7 v8 : Value, law01_SpeedMirrored_l1 F x0 m y1 y2 y3  = some (z1, z2) ∧ L 9 = .int .i64 y1 ∧ Bx w b11 24 [.int .i64 y2.1, v7] ∧ Row 56 w19.heap.size w v7 y2.2 ∧ some b11 ≠ Value.ownBlock v7 ∧ Bx w b12 24 [.int .i64 y3.1, v8] ∧ Row 56 w19.heap.size w v8 y3.2 ∧ some b12 ≠ Value.ownBlock v8 ∧ Apart (v7) (v8) ∧ L 1 = .slice a2 x1.length cq2 ∧ L 2 = .int .u8 x2 ∧ L 3 = .pointer (some ⟨b4, 0, none⟩) ∧ L 7 = .pointer (some ⟨b11, 0, none⟩) ∧ L 8 = .pointer (some ⟨b12, 0, none⟩) ∧ w19.heap.size ≤ w.heap.size ∧ Ext w3 w) F ⟨_, _, _, _, _, hB2, rfl, hb46, Row.nil, (fun e => by cases e), hb47, Row.nil, (fun e => by cases e), Apart.nil1, l1_j1, l2_j1, l3_j1, l7_j1, l8_j1, (Nat.le_refl _), K0_j1⟩ ?_
      rintro m L w20 ⟨y1, y2, y3, v7, v8, hB2, l9_i1, B7_i1, O7c1_i1, N7c1_i1, B8_i1, O8c1_i1, N8c1_i1, X0_i1, l1_i1, l2_i1, l3_i1, l7_i1, l8_i1, Z0_i1, K0_i1⟩
      rcases m with _ | m
      · rw [law01_SpeedMirrored_l1] at hB2; cases hB2
      rw [law01_SpeedMirrored_l1] at hB2
      have k41 := k2.tr K0_i1
      have r42 := r11.ext K0_i1
      have r43 := r10.ext K0_i1
      have hb48 := hb3.ext K0_i1
      have hz := RV.sl O7c1_i1.rv; obtain ⟨a3, cq3, rfl, -, -, -⟩ := hz
      have hz := RV.sl O8c1_i1.rv; obtain ⟨a4, cq4, rfl, -, -, -⟩ := hz
      refine wp_seq <| wp_seq <| rg <| vl rfl rfl xmv <| vl rfl rfl (xfa l3_i1 fa24_1) <| vl rfl rfl (xld rfl ti22 ((Bx.cs hb48).at 1 rfl)) <| vl rfl rfl (xlen rfl Try.underlying22) <| vl rfl rfl (xlss l9_i1 rfl) <| nl <| cnd rfl (fun h5 => ?_) (fun h5 => ?_)
      ·
        have hB2 := ifp hB2 h5
        refine wp_skip <| wp_seq <| ?_
        have hz := bs hB2; obtain ⟨⟨y4, y5⟩, hB4, hB2⟩ := hz
        refine ct (fun L w => ∃ v11 v12 : Value, Bx w b11 24 [.int .i64 y4.1, v11] ∧ Row 56 w19.heap.size w v11 y4.2 ∧ some b11 ≠ Value.ownBlock v11 ∧ Bx w b12 24 [.int .i64 y5.1, v12] ∧ Row 56 w19.heap.size w v12 y5.2 ∧ some b12 ≠ Value.ownBlock v12 ∧ Apart (v11) (v12) ∧ L 1 = .slice a2 x1.length cq2 ∧ L 2 = .int .u8 x2 ∧ L 3 = .pointer (some ⟨b4, 0, none⟩) ∧ L 7 = .pointer (some ⟨b11, 0, none⟩) ∧ L 8 = .pointer (some ⟨b12, 0, none⟩) ∧ L 9 = .int .i64 y1 ∧ w19.heap.size ≤ w.heap.size ∧ Ext w3 w) ?_ ?_
        ·
          refine wp_block <| wp_seq <| rg <| vl rfl rfl (xfa l3_i1 fa24_1) <| vl rfl rfl (xld rfl ti22 ((Bx.cs hb48).at 1 rfl)) <| vl rfl rfl xmv <| ?_
          have hz := bs hB4; obtain ⟨x7, Ex7, hB4⟩ := hz
          have hz := (RV.els r4).ix Ex7; obtain ⟨b13, f1, cs4, e3, i2, i3, q5, hc1⟩ := hz
          cases e3
          obtain ⟨_, _, rfl, rfl, ⟨_, _, rfl, rfl, rfl⟩⟩ := q5
          have hc2 := hc1.ext k41
          refine vl rfl rfl (xixs rfl l9_i1 Try.underlying22 ti56 i2 i3) <| vl rfl rfl (xlda rfl ti56 rfl hc2) <| sal ti56 fun b14 w21 hx13 hg10 hb49 => ?_
          have k42 := k41.tr hx13
          have k43 := K0_i1.tr hx13
          have zs1 := Nat.le_trans Z0_i1 hx13.size
          have hb50 := hb48.ext hx13
          have r44 := r43.ext hx13
          have B1 := B7_i1.ext hx13
          have O1 := O7c1_i1.ext hx13
          have B2 := B8_i1.ext hx13
          have O2 := O8c1_i1.ext hx13
          have r45 := r42.ext hx13
          refine sst rfl rfl rfl ti56 hb49 rfl rfl (ble rfl) fun w22 hch7 hb51 => ?_
          have k44 := Ext.chg k42 hch7 (Nat.le_trans k41.size hg10)
          have k45 := Ext.chg k43 hch7 (Nat.le_trans K0_i1.size hg10)
          have k46 := Ext.chg hx13 hch7 (Nat.le_trans (Nat.le_refl _) hg10)
          have zs2 := Nat.le_trans zs1 (Nat.le_of_eq hch7.size.symm)
          have hb52 := hb48.ext k46
          have r46 := r43.ext k46
          have B3 := B7_i1.ext k46
          have O3 := O7c1_i1.ext k46
          have B4 := B8_i1.ext k46
          have O4 := O8c1_i1.ext k46
          have r47 := r42.ext k46
          have hb53 : Bx w22 b14 56 [.int .i64 x7.1, .int .i64 x7.2.1, .int .i64 x7.2.2] := hb51
          refine nl <| wp_seq <| rg <| vl rfl rfl (xfa rfl fa56_0) <| vl rfl rfl (xld rfl ti3 ((Bx.cs hb53).at 0 rfl)) <| vl rfl rfl (xgtr rfl rfl) <| vl rfl rfl xmv <| gv rfl rfl rfl rfl (gw1 rfl) rfl (fun hc => xfa rfl fa56_1) <| gv rfl rfl rfl rfl (gw1 rfl) rfl (fun hc => xld (mv hc rfl) ti3 ((Bx.cs hb53).at 1 rfl)) <| gv rfl rfl rfl rfl (gw1 rfl) rfl (fun hc => xgtr (mv hc rfl) rfl) <| vl rfl rfl (xpa rfl rfl rfl) <| nl <| ?_
          have hz := bs hB4; obtain ⟨⟨y6, y7⟩, hB5, hB4⟩ := hz
          refine ct (fun L w => ∃ v13 v14 : Value, Bx w b11 24 [.int .i64 y6.1, v13] ∧ Row 56 w19.heap.size w v13 y6.2 ∧ some b11 ≠ Value.ownBlock v13 ∧ Bx w b12 24 [.int .i64 y7.1, v14] ∧ Row 56 w19.heap.size w v14 y7.2 ∧ some b12 ≠ Value.ownBlock v14 ∧ Apart (v13) (v14) ∧ L 1 = .slice a2 x1.length cq2 ∧ L 2 = .int .u8 x2 ∧ L 3 = .pointer (some ⟨b4, 0, none⟩) ∧ L 7 = .pointer (some ⟨b11, 0, none⟩) ∧ L 8 = .pointer (some ⟨b12, 0, none⟩) ∧ L 9 = .int .i64 y1 ∧ w19.heap.size ≤ w.heap.size ∧ Ext w3 w) ?_ ?_
          ·
            refine cnd rfl (fun h6 => ?_) (fun h6 => ?_)
            ·
              have hB5 := ifp hB5 h6
              refine wplG (row := (Value.ownBlock (.slice a3 y2.2.length cq3))) [15, 17, 19] (.pure true 0 (.pure false 1 (.pure false 2 (.pure true 5 (.pure false 6 (.pure true 7 (.pure false 8 (.pure true 9 (.pure false 10 (.pure true 11 (.pure false 12 (.eff 3 (.eff 4 (.pure true 16 (.eff 13 (.eff 14 (.eff 15 (.eff 17 (.pure true 18 (.eff 19 .fin .stop)) .stop) .stop) .stop) .stop)) .stop) .stop)))))))))))) mixed (by kernel_rfl) (fun w23 hx14 => ?_)
              have k47 := k44.tr hx14
              have k48 := k45.tr hx14
              have k49 := k46.tr hx14
              have zs3 := Nat.le_trans zs2 hx14.size
              have hb54 := hb52.ext hx14
              have r48 := r46.ext hx14
              have B5 := B3.ext hx14
              have O5 := O3.ext hx14
              have B6 := B4.ext hx14
              have O6 := O4.ext hx14
              have hb55 := hb53.ext hx14
              have r49 := r47.ext hx14
              refine pv rfl rfl rfl (fun _ _ => xfa l7_i1 fa24_1) (.inl rfl) <| pv rfl rfl rfl (fun _ hS => xld rfl ti22 ((Bx.cs (Bx.gr B5 (hS.resolve_left nofun) N7c1_i1)).at 1 rfl)) (.inr (Ext.gro (Ext.refl _))) <| pv rfl rfl rfl (fun _ hS => xlda rfl ti56 rfl (Bx.cs (Bx.gr hb55 (hS.resolve_left nofun) (O7c1_i1.ne_new hg10)))) (.inr (Ext.gro (Ext.refl _))) <| pv rfl rfl rfl (fun _ _ => xfa l8_i1 fa24_1) (.inl rfl) <| pv rfl rfl rfl (fun _ hS => xld rfl ti22 ((Bx.cs (Bx.gr B6 (hS.resolve_left nofun) (O3.ne_old hb47.lt))).at 1 rfl)) (.inr (Ext.gro (Ext.refl _))) <| pv rfl rfl rfl (fun _ _ => xfa rfl fa56_1) (.inl rfl) <| pv rfl rfl rfl (fun _ hS => xld rfl ti3 ((Bx.cs (Bx.gr hb55 (hS.resolve_left nofun) (O7c1_i1.ne_new hg10))).at 1 rfl)) (.inr (Ext.gro (Ext.refl _))) <| pv rfl rfl rfl (fun _ _ => xfa rfl fa56_0) (.inl rfl) <| pv rfl rfl rfl (fun _ hS => xld rfl ti3 ((Bx.cs (Bx.gr hb55 (hS.resolve_left nofun) (O7c1_i1.ne_new hg10))).at 0 rfl)) (.inr (Ext.gro (Ext.refl _))) <| pv rfl rfl rfl (fun _ _ => xfa rfl fa56_2) (.inl rfl) <| pv rfl rfl rfl (fun _ hS => xld rfl ti2 ((Bx.cs (Bx.gr hb55 (hS.resolve_left nofun) (O7c1_i1.ne_new hg10))).at 2 rfl)) (.inr (Ext.gro (Ext.refl _))) <| pe1 rfl <| sbsv (cs := [.int .i64 x7.1, .int .i64 x7.2.1, .int .i64 x7.2.2]) Try.underlying22 ti56 rfl (pc rfl pn) rfl rfl rfl rfl rfl fun b15 w24 hx15 hg11 hb56 => ?_
              have k50 := k47.tr hx15
              have k51 := k48.tr hx15
              have k52 := k49.tr hx15
              have k53 := hx14.tr hx15
              have zs4 := Nat.le_trans zs3 hx15.size
              have hb57 := hb54.ext hx15
              have r50 := r48.ext hx15
              have B7 := B5.ext hx15
              have O7 := O5.ext hx15
              have B8 := B6.ext hx15
              have O8 := O6.ext hx15
              have r51 := r49.ext hx15
              have o2 : Row (α := (Int × Int × Int)) 56 w23.heap.size w24 (.slice (some ⟨b15, 0, none⟩) 1 1) [(x7.1, x7.2.1, x7.2.2)] := Row.lit hg11 hb56 rfl (ble rfl)
              refine nl ⟨fun _ _ => (Ext.gro hx15), ?_⟩
              have hz := bs hB5; obtain ⟨x8, Ex8, hB5⟩ := hz
              refine pe1 rfl <| sapx (l := y2.2) (k := ([(x7.1, x7.2.1, x7.2.2)] : List (Int × Int × Int))) rfl rfl Try.underlying22 ti56 rfl rfl O7 (RV.els o2.rv) Ex8 zs4 fun v15 w25 o3 hB7 hgr1 how1 => ?_
              have k54 := Ext.grow k50 k40.size hB7
              have k55 := Ext.grow k51 K0_j1.size hB7
              have X1 := Apart.app how1 X0_i1 O8.own_lt
              have zs5 := Nat.le_trans zs4 hgr1.size
              have gS1 := World.grownBy.tr (Ext.gro hx15) hgr1
              have hb58 := hb3.ext k55
              have r53 := r10.ext k55
              have ne1 := ne_app how1 N7c1_i1 B7.lt
              have hb59 := Bx.gr B7 hgr1 N7c1_i1
              have ne2 := ne_app how1 (O7.ne_old hb47.lt) B8.lt
              have hb60 := Bx.gr B8 hgr1 (O7.ne_old hb47.lt)
              have o4 := Row.gra O8 hgr1 X0_i1
              have r54 := r11.ext k55
              have hz := RV.sl o3.rv; obtain ⟨a5, cq5, rfl, -, -, -⟩ := hz
              refine nl ⟨fun _ _ => gS1, ?_⟩
              refine pv rfl rfl rfl (fun _ _ => xfa l7_i1 fa24_1) (.inl rfl) <| ?_
              have hz := bs hB5; obtain ⟨x9, Ex9, hB5⟩ := hz
              refine pe1 rfl <| cl rfl rfl (xc cb39 (mc rfl (mc rfl (mc rfl mn)))) (c39 Ex9) ?_
              rintro _ w26 ⟨u1, rfl, r55, hx16⟩
              have k56 := k54.tr hx16
              have k57 := k55.tr hx16
              have zs6 := Nat.le_trans zs5 hx16.size
              have hb61 := hb58.ext hx16
              have r56 := r53.ext hx16
              have B9 := hb59.ext hx16
              have B10 := hb60.ext hx16
              have O9 := o4.ext hx16
              have r57 := r54.ext hx16
              have o5 := o3.ext hx16
              have hz := id r55; obtain ⟨_, rfl, ⟨_, _, rfl, rfl, ⟨_, _, rfl, rfl, rfl⟩⟩⟩ := hz
              refine nl ⟨fun _ h => World.grownBy.tr h (Ext.gro hx16), ?_⟩
              refine pe1 rfl <| sbsv (cs := [.int .i64 x9.1, .int .i64 x9.2.1, .int .i64 x9.2.2]) Try.underlying22 ti56 rfl (pc rfl pn) rfl rfl rfl rfl rfl fun b16 w27 hx17 hg12 hb62 => ?_
              have k58 := k56.tr hx17
              have k59 := k57.tr hx17
              have zs7 := Nat.le_trans zs6 hx17.size
              have hb63 := hb61.ext hx17
              have r58 := r56.ext hx17
              have B11 := B9.ext hx17
              have B12 := B10.ext hx17
              have O10 := O9.ext hx17
              have r59 := r57.ext hx17
              have o6 := o5.ext hx17
              have o7 : Row (α := (Int × Int × Int)) 56 w26.heap.size w27 (.slice (some ⟨b16, 0, none⟩) 1 1) [x9] := Row.lit hg12 hb62 rfl (ble rfl)
              refine nl ⟨fun _ h => World.grownBy.tr h (Ext.gro hx17), ?_⟩
              have hz := bs hB5; obtain ⟨x10, Ex10, hB5⟩ := hz
              refine pe1 rfl <| sapx (l := y3.2) (k := ([x9] : List (Int × Int × Int))) rfl rfl Try.underlying22 ti56 rfl rfl O10 (RV.els o7.rv) Ex10 zs7 fun v16 w28 o8 hB8 hgr2 how2 => ?_
              have k60 := Ext.grow k58 k40.size hB8
              have k61 := Ext.grow k59 K0_j1.size hB8
              have X2 := Apart.app how2 (Apart.symm X1) o6.own_lt
              have zs8 := Nat.le_trans zs7 hgr2.size
              have hb64 := hb3.ext k61
              have r61 := r10.ext k61
              have ne3 := ne_app how2 (O10.ne_old hb46.lt) B11.lt
              have hb65 := Bx.gr B11 hgr2 (O10.ne_old hb46.lt)
              have ne4 := ne_app how2 N8c1_i1 B12.lt
              have hb66 := Bx.gr B12 hgr2 N8c1_i1
              have r62 := r11.ext k61
              have o9 := Row.gra o6 hgr2 (Apart.symm X1)
              have hz := RV.sl o8.rv; obtain ⟨a6, cq6, rfl, -, -, -⟩ := hz
              refine nl ⟨fun h => (h (by decide)).elim, ?_⟩
              refine pe1 rfl <| sst rfl rfl rfl ti22 hb65 rfl rfl (ble rfl) fun w29 hch8 hb67 => ?_
              have k62 := Ext.chg k60 hch8 (Nat.le_trans k2.size hg8)
              have k63 := Ext.chg k61 hch8 (Nat.le_trans (Nat.le_refl _) hg8)
              have zs9 := Nat.le_trans zs8 (Nat.le_of_eq hch8.size.symm)
              have hb68 := hb3.ext k63
              have r63 := r10.ext k63
              have hb69 := Bx.chg hb66 hch8 (Ne.symm (ptr_ne N7_8_j1))
              have r64 := r11.ext k63
              have o10 := Row.chgn o8 hch8 ne3
              have o11 := Row.chgn o9 hch8 ne1
              have hb70 : Bx w29 b11 24 [.int .i64 y2.1, .slice a5 x8.length cq5] := hb67
              refine nl ⟨fun h => (h (by decide)).elim, ?_⟩
              refine pv rfl rfl rfl (fun _ _ => xfa l8_i1 fa24_1) (.inl rfl) <| pe1 rfl <| sst rfl rfl rfl ti22 hb69 rfl rfl (ble rfl) fun w30 hch9 hb71 => ?_
              have k64 := Ext.chg k62 hch9 (Nat.le_trans k2.size hg9)
              have k65 := Ext.chg k63 hch9 (Nat.le_trans (Nat.le_refl _) hg9)
              have zs10 := Nat.le_trans zs9 (Nat.le_of_eq hch9.size.symm)
              have hb72 := hb3.ext k65
              have r65 := r10.ext k65
              have hb73 := Bx.chg hb70 hch9 (ptr_ne N7_8_j1)
              have o12 := Row.chgn o11 hch9 ne2
              have r66 := r11.ext k65
              have o13 := Row.chgn o10 hch9 ne4
              have hb74 : Bx w30 b12 24 [.int .i64 y3.1, .slice a6 x10.length cq6] := hb71
              refine nl ⟨fun h => (h (by decide)).elim, ?_⟩
              cases hB5
              refine lf <| ?_
              exact ⟨_, _, hb73, o12, ne1, hb74, o13, ne4, (Apart.symm X2), l1_i1, l2_i1, l3_i1, l7_i1, l8_i1, l9_i1, zs10, k65⟩
            ·
              have hB5 := ifn hB5 h6
              refine wp_skip <| ?_
              cases hB5
              refine lf <| ?_
              exact ⟨_, _, B3, O3, N7c1_i1, B4, O4, N8c1_i1, X0_i1, l1_i1, l2_i1, l3_i1, l7_i1, l8_i1, l9_i1, zs2, k45⟩
          rintro L w31 ⟨v13, v14, B7_j2, O7c1_j2, N7c1_j2, B8_j2, O8c1_j2, N8c1_j2, X0_j2, l1_j2, l2_j2, l3_j2, l7_j2, l8_j2, l9_j2, Z0_j2, K0_j2⟩
          have k66 := k2.tr K0_j2
          have r67 := r11.ext K0_j2
          have r68 := r10.ext K0_j2
          have hb75 := hb3.ext K0_j2
          have hz := RV.sl O7c1_j2.rv; obtain ⟨a7, cq7, rfl, -, -, -⟩ := hz
          have hz := RV.sl O8c1_j2.rv; obtain ⟨a8, cq8, rfl, -, -, -⟩ := hz
          cases hB4
          refine lf <| ?_
          exact ⟨_, _, B7_j2, O7c1_j2, N7c1_j2, B8_j2, O8c1_j2, N8c1_j2, X0_j2, l1_j2, l2_j2, l3_j2, l7_j2, l8_j2, l9_j2, Z0_j2, K0_j2⟩
        rintro L w32 ⟨v11, v12, B7_j3, O7c1_j3, N7c1_j3, B8_j3, O8c1_j3, N8c1_j3, X0_j3, l1_j3, l2_j3, l3_j3, l7_j3, l8_j3, l9_j3, Z0_j3, K0_j3⟩
        have k67 := k2.tr K0_j3
        have r69 := r11.ext K0_j3
        have r70 := r10.ext K0_j3
        have hb76 := hb3.ext K0_j3
        have hz := RV.sl O7c1_j3.rv; obtain ⟨a9, cq9, rfl, -, -, -⟩ := hz
        have hz := RV.sl O8c1_j3.rv; obtain ⟨a10, cq10, rfl, -, -, -⟩ := hz
        refine rg <| vl rfl rfl xmv <| vl rfl rfl (xadd l9_j3 rfl) <| vl rfl rfl xas <| nl <| ?_
        refine lq m (Nat.lt_succ_self _) <| ?_
        exact ⟨_, _, _, _, _, hB2, rfl, B7_j3, O7c1_j3, N7c1_j3, B8_j3, O8c1_j3, N8c1_j3, X0_j3, l1_j3, l2_j3, l3_j3, l7_j3, l8_j3, Z0_j3, K0_j3⟩
      ·
        have hB2 := ifn hB2 h5
        refine wp_exit <| ?_
        cases hB2
        refine lf <| ?_
        exact ⟨_, _, B7_i1, O7c1_i1, N7c1_i1, B8_i1, O8c1_i1, N8c1_i1, X0_i1, l1_i1, l2_i1, l3_i1, l7_i1, l8_i1, Z0_i1, K0_i1⟩
    rintro L w33 ⟨v9, v10, B7_j4, O7c1_j4, N7c1_j4, B8_j4, O8c1_j4, N8c1_j4, X0_j4, l1_j4, l2_j4, l3_j4, l7_j4, l8_j4, Z0_j4, K0_j4⟩
    have k68 := k2.tr K0_j4
    have r71 := r11.ext K0_j4
    have r72 := r10.ext K0_j4
    have hb77 := hb3.ext K0_j4
    have hz := RV.sl O7c1_j4.rv; obtain ⟨a11, cq11, rfl, -, -, -⟩ := hz
    have hz := RV.sl O8c1_j4.rv; obtain ⟨a12, cq12, rfl, -, -, -⟩ := hz
    refine wp_seq <| rg <| vl rfl rfl xmv <| vl rfl rfl (xcvt l2_j4 Try.underlying5 Try.underlying3) <| vl rfl rfl (xfa l3_j4 fa24_0) <| vl rfl rfl (xld rfl ti3 ((Bx.cs hb77).at 0 rfl)) <| ?_
    have hz := bs hF; obtain ⟨x11, Ex11, hF⟩ := hz
    refine vl rfl rfl (xremv rfl rfl Ex11) <| vl rfl rfl (xadd rfl rfl) <| vl rfl rfl xas <| nl <| wp_seq <| rg <| vl rfl rfl (xlda l7_j4 ti24 rfl (Bx.cs B7_j4)) <| vl rfl rfl xmv <| ?_
    have hz := bs hF; obtain ⟨x12, Ex12, hF⟩ := hz
    refine cl rfl rfl (xc cb16 (mc rfl (mc rfl mn))) (c16 (show RV (α := (Int × (List (Int × Int × Int)))) _ (.agg [.int .i64 z1.1, .slice a11 z1.2.length cq11].toArray) (z1.1, z1.2) from ⟨_, rfl, ⟨[.int .i64 z1.1], [.slice a11 z1.2.length cq11], rfl, rfl, O7c1_j4.rv.rep1⟩⟩) Ex12) ?_
    rintro _ w34 ⟨u2, rfl, r73, hx18⟩
    have k69 := k68.tr hx18
    have k70 := K0_j4.tr hx18
    have zs11 := Nat.le_trans Z0_j4 hx18.size
    have B13 := B7_j4.ext hx18
    have O11 := O7c1_j4.ext hx18
    have B14 := B8_j4.ext hx18
    have O12 := O8c1_j4.ext hx18
    have r74 := r71.ext hx18
    have hz := id r73; obtain ⟨_, rfl, ⟨_, _, rfl, rfl, rfl⟩⟩ := hz
    refine vl rfl rfl xmv <| vl rfl rfl (xext rfl rfl) <| vl rfl rfl (xext rfl rfl) <| sal ti28 fun b17 w35 hx19 hg13 hb78 => ?_
    have k71 := k69.tr hx19
    have k72 := k70.tr hx19
    have zs12 := Nat.le_trans zs11 hx19.size
    have B15 := B13.ext hx19
    have O13 := O11.ext hx19
    have B16 := B14.ext hx19
    have O14 := O12.ext hx19
    have r75 := r74.ext hx19
    have r76 := r73.ext hx19
    refine sst rfl rfl rfl ti28 hb78 rfl rfl (ble rfl) fun w36 hch10 hb79 => ?_
    have k73 := Ext.chg k71 hch10 (Nat.le_trans k69.size hg13)
    have k74 := Ext.chg k72 hch10 (Nat.le_trans k70.size hg13)
    have k75 := Ext.chg hx19 hch10 (Nat.le_trans (Nat.le_refl _) hg13)
    have zs13 := Nat.le_trans zs12 (Nat.le_of_eq hch10.size.symm)
    have B17 := B13.ext k75
    have O15 := O11.ext k75
    have B18 := B14.ext k75
    have O16 := O12.ext k75
    have r77 := r74.ext k75
    have hb80 : Bx w36 b17 28 [.int .i64 x12.1.1, .int .i64 x12.1.2] := hb79
    refine vl rfl rfl xas <| nl <| wp_seq <| rg <| vl rfl rfl (xlda l8_j4 ti24 rfl (Bx.cs B18)) <| vl rfl rfl xmv <| ?_
    have hz := bs hF; obtain ⟨x13, Ex13, hF⟩ := hz
    refine cl rfl rfl (xc cb16 (mc rfl (mc rfl mn))) (c16 (show RV (α := (Int × (List (Int × Int × Int)))) _ (.agg [.int .i64 z2.1, .slice a12 z2.2.length cq12].toArray) (z2.1, z2.2) from ⟨_, rfl, ⟨[.int .i64 z2.1], [.slice a12 z2.2.length cq12], rfl, rfl, O16.rv.rep1⟩⟩) Ex13) ?_
    rintro _ w37 ⟨u3, rfl, r78, hx20⟩
    have k76 := k73.tr hx20
    have k77 := k74.tr hx20
    have k78 := k75.tr hx20
    have zs14 := Nat.le_trans zs13 hx20.size
    have B19 := B17.ext hx20
    have O17 := O15.ext hx20
    have B20 := B18.ext hx20
    have O18 := O16.ext hx20
    have hb81 := hb80.ext hx20
    have r79 := r77.ext hx20
    have hz := id r78; obtain ⟨_, rfl, ⟨_, _, rfl, rfl, rfl⟩⟩ := hz
    refine vl rfl rfl xmv <| vl rfl rfl (xext rfl rfl) <| vl rfl rfl (xext rfl rfl) <| sal ti28 fun b18 w38 hx21 hg14 hb82 => ?_
    have k79 := k76.tr hx21
    have k80 := k77.tr hx21
    have k81 := k78.tr hx21
    have zs15 := Nat.le_trans zs14 hx21.size
    have B21 := B19.ext hx21
    have O19 := O17.ext hx21
    have B22 := B20.ext hx21
    have O20 := O18.ext hx21
    have hb83 := hb81.ext hx21
    have r80 := r79.ext hx21
    have r81 := r78.ext hx21
    refine sst rfl rfl rfl ti28 hb82 rfl rfl (ble rfl) fun w39 hch11 hb84 => ?_
    have k82 := Ext.chg k79 hch11 (Nat.le_trans k76.size hg14)
    have k83 := Ext.chg k80 hch11 (Nat.le_trans k77.size hg14)
    have k84 := Ext.chg k81 hch11 (Nat.le_trans k78.size hg14)
    have k85 := Ext.chg hx21 hch11 (Nat.le_trans (Nat.le_refl _) hg14)
    have zs16 := Nat.le_trans zs15 (Nat.le_of_eq hch11.size.symm)
    have B23 := B19.ext k85
    have O21 := O17.ext k85
    have B24 := B20.ext k85
    have O22 := O18.ext k85
    have hb85 := hb81.ext k85
    have r82 := r79.ext k85
    have hb86 : Bx w39 b18 28 [.int .i64 x13.1.1, .int .i64 x13.1.2] := hb84
    refine vl rfl rfl xas <| nl <| wp_seq <| wp_seq <| rg <| vl rfl rfl xmv <| vl rfl rfl xmv <| vl rfl rfl (xneq rfl rfl) <| vl rfl rfl xmv <| gv rfl rfl rfl rfl (gw0 rfl) rfl (fun hc => xmva rfl) <| gv rfl rfl rfl rfl (gw0 rfl) rfl (fun hc => xneq (mv hc rfl) rfl) <| gv rfl rfl rfl rfl (gw0 rfl) rfl (fun hc => xmva (mv hc rfl)) <| gv rfl rfl rfl rfl (gn1 rfl) rfl (fun hc => xmva rfl) <| gv rfl rfl rfl rfl (gn1 rfl) rfl (fun hc => xneq (mv hc rfl) rfl) <| gv rfl rfl rfl rfl (gw0 rfl) rfl (fun hc => xpa (mv hc rfl) (mvn hc rfl) rfl) <| vl rfl rfl (xpo rfl rfl rfl) <| nl <| cnd rfl (fun h7 => ?_) (fun h7 => ?_)
    ·
      have hF := ifp hF h7
      refine wp_seq <| rg <| vl rfl rfl xas <| nl <| ?_
      cases hF
      exact wp_ret <| rt rfl (.tmp rfl rfl .nil) ⟨rfl, k82⟩
    ·
      have hF := ifn hF h7
      refine wp_skip <| wp_seq <| wp_seq <| rg <| vl rfl rfl xmv <| vl rfl rfl (xneq rfl rfl) <| nl <| cnd rfl (fun h8 => ?_) (fun h8 => ?_)
      ·
        have hF := ifp hF h8
        refine wp_seq <| rg <| vl rfl rfl (xlda l7_j4 ti24 rfl (Bx.cs B23)) <| ?_
        have hz := bs hF; obtain ⟨x14, Ex14, hF⟩ := hz
        refine cl rfl rfl (xc cb37 (mc rfl mn)) (c37 (show RV (α := (Int × (List (Int × Int × Int)))) _ (.agg [.int .i64 z1.1, .slice a11 z1.2.length cq11].toArray) (z1.1, z1.2) from ⟨_, rfl, ⟨[.int .i64 z1.1], [.slice a11 z1.2.length cq11], rfl, rfl, O21.rv.rep1⟩⟩) Ex14) ?_
        rintro _ w40 ⟨rfl, hx22⟩
        have k86 := k82.tr hx22
        have k87 := k83.tr hx22
        have k88 := k84.tr hx22
        have k89 := k85.tr hx22
        have zs17 := Nat.le_trans zs16 hx22.size
        have B25 := B24.ext hx22
        have O23 := O22.ext hx22
        refine vl rfl rfl xmv <| gv rfl rfl rfl rfl (gw1 rfl) rfl (fun hc => xlda l8_j4 ti24 rfl (Bx.cs B25)) <| ?_
        have hz := bs hF; obtain ⟨x15, Ex15, hF⟩ := hz
        refine gc rfl rfl rfl rfl (gw1 rfl) rfl (fun hc => xc cb37 (mc (mv hc rfl) mn)) (fun hc => (c37 (show RV (α := (Int × (List (Int × Int × Int)))) _ (.agg [.int .i64 z2.1, .slice a12 z2.2.length cq12].toArray) (z2.1, z2.2) from ⟨_, rfl, ⟨[.int .i64 z2.1], [.slice a12 z2.2.length cq12], rfl, rfl, O23.rv.rep1⟩⟩) (gdp Ex15 hc))) (fun v17 w41 hy2 hn2 => ?_)
        have hx23 : Ext w40 w41 := gx (fun h => (hy2 h).2) (fun h => (hn2 h).2 ▸ Ext.refl _)
        have e4 := mkw (fun h => (hy2 h).1) (fun h => (hn2 h).1)
        have k90 := k86.tr hx23
        have k91 := k87.tr hx23
        have k92 := k88.tr hx23
        have k93 := k89.tr hx23
        have zs18 := Nat.le_trans zs17 hx23.size
        refine vl rfl rfl (xpa rfl e4 rfl) <| vl rfl rfl xmv <| ?_
        have hz := bs hF; obtain ⟨x16, Ex16, hF⟩ := hz
        refine gc rfl rfl rfl rfl (gw1 rfl) rfl (fun hc => xc cb15 mn) (fun hc => (c15 (gdp Ex16 hc))) (fun v18 w42 hy3 hn3 => ?_)
        have hx24 : Ext w41 w42 := gx (fun h => (hy3 h).2) (fun h => (hn3 h).2 ▸ Ext.refl _)
        have e5 := mkw (fun h => (hy3 h).1) (fun h => (hn3 h).1)
        have k94 := k90.tr hx24
        have k95 := k91.tr hx24
        have k96 := k92.tr hx24
        have k97 := k93.tr hx24
        have zs19 := Nat.le_trans zs18 hx24.size
        refine vl rfl rfl (xpa rfl e5 rfl) <| vl rfl rfl xas <| nl <| ?_
        cases hF
        exact wp_ret <| rt rfl (.tmp rfl rfl .nil) ⟨rfl, k94⟩
      ·
        have hF := ifn hF h8
        refine wp_skip <| wp_seq <| wp_seq <| rg <| vl rfl rfl (xlda l7_j4 ti24 rfl (Bx.cs B23)) <| ?_
        have hz := bs hF; obtain ⟨x17, Ex17, hF⟩ := hz
        refine cl rfl rfl (xc cb37 (mc rfl mn)) (c37 (show RV (α := (Int × (List (Int × Int × Int)))) _ (.agg [.int .i64 z1.1, .slice a11 z1.2.length cq11].toArray) (z1.1, z1.2) from ⟨_, rfl, ⟨[.int .i64 z1.1], [.slice a11 z1.2.length cq11], rfl, rfl, O21.rv.rep1⟩⟩) Ex17) ?_
        rintro _ w43 ⟨rfl, hx25⟩
        have k98 := k82.tr hx25
        have k99 := k83.tr hx25
        have k100 := k84.tr hx25
        have k101 := k85.tr hx25
        have zs20 := Nat.le_trans zs16 hx25.size
        have B26 := B23.ext hx25
        have O24 := O21.ext hx25
        have B27 := B24.ext hx25
        have O25 := O22.ext hx25
        have hb87 := hb85.ext hx25
        have hb88 := hb86.ext hx25
        have r83 := r82.ext hx25
        refine nl <| cnd rfl (fun h9 => ?_) (fun h9 => ?_)
        ·
          have hF := ifp hF h9
          refine wp_seq <| rg <| vl rfl rfl xas <| nl <| ?_
          cases hF
          exact wp_ret <| rt rfl (.tmp rfl rfl .nil) ⟨rfl, k98⟩
        ·
          have hF := ifn hF h9
          refine wp_skip <| wp_seq <| rg <| vl rfl rfl (xlda l7_j4 ti24 rfl (Bx.cs B26)) <| vl rfl rfl xmv <| ?_
          have hz := bs hF; obtain ⟨x18, Ex18, hF⟩ := hz
          refine cl rfl rfl (xc cb35 (mc rfl (mc l1_j4 mn))) (c35 (show RV (α := (Int × (List (Int × Int × Int)))) _ (.agg [.int .i64 z1.1, .slice a11 z1.2.length cq11].toArray) (z1.1, z1.2) from ⟨_, rfl, ⟨[.int .i64 z1.1], [.slice a11 z1.2.length cq11], rfl, rfl, O24.rv.rep1⟩⟩) r83 Ex18) ?_
          rintro _ w44 ⟨u4, rfl, r84, hx26⟩
          have k102 := k98.tr hx26
          have k103 := k99.tr hx26
          have k104 := k100.tr hx26
          have k105 := k101.tr hx26
          have zs21 := Nat.le_trans zs20 hx26.size
          have B28 := B26.ext hx26
          have O26 := O24.ext hx26
          have B29 := B27.ext hx26
          have O27 := O25.ext hx26
          have hb89 := hb87.ext hx26
          have hb90 := hb88.ext hx26
          have hz := RV.sl r84; obtain ⟨a13, cq13, rfl, -, -, -⟩ := hz
          refine vl rfl rfl xas <| nl <| wp_seq <| rg <| vl rfl rfl xas <| nl <| wp_seq <| wp_seq <| rg <| vl rfl rfl xas <| nl <| ?_
          have o14 : Row (α := Int) 2 w44.heap.size w44 (.slice none 0 0) [] := Row.nil
          have hz := bs hF; obtain ⟨z3, hB11, hF⟩ := hz
          refine ct (fun L w => ∃ v20 : Value, L 17 = v20 ∧ Row 2 w44.heap.size w v20 z3 ∧ L 7 = .pointer (some ⟨b11, 0, none⟩) ∧ L 8 = .pointer (some ⟨b12, 0, none⟩) ∧ L 12 = .pointer (some ⟨b17, 0, none⟩) ∧ L 14 = .pointer (some ⟨b18, 0, none⟩) ∧ L 16 = .slice a13 x18.length cq13 ∧ w19.heap.size ≤ w.heap.size ∧ Ext w44 w) ?_ ?_
          ·
            refine wp_block <| lp (I := fun m L w => ∃ y8 : (List Int), ∃ y9 : Int, ∃ v19 : Value, law01_SpeedMirrored_l2 F x18 m y8 y9  = some z3 ∧ L 17 = v19 ∧ Row 2 w44.heap.size w v19 y8 ∧ L 18 = .int .i64 y9 ∧ L 7 = .pointer (some ⟨b11, 0, none⟩) ∧ L 8 = .pointer (some ⟨b12, 0, none⟩) ∧ L 12 = .pointer (some ⟨b17, 0, none⟩) ∧ L 14 = .pointer (some ⟨b18, 0, none⟩) ∧ L 16 = .slice a13 x18.length cq13 ∧ w19.heap.size ≤ w.heap.size ∧ Ext w44 w) F ⟨_, _, _, hB11, rfl, o14, rfl, l7_j4, l8_j4, rfl, rfl, rfl, zs21, (Ext.refl _)⟩ ?_
            rintro m L w45 ⟨y8, y9, v19, hB11, l17_i4, O17_i4, l18_i4, l7_i4, l8_i4, l12_i4, l14_i4, l16_i4, Z0_i4, K0_i4⟩
            rcases m with _ | m
            · rw [law01_SpeedMirrored_l2] at hB11; cases hB11
            rw [law01_SpeedMirrored_l2] at hB11
            have k106 := k102.tr K0_i4
            have k107 := k103.tr K0_i4
            have k108 := k104.tr K0_i4
            have k109 := k105.tr K0_i4
            have O28 := O26.ext K0_i4
            have B30 := B28.ext K0_i4
            have O29 := O27.ext K0_i4
            have B31 := B29.ext K0_i4
            have hb91 := hb89.ext K0_i4
            have hb92 := hb90.ext K0_i4
            have r85 := r84.ext K0_i4
            have hz := RV.sl O17_i4.rv; obtain ⟨a14, cq14, rfl, -, -, -⟩ := hz
            refine wp_seq <| wp_seq <| rg <| vl rfl rfl xmv <| vl rfl rfl xmv <| vl rfl rfl (xlen l16_i4 Try.underlying32) <| vl rfl rfl (xlss l18_i4 rfl) <| nl <| cnd rfl (fun h10 => ?_) (fun h10 => ?_)
            ·
              have hB11 := ifp hB11 h10
              refine wp_skip <| wp_seq <| wp_block <| rg <| vl rfl rfl xmv <| vl rfl rfl xmv <| vl rfl rfl xmv <| ?_
              have hz := bs hB11; obtain ⟨x19, Ex19, hB11⟩ := hz
              have hz := (RV.els r84).ix Ex19; obtain ⟨b19, f2, cs5, e6, i5, i6, q6, hc3⟩ := hz
              cases e6
              obtain rfl := q6
              have hc4 := hc3.ext K0_i4
              refine vl rfl rfl (xixs l16_i4 l18_i4 Try.underlying32 ti2 i5 i6) <| vl rfl rfl (xld rfl ti2 (hc4.at 0 rfl)) <| vl rfl rfl (xsub rfl rfl) <| sbsv (cs := [.int .i64 (w64 (100000 - x19))]) Try.underlying32 ti2 rfl (pc rfl pn) rfl rfl rfl rfl rfl fun b20 w46 hx27 hg15 hb93 => ?_
              have k110 := k106.tr hx27
              have k111 := k107.tr hx27
              have k112 := k108.tr hx27
              have k113 := k109.tr hx27
              have k114 := K0_i4.tr hx27
              have zs22 := Nat.le_trans Z0_i4 hx27.size
              have B32 := B30.ext hx27
              have O30 := O28.ext hx27
              have B33 := B31.ext hx27
              have O31 := O29.ext hx27
              have hb94 := hb91.ext hx27
              have hb95 := hb92.ext hx27
              have r86 := r85.ext hx27
              have O32 := O17_i4.ext hx27
              have o16 : Row (α := Int) 2 w45.heap.size w46 (.slice (some ⟨b20, 0, none⟩) 1 1) [w64 (100000 - x19)] := Row.lit hg15 hb93 rfl (ble rfl)
              have hz := bs hB11; obtain ⟨x20, Ex20, hB11⟩ := hz
              refine sapx (l := y8) (k := ([w64 (100000 - x19)] : List Int)) l17_i4 rfl Try.underlying32 ti2 rfl rfl O32 (RV.els o16.rv) Ex20 k114.size fun v21 w47 o17 hB13 hgr3 how3 => ?_
              have k115 := Ext.grow k110 k102.size hB13
              have k116 := Ext.grow k111 k103.size hB13
              have k117 := Ext.grow k112 k104.size hB13
              have k118 := Ext.grow k113 k105.size hB13
              have k119 : Ext w44 w47 := k114.trans hB13
              have X3 := Apart.app how3 (Apart.symm (Apart.old' O26.own_lt (fun q e => (O32.lt q e).1))) O30.own_lt
              have X4 := Apart.app how3 (Apart.symm (Apart.old' O27.own_lt (fun q e => (O32.lt q e).1))) O31.own_lt
              have zs23 := Nat.le_trans zs22 hgr3.size
              have B34 := B28.ext k119
              have O33 := O26.ext k119
              have B35 := B29.ext k119
              have O34 := O27.ext k119
              have hb96 := hb89.ext k119
              have hb97 := hb90.ext k119
              have r88 := r84.ext k119
              have hz := RV.sl o17.rv; obtain ⟨a15, cq15, rfl, -, -, -⟩ := hz
              refine vl rfl rfl xas <| nl <| rg <| vl rfl rfl xmv <| vl rfl rfl (xadd l18_i4 rfl) <| vl rfl rfl xas <| nl <| ?_
              refine lq m (Nat.lt_succ_self _) <| ?_
              exact ⟨_, _, _, hB11, rfl, o17, rfl, l7_i4, l8_i4, l12_i4, l14_i4, l16_i4, zs23, k119⟩
            ·
              have hB11 := ifn hB11 h10
              refine wp_exit <| ?_
              cases hB11
              refine lf <| ?_
              exact ⟨_, l17_i4, O17_i4, l7_i4, l8_i4, l12_i4, l14_i4, l16_i4, Z0_i4, K0_i4⟩
          rintro L w48 ⟨v20, l17_j5, O17_j5, l7_j5, l8_j5, l12_j5, l14_j5, l16_j5, Z0_j5, K0_j5⟩
          have k120 := k102.tr K0_j5
          have k121 := k103.tr K0_j5
          have k122 := k104.tr K0_j5
          have k123 := k105.tr K0_j5
          have O35 := O26.ext K0_j5
          have B36 := B28.ext K0_j5
          have O36 := O27.ext K0_j5
          have B37 := B29.ext K0_j5
          have hb98 := hb89.ext K0_j5
          have hb99 := hb90.ext K0_j5
          have r89 := r84.ext K0_j5
          have hz := RV.sl O17_j5.rv; obtain ⟨a16, cq16, rfl, -, -, -⟩ := hz
          refine wp_seq <| wpl [] (.pure false 0 (.pure true 1 (.pure false 2 (.pure true 3 (.pure true 4 (.pure false 5 (.pure true 6 (.eff 7 (.pure true 8 (.pure true 9 (.pure false 10 (.pure true 11 (.eff 12 (.pure true 13 (.pure true 14 (.pure true 15 (.pure false 16 (.pure true 17 (.eff 18 (.pure true 19 (.pure true 20 (.pure true 21 (.eff 22 (.pure true 23 (.pure true 24 .fin)) .stop)))) .stop)))))) .stop))))) .stop)))))))) mixed (by kernel_rfl) (fun w49 hx28 => ?_)
          have k124 := k120.tr hx28
          have k125 := k121.tr hx28
          have k126 := k122.tr hx28
          have k127 := k123.tr hx28
          have k128 := K0_j5.tr hx28
          have zs24 := Nat.le_trans Z0_j5 hx28.size
          have B38 := B36.ext hx28
          have O37 := O35.ext hx28
          have B39 := B37.ext hx28
          have O38 := O36.ext hx28
          have hb100 := hb98.ext hx28
          have hb101 := hb99.ext hx28
          have r90 := r89.ext hx28
          have O39 := O17_j5.ext hx28
          refine pv rfl rfl rfl (fun _ hS => xlda l14_j5 ti28 rfl (Bx.cs (hb101.ext (hS.resolve_left nofun)))) (.inr (Ext.refl _)) <| pv rfl rfl rfl (fun _ _ => xfa l12_j5 fa28_1) (.inl rfl) <| pv rfl rfl rfl (fun _ hS => xld rfl ti2 ((Bx.cs (hb100.ext (hS.resolve_left nofun))).at 1 rfl)) (.inr (Ext.refl _)) <| pv rfl rfl rfl (fun _ _ => xsub rfl rfl) (.inl rfl) <| pv rfl rfl rfl (fun _ _ => xfa l12_j5 fa28_0) (.inl rfl) <| pv rfl rfl rfl (fun _ hS => xld rfl ti2 ((Bx.cs (hb100.ext (hS.resolve_left nofun))).at 0 rfl)) (.inr (Ext.refl _)) <| pv rfl rfl rfl (fun _ _ => xsub rfl rfl) (.inl rfl) <| ?_
          have hz := bs hF; obtain ⟨x21, Ex21, hF⟩ := hz
          refine pe1 rfl <| cl rfl rfl (xc cb34 (mc rfl (mc rfl mn))) (c34 Ex21) ?_
          rintro _ w50 ⟨u5, rfl, r91, hx29⟩
          have k129 := k124.tr hx29
          have k130 := k125.tr hx29
          have k131 := k126.tr hx29
          have k132 := k127.tr hx29
          have k133 := k128.tr hx29
          have zs25 := Nat.le_trans zs24 hx29.size
          have B40 := B38.ext hx29
          have O40 := O37.ext hx29
          have B41 := B39.ext hx29
          have O41 := O38.ext hx29
          have r92 := r90.ext hx29
          have O42 := O39.ext hx29
          have hz := id r91; obtain ⟨_, rfl, ⟨_, _, rfl, rfl, rfl⟩⟩ := hz
          refine nl ⟨fun _ _ => hx29, ?_⟩
          refine pv rfl rfl rfl (fun _ _ => xage (α := (Int × Int)) (a := (x13.1.1, x13.1.2)) (b := x21) rfl eg28 eq28 rfl rfl rfl rfl rfl) (.inl rfl) <| pv rfl rfl rfl (fun _ _ => xmv) (.inl rfl) <| pgv rfl rfl rfl rfl rfl (gw1 rfl) rfl (fun hc => (fun _ hS => xlda l7_j5 ti24 rfl (Bx.cs (B38.ext (hS.resolve_left nofun))))) (.inr hx29) <| pgv rfl rfl rfl rfl rfl (gw1 rfl) rfl (fun hc => (fun _ _ => xmva l16_j5)) (.inl rfl) <| ?_
          have hz := bs hF; obtain ⟨x22, Ex22, hF⟩ := hz
          refine pe1 rfl <| gc rfl rfl rfl rfl (gw1 rfl) rfl (fun hc => xc cb33 (mc (mv hc rfl) (mc (mv hc rfl) mn))) (fun hc => (c33 (show RV (α := (Int × (List (Int × Int × Int)))) _ (.agg [.int .i64 z1.1, .slice a11 z1.2.length cq11].toArray) (z1.1, z1.2) from ⟨_, rfl, ⟨[.int .i64 z1.1], [.slice a11 z1.2.length cq11], rfl, rfl, O40.rv.rep1⟩⟩) r92 (gdp Ex22 hc))) (fun v22 w51 hy4 hn4 => ?_)
          have hx30 : Ext w50 w51 := gx (fun h => (hy4 h).2) (fun h => (hn4 h).2 ▸ Ext.refl _)
          have e7 := mkw (fun h => (hy4 h).1) (fun h => (hn4 h).1)
          have k134 := k129.tr hx30
          have k135 := k130.tr hx30
          have k136 := k131.tr hx30
          have k137 := k132.tr hx30
          have k138 := k133.tr hx30
          have k139 := hx29.tr hx30
          have zs26 := Nat.le_trans zs25 hx30.size
          have B42 := B41.ext hx30
          have O43 := O41.ext hx30
          have O44 := O42.ext hx30
          refine nl ⟨fun _ _ => k139, ?_⟩
          refine pgv rfl rfl rfl rfl rfl (gw1 rfl) rfl (fun hc => (fun _ _ => xeql (mv hc e7) rfl)) (.inl rfl) <| pv rfl rfl rfl (fun _ _ => xpa rfl rfl rfl) (.inl rfl) <| pv rfl rfl rfl (fun _ _ => xmv) (.inl rfl) <| pgv rfl rfl rfl rfl rfl (gw1 rfl) rfl (fun hc => (fun _ hS => xlda l8_j5 ti24 rfl (Bx.cs (B39.ext (hS.resolve_left nofun))))) (.inr k139) <| pgv rfl rfl rfl rfl rfl (gw1 rfl) rfl (fun hc => (fun _ _ => xmva l17_j5)) (.inl rfl) <| ?_
          have hz := bs hF; obtain ⟨x23, Ex23, hF⟩ := hz
          refine pe1 rfl <| gc rfl rfl rfl rfl (gw1 rfl) rfl (fun hc => xc cb33 (mc (mv hc rfl) (mc (mv hc rfl) mn))) (fun hc => (c33 (show RV (α := (Int × (List (Int × Int × Int)))) _ (.agg [.int .i64 z2.1, .slice a12 z2.2.length cq12].toArray) (z2.1, z2.2) from ⟨_, rfl, ⟨[.int .i64 z2.1], [.slice a12 z2.2.length cq12], rfl, rfl, O43.rv.rep1⟩⟩) O44.rv (gdp Ex23 hc))) (fun v23 w52 hy5 hn5 => ?_)
          have hx31 : Ext w51 w52 := gx (fun h => (hy5 h).2) (fun h => (hn5 h).2 ▸ Ext.refl _)
          have e8 := mkw (fun h => (hy5 h).1) (fun h => (hn5 h).1)
          have k140 := k134.tr hx31
          have k141 := k135.tr hx31
          have k142 := k136.tr hx31
          have k143 := k137.tr hx31
          have k144 := k138.tr hx31
          have k145 := k139.tr hx31
          have zs27 := Nat.le_trans zs26 hx31.size
          refine nl ⟨fun _ _ => k145, ?_⟩
          refine pgv rfl rfl rfl rfl rfl (gw1 rfl) rfl (fun hc => (fun _ _ => xeql (mv hc e8) rfl)) (.inl rfl) <| pv rfl rfl rfl (fun _ _ => xpa rfl rfl rfl) (.inl rfl) <| pv rfl rfl rfl (fun _ _ => xmv) (.inl rfl) <| ?_
          have hz := bs hF; obtain ⟨x24, Ex24, hF⟩ := hz
          refine pe1 rfl <| gc rfl rfl rfl rfl (gw1 rfl) rfl (fun hc => xc cb15 mn) (fun hc => (c15 (gdp Ex24 hc))) (fun v24 w53 hy6 hn6 => ?_)
          have hx32 : Ext w52 w53 := gx (fun h => (hy6 h).2) (fun h => (hn6 h).2 ▸ Ext.refl _)
          have e9 := mkw (fun h => (hy6 h).1) (fun h => (hn6 h).1)
          have k146 := k140.tr hx32
          have k147 := k141.tr hx32
          have k148 := k142.tr hx32
          have k149 := k143.tr hx32
          have k150 := k144.tr hx32
          have k151 := k145.tr hx32
          have zs28 := Nat.le_trans zs27 hx32.size
          refine nl ⟨fun _ _ => k151, ?_⟩
          refine pv rfl rfl rfl (fun _ _ => xpa rfl e9 rfl) (.inl rfl) <| pv rfl rfl rfl (fun _ _ => xas) (.inl rfl) <| ?_
          cases hF
          exact wp_ret <| rt rfl (.tmp rfl rfl .nil) ⟨rfl, k146⟩
end Go.Proofs.Ythppacohnciinaa
