/-
  Each function of the program returns what its pure function computes, and leaves all memory that was there as it was. Condition: the pure function computes something.
-/
import Derived.Test.YtdimoehnkagghaaFacts
import Derived.Test.YtdimoehnkagghaaPureD
import Derived.Test.YtdimoehnkagghaaWalkC
namespace Go.Proofs.Ytdimoehnkagghaa
open Go Go.Md Go.RowKit
attribute [local irreducible] Go.wpList Go.Code.wp Go.Calls Go.Md.Rnd Go.Md.Mt Go.Md.MtM Go.Md.RndM Go.Code.wpIn

set_option maxHeartbeats 4000000 in
theorem c45 {w0 : World} {b0 : Nat} {cs0 : List Value} {x0 : ((Int × (List Int) × (List ((List Int) × Int)) × (List ((List Int) × Int)) × (List (List Int))) × Int × (List ((Bool × Int) × Int × Int)) × (List Int))} (h0 : Cs w0 b0 0 cs0) (q0 : Enc.rep (fun _ => True) w0 cs0 x0) {x1 : Int} {x2 : Int} {F : Nat} {r : (List (Bool × Int))} (hF : right_treaty_chain F x0 x1 x2 = some r) :
    Calls Try.prog 45 [.pointer (some ⟨b0, 0, none⟩), .int .i64 x1, .int .i64 x2].toArray w0 (Ret fun v w' => ∃ u0 : Value, v = u0 ∧ RV w' u0 r ∧ Ext w0 w') := by
  unfold right_treaty_chain at hF
  obtain ⟨_, _, rfl, ⟨_, _, rfl, rfl, ⟨_, _, rfl, ⟨a1, c1, rfl, p1, q4, e1⟩, ⟨_, _, rfl, ⟨a2, c2, rfl, p2, q5, e2⟩, ⟨_, _, rfl, ⟨a3, c3, rfl, p3, q6, e3⟩, ⟨a4, c4, rfl, p4, q7, e4⟩⟩⟩⟩⟩, ⟨_, _, rfl, rfl, ⟨_, _, rfl, ⟨a5, c5, rfl, p5, q8, e5⟩, ⟨a6, c6, rfl, p6, q9, e6⟩⟩⟩⟩ := q0
  have r4 := RV.of1 p1 q4 e1
  have r5 := RV.of1 p2 q5 e2
  have r6 := RV.of1 p3 q6 e3
  have r7 := RV.of1 p4 q7 e4
  have r8 := RV.of1 p5 q8 e5
  have r9 := RV.of1 p6 q9 e6
  have M1 : Mks w0.heap.size [] w0 := Mks.nil
  refine entrM (m := 12) (n := 121) Try.func45 rfl rfl rfl <| wp_seq <| rg <| vl rfl rfl xas <| nl <| wp_scope_straight <| wp_seq <| rg <| smmk (κ := Int) (ν := ((Bool × Int) × Int × Int)) fun b4 w1 hx1 hg1 hm1 => ?_
  have M2 := M1.ext hx1
  have r10 := r4.ext hx1
  have r11 := r5.ext hx1
  have r12 := r6.ext hx1
  have r13 := r7.ext hx1
  have r14 := r8.ext hx1
  have r15 := r9.ext hx1
  have h4 := h0.ext hx1
  refine sal ti95 fun b5 w2 hx2 hg2 hb1 => ?_
  have k1 := hx1.tr hx2
  have M3 := M2.ext hx2
  have hm2 := hm1.ext hx2
  have r16 := r10.ext hx2
  have r17 := r11.ext hx2
  have r18 := r12.ext hx2
  have r19 := r13.ext hx2
  have r20 := r14.ext hx2
  have r21 := r15.ext hx2
  have h5 := h4.ext hx2
  refine sst rfl rfl rfl ti95 hb1 rfl rfl (ble rfl) fun w3 hch1 hb2 => ?_
  have k2 := Ext.chg k1 hch1 (Nat.le_trans hx1.size hg2)
  have k3 := Ext.chg hx2 hch1 (Nat.le_trans (Nat.le_refl _) hg2)
  have M4 := M3.chg hch1 hb1.nd
  have hm3 := hm1.ext k3
  have r22 := r10.ext k3
  have r23 := r11.ext k3
  have r24 := r12.ext k3
  have r25 := r13.ext k3
  have r26 := r14.ext k3
  have r27 := r15.ext k3
  have h6 := h4.ext k3
  have hb3 : Bx w3 b5 95 [.map (some b4)] := hb2
  refine nl <| wp_seq <| rg <| sal ti22 fun b6 w4 hx3 hg3 hb4 => ?_
  have k4 := k2.tr hx3
  have k5 := k3.tr hx3
  have M5 := M4.ext hx3
  have hm4 := hm3.ext hx3
  have hb5 := hb3.ext hx3
  have r28 := r22.ext hx3
  have r29 := r23.ext hx3
  have r30 := r24.ext hx3
  have r31 := r25.ext hx3
  have r32 := r26.ext hx3
  have r33 := r27.ext hx3
  have h7 := h6.ext hx3
  refine nl <| wp_seq <| rg <| vl rfl rfl xmv <| vl rfl rfl (xnil rfl) <| vl rfl rfl (xfa rfl fa74_1) <| vl rfl rfl (xld rfl ti3 (h7.at 5 rfl)) <| vl rfl rfl xas <| nl <| wp_seq <| rg <| vl rfl rfl xmv <| vl rfl rfl (xnil rfl) <| vl rfl rfl (xfa rfl fa74_3) <| vl rfl rfl (xld rfl ti22 (h7.at 7 rfl)) <| vl rfl rfl xmv <| ?_
  have hz := bs hF; obtain ⟨x4, Ex4, hF⟩ := hz
  have hz := (RV.els r9).ix Ex4; obtain ⟨b7, f1, cs4, e7, i1, i2, q10, hc1⟩ := hz
  cases e7
  obtain rfl := q10
  have hc2 := hc1.ext k4
  refine vl rfl rfl (xixs rfl rfl Try.underlying22 ti3 i1 i2) <| vl rfl rfl (xld rfl ti3 (hc2.at 0 rfl)) <| vl rfl rfl xas <| nl <| wp_seq <| wp_label <| wp_seq <| ?_
  have hz := bs hF; obtain ⟨⟨z1, z2⟩, hB1, hF⟩ := hz
  refine ctM w0.heap.size (fun L w => ∃ v5 : Value, Bx w b5 95 [.map (some b4)] ∧ Bx w b6 22 [v5] ∧ Row 3 w4.heap.size w v5 z1 ∧ some b6 ≠ Value.ownBlock v5 ∧ Mp w b4 z2 ∧ L 7 = .pointer (some ⟨b5, 0, none⟩) ∧ L 8 = .pointer (some ⟨b6, 0, none⟩) ∧ L 10 = .int .i64 x4 ∧ w4.heap.size ≤ w.heap.size ∧ Ext w0 w) ?_ ?_
  ·
    refine wp_block <| lpM w0.heap.size (I := fun m L w => ∃ y1 : Int, ∃ y2 : (List Int), ∃ y3 : (List (Int × ((Bool × Int) × Int × Int))), ∃ v4 : Value, right_treaty_chain_l1 F x0 x1 x4 m y1 y2 y3  = some (z1, z2) ∧ L 9 = .int .i64 y1 ∧ Bx w b5 95 [.map (some b4)] ∧ Bx w b6 22 [v4] ∧ Row 3 w4.heap.size w v4 y2 ∧ some b6 ≠ Value.ownBlock v4 ∧ Mp w b4 y3 ∧ L 0 = .pointer (some ⟨b0, 0, none⟩) ∧ L 1 = .int .i64 x1 ∧ L 7 = .pointer (some ⟨b5, 0, none⟩) ∧ L 8 = .pointer (some ⟨b6, 0, none⟩) ∧ L 10 = .int .i64 x4 ∧ w4.heap.size ≤ w.heap.size ∧ Ext w0 w) F M5 ⟨_, _, _, _, hB1, rfl, hb5, hb4, Row.nil, (fun e => by cases e), hm4, rfl, rfl, rfl, rfl, rfl, (Nat.le_refl _), k4⟩ ?_
    rintro m L D1 w5 M6 ⟨y1, y2, y3, v4, hB1, l9_i3, B7_i3, B8_i3, O8c1_i3, N8c1_i3, Q9000_i3, l0_i3, l1_i3, l7_i3, l8_i3, l10_i3, Z0_i3, K0_i3⟩
    rcases m with _ | m
    · rw [right_treaty_chain_l1] at hB1; cases hB1
    rw [right_treaty_chain_l1] at hB1
    have r34 := r4.ext K0_i3
    have r35 := r5.ext K0_i3
    have r36 := r6.ext K0_i3
    have r37 := r7.ext K0_i3
    have r38 := r8.ext K0_i3
    have r39 := r9.ext K0_i3
    have h8 := h0.ext K0_i3
    have hz := RV.sl O8c1_i3.rv; obtain ⟨a7, c7, rfl, -, -, -⟩ := hz
    refine wp_block <| wp_seq <| wp_seq <| rg <| vl rfl rfl xmv <| vl rfl rfl xmv <| vl rfl rfl xmv <| ?_
    have q11 : RVo (· < w0.heap.size) w5 (.pointer (some ⟨b0, 0, none⟩)) (⟨some ((x0.1.1, x0.1.2.1, x0.1.2.2.1, x0.1.2.2.2.1, x0.1.2.2.2.2), x0.2.1, x0.2.2.1, x0.2.2.2)⟩ : Ob ((Int × (List Int) × (List ((List Int) × Int)) × (List ((List Int) × Int)) × (List (List Int))) × Int × (List ((Bool × Int) × Int × Int)) × (List Int))) := RVo.ext (RV.old (w := w0) (obNew h0 rfl ⟨[.int .i64 x0.1.1] ++ ([.slice a1 x0.1.2.1.length c1] ++ ([.slice a2 x0.1.2.2.1.length c2] ++ ([.slice a3 x0.1.2.2.2.1.length c3] ++ [.slice a4 x0.1.2.2.2.2.length c4]))), [.int .i64 x0.2.1] ++ ([.slice a5 x0.2.2.1.length c5] ++ [.slice (some ⟨b7, f1, none⟩) x0.2.2.2.length c6]), rfl, ⟨[.int .i64 x0.1.1], [.slice a1 x0.1.2.1.length c1] ++ ([.slice a2 x0.1.2.2.1.length c2] ++ ([.slice a3 x0.1.2.2.2.1.length c3] ++ [.slice a4 x0.1.2.2.2.2.length c4])), rfl, rfl, ⟨[.slice a1 x0.1.2.1.length c1], [.slice a2 x0.1.2.2.1.length c2] ++ ([.slice a3 x0.1.2.2.2.1.length c3] ++ [.slice a4 x0.1.2.2.2.2.length c4]), rfl, r4.rep1, ⟨[.slice a2 x0.1.2.2.1.length c2], [.slice a3 x0.1.2.2.2.1.length c3] ++ [.slice a4 x0.1.2.2.2.2.length c4], rfl, r5.rep1, ⟨[.slice a3 x0.1.2.2.2.1.length c3], [.slice a4 x0.1.2.2.2.2.length c4], rfl, r6.rep1, r7.rep1⟩⟩⟩⟩, ⟨[.int .i64 x0.2.1], [.slice a5 x0.2.2.1.length c5] ++ [.slice (some ⟨b7, f1, none⟩) x0.2.2.2.length c6], rfl, rfl, ⟨[.slice a5 x0.2.2.1.length c5], [.slice (some ⟨b7, f1, none⟩) x0.2.2.2.length c6], rfl, r8.rep1, r9.rep1⟩⟩⟩)) K0_i3
    have hz := bs hB1; obtain ⟨x5, Ex5, hB1⟩ := hz
    refine cl rfl rfl (xc cb71 (mc l0_i3 (mc l1_i3 (mc l9_i3 mn)))) (c71 (a := w0.heap.size) q11 (Below.size K0_i3) Ex5) ?_
    rintro v6 w6 ⟨sq1, hx4⟩
    have k6 := K0_i3.tr hx4
    have zs1 := Nat.le_trans Z0_i3 hx4.size
    have M7 := M6.ext hx4
    have Q1 := Q9000_i3.ext hx4
    have hb6 := B7_i3.ext hx4
    have B1 := B8_i3.ext hx4
    have O1 := O8c1_i3.ext hx4
    have r40 := r34.ext hx4
    have r41 := r35.ext hx4
    have r42 := r36.ext hx4
    have r43 := r37.ext hx4
    have r44 := r38.ext hx4
    have r45 := r39.ext hx4
    have h9 := h8.ext hx4
    refine nl <| wp_block <| ?_
    have hin2 : w0.heap.size ≤ b6 ∧ b6 < w5.heap.size := ⟨(Nat.le_trans k2.size hg3), B8_i3.lt⟩
    have hin3 : w0.heap.size ≤ b4 ∧ b4 < w5.heap.size := ⟨(Nat.le_trans (Nat.le_refl _) hg1), Q9000_i3.lt⟩
    have hz := bs hB1; obtain ⟨⟨z3, z4⟩, hB2, hB1⟩ := hz
    refine ctM w0.heap.size (fun L w => ∃ v8 : Value, Bx w b5 95 [.map (some b4)] ∧ Bx w b6 22 [v8] ∧ Row 3 w4.heap.size w v8 z3 ∧ some b6 ≠ Value.ownBlock v8 ∧ Mp w b4 z4 ∧ w4.heap.size ≤ w.heap.size ∧ Ext w0 w ∧ L 0 = .pointer (some ⟨b0, 0, none⟩) ∧ L 1 = .int .i64 x1 ∧ L 7 = .pointer (some ⟨b5, 0, none⟩) ∧ L 8 = .pointer (some ⟨b6, 0, none⟩) ∧ L 9 = .int .i64 y1 ∧ L 10 = .int .i64 x4) ?_ ?_
    ·
      refine rangeB (α := ((Bool × Int) × Int × Int)) (xs := x5) (m := 12) (by decide) rfl KpOk.beli (SeqV.go (by decide) sq1) rfl rfl rfl ti77 rfl (fun k w => ∃ y4 : (List Int), ∃ y5 : (List (Int × ((Bool × Int) × Int × Int))), ∃ v7 : Value, right_treaty_chain_l2 F (List.drop k x5) y4 y5 = some (z3, z4) ∧ Bx w b5 95 [.map (some b4)] ∧ Bx w b6 22 [v7] ∧ Row 3 w4.heap.size w v7 y4 ∧ some b6 ≠ Value.ownBlock v7 ∧ Mp w b4 y5 ∧ w4.heap.size ≤ w.heap.size ∧ Ext w0 w ∧ Out w5.heap.size w6.heap.size v7 ∧ Mks w0.heap.size D1 w ∧ w6.heap.size ≤ w.heap.size) (fun _ _ => False) (fun k => Okb.ex fun _ => Okb.ex fun _ => Okb.ex fun _ => (Okb.and Okb.pure (Okb.and Okb.bx (Okb.and Okb.bx (Okb.and Okb.row (Okb.and Okb.pure (Okb.and (Okb.mp Q1.lt) (Okb.and Okb.size (Okb.and (Okb.extw k6.size) (Okb.and Okb.pure (Okb.and (Okb.mks M7 rfl) Okb.size))))))))))) (fun _ => Okb.pure) ⟨_, _, _, hB2, hb6, B1, O1, N8c1_i3, Q1, zs1, k6, (Out.old O8c1_i3 (Nat.le_refl _)), M7, (Nat.le_refl _)⟩ ?round (fun k A h => by obtain ⟨_, _, _, _, _, _, _, _, _, _, _, _, _, _⟩ := h; assumption) ?done ?stop
      case round =>
        rintro _ k x6 w7 w8 b8 hx5 ⟨y4, y5, v7, hB2, B7_i4a, B8_i4a, O8c1_i4a, N8c1_i4, Q9000_i4a, Z0_i4a, K0_i4a, U1, M8a, sz1a⟩ ha1 hA1 hg4 hb7
        rw [drop_at hx5] at hB2
        rw [right_treaty_chain_l2] at hB2
        have B7_i4 := B7_i4a.asg ha1
        have B8_i4 := B8_i4a.asg ha1
        have O8c1_i4 := O8c1_i4a.asg ha1
        have Q9000_i4 := Q9000_i4a.asg ha1 Q1.lt
        have Z0_i4 := Nat.le_trans Z0_i4a ha1.size
        have K0_i4 := Below.asg K0_i4a ha1 k6.size
        have M8 := M8a.asg ha1
        have sz1 := Nat.le_trans sz1a ha1.size
        have r46 := r4.ext K0_i4
        have r47 := r5.ext K0_i4
        have r48 := r6.ext K0_i4
        have r49 := r7.ext K0_i4
        have r50 := r8.ext K0_i4
        have r51 := r9.ext K0_i4
        have h10 := h0.ext K0_i4
        have hz := RV.sl O8c1_i4.rv; obtain ⟨a8, c8, rfl, -, -, -⟩ := hz
        have kf1 : KeepsFrom w6.heap.size w8 w8 := KeepsFrom.refl _ _
        have bi1 : BelI w0.heap.size w5.heap.size w6.heap.size w8 w8 := BelI.refl
        have hz := bs hB2; obtain ⟨⟨y6, y7⟩, hB3, hB2⟩ := hz
        refine ctR (fun L w => ∃ v9 : Value, Bx w b5 95 [.map (some b4)] ∧ Bx w b6 22 [v9] ∧ Row 3 w4.heap.size w v9 y6 ∧ some b6 ≠ Value.ownBlock v9 ∧ Mp w b4 y7 ∧ L 0 = .pointer (some ⟨b0, 0, none⟩) ∧ L 1 = .int .i64 x1 ∧ L 7 = .pointer (some ⟨b5, 0, none⟩) ∧ L 8 = .pointer (some ⟨b6, 0, none⟩) ∧ L 10 = .int .i64 x4 ∧ w4.heap.size ≤ w.heap.size ∧ Ext w0 w ∧ KeepsFrom w6.heap.size w8 w ∧ BelI w0.heap.size w5.heap.size w6.heap.size w8 w ∧ Mks w0.heap.size D1 w ∧ Out w5.heap.size w6.heap.size (v9)) ?_ ?_
        ·
          refine wpIn_block <| wpIn_seq <| rgR rfl <| vl rfl rfl (xld l7_i3 ti95 ((Bx.cs B7_i4).at 0 rfl)) <| vl rfl rfl (xfa rfl fa77_2) <| vl rfl rfl (xld rfl ti3 ((Bx.cs hb7).at 3 rfl)) <| ?_
          have hz := bs hB3; obtain ⟨x7, Ex7, hB3⟩ := hz
          refine vl rfl rfl (xlku (k := x6.2.2) (d := ((false, 0), 0, 0)) Try.underlying95 kt3 (TI.zv ti77 rfl rfl _) Q9000_i4 (kok_spec Ex7) rfl rfl) <| vl rfl rfl (xbdv (r := [.bool false, .int .i64 0, .int .i64 0, .int .i64 0]) ti77 sp77 pn rfl) <| vl rfl rfl (xage (α := ((Bool × Int) × Int × Int)) (a := (mget ((false, 0), 0, 0) y5 x6.2.2)) (b := ((false, 0), 0, 0)) rfl eg77 eq77 rfl rfl rfl rfl rfl) <| nl <| ?_
          have hz := bs hB3; obtain ⟨⟨y8, y9⟩, hB4, hB3⟩ := hz
          refine ctR (fun L w => ∃ v10 : Value, Bx w b5 95 [.map (some b4)] ∧ Bx w b6 22 [v10] ∧ Row 3 w4.heap.size w v10 y8 ∧ some b6 ≠ Value.ownBlock v10 ∧ Mp w b4 y9 ∧ L 0 = .pointer (some ⟨b0, 0, none⟩) ∧ L 1 = .int .i64 x1 ∧ L 7 = .pointer (some ⟨b5, 0, none⟩) ∧ L 8 = .pointer (some ⟨b6, 0, none⟩) ∧ L 10 = .int .i64 x4 ∧ w4.heap.size ≤ w.heap.size ∧ Ext w0 w ∧ KeepsFrom w6.heap.size w8 w ∧ BelI w0.heap.size w5.heap.size w6.heap.size w8 w ∧ Mks w0.heap.size D1 w ∧ Out w5.heap.size w6.heap.size (v10)) ?_ ?_
          ·
            refine cndR rfl (fun h11 => ?_) (fun h11 => ?_)
            ·
              have hB4 := ifp hB4 h11
              refine wpIn_seq <| rgR rfl <| vl rfl rfl (xld l7_i3 ti95 ((Bx.cs B7_i4).at 0 rfl)) <| vl rfl rfl (xfa rfl fa77_2) <| vl rfl rfl (xld rfl ti3 ((Bx.cs hb7).at 3 rfl)) <| vl rfl rfl (xlda rfl ti77 rfl (Bx.cs hb7)) <| ?_
              have hz := bs hB4; obtain ⟨x8, Ex8, hB4⟩ := hz
              refine smup (k := x6.2.2) (v := ((x6.1.1, x6.1.2), x6.2.1, x6.2.2)) rfl rfl rfl Try.underlying95 kt3 Q9000_i4 (kok_spec Ex8) fun w9 hch2 hm5 => ?_
              have k7 := Ext.chg K0_i4 hch2 (Nat.le_trans (Nat.le_refl _) hg1)
              have zs2 := Nat.le_trans Z0_i4 (Nat.le_of_eq hch2.size.symm)
              have M9 := M8.chg hch2 Q9000_i4.nd
              have kf2 := kf1.chgc hch2 (.inl Q1.lt)
              have bi2 := bi1.chg hch2 (.inl hin3)
              have hb8 := Bx.chgm B7_i4 hch2 Q9000_i4
              have hb9 := Bx.chgm B8_i4 hch2 Q9000_i4
              have o3 := Row.chgm O8c1_i4 hch2 Q9000_i4
              have hb10 := Bx.chgm hb7 hch2 Q9000_i4
              have r52 := r4.ext k7
              have r53 := r5.ext k7
              have r54 := r6.ext k7
              have r55 := r7.ext k7
              have r56 := r8.ext k7
              have r57 := r9.ext k7
              have h12 := h0.ext k7
              refine nl <| rgR rfl <| vl rfl rfl (xld l8_i3 ti22 ((Bx.cs hb9).at 0 rfl)) <| vl rfl rfl (xfa rfl fa77_2) <| vl rfl rfl (xld rfl ti3 ((Bx.cs hb10).at 3 rfl)) <| sbsv (cs := [.int .i64 x6.2.2]) Try.underlying22 ti3 rfl (pc rfl pn) rfl rfl rfl rfl rfl fun b9 w10 hx6 hg5 hb11 => ?_
              have k8 := k7.tr hx6
              have zs3 := Nat.le_trans zs2 hx6.size
              have M10 := M9.ext hx6
              have kf3 := kf2.ext hx6
              have bi3 := bi2.ext hx6 sz1
              have hm6 := hm5.ext hx6
              have hb12 := hb8.ext hx6
              have B2 := hb9.ext hx6
              have O2 := o3.ext hx6
              have r58 := r52.ext hx6
              have r59 := r53.ext hx6
              have r60 := r54.ext hx6
              have r61 := r55.ext hx6
              have r62 := r56.ext hx6
              have r63 := r57.ext hx6
              have h13 := h12.ext hx6
              have o4 : Row (α := Int) 3 w9.heap.size w10 (.slice (some ⟨b9, 0, none⟩) 1 1) [x6.2.2] := Row.lit hg5 hb11 rfl (ble rfl)
              have hz := bs hB4; obtain ⟨x9, Ex9, hB4⟩ := hz
              refine sapx (l := y4) (k := ([x6.2.2] : List Int)) rfl rfl Try.underlying22 ti3 rfl rfl O2 (RV.els o4.rv) Ex9 zs3 fun v11 w11 o5 hB6 hgr1 how1 => ?_
              have k9 := Ext.grow k8 k4.size hB6
              have U2 := Out.app U1 how1 (Nat.le_trans sz1 kf3.size)
              have zs4 := Nat.le_trans zs3 hgr1.size
              have M11 := M10.gr hgr1 (Row.nd O2)
              have kf4 := kf3.grc hgr1 (fun q e => Row.cells O2 e)
              have bi4 := bi3.gr hgr1 sz1 (Out.bi U1 O2 k4.size)
              have hm7 := Mp.grr hm6 hgr1 O2
              have ne1 := ne_app how1 (O2.ne_old (Nat.lt_of_lt_of_le hb3.lt hx3.size)) hb12.lt
              have hb13 := Bx.gr hb12 hgr1 (O2.ne_old (Nat.lt_of_lt_of_le hb3.lt hx3.size))
              have ne2 := ne_app how1 N8c1_i4 B2.lt
              have hb14 := Bx.gr B2 hgr1 N8c1_i4
              have r65 := r4.ext k9
              have r66 := r5.ext k9
              have r67 := r6.ext k9
              have r68 := r7.ext k9
              have r69 := r8.ext k9
              have r70 := r9.ext k9
              have h14 := h0.ext k9
              have hz := RV.sl o5.rv; obtain ⟨a9, c9, rfl, -, -, -⟩ := hz
              refine sst l8_i3 rfl rfl ti22 hb14 rfl rfl (ble rfl) fun w12 hch3 hb15 => ?_
              have k10 := Ext.chg k9 hch3 (Nat.le_trans (Nat.le_refl _) (Nat.le_trans k2.size hg3))
              have zs5 := Nat.le_trans zs4 (Nat.le_of_eq hch3.size.symm)
              have M12 := M11.chg hch3 hb14.nd
              have kf5 := kf4.chgc hch3 (.inr hb14.isc)
              have bi5 := bi4.chg hch3 (.inl hin2)
              have hm8 := Mp.chgb hm7 hch3 hb14
              have hb16 := Bx.chg hb13 hch3 (Nat.ne_of_lt (Nat.lt_of_lt_of_le hb3.lt hg3))
              have r71 := r4.ext k10
              have r72 := r5.ext k10
              have r73 := r6.ext k10
              have r74 := r7.ext k10
              have r75 := r8.ext k10
              have r76 := r9.ext k10
              have h15 := h0.ext k10
              have o6 := Row.chgn o5 hch3 ne2
              have hb17 : Bx w12 b6 22 [.slice a9 x9.length c9] := hb15
              refine nl <| ?_
              cases hB4
              refine lf <| ?_
              exact ⟨_, hb16, hb17, o6, ne2, hm8, l0_i3, l1_i3, l7_i3, l8_i3, l10_i3, zs5, k10, kf5, bi5, M12, U2⟩
            ·
              have hB4 := ifn hB4 h11
              refine wpIn_skip <| ?_
              cases hB4
              refine lf <| ?_
              exact ⟨_, B7_i4, B8_i4, O8c1_i4, N8c1_i4, Q9000_i4, l0_i3, l1_i3, l7_i3, l8_i3, l10_i3, Z0_i4, K0_i4, kf1, bi1, M8, U1⟩
          rintro L w13 ⟨v10, B7_j1, B8_j1, O8c1_j1, N8c1_j1, Q9000_j1, l0_j1, l1_j1, l7_j1, l8_j1, l10_j1, Z0_j1, K0_j1, kf6, bi6, M13, U3⟩
          have r77 := r4.ext K0_j1
          have r78 := r5.ext K0_j1
          have r79 := r6.ext K0_j1
          have r80 := r7.ext K0_j1
          have r81 := r8.ext K0_j1
          have r82 := r9.ext K0_j1
          have h16 := h0.ext K0_j1
          have hz := RV.sl O8c1_j1.rv; obtain ⟨a10, c10, rfl, -, -, -⟩ := hz
          cases hB3
          refine lf <| ?_
          exact ⟨_, B7_j1, B8_j1, O8c1_j1, N8c1_j1, Q9000_j1, l0_j1, l1_j1, l7_j1, l8_j1, l10_j1, Z0_j1, K0_j1, kf6, bi6, M13, U3⟩
        rintro L w14 ⟨v9, B7_j2, B8_j2, O8c1_j2, N8c1_j2, Q9000_j2, l0_j2, l1_j2, l7_j2, l8_j2, l10_j2, Z0_j2, K0_j2, kf7, bi7, M14, U4⟩
        have r83 := r4.ext K0_j2
        have r84 := r5.ext K0_j2
        have r85 := r6.ext K0_j2
        have r86 := r7.ext K0_j2
        have r87 := r8.ext K0_j2
        have r88 := r9.ext K0_j2
        have h17 := h0.ext K0_j2
        have hz := RV.sl O8c1_j2.rv; obtain ⟨a11, c11, rfl, -, -, -⟩ := hz
        exact ⟨kf7, bi7, ⟨_, _, _, hB2, B7_j2, B8_j2, O8c1_j2, N8c1_j2, Q9000_j2, Z0_j2, K0_j2, U4, M14, (Nat.le_trans sz1 kf7.size)⟩⟩
      case done =>
        rintro D2 w15 hD1 ⟨y4, y5, v7, hB2, B7_j3, B8_j3, O8c1_j3, N8c1_j3, Q9000_j3, Z0_j3, K0_j3, _, M8, _⟩ hk1
        rw [List.drop_length, right_treaty_chain_l2] at hB2
        cases hB2
        exact lfM (Mks.cons M7 M8 (Below.size k6) hD1 hk1) ⟨_, B7_j3, B8_j3, O8c1_j3, N8c1_j3, Q9000_j3, Z0_j3, K0_j3, l0_i3, l1_i3, l7_i3, l8_i3, l9_i3, l10_i3⟩
      case stop =>
        rintro _ _ _ _ h _
        exact h.elim
    rintro L D3 w16 M15 ⟨v8, B7_j4, B8_j4, O8c1_j4, N8c1_j4, Q9000_j4, Z0_j4, K0_j4, l0_j4, l1_j4, l7_j4, l8_j4, l9_j4, l10_j4⟩
    have r89 := r4.ext K0_j4
    have r90 := r5.ext K0_j4
    have r91 := r6.ext K0_j4
    have r92 := r7.ext K0_j4
    have r93 := r8.ext K0_j4
    have r94 := r9.ext K0_j4
    have h18 := h0.ext K0_j4
    have hz := RV.sl O8c1_j4.rv; obtain ⟨a12, c12, rfl, -, -, -⟩ := hz
    refine wp_seq <| wp_seq <| rg <| vl rfl rfl (xld l8_j4 ti22 ((Bx.cs B8_j4).at 0 rfl)) <| vl rfl rfl (xlen rfl Try.underlying22) <| vl rfl rfl xmv <| nl <| ?_
    have hz := bs hB1; obtain ⟨z5, hB8, hB1⟩ := hz
    refine ctM w0.heap.size (fun L w => L 9 = .int .i64 z5 ∧ L 0 = .pointer (some ⟨b0, 0, none⟩) ∧ L 1 = .int .i64 x1 ∧ L 7 = .pointer (some ⟨b5, 0, none⟩) ∧ L 8 = .pointer (some ⟨b6, 0, none⟩) ∧ L 10 = .int .i64 x4 ∧ w4.heap.size ≤ w.heap.size ∧ Ext w16 w) ?_ ?_
    ·
      refine wp_block <| lpM w0.heap.size (I := fun m L w => ∃ y10 : Int, ∃ y11 : Int, right_treaty_chain_l3 F z3 m y10 y11  = some z5 ∧ L 9 = .int .i64 y10 ∧ L 56 = .int .i64 y11 ∧ L 0 = .pointer (some ⟨b0, 0, none⟩) ∧ L 1 = .int .i64 x1 ∧ L 7 = .pointer (some ⟨b5, 0, none⟩) ∧ L 8 = .pointer (some ⟨b6, 0, none⟩) ∧ L 10 = .int .i64 x4 ∧ L 54 = .slice a12 z3.length c12 ∧ L 55 = .int .i64 (z3.length : Int) ∧ w4.heap.size ≤ w.heap.size ∧ Ext w16 w) F M15 ⟨_, _, hB8, l9_j4, rfl, l0_j4, l1_j4, l7_j4, l8_j4, l10_j4, rfl, rfl, Z0_j4, (Ext.refl _)⟩ ?_
      rintro m L D4 w17 M16 ⟨y10, y11, hB8, l9_i5, l56_i5, l0_i5, l1_i5, l7_i5, l8_i5, l10_i5, l54_i5, l55_i5, Z0_i5, K0_i5⟩
      rcases m with _ | m
      · rw [right_treaty_chain_l3] at hB8; cases hB8
      rw [right_treaty_chain_l3] at hB8
      have k11 := K0_j4.tr K0_i5
      have r95 := r89.ext K0_i5
      have r96 := r90.ext K0_i5
      have r97 := r91.ext K0_i5
      have r98 := r92.ext K0_i5
      have r99 := r93.ext K0_i5
      have r100 := r94.ext K0_i5
      have h19 := h18.ext K0_i5
      have Q2 := Q9000_j4.ext K0_i5
      have hb18 := B7_j4.ext K0_i5
      have O3 := O8c1_j4.ext K0_i5
      have B3 := B8_j4.ext K0_i5
      refine wp_seq <| rg <| vl rfl rfl (xlss l56_i5 l55_i5) <| nl <| wp_seq <| cnd rfl (fun h20 => ?_) (fun h20 => ?_)
      ·
        have hB8 := ifp hB8 h20
        refine wp_skip <| wp_seq <| wp_block <| wp_seq <| rg <| ?_
        have hz := bs hB8; obtain ⟨x10, Ex10, hB8⟩ := hz
        have hz := (RV.els O3.rv).ix Ex10; obtain ⟨b10, f2, cs5, e8, i6, i7, q12, hc3⟩ := hz
        cases e8
        obtain rfl := q12
        refine vl rfl rfl (xixs l54_i5 l56_i5 Try.underlying22 ti3 i6 i7) <| vl rfl rfl (xld rfl ti3 (hc3.at 0 rfl)) <| vl rfl rfl xas <| nl <| rg <| vl rfl rfl xmv <| vl rfl rfl xmv <| vl rfl rfl (xor_ l9_i5 rfl) <| vl rfl rfl xas <| nl <| rg <| vl rfl rfl (xadd l56_i5 rfl) <| vl rfl rfl xmv <| nl <| ?_
        refine lqM m (Nat.lt_succ_self _) M16 <| ?_
        exact ⟨_, _, hB8, rfl, rfl, l0_i5, l1_i5, l7_i5, l8_i5, l10_i5, l54_i5, l55_i5, Z0_i5, K0_i5⟩
      ·
        have hB8 := ifn hB8 h20
        refine wp_exit <| ?_
        cases hB8
        refine lfM M16 <| ?_
        exact ⟨l9_i5, l0_i5, l1_i5, l7_i5, l8_i5, l10_i5, Z0_i5, K0_i5⟩
    rintro L D5 w18 M17 ⟨l9_j5, l0_j5, l1_j5, l7_j5, l8_j5, l10_j5, Z0_j5, K0_j5⟩
    have k12 := K0_j4.tr K0_j5
    have r101 := r89.ext K0_j5
    have r102 := r90.ext K0_j5
    have r103 := r91.ext K0_j5
    have r104 := r92.ext K0_j5
    have r105 := r93.ext K0_j5
    have r106 := r94.ext K0_j5
    have h21 := h18.ext K0_j5
    have Q3 := Q9000_j4.ext K0_j5
    have hb19 := B7_j4.ext K0_j5
    have O4 := O8c1_j4.ext K0_j5
    have B4 := B8_j4.ext K0_j5
    refine wp_seq <| rg <| vl rfl rfl xmv <| vl rfl rfl xmv <| vl rfl rfl (xandn l10_j5 l9_j5) <| vl rfl rfl (xeql rfl rfl) <| nl <| cnd rfl (fun h22 => ?_) (fun h22 => ?_)
    ·
      have hB1 := ifp hB1 h22
      refine wp_exit <| ?_
      cases hB1
      refine lfM M17 <| ?_
      exact ⟨_, hb19, B4, O4, N8c1_j4, Q3, l7_j5, l8_j5, l10_j5, Z0_j5, k12⟩
    ·
      have hB1 := ifn hB1 h22
      refine wp_skip <| ?_
      refine lqM m (Nat.lt_succ_self _) M17 <| ?_
      exact ⟨_, _, _, _, hB1, l9_j5, hb19, B4, O4, N8c1_j4, Q3, l0_j5, l1_j5, l7_j5, l8_j5, l10_j5, Z0_j5, k12⟩
  rintro L D6 w19 M18 ⟨v5, B7_j6, B8_j6, O8c1_j6, N8c1_j6, Q9000_j6, l7_j6, l8_j6, l10_j6, Z0_j6, K0_j6⟩
  have hz := RV.sl O8c1_j6.rv; obtain ⟨a13, c13, rfl, -, -, -⟩ := hz
  refine wp_seq <| rg <| vl rfl rfl xmv <| vl rfl rfl xas <| nl <| wp_seq <| wp_seq <| rg <| vl rfl rfl (xld l8_j6 ti22 ((Bx.cs B8_j6).at 0 rfl)) <| vl rfl rfl (xlen rfl Try.underlying22) <| vl rfl rfl (xsub rfl rfl) <| vl rfl rfl xas <| nl <| ?_
  have hz := bs hF; obtain ⟨z6, hB13, hF⟩ := hz
  refine ctM w0.heap.size (fun L w => Bx w b5 95 [.map (some b4)] ∧ Bx w b6 22 [.slice a13 z1.length c13] ∧ Row 3 w4.heap.size w (.slice a13 z1.length c13) z1 ∧ Mp w b4 z6 ∧ L 7 = .pointer (some ⟨b5, 0, none⟩) ∧ L 8 = .pointer (some ⟨b6, 0, none⟩) ∧ w4.heap.size ≤ w.heap.size ∧ Ext w0 w) ?_ ?_
  ·
    refine wp_block <| lpM w0.heap.size (I := fun m L w => ∃ y12 : Int, ∃ y13 : Int, ∃ y14 : (List (Int × ((Bool × Int) × Int × Int))), right_treaty_chain_l4 F z1 m y12 y13 y14  = some z6 ∧ L 14 = .int .i64 y12 ∧ L 15 = .int .i64 y13 ∧ Bx w b5 95 [.map (some b4)] ∧ Bx w b6 22 [.slice a13 z1.length c13] ∧ Row 3 w4.heap.size w (.slice a13 z1.length c13) z1 ∧ Mp w b4 y14 ∧ L 7 = .pointer (some ⟨b5, 0, none⟩) ∧ L 8 = .pointer (some ⟨b6, 0, none⟩) ∧ w4.heap.size ≤ w.heap.size ∧ Ext w0 w) F M18 ⟨_, _, _, hB13, l10_j6, rfl, B7_j6, B8_j6, O8c1_j6, Q9000_j6, l7_j6, l8_j6, Z0_j6, K0_j6⟩ ?_
    rintro m L D7 w20 M19 ⟨y12, y13, y14, hB13, l14_i8, l15_i8, B7_i8, B8_i8, F8c0_i8, Q9000_i8, l7_i8, l8_i8, Z0_i8, K0_i8⟩
    rcases m with _ | m
    · rw [right_treaty_chain_l4] at hB13; cases hB13
    rw [right_treaty_chain_l4] at hB13
    refine wp_seq <| wp_seq <| rg <| vl rfl rfl xmv <| vl rfl rfl (xgeq l15_i8 rfl) <| nl <| cnd rfl (fun h23 => ?_) (fun h23 => ?_)
    ·
      have hB13 := ifp hB13 h23
      refine wp_skip <| wp_seq <| ?_
      have hz := bs hB13; obtain ⟨⟨y15, y16⟩, hB15, hB13⟩ := hz
      refine ctM w0.heap.size (fun L w => L 14 = .int .i64 y15 ∧ Bx w b5 95 [.map (some b4)] ∧ Bx w b6 22 [.slice a13 z1.length c13] ∧ Row 3 w4.heap.size w (.slice a13 z1.length c13) z1 ∧ Mp w b4 y16 ∧ L 7 = .pointer (some ⟨b5, 0, none⟩) ∧ L 8 = .pointer (some ⟨b6, 0, none⟩) ∧ L 15 = .int .i64 y13 ∧ w4.heap.size ≤ w.heap.size ∧ Ext w0 w) ?_ ?_
      ·
        refine wp_block <| wp_seq <| wpl [] (.pure false 0 (.pure false 1 (.pure true 2 (.pure true 3 (.pure false 4 (.pure false 5 (.eff 6 (.eff 7 .fin .stop) .stop))))))) mixed (by kernel_rfl) (fun w21 hx7 => ?_)
        have k13 := K0_i8.tr hx7
        have zs6 := Nat.le_trans Z0_i8 hx7.size
        have M20 := M19.ext hx7
        have Q4 := Q9000_i8.ext hx7
        have hb20 := B7_i8.ext hx7
        have B5 := B8_i8.ext hx7
        have O5 := F8c0_i8.ext hx7
        refine pv rfl rfl rfl (fun _ hS => xld l7_i8 ti95 ((Bx.cs (hb20.ext (hS.resolve_left nofun))).at 0 rfl)) (.inr (Ext.refl _)) <| pv rfl rfl rfl (fun _ hS => xld l8_i8 ti22 ((Bx.cs (B5.ext (hS.resolve_left nofun))).at 0 rfl)) (.inr (Ext.refl _)) <| pv rfl rfl rfl (fun _ _ => xmv) (.inl rfl) <| ?_
        have hz := bs hB15; obtain ⟨x11, Ex11, hB15⟩ := hz
        have hz := (RV.els O5.rv).ix Ex11; obtain ⟨b11, f3, cs6, e9, i9, i10, q13, hc4⟩ := hz
        cases e9
        obtain rfl := q13
        refine pv rfl rfl rfl (fun _ _ => xixs rfl l15_i8 Try.underlying22 ti3 i9 i10) (.inl rfl) <| pv rfl rfl rfl (fun _ hS => xld rfl ti3 ((hc4.ext (hS.resolve_left nofun)).at 0 rfl)) (.inr (Ext.refl _)) <| ?_
        have hz := bs hB15; obtain ⟨x12, Ex12, hB15⟩ := hz
        refine pv rfl rfl rfl (fun _ hS => xlku (k := x11) (d := ((false, 0), 0, 0)) Try.underlying95 kt3 (TI.zv ti77 rfl rfl _) (Q4.ext (hS.resolve_left nofun)) (kok_spec Ex12) rfl rfl) (.inr (Ext.refl _)) <| pe1 rfl <| sal ti77 fun b12 w22 hx8 hg6 hb21 => ?_
        have k14 := k13.tr hx8
        have k15 := hx7.tr hx8
        have zs7 := Nat.le_trans zs6 hx8.size
        have M21 := M20.ext hx8
        have Q5 := Q4.ext hx8
        have hb22 := hb20.ext hx8
        have B6 := B5.ext hx8
        have O6 := O5.ext hx8
        refine nl ⟨fun _ _ => hx8, ?_⟩
        refine pe1 rfl <| sst rfl rfl rfl ti77 hb21 rfl rfl (ble rfl) fun w23 hch4 hb23 => ?_
        have k16 := Ext.chg k14 hch4 (Nat.le_trans k13.size hg6)
        have k17 := Ext.chg k15 hch4 (Nat.le_trans hx7.size hg6)
        have k18 := Ext.chg hx8 hch4 (Nat.le_trans (Nat.le_refl _) hg6)
        have zs8 := Nat.le_trans zs7 (Nat.le_of_eq hch4.size.symm)
        have M22 := M21.chg hch4 hb21.nd
        have Q6 := Q4.ext k18
        have hb24 := hb20.ext k18
        have B7 := B5.ext k18
        have O7 := O5.ext k18
        have hb25 : Bx w23 b12 77 [.bool (((mget ((false, 0), 0, 0) y14 x11).1).1), .int .i64 (((mget ((false, 0), 0, 0) y14 x11).1).2), .int .i64 ((mget ((false, 0), 0, 0) y14 x11).2.1), .int .i64 ((mget ((false, 0), 0, 0) y14 x11).2.2)] := hb23
        refine nl ⟨fun _ _ => k18, ?_⟩
        refine wp_seq <| rg <| vl rfl rfl xmv <| vl rfl rfl (xfa rfl fa77_2) <| vl rfl rfl (xld rfl ti3 ((Bx.cs hb25).at 3 rfl)) <| vl rfl rfl (xand l14_i8 rfl) <| vl rfl rfl (xneq rfl rfl) <| nl <| ?_
        have hz := bs hB15; obtain ⟨⟨y17, y18⟩, hB16, hB15⟩ := hz
        refine ctM w0.heap.size (fun L w => L 14 = .int .i64 y17 ∧ Bx w b5 95 [.map (some b4)] ∧ Bx w b6 22 [.slice (some ⟨b11, f3, none⟩) z1.length c13] ∧ Row 3 w4.heap.size w (.slice (some ⟨b11, f3, none⟩) z1.length c13) z1 ∧ Mp w b4 y18 ∧ L 7 = .pointer (some ⟨b5, 0, none⟩) ∧ L 8 = .pointer (some ⟨b6, 0, none⟩) ∧ L 15 = .int .i64 y13 ∧ w4.heap.size ≤ w.heap.size ∧ Ext w0 w) ?_ ?_
        ·
          refine cnd rfl (fun h24 => ?_) (fun h24 => ?_)
          ·
            have hB16 := ifp hB16 h24
            refine rg <| vl rfl rfl xmv <| vl rfl rfl (xfa rfl fa77_1) <| vl rfl rfl (xld rfl ti3 ((Bx.cs hb25).at 2 rfl)) <| vl rfl rfl (xor_ l14_i8 rfl) <| vl rfl rfl xas <| nl <| ?_
            cases hB16
            refine lfM M22 <| ?_
            exact ⟨rfl, hb24, B7, O7, Q6, l7_i8, l8_i8, l15_i8, zs8, k16⟩
          ·
            have hB16 := ifn hB16 h24
            refine wplG (row := (some b4)) [] (.pure false 0 (.pure false 1 (.pure true 2 (.pure true 3 (.pure false 4 (.eff 5 .fin .stop)))))) mixed (by kernel_rfl) (fun w24 hx9 => ?_)
            have k19 := k16.tr hx9
            have k20 := k17.tr hx9
            have k21 := k18.tr hx9
            have zs9 := Nat.le_trans zs8 hx9.size
            have M23 := M22.ext hx9
            have Q7 := Q6.ext hx9
            have hb26 := hb24.ext hx9
            have B8 := B7.ext hx9
            have O8 := O7.ext hx9
            refine pv rfl rfl rfl (fun _ hS => xld l7_i8 ti95 ((Bx.cs (Bx.gr hb26 (hS.resolve_left nofun) (fun e => Mp.not_cells Q6 hb24 (Option.some.inj e).symm))).at 0 rfl)) (.inr (Ext.gro (Ext.refl _))) <| pv rfl rfl rfl (fun _ hS => xld l8_i8 ti22 ((Bx.cs (Bx.gr B8 (hS.resolve_left nofun) (fun e => Mp.not_cells Q6 B7 (Option.some.inj e).symm))).at 0 rfl)) (.inr (Ext.gro (Ext.refl _))) <| pv rfl rfl rfl (fun _ _ => xmv) (.inl rfl) <| ?_
            have hz := bs hB16; obtain ⟨x13, Ex13, hB16⟩ := hz
            have hz := ix2 O8.rv Ex13; obtain ⟨cs7, i11, i12, q14, hc5⟩ := hz
            obtain rfl := q14
            refine pv rfl rfl rfl (fun _ _ => xixs rfl l15_i8 Try.underlying22 ti3 i11 i12) (.inl rfl) <| pv rfl rfl rfl (fun _ hS => xld rfl ti3 ((Cs.gro hc5 (hS.resolve_left nofun) (Ne.symm (Row.ne_map O8 Q7))).at 0 rfl)) (.inr (Ext.gro (Ext.refl _))) <| ?_
            have hz := bs hB16; obtain ⟨x14, Ex14, hB16⟩ := hz
            refine pe1 rfl <| smdn (k := x13) rfl rfl Try.underlying95 kt3 Q7 (kok_spec Ex14) fun w25 hch5 hm9 => ?_
            have k22 := Ext.chg k19 hch5 (Nat.le_trans (Nat.le_refl _) hg1)
            have gS1 := World.grownBy.tr (Ext.gro (Ext.refl _)) (Chg.gro hch5)
            have zs10 := Nat.le_trans zs9 (Nat.le_of_eq hch5.size.symm)
            have M24 := M23.chg hch5 Q7.nd
            have hb27 := Bx.chgm hb26 hch5 Q7
            have hb28 := Bx.chgm B8 hch5 Q7
            have o9 := Row.chgm O8 hch5 Q7
            refine nl ⟨fun _ _ => gS1, ?_⟩
            cases hB16
            refine lfM M24 <| ?_
            exact ⟨l14_i8, hb27, hb28, o9, hm9, l7_i8, l8_i8, l15_i8, zs10, k22⟩
        rintro L D8 w26 M25 ⟨l14_j7, B7_j7, B8_j7, F8c0_j7, Q9000_j7, l7_j7, l8_j7, l15_j7, Z0_j7, K0_j7⟩
        cases hB15
        refine lfM M25 <| ?_
        exact ⟨l14_j7, B7_j7, B8_j7, F8c0_j7, Q9000_j7, l7_j7, l8_j7, l15_j7, Z0_j7, K0_j7⟩
      rintro L D9 w27 M26 ⟨l14_j8, B7_j8, B8_j8, F8c0_j8, Q9000_j8, l7_j8, l8_j8, l15_j8, Z0_j8, K0_j8⟩
      refine rg <| vl rfl rfl xmv <| vl rfl rfl (xsub l15_j8 rfl) <| vl rfl rfl xas <| nl <| ?_
      refine lqM m (Nat.lt_succ_self _) M26 <| ?_
      exact ⟨_, _, _, hB13, l14_j8, rfl, B7_j8, B8_j8, F8c0_j8, Q9000_j8, l7_j8, l8_j8, Z0_j8, K0_j8⟩
    ·
      have hB13 := ifn hB13 h23
      refine wp_exit <| ?_
      cases hB13
      refine lfM M19 <| ?_
      exact ⟨B7_i8, B8_i8, F8c0_i8, Q9000_i8, l7_i8, l8_i8, Z0_i8, K0_i8⟩
  rintro L D10 w28 M27 ⟨B7_j9, B8_j9, F8c0_j9, Q9000_j9, l7_j9, l8_j9, Z0_j9, K0_j9⟩
  refine wp_seq <| rg <| vl rfl rfl xas <| nl <| wp_seq <| wp_seq <| rg <| vl rfl rfl (xld l8_j9 ti22 ((Bx.cs B8_j9).at 0 rfl)) <| vl rfl rfl (xlen rfl Try.underlying22) <| vl rfl rfl xmv <| nl <| ?_
  have o10 : Row (α := (Bool × Int)) 52 w28.heap.size w28 (.slice none 0 0) [] := Row.nil
  have hz := bs hF; obtain ⟨z7, hB20, hF⟩ := hz
  refine ctM w0.heap.size (fun L w => ∃ v13 : Value, L 17 = v13 ∧ Row 52 w28.heap.size w v13 z7 ∧ Apart (v13) (.slice a13 z1.length c13) ∧ w4.heap.size ≤ w.heap.size ∧ Ext w28 w) ?_ ?_
  ·
    refine wp_block <| lpM w0.heap.size (I := fun m L w => ∃ y19 : (List (Bool × Int)), ∃ y20 : Int, ∃ v12 : Value, right_treaty_chain_l5 F z1 z6 m y19 y20  = some z7 ∧ L 17 = v12 ∧ Row 52 w28.heap.size w v12 y19 ∧ L 98 = .int .i64 y20 ∧ Apart (v12) (.slice a13 z1.length c13) ∧ L 7 = .pointer (some ⟨b5, 0, none⟩) ∧ L 96 = .slice a13 z1.length c13 ∧ L 97 = .int .i64 (z1.length : Int) ∧ w4.heap.size ≤ w.heap.size ∧ Ext w28 w) F M27 ⟨_, _, _, hB20, rfl, o10, rfl, (Apart.symm (Apart.old' F8c0_j9.own_lt (fun q e => (o10.lt q e).1))), l7_j9, rfl, rfl, Z0_j9, (Ext.refl _)⟩ ?_
    rintro m L D11 w29 M28 ⟨y19, y20, v12, hB20, l17_i13, O17_i13, l98_i13, X0_i13, l7_i13, l96_i13, l97_i13, Z0_i13, K0_i13⟩
    rcases m with _ | m
    · rw [right_treaty_chain_l5] at hB20; cases hB20
    rw [right_treaty_chain_l5] at hB20
    have k23 := K0_j9.tr K0_i13
    have Q8 := Q9000_j9.ext K0_i13
    have hb29 := B7_j9.ext K0_i13
    have O9 := F8c0_j9.ext K0_i13
    have hz := RV.sl O17_i13.rv; obtain ⟨a14, c14, rfl, -, -, -⟩ := hz
    refine wp_seq <| rg <| vl rfl rfl (xlss l98_i13 l97_i13) <| nl <| wp_seq <| cnd rfl (fun h25 => ?_) (fun h25 => ?_)
    ·
      have hB20 := ifp hB20 h25
      refine wp_skip <| wp_seq <| ?_
      have hz := bs hB20; obtain ⟨y21, hB22, hB20⟩ := hz
      refine ctM w0.heap.size (fun L w => ∃ v14 : Value, L 17 = v14 ∧ Row 52 w28.heap.size w v14 y21 ∧ Apart (v14) (.slice a13 z1.length c13) ∧ L 7 = .pointer (some ⟨b5, 0, none⟩) ∧ L 96 = .slice a13 z1.length c13 ∧ L 97 = .int .i64 (z1.length : Int) ∧ L 98 = .int .i64 y20 ∧ w4.heap.size ≤ w.heap.size ∧ Ext w28 w) ?_ ?_
      ·
        refine wp_block <| wp_seq <| rg <| ?_
        have hz := bs hB22; obtain ⟨x15, Ex15, hB22⟩ := hz
        have hz := (RV.els O9.rv).ix Ex15; obtain ⟨b13, f4, cs8, e10, i14, i15, q15, hc6⟩ := hz
        cases e10
        obtain rfl := q15
        refine vl rfl rfl (xixs l96_i13 l98_i13 Try.underlying22 ti3 i14 i15) <| vl rfl rfl (xld rfl ti3 (hc6.at 0 rfl)) <| vl rfl rfl xas <| nl <| wp_seq <| rg <| vl rfl rfl (xld l7_i13 ti95 ((Bx.cs hb29).at 0 rfl)) <| vl rfl rfl xmv <| ?_
        have hz := bs hB22; obtain ⟨x16, Ex16, hB22⟩ := hz
        refine vl rfl rfl (xlkuo (k := x15) (d := ((false, 0), 0, 0)) Try.underlying95 kt3 (TI.zv ti77 rfl rfl _) Q8 (kok_spec Ex16) rfl rfl) <| vl rfl rfl xmv <| vl rfl rfl (xext rfl rfl) <| vl rfl rfl (xext rfl rfl) <| sal ti77 fun b14 w30 hx10 hg7 hb30 => ?_
        have k24 := k23.tr hx10
        have k25 := K0_i13.tr hx10
        have zs11 := Nat.le_trans Z0_i13 hx10.size
        have M29 := M28.ext hx10
        have Q9 := Q8.ext hx10
        have hb31 := hb29.ext hx10
        have O10 := O9.ext hx10
        have O11 := O17_i13.ext hx10
        refine sst rfl rfl rfl ti77 hb30 rfl rfl (ble rfl) fun w31 hch6 hb32 => ?_
        have k26 := Ext.chg k24 hch6 (Nat.le_trans k23.size hg7)
        have k27 := Ext.chg k25 hch6 (Nat.le_trans K0_i13.size hg7)
        have k28 := Ext.chg hx10 hch6 (Nat.le_trans (Nat.le_refl _) hg7)
        have zs12 := Nat.le_trans zs11 (Nat.le_of_eq hch6.size.symm)
        have M30 := M29.chg hch6 hb30.nd
        have Q10 := Q8.ext k28
        have hb33 := hb29.ext k28
        have O12 := O9.ext k28
        have O13 := O17_i13.ext k28
        have hb34 : Bx w31 b14 77 [.bool (((mget ((false, 0), 0, 0) z6 x15).1).1), .int .i64 (((mget ((false, 0), 0, 0) z6 x15).1).2), .int .i64 ((mget ((false, 0), 0, 0) z6 x15).2.1), .int .i64 ((mget ((false, 0), 0, 0) z6 x15).2.2)] := hb32
        refine vl rfl rfl xas <| nl <| wp_seq <| rg <| vl rfl rfl xmv <| nl <| ?_
        have hz := bs hB22; obtain ⟨y22, hB23, hB22⟩ := hz
        refine ctM w0.heap.size (fun L w => ∃ v15 : Value, L 17 = v15 ∧ Row 52 w28.heap.size w v15 y22 ∧ Apart (v15) (.slice (some ⟨b13, f4, none⟩) z1.length c13) ∧ L 7 = .pointer (some ⟨b5, 0, none⟩) ∧ L 96 = .slice (some ⟨b13, f4, none⟩) z1.length c13 ∧ L 97 = .int .i64 (z1.length : Int) ∧ L 98 = .int .i64 y20 ∧ w4.heap.size ≤ w.heap.size ∧ Ext w28 w) ?_ ?_
        ·
          refine cnd rfl (fun h26 => ?_) (fun h26 => ?_)
          ·
            have hB23 := ifp hB23 h26
            refine wpl [] (.pure true 0 (.pure true 1 (.pure false 2 (.pure true 3 (.pure false 4 (.pure true 5 (.pure true 6 (.pure false 7 (.eff 8 (.eff 9 (.pure true 10 .fin) .stop) .stop))))))))) mixed (by kernel_rfl) (fun w32 hx11 => ?_)
            have k29 := k26.tr hx11
            have k30 := k27.tr hx11
            have k31 := k28.tr hx11
            have zs13 := Nat.le_trans zs12 hx11.size
            have M31 := M30.ext hx11
            have Q11 := Q10.ext hx11
            have hb35 := hb33.ext hx11
            have hb36 := hb34.ext hx11
            have O14 := O12.ext hx11
            have O15 := O13.ext hx11
            refine pv rfl rfl rfl (fun _ _ => xmv) (.inl rfl) <| pv rfl rfl rfl (fun _ _ => xmv) (.inl rfl) <| pv rfl rfl rfl (fun _ hS => xlen l17_i13 Try.underlying27) (.inr (Ext.refl _)) <| pv rfl rfl rfl (fun _ _ => xmv) (.inl rfl) <| pv rfl rfl rfl (fun _ hS => xlen l17_i13 Try.underlying27) (.inr (Ext.refl _)) <| ?_
            have r107 := RV.full O15.rv
            refine pv rfl rfl rfl (fun _ _ => xslf l17_i13 (RV.cap O15.rv).2.1 Try.underlying27 ti52 rfl rfl) (.inl rfl) <| pv rfl rfl rfl (fun _ _ => xfa rfl fa77_0) (.inl rfl) <| pv rfl rfl rfl (fun _ hS => xlda rfl ti52 rfl ((Bx.cs (hb36.ext (hS.resolve_left nofun))).sub 0 2)) (.inr (Ext.refl _)) <| pe1 rfl <| sbsv (cs := [.bool (((mget ((false, 0), 0, 0) z6 x15).1).1), .int .i64 (((mget ((false, 0), 0, 0) z6 x15).1).2)]) Try.underlying27 ti52 rfl (pc rfl pn) rfl rfl rfl rfl rfl fun b15 w33 hx12 hg8 hb37 => ?_
            have k32 := k29.tr hx12
            have k33 := k30.tr hx12
            have k34 := k31.tr hx12
            have k35 := hx11.tr hx12
            have zs14 := Nat.le_trans zs13 hx12.size
            have M32 := M31.ext hx12
            have Q12 := Q11.ext hx12
            have hb38 := hb35.ext hx12
            have O16 := O14.ext hx12
            have r108 := r107.ext hx12
            have o12 : Row (α := (Bool × Int)) 52 w32.heap.size w33 (.slice (some ⟨b15, 0, none⟩) 1 1) [(((mget ((false, 0), 0, 0) z6 x15).1).1, ((mget ((false, 0), 0, 0) z6 x15).1).2)] := Row.lit hg8 hb37 rfl (ble rfl)
            refine nl ⟨fun _ _ => hx12, ?_⟩
            have hz := bs hB23; obtain ⟨x17, Ex17, hB23⟩ := hz
            refine pe1 rfl <| sapf (l := y19) (k := ([(((mget ((false, 0), 0, 0) z6 x15).1).1, ((mget ((false, 0), 0, 0) z6 x15).1).2)] : List (Bool × Int))) rfl rfl Try.underlying27 ti52 rfl rfl r108 o12.rv rfl Ex17 fun v16 w34 o13 hx13 => ?_
            have k36 := k32.tr hx13
            have k37 := k33.tr hx13
            have k38 := k34.tr hx13
            have k39 := k35.tr hx13
            have k40 := hx12.tr hx13
            have zs15 := Nat.le_trans zs14 hx13.size
            have M33 := M32.ext hx13
            have Q13 := Q12.ext hx13
            have hb39 := hb38.ext hx13
            have O17 := O16.ext hx13
            have hz := RV.sl o13.rv; obtain ⟨a15, c15, rfl, -, -, -⟩ := hz
            refine nl ⟨fun _ _ => k40, ?_⟩
            refine pv rfl rfl rfl (fun _ _ => xas) (.inl rfl) <| ?_
            cases hB23
            refine lfM M33 <| ?_
            exact ⟨_, rfl, (o13.bnd k33.size), (Apart.symm (Apart.old' O16.own_lt (fun q e => (o13.lt q e).1))), l7_i13, l96_i13, l97_i13, l98_i13, zs15, k37⟩
          ·
            have hB23 := ifn hB23 h26
            refine wp_skip <| ?_
            cases hB23
            refine lfM M30 <| ?_
            exact ⟨_, l17_i13, O13, X0_i13, l7_i13, l96_i13, l97_i13, l98_i13, zs12, k27⟩
        rintro L D12 w35 M34 ⟨v15, l17_j10, O17_j10, X0_j10, l7_j10, l96_j10, l97_j10, l98_j10, Z0_j10, K0_j10⟩
        have k41 := K0_j9.tr K0_j10
        have Q14 := Q9000_j9.ext K0_j10
        have hb40 := B7_j9.ext K0_j10
        have O18 := F8c0_j9.ext K0_j10
        have hz := RV.sl O17_j10.rv; obtain ⟨a16, c16, rfl, -, -, -⟩ := hz
        cases hB22
        refine lfM M34 <| ?_
        exact ⟨_, l17_j10, O17_j10, X0_j10, l7_j10, l96_j10, l97_j10, l98_j10, Z0_j10, K0_j10⟩
      rintro L D13 w36 M35 ⟨v14, l17_j11, O17_j11, X0_j11, l7_j11, l96_j11, l97_j11, l98_j11, Z0_j11, K0_j11⟩
      have k42 := K0_j9.tr K0_j11
      have Q15 := Q9000_j9.ext K0_j11
      have hb41 := B7_j9.ext K0_j11
      have O19 := F8c0_j9.ext K0_j11
      have hz := RV.sl O17_j11.rv; obtain ⟨a17, c17, rfl, -, -, -⟩ := hz
      refine rg <| vl rfl rfl (xadd l98_j11 rfl) <| vl rfl rfl xmv <| nl <| ?_
      refine lqM m (Nat.lt_succ_self _) M35 <| ?_
      exact ⟨_, _, _, hB20, l17_j11, O17_j11, rfl, X0_j11, l7_j11, l96_j11, l97_j11, Z0_j11, K0_j11⟩
    ·
      have hB20 := ifn hB20 h25
      refine wp_exit <| ?_
      cases hB20
      refine lfM M28 <| ?_
      exact ⟨_, l17_i13, O17_i13, X0_i13, Z0_i13, K0_i13⟩
  rintro L D14 w37 M36 ⟨v13, l17_j12, O17_j12, X0_j12, Z0_j12, K0_j12⟩
  have k43 := K0_j9.tr K0_j12
  have hz := RV.sl O17_j12.rv; obtain ⟨a18, c18, rfl, -, -, -⟩ := hz
  refine wp_seq <| rg <| vl rfl rfl xmv <| vl rfl rfl xas <| nl <| wp_ret <| rtMs rfl M36 fun w38 hT1 => ?_
  have k44 : Ext w0 w38 := Below.tak k43 hT1 (Nat.le_refl _)
  have O20 := O17_j12.tak hT1
  cases hF
  exact ⟨_, (.tmp l17_j12 rfl .nil), ⟨_, rfl, O20.rv, k44⟩⟩

set_option maxHeartbeats 4000000 in
theorem c16 {w0 : World} {v0 : Value} {x0 : (Int × (List Int) × (List ((List Int) × Int)) × (List ((List Int) × Int)) × (List (List Int)))} (r0 : RV w0 v0 x0) {v1 : Value} {x1 : (List Int)} (r1 : RV w0 v1 x1) {F : Nat} {r : (Int × (List (Bool × Int)) × Int)} (hF : right_Broken F x0 x1 = some r) :
    Calls Try.prog 16 [v0, v1].toArray w0 (Ret fun v w' => ∃ u1 : Value, v = .tuple #[.int .i64 r.1, u1, .int .i64 r.2.2] ∧ RV w' u1 r.2.1 ∧ Ext w0 w') := by
  unfold right_Broken at hF
  have hz := id r0; obtain ⟨_, rfl, ⟨_, _, rfl, rfl, ⟨_, _, rfl, ⟨a1, c1, rfl, p1, q3, e1⟩, ⟨_, _, rfl, ⟨a2, c2, rfl, p2, q4, e2⟩, ⟨_, _, rfl, ⟨a3, c3, rfl, p3, q5, e3⟩, ⟨a4, c4, rfl, p4, q6, e4⟩⟩⟩⟩⟩⟩ := hz
  have r3 := RV.of1 p1 q3 e1
  have r4 := RV.of1 p2 q4 e2
  have r5 := RV.of1 p3 q5 e3
  have r6 := RV.of1 p4 q6 e4
  have hz := r1.sl; obtain ⟨a5, c5, rfl, -, -, -⟩ := hz
  refine entr (n := 40) Try.func16 rfl rfl rfl <| wp_seq <| rg <| sbx rfl rfl fun b3 w1 hx1 hg1 hb1 => ?_
  have r7 := r1.ext hx1
  have r8 := r3.ext hx1
  have r9 := r4.ext hx1
  have r10 := r5.ext hx1
  have r11 := r6.ext hx1
  have r12 := r0.ext hx1
  refine vl rfl rfl xas <| vl rfl rfl xas <| vl rfl rfl xas <| nl <| wp_seq <| rg <| vl rfl rfl (xlda rfl ti26 rfl (Bx.cs hb1)) <| vl rfl rfl xmv <| ?_
  have hz := bs hF; obtain ⟨x3, Ex3, hF⟩ := hz
  refine cl rfl rfl (xc cb43 (mc rfl (mc rfl mn))) (c43 (show RV (α := (Int × (List Int) × (List ((List Int) × Int)) × (List ((List Int) × Int)) × (List (List Int)))) _ (.agg [.int .i64 x0.1, .slice a1 x0.2.1.length c1, .slice a2 x0.2.2.1.length c2, .slice a3 x0.2.2.2.1.length c3, .slice a4 x0.2.2.2.2.length c4].toArray) (x0.1, x0.2.1, x0.2.2.1, x0.2.2.2.1, x0.2.2.2.2) from ⟨_, rfl, ⟨[.int .i64 x0.1], [.slice a1 x0.2.1.length c1] ++ ([.slice a2 x0.2.2.1.length c2] ++ ([.slice a3 x0.2.2.2.1.length c3] ++ [.slice a4 x0.2.2.2.2.length c4])), rfl, rfl, ⟨[.slice a1 x0.2.1.length c1], [.slice a2 x0.2.2.1.length c2] ++ ([.slice a3 x0.2.2.2.1.length c3] ++ [.slice a4 x0.2.2.2.2.length c4]), rfl, r8.rep1, ⟨[.slice a2 x0.2.2.1.length c2], [.slice a3 x0.2.2.2.1.length c3] ++ [.slice a4 x0.2.2.2.2.length c4], rfl, r9.rep1, ⟨[.slice a3 x0.2.2.2.1.length c3], [.slice a4 x0.2.2.2.2.length c4], rfl, r10.rep1, r11.rep1⟩⟩⟩⟩⟩) r7 Ex3) ?_
  rintro _ w2 ⟨u1, rfl, r13, hx2⟩
  have k1 := hx1.tr hx2
  have hz := obPtr r13; obtain ⟨a6, rfl⟩ := hz
  refine vl rfl rfl xmv <| vl rfl rfl (xext rfl rfl) <| vl rfl rfl (xext rfl rfl) <| vl rfl rfl (xext rfl rfl) <| vl rfl rfl xas <| vl rfl rfl xas <| vl rfl rfl xas <| nl <| wp_seq <| wp_seq <| rg <| vl rfl rfl xmv <| vl rfl rfl (xneq rfl rfl) <| nl <| cnd rfl (fun h3 => ?_) (fun h3 => ?_)
  ·
    have hF := ifp hF h3
    refine wp_seq <| rg <| vl rfl rfl xmv <| vl rfl rfl xas <| vl rfl rfl xas <| vl rfl rfl xas <| nl <| ?_
    cases hF
    exact wp_ret <| rt rfl (.tmp rfl rfl (.tmp rfl rfl (.tmp rfl rfl .nil))) ⟨_, rfl, (RVo.nil (Nat.zero_le _)), k1⟩
  ·
    have hF := ifn hF h3
    refine wp_skip <| wp_seq <| rg <| vl rfl rfl xmv <| vl rfl rfl xmv <| ?_
    have hz := bs hF; obtain ⟨x4, Ex4, hF⟩ := hz
    have hz := obGet r13 Ex4; obtain ⟨b4, cs3, e5, q7, hc1⟩ := hz
    cases e5
    obtain ⟨_, _, rfl, ⟨_, _, rfl, rfl, ⟨_, _, rfl, ⟨a7, c6, rfl, p5, q8, e6⟩, ⟨_, _, rfl, ⟨a8, c7, rfl, p6, q9, e7⟩, ⟨_, _, rfl, ⟨a9, c8, rfl, p7, q10, e8⟩, ⟨a10, c9, rfl, p8, q11, e9⟩⟩⟩⟩⟩, ⟨_, _, rfl, rfl, ⟨_, _, rfl, ⟨a11, c10, rfl, p9, q12, e10⟩, ⟨a12, c11, rfl, p10, q13, e11⟩⟩⟩⟩ := q7
    have r14 := RV.of1 p5 q8 e6
    have r15 := RV.of1 p6 q9 e7
    have r16 := RV.of1 p7 q10 e8
    have r17 := RV.of1 p8 q11 e9
    have r18 := RV.of1 p9 q12 e10
    have r19 := RV.of1 p10 q13 e11
    have hz := bs hF; obtain ⟨x5, Ex5, hF⟩ := hz
    refine cl rfl rfl (xc cb44 (mc rfl (mc rfl mn))) (c44 (x0 := ((x4.1.1, x4.1.2.1, x4.1.2.2.1, x4.1.2.2.2.1, x4.1.2.2.2.2), x4.2.1, x4.2.2.1, x4.2.2.2)) hc1 ⟨[.int .i64 x4.1.1] ++ ([.slice a7 x4.1.2.1.length c6] ++ ([.slice a8 x4.1.2.2.1.length c7] ++ ([.slice a9 x4.1.2.2.2.1.length c8] ++ [.slice a10 x4.1.2.2.2.2.length c9]))), [.int .i64 x4.2.1] ++ ([.slice a11 x4.2.2.1.length c10] ++ [.slice a12 x4.2.2.2.length c11]), rfl, ⟨[.int .i64 x4.1.1], [.slice a7 x4.1.2.1.length c6] ++ ([.slice a8 x4.1.2.2.1.length c7] ++ ([.slice a9 x4.1.2.2.2.1.length c8] ++ [.slice a10 x4.1.2.2.2.2.length c9])), rfl, rfl, ⟨[.slice a7 x4.1.2.1.length c6], [.slice a8 x4.1.2.2.1.length c7] ++ ([.slice a9 x4.1.2.2.2.1.length c8] ++ [.slice a10 x4.1.2.2.2.2.length c9]), rfl, r14.rep1, ⟨[.slice a8 x4.1.2.2.1.length c7], [.slice a9 x4.1.2.2.2.1.length c8] ++ [.slice a10 x4.1.2.2.2.2.length c9], rfl, r15.rep1, ⟨[.slice a9 x4.1.2.2.2.1.length c8], [.slice a10 x4.1.2.2.2.2.length c9], rfl, r16.rep1, r17.rep1⟩⟩⟩⟩, ⟨[.int .i64 x4.2.1], [.slice a11 x4.2.2.1.length c10] ++ [.slice a12 x4.2.2.2.length c11], rfl, rfl, ⟨[.slice a11 x4.2.2.1.length c10], [.slice a12 x4.2.2.2.length c11], rfl, r18.rep1, r19.rep1⟩⟩⟩ Ex5) ?_
    rintro _ w3 ⟨rfl, hx3⟩
    have k2 := k1.tr hx3
    have r20 := r14.ext hx3
    have r21 := r15.ext hx3
    have r22 := r16.ext hx3
    have r23 := r17.ext hx3
    have r24 := r18.ext hx3
    have r25 := r19.ext hx3
    have hc2 := hc1.ext hx3
    refine vl rfl rfl xas <| nl <| wp_seq <| wp_seq <| rg <| vl rfl rfl xmv <| vl rfl rfl (xlss rfl rfl) <| nl <| cnd rfl (fun h4 => ?_) (fun h4 => ?_)
    ·
      have hF := ifp hF h4
      refine wp_seq <| rg <| vl rfl rfl xas <| vl rfl rfl xas <| vl rfl rfl xas <| nl <| ?_
      cases hF
      exact wp_ret <| rt rfl (.tmp rfl rfl (.tmp rfl rfl (.tmp rfl rfl .nil))) ⟨_, rfl, (RVo.nil (Nat.zero_le _)), k2⟩
    ·
      have hF := ifn hF h4
      refine wp_skip <| wp_seq <| rg <| vl rfl rfl xmv <| vl rfl rfl xmv <| vl rfl rfl xmv <| ?_
      have hz := bs hF; obtain ⟨x6, Ex6, hF⟩ := hz
      refine cl rfl rfl (xc cb45 (mc rfl (mc rfl (mc rfl mn)))) (c45 (x0 := ((x4.1.1, x4.1.2.1, x4.1.2.2.1, x4.1.2.2.2.1, x4.1.2.2.2.2), x4.2.1, x4.2.2.1, x4.2.2.2)) hc2 ⟨[.int .i64 x4.1.1] ++ ([.slice a7 x4.1.2.1.length c6] ++ ([.slice a8 x4.1.2.2.1.length c7] ++ ([.slice a9 x4.1.2.2.2.1.length c8] ++ [.slice a10 x4.1.2.2.2.2.length c9]))), [.int .i64 x4.2.1] ++ ([.slice a11 x4.2.2.1.length c10] ++ [.slice a12 x4.2.2.2.length c11]), rfl, ⟨[.int .i64 x4.1.1], [.slice a7 x4.1.2.1.length c6] ++ ([.slice a8 x4.1.2.2.1.length c7] ++ ([.slice a9 x4.1.2.2.2.1.length c8] ++ [.slice a10 x4.1.2.2.2.2.length c9])), rfl, rfl, ⟨[.slice a7 x4.1.2.1.length c6], [.slice a8 x4.1.2.2.1.length c7] ++ ([.slice a9 x4.1.2.2.2.1.length c8] ++ [.slice a10 x4.1.2.2.2.2.length c9]), rfl, r20.rep1, ⟨[.slice a8 x4.1.2.2.1.length c7], [.slice a9 x4.1.2.2.2.1.length c8] ++ [.slice a10 x4.1.2.2.2.2.length c9], rfl, r21.rep1, ⟨[.slice a9 x4.1.2.2.2.1.length c8], [.slice a10 x4.1.2.2.2.2.length c9], rfl, r22.rep1, r23.rep1⟩⟩⟩⟩, ⟨[.int .i64 x4.2.1], [.slice a11 x4.2.2.1.length c10] ++ [.slice a12 x4.2.2.2.length c11], rfl, rfl, ⟨[.slice a11 x4.2.2.1.length c10], [.slice a12 x4.2.2.2.length c11], rfl, r24.rep1, r25.rep1⟩⟩⟩ Ex6) ?_
      rintro _ w4 ⟨u2, rfl, r26, hx4⟩
      have k3 := k2.tr hx4
      have hz := RV.sl r26; obtain ⟨a13, c12, rfl, -, -, -⟩ := hz
      refine vl rfl rfl xas <| nl <| wp_seq <| rg <| vl rfl rfl xmv <| vl rfl rfl (xlen rfl Try.underlying27) <| ?_
      have hz := bs hF; obtain ⟨x7, Ex7, hF⟩ := hz
      refine smks (α := (Bool × Int)) (z0 := (false, 0)) rfl rfl Try.underlying27 ti52 rfl rfl rfl Ex7 fun b5 w5 hx5 o1 => ?_
      have k4 := k3.tr hx5
      have r27 := r26.ext hx5
      refine vl rfl rfl xas <| nl <| wp_seq <| rg <| vl rfl rfl xmv <| vl rfl rfl xmv <| scpr (l := x7) (k := x6) rfl rfl Try.underlying27 ti52 o1 r27 fun w6 c13 hch1 o2 => ?_
      have k5 := Ext.chg k4 hch1 (Nat.le_trans k3.size (Row.ge o1))
      have k6 := Ext.chg hx5 hch1 (Nat.le_trans (Nat.le_refl _) (Row.ge o1))
      refine nl <| wp_seq <| rg <| vl rfl rfl xmv <| vl rfl rfl xmv <| vl rfl rfl xas <| vl rfl rfl xas <| vl rfl rfl xas <| nl <| ?_
      cases hF
      exact wp_ret <| rt rfl (.tmp rfl rfl (.tmp rfl rfl (.tmp rfl rfl .nil))) ⟨_, rfl, o2.rv, k5⟩

set_option maxHeartbeats 4000000 in
theorem c15 {w0 : World}  {F : Nat} {r : Bool} (hF : law10_Works F = some r) :
    Calls Try.prog 15 [].toArray w0 (Ret fun v w' => v = .bool r ∧ Ext w0 w') := by
  unfold law10_Works at hF
  refine entr (n := 155) Try.func15 rfl rfl rfl <| wp_seq <| rg <| vl rfl rfl xas <| nl <| wp_seq <| rg <| ?_
  have hz := bs hF; obtain ⟨x1, Ex1, hF⟩ := hz
  refine cl rfl rfl (xc cb39 mn) (c39 Ex1) ?_
  rintro _ w1 ⟨u1, rfl, r1, hx1⟩
  have hz := id r1; obtain ⟨_, rfl, ⟨_, _, rfl, rfl, ⟨_, _, rfl, ⟨a1, c1, rfl, p1, q1, e1⟩, ⟨_, _, rfl, ⟨a2, c2, rfl, p2, q2, e2⟩, ⟨_, _, rfl, ⟨a3, c3, rfl, p3, q3, e3⟩, ⟨a4, c4, rfl, p4, q4, e4⟩⟩⟩⟩⟩⟩ := hz
  have r2 := RV.of1 p1 q1 e1
  have r3 := RV.of1 p2 q2 e2
  have r4 := RV.of1 p3 q3 e3
  have r5 := RV.of1 p4 q4 e4
  refine sal ti26 fun b1 w2 hx2 hg1 hb1 => ?_
  have k1 := hx1.tr hx2
  have r6 := r2.ext hx2
  have r7 := r3.ext hx2
  have r8 := r4.ext hx2
  have r9 := r5.ext hx2
  have r10 := r1.ext hx2
  refine sst rfl rfl rfl ti26 hb1 rfl rfl (ble rfl) fun w3 hch1 hb2 => ?_
  have k2 := Ext.chg k1 hch1 (Nat.le_trans hx1.size hg1)
  have k3 := Ext.chg hx2 hch1 (Nat.le_trans (Nat.le_refl _) hg1)
  have r11 := r2.ext k3
  have r12 := r3.ext k3
  have r13 := r4.ext k3
  have r14 := r5.ext k3
  have hb3 : Bx w3 b1 26 [.int .i64 x1.1, .slice a1 x1.2.1.length c1, .slice a2 x1.2.2.1.length c2, .slice a3 x1.2.2.2.1.length c3, .slice a4 x1.2.2.2.2.length c4] := hb2
  refine nl <| wp_seq <| rg <| vl rfl rfl (xlda rfl ti26 rfl (Bx.cs hb3)) <| sbsv (cs := [.int .i64 0]) Try.underlying22 ti3 rfl (pc rfl pn) rfl rfl rfl rfl rfl fun b2 w4 hx3 hg2 hb4 => ?_
  have k4 := k2.tr hx3
  have k5 := k3.tr hx3
  have hb5 := hb3.ext hx3
  have r15 := r11.ext hx3
  have r16 := r12.ext hx3
  have r17 := r13.ext hx3
  have r18 := r14.ext hx3
  have o1 : Row (α := Int) 3 w3.heap.size w4 (.slice (some ⟨b2, 0, none⟩) 1 1) [0] := Row.lit hg2 hb4 rfl (ble rfl)
  have hz := bs hF; obtain ⟨x2, Ex2, hF⟩ := hz
  refine cl rfl rfl (xc cb33 (mc rfl (mc rfl mn))) (c33 (show RV (α := (Int × (List Int) × (List ((List Int) × Int)) × (List ((List Int) × Int)) × (List (List Int)))) _ (.agg [.int .i64 x1.1, .slice a1 x1.2.1.length c1, .slice a2 x1.2.2.1.length c2, .slice a3 x1.2.2.2.1.length c3, .slice a4 x1.2.2.2.2.length c4].toArray) (x1.1, x1.2.1, x1.2.2.1, x1.2.2.2.1, x1.2.2.2.2) from ⟨_, rfl, ⟨[.int .i64 x1.1], [.slice a1 x1.2.1.length c1] ++ ([.slice a2 x1.2.2.1.length c2] ++ ([.slice a3 x1.2.2.2.1.length c3] ++ [.slice a4 x1.2.2.2.2.length c4])), rfl, rfl, ⟨[.slice a1 x1.2.1.length c1], [.slice a2 x1.2.2.1.length c2] ++ ([.slice a3 x1.2.2.2.1.length c3] ++ [.slice a4 x1.2.2.2.2.length c4]), rfl, r15.rep1, ⟨[.slice a2 x1.2.2.1.length c2], [.slice a3 x1.2.2.2.1.length c3] ++ [.slice a4 x1.2.2.2.2.length c4], rfl, r16.rep1, ⟨[.slice a3 x1.2.2.2.1.length c3], [.slice a4 x1.2.2.2.2.length c4], rfl, r17.rep1, r18.rep1⟩⟩⟩⟩⟩) o1.rv Ex2) ?_
  rintro _ w5 ⟨u2, rfl, r20, hx4⟩
  have k6 := k4.tr hx4
  have k7 := k5.tr hx4
  have k8 := hx3.tr hx4
  have hb6 := hb5.ext hx4
  have r21 := r15.ext hx4
  have r22 := r16.ext hx4
  have r23 := r17.ext hx4
  have r24 := r18.ext hx4
  have hz := RV.sl r20; obtain ⟨a5, c5, rfl, -, -, -⟩ := hz
  refine vl rfl rfl xmv <| vl rfl rfl (xext rfl rfl) <| vl rfl rfl (xext rfl rfl) <| vl rfl rfl xas <| vl rfl rfl xas <| nl <| wp_seq <| rg <| vl rfl rfl (xlda rfl ti26 rfl (Bx.cs hb6)) <| sbsv (cs := [.int .i64 1]) Try.underlying22 ti3 rfl (pc rfl pn) rfl rfl rfl rfl rfl fun b3 w6 hx5 hg3 hb7 => ?_
  have k9 := k6.tr hx5
  have k10 := k7.tr hx5
  have k11 := k8.tr hx5
  have hb8 := hb6.ext hx5
  have r25 := r21.ext hx5
  have r26 := r22.ext hx5
  have r27 := r23.ext hx5
  have r28 := r24.ext hx5
  have r29 := r20.ext hx5
  have o2 : Row (α := Int) 3 w5.heap.size w6 (.slice (some ⟨b3, 0, none⟩) 1 1) [1] := Row.lit hg3 hb7 rfl (ble rfl)
  have hz := bs hF; obtain ⟨x3, Ex3, hF⟩ := hz
  refine cl rfl rfl (xc cb32 (mc rfl (mc rfl mn))) (c32 (show RV (α := (Int × (List Int) × (List ((List Int) × Int)) × (List ((List Int) × Int)) × (List (List Int)))) _ (.agg [.int .i64 x1.1, .slice a1 x1.2.1.length c1, .slice a2 x1.2.2.1.length c2, .slice a3 x1.2.2.2.1.length c3, .slice a4 x1.2.2.2.2.length c4].toArray) (x1.1, x1.2.1, x1.2.2.1, x1.2.2.2.1, x1.2.2.2.2) from ⟨_, rfl, ⟨[.int .i64 x1.1], [.slice a1 x1.2.1.length c1] ++ ([.slice a2 x1.2.2.1.length c2] ++ ([.slice a3 x1.2.2.2.1.length c3] ++ [.slice a4 x1.2.2.2.2.length c4])), rfl, rfl, ⟨[.slice a1 x1.2.1.length c1], [.slice a2 x1.2.2.1.length c2] ++ ([.slice a3 x1.2.2.2.1.length c3] ++ [.slice a4 x1.2.2.2.2.length c4]), rfl, r25.rep1, ⟨[.slice a2 x1.2.2.1.length c2], [.slice a3 x1.2.2.2.1.length c3] ++ [.slice a4 x1.2.2.2.2.length c4], rfl, r26.rep1, ⟨[.slice a3 x1.2.2.2.1.length c3], [.slice a4 x1.2.2.2.2.length c4], rfl, r27.rep1, r28.rep1⟩⟩⟩⟩⟩) o2.rv Ex3) ?_
  rintro _ w7 ⟨rfl, hx6⟩
  have k12 := k9.tr hx6
  have k13 := k10.tr hx6
  have k14 := k11.tr hx6
  have k15 := hx5.tr hx6
  have hb9 := hb8.ext hx6
  have r31 := r25.ext hx6
  have r32 := r26.ext hx6
  have r33 := r27.ext hx6
  have r34 := r28.ext hx6
  have r35 := r29.ext hx6
  refine vl rfl rfl xas <| nl <| wp_seq <| rg <| vl rfl rfl (xlda rfl ti26 rfl (Bx.cs hb9)) <| sbsv (cs := [.int .i64 1, .int .i64 2]) Try.underlying22 ti3 rfl (pc rfl (pc rfl pn)) rfl rfl rfl rfl rfl fun b4 w8 hx7 hg4 hb10 => ?_
  have k16 := k12.tr hx7
  have k17 := k13.tr hx7
  have k18 := k14.tr hx7
  have k19 := k15.tr hx7
  have hb11 := hb9.ext hx7
  have r36 := r31.ext hx7
  have r37 := r32.ext hx7
  have r38 := r33.ext hx7
  have r39 := r34.ext hx7
  have r40 := r35.ext hx7
  have o3 : Row (α := Int) 3 w7.heap.size w8 (.slice (some ⟨b4, 0, none⟩) 2 2) [1, 2] := Row.lit hg4 hb10 rfl (ble rfl)
  have hz := bs hF; obtain ⟨x4, Ex4, hF⟩ := hz
  refine cl rfl rfl (xc cb32 (mc rfl (mc rfl mn))) (c32 (show RV (α := (Int × (List Int) × (List ((List Int) × Int)) × (List ((List Int) × Int)) × (List (List Int)))) _ (.agg [.int .i64 x1.1, .slice a1 x1.2.1.length c1, .slice a2 x1.2.2.1.length c2, .slice a3 x1.2.2.2.1.length c3, .slice a4 x1.2.2.2.2.length c4].toArray) (x1.1, x1.2.1, x1.2.2.1, x1.2.2.2.1, x1.2.2.2.2) from ⟨_, rfl, ⟨[.int .i64 x1.1], [.slice a1 x1.2.1.length c1] ++ ([.slice a2 x1.2.2.1.length c2] ++ ([.slice a3 x1.2.2.2.1.length c3] ++ [.slice a4 x1.2.2.2.2.length c4])), rfl, rfl, ⟨[.slice a1 x1.2.1.length c1], [.slice a2 x1.2.2.1.length c2] ++ ([.slice a3 x1.2.2.2.1.length c3] ++ [.slice a4 x1.2.2.2.2.length c4]), rfl, r36.rep1, ⟨[.slice a2 x1.2.2.1.length c2], [.slice a3 x1.2.2.2.1.length c3] ++ [.slice a4 x1.2.2.2.2.length c4], rfl, r37.rep1, ⟨[.slice a3 x1.2.2.2.1.length c3], [.slice a4 x1.2.2.2.2.length c4], rfl, r38.rep1, r39.rep1⟩⟩⟩⟩⟩) o3.rv Ex4) ?_
  rintro _ w9 ⟨rfl, hx8⟩
  have k20 := k16.tr hx8
  have k21 := k17.tr hx8
  have k22 := k18.tr hx8
  have k23 := k19.tr hx8
  have k24 := hx7.tr hx8
  have hb12 := hb11.ext hx8
  have r42 := r36.ext hx8
  have r43 := r37.ext hx8
  have r44 := r38.ext hx8
  have r45 := r39.ext hx8
  have r46 := r40.ext hx8
  refine vl rfl rfl xas <| nl <| wp_seq <| rg <| vl rfl rfl (xlda rfl ti26 rfl (Bx.cs hb12)) <| sbsv (cs := [.int .i64 0]) Try.underlying22 ti3 rfl (pc rfl pn) rfl rfl rfl rfl rfl fun b5 w10 hx9 hg5 hb13 => ?_
  have k25 := k20.tr hx9
  have k26 := k21.tr hx9
  have k27 := k22.tr hx9
  have k28 := k23.tr hx9
  have k29 := k24.tr hx9
  have hb14 := hb12.ext hx9
  have r47 := r42.ext hx9
  have r48 := r43.ext hx9
  have r49 := r44.ext hx9
  have r50 := r45.ext hx9
  have r51 := r46.ext hx9
  have o4 : Row (α := Int) 3 w9.heap.size w10 (.slice (some ⟨b5, 0, none⟩) 1 1) [0] := Row.lit hg5 hb13 rfl (ble rfl)
  have hz := bs hF; obtain ⟨x5, Ex5, hF⟩ := hz
  refine cl rfl rfl (xc cb16 (mc rfl (mc rfl mn))) (c16 (show RV (α := (Int × (List Int) × (List ((List Int) × Int)) × (List ((List Int) × Int)) × (List (List Int)))) _ (.agg [.int .i64 x1.1, .slice a1 x1.2.1.length c1, .slice a2 x1.2.2.1.length c2, .slice a3 x1.2.2.2.1.length c3, .slice a4 x1.2.2.2.2.length c4].toArray) (x1.1, x1.2.1, x1.2.2.1, x1.2.2.2.1, x1.2.2.2.2) from ⟨_, rfl, ⟨[.int .i64 x1.1], [.slice a1 x1.2.1.length c1] ++ ([.slice a2 x1.2.2.1.length c2] ++ ([.slice a3 x1.2.2.2.1.length c3] ++ [.slice a4 x1.2.2.2.2.length c4])), rfl, rfl, ⟨[.slice a1 x1.2.1.length c1], [.slice a2 x1.2.2.1.length c2] ++ ([.slice a3 x1.2.2.2.1.length c3] ++ [.slice a4 x1.2.2.2.2.length c4]), rfl, r47.rep1, ⟨[.slice a2 x1.2.2.1.length c2], [.slice a3 x1.2.2.2.1.length c3] ++ [.slice a4 x1.2.2.2.2.length c4], rfl, r48.rep1, ⟨[.slice a3 x1.2.2.2.1.length c3], [.slice a4 x1.2.2.2.2.length c4], rfl, r49.rep1, r50.rep1⟩⟩⟩⟩⟩) o4.rv Ex5) ?_
  rintro _ w11 ⟨u3, rfl, r53, hx10⟩
  have k30 := k25.tr hx10
  have k31 := k26.tr hx10
  have k32 := k27.tr hx10
  have k33 := k28.tr hx10
  have k34 := k29.tr hx10
  have k35 := hx9.tr hx10
  have hb15 := hb14.ext hx10
  have r54 := r47.ext hx10
  have r55 := r48.ext hx10
  have r56 := r49.ext hx10
  have r57 := r50.ext hx10
  have r58 := r51.ext hx10
  have hz := RV.sl r53; obtain ⟨a6, c6, rfl, -, -, -⟩ := hz
  refine vl rfl rfl xmv <| vl rfl rfl (xext rfl rfl) <| vl rfl rfl (xext rfl rfl) <| vl rfl rfl (xext rfl rfl) <| vl rfl rfl xas <| vl rfl rfl xas <| vl rfl rfl xas <| nl <| wp_seq <| rg <| vl rfl rfl (xlda rfl ti26 rfl (Bx.cs hb15)) <| sbsv (cs := [.int .i64 0]) Try.underlying22 ti3 rfl (pc rfl pn) rfl rfl rfl rfl rfl fun b6 w12 hx11 hg6 hb16 => ?_
  have k36 := k30.tr hx11
  have k37 := k31.tr hx11
  have k38 := k32.tr hx11
  have k39 := k33.tr hx11
  have k40 := k34.tr hx11
  have k41 := k35.tr hx11
  have hb17 := hb15.ext hx11
  have r59 := r54.ext hx11
  have r60 := r55.ext hx11
  have r61 := r56.ext hx11
  have r62 := r57.ext hx11
  have r63 := r58.ext hx11
  have r64 := r53.ext hx11
  have o5 : Row (α := Int) 3 w11.heap.size w12 (.slice (some ⟨b6, 0, none⟩) 1 1) [0] := Row.lit hg6 hb16 rfl (ble rfl)
  refine vl rfl rfl (xbdv (r := [.bool false, .int .i64 0]) ti52 sp52 (pc rfl pn) rfl) <| vl rfl rfl (xbdv (r := [.bool true, .int .i64 0]) ti52 sp52 (pc rfl (pc rfl pn)) rfl) <| sbsv (cs := [.bool false, .int .i64 0, .bool true, .int .i64 0]) Try.underlying27 ti52 rfl (pc rfl (pc rfl pn)) rfl rfl rfl rfl rfl fun b7 w13 hx12 hg7 hb18 => ?_
  have k42 := k36.tr hx12
  have k43 := k37.tr hx12
  have k44 := k38.tr hx12
  have k45 := k39.tr hx12
  have k46 := k40.tr hx12
  have k47 := k41.tr hx12
  have k48 := hx11.tr hx12
  have hb19 := hb17.ext hx12
  have r66 := r59.ext hx12
  have r67 := r60.ext hx12
  have r68 := r61.ext hx12
  have r69 := r62.ext hx12
  have r70 := r63.ext hx12
  have r71 := r64.ext hx12
  have o6 := o5.ext hx12
  have o7 : Row (α := (Bool × Int)) 52 w12.heap.size w13 (.slice (some ⟨b7, 0, none⟩) 2 2) [(false, 0), (true, 0)] := Row.lit hg7 hb18 rfl (ble rfl)
  have hz := bs hF; obtain ⟨x6, Ex6, hF⟩ := hz
  refine cl rfl rfl (xc cb17 (mc rfl (mc rfl (mc rfl (mc rfl mn))))) (c17 (show RV (α := (Int × (List Int) × (List ((List Int) × Int)) × (List ((List Int) × Int)) × (List (List Int)))) _ (.agg [.int .i64 x1.1, .slice a1 x1.2.1.length c1, .slice a2 x1.2.2.1.length c2, .slice a3 x1.2.2.2.1.length c3, .slice a4 x1.2.2.2.2.length c4].toArray) (x1.1, x1.2.1, x1.2.2.1, x1.2.2.2.1, x1.2.2.2.2) from ⟨_, rfl, ⟨[.int .i64 x1.1], [.slice a1 x1.2.1.length c1] ++ ([.slice a2 x1.2.2.1.length c2] ++ ([.slice a3 x1.2.2.2.1.length c3] ++ [.slice a4 x1.2.2.2.2.length c4])), rfl, rfl, ⟨[.slice a1 x1.2.1.length c1], [.slice a2 x1.2.2.1.length c2] ++ ([.slice a3 x1.2.2.2.1.length c3] ++ [.slice a4 x1.2.2.2.2.length c4]), rfl, r66.rep1, ⟨[.slice a2 x1.2.2.1.length c2], [.slice a3 x1.2.2.2.1.length c3] ++ [.slice a4 x1.2.2.2.2.length c4], rfl, r67.rep1, ⟨[.slice a3 x1.2.2.2.1.length c3], [.slice a4 x1.2.2.2.2.length c4], rfl, r68.rep1, r69.rep1⟩⟩⟩⟩⟩) o6.rv o7.rv Ex6) ?_
  rintro _ w14 ⟨rfl, hx13⟩
  have k49 := k42.tr hx13
  have k50 := k43.tr hx13
  have k51 := k44.tr hx13
  have k52 := k45.tr hx13
  have k53 := k46.tr hx13
  have k54 := k47.tr hx13
  have k55 := k48.tr hx13
  have k56 := hx12.tr hx13
  have hb20 := hb19.ext hx13
  have r73 := r66.ext hx13
  have r74 := r67.ext hx13
  have r75 := r68.ext hx13
  have r76 := r69.ext hx13
  have r77 := r70.ext hx13
  have r78 := r71.ext hx13
  refine vl rfl rfl xas <| nl <| wp_seq <| rg <| vl rfl rfl (xlda rfl ti26 rfl (Bx.cs hb20)) <| sbsv (cs := [.int .i64 0]) Try.underlying22 ti3 rfl (pc rfl pn) rfl rfl rfl rfl rfl fun b8 w15 hx14 hg8 hb21 => ?_
  have k57 := k49.tr hx14
  have k58 := k50.tr hx14
  have k59 := k51.tr hx14
  have k60 := k52.tr hx14
  have k61 := k53.tr hx14
  have k62 := k54.tr hx14
  have k63 := k55.tr hx14
  have k64 := k56.tr hx14
  have hb22 := hb20.ext hx14
  have r79 := r73.ext hx14
  have r80 := r74.ext hx14
  have r81 := r75.ext hx14
  have r82 := r76.ext hx14
  have r83 := r77.ext hx14
  have r84 := r78.ext hx14
  have o8 : Row (α := Int) 3 w14.heap.size w15 (.slice (some ⟨b8, 0, none⟩) 1 1) [0] := Row.lit hg8 hb21 rfl (ble rfl)
  refine vl rfl rfl (xbdv (r := [.bool true, .int .i64 0]) ti52 sp52 (pc rfl (pc rfl pn)) rfl) <| sbsv (cs := [.bool true, .int .i64 0]) Try.underlying27 ti52 rfl (pc rfl pn) rfl rfl rfl rfl rfl fun b9 w16 hx15 hg9 hb23 => ?_
  have k65 := k57.tr hx15
  have k66 := k58.tr hx15
  have k67 := k59.tr hx15
  have k68 := k60.tr hx15
  have k69 := k61.tr hx15
  have k70 := k62.tr hx15
  have k71 := k63.tr hx15
  have k72 := k64.tr hx15
  have k73 := hx14.tr hx15
  have hb24 := hb22.ext hx15
  have r86 := r79.ext hx15
  have r87 := r80.ext hx15
  have r88 := r81.ext hx15
  have r89 := r82.ext hx15
  have r90 := r83.ext hx15
  have r91 := r84.ext hx15
  have o9 := o8.ext hx15
  have o10 : Row (α := (Bool × Int)) 52 w15.heap.size w16 (.slice (some ⟨b9, 0, none⟩) 1 1) [(true, 0)] := Row.lit hg9 hb23 rfl (ble rfl)
  have hz := bs hF; obtain ⟨x7, Ex7, hF⟩ := hz
  refine cl rfl rfl (xc cb17 (mc rfl (mc rfl (mc rfl (mc rfl mn))))) (c17 (show RV (α := (Int × (List Int) × (List ((List Int) × Int)) × (List ((List Int) × Int)) × (List (List Int)))) _ (.agg [.int .i64 x1.1, .slice a1 x1.2.1.length c1, .slice a2 x1.2.2.1.length c2, .slice a3 x1.2.2.2.1.length c3, .slice a4 x1.2.2.2.2.length c4].toArray) (x1.1, x1.2.1, x1.2.2.1, x1.2.2.2.1, x1.2.2.2.2) from ⟨_, rfl, ⟨[.int .i64 x1.1], [.slice a1 x1.2.1.length c1] ++ ([.slice a2 x1.2.2.1.length c2] ++ ([.slice a3 x1.2.2.2.1.length c3] ++ [.slice a4 x1.2.2.2.2.length c4])), rfl, rfl, ⟨[.slice a1 x1.2.1.length c1], [.slice a2 x1.2.2.1.length c2] ++ ([.slice a3 x1.2.2.2.1.length c3] ++ [.slice a4 x1.2.2.2.2.length c4]), rfl, r86.rep1, ⟨[.slice a2 x1.2.2.1.length c2], [.slice a3 x1.2.2.2.1.length c3] ++ [.slice a4 x1.2.2.2.2.length c4], rfl, r87.rep1, ⟨[.slice a3 x1.2.2.2.1.length c3], [.slice a4 x1.2.2.2.2.length c4], rfl, r88.rep1, r89.rep1⟩⟩⟩⟩⟩) o9.rv o10.rv Ex7) ?_
  rintro _ w17 ⟨rfl, hx16⟩
  have k74 := k65.tr hx16
  have k75 := k66.tr hx16
  have k76 := k67.tr hx16
  have k77 := k68.tr hx16
  have k78 := k69.tr hx16
  have k79 := k70.tr hx16
  have k80 := k71.tr hx16
  have k81 := k72.tr hx16
  have k82 := k73.tr hx16
  have k83 := hx15.tr hx16
  have hb25 := hb24.ext hx16
  have r93 := r86.ext hx16
  have r94 := r87.ext hx16
  have r95 := r88.ext hx16
  have r96 := r89.ext hx16
  have r97 := r90.ext hx16
  have r98 := r91.ext hx16
  refine vl rfl rfl xas <| nl <| wp_seq <| rg <| vl rfl rfl (xlda rfl ti26 rfl (Bx.cs hb25)) <| ?_
  have hz := bs hF; obtain ⟨x8, Ex8, hF⟩ := hz
  refine cl rfl rfl (xc cb21 (mc rfl mn)) (c21 (show RV (α := (Int × (List Int) × (List ((List Int) × Int)) × (List ((List Int) × Int)) × (List (List Int)))) _ (.agg [.int .i64 x1.1, .slice a1 x1.2.1.length c1, .slice a2 x1.2.2.1.length c2, .slice a3 x1.2.2.2.1.length c3, .slice a4 x1.2.2.2.2.length c4].toArray) (x1.1, x1.2.1, x1.2.2.1, x1.2.2.2.1, x1.2.2.2.2) from ⟨_, rfl, ⟨[.int .i64 x1.1], [.slice a1 x1.2.1.length c1] ++ ([.slice a2 x1.2.2.1.length c2] ++ ([.slice a3 x1.2.2.2.1.length c3] ++ [.slice a4 x1.2.2.2.2.length c4])), rfl, rfl, ⟨[.slice a1 x1.2.1.length c1], [.slice a2 x1.2.2.1.length c2] ++ ([.slice a3 x1.2.2.2.1.length c3] ++ [.slice a4 x1.2.2.2.2.length c4]), rfl, r93.rep1, ⟨[.slice a2 x1.2.2.1.length c2], [.slice a3 x1.2.2.2.1.length c3] ++ [.slice a4 x1.2.2.2.2.length c4], rfl, r94.rep1, ⟨[.slice a3 x1.2.2.2.1.length c3], [.slice a4 x1.2.2.2.2.length c4], rfl, r95.rep1, r96.rep1⟩⟩⟩⟩⟩) Ex8) ?_
  rintro _ w18 ⟨u4, rfl, r99, hx17⟩
  have k84 := k74.tr hx17
  have k85 := k75.tr hx17
  have k86 := k76.tr hx17
  have k87 := k77.tr hx17
  have k88 := k78.tr hx17
  have k89 := k79.tr hx17
  have k90 := k80.tr hx17
  have k91 := k81.tr hx17
  have k92 := k82.tr hx17
  have k93 := k83.tr hx17
  have hb26 := hb25.ext hx17
  have r100 := r93.ext hx17
  have r101 := r94.ext hx17
  have r102 := r95.ext hx17
  have r103 := r96.ext hx17
  have r104 := r97.ext hx17
  have r105 := r98.ext hx17
  have hz := RV.sl r99; obtain ⟨a7, c7, rfl, -, -, -⟩ := hz
  refine vl rfl rfl xmv <| vl rfl rfl (xext rfl rfl) <| vl rfl rfl (xext rfl rfl) <| vl rfl rfl xas <| vl rfl rfl xas <| nl <| wp_seq <| rg <| vl rfl rfl (xlda rfl ti26 rfl (Bx.cs hb26)) <| ?_
  have hz := bs hF; obtain ⟨x9, Ex9, hF⟩ := hz
  refine cl rfl rfl (xc cb24 (mc rfl mn)) (c24 (show RV (α := (Int × (List Int) × (List ((List Int) × Int)) × (List ((List Int) × Int)) × (List (List Int)))) _ (.agg [.int .i64 x1.1, .slice a1 x1.2.1.length c1, .slice a2 x1.2.2.1.length c2, .slice a3 x1.2.2.2.1.length c3, .slice a4 x1.2.2.2.2.length c4].toArray) (x1.1, x1.2.1, x1.2.2.1, x1.2.2.2.1, x1.2.2.2.2) from ⟨_, rfl, ⟨[.int .i64 x1.1], [.slice a1 x1.2.1.length c1] ++ ([.slice a2 x1.2.2.1.length c2] ++ ([.slice a3 x1.2.2.2.1.length c3] ++ [.slice a4 x1.2.2.2.2.length c4])), rfl, rfl, ⟨[.slice a1 x1.2.1.length c1], [.slice a2 x1.2.2.1.length c2] ++ ([.slice a3 x1.2.2.2.1.length c3] ++ [.slice a4 x1.2.2.2.2.length c4]), rfl, r100.rep1, ⟨[.slice a2 x1.2.2.1.length c2], [.slice a3 x1.2.2.2.1.length c3] ++ [.slice a4 x1.2.2.2.2.length c4], rfl, r101.rep1, ⟨[.slice a3 x1.2.2.2.1.length c3], [.slice a4 x1.2.2.2.2.length c4], rfl, r102.rep1, r103.rep1⟩⟩⟩⟩⟩) Ex9) ?_
  rintro _ w19 ⟨u5, rfl, r106, hx18⟩
  have k94 := k84.tr hx18
  have k95 := k85.tr hx18
  have k96 := k86.tr hx18
  have k97 := k87.tr hx18
  have k98 := k88.tr hx18
  have k99 := k89.tr hx18
  have k100 := k90.tr hx18
  have k101 := k91.tr hx18
  have k102 := k92.tr hx18
  have k103 := k93.tr hx18
  have hb27 := hb26.ext hx18
  have r107 := r100.ext hx18
  have r108 := r101.ext hx18
  have r109 := r102.ext hx18
  have r110 := r103.ext hx18
  have r111 := r104.ext hx18
  have r112 := r105.ext hx18
  have r113 := r99.ext hx18
  have hz := RV.sl r106; obtain ⟨a8, c8, rfl, -, -, -⟩ := hz
  refine vl rfl rfl xmv <| vl rfl rfl (xext rfl rfl) <| vl rfl rfl (xext rfl rfl) <| vl rfl rfl xas <| vl rfl rfl xas <| nl <| wp_seq <| rg <| vl rfl rfl (xlda rfl ti26 rfl (Bx.cs hb27)) <| sbsv (cs := [.int .i64 0]) Try.underlying22 ti3 rfl (pc rfl pn) rfl rfl rfl rfl rfl fun b10 w20 hx19 hg10 hb28 => ?_
  have k104 := k94.tr hx19
  have k105 := k95.tr hx19
  have k106 := k96.tr hx19
  have k107 := k97.tr hx19
  have k108 := k98.tr hx19
  have k109 := k99.tr hx19
  have k110 := k100.tr hx19
  have k111 := k101.tr hx19
  have k112 := k102.tr hx19
  have k113 := k103.tr hx19
  have hb29 := hb27.ext hx19
  have r114 := r107.ext hx19
  have r115 := r108.ext hx19
  have r116 := r109.ext hx19
  have r117 := r110.ext hx19
  have r118 := r111.ext hx19
  have r119 := r112.ext hx19
  have r120 := r113.ext hx19
  have r121 := r106.ext hx19
  have o11 : Row (α := Int) 3 w19.heap.size w20 (.slice (some ⟨b10, 0, none⟩) 1 1) [0] := Row.lit hg10 hb28 rfl (ble rfl)
  refine sbsv (cs := [.int .i64 1, .int .i64 2]) Try.underlying22 ti3 rfl (pc rfl (pc rfl pn)) rfl rfl rfl rfl rfl fun b11 w21 hx20 hg11 hb30 => ?_
  have k114 := k104.tr hx20
  have k115 := k105.tr hx20
  have k116 := k106.tr hx20
  have k117 := k107.tr hx20
  have k118 := k108.tr hx20
  have k119 := k109.tr hx20
  have k120 := k110.tr hx20
  have k121 := k111.tr hx20
  have k122 := k112.tr hx20
  have k123 := k113.tr hx20
  have k124 := hx19.tr hx20
  have hb31 := hb29.ext hx20
  have r123 := r114.ext hx20
  have r124 := r115.ext hx20
  have r125 := r116.ext hx20
  have r126 := r117.ext hx20
  have r127 := r118.ext hx20
  have r128 := r119.ext hx20
  have r129 := r120.ext hx20
  have r130 := r121.ext hx20
  have o12 := o11.ext hx20
  have o13 : Row (α := Int) 3 w20.heap.size w21 (.slice (some ⟨b11, 0, none⟩) 2 2) [1, 2] := Row.lit hg11 hb30 rfl (ble rfl)
  refine sbsv (cs := [.slice (some ⟨b10, 0, none⟩) ([0] : List Int).length 1, .slice (some ⟨b11, 0, none⟩) ([1, 2] : List Int).length 2]) Try.underlying24 ti22 rfl (pc rfl (pc rfl pn)) rfl rfl rfl rfl rfl fun b12 w22 hx21 hg12 hb32 => ?_
  have k125 := k114.tr hx21
  have k126 := k115.tr hx21
  have k127 := k116.tr hx21
  have k128 := k117.tr hx21
  have k129 := k118.tr hx21
  have k130 := k119.tr hx21
  have k131 := k120.tr hx21
  have k132 := k121.tr hx21
  have k133 := k122.tr hx21
  have k134 := k123.tr hx21
  have k135 := k124.tr hx21
  have k136 := hx20.tr hx21
  have hb33 := hb31.ext hx21
  have r133 := r123.ext hx21
  have r134 := r124.ext hx21
  have r135 := r125.ext hx21
  have r136 := r126.ext hx21
  have r137 := r127.ext hx21
  have r138 := r128.ext hx21
  have r139 := r129.ext hx21
  have r140 := r130.ext hx21
  have o14 := o12.ext hx21
  have o15 := o13.ext hx21
  have r132 : RV w22 (.slice (some ⟨b12, 0, none⟩) 2 2) ([([0] : List Int), ([1, 2] : List Int)] : List (List Int)) := RV.lit hb32 (css := [[.slice (some ⟨b10, 0, none⟩) ([0] : List Int).length 1], [.slice (some ⟨b11, 0, none⟩) ([1, 2] : List Int).length 2]]) rfl ⟨o14.rv.rep1, o15.rv.rep1, trivial⟩ rfl (ble rfl)
  have hz := bs hF; obtain ⟨x10, Ex10, hF⟩ := hz
  refine cl rfl rfl (xc cb26 (mc rfl (mc rfl mn))) (c26 (show RV (α := (Int × (List Int) × (List ((List Int) × Int)) × (List ((List Int) × Int)) × (List (List Int)))) _ (.agg [.int .i64 x1.1, .slice a1 x1.2.1.length c1, .slice a2 x1.2.2.1.length c2, .slice a3 x1.2.2.2.1.length c3, .slice a4 x1.2.2.2.2.length c4].toArray) (x1.1, x1.2.1, x1.2.2.1, x1.2.2.2.1, x1.2.2.2.2) from ⟨_, rfl, ⟨[.int .i64 x1.1], [.slice a1 x1.2.1.length c1] ++ ([.slice a2 x1.2.2.1.length c2] ++ ([.slice a3 x1.2.2.2.1.length c3] ++ [.slice a4 x1.2.2.2.2.length c4])), rfl, rfl, ⟨[.slice a1 x1.2.1.length c1], [.slice a2 x1.2.2.1.length c2] ++ ([.slice a3 x1.2.2.2.1.length c3] ++ [.slice a4 x1.2.2.2.2.length c4]), rfl, r133.rep1, ⟨[.slice a2 x1.2.2.1.length c2], [.slice a3 x1.2.2.2.1.length c3] ++ [.slice a4 x1.2.2.2.2.length c4], rfl, r134.rep1, ⟨[.slice a3 x1.2.2.2.1.length c3], [.slice a4 x1.2.2.2.2.length c4], rfl, r135.rep1, r136.rep1⟩⟩⟩⟩⟩) r132 Ex10) ?_
  rintro _ w23 ⟨rfl, hx22⟩
  have k137 := k125.tr hx22
  have k138 := k126.tr hx22
  have k139 := k127.tr hx22
  have k140 := k128.tr hx22
  have k141 := k129.tr hx22
  have k142 := k130.tr hx22
  have k143 := k131.tr hx22
  have k144 := k132.tr hx22
  have k145 := k133.tr hx22
  have k146 := k134.tr hx22
  have k147 := k135.tr hx22
  have k148 := k136.tr hx22
  have k149 := hx21.tr hx22
  have hb34 := hb33.ext hx22
  have r141 := r133.ext hx22
  have r142 := r134.ext hx22
  have r143 := r135.ext hx22
  have r144 := r136.ext hx22
  have r145 := r137.ext hx22
  have r146 := r138.ext hx22
  have r147 := r139.ext hx22
  have r148 := r140.ext hx22
  refine vl rfl rfl xmv <| vl rfl rfl (xext rfl rfl) <| vl rfl rfl (xext rfl rfl) <| vl rfl rfl xas <| vl rfl rfl xas <| nl <| wp_seq <| rg <| vl rfl rfl (xlda rfl ti26 rfl (Bx.cs hb34)) <| ?_
  have hz := bs hF; obtain ⟨x11, Ex11, hF⟩ := hz
  refine cl rfl rfl (xc cb28 (mc rfl mn)) (c28 (show RV (α := (Int × (List Int) × (List ((List Int) × Int)) × (List ((List Int) × Int)) × (List (List Int)))) _ (.agg [.int .i64 x1.1, .slice a1 x1.2.1.length c1, .slice a2 x1.2.2.1.length c2, .slice a3 x1.2.2.2.1.length c3, .slice a4 x1.2.2.2.2.length c4].toArray) (x1.1, x1.2.1, x1.2.2.1, x1.2.2.2.1, x1.2.2.2.2) from ⟨_, rfl, ⟨[.int .i64 x1.1], [.slice a1 x1.2.1.length c1] ++ ([.slice a2 x1.2.2.1.length c2] ++ ([.slice a3 x1.2.2.2.1.length c3] ++ [.slice a4 x1.2.2.2.2.length c4])), rfl, rfl, ⟨[.slice a1 x1.2.1.length c1], [.slice a2 x1.2.2.1.length c2] ++ ([.slice a3 x1.2.2.2.1.length c3] ++ [.slice a4 x1.2.2.2.2.length c4]), rfl, r141.rep1, ⟨[.slice a2 x1.2.2.1.length c2], [.slice a3 x1.2.2.2.1.length c3] ++ [.slice a4 x1.2.2.2.2.length c4], rfl, r142.rep1, ⟨[.slice a3 x1.2.2.2.1.length c3], [.slice a4 x1.2.2.2.2.length c4], rfl, r143.rep1, r144.rep1⟩⟩⟩⟩⟩) Ex11) ?_
  rintro _ w24 ⟨u6, rfl, r149, hx23⟩
  have k150 := k137.tr hx23
  have k151 := k138.tr hx23
  have k152 := k139.tr hx23
  have k153 := k140.tr hx23
  have k154 := k141.tr hx23
  have k155 := k142.tr hx23
  have k156 := k143.tr hx23
  have k157 := k144.tr hx23
  have k158 := k145.tr hx23
  have k159 := k146.tr hx23
  have k160 := k147.tr hx23
  have k161 := k148.tr hx23
  have k162 := k149.tr hx23
  have hb35 := hb34.ext hx23
  have r150 := r141.ext hx23
  have r151 := r142.ext hx23
  have r152 := r143.ext hx23
  have r153 := r144.ext hx23
  have r154 := r145.ext hx23
  have r155 := r146.ext hx23
  have r156 := r147.ext hx23
  have r157 := r148.ext hx23
  have hz := RV.sl r149; obtain ⟨a9, c9, rfl, -, -, -⟩ := hz
  refine vl rfl rfl xmv <| vl rfl rfl (xext rfl rfl) <| vl rfl rfl (xext rfl rfl) <| vl rfl rfl xas <| vl rfl rfl xas <| nl <| wp_seq <| wp_seq <| rg <| vl rfl rfl xmv <| vl rfl rfl (xneq rfl rfl) <| vl rfl rfl xmv <| gv rfl rfl rfl rfl (gw0 rfl) rfl (fun hc => xmva rfl) <| gv rfl rfl rfl rfl (gw0 rfl) rfl (fun hc => xneq (mv hc rfl) rfl) <| vl rfl rfl (xpo rfl rfl rfl) <| vl rfl rfl xmv <| gv rfl rfl rfl rfl (gw0 rfl) rfl (fun hc => xmva rfl) <| gv rfl rfl rfl rfl (gw0 rfl) rfl (fun hc => xneq (mv hc rfl) rfl) <| vl rfl rfl (xpo rfl rfl rfl) <| vl rfl rfl xmv <| gv rfl rfl rfl rfl (gw0 rfl) rfl (fun hc => xmva rfl) <| gv rfl rfl rfl rfl (gw0 rfl) rfl (fun hc => xneq (mv hc rfl) rfl) <| vl rfl rfl (xpo rfl rfl rfl) <| vl rfl rfl xmv <| gv rfl rfl rfl rfl (gw0 rfl) rfl (fun hc => xmva rfl) <| gv rfl rfl rfl rfl (gw0 rfl) rfl (fun hc => xneq (mv hc rfl) rfl) <| vl rfl rfl (xpo rfl rfl rfl) <| vl rfl rfl xmv <| gv rfl rfl rfl rfl (gw0 rfl) rfl (fun hc => xmva rfl) <| gv rfl rfl rfl rfl (gw0 rfl) rfl (fun hc => xneq (mv hc rfl) rfl) <| vl rfl rfl (xpo rfl rfl rfl) <| vl rfl rfl xmv <| gv rfl rfl rfl rfl (gw0 rfl) rfl (fun hc => xmva rfl) <| gv rfl rfl rfl rfl (gw0 rfl) rfl (fun hc => xneq (mv hc rfl) rfl) <| vl rfl rfl (xpo rfl rfl rfl) <| vl rfl rfl xmv <| gv rfl rfl rfl rfl (gw0 rfl) rfl (fun hc => xmva rfl) <| gv rfl rfl rfl rfl (gw0 rfl) rfl (fun hc => xneq (mv hc rfl) rfl) <| vl rfl rfl (xpo rfl rfl rfl) <| vl rfl rfl xmv <| gv rfl rfl rfl rfl (gw0 rfl) rfl (fun hc => xmva rfl) <| gv rfl rfl rfl rfl (gw0 rfl) rfl (fun hc => xneq (mv hc rfl) rfl) <| vl rfl rfl (xpo rfl rfl rfl) <| vl rfl rfl xmv <| gv rfl rfl rfl rfl (gw0 rfl) rfl (fun hc => xmva rfl) <| gv rfl rfl rfl rfl (gw0 rfl) rfl (fun hc => xneq (mv hc rfl) rfl) <| vl rfl rfl (xpo rfl rfl rfl) <| nl <| cnd rfl (fun h1 => ?_) (fun h1 => ?_)
  ·
    have hF := ifp hF h1
    refine wp_seq <| rg <| vl rfl rfl xas <| nl <| ?_
    cases hF
    exact wp_ret <| rt rfl (.tmp rfl rfl .nil) ⟨rfl, k150⟩
  ·
    have hF := ifn hF h1
    refine wp_skip <| wp_seq <| rg <| vl rfl rfl (xlda rfl ti26 rfl (Bx.cs hb35)) <| vl rfl rfl xmv <| ?_
    have hz := bs hF; obtain ⟨x12, Ex12, hF⟩ := hz
    refine cl rfl rfl (xc cb27 (mc rfl (mc rfl mn))) (c27 (show RV (α := (Int × (List Int) × (List ((List Int) × Int)) × (List ((List Int) × Int)) × (List (List Int)))) _ (.agg [.int .i64 x1.1, .slice a1 x1.2.1.length c1, .slice a2 x1.2.2.1.length c2, .slice a3 x1.2.2.2.1.length c3, .slice a4 x1.2.2.2.2.length c4].toArray) (x1.1, x1.2.1, x1.2.2.1, x1.2.2.2.1, x1.2.2.2.2) from ⟨_, rfl, ⟨[.int .i64 x1.1], [.slice a1 x1.2.1.length c1] ++ ([.slice a2 x1.2.2.1.length c2] ++ ([.slice a3 x1.2.2.2.1.length c3] ++ [.slice a4 x1.2.2.2.2.length c4])), rfl, rfl, ⟨[.slice a1 x1.2.1.length c1], [.slice a2 x1.2.2.1.length c2] ++ ([.slice a3 x1.2.2.2.1.length c3] ++ [.slice a4 x1.2.2.2.2.length c4]), rfl, r150.rep1, ⟨[.slice a2 x1.2.2.1.length c2], [.slice a3 x1.2.2.2.1.length c3] ++ [.slice a4 x1.2.2.2.2.length c4], rfl, r151.rep1, ⟨[.slice a3 x1.2.2.2.1.length c3], [.slice a4 x1.2.2.2.2.length c4], rfl, r152.rep1, r153.rep1⟩⟩⟩⟩⟩) r149 Ex12) ?_
    rintro _ w25 ⟨rfl, hx24⟩
    have k163 := k150.tr hx24
    have k164 := k151.tr hx24
    have k165 := k152.tr hx24
    have k166 := k153.tr hx24
    have k167 := k154.tr hx24
    have k168 := k155.tr hx24
    have k169 := k156.tr hx24
    have k170 := k157.tr hx24
    have k171 := k158.tr hx24
    have k172 := k159.tr hx24
    have k173 := k160.tr hx24
    have k174 := k161.tr hx24
    have k175 := k162.tr hx24
    have hb36 := hb35.ext hx24
    have r158 := r150.ext hx24
    have r159 := r151.ext hx24
    have r160 := r152.ext hx24
    have r161 := r153.ext hx24
    have r162 := r154.ext hx24
    have r163 := r155.ext hx24
    have r164 := r156.ext hx24
    have r165 := r157.ext hx24
    refine vl rfl rfl xmv <| vl rfl rfl (xext rfl rfl) <| vl rfl rfl (xext rfl rfl) <| vl rfl rfl xas <| vl rfl rfl xas <| nl <| wp_seq <| rg <| vl rfl rfl xmv <| vl rfl rfl (xeql rfl rfl) <| vl rfl rfl xmv <| gv rfl rfl rfl rfl (gw1 rfl) rfl (fun hc => xmva rfl) <| gv rfl rfl rfl rfl (gw1 rfl) rfl (fun hc => xeql (mv hc rfl) rfl) <| vl rfl rfl (xpa rfl rfl rfl) <| vl rfl rfl xmv <| gv rfl rfl rfl rfl (gw1 rfl) rfl (fun hc => xmva rfl) <| gv rfl rfl rfl rfl (gw1 rfl) rfl (fun hc => xeql (mv hc rfl) rfl) <| vl rfl rfl (xpa rfl rfl rfl) <| vl rfl rfl xmv <| gv rfl rfl rfl rfl (gw1 rfl) rfl (fun hc => xmva rfl) <| gm (fun v w => RV w v ([0, 1, 2, 3] : List Int) ∧ Ext w25 w) rfl rfl rfl rfl (gw1 rfl) rfl (fun hc => sbsv (cs := [.int .i64 0, .int .i64 1, .int .i64 2, .int .i64 3]) Try.underlying22 ti3 rfl (pc rfl (pc rfl (pc rfl (pc rfl pn)))) rfl rfl rfl rfl rfl fun b w' hx hg hb => nl ⟨_, rfl, (Row.lit (base := 0) (l := ([0, 1, 2, 3] : List Int)) (Nat.zero_le _) hb rfl (ble rfl)).rv, hx⟩) (fun v1 w26 hy1 hn1 => ?_)
    have hx25 : Ext w25 w26 := gx (fun h => (hy1 h).2) (fun h => (hn1 h).2 ▸ Ext.refl _)
    have k176 := k163.tr hx25
    have k177 := k164.tr hx25
    have k178 := k165.tr hx25
    have k179 := k166.tr hx25
    have k180 := k167.tr hx25
    have k181 := k168.tr hx25
    have k182 := k169.tr hx25
    have k183 := k170.tr hx25
    have k184 := k171.tr hx25
    have k185 := k172.tr hx25
    have k186 := k173.tr hx25
    have k187 := k174.tr hx25
    have k188 := k175.tr hx25
    have hb37 := hb36.ext hx25
    have r166 := r158.ext hx25
    have r167 := r159.ext hx25
    have r168 := r160.ext hx25
    have r169 := r161.ext hx25
    have r170 := r163.ext hx25
    have r171 := r164.ext hx25
    have r172 := r165.ext hx25
    have r173 := r162.ext hx25
    have hz := bs hF; obtain ⟨x13, Ex13, hF⟩ := hz
    refine gc rfl rfl rfl rfl (gw1 rfl) rfl (fun hc => xc cb23 (mc (mv hc rfl) (mc rfl mn))) (fun hc => (c23 r173 ((hy1 hc).1) (gdp Ex13 hc))) (fun v2 w27 hy2 hn2 => ?_)
    have hx26 : Ext w26 w27 := gx (fun h => (hy2 h).2) (fun h => (hn2 h).2 ▸ Ext.refl _)
    have e5 := mkw (fun h => (hy2 h).1) (fun h => (hn2 h).1)
    have k189 := k176.tr hx26
    have k190 := k177.tr hx26
    have k191 := k178.tr hx26
    have k192 := k179.tr hx26
    have k193 := k180.tr hx26
    have k194 := k181.tr hx26
    have k195 := k182.tr hx26
    have k196 := k183.tr hx26
    have k197 := k184.tr hx26
    have k198 := k185.tr hx26
    have k199 := k186.tr hx26
    have k200 := k187.tr hx26
    have k201 := k188.tr hx26
    have hb38 := hb37.ext hx26
    have r174 := r166.ext hx26
    have r175 := r167.ext hx26
    have r176 := r168.ext hx26
    have r177 := r169.ext hx26
    have r178 := r170.ext hx26
    have r179 := r171.ext hx26
    have r180 := r172.ext hx26
    refine vl rfl rfl (xpa rfl e5 rfl) <| vl rfl rfl xmv <| gv rfl rfl rfl rfl (gw1 rfl) rfl (fun hc => xmva rfl) <| gv rfl rfl rfl rfl (gw1 rfl) rfl (fun hc => xeql (mv hc rfl) rfl) <| vl rfl rfl (xpa rfl rfl rfl) <| vl rfl rfl xmv <| gv rfl rfl rfl rfl (gw1 rfl) rfl (fun hc => xlda rfl ti26 rfl (Bx.cs hb38)) <| gm (fun v w => RV w v ([0] : List Int) ∧ Ext w27 w) rfl rfl rfl rfl (gw1 rfl) rfl (fun hc => sbsv (cs := [.int .i64 0]) Try.underlying22 ti3 rfl (pc rfl pn) rfl rfl rfl rfl rfl fun b w' hx hg hb => nl ⟨_, rfl, (Row.lit (base := 0) (l := ([0] : List Int)) (Nat.zero_le _) hb rfl (ble rfl)).rv, hx⟩) (fun v3 w28 hy3 hn3 => ?_)
    have hx27 : Ext w27 w28 := gx (fun h => (hy3 h).2) (fun h => (hn3 h).2 ▸ Ext.refl _)
    have k202 := k189.tr hx27
    have k203 := k190.tr hx27
    have k204 := k191.tr hx27
    have k205 := k192.tr hx27
    have k206 := k193.tr hx27
    have k207 := k194.tr hx27
    have k208 := k195.tr hx27
    have k209 := k196.tr hx27
    have k210 := k197.tr hx27
    have k211 := k198.tr hx27
    have k212 := k199.tr hx27
    have k213 := k200.tr hx27
    have k214 := k201.tr hx27
    have r181 := r178.ext hx27
    have r182 := r179.ext hx27
    have r183 := r180.ext hx27
    have r184 := r174.ext hx27
    have r185 := r175.ext hx27
    have r186 := r176.ext hx27
    have r187 := r177.ext hx27
    refine gv rfl rfl rfl rfl (gw1 rfl) rfl (fun hc => xmva rfl) <| ?_
    have hz := bs hF; obtain ⟨x14, Ex14, hF⟩ := hz
    refine gc rfl rfl rfl rfl (gw1 rfl) rfl (fun hc => xc cb18 (mc (mv hc rfl) (mc rfl (mc rfl (mc (mv hc rfl) mn))))) (fun hc => (c18 (show RV (α := (Int × (List Int) × (List ((List Int) × Int)) × (List ((List Int) × Int)) × (List (List Int)))) _ (.agg [.int .i64 x1.1, .slice a1 x1.2.1.length c1, .slice a2 x1.2.2.1.length c2, .slice a3 x1.2.2.2.1.length c3, .slice a4 x1.2.2.2.2.length c4].toArray) (x1.1, x1.2.1, x1.2.2.1, x1.2.2.2.1, x1.2.2.2.2) from ⟨_, rfl, ⟨[.int .i64 x1.1], [.slice a1 x1.2.1.length c1] ++ ([.slice a2 x1.2.2.1.length c2] ++ ([.slice a3 x1.2.2.2.1.length c3] ++ [.slice a4 x1.2.2.2.2.length c4])), rfl, rfl, ⟨[.slice a1 x1.2.1.length c1], [.slice a2 x1.2.2.1.length c2] ++ ([.slice a3 x1.2.2.2.1.length c3] ++ [.slice a4 x1.2.2.2.2.length c4]), rfl, r184.rep1, ⟨[.slice a2 x1.2.2.1.length c2], [.slice a3 x1.2.2.2.1.length c3] ++ [.slice a4 x1.2.2.2.2.length c4], rfl, r185.rep1, ⟨[.slice a3 x1.2.2.2.1.length c3], [.slice a4 x1.2.2.2.2.length c4], rfl, r186.rep1, r187.rep1⟩⟩⟩⟩⟩) ((hy3 hc).1) r181 (gdp Ex14 hc))) (fun v4 w29 hy4 hn4 => ?_)
    have hx28 : Ext w28 w29 := gx (fun h => (hy4 h).2) (fun h => (hn4 h).2 ▸ Ext.refl _)
    have e6 := mkw (fun h => (hy4 h).1) (fun h => (hn4 h).1)
    have k215 := k202.tr hx28
    have k216 := k203.tr hx28
    have k217 := k204.tr hx28
    have k218 := k205.tr hx28
    have k219 := k206.tr hx28
    have k220 := k207.tr hx28
    have k221 := k208.tr hx28
    have k222 := k209.tr hx28
    have k223 := k210.tr hx28
    have k224 := k211.tr hx28
    have k225 := k212.tr hx28
    have k226 := k213.tr hx28
    have k227 := k214.tr hx28
    have r188 := r182.ext hx28
    have r189 := r183.ext hx28
    refine gv rfl rfl rfl rfl (gw1 rfl) rfl (fun hc => xeql (mv hc e6) rfl) <| vl rfl rfl (xpa rfl rfl rfl) <| vl rfl rfl xmv <| gv rfl rfl rfl rfl (gw1 rfl) rfl (fun hc => xmva rfl) <| gm (fun v w => RV w v ([0, (-1), 0] : List Int) ∧ Ext w29 w) rfl rfl rfl rfl (gw1 rfl) rfl (fun hc => sbsv (cs := [.int .i64 0, .int .i64 (-1), .int .i64 0]) Try.underlying22 ti3 rfl (pc rfl (pc rfl (pc rfl pn))) rfl rfl rfl rfl rfl fun b w' hx hg hb => nl ⟨_, rfl, (Row.lit (base := 0) (l := ([0, (-1), 0] : List Int)) (Nat.zero_le _) hb rfl (ble rfl)).rv, hx⟩) (fun v5 w30 hy5 hn5 => ?_)
    have hx29 : Ext w29 w30 := gx (fun h => (hy5 h).2) (fun h => (hn5 h).2 ▸ Ext.refl _)
    have k228 := k215.tr hx29
    have k229 := k216.tr hx29
    have k230 := k217.tr hx29
    have k231 := k218.tr hx29
    have k232 := k219.tr hx29
    have k233 := k220.tr hx29
    have k234 := k221.tr hx29
    have k235 := k222.tr hx29
    have k236 := k223.tr hx29
    have k237 := k224.tr hx29
    have k238 := k225.tr hx29
    have k239 := k226.tr hx29
    have k240 := k227.tr hx29
    have r190 := r189.ext hx29
    have r191 := r188.ext hx29
    have hz := bs hF; obtain ⟨x15, Ex15, hF⟩ := hz
    refine gc rfl rfl rfl rfl (gw1 rfl) rfl (fun hc => xc cb23 (mc (mv hc rfl) (mc rfl mn))) (fun hc => (c23 r191 ((hy5 hc).1) (gdp Ex15 hc))) (fun v6 w31 hy6 hn6 => ?_)
    have hx30 : Ext w30 w31 := gx (fun h => (hy6 h).2) (fun h => (hn6 h).2 ▸ Ext.refl _)
    have e7 := mkw (fun h => (hy6 h).1) (fun h => (hn6 h).1)
    have k241 := k228.tr hx30
    have k242 := k229.tr hx30
    have k243 := k230.tr hx30
    have k244 := k231.tr hx30
    have k245 := k232.tr hx30
    have k246 := k233.tr hx30
    have k247 := k234.tr hx30
    have k248 := k235.tr hx30
    have k249 := k236.tr hx30
    have k250 := k237.tr hx30
    have k251 := k238.tr hx30
    have k252 := k239.tr hx30
    have k253 := k240.tr hx30
    have r192 := r190.ext hx30
    refine vl rfl rfl (xpa rfl e7 rfl) <| vl rfl rfl xmv <| gv rfl rfl rfl rfl (gw1 rfl) rfl (fun hc => xmva rfl) <| gm (fun v w => RV w v ([1] : List Int) ∧ Ext w31 w) rfl rfl rfl rfl (gw1 rfl) rfl (fun hc => sbsv (cs := [.int .i64 1]) Try.underlying22 ti3 rfl (pc rfl pn) rfl rfl rfl rfl rfl fun b w' hx hg hb => nl ⟨_, rfl, (Row.lit (base := 0) (l := ([1] : List Int)) (Nat.zero_le _) hb rfl (ble rfl)).rv, hx⟩) (fun v7 w32 hy7 hn7 => ?_)
    have hx31 : Ext w31 w32 := gx (fun h => (hy7 h).2) (fun h => (hn7 h).2 ▸ Ext.refl _)
    have k254 := k241.tr hx31
    have k255 := k242.tr hx31
    have k256 := k243.tr hx31
    have k257 := k244.tr hx31
    have k258 := k245.tr hx31
    have k259 := k246.tr hx31
    have k260 := k247.tr hx31
    have k261 := k248.tr hx31
    have k262 := k249.tr hx31
    have k263 := k250.tr hx31
    have k264 := k251.tr hx31
    have k265 := k252.tr hx31
    have k266 := k253.tr hx31
    have r193 := r192.ext hx31
    have hz := bs hF; obtain ⟨x16, Ex16, hF⟩ := hz
    refine gc rfl rfl rfl rfl (gw1 rfl) rfl (fun hc => xc cb23 (mc (mv hc rfl) (mc rfl mn))) (fun hc => (c23 r193 ((hy7 hc).1) (gdp Ex16 hc))) (fun v8 w33 hy8 hn8 => ?_)
    have hx32 : Ext w32 w33 := gx (fun h => (hy8 h).2) (fun h => (hn8 h).2 ▸ Ext.refl _)
    have e8 := mkw (fun h => (hy8 h).1) (fun h => (hn8 h).1)
    have k267 := k254.tr hx32
    have k268 := k255.tr hx32
    have k269 := k256.tr hx32
    have k270 := k257.tr hx32
    have k271 := k258.tr hx32
    have k272 := k259.tr hx32
    have k273 := k260.tr hx32
    have k274 := k261.tr hx32
    have k275 := k262.tr hx32
    have k276 := k263.tr hx32
    have k277 := k264.tr hx32
    have k278 := k265.tr hx32
    have k279 := k266.tr hx32
    refine vl rfl rfl (xpa rfl e8 rfl) <| vl rfl rfl xas <| nl <| ?_
    cases hF
    exact wp_ret <| rt rfl (.tmp rfl rfl .nil) ⟨rfl, k267⟩
end Go.Proofs.Ytdimoehnkagghaa
