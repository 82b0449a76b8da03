/-
  Each function of the program returns what its pure function computes, and leaves all memory that was there as it was. Condition: the pure function computes something.
-/
import Derived.Test.YthppacohnciinaaFacts
import Derived.Test.YthppacohnciinaaPureK
import Derived.Test.YthppacohnciinaaWalkH
namespace Go.Proofs.Ythppacohnciinaa
open Go Go.Md Go.RowKit
attribute [local irreducible] Go.wpList Go.Code.wp Go.Calls Go.Md.Rnd Go.Md.Mt

set_option maxHeartbeats 4000000 in
theorem c5 {w0 : World} {v0 : Value} {x0 : (Int × (List (Int × Int × Int)))} (r0 : RV w0 v0 x0) {v1 : Value} {x1 : (List (KI .u16))} (r1 : RV w0 v1 x1) {v2 : Value} {x2 : (List Int)} (r2 : RV w0 v2 x2) {x3 : Int} {F : Nat} {r : Bool} (hF : law01_SpeedHeld F x0 x1 x2 x3 = some r) :
    Calls Try.prog 5 [v0, v1, v2, .int .u8 x3].toArray w0 (Ret fun v w' => v = .bool r ∧ Ext w0 w') := by
  unfold law01_SpeedHeld at hF
  have hz := id r0; obtain ⟨_, rfl, ⟨_, _, rfl, rfl, ⟨a1, cq1, rfl, p1, q5, e1⟩⟩⟩ := hz
  have r5 := RV.of1 p1 q5 e1
  have hz := r1.sl; obtain ⟨a2, cq2, rfl, -, -, -⟩ := hz
  have hz := r2.sl; obtain ⟨a3, cq3, rfl, -, -, -⟩ := hz
  refine entr (n := 235) Try.func5 rfl rfl rfl <| wp_seq <| rg <| sbx rfl rfl fun b5 w1 hx1 hg1 hb1 => ?_
  have r6 := r1.ext hx1
  have r7 := r2.ext hx1
  have r8 := r5.ext hx1
  have r9 := r0.ext hx1
  refine vl rfl rfl xas <| nl <| wp_seq <| wp_seq <| rg <| vl rfl rfl (xlda rfl ti24 rfl (Bx.cs hb1)) <| ?_
  have hz := bs hF; obtain ⟨x5, Ex5, hF⟩ := hz
  refine cl rfl rfl (xc cb31 (mc rfl mn)) (c31 (show RV (α := (Int × (List (Int × Int × Int)))) _ (.agg [.int .i64 x0.1, .slice a1 x0.2.length cq1].toArray) (x0.1, x0.2) from ⟨_, rfl, ⟨[.int .i64 x0.1], [.slice a1 x0.2.length cq1], rfl, rfl, r8.rep1⟩⟩) Ex5) ?_
  rintro _ w2 ⟨rfl, hx2⟩
  have k1 := hx1.tr hx2
  have hb2 := hb1.ext hx2
  have r10 := r8.ext hx2
  have r11 := r6.ext hx2
  have r12 := r7.ext hx2
  refine vl rfl rfl (xnot rfl) <| vl rfl rfl xmv <| gv rfl rfl rfl rfl (gw0 rfl) rfl (fun hc => xmva rfl) <| gv rfl rfl rfl rfl (gw0 rfl) rfl (fun hc => xlen (mv hc rfl) Try.underlying49) <| gv rfl rfl rfl rfl (gw0 rfl) rfl (fun hc => xgtr (mv hc rfl) rfl) <| vl rfl rfl (xpo rfl rfl rfl) <| vl rfl rfl xmv <| gv rfl rfl rfl rfl (gw0 rfl) rfl (fun hc => xmva rfl) <| gv rfl rfl rfl rfl (gw0 rfl) rfl (fun hc => xlen (mv hc rfl) Try.underlying32) <| gv rfl rfl rfl rfl (gw0 rfl) rfl (fun hc => xgtr (mv hc rfl) rfl) <| vl rfl rfl (xpo rfl rfl rfl) <| nl <| cnd rfl (fun h5 => ?_) (fun h5 => ?_)
  ·
    have hF := ifp hF h5
    refine wp_seq <| rg <| ?_
    have hz := bs hF; obtain ⟨x6, Ex6, hF⟩ := hz
    refine cl rfl rfl (xc cb15 mn) (c15 Ex6) ?_
    rintro _ w3 ⟨rfl, hx3⟩
    have k2 := k1.tr hx3
    refine vl rfl rfl xas <| nl <| ?_
    cases hF
    exact wp_ret <| rt rfl (.tmp rfl rfl .nil) ⟨rfl, k2⟩
  ·
    have hF := ifn hF h5
    refine wp_skip <| wp_seq <| rg <| vl rfl rfl (xlda rfl ti24 rfl (Bx.cs hb2)) <| ?_
    have hz := bs hF; obtain ⟨x7, Ex7, hF⟩ := hz
    refine cl rfl rfl (xc cb18 (mc rfl (mc rfl mn))) (c18 (show RV (α := (Int × (List (Int × Int × Int)))) _ (.agg [.int .i64 x0.1, .slice a1 x0.2.length cq1].toArray) (x0.1, x0.2) from ⟨_, rfl, ⟨[.int .i64 x0.1], [.slice a1 x0.2.length cq1], rfl, rfl, r10.rep1⟩⟩) Ex7) ?_
    rintro _ w4 ⟨u1, rfl, r13, hx4⟩
    have k3 := k1.tr hx4
    have hb3 := hb2.ext hx4
    have r14 := r10.ext hx4
    have r15 := r11.ext hx4
    have r16 := r12.ext hx4
    have hz := RV.sl r13; obtain ⟨a4, cq4, rfl, -, -, -⟩ := hz
    refine vl rfl rfl xmv <| vl rfl rfl (xext rfl rfl) <| vl rfl rfl (xext rfl rfl) <| vl rfl rfl xas <| vl rfl rfl xas <| nl <| wp_seq <| rg <| vl rfl rfl (xlda rfl ti24 rfl (Bx.cs hb3)) <| ?_
    have hz := bs hF; obtain ⟨x8, Ex8, hF⟩ := hz
    refine cl rfl rfl (xc cb18 (mc rfl (mc rfl mn))) (c18 (show RV (α := (Int × (List (Int × Int × Int)))) _ (.agg [.int .i64 x0.1, .slice a1 x0.2.length cq1].toArray) (x0.1, x0.2) from ⟨_, rfl, ⟨[.int .i64 x0.1], [.slice a1 x0.2.length cq1], rfl, rfl, r14.rep1⟩⟩) Ex8) ?_
    rintro _ w5 ⟨u2, rfl, r17, hx5⟩
    have k4 := k3.tr hx5
    have hb4 := hb3.ext hx5
    have r18 := r14.ext hx5
    have r19 := r15.ext hx5
    have r20 := r16.ext hx5
    have r21 := r13.ext hx5
    have hz := RV.sl r17; obtain ⟨a5, cq5, rfl, -, -, -⟩ := hz
    refine vl rfl rfl xmv <| vl rfl rfl (xext rfl rfl) <| vl rfl rfl (xext rfl rfl) <| vl rfl rfl xas <| vl rfl rfl xas <| nl <| wp_seq <| wp_seq <| ?_
    have hz := bs hF; obtain ⟨y1, hB1, hF⟩ := hz
    refine ct (fun L w => L 80 = .bool y1 ∧ L 1 = .slice a2 x1.length cq2 ∧ L 2 = .slice a3 x2.length cq3 ∧ L 3 = .int .u8 x3 ∧ L 4 = .pointer (some ⟨b5, 0, none⟩) ∧ L 9 = .slice a4 x7.1.length cq4 ∧ L 11 = .slice a5 x8.1.length cq5 ∧ Ext w5 w) ?_ ?_
    ·
      refine rg <| vl rfl rfl xmv <| vl rfl rfl (xneq rfl rfl) <| vl rfl rfl xmv <| ?_
      have hz := ifsn hB1; obtain ⟨h6, hB1⟩ := hz
      refine gtk rfl rfl rfl rfl rfl (bf h6) <| vl rfl rfl xmv <| gtk rfl rfl rfl rfl rfl (bf h6) <| vl rfl rfl (xneq rfl rfl) <| vl rfl rfl (xpf rfl h6 rfl) <| vl rfl rfl xmv <| ?_
      have hz := ifsn hB1; obtain ⟨h7, hB1⟩ := hz
      refine gtk rfl rfl rfl rfl rfl (bf h7) <| vl rfl rfl (xlda rfl ti24 rfl (Bx.cs hb4)) <| gtk rfl rfl rfl rfl rfl (bf h7) <| vl rfl rfl xmv <| ?_
      have hz := bs hB1; obtain ⟨x9, Ex9, hB1⟩ := hz
      refine gtk rfl rfl rfl rfl rfl (bf h7) <| cl rfl rfl (xc cb32 (mc rfl (mc rfl mn))) (c32 (show RV (α := (Int × (List (Int × Int × Int)))) _ (.agg [.int .i64 x0.1, .slice a1 x0.2.length cq1].toArray) (x0.1, x0.2) from ⟨_, rfl, ⟨[.int .i64 x0.1], [.slice a1 x0.2.length cq1], rfl, rfl, r18.rep1⟩⟩) r21 Ex9) ?_
      rintro _ w6 ⟨rfl, hx6⟩
      have k5 := k4.tr hx6
      have hb5 := hb4.ext hx6
      have r22 := r18.ext hx6
      have r23 := r19.ext hx6
      have r24 := r20.ext hx6
      have r25 := r21.ext hx6
      have r26 := r17.ext hx6
      refine gtk rfl rfl rfl rfl rfl (bf h7) <| vl rfl rfl (xneq rfl rfl) <| vl rfl rfl (xpf rfl h7 rfl) <| vl rfl rfl xmv <| ?_
      have hz := ifsn hB1; obtain ⟨h8, hB1⟩ := hz
      refine gtk rfl rfl rfl rfl rfl (bf h8) <| vl rfl rfl (xlda rfl ti24 rfl (Bx.cs hb5)) <| gtk rfl rfl rfl rfl rfl (bf h8) <| vl rfl rfl xmv <| ?_
      have hz := bs hB1; obtain ⟨x10, Ex10, hB1⟩ := hz
      refine gtk rfl rfl rfl rfl rfl (bf h8) <| cl rfl rfl (xc cb32 (mc rfl (mc rfl mn))) (c32 (show RV (α := (Int × (List (Int × Int × Int)))) _ (.agg [.int .i64 x0.1, .slice a1 x0.2.length cq1].toArray) (x0.1, x0.2) from ⟨_, rfl, ⟨[.int .i64 x0.1], [.slice a1 x0.2.length cq1], rfl, rfl, r22.rep1⟩⟩) r26 Ex10) ?_
      rintro _ w7 ⟨rfl, hx7⟩
      have k6 := k5.tr hx7
      have k7 := hx6.tr hx7
      have hb6 := hb5.ext hx7
      have r27 := r22.ext hx7
      have r28 := r23.ext hx7
      have r29 := r24.ext hx7
      have r30 := r25.ext hx7
      have r31 := r26.ext hx7
      refine gtk rfl rfl rfl rfl rfl (bf h8) <| vl rfl rfl (xneq rfl rfl) <| vl rfl rfl (xpf rfl h8 rfl) <| vl rfl rfl xmv <| ?_
      have hz := ifsn hB1; obtain ⟨h9, hB1⟩ := hz
      refine gtk rfl rfl rfl rfl rfl (bf h9) <| vl rfl rfl (xlda rfl ti24 rfl (Bx.cs hb6)) <| gtk rfl rfl rfl rfl rfl (bf h9) <| vl rfl rfl xmv <| ?_
      have hz := bs hB1; obtain ⟨x11, Ex11, hB1⟩ := hz
      refine gtk rfl rfl rfl rfl rfl (bf h9) <| cl rfl rfl (xc cb33 (mc rfl (mc rfl mn))) (c33 (show RV (α := (Int × (List (Int × Int × Int)))) _ (.agg [.int .i64 x0.1, .slice a1 x0.2.length cq1].toArray) (x0.1, x0.2) from ⟨_, rfl, ⟨[.int .i64 x0.1], [.slice a1 x0.2.length cq1], rfl, rfl, r27.rep1⟩⟩) r30 Ex11) ?_
      rintro _ w8 ⟨rfl, hx8⟩
      have k8 := k6.tr hx8
      have k9 := k7.tr hx8
      have hb7 := hb6.ext hx8
      have r32 := r27.ext hx8
      have r33 := r28.ext hx8
      have r34 := r29.ext hx8
      have r35 := r30.ext hx8
      have r36 := r31.ext hx8
      refine gtk rfl rfl rfl rfl rfl (bf h9) <| vl rfl rfl (xneq rfl rfl) <| vl rfl rfl (xpf rfl h9 rfl) <| vl rfl rfl xmv <| ?_
      have hz := ifsn hB1; obtain ⟨h10, hB1⟩ := hz
      refine gtk rfl rfl rfl rfl rfl (bf h10) <| vl rfl rfl (xlda rfl ti24 rfl (Bx.cs hb7)) <| gtk rfl rfl rfl rfl rfl (bf h10) <| vl rfl rfl xmv <| ?_
      have hz := bs hB1; obtain ⟨x12, Ex12, hB1⟩ := hz
      refine gtk rfl rfl rfl rfl rfl (bf h10) <| cl rfl rfl (xc cb33 (mc rfl (mc rfl mn))) (c33 (show RV (α := (Int × (List (Int × Int × Int)))) _ (.agg [.int .i64 x0.1, .slice a1 x0.2.length cq1].toArray) (x0.1, x0.2) from ⟨_, rfl, ⟨[.int .i64 x0.1], [.slice a1 x0.2.length cq1], rfl, rfl, r32.rep1⟩⟩) r36 Ex12) ?_
      rintro _ w9 ⟨rfl, hx9⟩
      have k10 := k8.tr hx9
      have k11 := k9.tr hx9
      have hb8 := hb7.ext hx9
      have r37 := r32.ext hx9
      have r38 := r33.ext hx9
      have r39 := r34.ext hx9
      have r40 := r35.ext hx9
      have r41 := r36.ext hx9
      refine gtk rfl rfl rfl rfl rfl (bf h10) <| vl rfl rfl (xneq rfl rfl) <| vl rfl rfl (xpf rfl h10 rfl) <| nl <| ?_
      cases hB1
      refine lf <| ?_
      exact ⟨rfl, rfl, rfl, rfl, rfl, rfl, rfl, k11⟩
    rintro L w10 ⟨l80_j1, l1_j1, l2_j1, l3_j1, l4_j1, l9_j1, l11_j1, K0_j1⟩
    have k12 := k4.tr K0_j1
    have r42 := r19.ext K0_j1
    have r43 := r20.ext K0_j1
    have r44 := r18.ext K0_j1
    have hb9 := hb4.ext K0_j1
    have r45 := r21.ext K0_j1
    have r46 := r17.ext K0_j1
    refine cnd l80_j1 (fun h11 => ?_) (fun h11 => ?_)
    ·
      have hF := ifp hF h11
      refine wp_seq <| rg <| vl rfl rfl xas <| nl <| ?_
      cases hF
      exact wp_ret <| rt rfl (.tmp rfl rfl .nil) ⟨rfl, k12⟩
    ·
      have hF := ifn hF h11
      refine wp_skip <| wp_seq <| rg <| vl rfl rfl xmv <| vl rfl rfl (xcvt l3_j1 Try.underlying5 Try.underlying3) <| vl rfl rfl (xfa l4_j1 fa24_0) <| vl rfl rfl (xld rfl ti3 ((Bx.cs hb9).at 0 rfl)) <| ?_
      have hz := bs hF; obtain ⟨x13, Ex13, hF⟩ := hz
      refine vl rfl rfl (xremv rfl rfl Ex13) <| vl rfl rfl (xadd rfl rfl) <| vl rfl rfl xas <| nl <| wp_seq <| rg <| vl rfl rfl (xlda l4_j1 ti24 rfl (Bx.cs hb9)) <| vl rfl rfl xmv <| ?_
      have hz := bs hF; obtain ⟨x14, Ex14, hF⟩ := hz
      refine cl rfl rfl (xc cb16 (mc rfl (mc rfl mn))) (c16 (show RV (α := (Int × (List (Int × Int × Int)))) _ (.agg [.int .i64 x0.1, .slice a1 x0.2.length cq1].toArray) (x0.1, x0.2) from ⟨_, rfl, ⟨[.int .i64 x0.1], [.slice a1 x0.2.length cq1], rfl, rfl, r44.rep1⟩⟩) Ex14) ?_
      rintro _ w11 ⟨u3, rfl, r47, hx10⟩
      have k13 := k12.tr hx10
      have k14 := K0_j1.tr hx10
      have hb10 := hb9.ext hx10
      have r48 := r44.ext hx10
      have r49 := r42.ext hx10
      have r50 := r43.ext hx10
      have r51 := r45.ext hx10
      have r52 := r46.ext hx10
      have hz := id r47; obtain ⟨_, rfl, ⟨_, _, rfl, rfl, rfl⟩⟩ := hz
      refine vl rfl rfl xmv <| vl rfl rfl (xext rfl rfl) <| vl rfl rfl (xext rfl rfl) <| sal ti28 fun b6 w12 hx11 hg2 hb11 => ?_
      have k15 := k13.tr hx11
      have k16 := k14.tr hx11
      have hb12 := hb10.ext hx11
      have r53 := r48.ext hx11
      have r54 := r49.ext hx11
      have r55 := r50.ext hx11
      have r56 := r51.ext hx11
      have r57 := r52.ext hx11
      have r58 := r47.ext hx11
      refine sst rfl rfl rfl ti28 hb11 rfl rfl (ble rfl) fun w13 hch1 hb13 => ?_
      have k17 := Ext.chg k15 hch1 (Nat.le_trans k13.size hg2)
      have k18 := Ext.chg k16 hch1 (Nat.le_trans k14.size hg2)
      have k19 := Ext.chg hx11 hch1 (Nat.le_trans (Nat.le_refl _) hg2)
      have hb14 := hb10.ext k19
      have r59 := r48.ext k19
      have r60 := r49.ext k19
      have r61 := r50.ext k19
      have r62 := r51.ext k19
      have r63 := r52.ext k19
      have hb15 : Bx w13 b6 28 [.int .i64 x14.1.1, .int .i64 x14.1.2] := hb13
      refine vl rfl rfl xas <| nl <| wp_seq <| rg <| vl rfl rfl (xlda l4_j1 ti24 rfl (Bx.cs hb14)) <| vl rfl rfl xmv <| ?_
      have hz := bs hF; obtain ⟨x15, Ex15, hF⟩ := hz
      refine cl rfl rfl (xc cb22 (mc rfl (mc rfl (mc rfl mn)))) (c22 (show RV (α := (Int × (List (Int × Int × Int)))) _ (.agg [.int .i64 x0.1, .slice a1 x0.2.length cq1].toArray) (x0.1, x0.2) from ⟨_, rfl, ⟨[.int .i64 x0.1], [.slice a1 x0.2.length cq1], rfl, rfl, r59.rep1⟩⟩) Ex15) ?_
      rintro _ w14 ⟨u4, rfl, r64, hx12⟩
      have k20 := k17.tr hx12
      have k21 := k18.tr hx12
      have k22 := k19.tr hx12
      have hb16 := hb14.ext hx12
      have r65 := r59.ext hx12
      have hb17 := hb15.ext hx12
      have r66 := r60.ext hx12
      have r67 := r61.ext hx12
      have r68 := r62.ext hx12
      have r69 := r63.ext hx12
      have hz := RV.sl r64; obtain ⟨a6, cq6, rfl, -, -, -⟩ := hz
      refine vl rfl rfl xmv <| vl rfl rfl (xext rfl rfl) <| vl rfl rfl (xext rfl rfl) <| vl rfl rfl (xext rfl rfl) <| vl rfl rfl xas <| vl rfl rfl xas <| vl rfl rfl xas <| nl <| wp_seq <| rg <| vl rfl rfl (xlda l4_j1 ti24 rfl (Bx.cs hb16)) <| vl rfl rfl xmv <| ?_
      have hz := bs hF; obtain ⟨x16, Ex16, hF⟩ := hz
      refine cl rfl rfl (xc cb22 (mc rfl (mc rfl (mc rfl mn)))) (c22 (show RV (α := (Int × (List (Int × Int × Int)))) _ (.agg [.int .i64 x0.1, .slice a1 x0.2.length cq1].toArray) (x0.1, x0.2) from ⟨_, rfl, ⟨[.int .i64 x0.1], [.slice a1 x0.2.length cq1], rfl, rfl, r65.rep1⟩⟩) Ex16) ?_
      rintro _ w15 ⟨u5, rfl, r70, hx13⟩
      have k23 := k20.tr hx13
      have k24 := k21.tr hx13
      have k25 := k22.tr hx13
      have hb18 := hb16.ext hx13
      have r71 := r65.ext hx13
      have hb19 := hb17.ext hx13
      have r72 := r66.ext hx13
      have r73 := r67.ext hx13
      have r74 := r68.ext hx13
      have r75 := r69.ext hx13
      have r76 := r64.ext hx13
      have hz := RV.sl r70; obtain ⟨a7, cq7, rfl, -, -, -⟩ := hz
      refine vl rfl rfl xmv <| vl rfl rfl (xext rfl rfl) <| vl rfl rfl (xext rfl rfl) <| vl rfl rfl (xext rfl rfl) <| vl rfl rfl xas <| vl rfl rfl xas <| vl rfl rfl xas <| nl <| wp_seq <| wp_seq <| ?_
      have hz := bs hF; obtain ⟨y2, hB2, hF⟩ := hz
      refine ct (fun L w => L 144 = .bool y2 ∧ L 1 = .slice a2 x1.length cq2 ∧ L 2 = .slice a3 x2.length cq3 ∧ L 4 = .pointer (some ⟨b5, 0, none⟩) ∧ L 13 = .int .i64 (w64 (1 + x13)) ∧ L 14 = .pointer (some ⟨b6, 0, none⟩) ∧ L 16 = .slice a6 x15.1.length cq6 ∧ L 17 = .int .i64 x15.2.1 ∧ L 19 = .slice a7 x16.1.length cq7 ∧ L 20 = .int .i64 x16.2.1 ∧ Ext w15 w) ?_ ?_
      ·
        refine wpl [] (.pure true 0 (.pure true 1 (.pure true 2 (.pure true 3 (.pure true 4 (.pure true 5 (.pure true 6 (.pure true 7 (.pure true 8 (.pure true 9 (.pure true 10 (.pure false 11 (.pure true 12 (.pure true 13 (.pure true 14 (.pure true 15 (.pure false 16 (.pure true 17 (.pure true 18 (.pure true 19 (.pure true 20 (.pure false 21 (.eff 22 (.pure true 23 (.pure true 24 (.pure true 25 (.pure true 26 (.pure true 27 (.pure false 28 (.pure true 29 (.pure true 30 (.pure true 31 (.pure true 32 (.pure true 33 (.pure false 34 (.pure true 35 (.pure true 36 (.pure true 37 .fin))))))))))))))) .stop))))))))))))))))))))))) mixed (by kernel_rfl) (fun w16 hx14 => ?_)
        have k26 := k23.tr hx14
        have k27 := k24.tr hx14
        have k28 := k25.tr hx14
        have hb20 := hb18.ext hx14
        have r77 := r71.ext hx14
        have hb21 := hb19.ext hx14
        have r78 := r72.ext hx14
        have r79 := r73.ext hx14
        have r80 := r74.ext hx14
        have r81 := r75.ext hx14
        have r82 := r76.ext hx14
        have r83 := r70.ext hx14
        refine pv rfl rfl rfl (fun _ _ => xmv) (.inl rfl) <| pv rfl rfl rfl (fun _ _ => xneq rfl rfl) (.inl rfl) <| pv rfl rfl rfl (fun _ _ => xmv) (.inl rfl) <| ?_
        have hz := ifsn hB2; obtain ⟨h12, hB2⟩ := hz
        refine pvt rfl rfl rfl rfl rfl rfl (bf h12) rfl (fun _ _ => xmv) (.inl rfl) <| pvt rfl rfl rfl rfl rfl rfl (bf h12) rfl (fun _ _ => xneq rfl rfl) (.inl rfl) <| pv rfl rfl rfl (fun _ _ => xpf rfl h12 rfl) (.inl rfl) <| pv rfl rfl rfl (fun _ _ => xmv) (.inl rfl) <| ?_
        have hz := ifsn hB2; obtain ⟨h13, hB2⟩ := hz
        refine pvt rfl rfl rfl rfl rfl rfl (bf h13) rfl (fun _ _ => xmv) (.inl rfl) <| pvt rfl rfl rfl rfl rfl rfl (bf h13) rfl (fun _ _ => xneq rfl rfl) (.inl rfl) <| pv rfl rfl rfl (fun _ _ => xpf rfl h13 rfl) (.inl rfl) <| pv rfl rfl rfl (fun _ _ => xmv) (.inl rfl) <| ?_
        have hz := ifsn hB2; obtain ⟨h14, hB2⟩ := hz
        refine pvt rfl rfl rfl rfl rfl rfl (bf h14) rfl (fun _ hS => xlda rfl ti28 rfl (Bx.cs (hb21.ext (hS.resolve_left nofun)))) (.inr (Ext.refl _)) <| pvt rfl rfl rfl rfl rfl rfl (bf h14) rfl (fun _ _ => xmv) (.inl rfl) <| pvt rfl rfl rfl rfl rfl rfl (bf h14) rfl (fun _ _ => xmv) (.inl rfl) <| pvt rfl rfl rfl rfl rfl rfl (bf h14) rfl (fun _ _ => xsub rfl rfl) (.inl rfl) <| ?_
        have hz := bs hB2; obtain ⟨x17, Ex17, hB2⟩ := hz
        have hz := (RV.els r80).ix Ex17; obtain ⟨b7, f1, cs5, e2, i1, i2, q6, hc1⟩ := hz
        cases e2
        obtain rfl := q6
        refine pvt rfl rfl rfl rfl rfl rfl (bf h14) rfl (fun _ _ => xixs l9_j1 rfl Try.underlying32 ti2 i1 i2) (.inl rfl) <| pvt rfl rfl rfl rfl rfl rfl (bf h14) rfl (fun _ hS => xld rfl ti2 ((hc1.ext (hS.resolve_left nofun)).at 0 rfl)) (.inr (Ext.refl _)) <| pvt rfl rfl rfl rfl rfl rfl (bf h14) rfl (fun _ _ => xmv) (.inl rfl) <| pvt rfl rfl rfl rfl rfl rfl (bf h14) rfl (fun _ _ => xmv) (.inl rfl) <| pvt rfl rfl rfl rfl rfl rfl (bf h14) rfl (fun _ _ => xsub rfl rfl) (.inl rfl) <| ?_
        have hz := bs hB2; obtain ⟨x18, Ex18, hB2⟩ := hz
        have hz := (RV.els r81).ix Ex18; obtain ⟨b8, f2, cs6, e3, i3, i4, q7, hc2⟩ := hz
        cases e3
        obtain rfl := q7
        refine pvt rfl rfl rfl rfl rfl rfl (bf h14) rfl (fun _ _ => xixs l11_j1 rfl Try.underlying32 ti2 i3 i4) (.inl rfl) <| pvt rfl rfl rfl rfl rfl rfl (bf h14) rfl (fun _ hS => xld rfl ti2 ((hc2.ext (hS.resolve_left nofun)).at 0 rfl)) (.inr (Ext.refl _)) <| ?_
        have hz := bs hB2; obtain ⟨x19, Ex19, hB2⟩ := hz
        refine pe1 rfl <| gtk rfl rfl rfl rfl rfl (bf h14) <| cl rfl rfl (xc cb34 (mc rfl (mc rfl mn))) (c34 Ex19) ?_
        rintro _ w17 ⟨u6, rfl, r84, hx15⟩
        have k29 := k26.tr hx15
        have k30 := k27.tr hx15
        have k31 := k28.tr hx15
        have k32 := hx14.tr hx15
        have hb22 := hb20.ext hx15
        have r85 := r77.ext hx15
        have hb23 := hb21.ext hx15
        have r86 := r78.ext hx15
        have r87 := r79.ext hx15
        have r88 := r82.ext hx15
        have r89 := r83.ext hx15
        have hz := id r84; obtain ⟨_, rfl, ⟨_, _, rfl, rfl, rfl⟩⟩ := hz
        refine nl ⟨fun _ _ => hx15, ?_⟩
        refine pvt rfl rfl rfl rfl rfl rfl (bf h14) rfl (fun _ _ => xagn (α := (Int × Int)) (a := (x14.1.1, x14.1.2)) (b := x19) rfl eg28 eq28 rfl rfl rfl rfl rfl) (.inl rfl) <| pv rfl rfl rfl (fun _ _ => xpf rfl h14 rfl) (.inl rfl) <| pv rfl rfl rfl (fun _ _ => xmv) (.inl rfl) <| ?_
        have hz := ifsn hB2; obtain ⟨h15, hB2⟩ := hz
        refine pvt rfl rfl rfl rfl rfl rfl (bf h15) rfl (fun _ _ => xmv) (.inl rfl) <| pvt rfl rfl rfl rfl rfl rfl (bf h15) rfl (fun _ _ => xfa rfl fa28_1) (.inl rfl) <| pvt rfl rfl rfl rfl rfl rfl (bf h15) rfl (fun _ hS => xld rfl ti2 ((Bx.cs (hb21.ext (hS.resolve_left nofun))).at 1 rfl)) (.inr hx15) <| pvt rfl rfl rfl rfl rfl rfl (bf h15) rfl (fun _ _ => xneq rfl rfl) (.inl rfl) <| pv rfl rfl rfl (fun _ _ => xpf rfl h15 rfl) (.inl rfl) <| pv rfl rfl rfl (fun _ _ => xmv) (.inl rfl) <| ?_
        have hz := ifsn hB2; obtain ⟨h16, hB2⟩ := hz
        refine pvt rfl rfl rfl rfl rfl rfl (bf h16) rfl (fun _ _ => xmv) (.inl rfl) <| pvt rfl rfl rfl rfl rfl rfl (bf h16) rfl (fun _ _ => xfa rfl fa28_0) (.inl rfl) <| pvt rfl rfl rfl rfl rfl rfl (bf h16) rfl (fun _ hS => xld rfl ti2 ((Bx.cs (hb21.ext (hS.resolve_left nofun))).at 0 rfl)) (.inr hx15) <| pvt rfl rfl rfl rfl rfl rfl (bf h16) rfl (fun _ _ => xneg rfl) (.inl rfl) <| pvt rfl rfl rfl rfl rfl rfl (bf h16) rfl (fun _ _ => xneq rfl rfl) (.inl rfl) <| pv rfl rfl rfl (fun _ _ => xpf rfl h16 rfl) (.inl rfl) <| ?_
        cases hB2
        refine lf <| ?_
        exact ⟨rfl, l1_j1, l2_j1, l4_j1, rfl, rfl, rfl, rfl, rfl, rfl, k32⟩
      rintro L w18 ⟨l144_j2, l1_j2, l2_j2, l4_j2, l13_j2, l14_j2, l16_j2, l17_j2, l19_j2, l20_j2, K0_j2⟩
      have k33 := k23.tr K0_j2
      have k34 := k24.tr K0_j2
      have k35 := k25.tr K0_j2
      have r90 := r72.ext K0_j2
      have r91 := r73.ext K0_j2
      have r92 := r71.ext K0_j2
      have hb24 := hb18.ext K0_j2
      have hb25 := hb19.ext K0_j2
      have r93 := r76.ext K0_j2
      have r94 := r70.ext K0_j2
      refine cnd l144_j2 (fun h17 => ?_) (fun h17 => ?_)
      ·
        have hF := ifp hF h17
        refine wp_seq <| rg <| vl rfl rfl xas <| nl <| ?_
        cases hF
        exact wp_ret <| rt rfl (.tmp rfl rfl .nil) ⟨rfl, k33⟩
      ·
        have hF := ifn hF h17
        refine wp_skip <| wp_seq <| rg <| vl rfl rfl (xlda l4_j2 ti24 rfl (Bx.cs hb24)) <| vl rfl rfl xmv <| vl rfl rfl xmv <| ?_
        have hz := bs hF; obtain ⟨x20, Ex20, hF⟩ := hz
        refine cl rfl rfl (xc cb25 (mc rfl (mc rfl (mc l13_j2 (mc l16_j2 mn))))) (c25 (show RV (α := (Int × (List (Int × Int × Int)))) _ (.agg [.int .i64 x0.1, .slice a1 x0.2.length cq1].toArray) (x0.1, x0.2) from ⟨_, rfl, ⟨[.int .i64 x0.1], [.slice a1 x0.2.length cq1], rfl, rfl, r92.rep1⟩⟩) r93 Ex20) ?_
        rintro _ w19 ⟨rfl, hx16⟩
        have k36 := k33.tr hx16
        have k37 := k34.tr hx16
        have k38 := k35.tr hx16
        have k39 := K0_j2.tr hx16
        have hb26 := hb24.ext hx16
        have r95 := r92.ext hx16
        have hb27 := hb25.ext hx16
        have r96 := r90.ext hx16
        have r97 := r91.ext hx16
        have r98 := r94.ext hx16
        refine vl rfl rfl xmv <| vl rfl rfl (xext rfl rfl) <| vl rfl rfl (xext rfl rfl) <| vl rfl rfl xas <| vl rfl rfl xas <| nl <| wp_seq <| rg <| vl rfl rfl (xlda l4_j2 ti24 rfl (Bx.cs hb26)) <| vl rfl rfl xmv <| vl rfl rfl xmv <| ?_
        have hz := bs hF; obtain ⟨x21, Ex21, hF⟩ := hz
        refine cl rfl rfl (xc cb25 (mc rfl (mc l13_j2 (mc rfl (mc l19_j2 mn))))) (c25 (show RV (α := (Int × (List (Int × Int × Int)))) _ (.agg [.int .i64 x0.1, .slice a1 x0.2.length cq1].toArray) (x0.1, x0.2) from ⟨_, rfl, ⟨[.int .i64 x0.1], [.slice a1 x0.2.length cq1], rfl, rfl, r95.rep1⟩⟩) r98 Ex21) ?_
        rintro _ w20 ⟨rfl, hx17⟩
        have k40 := k36.tr hx17
        have k41 := k37.tr hx17
        have k42 := k38.tr hx17
        have k43 := k39.tr hx17
        have hb28 := hb26.ext hx17
        have r99 := r95.ext hx17
        have hb29 := hb27.ext hx17
        have r100 := r96.ext hx17
        have r101 := r97.ext hx17
        refine vl rfl rfl xmv <| vl rfl rfl (xext rfl rfl) <| vl rfl rfl (xext rfl rfl) <| vl rfl rfl xas <| vl rfl rfl xas <| nl <| wp_seq <| wp_seq <| ?_
        have hz := bs hF; obtain ⟨y3, hB3, hF⟩ := hz
        refine ct (fun L w => L 174 = .bool y3 ∧ L 1 = .slice a2 x1.length cq2 ∧ L 2 = .slice a3 x2.length cq3 ∧ L 4 = .pointer (some ⟨b5, 0, none⟩) ∧ L 13 = .int .i64 (w64 (1 + x13)) ∧ L 14 = .pointer (some ⟨b6, 0, none⟩) ∧ Ext w20 w) ?_ ?_
        ·
          refine rg <| vl rfl rfl xmv <| vl rfl rfl (xneq rfl rfl) <| vl rfl rfl xmv <| ?_
          have hz := ifsn hB3; obtain ⟨h18, hB3⟩ := hz
          refine gtk rfl rfl rfl rfl rfl (bf h18) <| vl rfl rfl xmv <| gtk rfl rfl rfl rfl rfl (bf h18) <| vl rfl rfl (xneq rfl rfl) <| vl rfl rfl (xpf rfl h18 rfl) <| vl rfl rfl xmv <| ?_
          have hz := ifsn hB3; obtain ⟨h19, hB3⟩ := hz
          refine gtk rfl rfl rfl rfl rfl (bf h19) <| vl rfl rfl xmv <| gtk rfl rfl rfl rfl rfl (bf h19) <| vl rfl rfl xmv <| gtk rfl rfl rfl rfl rfl (bf h19) <| vl rfl rfl (xneq rfl l17_j2) <| vl rfl rfl (xpf rfl h19 rfl) <| vl rfl rfl xmv <| ?_
          have hz := ifsn hB3; obtain ⟨h20, hB3⟩ := hz
          refine gtk rfl rfl rfl rfl rfl (bf h20) <| vl rfl rfl xmv <| gtk rfl rfl rfl rfl rfl (bf h20) <| vl rfl rfl xmv <| gtk rfl rfl rfl rfl rfl (bf h20) <| vl rfl rfl (xneq rfl l20_j2) <| vl rfl rfl (xpf rfl h20 rfl) <| nl <| ?_
          cases hB3
          refine lf <| ?_
          exact ⟨rfl, l1_j2, l2_j2, l4_j2, l13_j2, l14_j2, (Ext.refl _)⟩
        rintro L w21 ⟨l174_j3, l1_j3, l2_j3, l4_j3, l13_j3, l14_j3, K0_j3⟩
        have k44 := k40.tr K0_j3
        have k45 := k41.tr K0_j3
        have k46 := k42.tr K0_j3
        have k47 := k43.tr K0_j3
        have r102 := r100.ext K0_j3
        have r103 := r101.ext K0_j3
        have r104 := r99.ext K0_j3
        have hb30 := hb28.ext K0_j3
        have hb31 := hb29.ext K0_j3
        refine cnd l174_j3 (fun h21 => ?_) (fun h21 => ?_)
        ·
          have hF := ifp hF h21
          refine wp_seq <| rg <| vl rfl rfl xas <| nl <| ?_
          cases hF
          exact wp_ret <| rt rfl (.tmp rfl rfl .nil) ⟨rfl, k44⟩
        ·
          have hF := ifn hF h21
          refine wp_skip <| wp_seq <| rg <| vl rfl rfl (xlda l4_j3 ti24 rfl (Bx.cs hb30)) <| vl rfl rfl xmv <| ?_
          have hz := bs hF; obtain ⟨x22, Ex22, hF⟩ := hz
          refine cl rfl rfl (xc cb35 (mc rfl (mc l1_j3 mn))) (c35 (show RV (α := (Int × (List (Int × Int × Int)))) _ (.agg [.int .i64 x0.1, .slice a1 x0.2.length cq1].toArray) (x0.1, x0.2) from ⟨_, rfl, ⟨[.int .i64 x0.1], [.slice a1 x0.2.length cq1], rfl, rfl, r104.rep1⟩⟩) r102 Ex22) ?_
          rintro _ w22 ⟨u7, rfl, r105, hx18⟩
          have k48 := k44.tr hx18
          have k49 := k45.tr hx18
          have k50 := k46.tr hx18
          have k51 := k47.tr hx18
          have k52 := K0_j3.tr hx18
          have hb32 := hb30.ext hx18
          have r106 := r104.ext hx18
          have hb33 := hb31.ext hx18
          have r107 := r103.ext hx18
          have hz := RV.sl r105; obtain ⟨a8, cq8, rfl, -, -, -⟩ := hz
          refine vl rfl rfl xmv <| sbsv (cs := [.slice a8 x22.length cq8, .slice a3 x2.length cq3]) Try.underlying53 ti32 rfl (pc rfl (pc l2_j3 pn)) rfl rfl rfl rfl rfl fun b9 w23 hx19 hg3 hb34 => ?_
          have k53 := k48.tr hx19
          have k54 := k49.tr hx19
          have k55 := k50.tr hx19
          have k56 := k51.tr hx19
          have k57 := k52.tr hx19
          have hb35 := hb32.ext hx19
          have r109 := r106.ext hx19
          have hb36 := hb33.ext hx19
          have r110 := r105.ext hx19
          have r111 := r107.ext hx19
          have r108 : RV w23 (.slice (some ⟨b9, 0, none⟩) 2 2) ([x22, x2] : List (List Int)) := RV.lit hb34 (css := [[.slice a8 x22.length cq8], [.slice a3 x2.length cq3]]) rfl ⟨r110.rep1, r111.rep1, trivial⟩ rfl (ble rfl)
          refine vl rfl rfl xas <| nl <| wp_seq <| wp_seq <| rg <| vl rfl rfl xas <| nl <| ?_
          have hz := bs hF; obtain ⟨o1, hB4, hF⟩ := hz
          refine ct (fun L w => o1 = .inr () ∧ Ext w23 w) ?_ ?_
          ·
            refine wp_block <| lp (I := fun m L w => ∃ y4 : Int, law01_SpeedHeld_l1 F x0 x2 x13 x14 x22 m y4  = some o1 ∧ L 25 = .int .i64 y4 ∧ L 4 = .pointer (some ⟨b5, 0, none⟩) ∧ L 13 = .int .i64 (w64 (1 + x13)) ∧ L 14 = .pointer (some ⟨b6, 0, none⟩) ∧ L 24 = .slice (some ⟨b9, 0, none⟩) ([x22, x2] : List (List Int)).length 2 ∧ Ext w23 w) F ⟨_, hB4, rfl, l4_j3, l13_j3, l14_j3, rfl, (Ext.refl _)⟩ ?_
            rintro m L w24 ⟨y4, hB4, l25_i5, l4_i5, l13_i5, l14_i5, l24_i5, K0_i5⟩
            rcases m with _ | m
            · rw [law01_SpeedHeld_l1] at hB4; cases hB4
            rw [law01_SpeedHeld_l1] at hB4
            have k58 := k53.tr K0_i5
            have k59 := k54.tr K0_i5
            have k60 := k55.tr K0_i5
            have k61 := k56.tr K0_i5
            have k62 := k57.tr K0_i5
            have k63 := hx19.tr K0_i5
            have r112 := r109.ext K0_i5
            have hb37 := hb35.ext K0_i5
            have hb38 := hb36.ext K0_i5
            have r113 := r108.ext K0_i5
            refine wp_seq <| wp_seq <| rg <| vl rfl rfl xmv <| vl rfl rfl (xlss l25_i5 rfl) <| nl <| cnd rfl (fun h22 => ?_) (fun h22 => ?_)
            ·
              have hB4 := ifp hB4 h22
              refine wp_skip <| wp_seq <| wp_block <| wp_seq <| wpl [] (.pure false 0 (.pure true 1 (.pure true 2 (.pure true 3 (.pure false 4 (.eff 5 (.pure true 6 .fin) .stop)))))) mixed (by kernel_rfl) (fun w25 hx20 => ?_)
              have k64 := k58.tr hx20
              have k65 := k59.tr hx20
              have k66 := k60.tr hx20
              have k67 := k61.tr hx20
              have k68 := k62.tr hx20
              have k69 := k63.tr hx20
              have k70 := K0_i5.tr hx20
              have hb39 := hb37.ext hx20
              have r114 := r112.ext hx20
              have hb40 := hb38.ext hx20
              have r115 := r113.ext hx20
              refine pv rfl rfl rfl (fun _ hS => xlda l4_i5 ti24 rfl (Bx.cs (hb39.ext (hS.resolve_left nofun)))) (.inr (Ext.refl _)) <| pv rfl rfl rfl (fun _ _ => xmv) (.inl rfl) <| pv rfl rfl rfl (fun _ _ => xmv) (.inl rfl) <| ?_
              have hz := bs hB4; obtain ⟨x23, Ex23, hB4⟩ := hz
              have hz := ix2 r115 Ex23; obtain ⟨cs7, i6, i7, q8, hc3⟩ := hz
              obtain ⟨a9, cq9, rfl, p2, q9, e4⟩ := q8
              have r116 := RV.of1 p2 q9 e4
              refine pv rfl rfl rfl (fun _ _ => xixs l24_i5 l25_i5 Try.underlying53 ti32 i6 i7) (.inl rfl) <| pv rfl rfl rfl (fun _ hS => xld rfl ti32 ((hc3.ext (hS.resolve_left nofun)).at 0 rfl)) (.inr (Ext.refl _)) <| ?_
              have hz := bs hB4; obtain ⟨x24, Ex24, hB4⟩ := hz
              refine pe1 rfl <| cl rfl rfl (xc cb33 (mc rfl (mc rfl mn))) (c33 (show RV (α := (Int × (List (Int × Int × Int)))) _ (.agg [.int .i64 x0.1, .slice a1 x0.2.length cq1].toArray) (x0.1, x0.2) from ⟨_, rfl, ⟨[.int .i64 x0.1], [.slice a1 x0.2.length cq1], rfl, rfl, r114.rep1⟩⟩) r116 Ex24) ?_
              rintro _ w26 ⟨rfl, hx21⟩
              have k71 := k64.tr hx21
              have k72 := k65.tr hx21
              have k73 := k66.tr hx21
              have k74 := k67.tr hx21
              have k75 := k68.tr hx21
              have k76 := k69.tr hx21
              have k77 := k70.tr hx21
              have hb41 := hb39.ext hx21
              have r117 := r114.ext hx21
              have hb42 := hb40.ext hx21
              have r118 := r115.ext hx21
              refine nl ⟨fun _ _ => hx21, ?_⟩
              refine pv rfl rfl rfl (fun _ _ => xas) (.inl rfl) <| wp_seq <| wp_seq <| wpl [] (.pure true 0 (.pure false 1 (.pure true 2 (.pure true 3 (.pure true 4 (.pure false 5 (.eff 6 (.pure true 7 (.pure true 8 (.pure true 9 (.pure true 10 (.pure true 11 (.pure true 12 (.pure true 13 (.pure true 14 (.pure true 15 .fin))))))))) .stop))))))) mixed (by kernel_rfl) (fun w27 hx22 => ?_)
              have k78 := k71.tr hx22
              have k79 := k72.tr hx22
              have k80 := k73.tr hx22
              have k81 := k74.tr hx22
              have k82 := k75.tr hx22
              have k83 := k76.tr hx22
              have k84 := k77.tr hx22
              have k85 := hx21.tr hx22
              have hb43 := hb41.ext hx22
              have r119 := r117.ext hx22
              have hb44 := hb42.ext hx22
              have r120 := r118.ext hx22
              refine pv rfl rfl rfl (fun _ _ => xmv) (.inl rfl) <| pv rfl rfl rfl (fun _ hS => xlda l4_i5 ti24 rfl (Bx.cs (hb43.ext (hS.resolve_left nofun)))) (.inr (Ext.refl _)) <| pv rfl rfl rfl (fun _ _ => xmv) (.inl rfl) <| pv rfl rfl rfl (fun _ _ => xmv) (.inl rfl) <| ?_
              have hz := bs hB4; obtain ⟨x25, Ex25, hB4⟩ := hz
              have hz := ix2 r120 Ex25; obtain ⟨cs8, i8, i9, q10, hc4⟩ := hz
              obtain ⟨a10, cq10, rfl, p3, q11, e5⟩ := q10
              have r121 := RV.of1 p3 q11 e5
              refine pv rfl rfl rfl (fun _ _ => xixs l24_i5 l25_i5 Try.underlying53 ti32 i8 i9) (.inl rfl) <| pv rfl rfl rfl (fun _ hS => xld rfl ti32 ((hc4.ext (hS.resolve_left nofun)).at 0 rfl)) (.inr (Ext.refl _)) <| ?_
              have hz := bs hB4; obtain ⟨x26, Ex26, hB4⟩ := hz
              refine pe1 rfl <| cl rfl rfl (xc cb32 (mc rfl (mc rfl mn))) (c32 (show RV (α := (Int × (List (Int × Int × Int)))) _ (.agg [.int .i64 x0.1, .slice a1 x0.2.length cq1].toArray) (x0.1, x0.2) from ⟨_, rfl, ⟨[.int .i64 x0.1], [.slice a1 x0.2.length cq1], rfl, rfl, r119.rep1⟩⟩) r121 Ex26) ?_
              rintro _ w28 ⟨rfl, hx23⟩
              have k86 := k78.tr hx23
              have k87 := k79.tr hx23
              have k88 := k80.tr hx23
              have k89 := k81.tr hx23
              have k90 := k82.tr hx23
              have k91 := k83.tr hx23
              have k92 := k84.tr hx23
              have k93 := k85.tr hx23
              have hb45 := hb43.ext hx23
              have r122 := r119.ext hx23
              have hb46 := hb44.ext hx23
              have r123 := r120.ext hx23
              refine nl ⟨fun _ _ => hx23, ?_⟩
              refine pv rfl rfl rfl (fun _ _ => xneq rfl rfl) (.inl rfl) <| pv rfl rfl rfl (fun _ _ => xmv) (.inl rfl) <| pgv rfl rfl rfl rfl rfl (gw0 rfl) rfl (fun hc => (fun _ _ => xmva l25_i5)) (.inl rfl) <| pgv rfl rfl rfl rfl rfl (gw0 rfl) rfl (fun hc => (fun _ _ => xeql (mv hc rfl) rfl)) (.inl rfl) <| pgv rfl rfl rfl rfl rfl (gw0 rfl) rfl (fun hc => (fun _ _ => xmva (mv hc rfl))) (.inl rfl) <| pgv rfl rfl rfl rfl rfl (gn1 rfl) rfl (fun hc => (fun _ _ => xmva rfl)) (.inl rfl) <| pgv rfl rfl rfl rfl rfl (gn1 rfl) rfl (fun hc => (fun _ _ => xneq (mv hc rfl) rfl)) (.inl rfl) <| pgv rfl rfl rfl rfl rfl (gw0 rfl) rfl (fun hc => (fun _ _ => xpa (mv hc rfl) (mvn hc rfl) rfl)) (.inl rfl) <| pv rfl rfl rfl (fun _ _ => xpo rfl rfl rfl) (.inl rfl) <| cnd rfl (fun h23 => ?_) (fun h23 => ?_)
              ·
                have hB4 := ifp hB4 h23
                refine wp_seq <| rg <| vl rfl rfl xas <| nl <| ?_
                cases hB4
                have hF := (show some _ = some _ from hF); cases hF
                exact wp_ret <| rt rfl (.tmp rfl rfl .nil) ⟨rfl, k86⟩
              ·
                have hB4 := ifn hB4 h23
                refine wp_skip <| wp_seq <| ?_
                have hz := bs hB4; obtain ⟨y5, hB8, hB4⟩ := hz
                refine ct (fun L w => L 233 = .bool y5 ∧ L 4 = .pointer (some ⟨b5, 0, none⟩) ∧ L 13 = .int .i64 (w64 (1 + x13)) ∧ L 14 = .pointer (some ⟨b6, 0, none⟩) ∧ L 24 = .slice (some ⟨b9, 0, none⟩) ([x22, x2] : List (List Int)).length 2 ∧ L 25 = .int .i64 y4 ∧ Ext w28 w) ?_ ?_
                ·
                  refine wpl [] (.pure true 0 (.pure true 1 (.pure true 2 (.pure true 3 (.pure true 4 (.pure true 5 (.pure false 6 (.pure true 7 (.pure true 8 (.pure true 9 (.pure false 10 (.pure true 11 (.pure false 12 (.pure true 13 (.pure true 14 (.pure true 15 (.pure true 16 (.pure true 17 (.pure false 18 (.pure true 19 (.pure true 20 (.pure true 21 (.pure false 22 (.pure true 23 (.pure false 24 (.pure true 25 (.pure true 26 (.pure true 27 .fin)))))))))))))))))))))))))))) mixed (by kernel_rfl) (fun w30 hx25 => ?_)
                  have k103 := k86.tr hx25
                  have k104 := k87.tr hx25
                  have k105 := k88.tr hx25
                  have k106 := k89.tr hx25
                  have k107 := k90.tr hx25
                  have k108 := k91.tr hx25
                  have k109 := k92.tr hx25
                  have k110 := k93.tr hx25
                  have k111 := hx23.tr hx25
                  have hb49 := hb45.ext hx25
                  have r126 := r122.ext hx25
                  have hb50 := hb46.ext hx25
                  have r127 := r123.ext hx25
                  refine pv rfl rfl rfl (fun _ _ => xmv) (.inl rfl) <| pv rfl rfl rfl (fun _ _ => xeql rfl rfl) (.inl rfl) <| pv rfl rfl rfl (fun _ _ => xmv) (.inl rfl) <| ?_
                  rcases Bool.eq_false_or_eq_true (decide (x24 = 0)) with h24 | h24
                  ·
                    have hB8 := ifp hB8 h24
                    refine pvt rfl rfl rfl rfl rfl rfl (bt h24) rfl (fun _ _ => xmv) (.inl rfl) <| pvt rfl rfl rfl rfl rfl rfl (bt h24) rfl (fun _ _ => xmv) (.inl rfl) <| ?_
                    have hz := bs hB8; obtain ⟨x27, Ex27, hB8⟩ := hz
                    have hz := ix2 r127 Ex27; obtain ⟨cs9, i10, i11, q12, hc5⟩ := hz
                    obtain ⟨a11, cq11, rfl, p4, q13, e6⟩ := q12
                    have r128 := RV.of1 p4 q13 e6
                    refine pvt rfl rfl rfl rfl rfl rfl (bt h24) rfl (fun _ _ => xixs l24_i5 l25_i5 Try.underlying53 ti32 i10 i11) (.inl rfl) <| pvt rfl rfl rfl rfl rfl rfl (bt h24) rfl (fun _ hS => xld rfl ti32 ((hc5.ext (hS.resolve_left nofun)).at 0 rfl)) (.inr (Ext.refl _)) <| pvt rfl rfl rfl rfl rfl rfl (bt h24) rfl (fun _ _ => xmv) (.inl rfl) <| pvt rfl rfl rfl rfl rfl rfl (bt h24) rfl (fun _ _ => xsub l13_i5 rfl) (.inl rfl) <| ?_
                    have hz := bs hB8; obtain ⟨x28, Ex28, hB8⟩ := hz
                    have hz := (RV.els r128).ix Ex28; obtain ⟨b10, f3, cs10, e7, i12, i13, q14, hc6⟩ := hz
                    cases e7
                    obtain rfl := q14
                    refine pvt rfl rfl rfl rfl rfl rfl (bt h24) rfl (fun _ _ => xixs rfl rfl Try.underlying32 ti2 i12 i13) (.inl rfl) <| pvt rfl rfl rfl rfl rfl rfl (bt h24) rfl (fun _ hS => xld rfl ti2 ((hc6.ext (hS.resolve_left nofun)).at 0 rfl)) (.inr (Ext.refl _)) <| pvt rfl rfl rfl rfl rfl rfl (bt h24) rfl (fun _ _ => xfa l14_i5 fa28_0) (.inl rfl) <| pvt rfl rfl rfl rfl rfl rfl (bt h24) rfl (fun _ hS => xld rfl ti2 ((Bx.cs (hb50.ext (hS.resolve_left nofun))).at 0 rfl)) (.inr (Ext.refl _)) <| pvt rfl rfl rfl rfl rfl rfl (bt h24) rfl (fun _ _ => xlss rfl rfl) (.inl rfl) <| pvt rfl rfl rfl rfl rfl rfl (bt h24) rfl (fun _ _ => xmv) (.inl rfl) <| ?_
                    rcases Bool.eq_false_or_eq_true (decide (x28 < x14.1.1)) with h25 | h25
                    ·
                      have hB8 := ifp hB8 h25
                      refine pvf rfl rfl rfl rfl rfl rfl (btf h25) rfl (.inl rfl) <| pvf rfl rfl rfl rfl rfl rfl (btf h25) rfl (.inl rfl) <| pvf rfl rfl rfl rfl rfl rfl (btf h25) rfl (.inl rfl) <| pvf rfl rfl rfl rfl rfl rfl (btf h25) rfl (.inr (Ext.refl _)) <| pvf rfl rfl rfl rfl rfl rfl (btf h25) rfl (.inl rfl) <| pvf rfl rfl rfl rfl rfl rfl (btf h25) rfl (.inl rfl) <| pvf rfl rfl rfl rfl rfl rfl (btf h25) rfl (.inl rfl) <| pvf rfl rfl rfl rfl rfl rfl (btf h25) rfl (.inr (Ext.refl _)) <| pvf rfl rfl rfl rfl rfl rfl (btf h25) rfl (.inl rfl) <| pvf rfl rfl rfl rfl rfl rfl (btf h25) rfl (.inr (Ext.refl _)) <| pvf rfl rfl rfl rfl rfl rfl (btf h25) rfl (.inl rfl) <| pvt rfl rfl rfl rfl rfl rfl (bt h24) rfl (fun _ _ => xpt rfl h25 rfl) (.inl rfl) <| pv rfl rfl rfl (fun _ _ => xpt rfl h24 rfl) (.inl rfl) <| ?_
                      cases hB8
                      refine lf <| ?_
                      exact ⟨rfl, l4_i5, l13_i5, l14_i5, l24_i5, l25_i5, hx25⟩
                    ·
                      have hB8 := ifn hB8 h25
                      refine pvt rfl rfl rfl rfl rfl rfl (bf h25) rfl (fun _ _ => xmv) (.inl rfl) <| pvt rfl rfl rfl rfl rfl rfl (bf h25) rfl (fun _ _ => xmv) (.inl rfl) <| ?_
                      have hz := bs hB8; obtain ⟨x29, Ex29, hB8⟩ := hz
                      have hz := ix2 r127 Ex29; obtain ⟨cs11, i14, i15, q15, hc7⟩ := hz
                      obtain ⟨a12, cq12, rfl, p5, q16, e8⟩ := q15
                      have r129 := RV.of1 p5 q16 e8
                      refine pvt rfl rfl rfl rfl rfl rfl (bf h25) rfl (fun _ _ => xixs l24_i5 l25_i5 Try.underlying53 ti32 i14 i15) (.inl rfl) <| pvt rfl rfl rfl rfl rfl rfl (bf h25) rfl (fun _ hS => xld rfl ti32 ((hc7.ext (hS.resolve_left nofun)).at 0 rfl)) (.inr (Ext.refl _)) <| pvt rfl rfl rfl rfl rfl rfl (bf h25) rfl (fun _ _ => xmv) (.inl rfl) <| pvt rfl rfl rfl rfl rfl rfl (bf h25) rfl (fun _ _ => xsub l13_i5 rfl) (.inl rfl) <| ?_
                      have hz := bs hB8; obtain ⟨x30, Ex30, hB8⟩ := hz
                      have hz := (RV.els r129).ix Ex30; obtain ⟨b11, f4, cs12, e9, i16, i17, q17, hc8⟩ := hz
                      cases e9
                      obtain rfl := q17
                      refine pvt rfl rfl rfl rfl rfl rfl (bf h25) rfl (fun _ _ => xixs rfl rfl Try.underlying32 ti2 i16 i17) (.inl rfl) <| pvt rfl rfl rfl rfl rfl rfl (bf h25) rfl (fun _ hS => xld rfl ti2 ((hc8.ext (hS.resolve_left nofun)).at 0 rfl)) (.inr (Ext.refl _)) <| pvt rfl rfl rfl rfl rfl rfl (bf h25) rfl (fun _ _ => xfa l14_i5 fa28_1) (.inl rfl) <| pvt rfl rfl rfl rfl rfl rfl (bf h25) rfl (fun _ hS => xld rfl ti2 ((Bx.cs (hb50.ext (hS.resolve_left nofun))).at 1 rfl)) (.inr (Ext.refl _)) <| pvt rfl rfl rfl rfl rfl rfl (bf h25) rfl (fun _ _ => xgtr rfl rfl) (.inl rfl) <| pvt rfl rfl rfl rfl rfl rfl (bt h24) rfl (fun _ _ => xpf rfl h25 rfl) (.inl rfl) <| pv rfl rfl rfl (fun _ _ => xpt rfl h24 rfl) (.inl rfl) <| ?_
                      cases hB8
                      refine lf <| ?_
                      exact ⟨rfl, l4_i5, l13_i5, l14_i5, l24_i5, l25_i5, hx25⟩
                  ·
                    have hB8 := ifn hB8 h24
                    refine pvf rfl rfl rfl rfl rfl rfl (bft h24) rfl (.inl rfl) <| pvf rfl rfl rfl rfl rfl rfl (bft h24) rfl (.inl rfl) <| pvf rfl rfl rfl rfl rfl rfl (bft h24) rfl (.inl rfl) <| pvf rfl rfl rfl rfl rfl rfl (bft h24) rfl (.inr (Ext.refl _)) <| pvf rfl rfl rfl rfl rfl rfl (bft h24) rfl (.inl rfl) <| pvf rfl rfl rfl rfl rfl rfl (bft h24) rfl (.inl rfl) <| pvf rfl rfl rfl rfl rfl rfl (bft h24) rfl (.inl rfl) <| pvf rfl rfl rfl rfl rfl rfl (bft h24) rfl (.inr (Ext.refl _)) <| pvf rfl rfl rfl rfl rfl rfl (bft h24) rfl (.inl rfl) <| pvf rfl rfl rfl rfl rfl rfl (bft h24) rfl (.inr (Ext.refl _)) <| pvf rfl rfl rfl rfl rfl rfl (bft h24) rfl (.inl rfl) <| pvf rfl rfl rfl rfl rfl rfl (bft h24) rfl (.inl rfl) <| pvf rfl rfl rfl rfl rfl rfl bu rfl (.inl rfl) <| pvf rfl rfl rfl rfl rfl rfl bu rfl (.inl rfl) <| pvf rfl rfl rfl rfl rfl rfl bu rfl (.inl rfl) <| pvf rfl rfl rfl rfl rfl rfl bu rfl (.inr (Ext.refl _)) <| pvf rfl rfl rfl rfl rfl rfl bu rfl (.inl rfl) <| pvf rfl rfl rfl rfl rfl rfl bu rfl (.inl rfl) <| pvf rfl rfl rfl rfl rfl rfl bu rfl (.inl rfl) <| pvf rfl rfl rfl rfl rfl rfl bu rfl (.inr (Ext.refl _)) <| pvf rfl rfl rfl rfl rfl rfl bu rfl (.inl rfl) <| pvf rfl rfl rfl rfl rfl rfl bu rfl (.inr (Ext.refl _)) <| pvf rfl rfl rfl rfl rfl rfl bu rfl (.inl rfl) <| pvf rfl rfl rfl rfl rfl rfl (bft h24) rfl (.inl rfl) <| pv rfl rfl rfl (fun _ _ => xpf rfl h24 rfl) (.inl rfl) <| ?_
                    cases hB8
                    refine lf <| ?_
                    exact ⟨rfl, l4_i5, l13_i5, l14_i5, l24_i5, l25_i5, hx25⟩
                rintro L w31 ⟨l233_j4, l4_j4, l13_j4, l14_j4, l24_j4, l25_j4, K0_j4⟩
                have k112 := k86.tr K0_j4
                have k113 := k87.tr K0_j4
                have k114 := k88.tr K0_j4
                have k115 := k89.tr K0_j4
                have k116 := k90.tr K0_j4
                have k117 := k91.tr K0_j4
                have k118 := k92.tr K0_j4
                have k119 := k93.tr K0_j4
                have k120 := hx23.tr K0_j4
                have r130 := r122.ext K0_j4
                have hb51 := hb45.ext K0_j4
                have hb52 := hb46.ext K0_j4
                have r131 := r123.ext K0_j4
                refine cnd l233_j4 (fun h26 => ?_) (fun h26 => ?_)
                ·
                  have hB4 := ifp hB4 h26
                  refine wp_seq <| rg <| vl rfl rfl xas <| nl <| ?_
                  cases hB4
                  have hF := (show some _ = some _ from hF); cases hF
                  exact wp_ret <| rt rfl (.tmp rfl rfl .nil) ⟨rfl, k112⟩
                ·
                  have hB4 := ifn hB4 h26
                  refine wp_skip <| rg <| vl rfl rfl xmv <| vl rfl rfl (xadd l25_j4 rfl) <| vl rfl rfl xas <| nl <| ?_
                  refine lq m (Nat.lt_succ_self _) <| ?_
                  exact ⟨_, hB4, rfl, l4_j4, l13_j4, l14_j4, l24_j4, k118⟩
            ·
              have hB4 := ifn hB4 h22
              refine wp_exit <| ?_
              cases hB4
              refine lf <| ?_
              exact ⟨rfl, K0_i5⟩
          rintro L w32 ⟨rfl, K0_j5⟩
          have k121 := k53.tr K0_j5
          have k122 := k54.tr K0_j5
          have k123 := k55.tr K0_j5
          have k124 := k56.tr K0_j5
          have k125 := k57.tr K0_j5
          have k126 := hx19.tr K0_j5
          refine wp_seq <| rg <| ?_
          have hz := bs hF; obtain ⟨x31, Ex31, hF⟩ := hz
          refine cl rfl rfl (xc cb15 mn) (c15 Ex31) ?_
          rintro _ w33 ⟨rfl, hx26⟩
          have k127 := k121.tr hx26
          have k128 := k122.tr hx26
          have k129 := k123.tr hx26
          have k130 := k124.tr hx26
          have k131 := k125.tr hx26
          have k132 := k126.tr hx26
          have k133 := K0_j5.tr hx26
          refine vl rfl rfl xas <| nl <| ?_
          cases hF
          exact wp_ret <| rt rfl (.tmp rfl rfl .nil) ⟨rfl, k127⟩
end Go.Proofs.Ythppacohnciinaa
