/-
  Each function of the program returns what its pure function computes, and leaves all memory that was there as it was. Condition: the pure function computes something.
-/
import Derived.Test.YtboefnpnoojfpaaFacts
import Derived.Test.YtboefnpnoojfpaaPureC
import Derived.Test.YtboefnpnoojfpaaMore
import Derived.Test.YtboefnpnoojfpaaWalkB
namespace Go.Proofs.Ytboefnpnoojfpaa
open Go Go.Md Go.RowKit
attribute [local irreducible] Go.wpList Go.Code.wp Go.Calls Go.Md.Rnd Go.Md.Mt Go.Md.MtM Go.Md.RndM Go.Code.wpIn

set_option maxHeartbeats 4000000 in
theorem c6 {w0 : World} {v0 : Value} {x0 : ((List Int) × (List ((List Int) × (List Int))))} (r0 : RV w0 v0 x0) {v1 : Value} {x1 : (List Int)} (r1 : RV w0 v1 x1) {v2 : Value} {x2 : (List Int)} (r2 : RV w0 v2 x2) {v3 : Value} {x3 : (List (KI .u8))} (r3 : RV w0 v3 x3) {v4 : Value} {x4 : (List Int)} (r4 : RV w0 v4 x4) {F : Nat} {r : Bool} (hF : law11_BathBack F x0 x1 x2 x3 x4 = some r) :
    Calls Try.prog 6 [v0, v1, v2, v3, v4].toArray w0 (Ret fun v w' => v = .bool r ∧ Ext w0 w') := by
  unfold law11_BathBack at hF
  have hz := id r0; obtain ⟨_, rfl, ⟨_, _, rfl, ⟨a1, cq1, rfl, p1, q6, e1⟩, ⟨a2, cq2, rfl, p2, q7, e2⟩⟩⟩ := hz
  have r6 := RV.of1 p1 q6 e1
  have r7 := RV.of1 p2 q7 e2
  have hz := r1.sl; obtain ⟨a3, cq3, rfl, -, -, -⟩ := hz
  have hz := r2.sl; obtain ⟨a4, cq4, rfl, -, -, -⟩ := hz
  have hz := r3.sl; obtain ⟨a5, cq5, rfl, -, -, -⟩ := hz
  have hz := r4.sl; obtain ⟨a6, cq6, rfl, -, -, -⟩ := hz
  refine entr (n := 136) Try.func6 rfl rfl rfl <| wp_seq <| rg <| sbx rfl rfl fun b6 w1 hx1 hg1 hb1 => ?_
  have r8 := r1.ext hx1
  have r9 := r2.ext hx1
  have r10 := r3.ext hx1
  have r11 := r4.ext hx1
  have r12 := r6.ext hx1
  have r13 := r7.ext hx1
  have r14 := r0.ext hx1
  refine vl rfl rfl xas <| nl <| wp_seq <| wp_seq <| rg <| vl rfl rfl (xlda rfl ti25 rfl (Bx.cs hb1)) <| vl rfl rfl xmv <| ?_
  have hz := bs hF; obtain ⟨x6, Ex6, hF⟩ := hz
  refine cl rfl rfl (xc cb29 (mc rfl (mc rfl mn))) (c29 (show RV (α := ((List Int) × (List ((List Int) × (List Int))))) _ (.agg [.slice a1 x0.1.length cq1, .slice a2 x0.2.length cq2].toArray) (x0.1, x0.2) from ⟨_, rfl, ⟨[.slice a1 x0.1.length cq1], [.slice a2 x0.2.length cq2], rfl, r12.rep1, r13.rep1⟩⟩) r8 Ex6) ?_
  rintro _ w2 ⟨rfl, hx2⟩
  have k1 := hx1.tr hx2
  have hb2 := hb1.ext hx2
  have r15 := r12.ext hx2
  have r16 := r13.ext hx2
  have r17 := r8.ext hx2
  have r18 := r9.ext hx2
  have r19 := r10.ext hx2
  have r20 := r11.ext hx2
  refine vl rfl rfl (xnot rfl) <| vl rfl rfl xmv <| gv rfl rfl rfl rfl (gw0 rfl) rfl (fun hc => xmva rfl) <| gv rfl rfl rfl rfl (gw0 rfl) rfl (fun hc => xlen (mv hc rfl) Try.underlying22) <| gv rfl rfl rfl rfl (gw0 rfl) rfl (fun hc => xgtr (mv hc rfl) rfl) <| vl rfl rfl (xpo rfl rfl rfl) <| vl rfl rfl xmv <| gv rfl rfl rfl rfl (gw0 rfl) rfl (fun hc => xlda rfl ti25 rfl (Bx.cs hb2)) <| gv rfl rfl rfl rfl (gw0 rfl) rfl (fun hc => xmva rfl) <| ?_
  have hz := bs hF; obtain ⟨x7, Ex7, hF⟩ := hz
  refine gc rfl rfl rfl rfl (gw0 rfl) rfl (fun hc => xc cb31 (mc (mv hc rfl) (mc (mv hc rfl) mn))) (fun hc => (c31 (show RV (α := ((List Int) × (List ((List Int) × (List Int))))) _ (.agg [.slice a1 x0.1.length cq1, .slice a2 x0.2.length cq2].toArray) (x0.1, x0.2) from ⟨_, rfl, ⟨[.slice a1 x0.1.length cq1], [.slice a2 x0.2.length cq2], rfl, r15.rep1, r16.rep1⟩⟩) r18 (gdp Ex7 hc))) (fun v6 w3 hy1 hn1 => ?_)
  have hx3 : Ext w2 w3 := gx (fun h => (hy1 h).2) (fun h => (hn1 h).2 ▸ Ext.refl _)
  have e3 := mkw (fun h => (hy1 h).1) (fun h => (hn1 h).1)
  have k2 := k1.tr hx3
  have hb3 := hb2.ext hx3
  have r21 := r15.ext hx3
  have r22 := r16.ext hx3
  have r23 := r17.ext hx3
  have r24 := r18.ext hx3
  have r25 := r19.ext hx3
  have r26 := r20.ext hx3
  refine gv rfl rfl rfl rfl (gw0 rfl) rfl (fun hc => xneq (mv hc e3) rfl) <| vl rfl rfl (xpo rfl rfl rfl) <| vl rfl rfl xmv <| gv rfl rfl rfl rfl (gw0 rfl) rfl (fun hc => xmva rfl) <| gv rfl rfl rfl rfl (gw0 rfl) rfl (fun hc => xlen (mv hc rfl) Try.underlying47) <| gv rfl rfl rfl rfl (gw0 rfl) rfl (fun hc => xgtr (mv hc rfl) rfl) <| vl rfl rfl (xpo rfl rfl rfl) <| vl rfl rfl xmv <| gv rfl rfl rfl rfl (gw0 rfl) rfl (fun hc => xmva rfl) <| gv rfl rfl rfl rfl (gw0 rfl) rfl (fun hc => xlen (mv hc rfl) Try.underlying22) <| gv rfl rfl rfl rfl (gw0 rfl) rfl (fun hc => xgtr (mv hc rfl) rfl) <| vl rfl rfl (xpo rfl rfl rfl) <| nl <| cnd rfl (fun h6 => ?_) (fun h6 => ?_)
  ·
    have hF := ifp hF h6
    refine wp_seq <| rg <| ?_
    have hz := bs hF; obtain ⟨x8, Ex8, hF⟩ := hz
    refine cl rfl rfl (xc cb13 mn) (c13 Ex8) ?_
    rintro _ w4 ⟨rfl, hx4⟩
    have k3 := k2.tr hx4
    refine vl rfl rfl xas <| nl <| ?_
    cases hF
    exact wp_ret <| rt rfl (.tmp rfl rfl .nil) ⟨rfl, k3⟩
  ·
    have hF := ifn hF h6
    refine wp_skip <| wp_seq <| rg <| vl rfl rfl (xlda rfl ti25 rfl (Bx.cs hb3)) <| ?_
    have hz := bs hF; obtain ⟨x9, Ex9, hF⟩ := hz
    refine cl rfl rfl (xc cb36 (mc rfl mn)) (c36 (show RV (α := ((List Int) × (List ((List Int) × (List Int))))) _ (.agg [.slice a1 x0.1.length cq1, .slice a2 x0.2.length cq2].toArray) (x0.1, x0.2) from ⟨_, rfl, ⟨[.slice a1 x0.1.length cq1], [.slice a2 x0.2.length cq2], rfl, r21.rep1, r22.rep1⟩⟩) Ex9) ?_
    rintro _ w5 ⟨u1, rfl, r27, hx5⟩
    have k4 := k2.tr hx5
    have hb4 := hb3.ext hx5
    have r28 := r21.ext hx5
    have r29 := r22.ext hx5
    have r30 := r23.ext hx5
    have r31 := r24.ext hx5
    have r32 := r25.ext hx5
    have r33 := r26.ext hx5
    have hz := id r27; obtain ⟨_, rfl, ⟨_, _, rfl, ⟨a7, cq7, rfl, p3, q8, e4⟩, ⟨a8, cq8, rfl, p4, q9, e5⟩⟩⟩ := hz
    have r34 := RV.of1 p3 q8 e4
    have r35 := RV.of1 p4 q9 e5
    refine sal ti25 fun b7 w6 hx6 hg2 hb5 => ?_
    have k5 := k4.tr hx6
    have hb6 := hb4.ext hx6
    have r36 := r28.ext hx6
    have r37 := r29.ext hx6
    have r38 := r30.ext hx6
    have r39 := r31.ext hx6
    have r40 := r32.ext hx6
    have r41 := r33.ext hx6
    have r42 := r34.ext hx6
    have r43 := r35.ext hx6
    have r44 := r27.ext hx6
    refine sst rfl rfl rfl ti25 hb5 rfl rfl (ble rfl) fun w7 hch1 hb7 => ?_
    have k6 := Ext.chg k5 hch1 (Nat.le_trans k4.size hg2)
    have k7 := Ext.chg hx6 hch1 (Nat.le_trans (Nat.le_refl _) hg2)
    have hb8 := hb4.ext k7
    have r45 := r28.ext k7
    have r46 := r29.ext k7
    have r47 := r30.ext k7
    have r48 := r31.ext k7
    have r49 := r32.ext k7
    have r50 := r33.ext k7
    have r51 := r34.ext k7
    have r52 := r35.ext k7
    have hb9 : Bx w7 b7 25 [.slice a7 x9.1.length cq7, .slice a8 x9.2.length cq8] := hb7
    refine nl <| wp_seq <| rg <| vl rfl rfl (xlda rfl ti25 rfl (Bx.cs hb8)) <| vl rfl rfl xmv <| vl rfl rfl xmv <| ?_
    have hz := bs hF; obtain ⟨x10, Ex10, hF⟩ := hz
    refine cl rfl rfl (xc cb30 (mc rfl (mc rfl (mc rfl mn)))) (c30 (show RV (α := ((List Int) × (List ((List Int) × (List Int))))) _ (.agg [.slice a1 x0.1.length cq1, .slice a2 x0.2.length cq2].toArray) (x0.1, x0.2) from ⟨_, rfl, ⟨[.slice a1 x0.1.length cq1], [.slice a2 x0.2.length cq2], rfl, r45.rep1, r46.rep1⟩⟩) r47 r49 Ex10) ?_
    rintro _ w8 ⟨u2, rfl, r53, hx7⟩
    have k8 := k6.tr hx7
    have k9 := k7.tr hx7
    have hb10 := hb8.ext hx7
    have r54 := r45.ext hx7
    have r55 := r46.ext hx7
    have hb11 := hb9.ext hx7
    have r56 := r51.ext hx7
    have r57 := r52.ext hx7
    have r58 := r47.ext hx7
    have r59 := r48.ext hx7
    have r60 := r50.ext hx7
    have hz := RV.sl r53; obtain ⟨a9, cq9, rfl, -, -, -⟩ := hz
    refine vl rfl rfl xas <| nl <| wp_seq <| rg <| vl rfl rfl (xlda rfl ti25 rfl (Bx.cs hb10)) <| vl rfl rfl xmv <| vl rfl rfl xmv <| ?_
    have hz := bs hF; obtain ⟨x11, Ex11, hF⟩ := hz
    refine cl rfl rfl (xc cb14 (mc rfl (mc rfl (mc rfl mn)))) (c14 (show RV (α := ((List Int) × (List ((List Int) × (List Int))))) _ (.agg [.slice a1 x0.1.length cq1, .slice a2 x0.2.length cq2].toArray) (x0.1, x0.2) from ⟨_, rfl, ⟨[.slice a1 x0.1.length cq1], [.slice a2 x0.2.length cq2], rfl, r54.rep1, r55.rep1⟩⟩) r58 r53 Ex11) ?_
    rintro _ w9 ⟨u3, rfl, r61, hx8⟩
    have k10 := k8.tr hx8
    have k11 := k9.tr hx8
    have hb12 := hb10.ext hx8
    have r62 := r54.ext hx8
    have r63 := r55.ext hx8
    have hb13 := hb11.ext hx8
    have r64 := r56.ext hx8
    have r65 := r57.ext hx8
    have r66 := r58.ext hx8
    have r67 := r59.ext hx8
    have r68 := r60.ext hx8
    have r69 := r53.ext hx8
    have hz := RV.sl r61; obtain ⟨a10, cq10, rfl, -, -, -⟩ := hz
    refine vl rfl rfl xmv <| vl rfl rfl (xext rfl rfl) <| vl rfl rfl (xext rfl rfl) <| vl rfl rfl xas <| vl rfl rfl xas <| nl <| wp_seq <| wp_seq <| rg <| vl rfl rfl xmv <| vl rfl rfl (xneq rfl rfl) <| vl rfl rfl xmv <| gv rfl rfl rfl rfl (gw0 rfl) rfl (fun hc => xlda rfl ti25 rfl (Bx.cs hb12)) <| gv rfl rfl rfl rfl (gw0 rfl) rfl (fun hc => xmva rfl) <| ?_
    have hz := bs hF; obtain ⟨x12, Ex12, hF⟩ := hz
    refine gc rfl rfl rfl rfl (gw0 rfl) rfl (fun hc => xc cb31 (mc (mv hc rfl) (mc (mv hc rfl) mn))) (fun hc => (c31 (show RV (α := ((List Int) × (List ((List Int) × (List Int))))) _ (.agg [.slice a1 x0.1.length cq1, .slice a2 x0.2.length cq2].toArray) (x0.1, x0.2) from ⟨_, rfl, ⟨[.slice a1 x0.1.length cq1], [.slice a2 x0.2.length cq2], rfl, r62.rep1, r63.rep1⟩⟩) r61 (gdp Ex12 hc))) (fun v7 w10 hy2 hn2 => ?_)
    have hx9 : Ext w9 w10 := gx (fun h => (hy2 h).2) (fun h => (hn2 h).2 ▸ Ext.refl _)
    have e6 := mkw (fun h => (hy2 h).1) (fun h => (hn2 h).1)
    have k12 := k10.tr hx9
    have k13 := k11.tr hx9
    have hb14 := hb12.ext hx9
    have r70 := r62.ext hx9
    have r71 := r63.ext hx9
    have hb15 := hb13.ext hx9
    have r72 := r64.ext hx9
    have r73 := r65.ext hx9
    have r74 := r66.ext hx9
    have r75 := r67.ext hx9
    have r76 := r68.ext hx9
    have r77 := r69.ext hx9
    have r78 := r61.ext hx9
    refine gv rfl rfl rfl rfl (gw0 rfl) rfl (fun hc => xneq (mv hc e6) rfl) <| vl rfl rfl (xpo rfl rfl rfl) <| nl <| cnd rfl (fun h7 => ?_) (fun h7 => ?_)
    ·
      have hF := ifp hF h7
      refine wp_seq <| rg <| vl rfl rfl xas <| nl <| ?_
      cases hF
      exact wp_ret <| rt rfl (.tmp rfl rfl .nil) ⟨rfl, k12⟩
    ·
      have hF := ifn hF h7
      refine wp_skip <| wp_seq <| rg <| vl rfl rfl xas <| nl <| wp_seq <| wp_seq <| rg <| vl rfl rfl xmv <| vl rfl rfl (xlen rfl Try.underlying26) <| vl rfl rfl (xsub rfl rfl) <| vl rfl rfl xas <| nl <| ?_
      have o1 : Row (α := Int) 3 w10.heap.size w10 (.slice none 0 0) [] := Row.nil
      have hz := bs hF; obtain ⟨z1, hB1, hF⟩ := hz
      refine ct (fun L w => ∃ v9 : Value, L 15 = v9 ∧ Row 3 w10.heap.size w v9 z1 ∧ L 1 = .slice a3 x1.length cq3 ∧ L 2 = .slice a4 x2.length cq4 ∧ L 4 = .slice a6 x4.length cq6 ∧ L 5 = .pointer (some ⟨b6, 0, none⟩) ∧ L 11 = .pointer (some ⟨b7, 0, none⟩) ∧ L 13 = .slice a10 x11.1.length cq10 ∧ Ext w10 w) ?_ ?_
      ·
        refine wp_block <| lp (I := fun m L w => ∃ y1 : (List Int), ∃ y2 : Int, ∃ v8 : Value, law11_BathBack_l1 F x10 m y1 y2  = some z1 ∧ L 15 = v8 ∧ Row 3 w10.heap.size w v8 y1 ∧ L 16 = .int .i64 y2 ∧ L 1 = .slice a3 x1.length cq3 ∧ L 2 = .slice a4 x2.length cq4 ∧ L 4 = .slice a6 x4.length cq6 ∧ L 5 = .pointer (some ⟨b6, 0, none⟩) ∧ L 11 = .pointer (some ⟨b7, 0, none⟩) ∧ L 12 = .slice a9 x10.length cq9 ∧ L 13 = .slice a10 x11.1.length cq10 ∧ Ext w10 w) F ⟨_, _, _, hB1, rfl, o1, rfl, rfl, rfl, rfl, rfl, rfl, rfl, rfl, (Ext.refl _)⟩ ?_
        rintro m L w11 ⟨y1, y2, v8, hB1, l15_i1, O15_i1, l16_i1, l1_i1, l2_i1, l4_i1, l5_i1, l11_i1, l12_i1, l13_i1, K0_i1⟩
        rcases m with _ | m
        · rw [law11_BathBack_l1] at hB1; cases hB1
        rw [law11_BathBack_l1] at hB1
        have k14 := k12.tr K0_i1
        have k15 := k13.tr K0_i1
        have r79 := r74.ext K0_i1
        have r80 := r75.ext K0_i1
        have r81 := r76.ext K0_i1
        have r82 := r70.ext K0_i1
        have r83 := r71.ext K0_i1
        have hb16 := hb14.ext K0_i1
        have r84 := r72.ext K0_i1
        have r85 := r73.ext K0_i1
        have hb17 := hb15.ext K0_i1
        have r86 := r77.ext K0_i1
        have r87 := r78.ext K0_i1
        have hz := RV.sl O15_i1.rv; obtain ⟨a11, cq11, rfl, -, -, -⟩ := hz
        refine wp_seq <| wp_seq <| rg <| vl rfl rfl xmv <| vl rfl rfl (xgeq l16_i1 rfl) <| nl <| cnd rfl (fun h8 => ?_) (fun h8 => ?_)
        ·
          have hB1 := ifp hB1 h8
          refine wp_skip <| wp_seq <| wp_block <| rg <| vl rfl rfl xmv <| vl rfl rfl xmv <| vl rfl rfl xmv <| ?_
          have hz := bs hB1; obtain ⟨x13, Ex13, hB1⟩ := hz
          have hz := (RV.els r77).ix Ex13; obtain ⟨b8, f1, cs6, e7, i2, i3, q10, hc1⟩ := hz
          cases e7
          obtain rfl := q10
          have hc2 := hc1.ext K0_i1
          refine vl rfl rfl (xixs l12_i1 l16_i1 Try.underlying26 ti3 i2 i3) <| vl rfl rfl (xld rfl ti3 (hc2.at 0 rfl)) <| sbsv (cs := [.int .i64 x13]) Try.underlying26 ti3 rfl (pc rfl pn) rfl rfl rfl rfl rfl fun b9 w12 hx10 hg3 hb18 => ?_
          have k16 := k14.tr hx10
          have k17 := k15.tr hx10
          have k18 := K0_i1.tr hx10
          have hb19 := hb16.ext hx10
          have r88 := r82.ext hx10
          have r89 := r83.ext hx10
          have hb20 := hb17.ext hx10
          have r90 := r84.ext hx10
          have r91 := r85.ext hx10
          have r92 := r79.ext hx10
          have r93 := r80.ext hx10
          have r94 := r81.ext hx10
          have r95 := r86.ext hx10
          have r96 := r87.ext hx10
          have O1 := O15_i1.ext hx10
          have o3 : Row (α := Int) 3 w11.heap.size w12 (.slice (some ⟨b9, 0, none⟩) 1 1) [x13] := Row.lit hg3 hb18 rfl (ble rfl)
          have hz := bs hB1; obtain ⟨x14, Ex14, hB1⟩ := hz
          refine sapx (l := y1) (k := ([x13] : List Int)) l15_i1 rfl Try.underlying26 ti3 rfl rfl O1 (RV.els o3.rv) Ex14 k18.size fun v10 w13 o4 hB3 hgr1 how1 => ?_
          have k19 := Ext.grow k16 k12.size hB3
          have k20 := Ext.grow k17 k13.size hB3
          have k21 : Ext w10 w13 := k18.trans hB3
          have hb21 := hb14.ext k21
          have r98 := r70.ext k21
          have r99 := r71.ext k21
          have hb22 := hb15.ext k21
          have r100 := r72.ext k21
          have r101 := r73.ext k21
          have r102 := r74.ext k21
          have r103 := r75.ext k21
          have r104 := r76.ext k21
          have r105 := r77.ext k21
          have r106 := r78.ext k21
          have hz := RV.sl o4.rv; obtain ⟨a12, cq12, rfl, -, -, -⟩ := hz
          refine vl rfl rfl xas <| nl <| rg <| vl rfl rfl xmv <| vl rfl rfl (xsub l16_i1 rfl) <| vl rfl rfl xas <| nl <| ?_
          refine lq m (Nat.lt_succ_self _) <| ?_
          exact ⟨_, _, _, hB1, rfl, o4, rfl, l1_i1, l2_i1, l4_i1, l5_i1, l11_i1, l12_i1, l13_i1, k21⟩
        ·
          have hB1 := ifn hB1 h8
          refine wp_exit <| ?_
          cases hB1
          refine lf <| ?_
          exact ⟨_, l15_i1, O15_i1, l1_i1, l2_i1, l4_i1, l5_i1, l11_i1, l13_i1, K0_i1⟩
      rintro L w14 ⟨v9, l15_j1, O15_j1, l1_j1, l2_j1, l4_j1, l5_j1, l11_j1, l13_j1, K0_j1⟩
      have k22 := k12.tr K0_j1
      have k23 := k13.tr K0_j1
      have r107 := r74.ext K0_j1
      have r108 := r75.ext K0_j1
      have r109 := r76.ext K0_j1
      have r110 := r70.ext K0_j1
      have r111 := r71.ext K0_j1
      have hb23 := hb14.ext K0_j1
      have r112 := r72.ext K0_j1
      have r113 := r73.ext K0_j1
      have hb24 := hb15.ext K0_j1
      have r114 := r78.ext K0_j1
      have hz := RV.sl O15_j1.rv; obtain ⟨a13, cq13, rfl, -, -, -⟩ := hz
      refine wp_seq <| rg <| vl rfl rfl (xlda l11_j1 ti25 rfl (Bx.cs hb24)) <| vl rfl rfl xmv <| vl rfl rfl xmv <| ?_
      have hz := bs hF; obtain ⟨x15, Ex15, hF⟩ := hz
      refine cl rfl rfl (xc cb14 (mc rfl (mc l13_j1 (mc l15_j1 mn)))) (c14 (show RV (α := ((List Int) × (List ((List Int) × (List Int))))) _ (.agg [.slice a7 x9.1.length cq7, .slice a8 x9.2.length cq8].toArray) (x9.1, x9.2) from ⟨_, rfl, ⟨[.slice a7 x9.1.length cq7], [.slice a8 x9.2.length cq8], rfl, r112.rep1, r113.rep1⟩⟩) r114 O15_j1.rv Ex15) ?_
      rintro _ w15 ⟨u4, rfl, r115, hx11⟩
      have k24 := k22.tr hx11
      have k25 := k23.tr hx11
      have k26 := K0_j1.tr hx11
      have hb25 := hb23.ext hx11
      have r116 := r110.ext hx11
      have r117 := r111.ext hx11
      have hb26 := hb24.ext hx11
      have r118 := r112.ext hx11
      have r119 := r113.ext hx11
      have r120 := r107.ext hx11
      have r121 := r108.ext hx11
      have r122 := r109.ext hx11
      have hz := RV.sl r115; obtain ⟨a14, cq14, rfl, -, -, -⟩ := hz
      refine vl rfl rfl xmv <| vl rfl rfl (xext rfl rfl) <| vl rfl rfl (xext rfl rfl) <| vl rfl rfl xas <| vl rfl rfl xas <| nl <| wp_seq <| rg <| vl rfl rfl (xlda l5_j1 ti25 rfl (Bx.cs hb25)) <| vl rfl rfl xmv <| vl rfl rfl xmv <| ?_
      have hz := bs hF; obtain ⟨x16, Ex16, hF⟩ := hz
      refine cl rfl rfl (xc cb20 (mc rfl (mc l1_j1 (mc l2_j1 mn)))) (c20 (show RV (α := ((List Int) × (List ((List Int) × (List Int))))) _ (.agg [.slice a1 x0.1.length cq1, .slice a2 x0.2.length cq2].toArray) (x0.1, x0.2) from ⟨_, rfl, ⟨[.slice a1 x0.1.length cq1], [.slice a2 x0.2.length cq2], rfl, r116.rep1, r117.rep1⟩⟩) r120 r121 Ex16) ?_
      rintro _ w16 ⟨u5, rfl, r123, hx12⟩
      have k27 := k24.tr hx12
      have k28 := k25.tr hx12
      have k29 := k26.tr hx12
      have hb27 := hb25.ext hx12
      have r124 := r116.ext hx12
      have r125 := r117.ext hx12
      have hb28 := hb26.ext hx12
      have r126 := r118.ext hx12
      have r127 := r119.ext hx12
      have r128 := r120.ext hx12
      have r129 := r121.ext hx12
      have r130 := r122.ext hx12
      have r131 := r115.ext hx12
      have hz := RV.sl r123; obtain ⟨a15, cq15, rfl, -, -, -⟩ := hz
      refine vl rfl rfl xmv <| vl rfl rfl (xext rfl rfl) <| vl rfl rfl (xext rfl rfl) <| vl rfl rfl xas <| vl rfl rfl xas <| nl <| wp_seq <| rg <| vl rfl rfl (xlda l11_j1 ti25 rfl (Bx.cs hb28)) <| vl rfl rfl xmv <| vl rfl rfl xmv <| ?_
      have hz := bs hF; obtain ⟨x17, Ex17, hF⟩ := hz
      refine cl rfl rfl (xc cb20 (mc rfl (mc l2_j1 (mc l1_j1 mn)))) (c20 (show RV (α := ((List Int) × (List ((List Int) × (List Int))))) _ (.agg [.slice a7 x9.1.length cq7, .slice a8 x9.2.length cq8].toArray) (x9.1, x9.2) from ⟨_, rfl, ⟨[.slice a7 x9.1.length cq7], [.slice a8 x9.2.length cq8], rfl, r126.rep1, r127.rep1⟩⟩) r129 r128 Ex17) ?_
      rintro _ w17 ⟨u6, rfl, r132, hx13⟩
      have k30 := k27.tr hx13
      have k31 := k28.tr hx13
      have k32 := k29.tr hx13
      have hb29 := hb27.ext hx13
      have r133 := r124.ext hx13
      have r134 := r125.ext hx13
      have hb30 := hb28.ext hx13
      have r135 := r126.ext hx13
      have r136 := r127.ext hx13
      have r137 := r128.ext hx13
      have r138 := r130.ext hx13
      have r139 := r131.ext hx13
      have r140 := r123.ext hx13
      have hz := RV.sl r132; obtain ⟨a16, cq16, rfl, -, -, -⟩ := hz
      refine vl rfl rfl xmv <| vl rfl rfl (xext rfl rfl) <| vl rfl rfl (xext rfl rfl) <| vl rfl rfl xas <| vl rfl rfl xas <| nl <| wp_seq <| wpl [] (.pure true 0 (.pure true 1 (.pure true 2 (.pure true 3 (.pure true 4 (.eff 5 (.pure true 6 (.pure true 7 (.pure true 8 (.pure true 9 (.pure true 10 (.pure true 11 (.pure true 12 (.pure true 13 (.pure false 14 (.pure true 15 (.pure false 16 (.pure true 17 (.pure true 18 (.pure true 19 (.pure false 20 (.pure true 21 (.pure false 23 (.pure true 24 (.eff 22 (.eff 25 (.pure true 26 (.pure true 27 (.pure true 28 (.eff 29 (.pure true 30 (.pure true 31 .fin)) .stop)))) .stop) .stop))))))))))))))))))) .stop)))))) mixed (by kernel_rfl) (fun w18 hx14 => ?_)
      have k33 := k30.tr hx14
      have k34 := k31.tr hx14
      have k35 := k32.tr hx14
      have hb31 := hb29.ext hx14
      have r141 := r133.ext hx14
      have r142 := r134.ext hx14
      have hb32 := hb30.ext hx14
      have r143 := r135.ext hx14
      have r144 := r136.ext hx14
      have r145 := r137.ext hx14
      have r146 := r138.ext hx14
      have r147 := r139.ext hx14
      have r148 := r140.ext hx14
      have r149 := r132.ext hx14
      refine pv rfl rfl rfl (fun _ _ => xmv) (.inl rfl) <| pv rfl rfl rfl (fun _ _ => xeql rfl rfl) (.inl rfl) <| pv rfl rfl rfl (fun _ _ => xmv) (.inl rfl) <| pgv rfl rfl rfl rfl rfl (gw1 rfl) rfl (fun hc => (fun _ _ => xmva rfl)) (.inl rfl) <| pgv rfl rfl rfl rfl rfl (gw1 rfl) rfl (fun hc => (fun _ _ => xmva l1_j1)) (.inl rfl) <| ?_
      have hz := bs hF; obtain ⟨x18, Ex18, hF⟩ := hz
      refine pe1 rfl <| gc rfl rfl rfl rfl (gw1 rfl) rfl (fun hc => xc cb18 (mc (mv hc rfl) (mc (mv hc rfl) mn))) (fun hc => (c18 r147 r145 (gdp Ex18 hc))) (fun v11 w19 hy3 hn3 => ?_)
      have hx15 : Ext w18 w19 := gx (fun h => (hy3 h).2) (fun h => (hn3 h).2 ▸ Ext.refl _)
      have e8 := mkw (fun h => (hy3 h).1) (fun h => (hn3 h).1)
      have k36 := k33.tr hx15
      have k37 := k34.tr hx15
      have k38 := k35.tr hx15
      have hb33 := hb31.ext hx15
      have r150 := r141.ext hx15
      have r151 := r142.ext hx15
      have hb34 := hb32.ext hx15
      have r152 := r143.ext hx15
      have r153 := r144.ext hx15
      have r154 := r146.ext hx15
      have r155 := r148.ext hx15
      have r156 := r149.ext hx15
      refine nl ⟨fun _ _ => hx15, ?_⟩
      refine pv rfl rfl rfl (fun _ _ => xpa rfl e8 rfl) (.inl rfl) <| pv rfl rfl rfl (fun _ _ => xmv) (.inl rfl) <| pgv rfl rfl rfl rfl rfl (gw1 rfl) rfl (fun hc => (fun _ _ => xmva rfl)) (.inl rfl) <| pgv rfl rfl rfl rfl rfl (gw1 rfl) rfl (fun hc => (fun _ _ => xmva rfl)) (.inl rfl) <| pgv rfl rfl rfl rfl rfl (gw1 rfl) rfl (fun hc => (fun _ _ => xeql (mv hc rfl) (mv hc rfl))) (.inl rfl) <| pv rfl rfl rfl (fun _ _ => xpa rfl rfl rfl) (.inl rfl) <| pv rfl rfl rfl (fun _ _ => xmv) (.inl rfl) <| pgv rfl rfl rfl rfl rfl (gw1 rfl) rfl (fun hc => (fun _ _ => xmva rfl)) (.inl rfl) <| pgv rfl rfl rfl rfl rfl (gw1 rfl) rfl (fun hc => (fun _ hS => xlen (mv hc rfl) Try.underlying26)) (.inr hx15) <| pgv rfl rfl rfl rfl rfl (gw1 rfl) rfl (fun hc => (fun _ _ => xmva rfl)) (.inl rfl) <| pgv rfl rfl rfl rfl rfl (gw1 rfl) rfl (fun hc => (fun _ hS => xlen (mv hc rfl) Try.underlying26)) (.inr hx15) <| pgv rfl rfl rfl rfl rfl (gw1 rfl) rfl (fun hc => (fun _ _ => xeql (mv hc rfl) (mv hc rfl))) (.inl rfl) <| pv rfl rfl rfl (fun _ _ => xpa rfl rfl rfl) (.inl rfl) <| pv rfl rfl rfl (fun _ _ => xmv) (.inl rfl) <| pgv rfl rfl rfl rfl rfl (gw1 rfl) rfl (fun hc => (fun _ hS => xlda l5_j1 ti25 rfl (Bx.cs (hb31.ext (hS.resolve_left nofun))))) (.inr hx15) <| pgv rfl rfl rfl rfl rfl (gw1 rfl) rfl (fun hc => (fun _ _ => xmva l4_j1)) (.inl rfl) <| pgv rfl rfl rfl rfl rfl (gw1 rfl) rfl (fun hc => (fun _ hS => xlda l11_j1 ti25 rfl (Bx.cs (hb32.ext (hS.resolve_left nofun))))) (.inr hx15) <| pgv rfl rfl rfl rfl rfl (gw1 rfl) rfl (fun hc => (fun _ _ => xmva l4_j1)) (.inl rfl) <| ?_
      have hz := bs hF; obtain ⟨x19, Ex19, hF⟩ := hz
      refine pe1 rfl <| gc rfl rfl rfl rfl (gw1 rfl) rfl (fun hc => xc cb33 (mc (mv hc rfl) (mc (mv hc rfl) mn))) (fun hc => (c33 (show RV (α := ((List Int) × (List ((List Int) × (List Int))))) _ (.agg [.slice a1 x0.1.length cq1, .slice a2 x0.2.length cq2].toArray) (x0.1, x0.2) from ⟨_, rfl, ⟨[.slice a1 x0.1.length cq1], [.slice a2 x0.2.length cq2], rfl, r150.rep1, r151.rep1⟩⟩) r154 (gdp Ex19 hc))) (fun v12 w20 hy4 hn4 => ?_)
      have hx16 : Ext w19 w20 := gx (fun h => (hy4 h).2) (fun h => (hn4 h).2 ▸ Ext.refl _)
      have e9 := mkw (fun h => (hy4 h).1) (fun h => (hn4 h).1)
      have k39 := k36.tr hx16
      have k40 := k37.tr hx16
      have k41 := k38.tr hx16
      have k42 := hx15.tr hx16
      have r157 := r152.ext hx16
      have r158 := r153.ext hx16
      have r159 := r154.ext hx16
      refine nl ⟨fun _ _ => k42, ?_⟩
      have hz := bs hF; obtain ⟨x20, Ex20, hF⟩ := hz
      refine pe1 rfl <| gc rfl rfl rfl rfl (gw1 rfl) rfl (fun hc => xc cb33 (mc (mv hc rfl) (mc (mv hc rfl) mn))) (fun hc => (c33 (show RV (α := ((List Int) × (List ((List Int) × (List Int))))) _ (.agg [.slice a7 x9.1.length cq7, .slice a8 x9.2.length cq8].toArray) (x9.1, x9.2) from ⟨_, rfl, ⟨[.slice a7 x9.1.length cq7], [.slice a8 x9.2.length cq8], rfl, r157.rep1, r158.rep1⟩⟩) r159 (gdp Ex20 hc))) (fun v13 w21 hy5 hn5 => ?_)
      have hx17 : Ext w20 w21 := gx (fun h => (hy5 h).2) (fun h => (hn5 h).2 ▸ Ext.refl _)
      have e10 := mkw (fun h => (hy5 h).1) (fun h => (hn5 h).1)
      have k43 := k39.tr hx17
      have k44 := k40.tr hx17
      have k45 := k41.tr hx17
      have k46 := k42.tr hx17
      refine nl ⟨fun _ _ => k46, ?_⟩
      refine pgv rfl rfl rfl rfl rfl (gw1 rfl) rfl (fun hc => (fun _ _ => xeql (mv hc e9) (mv hc e10))) (.inl rfl) <| pv rfl rfl rfl (fun _ _ => xpa rfl rfl rfl) (.inl rfl) <| pv rfl rfl rfl (fun _ _ => xmv) (.inl rfl) <| ?_
      have hz := bs hF; obtain ⟨x21, Ex21, hF⟩ := hz
      refine pe1 rfl <| gc rfl rfl rfl rfl (gw1 rfl) rfl (fun hc => xc cb13 mn) (fun hc => (c13 (gdp Ex21 hc))) (fun v14 w22 hy6 hn6 => ?_)
      have hx18 : Ext w21 w22 := gx (fun h => (hy6 h).2) (fun h => (hn6 h).2 ▸ Ext.refl _)
      have e11 := mkw (fun h => (hy6 h).1) (fun h => (hn6 h).1)
      have k47 := k43.tr hx18
      have k48 := k44.tr hx18
      have k49 := k45.tr hx18
      have k50 := k46.tr hx18
      refine nl ⟨fun _ _ => k50, ?_⟩
      refine pv rfl rfl rfl (fun _ _ => xpa rfl e11 rfl) (.inl rfl) <| pv rfl rfl rfl (fun _ _ => xas) (.inl rfl) <| ?_
      cases hF
      exact wp_ret <| rt rfl (.tmp rfl rfl .nil) ⟨rfl, k47⟩
end Go.Proofs.Ytboefnpnoojfpaa
