/-
  Each function of the program returns what its pure function computes, and leaves all memory that was there as it was. Condition: the pure function computes something.
-/
import Derived.Test.YtboefnpnoojfpaaFacts
import Derived.Test.YtboefnpnoojfpaaPureC
import Derived.Test.YtboefnpnoojfpaaMore
import Derived.Test.YtboefnpnoojfpaaWalkB
namespace Go.Proofs.Ytboefnpnoojfpaa
open Go Go.Md Go.RowKit
attribute [local irreducible] Go.wpList Go.Code.wp Go.Calls Go.Md.Rnd Go.Md.Mt Go.Md.MtM Go.Md.RndM Go.Code.wpIn

set_option maxHeartbeats 4000000 in
theorem c10 {w0 : World} {v0 : Value} {x0 : ((List Int) × (List ((List Int) × (List Int))))} (r0 : RV w0 v0 x0) {v1 : Value} {x1 : (List Int)} (r1 : RV w0 v1 x1) {v2 : Value} {x2 : (List Int)} (r2 : RV w0 v2 x2) {v3 : Value} {x3 : (List Int)} (r3 : RV w0 v3 x3) {v4 : Value} {x4 : ((List Int) × Int)} (r4 : RV w0 v4 x4) {v5 : Value} {x5 : (List (KI .u8))} (r5 : RV w0 v5 x5) {F : Nat} {r : Bool} (hF : law11_BathEither F x0 x1 x2 x3 x4 x5 = some r) :
    Calls Try.prog 10 [v0, v1, v2, v3, v4, v5].toArray w0 (Ret fun v w' => v = .bool r ∧ Ext w0 w') := by
  unfold law11_BathEither at hF
  have hz := id r0; obtain ⟨_, rfl, ⟨_, _, rfl, ⟨a1, cq1, rfl, p1, q7, e1⟩, ⟨a2, cq2, rfl, p2, q8, e2⟩⟩⟩ := hz
  have r7 := RV.of1 p1 q7 e1
  have r8 := RV.of1 p2 q8 e2
  have hz := r1.sl; obtain ⟨a3, cq3, rfl, -, -, -⟩ := hz
  have hz := r2.sl; obtain ⟨a4, cq4, rfl, -, -, -⟩ := hz
  have hz := r3.sl; obtain ⟨a5, cq5, rfl, -, -, -⟩ := hz
  have hz := id r4; obtain ⟨_, rfl, ⟨_, _, rfl, ⟨a6, cq6, rfl, p3, q9, e3⟩, rfl⟩⟩ := hz
  have r9 := RV.of1 p3 q9 e3
  have hz := r5.sl; obtain ⟨a7, cq7, rfl, -, -, -⟩ := hz
  refine entr (n := 191) Try.func10 rfl rfl rfl <| wp_seq <| rg <| sbx rfl rfl fun b7 w1 hx1 hg1 hb1 => ?_
  have r10 := r1.ext hx1
  have r11 := r2.ext hx1
  have r12 := r3.ext hx1
  have r13 := r9.ext hx1
  have r14 := r4.ext hx1
  have r15 := r5.ext hx1
  have r16 := r7.ext hx1
  have r17 := r8.ext hx1
  have r18 := r0.ext hx1
  refine sbx rfl rfl fun b8 w2 hx2 hg2 hb2 => ?_
  have k1 := hx1.tr hx2
  have hb3 := hb1.ext hx2
  have r19 := r16.ext hx2
  have r20 := r17.ext hx2
  have r21 := r10.ext hx2
  have r22 := r11.ext hx2
  have r23 := r12.ext hx2
  have r24 := r15.ext hx2
  have r25 := r13.ext hx2
  have r26 := r14.ext hx2
  refine vl rfl rfl xas <| nl <| wp_seq <| wp_seq <| rg <| vl rfl rfl (xlda rfl ti25 rfl (Bx.cs hb3)) <| ?_
  have hz := bs hF; obtain ⟨x7, Ex7, hF⟩ := hz
  refine cl rfl rfl (xc cb12 (mc rfl mn)) (c12 (show RV (α := ((List Int) × (List ((List Int) × (List Int))))) _ (.agg [.slice a1 x0.1.length cq1, .slice a2 x0.2.length cq2].toArray) (x0.1, x0.2) from ⟨_, rfl, ⟨[.slice a1 x0.1.length cq1], [.slice a2 x0.2.length cq2], rfl, r19.rep1, r20.rep1⟩⟩) Ex7) ?_
  rintro _ w3 ⟨rfl, hx3⟩
  have k2 := k1.tr hx3
  have k3 := hx2.tr hx3
  have hb4 := hb3.ext hx3
  have r27 := r19.ext hx3
  have r28 := r20.ext hx3
  have hb5 := hb2.ext hx3
  have r29 := r25.ext hx3
  have r30 := r21.ext hx3
  have r31 := r22.ext hx3
  have r32 := r23.ext hx3
  have r33 := r24.ext hx3
  refine vl rfl rfl xmv <| gv rfl rfl rfl rfl (gw0 rfl) rfl (fun hc => xmva rfl) <| gv rfl rfl rfl rfl (gw0 rfl) rfl (fun hc => xlen (mv hc rfl) Try.underlying22) <| gv rfl rfl rfl rfl (gw0 rfl) rfl (fun hc => xgtr (mv hc rfl) rfl) <| vl rfl rfl (xpo rfl rfl rfl) <| vl rfl rfl xmv <| gv rfl rfl rfl rfl (gw0 rfl) rfl (fun hc => xmva rfl) <| gv rfl rfl rfl rfl (gw0 rfl) rfl (fun hc => xlen (mv hc rfl) Try.underlying22) <| gv rfl rfl rfl rfl (gw0 rfl) rfl (fun hc => xgtr (mv hc rfl) rfl) <| vl rfl rfl (xpo rfl rfl rfl) <| vl rfl rfl xmv <| gv rfl rfl rfl rfl (gw0 rfl) rfl (fun hc => xlda rfl ti25 rfl (Bx.cs hb4)) <| gv rfl rfl rfl rfl (gw0 rfl) rfl (fun hc => xmva rfl) <| gv rfl rfl rfl rfl (gw0 rfl) rfl (fun hc => xmva rfl) <| ?_
  have hz := bs hF; obtain ⟨x8, Ex8, hF⟩ := hz
  refine gc rfl rfl rfl rfl (gw0 rfl) rfl (fun hc => xc cb41 (mc (mv hc rfl) (mc (mv hc rfl) (mc (mv hc rfl) mn)))) (fun hc => (c41 (show RV (α := ((List Int) × (List ((List Int) × (List Int))))) _ (.agg [.slice a1 x0.1.length cq1, .slice a2 x0.2.length cq2].toArray) (x0.1, x0.2) from ⟨_, rfl, ⟨[.slice a1 x0.1.length cq1], [.slice a2 x0.2.length cq2], rfl, r27.rep1, r28.rep1⟩⟩) r30 r31 (gdp Ex8 hc))) (fun v7 w4 hy1 hn1 => ?_)
  have hx4 : Ext w3 w4 := gx (fun h => (hy1 h).2) (fun h => (hn1 h).2 ▸ Ext.refl _)
  have e4 := mkw (fun h => (hy1 h).1) (fun h => (hn1 h).1)
  have k4 := k2.tr hx4
  have k5 := k3.tr hx4
  have hb6 := hb4.ext hx4
  have r34 := r27.ext hx4
  have r35 := r28.ext hx4
  have hb7 := hb5.ext hx4
  have r36 := r29.ext hx4
  have r37 := r30.ext hx4
  have r38 := r31.ext hx4
  have r39 := r32.ext hx4
  have r40 := r33.ext hx4
  refine gv rfl rfl rfl rfl (gw0 rfl) rfl (fun hc => xneq (mv hc e4) rfl) <| vl rfl rfl (xpo rfl rfl rfl) <| vl rfl rfl xmv <| gv rfl rfl rfl rfl (gw0 rfl) rfl (fun hc => xmva rfl) <| gv rfl rfl rfl rfl (gw0 rfl) rfl (fun hc => xlen (mv hc rfl) Try.underlying22) <| gv rfl rfl rfl rfl (gw0 rfl) rfl (fun hc => xgtr (mv hc rfl) rfl) <| vl rfl rfl (xpo rfl rfl rfl) <| vl rfl rfl xmv <| gv rfl rfl rfl rfl (gw0 rfl) rfl (fun hc => xfa rfl fa62_0) <| gv rfl rfl rfl rfl (gw0 rfl) rfl (fun hc => xld (mv hc rfl) ti22 ((Bx.cs hb7).at 0 rfl)) <| gv rfl rfl rfl rfl (gw0 rfl) rfl (fun hc => xlen (mv hc rfl) Try.underlying22) <| gv rfl rfl rfl rfl (gw0 rfl) rfl (fun hc => xgtr (mv hc rfl) rfl) <| vl rfl rfl (xpo rfl rfl rfl) <| vl rfl rfl xmv <| gv rfl rfl rfl rfl (gw0 rfl) rfl (fun hc => xmva rfl) <| gv rfl rfl rfl rfl (gw0 rfl) rfl (fun hc => xlen (mv hc rfl) Try.underlying47) <| gv rfl rfl rfl rfl (gw0 rfl) rfl (fun hc => xgtr (mv hc rfl) rfl) <| vl rfl rfl (xpo rfl rfl rfl) <| nl <| cnd rfl (fun h7 => ?_) (fun h7 => ?_)
  ·
    have hF := ifp hF h7
    refine wp_seq <| rg <| ?_
    have hz := bs hF; obtain ⟨x9, Ex9, hF⟩ := hz
    refine cl rfl rfl (xc cb13 mn) (c13 Ex9) ?_
    rintro _ w5 ⟨rfl, hx5⟩
    have k6 := k4.tr hx5
    have k7 := k5.tr hx5
    refine vl rfl rfl xas <| nl <| ?_
    cases hF
    exact wp_ret <| rt rfl (.tmp rfl rfl .nil) ⟨rfl, k6⟩
  ·
    have hF := ifn hF h7
    refine wp_skip <| wp_seq <| rg <| vl rfl rfl (xlda rfl ti25 rfl (Bx.cs hb6)) <| vl rfl rfl xmv <| vl rfl rfl xmv <| ?_
    have hz := bs hF; obtain ⟨x10, Ex10, hF⟩ := hz
    refine cl rfl rfl (xc cb32 (mc rfl (mc rfl (mc rfl mn)))) (c32 (show RV (α := ((List Int) × (List ((List Int) × (List Int))))) _ (.agg [.slice a1 x0.1.length cq1, .slice a2 x0.2.length cq2].toArray) (x0.1, x0.2) from ⟨_, rfl, ⟨[.slice a1 x0.1.length cq1], [.slice a2 x0.2.length cq2], rfl, r34.rep1, r35.rep1⟩⟩) r37 r38 Ex10) ?_
    rintro _ w6 ⟨u1, rfl, r41, hx6⟩
    have k8 := k4.tr hx6
    have k9 := k5.tr hx6
    have hb8 := hb6.ext hx6
    have r42 := r34.ext hx6
    have r43 := r35.ext hx6
    have hb9 := hb7.ext hx6
    have r44 := r36.ext hx6
    have r45 := r37.ext hx6
    have r46 := r38.ext hx6
    have r47 := r39.ext hx6
    have r48 := r40.ext hx6
    have hz := RV.sl r41; obtain ⟨a8, cq8, rfl, -, -, -⟩ := hz
    refine vl rfl rfl xmv <| vl rfl rfl (xext rfl rfl) <| vl rfl rfl (xext rfl rfl) <| vl rfl rfl xas <| vl rfl rfl xas <| nl <| wp_seq <| rg <| vl rfl rfl (xlda rfl ti25 rfl (Bx.cs hb8)) <| vl rfl rfl xmv <| vl rfl rfl xmv <| ?_
    have hz := bs hF; obtain ⟨x11, Ex11, hF⟩ := hz
    refine cl rfl rfl (xc cb40 (mc rfl (mc rfl (mc rfl mn)))) (c40 (show RV (α := ((List Int) × (List ((List Int) × (List Int))))) _ (.agg [.slice a1 x0.1.length cq1, .slice a2 x0.2.length cq2].toArray) (x0.1, x0.2) from ⟨_, rfl, ⟨[.slice a1 x0.1.length cq1], [.slice a2 x0.2.length cq2], rfl, r42.rep1, r43.rep1⟩⟩) r45 r46 Ex11) ?_
    rintro _ w7 ⟨u2, rfl, r49, hx7⟩
    have k10 := k8.tr hx7
    have k11 := k9.tr hx7
    have hb10 := hb8.ext hx7
    have r50 := r42.ext hx7
    have r51 := r43.ext hx7
    have hb11 := hb9.ext hx7
    have r52 := r44.ext hx7
    have r53 := r45.ext hx7
    have r54 := r46.ext hx7
    have r55 := r47.ext hx7
    have r56 := r48.ext hx7
    have r57 := r41.ext hx7
    have hz := id r49; obtain ⟨_, rfl, ⟨_, _, rfl, ⟨a9, cq9, rfl, p4, q10, e5⟩, rfl⟩⟩ := hz
    have r58 := RV.of1 p4 q10 e5
    refine vl rfl rfl xmv <| vl rfl rfl (xext rfl rfl) <| vl rfl rfl (xext rfl rfl) <| sal ti62 fun b9 w8 hx8 hg3 hb12 => ?_
    have k12 := k10.tr hx8
    have k13 := k11.tr hx8
    have hb13 := hb10.ext hx8
    have r59 := r50.ext hx8
    have r60 := r51.ext hx8
    have hb14 := hb11.ext hx8
    have r61 := r52.ext hx8
    have r62 := r53.ext hx8
    have r63 := r54.ext hx8
    have r64 := r55.ext hx8
    have r65 := r56.ext hx8
    have r66 := r57.ext hx8
    have r67 := r58.ext hx8
    have r68 := r49.ext hx8
    refine sst rfl rfl rfl ti62 hb12 rfl rfl (ble rfl) fun w9 hch1 hb15 => ?_
    have k14 := Ext.chg k12 hch1 (Nat.le_trans k10.size hg3)
    have k15 := Ext.chg k13 hch1 (Nat.le_trans k11.size hg3)
    have k16 := Ext.chg hx8 hch1 (Nat.le_trans (Nat.le_refl _) hg3)
    have hb16 := hb10.ext k16
    have r69 := r50.ext k16
    have r70 := r51.ext k16
    have hb17 := hb11.ext k16
    have r71 := r52.ext k16
    have r72 := r53.ext k16
    have r73 := r54.ext k16
    have r74 := r55.ext k16
    have r75 := r56.ext k16
    have r76 := r57.ext k16
    have r77 := r58.ext k16
    have hb18 : Bx w9 b9 62 [.slice a9 x11.1.1.length cq9, .int .i64 x11.1.2] := hb15
    refine vl rfl rfl xas <| nl <| wp_seq <| wp_seq <| rg <| vl rfl rfl xmv <| vl rfl rfl (xeql rfl rfl) <| nl <| ?_
    have hz := bs hF; obtain ⟨o1, hB1, hF⟩ := hz
    refine ct (fun L w => o1 = .inr () ∧ L 1 = .slice a3 x1.length cq3 ∧ L 5 = .slice a7 x5.length cq7 ∧ L 6 = .pointer (some ⟨b7, 0, none⟩) ∧ Ext w9 w) ?_ ?_
    ·
      refine cnd rfl (fun h8 => ?_) (fun h8 => ?_)
      ·
        have hB1 := ifp hB1 h8
        refine wp_seq <| rg <| vl rfl rfl xmv <| vl rfl rfl (xneq rfl rfl) <| vl rfl rfl xmv <| gv rfl rfl rfl rfl (gw0 rfl) rfl (fun hc => xfa rfl fa62_0) <| gv rfl rfl rfl rfl (gw0 rfl) rfl (fun hc => xld (mv hc rfl) ti22 ((Bx.cs hb18).at 0 rfl)) <| gv rfl rfl rfl rfl (gw0 rfl) rfl (fun hc => xlen (mv hc rfl) Try.underlying22) <| gv rfl rfl rfl rfl (gw0 rfl) rfl (fun hc => xneq (mv hc rfl) rfl) <| vl rfl rfl (xpo rfl rfl rfl) <| vl rfl rfl xmv <| gv rfl rfl rfl rfl (gw0 rfl) rfl (fun hc => xlda rfl ti25 rfl (Bx.cs hb16)) <| gv rfl rfl rfl rfl (gw0 rfl) rfl (fun hc => xmva rfl) <| ?_
        have hz := bs hB1; obtain ⟨x12, Ex12, hB1⟩ := hz
        refine gc rfl rfl rfl rfl (gw0 rfl) rfl (fun hc => xc cb33 (mc (mv hc rfl) (mc (mv hc rfl) mn))) (fun hc => (c33 (show RV (α := ((List Int) × (List ((List Int) × (List Int))))) _ (.agg [.slice a1 x0.1.length cq1, .slice a2 x0.2.length cq2].toArray) (x0.1, x0.2) from ⟨_, rfl, ⟨[.slice a1 x0.1.length cq1], [.slice a2 x0.2.length cq2], rfl, r69.rep1, r70.rep1⟩⟩) r76 (gdp Ex12 hc))) (fun v8 w10 hy2 hn2 => ?_)
        have hx9 : Ext w9 w10 := gx (fun h => (hy2 h).2) (fun h => (hn2 h).2 ▸ Ext.refl _)
        have e6 := mkw (fun h => (hy2 h).1) (fun h => (hn2 h).1)
        have k17 := k14.tr hx9
        have k18 := k15.tr hx9
        have k19 := k16.tr hx9
        have hb19 := hb16.ext hx9
        have r78 := r69.ext hx9
        have r79 := r70.ext hx9
        have hb20 := hb17.ext hx9
        have r80 := r71.ext hx9
        have r81 := r72.ext hx9
        have r82 := r73.ext hx9
        have r83 := r75.ext hx9
        have r84 := r76.ext hx9
        refine gv rfl rfl rfl rfl (gw0 rfl) rfl (fun hc => xneq (mv hc e6) rfl) <| vl rfl rfl (xpo rfl rfl rfl) <| vl rfl rfl xmv <| gv rfl rfl rfl rfl (gw0 rfl) rfl (fun hc => xlda rfl ti25 rfl (Bx.cs hb19)) <| gv rfl rfl rfl rfl (gw0 rfl) rfl (fun hc => xmva rfl) <| gv rfl rfl rfl rfl (gw0 rfl) rfl (fun hc => xmva rfl) <| gv rfl rfl rfl rfl (gw0 rfl) rfl (fun hc => xmva rfl) <| ?_
        have hz := bs hB1; obtain ⟨x13, Ex13, hB1⟩ := hz
        refine gc rfl rfl rfl rfl (gw0 rfl) rfl (fun hc => xc cb35 (mc (mv hc rfl) (mc (mv hc rfl) (mc (mv hc rfl) (mc (mv hc rfl) mn))))) (fun hc => (c35 (show RV (α := ((List Int) × (List ((List Int) × (List Int))))) _ (.agg [.slice a1 x0.1.length cq1, .slice a2 x0.2.length cq2].toArray) (x0.1, x0.2) from ⟨_, rfl, ⟨[.slice a1 x0.1.length cq1], [.slice a2 x0.2.length cq2], rfl, r78.rep1, r79.rep1⟩⟩) r84 r81 r82 (gdp Ex13 hc))) (fun v9 w11 hy3 hn3 => ?_)
        have hx10 : Ext w10 w11 := gx (fun h => (hy3 h).2) (fun h => (hn3 h).2 ▸ Ext.refl _)
        have e7 := mkw (fun h => (hy3 h).1) (fun h => (hn3 h).1)
        have k20 := k17.tr hx10
        have k21 := k18.tr hx10
        have k22 := k19.tr hx10
        have k23 := hx9.tr hx10
        have hb21 := hb19.ext hx10
        have r85 := r78.ext hx10
        have r86 := r79.ext hx10
        have hb22 := hb20.ext hx10
        have r87 := r80.ext hx10
        have r88 := r81.ext hx10
        have r89 := r82.ext hx10
        have r90 := r83.ext hx10
        refine gv rfl rfl rfl rfl (gw0 rfl) rfl (fun hc => xnot (mv hc e7)) <| vl rfl rfl (xpo rfl rfl rfl) <| vl rfl rfl xmv <| gv rfl rfl rfl rfl (gw0 rfl) rfl (fun hc => xlda rfl ti25 rfl (Bx.cs hb21)) <| gv rfl rfl rfl rfl (gw0 rfl) rfl (fun hc => xmva rfl) <| gv rfl rfl rfl rfl (gw0 rfl) rfl (fun hc => xmva rfl) <| gv rfl rfl rfl rfl (gw0 rfl) rfl (fun hc => xlda rfl ti62 rfl (Bx.cs hb22)) <| ?_
        have hz := bs hB1; obtain ⟨x14, Ex14, hB1⟩ := hz
        refine gc rfl rfl rfl rfl (gw0 rfl) rfl (fun hc => xc cb38 (mc (mv hc rfl) (mc (mv hc rfl) (mc (mv hc rfl) (mc (mv hc rfl) mn))))) (fun hc => (c38 (show RV (α := ((List Int) × (List ((List Int) × (List Int))))) _ (.agg [.slice a1 x0.1.length cq1, .slice a2 x0.2.length cq2].toArray) (x0.1, x0.2) from ⟨_, rfl, ⟨[.slice a1 x0.1.length cq1], [.slice a2 x0.2.length cq2], rfl, r85.rep1, r86.rep1⟩⟩) r88 r89 (show RV (α := ((List Int) × Int)) _ (.agg [.slice a6 x4.1.length cq6, .int .i64 x4.2].toArray) (x4.1, x4.2) from ⟨_, rfl, ⟨[.slice a6 x4.1.length cq6], [.int .i64 x4.2], rfl, r87.rep1, rfl⟩⟩) (gdp Ex14 hc))) (fun v10 w12 hy4 hn4 => ?_)
        have hx11 : Ext w11 w12 := gx (fun h => (hy4 h).2) (fun h => (hn4 h).2 ▸ Ext.refl _)
        have e8 := mkw (fun h => (hy4 h).1) (fun h => (hn4 h).1)
        have k24 := k20.tr hx11
        have k25 := k21.tr hx11
        have k26 := k22.tr hx11
        have k27 := k23.tr hx11
        have hb23 := hb21.ext hx11
        have r91 := r85.ext hx11
        have r92 := r86.ext hx11
        have r93 := r88.ext hx11
        have r94 := r90.ext hx11
        refine gv rfl rfl rfl rfl (gw0 rfl) rfl (fun hc => xeql (mv hc e8) rfl) <| vl rfl rfl (xpo rfl rfl rfl) <| nl <| cnd rfl (fun h9 => ?_) (fun h9 => ?_)
        ·
          have hB1 := ifp hB1 h9
          refine wp_seq <| rg <| vl rfl rfl xas <| nl <| ?_
          cases hB1
          have hF := (show some _ = some _ from hF); cases hF
          exact wp_ret <| rt rfl (.tmp rfl rfl .nil) ⟨rfl, k24⟩
        ·
          have hB1 := ifn hB1 h9
          refine wp_skip <| ?_
          cases hB1
          refine lf <| ?_
          exact ⟨rfl, rfl, rfl, rfl, k27⟩
      ·
        have hB1 := ifn hB1 h8
        refine wp_seq <| wp_seq <| rg <| vl rfl rfl xmv <| vl rfl rfl (xneq rfl rfl) <| vl rfl rfl xmv <| gv rfl rfl rfl rfl (gw0 rfl) rfl (fun hc => xmva rfl) <| gv rfl rfl rfl rfl (gw0 rfl) rfl (fun hc => xlen (mv hc rfl) Try.underlying22) <| gv rfl rfl rfl rfl (gw0 rfl) rfl (fun hc => xneq (mv hc rfl) rfl) <| vl rfl rfl (xpo rfl rfl rfl) <| vl rfl rfl xmv <| gv rfl rfl rfl rfl (gw0 rfl) rfl (fun hc => xmva rfl) <| gv rfl rfl rfl rfl (gw0 rfl) rfl (fun hc => xneq (mv hc rfl) rfl) <| vl rfl rfl (xpo rfl rfl rfl) <| vl rfl rfl xmv <| gv rfl rfl rfl rfl (gw0 rfl) rfl (fun hc => xlda rfl ti25 rfl (Bx.cs hb16)) <| gv rfl rfl rfl rfl (gw0 rfl) rfl (fun hc => xmva rfl) <| gv rfl rfl rfl rfl (gw0 rfl) rfl (fun hc => xmva rfl) <| gv rfl rfl rfl rfl (gw0 rfl) rfl (fun hc => xlda rfl ti62 rfl (Bx.cs hb18)) <| ?_
        have hz := bs hB1; obtain ⟨x15, Ex15, hB1⟩ := hz
        refine gc rfl rfl rfl rfl (gw0 rfl) rfl (fun hc => xc cb38 (mc (mv hc rfl) (mc (mv hc rfl) (mc (mv hc rfl) (mc (mv hc rfl) mn))))) (fun hc => (c38 (show RV (α := ((List Int) × (List ((List Int) × (List Int))))) _ (.agg [.slice a1 x0.1.length cq1, .slice a2 x0.2.length cq2].toArray) (x0.1, x0.2) from ⟨_, rfl, ⟨[.slice a1 x0.1.length cq1], [.slice a2 x0.2.length cq2], rfl, r69.rep1, r70.rep1⟩⟩) r72 r73 (show RV (α := ((List Int) × Int)) _ (.agg [.slice a9 x11.1.1.length cq9, .int .i64 x11.1.2].toArray) (x11.1.1, x11.1.2) from ⟨_, rfl, ⟨[.slice a9 x11.1.1.length cq9], [.int .i64 x11.1.2], rfl, r77.rep1, rfl⟩⟩) (gdp Ex15 hc))) (fun v11 w13 hy5 hn5 => ?_)
        have hx12 : Ext w9 w13 := gx (fun h => (hy5 h).2) (fun h => (hn5 h).2 ▸ Ext.refl _)
        have e9 := mkw (fun h => (hy5 h).1) (fun h => (hn5 h).1)
        have k28 := k14.tr hx12
        have k29 := k15.tr hx12
        have k30 := k16.tr hx12
        have hb24 := hb16.ext hx12
        have r95 := r69.ext hx12
        have r96 := r70.ext hx12
        have hb25 := hb18.ext hx12
        have r97 := r77.ext hx12
        have r98 := r72.ext hx12
        have r99 := r73.ext hx12
        have r100 := r74.ext hx12
        have r101 := r75.ext hx12
        refine gv rfl rfl rfl rfl (gw0 rfl) rfl (fun hc => xneq (mv hc e9) rfl) <| vl rfl rfl (xpo rfl rfl rfl) <| vl rfl rfl xmv <| gv rfl rfl rfl rfl (gw0 rfl) rfl (fun hc => xlda rfl ti25 rfl (Bx.cs hb24)) <| gv rfl rfl rfl rfl (gw0 rfl) rfl (fun hc => xmva rfl) <| gv rfl rfl rfl rfl (gw0 rfl) rfl (fun hc => xmva rfl) <| gv rfl rfl rfl rfl (gw0 rfl) rfl (fun hc => xlda rfl ti62 rfl (Bx.cs hb25)) <| ?_
        have hz := bs hB1; obtain ⟨x16, Ex16, hB1⟩ := hz
        refine gc rfl rfl rfl rfl (gw0 rfl) rfl (fun hc => xc cb39 (mc (mv hc rfl) (mc (mv hc rfl) (mc (mv hc rfl) (mc (mv hc rfl) mn))))) (fun hc => (c39 (show RV (α := ((List Int) × (List ((List Int) × (List Int))))) _ (.agg [.slice a1 x0.1.length cq1, .slice a2 x0.2.length cq2].toArray) (x0.1, x0.2) from ⟨_, rfl, ⟨[.slice a1 x0.1.length cq1], [.slice a2 x0.2.length cq2], rfl, r95.rep1, r96.rep1⟩⟩) r98 r99 (show RV (α := ((List Int) × Int)) _ (.agg [.slice a9 x11.1.1.length cq9, .int .i64 x11.1.2].toArray) (x11.1.1, x11.1.2) from ⟨_, rfl, ⟨[.slice a9 x11.1.1.length cq9], [.int .i64 x11.1.2], rfl, r97.rep1, rfl⟩⟩) (gdp Ex16 hc))) (fun v12 w14 hy6 hn6 => ?_)
        have hx13 : Ext w13 w14 := gx (fun h => (hy6 h).2) (fun h => (hn6 h).2 ▸ Ext.refl _)
        have e10 := mkw (fun h => (hy6 h).1) (fun h => (hn6 h).1)
        have k31 := k28.tr hx13
        have k32 := k29.tr hx13
        have k33 := k30.tr hx13
        have k34 := hx12.tr hx13
        have hb26 := hb24.ext hx13
        have r102 := r95.ext hx13
        have r103 := r96.ext hx13
        have r104 := r98.ext hx13
        have r105 := r99.ext hx13
        have r106 := r100.ext hx13
        have r107 := r101.ext hx13
        refine gv rfl rfl rfl rfl (gw0 rfl) rfl (fun hc => xneq (mv hc e10) rfl) <| vl rfl rfl (xpo rfl rfl rfl) <| nl <| cnd rfl (fun h10 => ?_) (fun h10 => ?_)
        ·
          have hB1 := ifp hB1 h10
          refine wp_seq <| rg <| vl rfl rfl xas <| nl <| ?_
          cases hB1
          have hF := (show some _ = some _ from hF); cases hF
          exact wp_ret <| rt rfl (.tmp rfl rfl .nil) ⟨rfl, k31⟩
        ·
          have hB1 := ifn hB1 h10
          refine wp_skip <| wp_seq <| rg <| vl rfl rfl (xlda rfl ti25 rfl (Bx.cs hb26)) <| vl rfl rfl xmv <| ?_
          have hz := bs hB1; obtain ⟨x17, Ex17, hB1⟩ := hz
          refine cl rfl rfl (xc cb33 (mc rfl (mc rfl mn))) (c33 (show RV (α := ((List Int) × (List ((List Int) × (List Int))))) _ (.agg [.slice a1 x0.1.length cq1, .slice a2 x0.2.length cq2].toArray) (x0.1, x0.2) from ⟨_, rfl, ⟨[.slice a1 x0.1.length cq1], [.slice a2 x0.2.length cq2], rfl, r102.rep1, r103.rep1⟩⟩) r106 Ex17) ?_
          rintro _ w15 ⟨rfl, hx14⟩
          have k35 := k31.tr hx14
          have k36 := k32.tr hx14
          have k37 := k33.tr hx14
          have k38 := k34.tr hx14
          have hb27 := hb26.ext hx14
          have r108 := r102.ext hx14
          have r109 := r103.ext hx14
          have r110 := r104.ext hx14
          have r111 := r105.ext hx14
          have r112 := r106.ext hx14
          have r113 := r107.ext hx14
          refine vl rfl rfl (xeql rfl rfl) <| vl rfl rfl xmv <| gv rfl rfl rfl rfl (gw1 rfl) rfl (fun hc => xlda rfl ti25 rfl (Bx.cs hb27)) <| gv rfl rfl rfl rfl (gw1 rfl) rfl (fun hc => xmva rfl) <| gv rfl rfl rfl rfl (gw1 rfl) rfl (fun hc => xmva rfl) <| gv rfl rfl rfl rfl (gw1 rfl) rfl (fun hc => xmva rfl) <| ?_
          have hz := bs hB1; obtain ⟨x18, Ex18, hB1⟩ := hz
          refine gc rfl rfl rfl rfl (gw1 rfl) rfl (fun hc => xc cb35 (mc (mv hc rfl) (mc (mv hc rfl) (mc (mv hc rfl) (mc (mv hc rfl) mn))))) (fun hc => (c35 (show RV (α := ((List Int) × (List ((List Int) × (List Int))))) _ (.agg [.slice a1 x0.1.length cq1, .slice a2 x0.2.length cq2].toArray) (x0.1, x0.2) from ⟨_, rfl, ⟨[.slice a1 x0.1.length cq1], [.slice a2 x0.2.length cq2], rfl, r108.rep1, r109.rep1⟩⟩) r112 r110 r111 (gdp Ex18 hc))) (fun v13 w16 hy7 hn7 => ?_)
          have hx15 : Ext w15 w16 := gx (fun h => (hy7 h).2) (fun h => (hn7 h).2 ▸ Ext.refl _)
          have e11 := mkw (fun h => (hy7 h).1) (fun h => (hn7 h).1)
          have k39 := k35.tr hx15
          have k40 := k36.tr hx15
          have k41 := k37.tr hx15
          have k42 := k38.tr hx15
          have hb28 := hb27.ext hx15
          have r114 := r108.ext hx15
          have r115 := r109.ext hx15
          have r116 := r110.ext hx15
          have r117 := r113.ext hx15
          refine vl rfl rfl (xpa rfl e11 rfl) <| nl <| cnd rfl (fun h11 => ?_) (fun h11 => ?_)
          ·
            have hB1 := ifp hB1 h11
            refine wp_seq <| rg <| vl rfl rfl xas <| nl <| ?_
            cases hB1
            have hF := (show some _ = some _ from hF); cases hF
            exact wp_ret <| rt rfl (.tmp rfl rfl .nil) ⟨rfl, k39⟩
          ·
            have hB1 := ifn hB1 h11
            refine wp_skip <| ?_
            cases hB1
            refine lf <| ?_
            exact ⟨rfl, rfl, rfl, rfl, k42⟩
    rintro L w17 ⟨rfl, l1_j1, l5_j1, l6_j1, K0_j1⟩
    have k43 := k14.tr K0_j1
    have k44 := k15.tr K0_j1
    have k45 := k16.tr K0_j1
    have r118 := r72.ext K0_j1
    have r119 := r75.ext K0_j1
    have r120 := r69.ext K0_j1
    have r121 := r70.ext K0_j1
    have hb29 := hb16.ext K0_j1
    refine wp_seq <| rg <| vl rfl rfl (xlda l6_j1 ti25 rfl (Bx.cs hb29)) <| vl rfl rfl xmv <| vl rfl rfl xmv <| ?_
    have hz := bs hF; obtain ⟨x19, Ex19, hF⟩ := hz
    refine cl rfl rfl (xc cb30 (mc rfl (mc l1_j1 (mc l5_j1 mn)))) (c30 (show RV (α := ((List Int) × (List ((List Int) × (List Int))))) _ (.agg [.slice a1 x0.1.length cq1, .slice a2 x0.2.length cq2].toArray) (x0.1, x0.2) from ⟨_, rfl, ⟨[.slice a1 x0.1.length cq1], [.slice a2 x0.2.length cq2], rfl, r120.rep1, r121.rep1⟩⟩) r118 r119 Ex19) ?_
    rintro _ w18 ⟨u3, rfl, r122, hx16⟩
    have k46 := k43.tr hx16
    have k47 := k44.tr hx16
    have k48 := k45.tr hx16
    have k49 := K0_j1.tr hx16
    have hb30 := hb29.ext hx16
    have r123 := r120.ext hx16
    have r124 := r121.ext hx16
    have r125 := r118.ext hx16
    have hz := RV.sl r122; obtain ⟨a10, cq10, rfl, -, -, -⟩ := hz
    refine vl rfl rfl xas <| nl <| wp_seq <| rg <| vl rfl rfl (xfa l6_j1 fa25_1) <| vl rfl rfl (xld rfl ti23 ((Bx.cs hb30).at 1 rfl)) <| vl rfl rfl (xlen rfl Try.underlying23) <| ?_
    have hz := bs hF; obtain ⟨x20, Ex20, hF⟩ := hz
    refine smks (α := Int) (z0 := 0) rfl rfl Try.underlying22 ti2 rfl rfl rfl Ex20 fun b10 w19 hx17 o2 => ?_
    have k50 := k46.tr hx17
    have k51 := k47.tr hx17
    have k52 := k48.tr hx17
    have k53 := k49.tr hx17
    have hb31 := hb30.ext hx17
    have r126 := r123.ext hx17
    have r127 := r124.ext hx17
    have r128 := r125.ext hx17
    have r129 := r122.ext hx17
    refine vl rfl rfl xas <| nl <| wp_seq <| wp_seq <| rg <| vl rfl rfl xas <| nl <| ?_
    have hz := bs hF; obtain ⟨z1, hB10, hF⟩ := hz
    refine ct (fun L w => ∃ v15 : Value, L 18 = v15 ∧ Row 2 w18.heap.size w v15 z1 ∧ L 1 = .slice a3 x1.length cq3 ∧ L 6 = .pointer (some ⟨b7, 0, none⟩) ∧ L 17 = .slice a10 x19.length cq10 ∧ Ext w18 w) ?_ ?_
    ·
      refine wp_block <| lp (I := fun m L w => ∃ y1 : (List Int), ∃ y2 : Int, ∃ v14 : Value, law11_BathEither_l1 F x19 m y1 y2  = some z1 ∧ L 18 = v14 ∧ Row 2 w18.heap.size w v14 y1 ∧ L 19 = .int .i64 y2 ∧ L 1 = .slice a3 x1.length cq3 ∧ L 6 = .pointer (some ⟨b7, 0, none⟩) ∧ L 17 = .slice a10 x19.length cq10 ∧ Ext w18 w) F ⟨_, _, _, hB10, rfl, o2, rfl, l1_j1, l6_j1, rfl, hx17⟩ ?_
      rintro m L w20 ⟨y1, y2, v14, hB10, l18_i1, O18_i1, l19_i1, l1_i1, l6_i1, l17_i1, K0_i1⟩
      rcases m with _ | m
      · rw [law11_BathEither_l1] at hB10; cases hB10
      rw [law11_BathEither_l1] at hB10
      have k54 := k46.tr K0_i1
      have k55 := k47.tr K0_i1
      have k56 := k48.tr K0_i1
      have k57 := k49.tr K0_i1
      have r130 := r125.ext K0_i1
      have r131 := r123.ext K0_i1
      have r132 := r124.ext K0_i1
      have hb32 := hb30.ext K0_i1
      have r133 := r122.ext K0_i1
      have hz := RV.sl O18_i1.rv; obtain ⟨a11, cq11, rfl, -, -, -⟩ := hz
      refine wp_seq <| wp_seq <| rg <| vl rfl rfl xmv <| vl rfl rfl xmv <| vl rfl rfl (xlen l17_i1 Try.underlying26) <| vl rfl rfl (xlss l19_i1 rfl) <| nl <| cnd rfl (fun h12 => ?_) (fun h12 => ?_)
      ·
        have hB10 := ifp hB10 h12
        refine wp_skip <| wp_seq <| wp_block <| rg <| vl rfl rfl xmv <| vl rfl rfl xmv <| vl rfl rfl xmv <| ?_
        have hz := bs hB10; obtain ⟨x21, Ex21, hB10⟩ := hz
        have hz := (RV.els r122).ix Ex21; obtain ⟨b11, f1, cs7, e12, i2, i3, q11, hc1⟩ := hz
        cases e12
        obtain rfl := q11
        have hc2 := hc1.ext K0_i1
        refine vl rfl rfl (xixs l17_i1 l19_i1 Try.underlying26 ti3 i2 i3) <| vl rfl rfl (xld rfl ti3 (hc2.at 0 rfl)) <| ?_
        have hz := bs hB10; obtain ⟨x22, Ex22, hB10⟩ := hz
        have hz := (RV.els O18_i1.rv).ix Ex22; obtain ⟨b12, f2, cs8, e13, i4, i5, q12, hc3⟩ := hz
        cases e13
        obtain rfl := q12
        refine vl rfl rfl (xixs l18_i1 rfl Try.underlying22 ti2 i4 i5) <| vl rfl rfl (xld rfl ti2 (hc3.at 0 rfl)) <| vl rfl rfl (xadd rfl rfl) <| ?_
        have hz := bs hB10; obtain ⟨x23, Ex23, hB10⟩ := hz
        have hz := ix2 O18_i1.rv Ex23; obtain ⟨cs9, i6, i7, q13, hc4⟩ := hz
        obtain rfl := q13
        refine vl rfl rfl (xixs l18_i1 rfl Try.underlying22 ti2 i6 i7) <| sstr (l := y1) (v := w64 (x22 + 1)) rfl rfl rfl ti2 O18_i1 Ex23 fun w21 hch2 o4 => ?_
        have k58 := Ext.chg k54 hch2 (Nat.le_trans k46.size (Row.ge O18_i1))
        have k59 := Ext.chg k55 hch2 (Nat.le_trans k47.size (Row.ge O18_i1))
        have k60 := Ext.chg k56 hch2 (Nat.le_trans k48.size (Row.ge O18_i1))
        have k61 := Ext.chg k57 hch2 (Nat.le_trans k49.size (Row.ge O18_i1))
        have k62 := Ext.chg K0_i1 hch2 (Nat.le_trans (Nat.le_refl _) (Row.ge O18_i1))
        have hb33 := hb30.ext k62
        have r134 := r123.ext k62
        have r135 := r124.ext k62
        have r136 := r125.ext k62
        have r137 := r122.ext k62
        refine nl <| rg <| vl rfl rfl xmv <| vl rfl rfl (xadd l19_i1 rfl) <| vl rfl rfl xas <| nl <| ?_
        refine lq m (Nat.lt_succ_self _) <| ?_
        exact ⟨_, _, _, hB10, l18_i1, o4, rfl, l1_i1, l6_i1, l17_i1, k62⟩
      ·
        have hB10 := ifn hB10 h12
        refine wp_exit <| ?_
        cases hB10
        refine lf <| ?_
        exact ⟨_, l18_i1, O18_i1, l1_i1, l6_i1, l17_i1, K0_i1⟩
    rintro L w22 ⟨v15, l18_j2, O18_j2, l1_j2, l6_j2, l17_j2, K0_j2⟩
    have k63 := k46.tr K0_j2
    have k64 := k47.tr K0_j2
    have k65 := k48.tr K0_j2
    have k66 := k49.tr K0_j2
    have r138 := r125.ext K0_j2
    have r139 := r123.ext K0_j2
    have r140 := r124.ext K0_j2
    have hb34 := hb30.ext K0_j2
    have r141 := r122.ext K0_j2
    have hz := RV.sl O18_j2.rv; obtain ⟨a12, cq12, rfl, -, -, -⟩ := hz
    refine wp_seq <| rg <| vl rfl rfl (xlda l6_j2 ti25 rfl (Bx.cs hb34)) <| vl rfl rfl xmv <| vl rfl rfl xmv <| ?_
    have hz := bs hF; obtain ⟨x24, Ex24, hF⟩ := hz
    refine cl rfl rfl (xc cb14 (mc rfl (mc l1_j2 (mc l17_j2 mn)))) (c14 (show RV (α := ((List Int) × (List ((List Int) × (List Int))))) _ (.agg [.slice a1 x0.1.length cq1, .slice a2 x0.2.length cq2].toArray) (x0.1, x0.2) from ⟨_, rfl, ⟨[.slice a1 x0.1.length cq1], [.slice a2 x0.2.length cq2], rfl, r139.rep1, r140.rep1⟩⟩) r138 r141 Ex24) ?_
    rintro _ w23 ⟨u4, rfl, r142, hx18⟩
    have k67 := k63.tr hx18
    have k68 := k64.tr hx18
    have k69 := k65.tr hx18
    have k70 := k66.tr hx18
    have k71 := K0_j2.tr hx18
    have hb35 := hb34.ext hx18
    have r143 := r139.ext hx18
    have r144 := r140.ext hx18
    have r145 := r138.ext hx18
    have O1 := O18_j2.ext hx18
    have hz := RV.sl r142; obtain ⟨a13, cq13, rfl, -, -, -⟩ := hz
    refine vl rfl rfl xmv <| vl rfl rfl (xext rfl rfl) <| vl rfl rfl (xext rfl rfl) <| vl rfl rfl xas <| vl rfl rfl xas <| nl <| wp_seq <| rg <| vl rfl rfl xmv <| vl rfl rfl (xeql rfl rfl) <| vl rfl rfl xmv <| gv rfl rfl rfl rfl (gw1 rfl) rfl (fun hc => xlda l6_j2 ti25 rfl (Bx.cs hb35)) <| gv rfl rfl rfl rfl (gw1 rfl) rfl (fun hc => xmva rfl) <| ?_
    have hz := bs hF; obtain ⟨x25, Ex25, hF⟩ := hz
    refine gc rfl rfl rfl rfl (gw1 rfl) rfl (fun hc => xc cb31 (mc (mv hc rfl) (mc (mv hc rfl) mn))) (fun hc => (c31 (show RV (α := ((List Int) × (List ((List Int) × (List Int))))) _ (.agg [.slice a1 x0.1.length cq1, .slice a2 x0.2.length cq2].toArray) (x0.1, x0.2) from ⟨_, rfl, ⟨[.slice a1 x0.1.length cq1], [.slice a2 x0.2.length cq2], rfl, r143.rep1, r144.rep1⟩⟩) r142 (gdp Ex25 hc))) (fun v16 w24 hy8 hn8 => ?_)
    have hx19 : Ext w23 w24 := gx (fun h => (hy8 h).2) (fun h => (hn8 h).2 ▸ Ext.refl _)
    have e14 := mkw (fun h => (hy8 h).1) (fun h => (hn8 h).1)
    have k72 := k67.tr hx19
    have k73 := k68.tr hx19
    have k74 := k69.tr hx19
    have k75 := k70.tr hx19
    have k76 := k71.tr hx19
    have hb36 := hb35.ext hx19
    have r146 := r143.ext hx19
    have r147 := r144.ext hx19
    have r148 := r145.ext hx19
    have O2 := O1.ext hx19
    have r149 := r142.ext hx19
    refine gv rfl rfl rfl rfl (gw1 rfl) rfl (fun hc => xeql (mv hc e14) rfl) <| vl rfl rfl (xpa rfl rfl rfl) <| vl rfl rfl xmv <| gv rfl rfl rfl rfl (gw1 rfl) rfl (fun hc => xlda l6_j2 ti25 rfl (Bx.cs hb36)) <| gv rfl rfl rfl rfl (gw1 rfl) rfl (fun hc => xmva l1_j2) <| gv rfl rfl rfl rfl (gw1 rfl) rfl (fun hc => xmva rfl) <| gv rfl rfl rfl rfl (gw1 rfl) rfl (fun hc => xmva l18_j2) <| gv rfl rfl rfl rfl (gw1 rfl) rfl (fun hc => xbdv (r := [.slice a12 z1.length cq12, .int .i64 1]) ti62 sp62 (pc (mv hc rfl) (pc rfl pn)) rfl) <| ?_
    have hz := bs hF; obtain ⟨x26, Ex26, hF⟩ := hz
    refine gc rfl rfl rfl rfl (gw1 rfl) rfl (fun hc => xc cb38 (mc (mv hc rfl) (mc (mv hc rfl) (mc (mv hc rfl) (mc (mv hc rfl) mn))))) (fun hc => (c38 (show RV (α := ((List Int) × (List ((List Int) × (List Int))))) _ (.agg [.slice a1 x0.1.length cq1, .slice a2 x0.2.length cq2].toArray) (x0.1, x0.2) from ⟨_, rfl, ⟨[.slice a1 x0.1.length cq1], [.slice a2 x0.2.length cq2], rfl, r146.rep1, r147.rep1⟩⟩) r148 r149 (show RV (α := ((List Int) × Int)) _ (.agg [.slice a12 z1.length cq12, .int .i64 1].toArray) (z1, 1) from ⟨_, rfl, ⟨[.slice a12 z1.length cq12], [.int .i64 1], rfl, O2.rv.rep1, rfl⟩⟩) (gdp Ex26 hc))) (fun v17 w25 hy9 hn9 => ?_)
    have hx20 : Ext w24 w25 := gx (fun h => (hy9 h).2) (fun h => (hn9 h).2 ▸ Ext.refl _)
    have e15 := mkw (fun h => (hy9 h).1) (fun h => (hn9 h).1)
    have k77 := k72.tr hx20
    have k78 := k73.tr hx20
    have k79 := k74.tr hx20
    have k80 := k75.tr hx20
    have k81 := k76.tr hx20
    refine gv rfl rfl rfl rfl (gw1 rfl) rfl (fun hc => xeql (mv hc e15) rfl) <| vl rfl rfl (xpa rfl rfl rfl) <| vl rfl rfl xmv <| ?_
    have hz := bs hF; obtain ⟨x27, Ex27, hF⟩ := hz
    refine gc rfl rfl rfl rfl (gw1 rfl) rfl (fun hc => xc cb13 mn) (fun hc => (c13 (gdp Ex27 hc))) (fun v18 w26 hy10 hn10 => ?_)
    have hx21 : Ext w25 w26 := gx (fun h => (hy10 h).2) (fun h => (hn10 h).2 ▸ Ext.refl _)
    have e16 := mkw (fun h => (hy10 h).1) (fun h => (hn10 h).1)
    have k82 := k77.tr hx21
    have k83 := k78.tr hx21
    have k84 := k79.tr hx21
    have k85 := k80.tr hx21
    have k86 := k81.tr hx21
    refine vl rfl rfl (xpa rfl e16 rfl) <| vl rfl rfl xas <| nl <| ?_
    cases hF
    exact wp_ret <| rt rfl (.tmp rfl rfl .nil) ⟨rfl, k82⟩
end Go.Proofs.Ytboefnpnoojfpaa
