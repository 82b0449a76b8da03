/-
  Each function of the program returns what its pure function computes, and leaves all memory that was there as it was. Condition: the pure function computes something.
-/
import Derived.Test.YtboefnpnoojfpaaFacts
import Derived.Test.YtboefnpnoojfpaaPureE
import Derived.Test.YtboefnpnoojfpaaMore
import Derived.Test.YtboefnpnoojfpaaWalkB
namespace Go.Proofs.Ytboefnpnoojfpaa
open Go Go.Md Go.RowKit
attribute [local irreducible] Go.wpList Go.Code.wp Go.Calls Go.Md.Rnd Go.Md.Mt Go.Md.MtM Go.Md.RndM Go.Code.wpIn

set_option maxHeartbeats 4000000 in
theorem c7 {w0 : World} {v0 : Value} {x0 : ((List Int) × (List ((List Int) × (List Int))))} (r0 : RV w0 v0 x0) {v1 : Value} {x1 : (List Int)} (r1 : RV w0 v1 x1) {v2 : Value} {x2 : (List Int)} (r2 : RV w0 v2 x2) {v3 : Value} {x3 : (List (KI .u8))} (r3 : RV w0 v3 x3) {v4 : Value} {x4 : ((List Int) × (List Int))} (r4 : RV w0 v4 x4) {x5 : Int} {F : Nat} {r : Bool} (hF : law11_BathOver F x0 x1 x2 x3 x4 x5 = some r) :
    Calls Try.prog 7 [v0, v1, v2, v3, v4, .int .u8 x5].toArray w0 (Ret fun v w' => v = .bool r ∧ Ext w0 w') := by
  unfold law11_BathOver at hF
  have hz := id r0; obtain ⟨_, rfl, ⟨_, _, rfl, ⟨a1, cq1, rfl, p1, q7, e1⟩, ⟨a2, cq2, rfl, p2, q8, e2⟩⟩⟩ := hz
  have r7 := RV.of1 p1 q7 e1
  have r8 := RV.of1 p2 q8 e2
  have hz := r1.sl; obtain ⟨a3, cq3, rfl, -, -, -⟩ := hz
  have hz := r2.sl; obtain ⟨a4, cq4, rfl, -, -, -⟩ := hz
  have hz := r3.sl; obtain ⟨a5, cq5, rfl, -, -, -⟩ := hz
  have hz := id r4; obtain ⟨_, rfl, ⟨_, _, rfl, ⟨a6, cq6, rfl, p3, q9, e3⟩, ⟨a7, cq7, rfl, p4, q10, e4⟩⟩⟩ := hz
  have r9 := RV.of1 p3 q9 e3
  have r10 := RV.of1 p4 q10 e4
  refine entr (n := 214) Try.func7 rfl rfl rfl <| wp_seq <| rg <| sbx rfl rfl fun b7 w1 hx1 hg1 hb1 => ?_
  have r11 := r1.ext hx1
  have r12 := r2.ext hx1
  have r13 := r3.ext hx1
  have r14 := r9.ext hx1
  have r15 := r10.ext hx1
  have r16 := r4.ext hx1
  have r17 := r7.ext hx1
  have r18 := r8.ext hx1
  have r19 := r0.ext hx1
  refine sbx rfl rfl fun b8 w2 hx2 hg2 hb2 => ?_
  have k1 := hx1.tr hx2
  have hb3 := hb1.ext hx2
  have r20 := r17.ext hx2
  have r21 := r18.ext hx2
  have r22 := r11.ext hx2
  have r23 := r12.ext hx2
  have r24 := r13.ext hx2
  have r25 := r14.ext hx2
  have r26 := r15.ext hx2
  have r27 := r16.ext hx2
  refine vl rfl rfl xas <| nl <| wp_seq <| wp_seq <| rg <| vl rfl rfl (xlda rfl ti25 rfl (Bx.cs hb3)) <| vl rfl rfl xmv <| ?_
  have hz := bs hF; obtain ⟨x7, Ex7, hF⟩ := hz
  refine cl rfl rfl (xc cb29 (mc rfl (mc rfl mn))) (c29 (show RV (α := ((List Int) × (List ((List Int) × (List Int))))) _ (.agg [.slice a1 x0.1.length cq1, .slice a2 x0.2.length cq2].toArray) (x0.1, x0.2) from ⟨_, rfl, ⟨[.slice a1 x0.1.length cq1], [.slice a2 x0.2.length cq2], rfl, r20.rep1, r21.rep1⟩⟩) r22 Ex7) ?_
  rintro _ w3 ⟨rfl, hx3⟩
  have k2 := k1.tr hx3
  have k3 := hx2.tr hx3
  have hb4 := hb3.ext hx3
  have r28 := r20.ext hx3
  have r29 := r21.ext hx3
  have hb5 := hb2.ext hx3
  have r30 := r25.ext hx3
  have r31 := r26.ext hx3
  have r32 := r22.ext hx3
  have r33 := r23.ext hx3
  have r34 := r24.ext hx3
  refine vl rfl rfl (xnot rfl) <| vl rfl rfl xmv <| gv rfl rfl rfl rfl (gw0 rfl) rfl (fun hc => xmva rfl) <| gv rfl rfl rfl rfl (gw0 rfl) rfl (fun hc => xlen (mv hc rfl) Try.underlying22) <| gv rfl rfl rfl rfl (gw0 rfl) rfl (fun hc => xgtr (mv hc rfl) rfl) <| vl rfl rfl (xpo rfl rfl rfl) <| vl rfl rfl xmv <| gv rfl rfl rfl rfl (gw0 rfl) rfl (fun hc => xlda rfl ti25 rfl (Bx.cs hb4)) <| gv rfl rfl rfl rfl (gw0 rfl) rfl (fun hc => xmva rfl) <| ?_
  have hz := bs hF; obtain ⟨x8, Ex8, hF⟩ := hz
  refine gc rfl rfl rfl rfl (gw0 rfl) rfl (fun hc => xc cb31 (mc (mv hc rfl) (mc (mv hc rfl) mn))) (fun hc => (c31 (show RV (α := ((List Int) × (List ((List Int) × (List Int))))) _ (.agg [.slice a1 x0.1.length cq1, .slice a2 x0.2.length cq2].toArray) (x0.1, x0.2) from ⟨_, rfl, ⟨[.slice a1 x0.1.length cq1], [.slice a2 x0.2.length cq2], rfl, r28.rep1, r29.rep1⟩⟩) r33 (gdp Ex8 hc))) (fun v7 w4 hy1 hn1 => ?_)
  have hx4 : Ext w3 w4 := gx (fun h => (hy1 h).2) (fun h => (hn1 h).2 ▸ Ext.refl _)
  have e5 := mkw (fun h => (hy1 h).1) (fun h => (hn1 h).1)
  have k4 := k2.tr hx4
  have k5 := k3.tr hx4
  have hb6 := hb4.ext hx4
  have r35 := r28.ext hx4
  have r36 := r29.ext hx4
  have hb7 := hb5.ext hx4
  have r37 := r30.ext hx4
  have r38 := r31.ext hx4
  have r39 := r32.ext hx4
  have r40 := r33.ext hx4
  have r41 := r34.ext hx4
  refine gv rfl rfl rfl rfl (gw0 rfl) rfl (fun hc => xneq (mv hc e5) rfl) <| vl rfl rfl (xpo rfl rfl rfl) <| vl rfl rfl xmv <| gv rfl rfl rfl rfl (gw0 rfl) rfl (fun hc => xmva rfl) <| gv rfl rfl rfl rfl (gw0 rfl) rfl (fun hc => xlen (mv hc rfl) Try.underlying47) <| gv rfl rfl rfl rfl (gw0 rfl) rfl (fun hc => xgtr (mv hc rfl) rfl) <| vl rfl rfl (xpo rfl rfl rfl) <| nl <| cnd rfl (fun h7 => ?_) (fun h7 => ?_)
  ·
    have hF := ifp hF h7
    refine wp_seq <| rg <| ?_
    have hz := bs hF; obtain ⟨x9, Ex9, hF⟩ := hz
    refine cl rfl rfl (xc cb13 mn) (c13 Ex9) ?_
    rintro _ w5 ⟨rfl, hx5⟩
    have k6 := k4.tr hx5
    have k7 := k5.tr hx5
    refine vl rfl rfl xas <| nl <| ?_
    cases hF
    exact wp_ret <| rt rfl (.tmp rfl rfl .nil) ⟨rfl, k6⟩
  ·
    have hF := ifn hF h7
    refine wp_skip <| wp_seq <| wpl [] (.pure false 0 (.pure true 1 (.pure false 2 (.pure true 3 (.pure true 4 (.eff 5 (.eff 6 (.pure true 7 (.pure true 8 (.pure true 9 (.pure true 10 (.pure true 11 .fin))))) .stop) .stop)))))) mixed (by kernel_rfl) (fun w6 hx6 => ?_)
    have k8 := k4.tr hx6
    have k9 := k5.tr hx6
    have hb8 := hb6.ext hx6
    have r42 := r35.ext hx6
    have r43 := r36.ext hx6
    have hb9 := hb7.ext hx6
    have r44 := r37.ext hx6
    have r45 := r38.ext hx6
    have r46 := r39.ext hx6
    have r47 := r40.ext hx6
    have r48 := r41.ext hx6
    refine pv rfl rfl rfl (fun _ hS => xlda rfl ti25 rfl (Bx.cs (hb8.ext (hS.resolve_left nofun)))) (.inr (Ext.refl _)) <| pv rfl rfl rfl (fun _ _ => xmv) (.inl rfl) <| pv rfl rfl rfl (fun _ hS => xlda rfl ti25 rfl (Bx.cs (hb8.ext (hS.resolve_left nofun)))) (.inr (Ext.refl _)) <| pv rfl rfl rfl (fun _ _ => xmv) (.inl rfl) <| pv rfl rfl rfl (fun _ _ => xmv) (.inl rfl) <| ?_
    have hz := bs hF; obtain ⟨x10, Ex10, hF⟩ := hz
    refine pe1 rfl <| cl rfl rfl (xc cb30 (mc rfl (mc rfl (mc rfl mn)))) (c30 (show RV (α := ((List Int) × (List ((List Int) × (List Int))))) _ (.agg [.slice a1 x0.1.length cq1, .slice a2 x0.2.length cq2].toArray) (x0.1, x0.2) from ⟨_, rfl, ⟨[.slice a1 x0.1.length cq1], [.slice a2 x0.2.length cq2], rfl, r42.rep1, r43.rep1⟩⟩) r46 r48 Ex10) ?_
    rintro _ w7 ⟨u1, rfl, r49, hx7⟩
    have k10 := k8.tr hx7
    have k11 := k9.tr hx7
    have hb10 := hb8.ext hx7
    have r50 := r42.ext hx7
    have r51 := r43.ext hx7
    have hb11 := hb9.ext hx7
    have r52 := r44.ext hx7
    have r53 := r45.ext hx7
    have r54 := r46.ext hx7
    have r55 := r47.ext hx7
    have hz := RV.sl r49; obtain ⟨a8, cq8, rfl, -, -, -⟩ := hz
    refine nl ⟨fun _ _ => hx7, ?_⟩
    have hz := bs hF; obtain ⟨x11, Ex11, hF⟩ := hz
    refine pe1 rfl <| cl rfl rfl (xc cb14 (mc rfl (mc rfl (mc rfl mn)))) (c14 (show RV (α := ((List Int) × (List ((List Int) × (List Int))))) _ (.agg [.slice a1 x0.1.length cq1, .slice a2 x0.2.length cq2].toArray) (x0.1, x0.2) from ⟨_, rfl, ⟨[.slice a1 x0.1.length cq1], [.slice a2 x0.2.length cq2], rfl, r50.rep1, r51.rep1⟩⟩) r54 r49 Ex11) ?_
    rintro _ w8 ⟨u2, rfl, r56, hx8⟩
    have k12 := k10.tr hx8
    have k13 := k11.tr hx8
    have k14 := hx7.tr hx8
    have hb12 := hb10.ext hx8
    have r57 := r50.ext hx8
    have r58 := r51.ext hx8
    have hb13 := hb11.ext hx8
    have r59 := r52.ext hx8
    have r60 := r53.ext hx8
    have r61 := r54.ext hx8
    have r62 := r55.ext hx8
    have hz := RV.sl r56; obtain ⟨a9, cq9, rfl, -, -, -⟩ := hz
    refine nl ⟨fun _ _ => k14, ?_⟩
    refine pv rfl rfl rfl (fun _ _ => xmv) (.inl rfl) <| pv rfl rfl rfl (fun _ _ => xext rfl rfl) (.inl rfl) <| pv rfl rfl rfl (fun _ _ => xext rfl rfl) (.inl rfl) <| pv rfl rfl rfl (fun _ _ => xas) (.inl rfl) <| pv rfl rfl rfl (fun _ _ => xas) (.inl rfl) <| wp_seq <| wp_seq <| rg <| vl rfl rfl xmv <| vl rfl rfl (xneq rfl rfl) <| vl rfl rfl xmv <| gv rfl rfl rfl rfl (gw0 rfl) rfl (fun hc => xlda rfl ti25 rfl (Bx.cs hb12)) <| gv rfl rfl rfl rfl (gw0 rfl) rfl (fun hc => xmva rfl) <| ?_
    have hz := bs hF; obtain ⟨x12, Ex12, hF⟩ := hz
    refine gc rfl rfl rfl rfl (gw0 rfl) rfl (fun hc => xc cb31 (mc (mv hc rfl) (mc (mv hc rfl) mn))) (fun hc => (c31 (show RV (α := ((List Int) × (List ((List Int) × (List Int))))) _ (.agg [.slice a1 x0.1.length cq1, .slice a2 x0.2.length cq2].toArray) (x0.1, x0.2) from ⟨_, rfl, ⟨[.slice a1 x0.1.length cq1], [.slice a2 x0.2.length cq2], rfl, r57.rep1, r58.rep1⟩⟩) r56 (gdp Ex12 hc))) (fun v8 w9 hy2 hn2 => ?_)
    have hx9 : Ext w8 w9 := gx (fun h => (hy2 h).2) (fun h => (hn2 h).2 ▸ Ext.refl _)
    have e6 := mkw (fun h => (hy2 h).1) (fun h => (hn2 h).1)
    have k15 := k12.tr hx9
    have k16 := k13.tr hx9
    have k17 := k14.tr hx9
    have hb14 := hb12.ext hx9
    have r63 := r57.ext hx9
    have r64 := r58.ext hx9
    have hb15 := hb13.ext hx9
    have r65 := r59.ext hx9
    have r66 := r60.ext hx9
    have r67 := r61.ext hx9
    have r68 := r62.ext hx9
    have r69 := r56.ext hx9
    refine gv rfl rfl rfl rfl (gw0 rfl) rfl (fun hc => xneq (mv hc e6) rfl) <| vl rfl rfl (xpo rfl rfl rfl) <| nl <| cnd rfl (fun h8 => ?_) (fun h8 => ?_)
    ·
      have hF := ifp hF h8
      refine wp_seq <| rg <| vl rfl rfl xas <| nl <| ?_
      cases hF
      exact wp_ret <| rt rfl (.tmp rfl rfl .nil) ⟨rfl, k15⟩
    ·
      have hF := ifn hF h8
      refine wp_skip <| wp_seq <| rg <| vl rfl rfl (xlda rfl ti25 rfl (Bx.cs hb14)) <| vl rfl rfl xmv <| vl rfl rfl xmv <| ?_
      have hz := bs hF; obtain ⟨x13, Ex13, hF⟩ := hz
      refine cl rfl rfl (xc cb20 (mc rfl (mc rfl (mc rfl mn)))) (c20 (show RV (α := ((List Int) × (List ((List Int) × (List Int))))) _ (.agg [.slice a1 x0.1.length cq1, .slice a2 x0.2.length cq2].toArray) (x0.1, x0.2) from ⟨_, rfl, ⟨[.slice a1 x0.1.length cq1], [.slice a2 x0.2.length cq2], rfl, r63.rep1, r64.rep1⟩⟩) r67 r68 Ex13) ?_
      rintro _ w10 ⟨u3, rfl, r70, hx10⟩
      have k18 := k15.tr hx10
      have k19 := k16.tr hx10
      have k20 := k17.tr hx10
      have hb16 := hb14.ext hx10
      have r71 := r63.ext hx10
      have r72 := r64.ext hx10
      have hb17 := hb15.ext hx10
      have r73 := r65.ext hx10
      have r74 := r66.ext hx10
      have r75 := r67.ext hx10
      have r76 := r68.ext hx10
      have r77 := r69.ext hx10
      have hz := RV.sl r70; obtain ⟨a10, cq10, rfl, -, -, -⟩ := hz
      refine vl rfl rfl xmv <| vl rfl rfl (xext rfl rfl) <| vl rfl rfl (xext rfl rfl) <| vl rfl rfl xas <| vl rfl rfl xas <| nl <| wp_seq <| rg <| vl rfl rfl (xlda rfl ti25 rfl (Bx.cs hb16)) <| vl rfl rfl xmv <| vl rfl rfl xmv <| ?_
      have hz := bs hF; obtain ⟨x14, Ex14, hF⟩ := hz
      refine cl rfl rfl (xc cb20 (mc rfl (mc rfl (mc rfl mn)))) (c20 (show RV (α := ((List Int) × (List ((List Int) × (List Int))))) _ (.agg [.slice a1 x0.1.length cq1, .slice a2 x0.2.length cq2].toArray) (x0.1, x0.2) from ⟨_, rfl, ⟨[.slice a1 x0.1.length cq1], [.slice a2 x0.2.length cq2], rfl, r71.rep1, r72.rep1⟩⟩) r75 r77 Ex14) ?_
      rintro _ w11 ⟨u4, rfl, r78, hx11⟩
      have k21 := k18.tr hx11
      have k22 := k19.tr hx11
      have k23 := k20.tr hx11
      have hb18 := hb16.ext hx11
      have r79 := r71.ext hx11
      have r80 := r72.ext hx11
      have hb19 := hb17.ext hx11
      have r81 := r73.ext hx11
      have r82 := r74.ext hx11
      have r83 := r75.ext hx11
      have r84 := r76.ext hx11
      have r85 := r77.ext hx11
      have r86 := r70.ext hx11
      have hz := RV.sl r78; obtain ⟨a11, cq11, rfl, -, -, -⟩ := hz
      refine vl rfl rfl xmv <| vl rfl rfl (xext rfl rfl) <| vl rfl rfl (xext rfl rfl) <| vl rfl rfl xas <| vl rfl rfl xas <| nl <| wp_seq <| rg <| vl rfl rfl (xlda rfl ti25 rfl (Bx.cs hb18)) <| vl rfl rfl xmv <| vl rfl rfl xmv <| ?_
      have hz := bs hF; obtain ⟨x15, Ex15, hF⟩ := hz
      refine cl rfl rfl (xc cb20 (mc rfl (mc rfl (mc rfl mn)))) (c20 (show RV (α := ((List Int) × (List ((List Int) × (List Int))))) _ (.agg [.slice a1 x0.1.length cq1, .slice a2 x0.2.length cq2].toArray) (x0.1, x0.2) from ⟨_, rfl, ⟨[.slice a1 x0.1.length cq1], [.slice a2 x0.2.length cq2], rfl, r79.rep1, r80.rep1⟩⟩) r85 r84 Ex15) ?_
      rintro _ w12 ⟨u5, rfl, r87, hx12⟩
      have k24 := k21.tr hx12
      have k25 := k22.tr hx12
      have k26 := k23.tr hx12
      have hb20 := hb18.ext hx12
      have r88 := r79.ext hx12
      have r89 := r80.ext hx12
      have hb21 := hb19.ext hx12
      have r90 := r81.ext hx12
      have r91 := r82.ext hx12
      have r92 := r83.ext hx12
      have r93 := r84.ext hx12
      have r94 := r86.ext hx12
      have r95 := r78.ext hx12
      have hz := RV.sl r87; obtain ⟨a12, cq12, rfl, -, -, -⟩ := hz
      refine vl rfl rfl xmv <| vl rfl rfl (xext rfl rfl) <| vl rfl rfl (xext rfl rfl) <| vl rfl rfl xas <| vl rfl rfl xas <| nl <| wp_seq <| rg <| vl rfl rfl (xlda rfl ti25 rfl (Bx.cs hb20)) <| vl rfl rfl xmv <| ?_
      have hz := bs hF; obtain ⟨x16, Ex16, hF⟩ := hz
      refine cl rfl rfl (xc cb22 (mc rfl (mc rfl mn))) (c22 (show RV (α := ((List Int) × (List ((List Int) × (List Int))))) _ (.agg [.slice a1 x0.1.length cq1, .slice a2 x0.2.length cq2].toArray) (x0.1, x0.2) from ⟨_, rfl, ⟨[.slice a1 x0.1.length cq1], [.slice a2 x0.2.length cq2], rfl, r88.rep1, r89.rep1⟩⟩) r92 Ex16) ?_
      rintro _ w13 ⟨rfl, hx13⟩
      have k27 := k24.tr hx13
      have k28 := k25.tr hx13
      have k29 := k26.tr hx13
      have hb22 := hb20.ext hx13
      have r96 := r88.ext hx13
      have r97 := r89.ext hx13
      have hb23 := hb21.ext hx13
      have r98 := r90.ext hx13
      have r99 := r91.ext hx13
      have r100 := r92.ext hx13
      have r101 := r93.ext hx13
      have r102 := r94.ext hx13
      have r103 := r95.ext hx13
      have r104 := r87.ext hx13
      refine vl rfl rfl xmv <| vl rfl rfl (xext rfl rfl) <| vl rfl rfl (xext rfl rfl) <| vl rfl rfl xas <| vl rfl rfl xas <| nl <| wp_seq <| wp_seq <| rg <| vl rfl rfl xmv <| vl rfl rfl (xneq rfl rfl) <| vl rfl rfl xmv <| gv rfl rfl rfl rfl (gw0 rfl) rfl (fun hc => xmva rfl) <| gv rfl rfl rfl rfl (gw0 rfl) rfl (fun hc => xneq (mv hc rfl) rfl) <| vl rfl rfl (xpo rfl rfl rfl) <| vl rfl rfl xmv <| gv rfl rfl rfl rfl (gw0 rfl) rfl (fun hc => xmva rfl) <| gv rfl rfl rfl rfl (gw0 rfl) rfl (fun hc => xeql (mv hc rfl) rfl) <| gv rfl rfl rfl rfl (gw0 rfl) rfl (fun hc => xmva (mv hc rfl)) <| gv rfl rfl rfl rfl (gn1 rfl) rfl (fun hc => xmva rfl) <| gv rfl rfl rfl rfl (gn1 rfl) rfl (fun hc => xneq (mv hc rfl) rfl) <| gv rfl rfl rfl rfl (gn1 rfl) rfl (fun hc => xmva (mv hc rfl)) <| gv rfl rfl rfl rfl (gn0 rfl) rfl (fun hc => xmva rfl) <| gv rfl rfl rfl rfl (gn0 rfl) rfl (fun hc => xlen (mv hc rfl) Try.underlying26) <| gv rfl rfl rfl rfl (gn0 rfl) rfl (fun hc => xmva rfl) <| gv rfl rfl rfl rfl (gn0 rfl) rfl (fun hc => xlen (mv hc rfl) Try.underlying26) <| gv rfl rfl rfl rfl (gn0 rfl) rfl (fun hc => xmva rfl) <| gv rfl rfl rfl rfl (gn0 rfl) rfl (fun hc => xlen (mv hc rfl) Try.underlying26) <| gv rfl rfl rfl rfl (gn0 rfl) rfl (fun hc => xadd (mv hc rfl) (mv hc rfl)) <| gv rfl rfl rfl rfl (gn0 rfl) rfl (fun hc => xgtr (mv hc rfl) (mv hc rfl)) <| gv rfl rfl rfl rfl (gn1 rfl) rfl (fun hc => xpo (mv hc rfl) (mvn hc rfl) rfl) <| gv rfl rfl rfl rfl (gw0 rfl) rfl (fun hc => xpa (mv hc rfl) (mvn hc rfl) rfl) <| vl rfl rfl (xpo rfl rfl rfl) <| vl rfl rfl xmv <| gv rfl rfl rfl rfl (gw0 rfl) rfl (fun hc => xmva rfl) <| gv rfl rfl rfl rfl (gw0 rfl) rfl (fun hc => xneq (mv hc rfl) rfl) <| gv rfl rfl rfl rfl (gw0 rfl) rfl (fun hc => xmva (mv hc rfl)) <| gv rfl rfl rfl rfl (gn1 rfl) rfl (fun hc => xmva rfl) <| gv rfl rfl rfl rfl (gn1 rfl) rfl (fun hc => xneq (mv hc rfl) rfl) <| gv rfl rfl rfl rfl (gw0 rfl) rfl (fun hc => xpa (mv hc rfl) (mvn hc rfl) rfl) <| vl rfl rfl (xpo rfl rfl rfl) <| nl <| cnd rfl (fun h9 => ?_) (fun h9 => ?_)
      ·
        have hF := ifp hF h9
        refine wp_seq <| rg <| vl rfl rfl xas <| nl <| ?_
        cases hF
        exact wp_ret <| rt rfl (.tmp rfl rfl .nil) ⟨rfl, k27⟩
      ·
        have hF := ifn hF h9
        refine wp_skip <| wp_seq <| ?_
        have hz := bs hF; obtain ⟨y1, hB1, hF⟩ := hz
        refine ct (fun L w => ∃ v9 : Value, L 23 = v9 ∧ PB 25 w13.heap.size w v9 y1 ∧ L 1 = .slice a3 x1.length cq3 ∧ L 2 = .slice a4 x2.length cq4 ∧ L 5 = .int .u8 x5 ∧ L 6 = .pointer (some ⟨b7, 0, none⟩) ∧ L 15 = .slice a10 x13.1.length cq10 ∧ L 16 = .int .i64 x13.2 ∧ L 21 = .int .i64 x16.1 ∧ Ext w13 w) ?_ ?_
        ·
          have hz := bs hB1; obtain ⟨x17, Ex17, hB1⟩ := hz
          have hz := bs hB1; obtain ⟨x18, Ex18, hB1⟩ := hz
          refine wpl [] (.pure true 0 (.pure false 1 (.pure true 3 (.pure false 4 (.pure false 6 (.eff 2 (.eff 5 (.eff 7 (.eff 8 (.pure true 9 (.eff 10 (.eff 11 .fin .stop) .stop)) (.eff 10 (.eff 8 (.pure true 9 (.eff 11 .fin .stop)) .stop) .stop)) (.eff 10 (.eff 7 (.eff 8 (.pure true 9 (.eff 11 .fin .stop)) .stop) .stop) .stop)) (.eff 7 (.eff 5 (.eff 8 (.pure true 9 (.eff 10 (.eff 11 .fin .stop) .stop)) (.eff 10 (.eff 8 (.pure true 9 (.eff 11 .fin .stop)) .stop) .stop)) (.eff 10 (.eff 5 (.eff 8 (.pure true 9 (.eff 11 .fin .stop)) .stop) .stop) .stop)) (.eff 10 (.eff 5 (.eff 7 (.eff 8 (.pure true 9 (.eff 11 .fin .stop)) .stop) .stop) (.eff 7 (.eff 5 (.eff 8 (.pure true 9 (.eff 11 .fin .stop)) .stop) .stop) .stop)) .stop))) (.eff 7 (.eff 2 (.eff 5 (.eff 8 (.pure true 9 (.eff 10 (.eff 11 .fin .stop) .stop)) (.eff 10 (.eff 8 (.pure true 9 (.eff 11 .fin .stop)) .stop) .stop)) (.eff 10 (.eff 5 (.eff 8 (.pure true 9 (.eff 11 .fin .stop)) .stop) .stop) .stop)) (.eff 10 (.eff 2 (.eff 5 (.eff 8 (.pure true 9 (.eff 11 .fin .stop)) .stop) .stop) .stop) .stop)) (.eff 10 (.eff 2 (.eff 5 (.eff 7 (.eff 8 (.pure true 9 (.eff 11 .fin .stop)) .stop) .stop) (.eff 7 (.eff 5 (.eff 8 (.pure true 9 (.eff 11 .fin .stop)) .stop) .stop) .stop)) (.eff 7 (.eff 2 (.eff 5 (.eff 8 (.pure true 9 (.eff 11 .fin .stop)) .stop) .stop) .stop) .stop)) .stop)))))))) mixed (by kernel_rfl) (fun w21 hx18 => ?_)
          have k63 := k27.tr hx18
          have k64 := k28.tr hx18
          have k65 := k29.tr hx18
          have hb37 := hb22.ext hx18
          have r150 := r96.ext hx18
          have r151 := r97.ext hx18
          have hb38 := hb23.ext hx18
          have r152 := r98.ext hx18
          have r153 := r99.ext hx18
          have r154 := r100.ext hx18
          have r155 := r101.ext hx18
          have r156 := r102.ext hx18
          refine pv rfl rfl rfl (fun _ _ => xfa rfl fa25_0) (.inl rfl) <| pv rfl rfl rfl (fun _ hS => xld rfl ti22 ((Bx.cs (hb37.ext (hS.resolve_left nofun))).at 0 rfl)) (.inr (Ext.refl _)) <| pv rfl rfl rfl (fun _ _ => xfa rfl fa25_1) (.inl rfl) <| pv rfl rfl rfl (fun _ hS => xld rfl ti23 ((Bx.cs (hb37.ext (hS.resolve_left nofun))).at 1 rfl)) (.inr (Ext.refl _)) <| pv rfl rfl rfl (fun _ hS => xlda rfl ti57 rfl (Bx.cs (hb38.ext (hS.resolve_left nofun)))) (.inr (Ext.refl _)) <| ?_
          refine pe rfl ?_ ?_
          ·
            refine sbsv (cs := []) Try.underlying23 ti57 rfl pn rfl rfl rfl rfl rfl fun b12 w22 hx19 hg6 hb39 => ?_
            have k66 := k63.tr hx19
            have k67 := k64.tr hx19
            have k68 := k65.tr hx19
            have k69 := hx18.tr hx19
            have hb40 := hb37.ext hx19
            have r158 := r150.ext hx19
            have r159 := r151.ext hx19
            have r160 := r154.ext hx19
            have r161 := r155.ext hx19
            have r162 := r156.ext hx19
            have r163 := r152.ext hx19
            have r164 := r153.ext hx19
            have r157 : RV w22 (.slice (some ⟨b12, 0, none⟩) 0 0) ([] : List ((List Int) × (List Int))) := RV.lit hb39 (css := []) rfl trivial rfl (ble rfl)
            have o7 : DRowO (α := ((List Int) × (List Int))) w0.heap.size 57 w21.heap.size w22 (.slice (some ⟨b12, 0, none⟩) 0 0) [] := ⟨[], Row.lit hg6 hb39 rfl (ble rfl), rfl, by simp⟩
            refine nl ⟨fun _ _ => hx19, ?_⟩
            refine pe rfl ?_ ?_
            ·
              refine sapdO (l := ([] : List ((List Int) × (List Int)))) (k := x0.2) rfl rfl Try.underlying23 ti57 rfl rfl o7 (ElsD.of (RVo.okoO (RVo.ext (RV.old (w := w0) r8) k66) (o7.geo k63.size))) Ex17 hx19.size fun v12 w23 o8 hB4 hgr3 how3 => ?_
              have k70 := Ext.grow k66 k63.size hB4
              have k71 := Ext.grow k67 k64.size hB4
              have k72 := Ext.grow k68 k65.size hB4
              have k73 := Ext.grow k69 hx18.size hB4
              have k74 : Ext w21 w23 := hx19.trans hB4
              have hb41 := hb37.ext k74
              have r165 := r150.ext k74
              have r166 := r151.ext k74
              have r167 := r154.ext k74
              have r168 := r155.ext k74
              have r169 := r156.ext k74
              have r170 := r152.ext k74
              have r171 := r153.ext k74
              have hz := RV.sl o8.rv; obtain ⟨a15, cq15, rfl, -, -, -⟩ := hz
              refine nl ⟨fun _ _ => k74, ?_⟩
              refine pe rfl ?_ ?_
              ·
                refine sbsv (cs := [.slice a6 x4.1.length cq6, .slice a7 x4.2.length cq7]) Try.underlying23 ti57 rfl (pc rfl pn) rfl rfl rfl rfl rfl fun b13 w24 hx20 hg7 hb42 => ?_
                have k75 := k70.tr hx20
                have k76 := k71.tr hx20
                have k77 := k72.tr hx20
                have k78 := k73.tr hx20
                have k79 := k74.tr hx20
                have hb43 := hb41.ext hx20
                have r173 := r165.ext hx20
                have r174 := r166.ext hx20
                have r175 := r167.ext hx20
                have r176 := r168.ext hx20
                have r177 := r169.ext hx20
                have o9 := o8.ext hx20
                have r178 := r170.ext hx20
                have r179 := r171.ext hx20
                have r172 : RV w24 (.slice (some ⟨b13, 0, none⟩) 1 1) ([(x4.1, x4.2)] : List ((List Int) × (List Int))) := RV.lit hb42 (css := [[.slice a6 x4.1.length cq6] ++ [.slice a7 x4.2.length cq7]]) rfl ⟨⟨[.slice a6 x4.1.length cq6], [.slice a7 x4.2.length cq7], rfl, r178.rep1, r179.rep1⟩, trivial⟩ rfl (ble rfl)
                refine nl ⟨fun _ _ => k79, ?_⟩
                refine pe rfl ?_ ?_
                ·
                  refine sapdO (l := x17) (k := ([(x4.1, x4.2)] : List ((List Int) × (List Int)))) rfl rfl Try.underlying23 ti57 rfl rfl o9 (ElsD.lit1 hb42 ⟨[.slice a6 x4.1.length cq6], [.slice a7 x4.2.length cq7], rfl, (RVo.rep1 (RVo.okoO (RVo.ext (RV.old (w := w0) r9) k75) (o9.geo k63.size))), (RVo.rep1 (RVo.okoO (RVo.ext (RV.old (w := w0) r10) k75) (o9.geo k63.size)))⟩) Ex18 k79.size fun v13 w25 o10 hB5 hgr4 how4 => ?_
                  have k80 := Ext.grow k75 k63.size hB5
                  have k81 := Ext.grow k76 k64.size hB5
                  have k82 := Ext.grow k77 k65.size hB5
                  have k83 := Ext.grow k78 hx18.size hB5
                  have k84 : Ext w21 w25 := k79.trans hB5
                  have hb44 := hb37.ext k84
                  have r180 := r150.ext k84
                  have r181 := r151.ext k84
                  have r182 := r154.ext k84
                  have r183 := r155.ext k84
                  have r184 := r156.ext k84
                  have hz := RV.sl o10.rv; obtain ⟨a16, cq16, rfl, -, -, -⟩ := hz
                  refine nl ⟨fun _ _ => k84, ?_⟩
                  refine pv rfl rfl rfl (fun _ _ => xbdv (r := [.slice a1 x0.1.length cq1, .slice a16 x18.length cq16]) ti25 sp25 (pc rfl (pc rfl pn)) rfl) (.inl rfl) <| pe1 rfl <| sal ti25 fun b14 w26 hx21 hg8 hb45 => ?_
                  have k85 := k80.tr hx21
                  have k86 := k81.tr hx21
                  have k87 := k82.tr hx21
                  have k88 := k83.tr hx21
                  have k89 := k84.tr hx21
                  have hb46 := hb44.ext hx21
                  have r185 := r180.ext hx21
                  have r186 := r181.ext hx21
                  have r187 := r182.ext hx21
                  have r188 := r183.ext hx21
                  have r189 := r184.ext hx21
                  have o11 := o10.ext hx21
                  refine nl ⟨fun _ _ => k89, ?_⟩
                  refine pe1 rfl <| sst rfl rfl rfl ti25 hb45 rfl rfl (ble rfl) fun w27 hch2 hb47 => ?_
                  have k90 := Ext.chg k85 hch2 (Nat.le_trans k80.size hg8)
                  have k91 := Ext.chg k86 hch2 (Nat.le_trans k81.size hg8)
                  have k92 := Ext.chg k87 hch2 (Nat.le_trans k82.size hg8)
                  have k93 := Ext.chg k88 hch2 (Nat.le_trans k83.size hg8)
                  have k94 := Ext.chg k89 hch2 (Nat.le_trans k84.size hg8)
                  have k95 := Ext.chg hx21 hch2 (Nat.le_trans (Nat.le_refl _) hg8)
                  have hb48 := hb44.ext k95
                  have r190 := r180.ext k95
                  have r191 := r181.ext k95
                  have r192 := r182.ext k95
                  have r193 := r183.ext k95
                  have r194 := r184.ext k95
                  have o12 := o10.ext k95
                  have hb49 : Bx w27 b14 25 [.slice a1 x0.1.length cq1, .slice a16 x18.length cq16] := hb47
                  refine nl ⟨fun _ _ => k94, ?_⟩
                  cases hB1
                  refine lf <| ?_
                  exact ⟨_, rfl, ⟨_, _, rfl, (Nat.le_trans k83.size hg8), hb49, ⟨[.slice a1 x0.1.length cq1], [.slice a16 x18.length cq16], rfl, r190.rep1, o12.rv.rep1⟩⟩, rfl, rfl, rfl, rfl, rfl, rfl, rfl, k93⟩
                refine pm rfl ?_ ?_
                ·
                  refine sal ti25 fun b15 w28 hx22 hg9 hb50 => ?_
                  have k96 := k75.tr hx22
                  have k97 := k76.tr hx22
                  have k98 := k77.tr hx22
                  have k99 := k78.tr hx22
                  have k100 := k79.tr hx22
                  have k101 := hx20.tr hx22
                  have hb51 := hb43.ext hx22
                  have r195 := r173.ext hx22
                  have r196 := r174.ext hx22
                  have r197 := r175.ext hx22
                  have r198 := r176.ext hx22
                  have r199 := r177.ext hx22
                  have o13 := o9.ext hx22
                  have r200 := r172.ext hx22
                  have hb52 := hb42.ext hx22
                  have r201 := r178.ext hx22
                  have r202 := r179.ext hx22
                  refine nl ⟨fun _ _ => k100, ?_⟩
                  refine pe1 rfl <| sapdO (l := x17) (k := ([(x4.1, x4.2)] : List ((List Int) × (List Int)))) rfl rfl Try.underlying23 ti57 rfl rfl o13 (ElsD.lit1 hb52 ⟨[.slice a6 x4.1.length cq6], [.slice a7 x4.2.length cq7], rfl, (RVo.rep1 (RVo.okoO (RVo.ext (RV.old (w := w0) r9) k96) (o13.geo k63.size))), (RVo.rep1 (RVo.okoO (RVo.ext (RV.old (w := w0) r10) k96) (o13.geo k63.size)))⟩) Ex18 k100.size fun v14 w29 o14 hB6 hgr5 how5 => ?_
                  have k102 := Ext.grow k96 k63.size hB6
                  have k103 := Ext.grow k97 k64.size hB6
                  have k104 := Ext.grow k98 k65.size hB6
                  have k105 := Ext.grow k99 hx18.size hB6
                  have k106 : Ext w21 w29 := k100.trans hB6
                  have hb53 := hb37.ext k106
                  have r203 := r150.ext k106
                  have r204 := r151.ext k106
                  have ne1 := ne_app how5 (o9.ne_new hg9) hb50.lt
                  have hb54 := Bx.gr hb50 hgr5 (o9.ne_new hg9)
                  have r205 := r154.ext k106
                  have r206 := r155.ext k106
                  have r207 := r156.ext k106
                  have hz := RV.sl o14.rv; obtain ⟨a17, cq17, rfl, -, -, -⟩ := hz
                  refine nl ⟨fun _ _ => k106, ?_⟩
                  refine pv rfl rfl rfl (fun _ _ => xbdv (r := [.slice a1 x0.1.length cq1, .slice a17 x18.length cq17]) ti25 sp25 (pc rfl (pc rfl pn)) rfl) (.inl rfl) <| pe1 rfl <| sst rfl rfl rfl ti25 hb54 rfl rfl (ble rfl) fun w30 hch3 hb55 => ?_
                  have k107 := Ext.chg k102 hch3 (Nat.le_trans k63.size (Nat.le_trans k79.size hg9))
                  have k108 := Ext.chg k103 hch3 (Nat.le_trans k64.size (Nat.le_trans k79.size hg9))
                  have k109 := Ext.chg k104 hch3 (Nat.le_trans k65.size (Nat.le_trans k79.size hg9))
                  have k110 := Ext.chg k105 hch3 (Nat.le_trans hx18.size (Nat.le_trans k79.size hg9))
                  have k111 := Ext.chg k106 hch3 (Nat.le_trans (Nat.le_refl _) (Nat.le_trans k79.size hg9))
                  have hb56 := hb37.ext k111
                  have r208 := r150.ext k111
                  have r209 := r151.ext k111
                  have r210 := r154.ext k111
                  have r211 := r155.ext k111
                  have r212 := r156.ext k111
                  have o15 := o14.chgb hch3 (Nat.le_trans k75.size hg9) ne1
                  have hb57 : Bx w30 b15 25 [.slice a1 x0.1.length cq1, .slice a17 x18.length cq17] := hb55
                  refine nl ⟨fun _ _ => k111, ?_⟩
                  cases hB1
                  refine lf <| ?_
                  exact ⟨_, rfl, ⟨_, _, rfl, (Nat.le_trans hx18.size (Nat.le_trans k79.size hg9)), hb57, ⟨[.slice a1 x0.1.length cq1], [.slice a17 x18.length cq17], rfl, r208.rep1, o15.rv.rep1⟩⟩, rfl, rfl, rfl, rfl, rfl, rfl, rfl, k110⟩
                trivial
              refine pm rfl ?_ ?_
              ·
                refine sal ti25 fun b16 w31 hx23 hg10 hb58 => ?_
                have k112 := k70.tr hx23
                have k113 := k71.tr hx23
                have k114 := k72.tr hx23
                have k115 := k73.tr hx23
                have k116 := k74.tr hx23
                have hb59 := hb41.ext hx23
                have r213 := r165.ext hx23
                have r214 := r166.ext hx23
                have r215 := r167.ext hx23
                have r216 := r168.ext hx23
                have r217 := r169.ext hx23
                have r218 := r170.ext hx23
                have r219 := r171.ext hx23
                have o16 := o8.ext hx23
                refine nl ⟨fun _ _ => k116, ?_⟩
                refine pe1 rfl <| sbsv (cs := [.slice a6 x4.1.length cq6, .slice a7 x4.2.length cq7]) Try.underlying23 ti57 rfl (pc rfl pn) rfl rfl rfl rfl rfl fun b17 w32 hx24 hg11 hb60 => ?_
                have k117 := k112.tr hx24
                have k118 := k113.tr hx24
                have k119 := k114.tr hx24
                have k120 := k115.tr hx24
                have k121 := k116.tr hx24
                have k122 := hx23.tr hx24
                have hb61 := hb59.ext hx24
                have r221 := r213.ext hx24
                have r222 := r214.ext hx24
                have hb62 := hb58.ext hx24
                have r223 := r215.ext hx24
                have r224 := r216.ext hx24
                have r225 := r217.ext hx24
                have o17 := o16.ext hx24
                have r226 := r218.ext hx24
                have r227 := r219.ext hx24
                have r220 : RV w32 (.slice (some ⟨b17, 0, none⟩) 1 1) ([(x4.1, x4.2)] : List ((List Int) × (List Int))) := RV.lit hb60 (css := [[.slice a6 x4.1.length cq6] ++ [.slice a7 x4.2.length cq7]]) rfl ⟨⟨[.slice a6 x4.1.length cq6], [.slice a7 x4.2.length cq7], rfl, r226.rep1, r227.rep1⟩, trivial⟩ rfl (ble rfl)
                refine nl ⟨fun _ _ => k121, ?_⟩
                refine pe1 rfl <| sapdO (l := x17) (k := ([(x4.1, x4.2)] : List ((List Int) × (List Int)))) rfl rfl Try.underlying23 ti57 rfl rfl o17 (ElsD.lit1 hb60 ⟨[.slice a6 x4.1.length cq6], [.slice a7 x4.2.length cq7], rfl, (RVo.rep1 (RVo.okoO (RVo.ext (RV.old (w := w0) r9) k117) (o17.geo k63.size))), (RVo.rep1 (RVo.okoO (RVo.ext (RV.old (w := w0) r10) k117) (o17.geo k63.size)))⟩) Ex18 k121.size fun v15 w33 o18 hB7 hgr6 how6 => ?_
                have k123 := Ext.grow k117 k63.size hB7
                have k124 := Ext.grow k118 k64.size hB7
                have k125 := Ext.grow k119 k65.size hB7
                have k126 := Ext.grow k120 hx18.size hB7
                have k127 : Ext w21 w33 := k121.trans hB7
                have hb63 := hb37.ext k127
                have r228 := r150.ext k127
                have r229 := r151.ext k127
                have ne2 := ne_app how6 (o8.ne_new hg10) hb62.lt
                have hb64 := Bx.gr hb62 hgr6 (o8.ne_new hg10)
                have r230 := r154.ext k127
                have r231 := r155.ext k127
                have r232 := r156.ext k127
                have hz := RV.sl o18.rv; obtain ⟨a18, cq18, rfl, -, -, -⟩ := hz
                refine nl ⟨fun _ _ => k127, ?_⟩
                refine pv rfl rfl rfl (fun _ _ => xbdv (r := [.slice a1 x0.1.length cq1, .slice a18 x18.length cq18]) ti25 sp25 (pc rfl (pc rfl pn)) rfl) (.inl rfl) <| pe1 rfl <| sst rfl rfl rfl ti25 hb64 rfl rfl (ble rfl) fun w34 hch4 hb65 => ?_
                have k128 := Ext.chg k123 hch4 (Nat.le_trans k63.size (Nat.le_trans k74.size hg10))
                have k129 := Ext.chg k124 hch4 (Nat.le_trans k64.size (Nat.le_trans k74.size hg10))
                have k130 := Ext.chg k125 hch4 (Nat.le_trans k65.size (Nat.le_trans k74.size hg10))
                have k131 := Ext.chg k126 hch4 (Nat.le_trans hx18.size (Nat.le_trans k74.size hg10))
                have k132 := Ext.chg k127 hch4 (Nat.le_trans (Nat.le_refl _) (Nat.le_trans k74.size hg10))
                have hb66 := hb37.ext k132
                have r233 := r150.ext k132
                have r234 := r151.ext k132
                have r235 := r154.ext k132
                have r236 := r155.ext k132
                have r237 := r156.ext k132
                have o19 := o18.chgb hch4 (Nat.le_trans k70.size hg10) ne2
                have hb67 : Bx w34 b16 25 [.slice a1 x0.1.length cq1, .slice a18 x18.length cq18] := hb65
                refine nl ⟨fun _ _ => k132, ?_⟩
                cases hB1
                refine lf <| ?_
                exact ⟨_, rfl, ⟨_, _, rfl, (Nat.le_trans hx18.size (Nat.le_trans k74.size hg10)), hb67, ⟨[.slice a1 x0.1.length cq1], [.slice a18 x18.length cq18], rfl, r233.rep1, o19.rv.rep1⟩⟩, rfl, rfl, rfl, rfl, rfl, rfl, rfl, k131⟩
              trivial
            refine pm rfl ?_ ?_
            ·
              refine sbsv (cs := [.slice a6 x4.1.length cq6, .slice a7 x4.2.length cq7]) Try.underlying23 ti57 rfl (pc rfl pn) rfl rfl rfl rfl rfl fun b18 w35 hx25 hg12 hb68 => ?_
              have k133 := k66.tr hx25
              have k134 := k67.tr hx25
              have k135 := k68.tr hx25
              have k136 := k69.tr hx25
              have k137 := hx19.tr hx25
              have hb69 := hb40.ext hx25
              have r239 := r158.ext hx25
              have r240 := r159.ext hx25
              have r241 := r160.ext hx25
              have r242 := r161.ext hx25
              have r243 := r162.ext hx25
              have o20 := o7.ext hx25
              have r244 := r163.ext hx25
              have r245 := r164.ext hx25
              have r238 : RV w35 (.slice (some ⟨b18, 0, none⟩) 1 1) ([(x4.1, x4.2)] : List ((List Int) × (List Int))) := RV.lit hb68 (css := [[.slice a6 x4.1.length cq6] ++ [.slice a7 x4.2.length cq7]]) rfl ⟨⟨[.slice a6 x4.1.length cq6], [.slice a7 x4.2.length cq7], rfl, r244.rep1, r245.rep1⟩, trivial⟩ rfl (ble rfl)
              refine nl ⟨fun _ _ => k137, ?_⟩
              refine pe rfl ?_ ?_
              ·
                refine sapdO (l := ([] : List ((List Int) × (List Int)))) (k := x0.2) rfl rfl Try.underlying23 ti57 rfl rfl o20 (ElsD.of (RVo.okoO (RVo.ext (RV.old (w := w0) r8) k133) (o20.geo k63.size))) Ex17 k137.size fun v16 w36 o21 hB8 hgr7 how7 => ?_
                have k138 := Ext.grow k133 k63.size hB8
                have k139 := Ext.grow k134 k64.size hB8
                have k140 := Ext.grow k135 k65.size hB8
                have k141 := Ext.grow k136 hx18.size hB8
                have k142 : Ext w21 w36 := k137.trans hB8
                have hb70 := hb37.ext k142
                have r246 := r150.ext k142
                have r247 := r151.ext k142
                have r248 := r154.ext k142
                have r249 := r155.ext k142
                have r250 := r156.ext k142
                have hb71 := Bx.gr hb68 hgr7 (o7.ne_new hg12)
                have r251 := r152.ext k142
                have r252 := r153.ext k142
                have r253 : RV w36 (.slice (some ⟨b18, 0, none⟩) 1 1) ([(x4.1, x4.2)] : List ((List Int) × (List Int))) := RV.lit hb71 (css := [[.slice a6 x4.1.length cq6] ++ [.slice a7 x4.2.length cq7]]) rfl ⟨⟨[.slice a6 x4.1.length cq6], [.slice a7 x4.2.length cq7], rfl, r251.rep1, r252.rep1⟩, trivial⟩ rfl (ble rfl)
                have hz := RV.sl o21.rv; obtain ⟨a19, cq19, rfl, -, -, -⟩ := hz
                refine nl ⟨fun _ _ => k142, ?_⟩
                refine pe rfl ?_ ?_
                ·
                  refine sapdO (l := x17) (k := ([(x4.1, x4.2)] : List ((List Int) × (List Int)))) rfl rfl Try.underlying23 ti57 rfl rfl o21 (ElsD.lit1 hb71 ⟨[.slice a6 x4.1.length cq6], [.slice a7 x4.2.length cq7], rfl, (RVo.rep1 (RVo.okoO (RVo.ext (RV.old (w := w0) r9) k138) (o21.geo k63.size))), (RVo.rep1 (RVo.okoO (RVo.ext (RV.old (w := w0) r10) k138) (o21.geo k63.size)))⟩) Ex18 k142.size fun v17 w37 o22 hB9 hgr8 how8 => ?_
                  have k143 := Ext.grow k138 k63.size hB9
                  have k144 := Ext.grow k139 k64.size hB9
                  have k145 := Ext.grow k140 k65.size hB9
                  have k146 := Ext.grow k141 hx18.size hB9
                  have k147 : Ext w21 w37 := k142.trans hB9
                  have hb72 := hb37.ext k147
                  have r254 := r150.ext k147
                  have r255 := r151.ext k147
                  have r256 := r154.ext k147
                  have r257 := r155.ext k147
                  have r258 := r156.ext k147
                  have hz := RV.sl o22.rv; obtain ⟨a20, cq20, rfl, -, -, -⟩ := hz
                  refine nl ⟨fun _ _ => k147, ?_⟩
                  refine pv rfl rfl rfl (fun _ _ => xbdv (r := [.slice a1 x0.1.length cq1, .slice a20 x18.length cq20]) ti25 sp25 (pc rfl (pc rfl pn)) rfl) (.inl rfl) <| pe1 rfl <| sal ti25 fun b19 w38 hx26 hg13 hb73 => ?_
                  have k148 := k143.tr hx26
                  have k149 := k144.tr hx26
                  have k150 := k145.tr hx26
                  have k151 := k146.tr hx26
                  have k152 := k147.tr hx26
                  have hb74 := hb72.ext hx26
                  have r259 := r254.ext hx26
                  have r260 := r255.ext hx26
                  have r261 := r256.ext hx26
                  have r262 := r257.ext hx26
                  have r263 := r258.ext hx26
                  have o23 := o22.ext hx26
                  refine nl ⟨fun _ _ => k152, ?_⟩
                  refine pe1 rfl <| sst rfl rfl rfl ti25 hb73 rfl rfl (ble rfl) fun w39 hch5 hb75 => ?_
                  have k153 := Ext.chg k148 hch5 (Nat.le_trans k143.size hg13)
                  have k154 := Ext.chg k149 hch5 (Nat.le_trans k144.size hg13)
                  have k155 := Ext.chg k150 hch5 (Nat.le_trans k145.size hg13)
                  have k156 := Ext.chg k151 hch5 (Nat.le_trans k146.size hg13)
                  have k157 := Ext.chg k152 hch5 (Nat.le_trans k147.size hg13)
                  have k158 := Ext.chg hx26 hch5 (Nat.le_trans (Nat.le_refl _) hg13)
                  have hb76 := hb72.ext k158
                  have r264 := r254.ext k158
                  have r265 := r255.ext k158
                  have r266 := r256.ext k158
                  have r267 := r257.ext k158
                  have r268 := r258.ext k158
                  have o24 := o22.ext k158
                  have hb77 : Bx w39 b19 25 [.slice a1 x0.1.length cq1, .slice a20 x18.length cq20] := hb75
                  refine nl ⟨fun _ _ => k157, ?_⟩
                  cases hB1
                  refine lf <| ?_
                  exact ⟨_, rfl, ⟨_, _, rfl, (Nat.le_trans k146.size hg13), hb77, ⟨[.slice a1 x0.1.length cq1], [.slice a20 x18.length cq20], rfl, r264.rep1, o24.rv.rep1⟩⟩, rfl, rfl, rfl, rfl, rfl, rfl, rfl, k156⟩
                refine pm rfl ?_ ?_
                ·
                  refine sal ti25 fun b20 w40 hx27 hg14 hb78 => ?_
                  have k159 := k138.tr hx27
                  have k160 := k139.tr hx27
                  have k161 := k140.tr hx27
                  have k162 := k141.tr hx27
                  have k163 := k142.tr hx27
                  have hb79 := hb70.ext hx27
                  have r269 := r246.ext hx27
                  have r270 := r247.ext hx27
                  have r271 := r248.ext hx27
                  have r272 := r249.ext hx27
                  have r273 := r250.ext hx27
                  have r274 := r253.ext hx27
                  have hb80 := hb71.ext hx27
                  have r275 := r251.ext hx27
                  have r276 := r252.ext hx27
                  have o25 := o21.ext hx27
                  refine nl ⟨fun _ _ => k163, ?_⟩
                  refine pe1 rfl <| sapdO (l := x17) (k := ([(x4.1, x4.2)] : List ((List Int) × (List Int)))) rfl rfl Try.underlying23 ti57 rfl rfl o25 (ElsD.lit1 hb80 ⟨[.slice a6 x4.1.length cq6], [.slice a7 x4.2.length cq7], rfl, (RVo.rep1 (RVo.okoO (RVo.ext (RV.old (w := w0) r9) k159) (o25.geo k63.size))), (RVo.rep1 (RVo.okoO (RVo.ext (RV.old (w := w0) r10) k159) (o25.geo k63.size)))⟩) Ex18 k163.size fun v18 w41 o26 hB10 hgr9 how9 => ?_
                  have k164 := Ext.grow k159 k63.size hB10
                  have k165 := Ext.grow k160 k64.size hB10
                  have k166 := Ext.grow k161 k65.size hB10
                  have k167 := Ext.grow k162 hx18.size hB10
                  have k168 : Ext w21 w41 := k163.trans hB10
                  have hb81 := hb37.ext k168
                  have r277 := r150.ext k168
                  have r278 := r151.ext k168
                  have ne3 := ne_app how9 (o21.ne_new hg14) hb78.lt
                  have hb82 := Bx.gr hb78 hgr9 (o21.ne_new hg14)
                  have r279 := r154.ext k168
                  have r280 := r155.ext k168
                  have r281 := r156.ext k168
                  have hz := RV.sl o26.rv; obtain ⟨a21, cq21, rfl, -, -, -⟩ := hz
                  refine nl ⟨fun _ _ => k168, ?_⟩
                  refine pv rfl rfl rfl (fun _ _ => xbdv (r := [.slice a1 x0.1.length cq1, .slice a21 x18.length cq21]) ti25 sp25 (pc rfl (pc rfl pn)) rfl) (.inl rfl) <| pe1 rfl <| sst rfl rfl rfl ti25 hb82 rfl rfl (ble rfl) fun w42 hch6 hb83 => ?_
                  have k169 := Ext.chg k164 hch6 (Nat.le_trans k63.size (Nat.le_trans k142.size hg14))
                  have k170 := Ext.chg k165 hch6 (Nat.le_trans k64.size (Nat.le_trans k142.size hg14))
                  have k171 := Ext.chg k166 hch6 (Nat.le_trans k65.size (Nat.le_trans k142.size hg14))
                  have k172 := Ext.chg k167 hch6 (Nat.le_trans hx18.size (Nat.le_trans k142.size hg14))
                  have k173 := Ext.chg k168 hch6 (Nat.le_trans (Nat.le_refl _) (Nat.le_trans k142.size hg14))
                  have hb84 := hb37.ext k173
                  have r282 := r150.ext k173
                  have r283 := r151.ext k173
                  have r284 := r154.ext k173
                  have r285 := r155.ext k173
                  have r286 := r156.ext k173
                  have o27 := o26.chgb hch6 (Nat.le_trans k138.size hg14) ne3
                  have hb85 : Bx w42 b20 25 [.slice a1 x0.1.length cq1, .slice a21 x18.length cq21] := hb83
                  refine nl ⟨fun _ _ => k173, ?_⟩
                  cases hB1
                  refine lf <| ?_
                  exact ⟨_, rfl, ⟨_, _, rfl, (Nat.le_trans hx18.size (Nat.le_trans k142.size hg14)), hb85, ⟨[.slice a1 x0.1.length cq1], [.slice a21 x18.length cq21], rfl, r282.rep1, o27.rv.rep1⟩⟩, rfl, rfl, rfl, rfl, rfl, rfl, rfl, k172⟩
                trivial
              refine pm rfl ?_ ?_
              ·
                refine sal ti25 fun b21 w43 hx28 hg15 hb86 => ?_
                have k174 := k133.tr hx28
                have k175 := k134.tr hx28
                have k176 := k135.tr hx28
                have k177 := k136.tr hx28
                have k178 := k137.tr hx28
                have k179 := hx25.tr hx28
                have hb87 := hb69.ext hx28
                have r287 := r239.ext hx28
                have r288 := r240.ext hx28
                have r289 := r241.ext hx28
                have r290 := r242.ext hx28
                have r291 := r243.ext hx28
                have o28 := o20.ext hx28
                have r292 := r238.ext hx28
                have hb88 := hb68.ext hx28
                have r293 := r244.ext hx28
                have r294 := r245.ext hx28
                refine nl ⟨fun _ _ => k178, ?_⟩
                refine pe1 rfl <| sapdO (l := ([] : List ((List Int) × (List Int)))) (k := x0.2) rfl rfl Try.underlying23 ti57 rfl rfl o28 (ElsD.of (RVo.okoO (RVo.ext (RV.old (w := w0) r8) k174) (o28.geo k63.size))) Ex17 k178.size fun v19 w44 o29 hB11 hgr10 how10 => ?_
                have k180 := Ext.grow k174 k63.size hB11
                have k181 := Ext.grow k175 k64.size hB11
                have k182 := Ext.grow k176 k65.size hB11
                have k183 := Ext.grow k177 hx18.size hB11
                have k184 : Ext w21 w44 := k178.trans hB11
                have hb89 := hb37.ext k184
                have r295 := r150.ext k184
                have r296 := r151.ext k184
                have ne4 := ne_app how10 (o20.ne_new hg15) hb86.lt
                have hb90 := Bx.gr hb86 hgr10 (o20.ne_new hg15)
                have r297 := r154.ext k184
                have r298 := r155.ext k184
                have r299 := r156.ext k184
                have hb91 := Bx.gr hb88 hgr10 (o7.ne_new hg12)
                have r300 := r152.ext k184
                have r301 := r153.ext k184
                have r302 : RV w44 (.slice (some ⟨b18, 0, none⟩) 1 1) ([(x4.1, x4.2)] : List ((List Int) × (List Int))) := RV.lit hb91 (css := [[.slice a6 x4.1.length cq6] ++ [.slice a7 x4.2.length cq7]]) rfl ⟨⟨[.slice a6 x4.1.length cq6], [.slice a7 x4.2.length cq7], rfl, r300.rep1, r301.rep1⟩, trivial⟩ rfl (ble rfl)
                have hz := RV.sl o29.rv; obtain ⟨a22, cq22, rfl, -, -, -⟩ := hz
                refine nl ⟨fun _ _ => k184, ?_⟩
                refine pe1 rfl <| sapdO (l := x17) (k := ([(x4.1, x4.2)] : List ((List Int) × (List Int)))) rfl rfl Try.underlying23 ti57 rfl rfl o29 (ElsD.lit1 hb91 ⟨[.slice a6 x4.1.length cq6], [.slice a7 x4.2.length cq7], rfl, (RVo.rep1 (RVo.okoO (RVo.ext (RV.old (w := w0) r9) k180) (o29.geo k63.size))), (RVo.rep1 (RVo.okoO (RVo.ext (RV.old (w := w0) r10) k180) (o29.geo k63.size)))⟩) Ex18 k184.size fun v20 w45 o30 hB12 hgr11 how11 => ?_
                have k185 := Ext.grow k180 k63.size hB12
                have k186 := Ext.grow k181 k64.size hB12
                have k187 := Ext.grow k182 k65.size hB12
                have k188 := Ext.grow k183 hx18.size hB12
                have k189 : Ext w21 w45 := k184.trans hB12
                have hb92 := hb37.ext k189
                have r303 := r150.ext k189
                have r304 := r151.ext k189
                have ne5 := ne_app how11 ne4 hb90.lt
                have hb93 := Bx.gr hb90 hgr11 ne4
                have r305 := r154.ext k189
                have r306 := r155.ext k189
                have r307 := r156.ext k189
                have hz := RV.sl o30.rv; obtain ⟨a23, cq23, rfl, -, -, -⟩ := hz
                refine nl ⟨fun _ _ => k189, ?_⟩
                refine pv rfl rfl rfl (fun _ _ => xbdv (r := [.slice a1 x0.1.length cq1, .slice a23 x18.length cq23]) ti25 sp25 (pc rfl (pc rfl pn)) rfl) (.inl rfl) <| pe1 rfl <| sst rfl rfl rfl ti25 hb93 rfl rfl (ble rfl) fun w46 hch7 hb94 => ?_
                have k190 := Ext.chg k185 hch7 (Nat.le_trans k63.size (Nat.le_trans k137.size hg15))
                have k191 := Ext.chg k186 hch7 (Nat.le_trans k64.size (Nat.le_trans k137.size hg15))
                have k192 := Ext.chg k187 hch7 (Nat.le_trans k65.size (Nat.le_trans k137.size hg15))
                have k193 := Ext.chg k188 hch7 (Nat.le_trans hx18.size (Nat.le_trans k137.size hg15))
                have k194 := Ext.chg k189 hch7 (Nat.le_trans (Nat.le_refl _) (Nat.le_trans k137.size hg15))
                have hb95 := hb37.ext k194
                have r308 := r150.ext k194
                have r309 := r151.ext k194
                have r310 := r154.ext k194
                have r311 := r155.ext k194
                have r312 := r156.ext k194
                have o31 := o30.chgb hch7 (Nat.le_trans k133.size hg15) ne5
                have hb96 : Bx w46 b21 25 [.slice a1 x0.1.length cq1, .slice a23 x18.length cq23] := hb94
                refine nl ⟨fun _ _ => k194, ?_⟩
                cases hB1
                refine lf <| ?_
                exact ⟨_, rfl, ⟨_, _, rfl, (Nat.le_trans hx18.size (Nat.le_trans k137.size hg15)), hb96, ⟨[.slice a1 x0.1.length cq1], [.slice a23 x18.length cq23], rfl, r308.rep1, o31.rv.rep1⟩⟩, rfl, rfl, rfl, rfl, rfl, rfl, rfl, k193⟩
              trivial
            refine pm rfl ?_ ?_
            ·
              refine sal ti25 fun b22 w47 hx29 hg16 hb97 => ?_
              have k195 := k66.tr hx29
              have k196 := k67.tr hx29
              have k197 := k68.tr hx29
              have k198 := k69.tr hx29
              have k199 := hx19.tr hx29
              have hb98 := hb40.ext hx29
              have r313 := r158.ext hx29
              have r314 := r159.ext hx29
              have r315 := r160.ext hx29
              have r316 := r161.ext hx29
              have r317 := r162.ext hx29
              have r318 := r163.ext hx29
              have r319 := r164.ext hx29
              have o32 := o7.ext hx29
              refine nl ⟨fun _ _ => k199, ?_⟩
              refine pe rfl ?_ ?_
              ·
                refine sapdO (l := ([] : List ((List Int) × (List Int)))) (k := x0.2) rfl rfl Try.underlying23 ti57 rfl rfl o32 (ElsD.of (RVo.okoO (RVo.ext (RV.old (w := w0) r8) k195) (o32.geo k63.size))) Ex17 k199.size fun v21 w48 o33 hB13 hgr12 how12 => ?_
                have k200 := Ext.grow k195 k63.size hB13
                have k201 := Ext.grow k196 k64.size hB13
                have k202 := Ext.grow k197 k65.size hB13
                have k203 := Ext.grow k198 hx18.size hB13
                have k204 : Ext w21 w48 := k199.trans hB13
                have hb99 := hb37.ext k204
                have r320 := r150.ext k204
                have r321 := r151.ext k204
                have ne6 := ne_app how12 (o7.ne_new hg16) hb97.lt
                have hb100 := Bx.gr hb97 hgr12 (o7.ne_new hg16)
                have r322 := r154.ext k204
                have r323 := r155.ext k204
                have r324 := r156.ext k204
                have r325 := r152.ext k204
                have r326 := r153.ext k204
                have hz := RV.sl o33.rv; obtain ⟨a24, cq24, rfl, -, -, -⟩ := hz
                refine nl ⟨fun _ _ => k204, ?_⟩
                refine pe1 rfl <| sbsv (cs := [.slice a6 x4.1.length cq6, .slice a7 x4.2.length cq7]) Try.underlying23 ti57 rfl (pc rfl pn) rfl rfl rfl rfl rfl fun b23 w49 hx30 hg17 hb101 => ?_
                have k205 := k200.tr hx30
                have k206 := k201.tr hx30
                have k207 := k202.tr hx30
                have k208 := k203.tr hx30
                have k209 := k204.tr hx30
                have hb102 := hb99.ext hx30
                have r328 := r320.ext hx30
                have r329 := r321.ext hx30
                have hb103 := hb100.ext hx30
                have r330 := r322.ext hx30
                have r331 := r323.ext hx30
                have r332 := r324.ext hx30
                have o34 := o33.ext hx30
                have r333 := r325.ext hx30
                have r334 := r326.ext hx30
                have r327 : RV w49 (.slice (some ⟨b23, 0, none⟩) 1 1) ([(x4.1, x4.2)] : List ((List Int) × (List Int))) := RV.lit hb101 (css := [[.slice a6 x4.1.length cq6] ++ [.slice a7 x4.2.length cq7]]) rfl ⟨⟨[.slice a6 x4.1.length cq6], [.slice a7 x4.2.length cq7], rfl, r333.rep1, r334.rep1⟩, trivial⟩ rfl (ble rfl)
                refine nl ⟨fun _ _ => k209, ?_⟩
                refine pe1 rfl <| sapdO (l := x17) (k := ([(x4.1, x4.2)] : List ((List Int) × (List Int)))) rfl rfl Try.underlying23 ti57 rfl rfl o34 (ElsD.lit1 hb101 ⟨[.slice a6 x4.1.length cq6], [.slice a7 x4.2.length cq7], rfl, (RVo.rep1 (RVo.okoO (RVo.ext (RV.old (w := w0) r9) k205) (o34.geo k63.size))), (RVo.rep1 (RVo.okoO (RVo.ext (RV.old (w := w0) r10) k205) (o34.geo k63.size)))⟩) Ex18 k209.size fun v22 w50 o35 hB14 hgr13 how13 => ?_
                have k210 := Ext.grow k205 k63.size hB14
                have k211 := Ext.grow k206 k64.size hB14
                have k212 := Ext.grow k207 k65.size hB14
                have k213 := Ext.grow k208 hx18.size hB14
                have k214 : Ext w21 w50 := k209.trans hB14
                have hb104 := hb37.ext k214
                have r335 := r150.ext k214
                have r336 := r151.ext k214
                have ne7 := ne_app how13 ne6 hb103.lt
                have hb105 := Bx.gr hb103 hgr13 ne6
                have r337 := r154.ext k214
                have r338 := r155.ext k214
                have r339 := r156.ext k214
                have hz := RV.sl o35.rv; obtain ⟨a25, cq25, rfl, -, -, -⟩ := hz
                refine nl ⟨fun _ _ => k214, ?_⟩
                refine pv rfl rfl rfl (fun _ _ => xbdv (r := [.slice a1 x0.1.length cq1, .slice a25 x18.length cq25]) ti25 sp25 (pc rfl (pc rfl pn)) rfl) (.inl rfl) <| pe1 rfl <| sst rfl rfl rfl ti25 hb105 rfl rfl (ble rfl) fun w51 hch8 hb106 => ?_
                have k215 := Ext.chg k210 hch8 (Nat.le_trans k63.size (Nat.le_trans hx19.size hg16))
                have k216 := Ext.chg k211 hch8 (Nat.le_trans k64.size (Nat.le_trans hx19.size hg16))
                have k217 := Ext.chg k212 hch8 (Nat.le_trans k65.size (Nat.le_trans hx19.size hg16))
                have k218 := Ext.chg k213 hch8 (Nat.le_trans hx18.size (Nat.le_trans hx19.size hg16))
                have k219 := Ext.chg k214 hch8 (Nat.le_trans (Nat.le_refl _) (Nat.le_trans hx19.size hg16))
                have hb107 := hb37.ext k219
                have r340 := r150.ext k219
                have r341 := r151.ext k219
                have r342 := r154.ext k219
                have r343 := r155.ext k219
                have r344 := r156.ext k219
                have o36 := o35.chgb hch8 (Nat.le_trans k66.size hg16) ne7
                have hb108 : Bx w51 b22 25 [.slice a1 x0.1.length cq1, .slice a25 x18.length cq25] := hb106
                refine nl ⟨fun _ _ => k219, ?_⟩
                cases hB1
                refine lf <| ?_
                exact ⟨_, rfl, ⟨_, _, rfl, (Nat.le_trans hx18.size (Nat.le_trans hx19.size hg16)), hb108, ⟨[.slice a1 x0.1.length cq1], [.slice a25 x18.length cq25], rfl, r340.rep1, o36.rv.rep1⟩⟩, rfl, rfl, rfl, rfl, rfl, rfl, rfl, k218⟩
              refine pm rfl ?_ ?_
              ·
                refine sbsv (cs := [.slice a6 x4.1.length cq6, .slice a7 x4.2.length cq7]) Try.underlying23 ti57 rfl (pc rfl pn) rfl rfl rfl rfl rfl fun b24 w52 hx31 hg18 hb109 => ?_
                have k220 := k195.tr hx31
                have k221 := k196.tr hx31
                have k222 := k197.tr hx31
                have k223 := k198.tr hx31
                have k224 := k199.tr hx31
                have k225 := hx29.tr hx31
                have hb110 := hb98.ext hx31
                have r346 := r313.ext hx31
                have r347 := r314.ext hx31
                have hb111 := hb97.ext hx31
                have r348 := r315.ext hx31
                have r349 := r316.ext hx31
                have r350 := r317.ext hx31
                have o37 := o32.ext hx31
                have r351 := r318.ext hx31
                have r352 := r319.ext hx31
                have r345 : RV w52 (.slice (some ⟨b24, 0, none⟩) 1 1) ([(x4.1, x4.2)] : List ((List Int) × (List Int))) := RV.lit hb109 (css := [[.slice a6 x4.1.length cq6] ++ [.slice a7 x4.2.length cq7]]) rfl ⟨⟨[.slice a6 x4.1.length cq6], [.slice a7 x4.2.length cq7], rfl, r351.rep1, r352.rep1⟩, trivial⟩ rfl (ble rfl)
                refine nl ⟨fun _ _ => k224, ?_⟩
                refine pe1 rfl <| sapdO (l := ([] : List ((List Int) × (List Int)))) (k := x0.2) rfl rfl Try.underlying23 ti57 rfl rfl o37 (ElsD.of (RVo.okoO (RVo.ext (RV.old (w := w0) r8) k220) (o37.geo k63.size))) Ex17 k224.size fun v23 w53 o38 hB15 hgr14 how14 => ?_
                have k226 := Ext.grow k220 k63.size hB15
                have k227 := Ext.grow k221 k64.size hB15
                have k228 := Ext.grow k222 k65.size hB15
                have k229 := Ext.grow k223 hx18.size hB15
                have k230 : Ext w21 w53 := k224.trans hB15
                have hb112 := hb37.ext k230
                have r353 := r150.ext k230
                have r354 := r151.ext k230
                have ne8 := ne_app how14 (o7.ne_new hg16) hb111.lt
                have hb113 := Bx.gr hb111 hgr14 (o7.ne_new hg16)
                have r355 := r154.ext k230
                have r356 := r155.ext k230
                have r357 := r156.ext k230
                have hb114 := Bx.gr hb109 hgr14 (o32.ne_new hg18)
                have r358 := r152.ext k230
                have r359 := r153.ext k230
                have r360 : RV w53 (.slice (some ⟨b24, 0, none⟩) 1 1) ([(x4.1, x4.2)] : List ((List Int) × (List Int))) := RV.lit hb114 (css := [[.slice a6 x4.1.length cq6] ++ [.slice a7 x4.2.length cq7]]) rfl ⟨⟨[.slice a6 x4.1.length cq6], [.slice a7 x4.2.length cq7], rfl, r358.rep1, r359.rep1⟩, trivial⟩ rfl (ble rfl)
                have hz := RV.sl o38.rv; obtain ⟨a26, cq26, rfl, -, -, -⟩ := hz
                refine nl ⟨fun _ _ => k230, ?_⟩
                refine pe1 rfl <| sapdO (l := x17) (k := ([(x4.1, x4.2)] : List ((List Int) × (List Int)))) rfl rfl Try.underlying23 ti57 rfl rfl o38 (ElsD.lit1 hb114 ⟨[.slice a6 x4.1.length cq6], [.slice a7 x4.2.length cq7], rfl, (RVo.rep1 (RVo.okoO (RVo.ext (RV.old (w := w0) r9) k226) (o38.geo k63.size))), (RVo.rep1 (RVo.okoO (RVo.ext (RV.old (w := w0) r10) k226) (o38.geo k63.size)))⟩) Ex18 k230.size fun v24 w54 o39 hB16 hgr15 how15 => ?_
                have k231 := Ext.grow k226 k63.size hB16
                have k232 := Ext.grow k227 k64.size hB16
                have k233 := Ext.grow k228 k65.size hB16
                have k234 := Ext.grow k229 hx18.size hB16
                have k235 : Ext w21 w54 := k230.trans hB16
                have hb115 := hb37.ext k235
                have r361 := r150.ext k235
                have r362 := r151.ext k235
                have ne9 := ne_app how15 ne8 hb113.lt
                have hb116 := Bx.gr hb113 hgr15 ne8
                have r363 := r154.ext k235
                have r364 := r155.ext k235
                have r365 := r156.ext k235
                have hz := RV.sl o39.rv; obtain ⟨a27, cq27, rfl, -, -, -⟩ := hz
                refine nl ⟨fun _ _ => k235, ?_⟩
                refine pv rfl rfl rfl (fun _ _ => xbdv (r := [.slice a1 x0.1.length cq1, .slice a27 x18.length cq27]) ti25 sp25 (pc rfl (pc rfl pn)) rfl) (.inl rfl) <| pe1 rfl <| sst rfl rfl rfl ti25 hb116 rfl rfl (ble rfl) fun w55 hch9 hb117 => ?_
                have k236 := Ext.chg k231 hch9 (Nat.le_trans k63.size (Nat.le_trans hx19.size hg16))
                have k237 := Ext.chg k232 hch9 (Nat.le_trans k64.size (Nat.le_trans hx19.size hg16))
                have k238 := Ext.chg k233 hch9 (Nat.le_trans k65.size (Nat.le_trans hx19.size hg16))
                have k239 := Ext.chg k234 hch9 (Nat.le_trans hx18.size (Nat.le_trans hx19.size hg16))
                have k240 := Ext.chg k235 hch9 (Nat.le_trans (Nat.le_refl _) (Nat.le_trans hx19.size hg16))
                have hb118 := hb37.ext k240
                have r366 := r150.ext k240
                have r367 := r151.ext k240
                have r368 := r154.ext k240
                have r369 := r155.ext k240
                have r370 := r156.ext k240
                have o40 := o39.chgb hch9 (Nat.le_trans k66.size hg16) ne9
                have hb119 : Bx w55 b22 25 [.slice a1 x0.1.length cq1, .slice a27 x18.length cq27] := hb117
                refine nl ⟨fun _ _ => k240, ?_⟩
                cases hB1
                refine lf <| ?_
                exact ⟨_, rfl, ⟨_, _, rfl, (Nat.le_trans hx18.size (Nat.le_trans hx19.size hg16)), hb119, ⟨[.slice a1 x0.1.length cq1], [.slice a27 x18.length cq27], rfl, r366.rep1, o40.rv.rep1⟩⟩, rfl, rfl, rfl, rfl, rfl, rfl, rfl, k239⟩
              trivial
            trivial
          refine pm rfl ?_ ?_
          ·
            refine sbsv (cs := [.slice a6 x4.1.length cq6, .slice a7 x4.2.length cq7]) Try.underlying23 ti57 rfl (pc rfl pn) rfl rfl rfl rfl rfl fun b25 w56 hx32 hg19 hb120 => ?_
            have k241 := k63.tr hx32
            have k242 := k64.tr hx32
            have k243 := k65.tr hx32
            have k244 := hx18.tr hx32
            have hb121 := hb37.ext hx32
            have r372 := r150.ext hx32
            have r373 := r151.ext hx32
            have r374 := r154.ext hx32
            have r375 := r155.ext hx32
            have r376 := r156.ext hx32
            have r377 := r152.ext hx32
            have r378 := r153.ext hx32
            have r371 : RV w56 (.slice (some ⟨b25, 0, none⟩) 1 1) ([(x4.1, x4.2)] : List ((List Int) × (List Int))) := RV.lit hb120 (css := [[.slice a6 x4.1.length cq6] ++ [.slice a7 x4.2.length cq7]]) rfl ⟨⟨[.slice a6 x4.1.length cq6], [.slice a7 x4.2.length cq7], rfl, r377.rep1, r378.rep1⟩, trivial⟩ rfl (ble rfl)
            refine nl ⟨fun _ _ => hx32, ?_⟩
            refine pe rfl ?_ ?_
            ·
              refine sbsv (cs := []) Try.underlying23 ti57 rfl pn rfl rfl rfl rfl rfl fun b26 w57 hx33 hg20 hb122 => ?_
              have k245 := k241.tr hx33
              have k246 := k242.tr hx33
              have k247 := k243.tr hx33
              have k248 := k244.tr hx33
              have k249 := hx32.tr hx33
              have hb123 := hb121.ext hx33
              have r380 := r372.ext hx33
              have r381 := r373.ext hx33
              have r382 := r374.ext hx33
              have r383 := r375.ext hx33
              have r384 := r376.ext hx33
              have r385 := r371.ext hx33
              have hb124 := hb120.ext hx33
              have r386 := r377.ext hx33
              have r387 := r378.ext hx33
              have r379 : RV w57 (.slice (some ⟨b26, 0, none⟩) 0 0) ([] : List ((List Int) × (List Int))) := RV.lit hb122 (css := []) rfl trivial rfl (ble rfl)
              have o41 : DRowO (α := ((List Int) × (List Int))) w0.heap.size 57 w56.heap.size w57 (.slice (some ⟨b26, 0, none⟩) 0 0) [] := ⟨[], Row.lit hg20 hb122 rfl (ble rfl), rfl, by simp⟩
              refine nl ⟨fun _ _ => k249, ?_⟩
              refine pe rfl ?_ ?_
              ·
                refine sapdO (l := ([] : List ((List Int) × (List Int)))) (k := x0.2) rfl rfl Try.underlying23 ti57 rfl rfl o41 (ElsD.of (RVo.okoO (RVo.ext (RV.old (w := w0) r8) k245) (o41.geo k241.size))) Ex17 hx33.size fun v25 w58 o42 hB17 hgr16 how16 => ?_
                have k250 := Ext.grow k245 k241.size hB17
                have k251 := Ext.grow k246 k242.size hB17
                have k252 := Ext.grow k247 k243.size hB17
                have k253 := Ext.grow k248 k244.size hB17
                have k254 := Ext.grow k249 hx32.size hB17
                have k255 : Ext w56 w58 := hx33.trans hB17
                have hb125 := hb121.ext k255
                have r388 := r372.ext k255
                have r389 := r373.ext k255
                have r390 := r374.ext k255
                have r391 := r375.ext k255
                have r392 := r376.ext k255
                have r393 := r371.ext k255
                have hb126 := hb120.ext k255
                have r394 := r377.ext k255
                have r395 := r378.ext k255
                have hz := RV.sl o42.rv; obtain ⟨a28, cq28, rfl, -, -, -⟩ := hz
                refine nl ⟨fun _ _ => k254, ?_⟩
                refine pe rfl ?_ ?_
                ·
                  refine sapdO (l := x17) (k := ([(x4.1, x4.2)] : List ((List Int) × (List Int)))) rfl rfl Try.underlying23 ti57 rfl rfl o42 (ElsD.lit1 hb126 ⟨[.slice a6 x4.1.length cq6], [.slice a7 x4.2.length cq7], rfl, (RVo.rep1 (RVo.okoO (RVo.ext (RV.old (w := w0) r9) k250) (o42.geo k241.size))), (RVo.rep1 (RVo.okoO (RVo.ext (RV.old (w := w0) r10) k250) (o42.geo k241.size)))⟩) Ex18 k255.size fun v26 w59 o43 hB18 hgr17 how17 => ?_
                  have k256 := Ext.grow k250 k241.size hB18
                  have k257 := Ext.grow k251 k242.size hB18
                  have k258 := Ext.grow k252 k243.size hB18
                  have k259 := Ext.grow k253 k244.size hB18
                  have k260 := Ext.grow k254 hx32.size hB18
                  have k261 : Ext w56 w59 := k255.trans hB18
                  have hb127 := hb121.ext k261
                  have r396 := r372.ext k261
                  have r397 := r373.ext k261
                  have r398 := r374.ext k261
                  have r399 := r375.ext k261
                  have r400 := r376.ext k261
                  have hz := RV.sl o43.rv; obtain ⟨a29, cq29, rfl, -, -, -⟩ := hz
                  refine nl ⟨fun _ _ => k260, ?_⟩
                  refine pv rfl rfl rfl (fun _ _ => xbdv (r := [.slice a1 x0.1.length cq1, .slice a29 x18.length cq29]) ti25 sp25 (pc rfl (pc rfl pn)) rfl) (.inl rfl) <| pe1 rfl <| sal ti25 fun b27 w60 hx34 hg21 hb128 => ?_
                  have k262 := k256.tr hx34
                  have k263 := k257.tr hx34
                  have k264 := k258.tr hx34
                  have k265 := k259.tr hx34
                  have k266 := k260.tr hx34
                  have k267 := k261.tr hx34
                  have hb129 := hb127.ext hx34
                  have r401 := r396.ext hx34
                  have r402 := r397.ext hx34
                  have r403 := r398.ext hx34
                  have r404 := r399.ext hx34
                  have r405 := r400.ext hx34
                  have o44 := o43.ext hx34
                  refine nl ⟨fun _ _ => k266, ?_⟩
                  refine pe1 rfl <| sst rfl rfl rfl ti25 hb128 rfl rfl (ble rfl) fun w61 hch10 hb130 => ?_
                  have k268 := Ext.chg k262 hch10 (Nat.le_trans k256.size hg21)
                  have k269 := Ext.chg k263 hch10 (Nat.le_trans k257.size hg21)
                  have k270 := Ext.chg k264 hch10 (Nat.le_trans k258.size hg21)
                  have k271 := Ext.chg k265 hch10 (Nat.le_trans k259.size hg21)
                  have k272 := Ext.chg k266 hch10 (Nat.le_trans k260.size hg21)
                  have k273 := Ext.chg k267 hch10 (Nat.le_trans k261.size hg21)
                  have k274 := Ext.chg hx34 hch10 (Nat.le_trans (Nat.le_refl _) hg21)
                  have hb131 := hb127.ext k274
                  have r406 := r396.ext k274
                  have r407 := r397.ext k274
                  have r408 := r398.ext k274
                  have r409 := r399.ext k274
                  have r410 := r400.ext k274
                  have o45 := o43.ext k274
                  have hb132 : Bx w61 b27 25 [.slice a1 x0.1.length cq1, .slice a29 x18.length cq29] := hb130
                  refine nl ⟨fun _ _ => k272, ?_⟩
                  cases hB1
                  refine lf <| ?_
                  exact ⟨_, rfl, ⟨_, _, rfl, (Nat.le_trans k259.size hg21), hb132, ⟨[.slice a1 x0.1.length cq1], [.slice a29 x18.length cq29], rfl, r406.rep1, o45.rv.rep1⟩⟩, rfl, rfl, rfl, rfl, rfl, rfl, rfl, k271⟩
                refine pm rfl ?_ ?_
                ·
                  refine sal ti25 fun b28 w62 hx35 hg22 hb133 => ?_
                  have k275 := k250.tr hx35
                  have k276 := k251.tr hx35
                  have k277 := k252.tr hx35
                  have k278 := k253.tr hx35
                  have k279 := k254.tr hx35
                  have k280 := k255.tr hx35
                  have hb134 := hb125.ext hx35
                  have r411 := r388.ext hx35
                  have r412 := r389.ext hx35
                  have r413 := r390.ext hx35
                  have r414 := r391.ext hx35
                  have r415 := r392.ext hx35
                  have r416 := r393.ext hx35
                  have hb135 := hb126.ext hx35
                  have r417 := r394.ext hx35
                  have r418 := r395.ext hx35
                  have o46 := o42.ext hx35
                  refine nl ⟨fun _ _ => k279, ?_⟩
                  refine pe1 rfl <| sapdO (l := x17) (k := ([(x4.1, x4.2)] : List ((List Int) × (List Int)))) rfl rfl Try.underlying23 ti57 rfl rfl o46 (ElsD.lit1 hb135 ⟨[.slice a6 x4.1.length cq6], [.slice a7 x4.2.length cq7], rfl, (RVo.rep1 (RVo.okoO (RVo.ext (RV.old (w := w0) r9) k275) (o46.geo k241.size))), (RVo.rep1 (RVo.okoO (RVo.ext (RV.old (w := w0) r10) k275) (o46.geo k241.size)))⟩) Ex18 k280.size fun v27 w63 o47 hB19 hgr18 how18 => ?_
                  have k281 := Ext.grow k275 k241.size hB19
                  have k282 := Ext.grow k276 k242.size hB19
                  have k283 := Ext.grow k277 k243.size hB19
                  have k284 := Ext.grow k278 k244.size hB19
                  have k285 := Ext.grow k279 hx32.size hB19
                  have k286 : Ext w56 w63 := k280.trans hB19
                  have hb136 := hb121.ext k286
                  have r419 := r372.ext k286
                  have r420 := r373.ext k286
                  have ne10 := ne_app how18 (o42.ne_new hg22) hb133.lt
                  have hb137 := Bx.gr hb133 hgr18 (o42.ne_new hg22)
                  have r421 := r374.ext k286
                  have r422 := r375.ext k286
                  have r423 := r376.ext k286
                  have hz := RV.sl o47.rv; obtain ⟨a30, cq30, rfl, -, -, -⟩ := hz
                  refine nl ⟨fun _ _ => k285, ?_⟩
                  refine pv rfl rfl rfl (fun _ _ => xbdv (r := [.slice a1 x0.1.length cq1, .slice a30 x18.length cq30]) ti25 sp25 (pc rfl (pc rfl pn)) rfl) (.inl rfl) <| pe1 rfl <| sst rfl rfl rfl ti25 hb137 rfl rfl (ble rfl) fun w64 hch11 hb138 => ?_
                  have k287 := Ext.chg k281 hch11 (Nat.le_trans k241.size (Nat.le_trans k255.size hg22))
                  have k288 := Ext.chg k282 hch11 (Nat.le_trans k242.size (Nat.le_trans k255.size hg22))
                  have k289 := Ext.chg k283 hch11 (Nat.le_trans k243.size (Nat.le_trans k255.size hg22))
                  have k290 := Ext.chg k284 hch11 (Nat.le_trans k244.size (Nat.le_trans k255.size hg22))
                  have k291 := Ext.chg k285 hch11 (Nat.le_trans hx32.size (Nat.le_trans k255.size hg22))
                  have k292 := Ext.chg k286 hch11 (Nat.le_trans (Nat.le_refl _) (Nat.le_trans k255.size hg22))
                  have hb139 := hb121.ext k292
                  have r424 := r372.ext k292
                  have r425 := r373.ext k292
                  have r426 := r374.ext k292
                  have r427 := r375.ext k292
                  have r428 := r376.ext k292
                  have o48 := o47.chgb hch11 (Nat.le_trans k250.size hg22) ne10
                  have hb140 : Bx w64 b28 25 [.slice a1 x0.1.length cq1, .slice a30 x18.length cq30] := hb138
                  refine nl ⟨fun _ _ => k291, ?_⟩
                  cases hB1
                  refine lf <| ?_
                  exact ⟨_, rfl, ⟨_, _, rfl, (Nat.le_trans k244.size (Nat.le_trans k255.size hg22)), hb140, ⟨[.slice a1 x0.1.length cq1], [.slice a30 x18.length cq30], rfl, r424.rep1, o48.rv.rep1⟩⟩, rfl, rfl, rfl, rfl, rfl, rfl, rfl, k290⟩
                trivial
              refine pm rfl ?_ ?_
              ·
                refine sal ti25 fun b29 w65 hx36 hg23 hb141 => ?_
                have k293 := k245.tr hx36
                have k294 := k246.tr hx36
                have k295 := k247.tr hx36
                have k296 := k248.tr hx36
                have k297 := k249.tr hx36
                have k298 := hx33.tr hx36
                have hb142 := hb123.ext hx36
                have r429 := r380.ext hx36
                have r430 := r381.ext hx36
                have r431 := r382.ext hx36
                have r432 := r383.ext hx36
                have r433 := r384.ext hx36
                have r434 := r385.ext hx36
                have hb143 := hb124.ext hx36
                have r435 := r386.ext hx36
                have r436 := r387.ext hx36
                have o49 := o41.ext hx36
                refine nl ⟨fun _ _ => k297, ?_⟩
                refine pe1 rfl <| sapdO (l := ([] : List ((List Int) × (List Int)))) (k := x0.2) rfl rfl Try.underlying23 ti57 rfl rfl o49 (ElsD.of (RVo.okoO (RVo.ext (RV.old (w := w0) r8) k293) (o49.geo k241.size))) Ex17 k298.size fun v28 w66 o50 hB20 hgr19 how19 => ?_
                have k299 := Ext.grow k293 k241.size hB20
                have k300 := Ext.grow k294 k242.size hB20
                have k301 := Ext.grow k295 k243.size hB20
                have k302 := Ext.grow k296 k244.size hB20
                have k303 := Ext.grow k297 hx32.size hB20
                have k304 : Ext w56 w66 := k298.trans hB20
                have hb144 := hb121.ext k304
                have r437 := r372.ext k304
                have r438 := r373.ext k304
                have ne11 := ne_app how19 (o41.ne_new hg23) hb141.lt
                have hb145 := Bx.gr hb141 hgr19 (o41.ne_new hg23)
                have r439 := r374.ext k304
                have r440 := r375.ext k304
                have r441 := r376.ext k304
                have r442 := r371.ext k304
                have hb146 := hb120.ext k304
                have r443 := r377.ext k304
                have r444 := r378.ext k304
                have hz := RV.sl o50.rv; obtain ⟨a31, cq31, rfl, -, -, -⟩ := hz
                refine nl ⟨fun _ _ => k303, ?_⟩
                refine pe1 rfl <| sapdO (l := x17) (k := ([(x4.1, x4.2)] : List ((List Int) × (List Int)))) rfl rfl Try.underlying23 ti57 rfl rfl o50 (ElsD.lit1 hb146 ⟨[.slice a6 x4.1.length cq6], [.slice a7 x4.2.length cq7], rfl, (RVo.rep1 (RVo.okoO (RVo.ext (RV.old (w := w0) r9) k299) (o50.geo k241.size))), (RVo.rep1 (RVo.okoO (RVo.ext (RV.old (w := w0) r10) k299) (o50.geo k241.size)))⟩) Ex18 k304.size fun v29 w67 o51 hB21 hgr20 how20 => ?_
                have k305 := Ext.grow k299 k241.size hB21
                have k306 := Ext.grow k300 k242.size hB21
                have k307 := Ext.grow k301 k243.size hB21
                have k308 := Ext.grow k302 k244.size hB21
                have k309 := Ext.grow k303 hx32.size hB21
                have k310 : Ext w56 w67 := k304.trans hB21
                have hb147 := hb121.ext k310
                have r445 := r372.ext k310
                have r446 := r373.ext k310
                have ne12 := ne_app how20 ne11 hb145.lt
                have hb148 := Bx.gr hb145 hgr20 ne11
                have r447 := r374.ext k310
                have r448 := r375.ext k310
                have r449 := r376.ext k310
                have hz := RV.sl o51.rv; obtain ⟨a32, cq32, rfl, -, -, -⟩ := hz
                refine nl ⟨fun _ _ => k309, ?_⟩
                refine pv rfl rfl rfl (fun _ _ => xbdv (r := [.slice a1 x0.1.length cq1, .slice a32 x18.length cq32]) ti25 sp25 (pc rfl (pc rfl pn)) rfl) (.inl rfl) <| pe1 rfl <| sst rfl rfl rfl ti25 hb148 rfl rfl (ble rfl) fun w68 hch12 hb149 => ?_
                have k311 := Ext.chg k305 hch12 (Nat.le_trans k241.size (Nat.le_trans hx33.size hg23))
                have k312 := Ext.chg k306 hch12 (Nat.le_trans k242.size (Nat.le_trans hx33.size hg23))
                have k313 := Ext.chg k307 hch12 (Nat.le_trans k243.size (Nat.le_trans hx33.size hg23))
                have k314 := Ext.chg k308 hch12 (Nat.le_trans k244.size (Nat.le_trans hx33.size hg23))
                have k315 := Ext.chg k309 hch12 (Nat.le_trans hx32.size (Nat.le_trans hx33.size hg23))
                have k316 := Ext.chg k310 hch12 (Nat.le_trans (Nat.le_refl _) (Nat.le_trans hx33.size hg23))
                have hb150 := hb121.ext k316
                have r450 := r372.ext k316
                have r451 := r373.ext k316
                have r452 := r374.ext k316
                have r453 := r375.ext k316
                have r454 := r376.ext k316
                have o52 := o51.chgb hch12 (Nat.le_trans k245.size hg23) ne12
                have hb151 : Bx w68 b29 25 [.slice a1 x0.1.length cq1, .slice a32 x18.length cq32] := hb149
                refine nl ⟨fun _ _ => k315, ?_⟩
                cases hB1
                refine lf <| ?_
                exact ⟨_, rfl, ⟨_, _, rfl, (Nat.le_trans k244.size (Nat.le_trans hx33.size hg23)), hb151, ⟨[.slice a1 x0.1.length cq1], [.slice a32 x18.length cq32], rfl, r450.rep1, o52.rv.rep1⟩⟩, rfl, rfl, rfl, rfl, rfl, rfl, rfl, k314⟩
              trivial
            refine pm rfl ?_ ?_
            ·
              refine sal ti25 fun b30 w69 hx37 hg24 hb152 => ?_
              have k317 := k241.tr hx37
              have k318 := k242.tr hx37
              have k319 := k243.tr hx37
              have k320 := k244.tr hx37
              have k321 := hx32.tr hx37
              have hb153 := hb121.ext hx37
              have r455 := r372.ext hx37
              have r456 := r373.ext hx37
              have r457 := r374.ext hx37
              have r458 := r375.ext hx37
              have r459 := r376.ext hx37
              have r460 := r371.ext hx37
              have hb154 := hb120.ext hx37
              have r461 := r377.ext hx37
              have r462 := r378.ext hx37
              refine nl ⟨fun _ _ => k321, ?_⟩
              refine pe1 rfl <| sbsv (cs := []) Try.underlying23 ti57 rfl pn rfl rfl rfl rfl rfl fun b31 w70 hx38 hg25 hb155 => ?_
              have k322 := k317.tr hx38
              have k323 := k318.tr hx38
              have k324 := k319.tr hx38
              have k325 := k320.tr hx38
              have k326 := k321.tr hx38
              have k327 := hx37.tr hx38
              have hb156 := hb153.ext hx38
              have r464 := r455.ext hx38
              have r465 := r456.ext hx38
              have hb157 := hb152.ext hx38
              have r466 := r457.ext hx38
              have r467 := r458.ext hx38
              have r468 := r459.ext hx38
              have r469 := r460.ext hx38
              have hb158 := hb154.ext hx38
              have r470 := r461.ext hx38
              have r471 := r462.ext hx38
              have r463 : RV w70 (.slice (some ⟨b31, 0, none⟩) 0 0) ([] : List ((List Int) × (List Int))) := RV.lit hb155 (css := []) rfl trivial rfl (ble rfl)
              have o53 : DRowO (α := ((List Int) × (List Int))) w0.heap.size 57 w69.heap.size w70 (.slice (some ⟨b31, 0, none⟩) 0 0) [] := ⟨[], Row.lit hg25 hb155 rfl (ble rfl), rfl, by simp⟩
              refine nl ⟨fun _ _ => k326, ?_⟩
              refine pe1 rfl <| sapdO (l := ([] : List ((List Int) × (List Int)))) (k := x0.2) rfl rfl Try.underlying23 ti57 rfl rfl o53 (ElsD.of (RVo.okoO (RVo.ext (RV.old (w := w0) r8) k322) (o53.geo k317.size))) Ex17 hx38.size fun v30 w71 o54 hB22 hgr21 how21 => ?_
              have k328 := Ext.grow k322 k317.size hB22
              have k329 := Ext.grow k323 k318.size hB22
              have k330 := Ext.grow k324 k319.size hB22
              have k331 := Ext.grow k325 k320.size hB22
              have k332 := Ext.grow k326 k321.size hB22
              have k333 := Ext.grow k327 hx37.size hB22
              have k334 : Ext w69 w71 := hx38.trans hB22
              have hb159 := hb153.ext k334
              have r472 := r455.ext k334
              have r473 := r456.ext k334
              have hb160 := hb152.ext k334
              have r474 := r457.ext k334
              have r475 := r458.ext k334
              have r476 := r459.ext k334
              have r477 := r460.ext k334
              have hb161 := hb154.ext k334
              have r478 := r461.ext k334
              have r479 := r462.ext k334
              have hz := RV.sl o54.rv; obtain ⟨a33, cq33, rfl, -, -, -⟩ := hz
              refine nl ⟨fun _ _ => k332, ?_⟩
              refine pe1 rfl <| sapdO (l := x17) (k := ([(x4.1, x4.2)] : List ((List Int) × (List Int)))) rfl rfl Try.underlying23 ti57 rfl rfl o54 (ElsD.lit1 hb161 ⟨[.slice a6 x4.1.length cq6], [.slice a7 x4.2.length cq7], rfl, (RVo.rep1 (RVo.okoO (RVo.ext (RV.old (w := w0) r9) k328) (o54.geo k317.size))), (RVo.rep1 (RVo.okoO (RVo.ext (RV.old (w := w0) r10) k328) (o54.geo k317.size)))⟩) Ex18 k334.size fun v31 w72 o55 hB23 hgr22 how22 => ?_
              have k335 := Ext.grow k328 k317.size hB23
              have k336 := Ext.grow k329 k318.size hB23
              have k337 := Ext.grow k330 k319.size hB23
              have k338 := Ext.grow k331 k320.size hB23
              have k339 := Ext.grow k332 k321.size hB23
              have k340 := Ext.grow k333 hx37.size hB23
              have k341 : Ext w69 w72 := k334.trans hB23
              have hb162 := hb153.ext k341
              have r480 := r455.ext k341
              have r481 := r456.ext k341
              have hb163 := hb152.ext k341
              have r482 := r457.ext k341
              have r483 := r458.ext k341
              have r484 := r459.ext k341
              have hz := RV.sl o55.rv; obtain ⟨a34, cq34, rfl, -, -, -⟩ := hz
              refine nl ⟨fun _ _ => k339, ?_⟩
              refine pv rfl rfl rfl (fun _ _ => xbdv (r := [.slice a1 x0.1.length cq1, .slice a34 x18.length cq34]) ti25 sp25 (pc rfl (pc rfl pn)) rfl) (.inl rfl) <| pe1 rfl <| sst rfl rfl rfl ti25 hb163 rfl rfl (ble rfl) fun w73 hch13 hb164 => ?_
              have k342 := Ext.chg k335 hch13 (Nat.le_trans k241.size hg24)
              have k343 := Ext.chg k336 hch13 (Nat.le_trans k242.size hg24)
              have k344 := Ext.chg k337 hch13 (Nat.le_trans k243.size hg24)
              have k345 := Ext.chg k338 hch13 (Nat.le_trans k244.size hg24)
              have k346 := Ext.chg k339 hch13 (Nat.le_trans hx32.size hg24)
              have k347 := Ext.chg k340 hch13 (Nat.le_trans (Nat.le_refl _) hg24)
              have hb165 := hb121.ext k347
              have r485 := r372.ext k347
              have r486 := r373.ext k347
              have r487 := r374.ext k347
              have r488 := r375.ext k347
              have r489 := r376.ext k347
              have o56 := o55.chgo hch13 (Nat.le_trans k241.size hg24) hb152.lt
              have hb166 : Bx w73 b30 25 [.slice a1 x0.1.length cq1, .slice a34 x18.length cq34] := hb164
              refine nl ⟨fun _ _ => k346, ?_⟩
              cases hB1
              refine lf <| ?_
              exact ⟨_, rfl, ⟨_, _, rfl, (Nat.le_trans k244.size hg24), hb166, ⟨[.slice a1 x0.1.length cq1], [.slice a34 x18.length cq34], rfl, r485.rep1, o56.rv.rep1⟩⟩, rfl, rfl, rfl, rfl, rfl, rfl, rfl, k345⟩
            trivial
          refine pm rfl ?_ ?_
          ·
            refine sal ti25 fun b32 w74 hx39 hg26 hb167 => ?_
            have k348 := k63.tr hx39
            have k349 := k64.tr hx39
            have k350 := k65.tr hx39
            have k351 := hx18.tr hx39
            have hb168 := hb37.ext hx39
            have r490 := r150.ext hx39
            have r491 := r151.ext hx39
            have r492 := r154.ext hx39
            have r493 := r155.ext hx39
            have r494 := r156.ext hx39
            have r495 := r152.ext hx39
            have r496 := r153.ext hx39
            refine nl ⟨fun _ _ => hx39, ?_⟩
            refine pe rfl ?_ ?_
            ·
              refine sbsv (cs := []) Try.underlying23 ti57 rfl pn rfl rfl rfl rfl rfl fun b33 w75 hx40 hg27 hb169 => ?_
              have k352 := k348.tr hx40
              have k353 := k349.tr hx40
              have k354 := k350.tr hx40
              have k355 := k351.tr hx40
              have k356 := hx39.tr hx40
              have hb170 := hb168.ext hx40
              have r498 := r490.ext hx40
              have r499 := r491.ext hx40
              have hb171 := hb167.ext hx40
              have r500 := r492.ext hx40
              have r501 := r493.ext hx40
              have r502 := r494.ext hx40
              have r503 := r495.ext hx40
              have r504 := r496.ext hx40
              have r497 : RV w75 (.slice (some ⟨b33, 0, none⟩) 0 0) ([] : List ((List Int) × (List Int))) := RV.lit hb169 (css := []) rfl trivial rfl (ble rfl)
              have o57 : DRowO (α := ((List Int) × (List Int))) w0.heap.size 57 w74.heap.size w75 (.slice (some ⟨b33, 0, none⟩) 0 0) [] := ⟨[], Row.lit hg27 hb169 rfl (ble rfl), rfl, by simp⟩
              refine nl ⟨fun _ _ => k356, ?_⟩
              refine pe rfl ?_ ?_
              ·
                refine sapdO (l := ([] : List ((List Int) × (List Int)))) (k := x0.2) rfl rfl Try.underlying23 ti57 rfl rfl o57 (ElsD.of (RVo.okoO (RVo.ext (RV.old (w := w0) r8) k352) (o57.geo k348.size))) Ex17 hx40.size fun v32 w76 o58 hB24 hgr23 how23 => ?_
                have k357 := Ext.grow k352 k348.size hB24
                have k358 := Ext.grow k353 k349.size hB24
                have k359 := Ext.grow k354 k350.size hB24
                have k360 := Ext.grow k355 k351.size hB24
                have k361 := Ext.grow k356 hx39.size hB24
                have k362 : Ext w74 w76 := hx40.trans hB24
                have hb172 := hb168.ext k362
                have r505 := r490.ext k362
                have r506 := r491.ext k362
                have hb173 := hb167.ext k362
                have r507 := r492.ext k362
                have r508 := r493.ext k362
                have r509 := r494.ext k362
                have r510 := r495.ext k362
                have r511 := r496.ext k362
                have hz := RV.sl o58.rv; obtain ⟨a35, cq35, rfl, -, -, -⟩ := hz
                refine nl ⟨fun _ _ => k361, ?_⟩
                refine pe1 rfl <| sbsv (cs := [.slice a6 x4.1.length cq6, .slice a7 x4.2.length cq7]) Try.underlying23 ti57 rfl (pc rfl pn) rfl rfl rfl rfl rfl fun b34 w77 hx41 hg28 hb174 => ?_
                have k363 := k357.tr hx41
                have k364 := k358.tr hx41
                have k365 := k359.tr hx41
                have k366 := k360.tr hx41
                have k367 := k361.tr hx41
                have k368 := k362.tr hx41
                have hb175 := hb172.ext hx41
                have r513 := r505.ext hx41
                have r514 := r506.ext hx41
                have hb176 := hb173.ext hx41
                have r515 := r507.ext hx41
                have r516 := r508.ext hx41
                have r517 := r509.ext hx41
                have o59 := o58.ext hx41
                have r518 := r510.ext hx41
                have r519 := r511.ext hx41
                have r512 : RV w77 (.slice (some ⟨b34, 0, none⟩) 1 1) ([(x4.1, x4.2)] : List ((List Int) × (List Int))) := RV.lit hb174 (css := [[.slice a6 x4.1.length cq6] ++ [.slice a7 x4.2.length cq7]]) rfl ⟨⟨[.slice a6 x4.1.length cq6], [.slice a7 x4.2.length cq7], rfl, r518.rep1, r519.rep1⟩, trivial⟩ rfl (ble rfl)
                refine nl ⟨fun _ _ => k367, ?_⟩
                refine pe1 rfl <| sapdO (l := x17) (k := ([(x4.1, x4.2)] : List ((List Int) × (List Int)))) rfl rfl Try.underlying23 ti57 rfl rfl o59 (ElsD.lit1 hb174 ⟨[.slice a6 x4.1.length cq6], [.slice a7 x4.2.length cq7], rfl, (RVo.rep1 (RVo.okoO (RVo.ext (RV.old (w := w0) r9) k363) (o59.geo k348.size))), (RVo.rep1 (RVo.okoO (RVo.ext (RV.old (w := w0) r10) k363) (o59.geo k348.size)))⟩) Ex18 k368.size fun v33 w78 o60 hB25 hgr24 how24 => ?_
                have k369 := Ext.grow k363 k348.size hB25
                have k370 := Ext.grow k364 k349.size hB25
                have k371 := Ext.grow k365 k350.size hB25
                have k372 := Ext.grow k366 k351.size hB25
                have k373 := Ext.grow k367 hx39.size hB25
                have k374 : Ext w74 w78 := k368.trans hB25
                have hb177 := hb168.ext k374
                have r520 := r490.ext k374
                have r521 := r491.ext k374
                have hb178 := hb167.ext k374
                have r522 := r492.ext k374
                have r523 := r493.ext k374
                have r524 := r494.ext k374
                have hz := RV.sl o60.rv; obtain ⟨a36, cq36, rfl, -, -, -⟩ := hz
                refine nl ⟨fun _ _ => k373, ?_⟩
                refine pv rfl rfl rfl (fun _ _ => xbdv (r := [.slice a1 x0.1.length cq1, .slice a36 x18.length cq36]) ti25 sp25 (pc rfl (pc rfl pn)) rfl) (.inl rfl) <| pe1 rfl <| sst rfl rfl rfl ti25 hb178 rfl rfl (ble rfl) fun w79 hch14 hb179 => ?_
                have k375 := Ext.chg k369 hch14 (Nat.le_trans k63.size hg26)
                have k376 := Ext.chg k370 hch14 (Nat.le_trans k64.size hg26)
                have k377 := Ext.chg k371 hch14 (Nat.le_trans k65.size hg26)
                have k378 := Ext.chg k372 hch14 (Nat.le_trans hx18.size hg26)
                have k379 := Ext.chg k373 hch14 (Nat.le_trans (Nat.le_refl _) hg26)
                have hb180 := hb37.ext k379
                have r525 := r150.ext k379
                have r526 := r151.ext k379
                have r527 := r154.ext k379
                have r528 := r155.ext k379
                have r529 := r156.ext k379
                have o61 := o60.chgo hch14 (Nat.le_trans k63.size hg26) hb167.lt
                have hb181 : Bx w79 b32 25 [.slice a1 x0.1.length cq1, .slice a36 x18.length cq36] := hb179
                refine nl ⟨fun _ _ => k379, ?_⟩
                cases hB1
                refine lf <| ?_
                exact ⟨_, rfl, ⟨_, _, rfl, (Nat.le_trans hx18.size hg26), hb181, ⟨[.slice a1 x0.1.length cq1], [.slice a36 x18.length cq36], rfl, r525.rep1, o61.rv.rep1⟩⟩, rfl, rfl, rfl, rfl, rfl, rfl, rfl, k378⟩
              refine pm rfl ?_ ?_
              ·
                refine sbsv (cs := [.slice a6 x4.1.length cq6, .slice a7 x4.2.length cq7]) Try.underlying23 ti57 rfl (pc rfl pn) rfl rfl rfl rfl rfl fun b35 w80 hx42 hg29 hb182 => ?_
                have k380 := k352.tr hx42
                have k381 := k353.tr hx42
                have k382 := k354.tr hx42
                have k383 := k355.tr hx42
                have k384 := k356.tr hx42
                have k385 := hx40.tr hx42
                have hb183 := hb170.ext hx42
                have r531 := r498.ext hx42
                have r532 := r499.ext hx42
                have hb184 := hb171.ext hx42
                have r533 := r500.ext hx42
                have r534 := r501.ext hx42
                have r535 := r502.ext hx42
                have o62 := o57.ext hx42
                have r536 := r503.ext hx42
                have r537 := r504.ext hx42
                have r530 : RV w80 (.slice (some ⟨b35, 0, none⟩) 1 1) ([(x4.1, x4.2)] : List ((List Int) × (List Int))) := RV.lit hb182 (css := [[.slice a6 x4.1.length cq6] ++ [.slice a7 x4.2.length cq7]]) rfl ⟨⟨[.slice a6 x4.1.length cq6], [.slice a7 x4.2.length cq7], rfl, r536.rep1, r537.rep1⟩, trivial⟩ rfl (ble rfl)
                refine nl ⟨fun _ _ => k384, ?_⟩
                refine pe1 rfl <| sapdO (l := ([] : List ((List Int) × (List Int)))) (k := x0.2) rfl rfl Try.underlying23 ti57 rfl rfl o62 (ElsD.of (RVo.okoO (RVo.ext (RV.old (w := w0) r8) k380) (o62.geo k348.size))) Ex17 k385.size fun v34 w81 o63 hB26 hgr25 how25 => ?_
                have k386 := Ext.grow k380 k348.size hB26
                have k387 := Ext.grow k381 k349.size hB26
                have k388 := Ext.grow k382 k350.size hB26
                have k389 := Ext.grow k383 k351.size hB26
                have k390 := Ext.grow k384 hx39.size hB26
                have k391 : Ext w74 w81 := k385.trans hB26
                have hb185 := hb168.ext k391
                have r538 := r490.ext k391
                have r539 := r491.ext k391
                have hb186 := hb167.ext k391
                have r540 := r492.ext k391
                have r541 := r493.ext k391
                have r542 := r494.ext k391
                have hb187 := Bx.gr hb182 hgr25 (o57.ne_new hg29)
                have r543 := r495.ext k391
                have r544 := r496.ext k391
                have r545 : RV w81 (.slice (some ⟨b35, 0, none⟩) 1 1) ([(x4.1, x4.2)] : List ((List Int) × (List Int))) := RV.lit hb187 (css := [[.slice a6 x4.1.length cq6] ++ [.slice a7 x4.2.length cq7]]) rfl ⟨⟨[.slice a6 x4.1.length cq6], [.slice a7 x4.2.length cq7], rfl, r543.rep1, r544.rep1⟩, trivial⟩ rfl (ble rfl)
                have hz := RV.sl o63.rv; obtain ⟨a37, cq37, rfl, -, -, -⟩ := hz
                refine nl ⟨fun _ _ => k390, ?_⟩
                refine pe1 rfl <| sapdO (l := x17) (k := ([(x4.1, x4.2)] : List ((List Int) × (List Int)))) rfl rfl Try.underlying23 ti57 rfl rfl o63 (ElsD.lit1 hb187 ⟨[.slice a6 x4.1.length cq6], [.slice a7 x4.2.length cq7], rfl, (RVo.rep1 (RVo.okoO (RVo.ext (RV.old (w := w0) r9) k386) (o63.geo k348.size))), (RVo.rep1 (RVo.okoO (RVo.ext (RV.old (w := w0) r10) k386) (o63.geo k348.size)))⟩) Ex18 k391.size fun v35 w82 o64 hB27 hgr26 how26 => ?_
                have k392 := Ext.grow k386 k348.size hB27
                have k393 := Ext.grow k387 k349.size hB27
                have k394 := Ext.grow k388 k350.size hB27
                have k395 := Ext.grow k389 k351.size hB27
                have k396 := Ext.grow k390 hx39.size hB27
                have k397 : Ext w74 w82 := k391.trans hB27
                have hb188 := hb168.ext k397
                have r546 := r490.ext k397
                have r547 := r491.ext k397
                have hb189 := hb167.ext k397
                have r548 := r492.ext k397
                have r549 := r493.ext k397
                have r550 := r494.ext k397
                have hz := RV.sl o64.rv; obtain ⟨a38, cq38, rfl, -, -, -⟩ := hz
                refine nl ⟨fun _ _ => k396, ?_⟩
                refine pv rfl rfl rfl (fun _ _ => xbdv (r := [.slice a1 x0.1.length cq1, .slice a38 x18.length cq38]) ti25 sp25 (pc rfl (pc rfl pn)) rfl) (.inl rfl) <| pe1 rfl <| sst rfl rfl rfl ti25 hb189 rfl rfl (ble rfl) fun w83 hch15 hb190 => ?_
                have k398 := Ext.chg k392 hch15 (Nat.le_trans k63.size hg26)
                have k399 := Ext.chg k393 hch15 (Nat.le_trans k64.size hg26)
                have k400 := Ext.chg k394 hch15 (Nat.le_trans k65.size hg26)
                have k401 := Ext.chg k395 hch15 (Nat.le_trans hx18.size hg26)
                have k402 := Ext.chg k396 hch15 (Nat.le_trans (Nat.le_refl _) hg26)
                have hb191 := hb37.ext k402
                have r551 := r150.ext k402
                have r552 := r151.ext k402
                have r553 := r154.ext k402
                have r554 := r155.ext k402
                have r555 := r156.ext k402
                have o65 := o64.chgo hch15 (Nat.le_trans k63.size hg26) hb167.lt
                have hb192 : Bx w83 b32 25 [.slice a1 x0.1.length cq1, .slice a38 x18.length cq38] := hb190
                refine nl ⟨fun _ _ => k402, ?_⟩
                cases hB1
                refine lf <| ?_
                exact ⟨_, rfl, ⟨_, _, rfl, (Nat.le_trans hx18.size hg26), hb192, ⟨[.slice a1 x0.1.length cq1], [.slice a38 x18.length cq38], rfl, r551.rep1, o65.rv.rep1⟩⟩, rfl, rfl, rfl, rfl, rfl, rfl, rfl, k401⟩
              trivial
            refine pm rfl ?_ ?_
            ·
              refine sbsv (cs := [.slice a6 x4.1.length cq6, .slice a7 x4.2.length cq7]) Try.underlying23 ti57 rfl (pc rfl pn) rfl rfl rfl rfl rfl fun b36 w84 hx43 hg30 hb193 => ?_
              have k403 := k348.tr hx43
              have k404 := k349.tr hx43
              have k405 := k350.tr hx43
              have k406 := k351.tr hx43
              have k407 := hx39.tr hx43
              have hb194 := hb168.ext hx43
              have r557 := r490.ext hx43
              have r558 := r491.ext hx43
              have hb195 := hb167.ext hx43
              have r559 := r492.ext hx43
              have r560 := r493.ext hx43
              have r561 := r494.ext hx43
              have r562 := r495.ext hx43
              have r563 := r496.ext hx43
              have r556 : RV w84 (.slice (some ⟨b36, 0, none⟩) 1 1) ([(x4.1, x4.2)] : List ((List Int) × (List Int))) := RV.lit hb193 (css := [[.slice a6 x4.1.length cq6] ++ [.slice a7 x4.2.length cq7]]) rfl ⟨⟨[.slice a6 x4.1.length cq6], [.slice a7 x4.2.length cq7], rfl, r562.rep1, r563.rep1⟩, trivial⟩ rfl (ble rfl)
              refine nl ⟨fun _ _ => k407, ?_⟩
              refine pe1 rfl <| sbsv (cs := []) Try.underlying23 ti57 rfl pn rfl rfl rfl rfl rfl fun b37 w85 hx44 hg31 hb196 => ?_
              have k408 := k403.tr hx44
              have k409 := k404.tr hx44
              have k410 := k405.tr hx44
              have k411 := k406.tr hx44
              have k412 := k407.tr hx44
              have k413 := hx43.tr hx44
              have hb197 := hb194.ext hx44
              have r565 := r557.ext hx44
              have r566 := r558.ext hx44
              have hb198 := hb195.ext hx44
              have r567 := r559.ext hx44
              have r568 := r560.ext hx44
              have r569 := r561.ext hx44
              have r570 := r556.ext hx44
              have hb199 := hb193.ext hx44
              have r571 := r562.ext hx44
              have r572 := r563.ext hx44
              have r564 : RV w85 (.slice (some ⟨b37, 0, none⟩) 0 0) ([] : List ((List Int) × (List Int))) := RV.lit hb196 (css := []) rfl trivial rfl (ble rfl)
              have o66 : DRowO (α := ((List Int) × (List Int))) w0.heap.size 57 w84.heap.size w85 (.slice (some ⟨b37, 0, none⟩) 0 0) [] := ⟨[], Row.lit hg31 hb196 rfl (ble rfl), rfl, by simp⟩
              refine nl ⟨fun _ _ => k412, ?_⟩
              refine pe1 rfl <| sapdO (l := ([] : List ((List Int) × (List Int)))) (k := x0.2) rfl rfl Try.underlying23 ti57 rfl rfl o66 (ElsD.of (RVo.okoO (RVo.ext (RV.old (w := w0) r8) k408) (o66.geo k403.size))) Ex17 hx44.size fun v36 w86 o67 hB28 hgr27 how27 => ?_
              have k414 := Ext.grow k408 k403.size hB28
              have k415 := Ext.grow k409 k404.size hB28
              have k416 := Ext.grow k410 k405.size hB28
              have k417 := Ext.grow k411 k406.size hB28
              have k418 := Ext.grow k412 k407.size hB28
              have k419 := Ext.grow k413 hx43.size hB28
              have k420 : Ext w84 w86 := hx44.trans hB28
              have hb200 := hb194.ext k420
              have r573 := r557.ext k420
              have r574 := r558.ext k420
              have hb201 := hb195.ext k420
              have r575 := r559.ext k420
              have r576 := r560.ext k420
              have r577 := r561.ext k420
              have r578 := r556.ext k420
              have hb202 := hb193.ext k420
              have r579 := r562.ext k420
              have r580 := r563.ext k420
              have hz := RV.sl o67.rv; obtain ⟨a39, cq39, rfl, -, -, -⟩ := hz
              refine nl ⟨fun _ _ => k418, ?_⟩
              refine pe1 rfl <| sapdO (l := x17) (k := ([(x4.1, x4.2)] : List ((List Int) × (List Int)))) rfl rfl Try.underlying23 ti57 rfl rfl o67 (ElsD.lit1 hb202 ⟨[.slice a6 x4.1.length cq6], [.slice a7 x4.2.length cq7], rfl, (RVo.rep1 (RVo.okoO (RVo.ext (RV.old (w := w0) r9) k414) (o67.geo k403.size))), (RVo.rep1 (RVo.okoO (RVo.ext (RV.old (w := w0) r10) k414) (o67.geo k403.size)))⟩) Ex18 k420.size fun v37 w87 o68 hB29 hgr28 how28 => ?_
              have k421 := Ext.grow k414 k403.size hB29
              have k422 := Ext.grow k415 k404.size hB29
              have k423 := Ext.grow k416 k405.size hB29
              have k424 := Ext.grow k417 k406.size hB29
              have k425 := Ext.grow k418 k407.size hB29
              have k426 := Ext.grow k419 hx43.size hB29
              have k427 : Ext w84 w87 := k420.trans hB29
              have hb203 := hb194.ext k427
              have r581 := r557.ext k427
              have r582 := r558.ext k427
              have hb204 := hb195.ext k427
              have r583 := r559.ext k427
              have r584 := r560.ext k427
              have r585 := r561.ext k427
              have hz := RV.sl o68.rv; obtain ⟨a40, cq40, rfl, -, -, -⟩ := hz
              refine nl ⟨fun _ _ => k425, ?_⟩
              refine pv rfl rfl rfl (fun _ _ => xbdv (r := [.slice a1 x0.1.length cq1, .slice a40 x18.length cq40]) ti25 sp25 (pc rfl (pc rfl pn)) rfl) (.inl rfl) <| pe1 rfl <| sst rfl rfl rfl ti25 hb204 rfl rfl (ble rfl) fun w88 hch16 hb205 => ?_
              have k428 := Ext.chg k421 hch16 (Nat.le_trans k63.size hg26)
              have k429 := Ext.chg k422 hch16 (Nat.le_trans k64.size hg26)
              have k430 := Ext.chg k423 hch16 (Nat.le_trans k65.size hg26)
              have k431 := Ext.chg k424 hch16 (Nat.le_trans hx18.size hg26)
              have k432 := Ext.chg k425 hch16 (Nat.le_trans (Nat.le_refl _) hg26)
              have hb206 := hb37.ext k432
              have r586 := r150.ext k432
              have r587 := r151.ext k432
              have r588 := r154.ext k432
              have r589 := r155.ext k432
              have r590 := r156.ext k432
              have o69 := o68.chgo hch16 (Nat.le_trans k63.size hg26) (Nat.lt_of_lt_of_le hb167.lt hx43.size)
              have hb207 : Bx w88 b32 25 [.slice a1 x0.1.length cq1, .slice a40 x18.length cq40] := hb205
              refine nl ⟨fun _ _ => k432, ?_⟩
              cases hB1
              refine lf <| ?_
              exact ⟨_, rfl, ⟨_, _, rfl, (Nat.le_trans hx18.size hg26), hb207, ⟨[.slice a1 x0.1.length cq1], [.slice a40 x18.length cq40], rfl, r586.rep1, o69.rv.rep1⟩⟩, rfl, rfl, rfl, rfl, rfl, rfl, rfl, k431⟩
            trivial
          trivial
        rintro L w89 ⟨v9, l23_j1, P23_j1, l1_j1, l2_j1, l5_j1, l6_j1, l15_j1, l16_j1, l21_j1, K0_j1⟩
        have k433 := k27.tr K0_j1
        have k434 := k28.tr K0_j1
        have k435 := k29.tr K0_j1
        have r591 := r100.ext K0_j1
        have r592 := r101.ext K0_j1
        have r593 := r96.ext K0_j1
        have r594 := r97.ext K0_j1
        have hb208 := hb22.ext K0_j1
        have r595 := r102.ext K0_j1
        obtain ⟨b38, cs7, rfl, hg32, hb209, q11⟩ := P23_j1
        obtain ⟨_, _, rfl, ⟨a41, cq41, rfl, p5, q12, e7⟩, ⟨a42, cq42, rfl, p6, q13, e8⟩⟩ := q11
        have r596 := RV.of1 p5 q12 e7
        have r597 := RV.of1 p6 q13 e8
        refine wp_seq <| ?_
        have hz := bs hF; obtain ⟨y2, hB30, hF⟩ := hz
        refine ct (fun L w => ∃ v38 v39 : Value, L 24 = v38 ∧ PX 25 w89.heap.size w v38 [v39, .slice a2 x0.2.length cq2] ∧ Row 2 w89.heap.size w v39 y2.1 ∧ (∀ b : Nat, v38 = .pointer (some ⟨b, 0, none⟩) → some b ≠ Value.ownBlock v39) ∧ L 1 = .slice a3 x1.length cq3 ∧ L 2 = .slice a4 x2.length cq4 ∧ L 5 = .int .u8 x5 ∧ L 15 = .slice a10 x13.1.length cq10 ∧ L 16 = .int .i64 x13.2 ∧ L 21 = .int .i64 x16.1 ∧ L 23 = .pointer (some ⟨b38, 0, none⟩) ∧ Ext w89 w) ?_ ?_
        ·
          have hz := bs hB30; obtain ⟨x19, Ex19, hB30⟩ := hz
          refine wpl [] (.pure true 1 (.pure false 2 (.pure true 4 (.pure false 5 (.eff 0 (.eff 3 (.pure true 6 (.eff 7 (.eff 8 .fin .stop) .stop)) (.eff 7 (.eff 3 (.pure true 6 (.eff 8 .fin .stop)) .stop) .stop)) (.eff 7 (.eff 0 (.eff 3 (.pure true 6 (.eff 8 .fin .stop)) .stop) .stop) .stop)))))) mixed (by kernel_rfl) (fun w95 hx48 => ?_)
          have k464 := k433.tr hx48
          have k465 := k434.tr hx48
          have k466 := k435.tr hx48
          have k467 := K0_j1.tr hx48
          have hb220 := hb208.ext hx48
          have r631 := r593.ext hx48
          have r632 := r594.ext hx48
          have hb221 := hb209.ext hx48
          have r633 := r596.ext hx48
          have r634 := r597.ext hx48
          have r635 := r591.ext hx48
          have r636 := r592.ext hx48
          have r637 := r595.ext hx48
          refine pv rfl rfl rfl (fun _ _ => xfa l6_j1 fa25_0) (.inl rfl) <| pv rfl rfl rfl (fun _ hS => xld rfl ti22 ((Bx.cs (hb220.ext (hS.resolve_left nofun))).at 0 rfl)) (.inr (Ext.refl _)) <| pv rfl rfl rfl (fun _ _ => xfa l6_j1 fa25_1) (.inl rfl) <| pv rfl rfl rfl (fun _ hS => xld rfl ti23 ((Bx.cs (hb220.ext (hS.resolve_left nofun))).at 1 rfl)) (.inr (Ext.refl _)) <| ?_
          refine pe rfl ?_ ?_
          ·
            refine sbsv (cs := []) Try.underlying22 ti2 rfl pn rfl rfl rfl rfl rfl fun b41 w96 hx49 hg35 hb222 => ?_
            have k468 := k464.tr hx49
            have k469 := k465.tr hx49
            have k470 := k466.tr hx49
            have k471 := k467.tr hx49
            have k472 := hx48.tr hx49
            have hb223 := hb221.ext hx49
            have r638 := r633.ext hx49
            have r639 := r634.ext hx49
            have r640 := r635.ext hx49
            have r641 := r636.ext hx49
            have r642 := r637.ext hx49
            have r643 := r631.ext hx49
            have r644 := r632.ext hx49
            have o74 : Row (α := Int) 2 w95.heap.size w96 (.slice (some ⟨b41, 0, none⟩) 0 0) [] := Row.lit hg35 hb222 rfl (ble rfl)
            refine nl ⟨fun _ _ => hx49, ?_⟩
            refine pe rfl ?_ ?_
            ·
              refine sapx (l := ([] : List Int)) (k := x0.1) rfl rfl Try.underlying22 ti2 rfl rfl o74 (RV.els r643) Ex19 hx49.size fun v41 w97 o75 hB32 hgr30 how30 => ?_
              have k473 := Ext.grow k468 k464.size hB32
              have k474 := Ext.grow k469 k465.size hB32
              have k475 := Ext.grow k470 k466.size hB32
              have k476 := Ext.grow k471 k467.size hB32
              have k477 := Ext.grow k472 hx48.size hB32
              have k478 : Ext w95 w97 := hx49.trans hB32
              have hb224 := hb221.ext k478
              have r646 := r633.ext k478
              have r647 := r634.ext k478
              have r648 := r635.ext k478
              have r649 := r636.ext k478
              have r650 := r637.ext k478
              have r651 := r632.ext k478
              have hz := RV.sl o75.rv; obtain ⟨a44, cq44, rfl, -, -, -⟩ := hz
              refine nl ⟨fun _ _ => k478, ?_⟩
              refine pv rfl rfl rfl (fun _ _ => xbdv (r := [.slice a44 x19.length cq44, .slice a2 x0.2.length cq2]) ti25 sp25 (pc rfl (pc rfl pn)) rfl) (.inl rfl) <| pe1 rfl <| sal ti25 fun b42 w98 hx50 hg36 hb225 => ?_
              have k479 := k473.tr hx50
              have k480 := k474.tr hx50
              have k481 := k475.tr hx50
              have k482 := k476.tr hx50
              have k483 := k477.tr hx50
              have k484 := k478.tr hx50
              have hb226 := hb224.ext hx50
              have r652 := r646.ext hx50
              have r653 := r647.ext hx50
              have r654 := r648.ext hx50
              have r655 := r649.ext hx50
              have r656 := r650.ext hx50
              have o76 := o75.ext hx50
              have r657 := r651.ext hx50
              refine nl ⟨fun _ _ => k484, ?_⟩
              refine pe1 rfl <| sst rfl rfl rfl ti25 hb225 rfl rfl (ble rfl) fun w99 hch18 hb227 => ?_
              have k485 := Ext.chg k479 hch18 (Nat.le_trans k473.size hg36)
              have k486 := Ext.chg k480 hch18 (Nat.le_trans k474.size hg36)
              have k487 := Ext.chg k481 hch18 (Nat.le_trans k475.size hg36)
              have k488 := Ext.chg k482 hch18 (Nat.le_trans k476.size hg36)
              have k489 := Ext.chg k483 hch18 (Nat.le_trans k477.size hg36)
              have k490 := Ext.chg k484 hch18 (Nat.le_trans k478.size hg36)
              have k491 := Ext.chg hx50 hch18 (Nat.le_trans (Nat.le_refl _) hg36)
              have hb228 := hb224.ext k491
              have r658 := r646.ext k491
              have r659 := r647.ext k491
              have r660 := r648.ext k491
              have r661 := r649.ext k491
              have r662 := r650.ext k491
              have o77 := o75.ext k491
              have r663 := r651.ext k491
              have hb229 : Bx w99 b42 25 [.slice a44 x19.length cq44, .slice a2 x0.2.length cq2] := hb227
              refine nl ⟨fun _ _ => k490, ?_⟩
              cases hB30
              refine lf <| ?_
              exact ⟨_, _, rfl, ⟨_, rfl, (Nat.le_trans k477.size hg36), hb229⟩, (o77.bnd hx48.size), (fun b e => by cases e; exact (o75.ne_new hg36)), l1_j1, l2_j1, l5_j1, l15_j1, l16_j1, l21_j1, l23_j1, k489⟩
            refine pm rfl ?_ ?_
            ·
              refine sal ti25 fun b43 w100 hx51 hg37 hb230 => ?_
              have k492 := k468.tr hx51
              have k493 := k469.tr hx51
              have k494 := k470.tr hx51
              have k495 := k471.tr hx51
              have k496 := k472.tr hx51
              have k497 := hx49.tr hx51
              have hb231 := hb223.ext hx51
              have r664 := r638.ext hx51
              have r665 := r639.ext hx51
              have r666 := r640.ext hx51
              have r667 := r641.ext hx51
              have r668 := r642.ext hx51
              have r669 := r643.ext hx51
              have r670 := r644.ext hx51
              have o78 := o74.ext hx51
              refine nl ⟨fun _ _ => k497, ?_⟩
              refine pe1 rfl <| sapx (l := ([] : List Int)) (k := x0.1) rfl rfl Try.underlying22 ti2 rfl rfl o78 (RV.els r669) Ex19 k497.size fun v42 w101 o79 hB33 hgr31 how31 => ?_
              have k498 := Ext.grow k492 k464.size hB33
              have k499 := Ext.grow k493 k465.size hB33
              have k500 := Ext.grow k494 k466.size hB33
              have k501 := Ext.grow k495 k467.size hB33
              have k502 := Ext.grow k496 hx48.size hB33
              have k503 : Ext w95 w101 := k497.trans hB33
              have hb232 := hb221.ext k503
              have r671 := r633.ext k503
              have r672 := r634.ext k503
              have ne13 := ne_app how31 (o74.ne_new hg37) hb230.lt
              have hb233 := Bx.gr hb230 hgr31 (o74.ne_new hg37)
              have r673 := r635.ext k503
              have r674 := r636.ext k503
              have r675 := r637.ext k503
              have r676 := r632.ext k503
              have hz := RV.sl o79.rv; obtain ⟨a45, cq45, rfl, -, -, -⟩ := hz
              refine nl ⟨fun _ _ => k503, ?_⟩
              refine pv rfl rfl rfl (fun _ _ => xbdv (r := [.slice a45 x19.length cq45, .slice a2 x0.2.length cq2]) ti25 sp25 (pc rfl (pc rfl pn)) rfl) (.inl rfl) <| pe1 rfl <| sst rfl rfl rfl ti25 hb233 rfl rfl (ble rfl) fun w102 hch19 hb234 => ?_
              have k504 := Ext.chg k498 hch19 (Nat.le_trans k464.size (Nat.le_trans hx49.size hg37))
              have k505 := Ext.chg k499 hch19 (Nat.le_trans k465.size (Nat.le_trans hx49.size hg37))
              have k506 := Ext.chg k500 hch19 (Nat.le_trans k466.size (Nat.le_trans hx49.size hg37))
              have k507 := Ext.chg k501 hch19 (Nat.le_trans k467.size (Nat.le_trans hx49.size hg37))
              have k508 := Ext.chg k502 hch19 (Nat.le_trans hx48.size (Nat.le_trans hx49.size hg37))
              have k509 := Ext.chg k503 hch19 (Nat.le_trans (Nat.le_refl _) (Nat.le_trans hx49.size hg37))
              have hb235 := hb221.ext k509
              have r677 := r633.ext k509
              have r678 := r634.ext k509
              have r679 := r635.ext k509
              have r680 := r636.ext k509
              have r681 := r637.ext k509
              have o80 := Row.chgn o79 hch19 ne13
              have r682 := r632.ext k509
              have hb236 : Bx w102 b43 25 [.slice a45 x19.length cq45, .slice a2 x0.2.length cq2] := hb234
              refine nl ⟨fun _ _ => k509, ?_⟩
              cases hB30
              refine lf <| ?_
              exact ⟨_, _, rfl, ⟨_, rfl, (Nat.le_trans hx48.size (Nat.le_trans hx49.size hg37)), hb236⟩, (o80.bnd hx48.size), (fun b e => by cases e; exact ne13), l1_j1, l2_j1, l5_j1, l15_j1, l16_j1, l21_j1, l23_j1, k508⟩
            trivial
          refine pm rfl ?_ ?_
          ·
            refine sal ti25 fun b44 w103 hx52 hg38 hb237 => ?_
            have k510 := k464.tr hx52
            have k511 := k465.tr hx52
            have k512 := k466.tr hx52
            have k513 := k467.tr hx52
            have k514 := hx48.tr hx52
            have hb238 := hb221.ext hx52
            have r683 := r633.ext hx52
            have r684 := r634.ext hx52
            have r685 := r635.ext hx52
            have r686 := r636.ext hx52
            have r687 := r637.ext hx52
            have r688 := r631.ext hx52
            have r689 := r632.ext hx52
            refine nl ⟨fun _ _ => hx52, ?_⟩
            refine pe1 rfl <| sbsv (cs := []) Try.underlying22 ti2 rfl pn rfl rfl rfl rfl rfl fun b45 w104 hx53 hg39 hb239 => ?_
            have k515 := k510.tr hx53
            have k516 := k511.tr hx53
            have k517 := k512.tr hx53
            have k518 := k513.tr hx53
            have k519 := k514.tr hx53
            have k520 := hx52.tr hx53
            have hb240 := hb238.ext hx53
            have r690 := r683.ext hx53
            have r691 := r684.ext hx53
            have hb241 := hb237.ext hx53
            have r692 := r685.ext hx53
            have r693 := r686.ext hx53
            have r694 := r687.ext hx53
            have r695 := r688.ext hx53
            have r696 := r689.ext hx53
            have o81 : Row (α := Int) 2 w103.heap.size w104 (.slice (some ⟨b45, 0, none⟩) 0 0) [] := Row.lit hg39 hb239 rfl (ble rfl)
            refine nl ⟨fun _ _ => k520, ?_⟩
            refine pe1 rfl <| sapx (l := ([] : List Int)) (k := x0.1) rfl rfl Try.underlying22 ti2 rfl rfl o81 (RV.els r695) Ex19 hx53.size fun v43 w105 o82 hB34 hgr32 how32 => ?_
            have k521 := Ext.grow k515 k510.size hB34
            have k522 := Ext.grow k516 k511.size hB34
            have k523 := Ext.grow k517 k512.size hB34
            have k524 := Ext.grow k518 k513.size hB34
            have k525 := Ext.grow k519 k514.size hB34
            have k526 := Ext.grow k520 hx52.size hB34
            have k527 : Ext w103 w105 := hx53.trans hB34
            have hb242 := hb238.ext k527
            have r698 := r683.ext k527
            have r699 := r684.ext k527
            have hb243 := hb237.ext k527
            have r700 := r685.ext k527
            have r701 := r686.ext k527
            have r702 := r687.ext k527
            have r703 := r689.ext k527
            have hz := RV.sl o82.rv; obtain ⟨a46, cq46, rfl, -, -, -⟩ := hz
            refine nl ⟨fun _ _ => k526, ?_⟩
            refine pv rfl rfl rfl (fun _ _ => xbdv (r := [.slice a46 x19.length cq46, .slice a2 x0.2.length cq2]) ti25 sp25 (pc rfl (pc rfl pn)) rfl) (.inl rfl) <| pe1 rfl <| sst rfl rfl rfl ti25 hb243 rfl rfl (ble rfl) fun w106 hch20 hb244 => ?_
            have k528 := Ext.chg k521 hch20 (Nat.le_trans k464.size hg38)
            have k529 := Ext.chg k522 hch20 (Nat.le_trans k465.size hg38)
            have k530 := Ext.chg k523 hch20 (Nat.le_trans k466.size hg38)
            have k531 := Ext.chg k524 hch20 (Nat.le_trans k467.size hg38)
            have k532 := Ext.chg k525 hch20 (Nat.le_trans hx48.size hg38)
            have k533 := Ext.chg k526 hch20 (Nat.le_trans (Nat.le_refl _) hg38)
            have hb245 := hb221.ext k533
            have r704 := r633.ext k533
            have r705 := r634.ext k533
            have r706 := r635.ext k533
            have r707 := r636.ext k533
            have r708 := r637.ext k533
            have o83 := Row.chg o82 hch20 hb237.lt
            have r709 := r632.ext k533
            have hb246 : Bx w106 b44 25 [.slice a46 x19.length cq46, .slice a2 x0.2.length cq2] := hb244
            refine nl ⟨fun _ _ => k533, ?_⟩
            cases hB30
            refine lf <| ?_
            exact ⟨_, _, rfl, ⟨_, rfl, (Nat.le_trans hx48.size hg38), hb246⟩, (o83.bnd k514.size), (fun b e => by cases e; exact (o83.ne_old hb237.lt)), l1_j1, l2_j1, l5_j1, l15_j1, l16_j1, l21_j1, l23_j1, k532⟩
          trivial
        rintro L w107 ⟨v38, v39, l24_j2, P24_j2, O24n1_j2, M24n1_j2, l1_j2, l2_j2, l5_j2, l15_j2, l16_j2, l21_j2, l23_j2, K0_j2⟩
        have k534 := k433.tr K0_j2
        have k535 := k434.tr K0_j2
        have k536 := k435.tr K0_j2
        have k537 := K0_j1.tr K0_j2
        have r710 := r591.ext K0_j2
        have r711 := r592.ext K0_j2
        have r712 := r595.ext K0_j2
        have r713 := r596.ext K0_j2
        have r714 := r597.ext K0_j2
        have hb247 := hb209.ext K0_j2
        obtain ⟨b46, rfl, hg40, hb248⟩ := P24_j2
        have hz := RV.sl O24n1_j2.rv; obtain ⟨a47, cq47, rfl, -, -, -⟩ := hz
        have r715 := r594.ext K0_j2
        refine wp_seq <| wpl [12] (.pure true 0 (.pure false 1 (.pure true 2 (.pure true 3 (.pure true 4 (.pure false 5 (.pure false 6 (.pure true 7 (.pure true 8 (.pure false 9 (.pure true 10 (.pure true 11 (.eff 12 .fin .stop))))))))))))) mixed (by kernel_rfl) (fun w108 hx54 => ?_)
        have k538 := k534.tr hx54
        have k539 := k535.tr hx54
        have k540 := k536.tr hx54
        have k541 := k537.tr hx54
        have k542 := K0_j2.tr hx54
        have hb249 := hb247.ext hx54
        have r716 := r713.ext hx54
        have r717 := r714.ext hx54
        have hb250 := hb248.ext hx54
        have O1 := O24n1_j2.ext hx54
        have r718 := r715.ext hx54
        have r719 := r710.ext hx54
        have r720 := r711.ext hx54
        have r721 := r712.ext hx54
        refine pv rfl rfl rfl (fun _ _ => xfa l24_j2 fa25_0) (.inl rfl) <| pv rfl rfl rfl (fun _ hS => xld rfl ti22 ((Bx.cs (hb250.ext (hS.resolve_left nofun))).at 0 rfl)) (.inr (Ext.refl _)) <| pv rfl rfl rfl (fun _ _ => xmv) (.inl rfl) <| pv rfl rfl rfl (fun _ _ => xcvt l5_j2 Try.underlying5 Try.underlying3) (.inl rfl) <| pv rfl rfl rfl (fun _ _ => xfa l24_j2 fa25_0) (.inl rfl) <| pv rfl rfl rfl (fun _ hS => xld rfl ti22 ((Bx.cs (hb250.ext (hS.resolve_left nofun))).at 0 rfl)) (.inr (Ext.refl _)) <| pv rfl rfl rfl (fun _ hS => xlen rfl Try.underlying22) (.inr (Ext.refl _)) <| ?_
        have hz := bs hF; obtain ⟨x20, Ex20, hF⟩ := hz
        refine pv rfl rfl rfl (fun _ _ => xremv rfl rfl Ex20) (.inl rfl) <| ?_
        have hz := bs hF; obtain ⟨x21, Ex21, hF⟩ := hz
        have hz := (RV.els O1.rv).ix Ex21; obtain ⟨b47, f1, cs8, e9, i1, i2, q14, hc1⟩ := hz
        cases e9
        obtain rfl := q14
        refine pv rfl rfl rfl (fun _ _ => xixs rfl rfl Try.underlying22 ti2 i1 i2) (.inl rfl) <| pv rfl rfl rfl (fun _ hS => xld rfl ti2 ((hc1.ext (hS.resolve_left nofun)).at 0 rfl)) (.inr (Ext.refl _)) <| pv rfl rfl rfl (fun _ _ => xadd rfl rfl) (.inl rfl) <| ?_
        have hz := bs hF; obtain ⟨x22, Ex22, hF⟩ := hz
        have hz := ix2 O1.rv Ex22; obtain ⟨cs9, i3, i4, q15, hc2⟩ := hz
        obtain rfl := q15
        refine pv rfl rfl rfl (fun _ _ => xixs rfl rfl Try.underlying22 ti2 i3 i4) (.inl rfl) <| pe1 rfl <| sstr (l := y2.1) (v := w64 (x21 + 1)) rfl rfl rfl ti2 O1 Ex22 fun w109 hch21 o84 => ?_
        have k543 := Ext.chg k538 hch21 (Nat.le_trans k433.size (Row.ge O1))
        have k544 := Ext.chg k539 hch21 (Nat.le_trans k434.size (Row.ge O1))
        have k545 := Ext.chg k540 hch21 (Nat.le_trans k435.size (Row.ge O1))
        have k546 := Ext.chg k541 hch21 (Nat.le_trans K0_j1.size (Row.ge O1))
        have k547 := Ext.chg k542 hch21 (Nat.le_trans (Nat.le_refl _) (Row.ge O1))
        have hb251 := hb209.ext k547
        have r722 := r596.ext k547
        have r723 := r597.ext k547
        have hb252 := Bx.chg hb250 hch21 (fun e => (M24n1_j2 _ rfl) (congrArg some e))
        have r724 := r594.ext k547
        have r725 := r591.ext k547
        have r726 := r592.ext k547
        have r727 := r595.ext k547
        have hl1 : y2.1.length = (rset y2.1 x20 (w64 (x21 + 1))).length := by simp [rset]
        rw [hl1] at o84 hb252
        refine nl ⟨fun h => (h (by decide)).elim, ?_⟩
        refine wp_seq <| rg <| vl rfl rfl (xlda l23_j2 ti25 rfl (Bx.cs hb251)) <| vl rfl rfl (xlda l24_j2 ti25 rfl (Bx.cs hb252)) <| sbsv (cs := [.slice a41 y1.1.length cq41, .slice a42 y1.2.length cq42, .slice (some ⟨b47, f1, none⟩) (rset y2.1 x20 (w64 (x21 + 1))).length cq47, .slice a2 x0.2.length cq2]) Try.underlying58 ti25 rfl (pc rfl (pc rfl pn)) rfl rfl rfl rfl rfl fun b48 w110 hx55 hg41 hb253 => ?_
        have k548 := k543.tr hx55
        have k549 := k544.tr hx55
        have k550 := k545.tr hx55
        have k551 := k546.tr hx55
        have k552 := k547.tr hx55
        have r729 := r725.ext hx55
        have r730 := r726.ext hx55
        have r731 := r727.ext hx55
        have r732 := r722.ext hx55
        have r733 := r723.ext hx55
        have o85 := o84.ext hx55
        have r734 := r724.ext hx55
        have r728 : RV w110 (.slice (some ⟨b48, 0, none⟩) 2 2) ([(y1.1, y1.2), ((rset y2.1 x20 (w64 (x21 + 1))), x0.2)] : List ((List Int) × (List ((List Int) × (List Int))))) := RV.lit hb253 (css := [[.slice a41 y1.1.length cq41] ++ [.slice a42 y1.2.length cq42], [.slice (some ⟨b47, f1, none⟩) (rset y2.1 x20 (w64 (x21 + 1))).length cq47] ++ [.slice a2 x0.2.length cq2]]) rfl ⟨⟨[.slice a41 y1.1.length cq41], [.slice a42 y1.2.length cq42], rfl, r732.rep1, r733.rep1⟩, ⟨[.slice (some ⟨b47, f1, none⟩) (rset y2.1 x20 (w64 (x21 + 1))).length cq47], [.slice a2 x0.2.length cq2], rfl, o85.rv.rep1, r734.rep1⟩, trivial⟩ rfl (ble rfl)
        refine vl rfl rfl xas <| nl <| wp_seq <| wp_seq <| rg <| vl rfl rfl xas <| nl <| ?_
        have hz := bs hF; obtain ⟨o86, hB35, hF⟩ := hz
        refine ct (fun L w => o86 = .inr () ∧ Ext w110 w) ?_ ?_
        ·
          refine wp_block <| lp (I := fun m L w => ∃ y3 : Int, law11_BathOver_l1 F x0 x1 x2 x13 x16 x20 x21 y1 y2 m y3  = some o86 ∧ L 26 = .int .i64 y3 ∧ L 1 = .slice a3 x1.length cq3 ∧ L 2 = .slice a4 x2.length cq4 ∧ L 15 = .slice a10 x13.1.length cq10 ∧ L 16 = .int .i64 x13.2 ∧ L 21 = .int .i64 x16.1 ∧ L 25 = .slice (some ⟨b48, 0, none⟩) ([(y1.1, y1.2), ((rset y2.1 x20 (w64 (x21 + 1))), x0.2)] : List ((List Int) × (List ((List Int) × (List Int))))).length 2 ∧ Ext w110 w) F ⟨_, hB35, rfl, l1_j2, l2_j2, l15_j2, l16_j2, l21_j2, rfl, (Ext.refl _)⟩ ?_
          rintro m L w111 ⟨y3, hB35, l26_i5, l1_i5, l2_i5, l15_i5, l16_i5, l21_i5, l25_i5, K0_i5⟩
          rcases m with _ | m
          · rw [law11_BathOver_l1] at hB35; cases hB35
          rw [law11_BathOver_l1] at hB35
          have k553 := k548.tr K0_i5
          have k554 := k549.tr K0_i5
          have k555 := k550.tr K0_i5
          have k556 := k551.tr K0_i5
          have k557 := k552.tr K0_i5
          have k558 := hx55.tr K0_i5
          have r735 := r729.ext K0_i5
          have r736 := r730.ext K0_i5
          have r737 := r731.ext K0_i5
          have r738 := r728.ext K0_i5
          have hb254 := hb253.ext K0_i5
          have r739 := r732.ext K0_i5
          have r740 := r733.ext K0_i5
          have o87 := o85.ext K0_i5
          have r741 := r734.ext K0_i5
          refine wp_seq <| wp_seq <| rg <| vl rfl rfl xmv <| vl rfl rfl (xlss l26_i5 rfl) <| nl <| cnd rfl (fun h10 => ?_) (fun h10 => ?_)
          ·
            have hB35 := ifp hB35 h10
            refine wp_skip <| wp_seq <| ?_
            have hz := bs hB35; obtain ⟨o88, hB37, hB35⟩ := hz
            refine ct (fun L w => o88 = .inr () ∧ L 1 = .slice a3 x1.length cq3 ∧ L 2 = .slice a4 x2.length cq4 ∧ L 15 = .slice a10 x13.1.length cq10 ∧ L 16 = .int .i64 x13.2 ∧ L 21 = .int .i64 x16.1 ∧ L 25 = .slice (some ⟨b48, 0, none⟩) ([(y1.1, y1.2), ((rset y2.1 x20 (w64 (x21 + 1))), x0.2)] : List ((List Int) × (List ((List Int) × (List Int))))).length 2 ∧ L 26 = .int .i64 y3 ∧ Ext w111 w) ?_ ?_
            ·
              refine wp_block <| wp_seq <| wp_seq <| rg <| vl rfl rfl xmv <| vl rfl rfl xmv <| ?_
              have hz := bs hB37; obtain ⟨x23, Ex23, hB37⟩ := hz
              have hz := ix2 r728 Ex23; obtain ⟨cs10, i6, i7, q16, hc3⟩ := hz
              obtain ⟨_, _, rfl, ⟨a48, cq48, rfl, p7, q17, e10⟩, ⟨a49, cq49, rfl, p8, q18, e11⟩⟩ := q16
              have r742 := RV.of1 p7 q17 e10
              have r743 := RV.of1 p8 q18 e11
              have hc4 := hc3.ext K0_i5
              have r744 := r742.ext K0_i5
              have r745 := r743.ext K0_i5
              refine vl rfl rfl (xixs l25_i5 l26_i5 Try.underlying58 ti25 i6 i7) <| vl rfl rfl (xlda rfl ti25 rfl hc4) <| vl rfl rfl xmv <| ?_
              have hz := bs hB37; obtain ⟨x24, Ex24, hB37⟩ := hz
              refine cl rfl rfl (xc cb29 (mc rfl (mc l1_i5 mn))) (c29 (show RV (α := ((List Int) × (List ((List Int) × (List Int))))) _ (.agg [.slice a48 x23.1.length cq48, .slice a49 x23.2.length cq49].toArray) (x23.1, x23.2) from ⟨_, rfl, ⟨[.slice a48 x23.1.length cq48], [.slice a49 x23.2.length cq49], rfl, r744.rep1, r745.rep1⟩⟩) r735 Ex24) ?_
              rintro _ w112 ⟨rfl, hx56⟩
              have k559 := k553.tr hx56
              have k560 := k554.tr hx56
              have k561 := k555.tr hx56
              have k562 := k556.tr hx56
              have k563 := k557.tr hx56
              have k564 := k558.tr hx56
              have k565 := K0_i5.tr hx56
              have r746 := r735.ext hx56
              have r747 := r736.ext hx56
              have r748 := r737.ext hx56
              have r749 := r738.ext hx56
              have hb255 := hb254.ext hx56
              have r750 := r739.ext hx56
              have r751 := r740.ext hx56
              have o89 := o87.ext hx56
              have r752 := r741.ext hx56
              refine vl rfl rfl (xnot rfl) <| nl <| cnd rfl (fun h11 => ?_) (fun h11 => ?_)
              ·
                have hB37 := ifp hB37 h11
                refine wp_exit <| ?_
                cases hB37
                refine lf <| ?_
                exact ⟨rfl, l1_i5, l2_i5, l15_i5, l16_i5, l21_i5, l25_i5, l26_i5, hx56⟩
              ·
                have hB37 := ifn hB37 h11
                refine wp_skip <| wp_seq <| rg <| vl rfl rfl xmv <| vl rfl rfl xmv <| ?_
                have hz := bs hB37; obtain ⟨x25, Ex25, hB37⟩ := hz
                have hz := ix2 r728 Ex25; obtain ⟨cs11, i8, i9, q19, hc5⟩ := hz
                obtain ⟨_, _, rfl, ⟨a50, cq50, rfl, p9, q20, e12⟩, ⟨a51, cq51, rfl, p10, q21, e13⟩⟩ := q19
                have r753 := RV.of1 p9 q20 e12
                have r754 := RV.of1 p10 q21 e13
                have hc6 := hc5.ext k565
                have r755 := r753.ext k565
                have r756 := r754.ext k565
                refine vl rfl rfl (xixs l25_i5 l26_i5 Try.underlying58 ti25 i8 i9) <| vl rfl rfl (xlda rfl ti25 rfl hc6) <| vl rfl rfl xmv <| vl rfl rfl xmv <| ?_
                have hz := bs hB37; obtain ⟨x26, Ex26, hB37⟩ := hz
                refine cl rfl rfl (xc cb20 (mc rfl (mc l1_i5 (mc l2_i5 mn)))) (c20 (show RV (α := ((List Int) × (List ((List Int) × (List Int))))) _ (.agg [.slice a50 x25.1.length cq50, .slice a51 x25.2.length cq51].toArray) (x25.1, x25.2) from ⟨_, rfl, ⟨[.slice a50 x25.1.length cq50], [.slice a51 x25.2.length cq51], rfl, r755.rep1, r756.rep1⟩⟩) r746 r747 Ex26) ?_
                rintro _ w113 ⟨u6, rfl, r757, hx57⟩
                have k566 := k559.tr hx57
                have k567 := k560.tr hx57
                have k568 := k561.tr hx57
                have k569 := k562.tr hx57
                have k570 := k563.tr hx57
                have k571 := k564.tr hx57
                have k572 := k565.tr hx57
                have k573 := hx56.tr hx57
                have r758 := r746.ext hx57
                have r759 := r747.ext hx57
                have r760 := r748.ext hx57
                have r761 := r749.ext hx57
                have hb256 := hb255.ext hx57
                have r762 := r750.ext hx57
                have r763 := r751.ext hx57
                have o90 := o89.ext hx57
                have r764 := r752.ext hx57
                have hz := RV.sl r757; obtain ⟨a52, cq52, rfl, -, -, -⟩ := hz
                refine vl rfl rfl xmv <| vl rfl rfl (xext rfl rfl) <| vl rfl rfl (xext rfl rfl) <| vl rfl rfl xas <| vl rfl rfl xas <| nl <| wp_seq <| rg <| vl rfl rfl xmv <| vl rfl rfl xmv <| ?_
                have hz := bs hB37; obtain ⟨x27, Ex27, hB37⟩ := hz
                have hz := ix2 r728 Ex27; obtain ⟨cs12, i10, i11, q22, hc7⟩ := hz
                obtain ⟨_, _, rfl, ⟨a53, cq53, rfl, p11, q23, e14⟩, ⟨a54, cq54, rfl, p12, q24, e15⟩⟩ := q22
                have r765 := RV.of1 p11 q23 e14
                have r766 := RV.of1 p12 q24 e15
                have hc8 := hc7.ext k572
                have r767 := r765.ext k572
                have r768 := r766.ext k572
                refine vl rfl rfl (xixs l25_i5 l26_i5 Try.underlying58 ti25 i10 i11) <| vl rfl rfl (xlda rfl ti25 rfl hc8) <| vl rfl rfl xmv <| ?_
                have hz := bs hB37; obtain ⟨x28, Ex28, hB37⟩ := hz
                refine cl rfl rfl (xc cb22 (mc rfl (mc l1_i5 mn))) (c22 (show RV (α := ((List Int) × (List ((List Int) × (List Int))))) _ (.agg [.slice a53 x27.1.length cq53, .slice a54 x27.2.length cq54].toArray) (x27.1, x27.2) from ⟨_, rfl, ⟨[.slice a53 x27.1.length cq53], [.slice a54 x27.2.length cq54], rfl, r767.rep1, r768.rep1⟩⟩) r758 Ex28) ?_
                rintro _ w114 ⟨rfl, hx58⟩
                have k574 := k566.tr hx58
                have k575 := k567.tr hx58
                have k576 := k568.tr hx58
                have k577 := k569.tr hx58
                have k578 := k570.tr hx58
                have k579 := k571.tr hx58
                have k580 := k572.tr hx58
                have k581 := k573.tr hx58
                have r769 := r758.ext hx58
                have r770 := r759.ext hx58
                have r771 := r760.ext hx58
                have r772 := r761.ext hx58
                have hb257 := hb256.ext hx58
                have r773 := r762.ext hx58
                have r774 := r763.ext hx58
                have o91 := o90.ext hx58
                have r775 := r764.ext hx58
                have r776 := r757.ext hx58
                refine vl rfl rfl xmv <| vl rfl rfl (xext rfl rfl) <| vl rfl rfl (xext rfl rfl) <| vl rfl rfl xas <| vl rfl rfl xas <| nl <| wp_seq <| rg <| vl rfl rfl xmv <| vl rfl rfl (xneq rfl rfl) <| vl rfl rfl xmv <| gv rfl rfl rfl rfl (gw0 rfl) rfl (fun hc => xmva rfl) <| gv rfl rfl rfl rfl (gw0 rfl) rfl (fun hc => xmva l21_i5) <| gv rfl rfl rfl rfl (gw0 rfl) rfl (fun hc => xlss (mv hc rfl) (mv hc rfl)) <| vl rfl rfl (xpo rfl rfl rfl) <| vl rfl rfl xmv <| gv rfl rfl rfl rfl (gw0 rfl) rfl (fun hc => xmva l16_i5) <| gv rfl rfl rfl rfl (gw0 rfl) rfl (fun hc => xeql (mv hc rfl) rfl) <| gv rfl rfl rfl rfl (gw0 rfl) rfl (fun hc => xmva (mv hc rfl)) <| gv rfl rfl rfl rfl (gn1 rfl) rfl (fun hc => xmva rfl) <| gv rfl rfl rfl rfl (gn1 rfl) rfl (fun hc => xneq (mv hc rfl) rfl) <| gv rfl rfl rfl rfl (gn1 rfl) rfl (fun hc => xmva (mv hc rfl)) <| gv rfl rfl rfl rfl (gn0 rfl) rfl (fun hc => xmva rfl) <| gv rfl rfl rfl rfl (gn0 rfl) rfl (fun hc => xlen (mv hc rfl) Try.underlying26) <| gv rfl rfl rfl rfl (gn0 rfl) rfl (fun hc => xmva l15_i5) <| gv rfl rfl rfl rfl (gn0 rfl) rfl (fun hc => xlen (mv hc rfl) Try.underlying26) <| gv rfl rfl rfl rfl (gn0 rfl) rfl (fun hc => xgtr (mv hc rfl) (mv hc rfl)) <| gv rfl rfl rfl rfl (gn1 rfl) rfl (fun hc => xpo (mv hc rfl) (mvn hc rfl) rfl) <| gv rfl rfl rfl rfl (gw0 rfl) rfl (fun hc => xpa (mv hc rfl) (mvn hc rfl) rfl) <| vl rfl rfl (xpo rfl rfl rfl) <| nl <| cnd rfl (fun h12 => ?_) (fun h12 => ?_)
                ·
                  have hB37 := ifp hB37 h12
                  refine wp_seq <| rg <| vl rfl rfl xas <| nl <| ?_
                  cases hB37
                  have hB35 := (show some _ = some _ from hB35); cases hB35
                  have hF := (show some _ = some _ from hF); cases hF
                  exact wp_ret <| rt rfl (.tmp rfl rfl .nil) ⟨rfl, k574⟩
                ·
                  have hB37 := ifn hB37 h12
                  refine wp_skip <| ?_
                  cases hB37
                  refine lf <| ?_
                  exact ⟨rfl, l1_i5, l2_i5, l15_i5, l16_i5, l21_i5, l25_i5, l26_i5, k581⟩
            rintro L w115 ⟨rfl, l1_j3, l2_j3, l15_j3, l16_j3, l21_j3, l25_j3, l26_j3, K0_j3⟩
            have k582 := k553.tr K0_j3
            have k583 := k554.tr K0_j3
            have k584 := k555.tr K0_j3
            have k585 := k556.tr K0_j3
            have k586 := k557.tr K0_j3
            have k587 := k558.tr K0_j3
            have k588 := K0_i5.tr K0_j3
            have r777 := r735.ext K0_j3
            have r778 := r736.ext K0_j3
            have r779 := r737.ext K0_j3
            have r780 := r738.ext K0_j3
            have hb258 := hb254.ext K0_j3
            have r781 := r739.ext K0_j3
            have r782 := r740.ext K0_j3
            have o92 := o87.ext K0_j3
            have r783 := r741.ext K0_j3
            refine rg <| vl rfl rfl xmv <| vl rfl rfl (xadd l26_j3 rfl) <| vl rfl rfl xas <| nl <| ?_
            refine lq m (Nat.lt_succ_self _) <| ?_
            exact ⟨_, hB35, rfl, l1_j3, l2_j3, l15_j3, l16_j3, l21_j3, l25_j3, k588⟩
          ·
            have hB35 := ifn hB35 h10
            refine wp_exit <| ?_
            cases hB35
            refine lf <| ?_
            exact ⟨rfl, K0_i5⟩
        rintro L w116 ⟨rfl, K0_j4⟩
        have k589 := k548.tr K0_j4
        have k590 := k549.tr K0_j4
        have k591 := k550.tr K0_j4
        have k592 := k551.tr K0_j4
        have k593 := k552.tr K0_j4
        have k594 := hx55.tr K0_j4
        refine wp_seq <| rg <| ?_
        have hz := bs hF; obtain ⟨x29, Ex29, hF⟩ := hz
        refine cl rfl rfl (xc cb13 mn) (c13 Ex29) ?_
        rintro _ w117 ⟨rfl, hx59⟩
        have k595 := k589.tr hx59
        have k596 := k590.tr hx59
        have k597 := k591.tr hx59
        have k598 := k592.tr hx59
        have k599 := k593.tr hx59
        have k600 := k594.tr hx59
        have k601 := K0_j4.tr hx59
        refine vl rfl rfl xas <| nl <| ?_
        cases hF
        exact wp_ret <| rt rfl (.tmp rfl rfl .nil) ⟨rfl, k595⟩
end Go.Proofs.Ytboefnpnoojfpaa
