/-
  Each function of the program returns what its pure function computes, and leaves all memory that was there as it was. Condition: the pure function computes something.
-/
import Derived.Test.YtboefnpnoojfpaaFacts
import Derived.Test.YtboefnpnoojfpaaPureC
import Derived.Test.YtboefnpnoojfpaaMore
import Derived.Test.YtboefnpnoojfpaaWalkB
namespace Go.Proofs.Ytboefnpnoojfpaa
open Go Go.Md Go.RowKit
attribute [local irreducible] Go.wpList Go.Code.wp Go.Calls Go.Md.Rnd Go.Md.Mt Go.Md.MtM Go.Md.RndM Go.Code.wpIn

set_option maxHeartbeats 4000000 in
theorem c5 {w0 : World} {v0 : Value} {x0 : ((List Int) × (List ((List Int) × (List Int))))} (r0 : RV w0 v0 x0) {v1 : Value} {x1 : (List Int)} (r1 : RV w0 v1 x1) {v2 : Value} {x2 : (List (KI .u8))} (r2 : RV w0 v2 x2) {v3 : Value} {x3 : (List Int)} (r3 : RV w0 v3 x3) {v4 : Value} {x4 : (List Int)} (r4 : RV w0 v4 x4) {x5 : Int} {F : Nat} {r : Bool} (hF : law11_BathReached F x0 x1 x2 x3 x4 x5 = some r) :
    Calls Try.prog 5 [v0, v1, v2, v3, v4, .int .u8 x5].toArray w0 (Ret fun v w' => v = .bool r ∧ Ext w0 w') := by
  unfold law11_BathReached at hF
  have hz := id r0; obtain ⟨_, rfl, ⟨_, _, rfl, ⟨a1, cq1, rfl, p1, q7, e1⟩, ⟨a2, cq2, rfl, p2, q8, e2⟩⟩⟩ := hz
  have r7 := RV.of1 p1 q7 e1
  have r8 := RV.of1 p2 q8 e2
  have hz := r1.sl; obtain ⟨a3, cq3, rfl, -, -, -⟩ := hz
  have hz := r2.sl; obtain ⟨a4, cq4, rfl, -, -, -⟩ := hz
  have hz := r3.sl; obtain ⟨a5, cq5, rfl, -, -, -⟩ := hz
  have hz := r4.sl; obtain ⟨a6, cq6, rfl, -, -, -⟩ := hz
  refine entr (n := 211) Try.func5 rfl rfl rfl <| wp_seq <| rg <| sbx rfl rfl fun b7 w1 hx1 hg1 hb1 => ?_
  have r9 := r1.ext hx1
  have r10 := r2.ext hx1
  have r11 := r3.ext hx1
  have r12 := r4.ext hx1
  have r13 := r7.ext hx1
  have r14 := r8.ext hx1
  have r15 := r0.ext hx1
  refine vl rfl rfl xas <| nl <| wp_seq <| wp_seq <| rg <| vl rfl rfl (xlda rfl ti25 rfl (Bx.cs hb1)) <| vl rfl rfl xmv <| ?_
  have hz := bs hF; obtain ⟨x7, Ex7, hF⟩ := hz
  refine cl rfl rfl (xc cb29 (mc rfl (mc rfl mn))) (c29 (show RV (α := ((List Int) × (List ((List Int) × (List Int))))) _ (.agg [.slice a1 x0.1.length cq1, .slice a2 x0.2.length cq2].toArray) (x0.1, x0.2) from ⟨_, rfl, ⟨[.slice a1 x0.1.length cq1], [.slice a2 x0.2.length cq2], rfl, r13.rep1, r14.rep1⟩⟩) r9 Ex7) ?_
  rintro _ w2 ⟨rfl, hx2⟩
  have k1 := hx1.tr hx2
  have hb2 := hb1.ext hx2
  have r16 := r13.ext hx2
  have r17 := r14.ext hx2
  have r18 := r9.ext hx2
  have r19 := r10.ext hx2
  have r20 := r11.ext hx2
  have r21 := r12.ext hx2
  refine vl rfl rfl (xnot rfl) <| vl rfl rfl xmv <| gv rfl rfl rfl rfl (gw0 rfl) rfl (fun hc => xmva rfl) <| gv rfl rfl rfl rfl (gw0 rfl) rfl (fun hc => xlen (mv hc rfl) Try.underlying47) <| gv rfl rfl rfl rfl (gw0 rfl) rfl (fun hc => xgtr (mv hc rfl) rfl) <| vl rfl rfl (xpo rfl rfl rfl) <| vl rfl rfl xmv <| gv rfl rfl rfl rfl (gw0 rfl) rfl (fun hc => xmva rfl) <| gv rfl rfl rfl rfl (gw0 rfl) rfl (fun hc => xlen (mv hc rfl) Try.underlying22) <| gv rfl rfl rfl rfl (gw0 rfl) rfl (fun hc => xgtr (mv hc rfl) rfl) <| vl rfl rfl (xpo rfl rfl rfl) <| vl rfl rfl xmv <| gv rfl rfl rfl rfl (gw0 rfl) rfl (fun hc => xmva rfl) <| gv rfl rfl rfl rfl (gw0 rfl) rfl (fun hc => xlen (mv hc rfl) Try.underlying22) <| gv rfl rfl rfl rfl (gw0 rfl) rfl (fun hc => xgtr (mv hc rfl) rfl) <| vl rfl rfl (xpo rfl rfl rfl) <| nl <| cnd rfl (fun h7 => ?_) (fun h7 => ?_)
  ·
    have hF := ifp hF h7
    refine wp_seq <| rg <| ?_
    have hz := bs hF; obtain ⟨x8, Ex8, hF⟩ := hz
    refine cl rfl rfl (xc cb13 mn) (c13 Ex8) ?_
    rintro _ w3 ⟨rfl, hx3⟩
    have k2 := k1.tr hx3
    refine vl rfl rfl xas <| nl <| ?_
    cases hF
    exact wp_ret <| rt rfl (.tmp rfl rfl .nil) ⟨rfl, k2⟩
  ·
    have hF := ifn hF h7
    refine wp_skip <| wp_seq <| rg <| vl rfl rfl (xlda rfl ti25 rfl (Bx.cs hb2)) <| vl rfl rfl xmv <| vl rfl rfl xmv <| ?_
    have hz := bs hF; obtain ⟨x9, Ex9, hF⟩ := hz
    refine cl rfl rfl (xc cb30 (mc rfl (mc rfl (mc rfl mn)))) (c30 (show RV (α := ((List Int) × (List ((List Int) × (List Int))))) _ (.agg [.slice a1 x0.1.length cq1, .slice a2 x0.2.length cq2].toArray) (x0.1, x0.2) from ⟨_, rfl, ⟨[.slice a1 x0.1.length cq1], [.slice a2 x0.2.length cq2], rfl, r16.rep1, r17.rep1⟩⟩) r18 r19 Ex9) ?_
    rintro _ w4 ⟨u1, rfl, r22, hx4⟩
    have k3 := k1.tr hx4
    have hb3 := hb2.ext hx4
    have r23 := r16.ext hx4
    have r24 := r17.ext hx4
    have r25 := r18.ext hx4
    have r26 := r20.ext hx4
    have r27 := r21.ext hx4
    have hz := RV.sl r22; obtain ⟨a7, cq7, rfl, -, -, -⟩ := hz
    refine vl rfl rfl xas <| nl <| wp_seq <| rg <| vl rfl rfl (xlda rfl ti25 rfl (Bx.cs hb3)) <| vl rfl rfl xmv <| vl rfl rfl xmv <| ?_
    have hz := bs hF; obtain ⟨x10, Ex10, hF⟩ := hz
    refine cl rfl rfl (xc cb14 (mc rfl (mc rfl (mc rfl mn)))) (c14 (show RV (α := ((List Int) × (List ((List Int) × (List Int))))) _ (.agg [.slice a1 x0.1.length cq1, .slice a2 x0.2.length cq2].toArray) (x0.1, x0.2) from ⟨_, rfl, ⟨[.slice a1 x0.1.length cq1], [.slice a2 x0.2.length cq2], rfl, r23.rep1, r24.rep1⟩⟩) r25 r22 Ex10) ?_
    rintro _ w5 ⟨u2, rfl, r28, hx5⟩
    have k4 := k3.tr hx5
    have hb4 := hb3.ext hx5
    have r29 := r23.ext hx5
    have r30 := r24.ext hx5
    have r31 := r25.ext hx5
    have r32 := r26.ext hx5
    have r33 := r27.ext hx5
    have r34 := r22.ext hx5
    have hz := RV.sl r28; obtain ⟨a8, cq8, rfl, -, -, -⟩ := hz
    refine vl rfl rfl xmv <| vl rfl rfl (xext rfl rfl) <| vl rfl rfl (xext rfl rfl) <| vl rfl rfl xas <| vl rfl rfl xas <| nl <| wp_seq <| wp_seq <| rg <| vl rfl rfl xmv <| vl rfl rfl (xneq rfl rfl) <| vl rfl rfl xmv <| gv rfl rfl rfl rfl (gw0 rfl) rfl (fun hc => xmva rfl) <| gv rfl rfl rfl rfl (gw0 rfl) rfl (fun hc => xlen (mv hc rfl) Try.underlying22) <| gv rfl rfl rfl rfl (gw0 rfl) rfl (fun hc => xmva rfl) <| gv rfl rfl rfl rfl (gw0 rfl) rfl (fun hc => xlen (mv hc rfl) Try.underlying22) <| gv rfl rfl rfl rfl (gw0 rfl) rfl (fun hc => xneq (mv hc rfl) (mv hc rfl)) <| vl rfl rfl (xpo rfl rfl rfl) <| vl rfl rfl xmv <| gv rfl rfl rfl rfl (gw0 rfl) rfl (fun hc => xlda rfl ti25 rfl (Bx.cs hb4)) <| gv rfl rfl rfl rfl (gw0 rfl) rfl (fun hc => xmva rfl) <| ?_
    have hz := bs hF; obtain ⟨x11, Ex11, hF⟩ := hz
    refine gc rfl rfl rfl rfl (gw0 rfl) rfl (fun hc => xc cb31 (mc (mv hc rfl) (mc (mv hc rfl) mn))) (fun hc => (c31 (show RV (α := ((List Int) × (List ((List Int) × (List Int))))) _ (.agg [.slice a1 x0.1.length cq1, .slice a2 x0.2.length cq2].toArray) (x0.1, x0.2) from ⟨_, rfl, ⟨[.slice a1 x0.1.length cq1], [.slice a2 x0.2.length cq2], rfl, r29.rep1, r30.rep1⟩⟩) r28 (gdp Ex11 hc))) (fun v7 w6 hy1 hn1 => ?_)
    have hx6 : Ext w5 w6 := gx (fun h => (hy1 h).2) (fun h => (hn1 h).2 ▸ Ext.refl _)
    have e3 := mkw (fun h => (hy1 h).1) (fun h => (hn1 h).1)
    have k5 := k4.tr hx6
    have hb5 := hb4.ext hx6
    have r35 := r29.ext hx6
    have r36 := r30.ext hx6
    have r37 := r31.ext hx6
    have r38 := r32.ext hx6
    have r39 := r33.ext hx6
    have r40 := r34.ext hx6
    have r41 := r28.ext hx6
    refine gv rfl rfl rfl rfl (gw0 rfl) rfl (fun hc => xneq (mv hc e3) rfl) <| vl rfl rfl (xpo rfl rfl rfl) <| nl <| cnd rfl (fun h8 => ?_) (fun h8 => ?_)
    ·
      have hF := ifp hF h8
      refine wp_seq <| rg <| vl rfl rfl xas <| nl <| ?_
      cases hF
      exact wp_ret <| rt rfl (.tmp rfl rfl .nil) ⟨rfl, k5⟩
    ·
      have hF := ifn hF h8
      refine wp_skip <| wp_seq <| rg <| vl rfl rfl (xlda rfl ti25 rfl (Bx.cs hb5)) <| vl rfl rfl xmv <| vl rfl rfl xmv <| ?_
      have hz := bs hF; obtain ⟨x12, Ex12, hF⟩ := hz
      refine cl rfl rfl (xc cb20 (mc rfl (mc rfl (mc rfl mn)))) (c20 (show RV (α := ((List Int) × (List ((List Int) × (List Int))))) _ (.agg [.slice a1 x0.1.length cq1, .slice a2 x0.2.length cq2].toArray) (x0.1, x0.2) from ⟨_, rfl, ⟨[.slice a1 x0.1.length cq1], [.slice a2 x0.2.length cq2], rfl, r35.rep1, r36.rep1⟩⟩) r37 r41 Ex12) ?_
      rintro _ w7 ⟨u3, rfl, r42, hx7⟩
      have k6 := k5.tr hx7
      have hb6 := hb5.ext hx7
      have r43 := r35.ext hx7
      have r44 := r36.ext hx7
      have r45 := r37.ext hx7
      have r46 := r38.ext hx7
      have r47 := r39.ext hx7
      have r48 := r40.ext hx7
      have r49 := r41.ext hx7
      have hz := RV.sl r42; obtain ⟨a9, cq9, rfl, -, -, -⟩ := hz
      refine vl rfl rfl xmv <| vl rfl rfl (xext rfl rfl) <| vl rfl rfl (xext rfl rfl) <| vl rfl rfl xas <| vl rfl rfl xas <| nl <| wp_seq <| rg <| vl rfl rfl (xlda rfl ti25 rfl (Bx.cs hb6)) <| vl rfl rfl xmv <| vl rfl rfl xmv <| ?_
      have hz := bs hF; obtain ⟨x13, Ex13, hF⟩ := hz
      refine cl rfl rfl (xc cb14 (mc rfl (mc rfl (mc rfl mn)))) (c14 (show RV (α := ((List Int) × (List ((List Int) × (List Int))))) _ (.agg [.slice a1 x0.1.length cq1, .slice a2 x0.2.length cq2].toArray) (x0.1, x0.2) from ⟨_, rfl, ⟨[.slice a1 x0.1.length cq1], [.slice a2 x0.2.length cq2], rfl, r43.rep1, r44.rep1⟩⟩) r45 r42 Ex13) ?_
      rintro _ w8 ⟨u4, rfl, r50, hx8⟩
      have k7 := k6.tr hx8
      have hb7 := hb6.ext hx8
      have r51 := r43.ext hx8
      have r52 := r44.ext hx8
      have r53 := r45.ext hx8
      have r54 := r46.ext hx8
      have r55 := r47.ext hx8
      have r56 := r48.ext hx8
      have r57 := r49.ext hx8
      have r58 := r42.ext hx8
      have hz := RV.sl r50; obtain ⟨a10, cq10, rfl, -, -, -⟩ := hz
      refine vl rfl rfl xmv <| vl rfl rfl (xext rfl rfl) <| vl rfl rfl (xext rfl rfl) <| vl rfl rfl xas <| vl rfl rfl xas <| nl <| wp_seq <| rg <| vl rfl rfl xmv <| vl rfl rfl (xcvt rfl Try.underlying5 Try.underlying3) <| vl rfl rfl xmv <| vl rfl rfl (xlen rfl Try.underlying22) <| ?_
      have hz := bs hF; obtain ⟨x14, Ex14, hF⟩ := hz
      refine vl rfl rfl (xremv rfl rfl Ex14) <| vl rfl rfl xas <| nl <| wp_seq <| rg <| vl rfl rfl (xlda rfl ti25 rfl (Bx.cs hb7)) <| vl rfl rfl xmv <| vl rfl rfl xmv <| ?_
      have hz := bs hF; obtain ⟨x15, Ex15, hF⟩ := hz
      refine cl rfl rfl (xc cb24 (mc rfl (mc rfl (mc rfl mn)))) (c24 (show RV (α := ((List Int) × (List ((List Int) × (List Int))))) _ (.agg [.slice a1 x0.1.length cq1, .slice a2 x0.2.length cq2].toArray) (x0.1, x0.2) from ⟨_, rfl, ⟨[.slice a1 x0.1.length cq1], [.slice a2 x0.2.length cq2], rfl, r51.rep1, r52.rep1⟩⟩) r53 Ex15) ?_
      rintro _ w9 ⟨u5, rfl, r59, hx9⟩
      have k8 := k7.tr hx9
      have hb8 := hb7.ext hx9
      have r60 := r51.ext hx9
      have r61 := r52.ext hx9
      have r62 := r53.ext hx9
      have r63 := r54.ext hx9
      have r64 := r55.ext hx9
      have r65 := r56.ext hx9
      have r66 := r57.ext hx9
      have r67 := r58.ext hx9
      have r68 := r50.ext hx9
      have hz := RV.sl r59; obtain ⟨a11, cq11, rfl, -, -, -⟩ := hz
      refine vl rfl rfl xmv <| vl rfl rfl (xext rfl rfl) <| vl rfl rfl (xext rfl rfl) <| vl rfl rfl (xext rfl rfl) <| vl rfl rfl xas <| vl rfl rfl xas <| vl rfl rfl xas <| nl <| wp_seq <| rg <| vl rfl rfl (xlda rfl ti25 rfl (Bx.cs hb8)) <| vl rfl rfl xmv <| vl rfl rfl xmv <| ?_
      have hz := bs hF; obtain ⟨x16, Ex16, hF⟩ := hz
      refine cl rfl rfl (xc cb32 (mc rfl (mc rfl (mc rfl mn)))) (c32 (show RV (α := ((List Int) × (List ((List Int) × (List Int))))) _ (.agg [.slice a1 x0.1.length cq1, .slice a2 x0.2.length cq2].toArray) (x0.1, x0.2) from ⟨_, rfl, ⟨[.slice a1 x0.1.length cq1], [.slice a2 x0.2.length cq2], rfl, r60.rep1, r61.rep1⟩⟩) r62 r66 Ex16) ?_
      rintro _ w10 ⟨u6, rfl, r69, hx10⟩
      have k9 := k8.tr hx10
      have hb9 := hb8.ext hx10
      have r70 := r60.ext hx10
      have r71 := r61.ext hx10
      have r72 := r62.ext hx10
      have r73 := r63.ext hx10
      have r74 := r64.ext hx10
      have r75 := r65.ext hx10
      have r76 := r66.ext hx10
      have r77 := r67.ext hx10
      have r78 := r68.ext hx10
      have hz := RV.sl r69; obtain ⟨a12, cq12, rfl, -, -, -⟩ := hz
      refine vl rfl rfl xmv <| vl rfl rfl (xext rfl rfl) <| vl rfl rfl (xext rfl rfl) <| vl rfl rfl xas <| vl rfl rfl xas <| nl <| wp_seq <| wp_seq <| ?_
      have hz := bs hF; obtain ⟨y1, hB1, hF⟩ := hz
      refine ct (fun L w => L 144 = .bool y1 ∧ L 1 = .slice a3 x1.length cq3 ∧ L 3 = .slice a5 x3.length cq5 ∧ L 4 = .slice a6 x4.length cq6 ∧ L 6 = .pointer (some ⟨b7, 0, none⟩) ∧ L 14 = .slice a8 x10.1.length cq8 ∧ Ext w10 w) ?_ ?_
      ·
        refine rg <| vl rfl rfl xmv <| vl rfl rfl (xneq rfl rfl) <| vl rfl rfl xmv <| ?_
        refine Or.elim (Bool.eq_false_or_eq_true (!decide (x12.2 = 0))) (fun h9 => ?_) (fun h9 => ?_)
        ·
          have hB1 := ifp hB1 h9
          refine gfk rfl rfl rfl rfl rfl (btf h9) rfl <| gfk rfl rfl rfl rfl rfl (btf h9) rfl <| vl rfl rfl (xpt rfl h9 rfl) <| vl rfl rfl xmv <| ?_
          refine Or.elim (Bool.eq_false_or_eq_true true) (fun h10 => ?_) (fun h10 => ?_)
          ·
            have hB1 := ifp hB1 h10
            refine gfk rfl rfl rfl rfl rfl (btf h10) rfl <| gfk rfl rfl rfl rfl rfl (btf h10) rfl <| vl rfl rfl (xpt rfl h10 rfl) <| vl rfl rfl xmv <| gfk rfl rfl rfl rfl rfl (btf h10) rfl <| gfk rfl rfl rfl rfl rfl (btf h10) rfl <| vl rfl rfl (xpt rfl h10 rfl) <| vl rfl rfl xmv <| gfk rfl rfl rfl rfl rfl (btf h10) rfl <| gfk rfl rfl rfl rfl rfl (btf h10) rfl <| gfk rfl rfl rfl rfl rfl (btf h10) rfl <| gfk rfl rfl rfl rfl rfl (btf h10) rfl <| gfk rfl rfl rfl rfl rfl (btf h10) rfl <| vl rfl rfl (xpt rfl h10 rfl) <| vl rfl rfl xmv <| gfk rfl rfl rfl rfl rfl (btf h10) rfl <| gfk rfl rfl rfl rfl rfl (btf h10) rfl <| gfk rfl rfl rfl rfl rfl (btf h10) rfl <| gfk rfl rfl rfl rfl rfl (btf h10) rfl <| vl rfl rfl (xpt rfl h10 rfl) <| vl rfl rfl xmv <| gfk rfl rfl rfl rfl rfl (btf h10) rfl <| gfk rfl rfl rfl rfl rfl (btf h10) rfl <| gfk rfl rfl rfl rfl rfl (btf h10) rfl <| gfk rfl rfl rfl rfl rfl (btf h10) rfl <| gfk rfl rfl rfl rfl rfl (btf h10) rfl <| gfk rfl rfl rfl rfl rfl (btf h10) rfl <| vl rfl rfl (xpt rfl h10 rfl) <| nl <| ?_
            cases hB1
            refine lf <| ?_
            exact ⟨rfl, rfl, rfl, rfl, rfl, rfl, (Ext.refl _)⟩
          ·
            have hB1 := ifn hB1 h10
            refine gtk rfl rfl rfl rfl rfl (bf h10) <| vl rfl rfl xmv <| gtk rfl rfl rfl rfl rfl (bf h10) <| vl rfl rfl (xneq rfl rfl) <| vl rfl rfl (xpf rfl h10 rfl) <| vl rfl rfl xmv <| ?_
            refine Or.elim (Bool.eq_false_or_eq_true (!decide (x15.2.2 = 0))) (fun h11 => ?_) (fun h11 => ?_)
            ·
              have hB1 := ifp hB1 h11
              refine gfk rfl rfl rfl rfl rfl (btf h11) rfl <| gfk rfl rfl rfl rfl rfl (btf h11) rfl <| vl rfl rfl (xpt rfl h11 rfl) <| vl rfl rfl xmv <| gtk rfl rfl rfl rfl rfl (bf h10) <| vl rfl rfl xmv <| gtk rfl rfl rfl rfl rfl (bf h10) <| vl rfl rfl (xlen rfl Try.underlying26) <| gtk rfl rfl rfl rfl rfl (bf h10) <| vl rfl rfl xmv <| gtk rfl rfl rfl rfl rfl (bf h10) <| vl rfl rfl (xlen rfl Try.underlying26) <| gtk rfl rfl rfl rfl rfl (bf h10) <| vl rfl rfl (xgtr rfl rfl) <| vl rfl rfl (xpf rfl h10 rfl) <| vl rfl rfl xmv <| ?_
              refine Or.elim (Bool.eq_false_or_eq_true (decide ((x9.length : Int) < (x12.1.length : Int)))) (fun h12 => ?_) (fun h12 => ?_)
              ·
                have hB1 := ifp hB1 h12
                refine gfk rfl rfl rfl rfl rfl (btf h12) rfl <| gfk rfl rfl rfl rfl rfl (btf h12) rfl <| gfk rfl rfl rfl rfl rfl (btf h12) rfl <| gfk rfl rfl rfl rfl rfl (btf h12) rfl <| vl rfl rfl (xpt rfl h12 rfl) <| vl rfl rfl xmv <| gtk rfl rfl rfl rfl rfl (bf h10) <| vl rfl rfl xmv <| gtk rfl rfl rfl rfl rfl (bf h10) <| vl rfl rfl xmv <| ?_
                have hz := bs hB1; obtain ⟨x18, Ex18, hB1⟩ := hz
                have hz := (RV.els r76).ix Ex18; obtain ⟨b8, f1, cs7, e5, i1, i2, q9, hc1⟩ := hz
                cases e5
                obtain rfl := q9
                refine gtk rfl rfl rfl rfl rfl (bf h10) <| vl rfl rfl (xixs rfl rfl Try.underlying22 ti2 i1 i2) <| gtk rfl rfl rfl rfl rfl (bf h10) <| vl rfl rfl (xld rfl ti2 (hc1.at 0 rfl)) <| gtk rfl rfl rfl rfl rfl (bf h10) <| vl rfl rfl xmv <| gtk rfl rfl rfl rfl rfl (bf h10) <| vl rfl rfl (xgtr rfl rfl) <| vl rfl rfl (xpf rfl h10 rfl) <| nl <| ?_
                cases hB1
                refine lf <| ?_
                exact ⟨rfl, rfl, rfl, rfl, rfl, rfl, (Ext.refl _)⟩
              ·
                have hB1 := ifn hB1 h12
                refine gtk rfl rfl rfl rfl rfl (bf h12) <| vl rfl rfl xmv <| gtk rfl rfl rfl rfl rfl (bf h12) <| vl rfl rfl xmv <| ?_
                have hz := bs hB1; obtain ⟨x19, Ex19, hB1⟩ := hz
                refine gtk rfl rfl rfl rfl rfl (bf h12) <| cl rfl rfl (xc cb18 (mc rfl (mc rfl mn))) (c18 r78 r76 Ex19) ?_
                rintro _ w12 ⟨rfl, hx12⟩
                have k11 := k9.tr hx12
                have hb11 := hb9.ext hx12
                have r85 := r70.ext hx12
                have r86 := r71.ext hx12
                have r87 := r72.ext hx12
                have r88 := r73.ext hx12
                have r89 := r74.ext hx12
                have r90 := r76.ext hx12
                refine gtk rfl rfl rfl rfl rfl (bf h12) <| vl rfl rfl (xnot rfl) <| vl rfl rfl (xpf rfl h12 rfl) <| vl rfl rfl xmv <| ?_
                refine Or.elim (Bool.eq_false_or_eq_true (!x19)) (fun h13 => ?_) (fun h13 => ?_)
                ·
                  have hB1 := ifp hB1 h13
                  refine gfk rfl rfl rfl rfl rfl (btf h13) rfl <| gfk rfl rfl rfl rfl rfl (btf h13) rfl <| gfk rfl rfl rfl rfl rfl (btf h13) rfl <| gfk rfl rfl rfl rfl rfl (btf h13) rfl <| gfk rfl rfl rfl rfl rfl (btf h13) rfl <| gfk rfl rfl rfl rfl rfl (btf h13) rfl <| vl rfl rfl (xpt rfl h13 rfl) <| nl <| ?_
                  cases hB1
                  refine lf <| ?_
                  exact ⟨rfl, rfl, rfl, rfl, rfl, rfl, hx12⟩
                ·
                  have hB1 := ifn hB1 h13
                  refine gtk rfl rfl rfl rfl rfl (bf h13) <| vl rfl rfl xmv <| gtk rfl rfl rfl rfl rfl (bf h13) <| vl rfl rfl xmv <| ?_
                  have hz := bs hB1; obtain ⟨x20, Ex20, hB1⟩ := hz
                  have hz := (RV.els r76).ix Ex20; obtain ⟨b9, f2, cs8, e6, i3, i4, q10, hc2⟩ := hz
                  cases e6
                  obtain rfl := q10
                  have hc3 := hc2.ext hx12
                  refine gtk rfl rfl rfl rfl rfl (bf h13) <| vl rfl rfl (xixs rfl rfl Try.underlying22 ti2 i3 i4) <| gtk rfl rfl rfl rfl rfl (bf h13) <| vl rfl rfl (xld rfl ti2 (hc3.at 0 rfl)) <| gtk rfl rfl rfl rfl rfl (bf h13) <| vl rfl rfl xmv <| gtk rfl rfl rfl rfl rfl (bf h13) <| vl rfl rfl (xgtr rfl rfl) <| vl rfl rfl (xpf rfl h13 rfl) <| nl <| ?_
                  cases hB1
                  refine lf <| ?_
                  exact ⟨rfl, rfl, rfl, rfl, rfl, rfl, hx12⟩
            ·
              have hB1 := ifn hB1 h11
              refine gtk rfl rfl rfl rfl rfl (bf h11) <| vl rfl rfl xmv <| gtk rfl rfl rfl rfl rfl (bf h11) <| vl rfl rfl (xneq rfl rfl) <| vl rfl rfl (xpf rfl h11 rfl) <| vl rfl rfl xmv <| ?_
              refine Or.elim (Bool.eq_false_or_eq_true (!decide (x16.2 = 5))) (fun h14 => ?_) (fun h14 => ?_)
              ·
                have hB1 := ifp hB1 h14
                refine gfk rfl rfl rfl rfl rfl (btf h14) rfl <| gfk rfl rfl rfl rfl rfl (btf h14) rfl <| gfk rfl rfl rfl rfl rfl (btf h14) rfl <| gfk rfl rfl rfl rfl rfl (btf h14) rfl <| gfk rfl rfl rfl rfl rfl (btf h14) rfl <| vl rfl rfl (xpt rfl h14 rfl) <| vl rfl rfl xmv <| gtk rfl rfl rfl rfl rfl (bf h10) <| vl rfl rfl xmv <| gtk rfl rfl rfl rfl rfl (bf h10) <| vl rfl rfl xmv <| ?_
                have hz := bs hB1; obtain ⟨x21, Ex21, hB1⟩ := hz
                refine gtk rfl rfl rfl rfl rfl (bf h10) <| cl rfl rfl (xc cb18 (mc rfl (mc rfl mn))) (c18 r78 r76 Ex21) ?_
                rintro _ w13 ⟨rfl, hx13⟩
                have k12 := k9.tr hx13
                have hb12 := hb9.ext hx13
                have r91 := r70.ext hx13
                have r92 := r71.ext hx13
                have r93 := r72.ext hx13
                have r94 := r73.ext hx13
                have r95 := r74.ext hx13
                have r96 := r76.ext hx13
                refine gtk rfl rfl rfl rfl rfl (bf h10) <| vl rfl rfl (xnot rfl) <| vl rfl rfl (xpf rfl h10 rfl) <| vl rfl rfl xmv <| ?_
                refine Or.elim (Bool.eq_false_or_eq_true (!x21)) (fun h15 => ?_) (fun h15 => ?_)
                ·
                  have hB1 := ifp hB1 h15
                  refine gfk rfl rfl rfl rfl rfl (btf h15) rfl <| gfk rfl rfl rfl rfl rfl (btf h15) rfl <| gfk rfl rfl rfl rfl rfl (btf h15) rfl <| gfk rfl rfl rfl rfl rfl (btf h15) rfl <| gfk rfl rfl rfl rfl rfl (btf h15) rfl <| gfk rfl rfl rfl rfl rfl (btf h15) rfl <| vl rfl rfl (xpt rfl h15 rfl) <| nl <| ?_
                  cases hB1
                  refine lf <| ?_
                  exact ⟨rfl, rfl, rfl, rfl, rfl, rfl, hx13⟩
                ·
                  have hB1 := ifn hB1 h15
                  refine gtk rfl rfl rfl rfl rfl (bf h15) <| vl rfl rfl xmv <| gtk rfl rfl rfl rfl rfl (bf h15) <| vl rfl rfl xmv <| ?_
                  have hz := bs hB1; obtain ⟨x22, Ex22, hB1⟩ := hz
                  have hz := (RV.els r76).ix Ex22; obtain ⟨b10, f3, cs9, e7, i5, i6, q11, hc4⟩ := hz
                  cases e7
                  obtain rfl := q11
                  have hc5 := hc4.ext hx13
                  refine gtk rfl rfl rfl rfl rfl (bf h15) <| vl rfl rfl (xixs rfl rfl Try.underlying22 ti2 i5 i6) <| gtk rfl rfl rfl rfl rfl (bf h15) <| vl rfl rfl (xld rfl ti2 (hc5.at 0 rfl)) <| gtk rfl rfl rfl rfl rfl (bf h15) <| vl rfl rfl xmv <| gtk rfl rfl rfl rfl rfl (bf h15) <| vl rfl rfl (xgtr rfl rfl) <| vl rfl rfl (xpf rfl h15 rfl) <| nl <| ?_
                  cases hB1
                  refine lf <| ?_
                  exact ⟨rfl, rfl, rfl, rfl, rfl, rfl, hx13⟩
              ·
                have hB1 := ifn hB1 h14
                refine gtk rfl rfl rfl rfl rfl (bf h14) <| vl rfl rfl xmv <| gtk rfl rfl rfl rfl rfl (bf h14) <| vl rfl rfl (xlen rfl Try.underlying26) <| gtk rfl rfl rfl rfl rfl (bf h14) <| vl rfl rfl xmv <| gtk rfl rfl rfl rfl rfl (bf h14) <| vl rfl rfl (xlen rfl Try.underlying26) <| gtk rfl rfl rfl rfl rfl (bf h14) <| vl rfl rfl (xgtr rfl rfl) <| vl rfl rfl (xpf rfl h14 rfl) <| vl rfl rfl xmv <| ?_
                refine Or.elim (Bool.eq_false_or_eq_true (decide ((x9.length : Int) < (x12.1.length : Int)))) (fun h16 => ?_) (fun h16 => ?_)
                ·
                  have hB1 := ifp hB1 h16
                  refine gfk rfl rfl rfl rfl rfl (btf h16) rfl <| gfk rfl rfl rfl rfl rfl (btf h16) rfl <| gfk rfl rfl rfl rfl rfl (btf h16) rfl <| gfk rfl rfl rfl rfl rfl (btf h16) rfl <| vl rfl rfl (xpt rfl h16 rfl) <| vl rfl rfl xmv <| gtk rfl rfl rfl rfl rfl (bf h10) <| vl rfl rfl xmv <| gtk rfl rfl rfl rfl rfl (bf h10) <| vl rfl rfl xmv <| ?_
                  have hz := bs hB1; obtain ⟨x23, Ex23, hB1⟩ := hz
                  have hz := (RV.els r76).ix Ex23; obtain ⟨b11, f4, cs10, e8, i7, i8, q12, hc6⟩ := hz
                  cases e8
                  obtain rfl := q12
                  refine gtk rfl rfl rfl rfl rfl (bf h10) <| vl rfl rfl (xixs rfl rfl Try.underlying22 ti2 i7 i8) <| gtk rfl rfl rfl rfl rfl (bf h10) <| vl rfl rfl (xld rfl ti2 (hc6.at 0 rfl)) <| gtk rfl rfl rfl rfl rfl (bf h10) <| vl rfl rfl xmv <| gtk rfl rfl rfl rfl rfl (bf h10) <| vl rfl rfl (xgtr rfl rfl) <| vl rfl rfl (xpf rfl h10 rfl) <| nl <| ?_
                  cases hB1
                  refine lf <| ?_
                  exact ⟨rfl, rfl, rfl, rfl, rfl, rfl, (Ext.refl _)⟩
                ·
                  have hB1 := ifn hB1 h16
                  refine gtk rfl rfl rfl rfl rfl (bf h16) <| vl rfl rfl xmv <| gtk rfl rfl rfl rfl rfl (bf h16) <| vl rfl rfl xmv <| ?_
                  have hz := bs hB1; obtain ⟨x24, Ex24, hB1⟩ := hz
                  refine gtk rfl rfl rfl rfl rfl (bf h16) <| cl rfl rfl (xc cb18 (mc rfl (mc rfl mn))) (c18 r78 r76 Ex24) ?_
                  rintro _ w14 ⟨rfl, hx14⟩
                  have k13 := k9.tr hx14
                  have hb13 := hb9.ext hx14
                  have r97 := r70.ext hx14
                  have r98 := r71.ext hx14
                  have r99 := r72.ext hx14
                  have r100 := r73.ext hx14
                  have r101 := r74.ext hx14
                  have r102 := r76.ext hx14
                  refine gtk rfl rfl rfl rfl rfl (bf h16) <| vl rfl rfl (xnot rfl) <| vl rfl rfl (xpf rfl h16 rfl) <| vl rfl rfl xmv <| ?_
                  refine Or.elim (Bool.eq_false_or_eq_true (!x24)) (fun h17 => ?_) (fun h17 => ?_)
                  ·
                    have hB1 := ifp hB1 h17
                    refine gfk rfl rfl rfl rfl rfl (btf h17) rfl <| gfk rfl rfl rfl rfl rfl (btf h17) rfl <| gfk rfl rfl rfl rfl rfl (btf h17) rfl <| gfk rfl rfl rfl rfl rfl (btf h17) rfl <| gfk rfl rfl rfl rfl rfl (btf h17) rfl <| gfk rfl rfl rfl rfl rfl (btf h17) rfl <| vl rfl rfl (xpt rfl h17 rfl) <| nl <| ?_
                    cases hB1
                    refine lf <| ?_
                    exact ⟨rfl, rfl, rfl, rfl, rfl, rfl, hx14⟩
                  ·
                    have hB1 := ifn hB1 h17
                    refine gtk rfl rfl rfl rfl rfl (bf h17) <| vl rfl rfl xmv <| gtk rfl rfl rfl rfl rfl (bf h17) <| vl rfl rfl xmv <| ?_
                    have hz := bs hB1; obtain ⟨x25, Ex25, hB1⟩ := hz
                    have hz := (RV.els r76).ix Ex25; obtain ⟨b12, f5, cs11, e9, i9, i10, q13, hc7⟩ := hz
                    cases e9
                    obtain rfl := q13
                    have hc8 := hc7.ext hx14
                    refine gtk rfl rfl rfl rfl rfl (bf h17) <| vl rfl rfl (xixs rfl rfl Try.underlying22 ti2 i9 i10) <| gtk rfl rfl rfl rfl rfl (bf h17) <| vl rfl rfl (xld rfl ti2 (hc8.at 0 rfl)) <| gtk rfl rfl rfl rfl rfl (bf h17) <| vl rfl rfl xmv <| gtk rfl rfl rfl rfl rfl (bf h17) <| vl rfl rfl (xgtr rfl rfl) <| vl rfl rfl (xpf rfl h17 rfl) <| nl <| ?_
                    cases hB1
                    refine lf <| ?_
                    exact ⟨rfl, rfl, rfl, rfl, rfl, rfl, hx14⟩
        ·
          have hB1 := ifn hB1 h9
          refine gtk rfl rfl rfl rfl rfl (bf h9) <| vl rfl rfl xmv <| gtk rfl rfl rfl rfl rfl (bf h9) <| vl rfl rfl (xneq rfl rfl) <| vl rfl rfl (xpf rfl h9 rfl) <| vl rfl rfl xmv <| ?_
          refine Or.elim (Bool.eq_false_or_eq_true (!decide (x13.2 = 0))) (fun h18 => ?_) (fun h18 => ?_)
          ·
            have hB1 := ifp hB1 h18
            refine gfk rfl rfl rfl rfl rfl (btf h18) rfl <| gfk rfl rfl rfl rfl rfl (btf h18) rfl <| vl rfl rfl (xpt rfl h18 rfl) <| vl rfl rfl xmv <| ?_
            refine Or.elim (Bool.eq_false_or_eq_true true) (fun h19 => ?_) (fun h19 => ?_)
            ·
              have hB1 := ifp hB1 h19
              refine gfk rfl rfl rfl rfl rfl (btf h19) rfl <| gfk rfl rfl rfl rfl rfl (btf h19) rfl <| vl rfl rfl (xpt rfl h19 rfl) <| vl rfl rfl xmv <| gfk rfl rfl rfl rfl rfl (btf h19) rfl <| gfk rfl rfl rfl rfl rfl (btf h19) rfl <| gfk rfl rfl rfl rfl rfl (btf h19) rfl <| gfk rfl rfl rfl rfl rfl (btf h19) rfl <| gfk rfl rfl rfl rfl rfl (btf h19) rfl <| vl rfl rfl (xpt rfl h19 rfl) <| vl rfl rfl xmv <| gfk rfl rfl rfl rfl rfl (btf h19) rfl <| gfk rfl rfl rfl rfl rfl (btf h19) rfl <| gfk rfl rfl rfl rfl rfl (btf h19) rfl <| gfk rfl rfl rfl rfl rfl (btf h19) rfl <| vl rfl rfl (xpt rfl h19 rfl) <| vl rfl rfl xmv <| gfk rfl rfl rfl rfl rfl (btf h19) rfl <| gfk rfl rfl rfl rfl rfl (btf h19) rfl <| gfk rfl rfl rfl rfl rfl (btf h19) rfl <| gfk rfl rfl rfl rfl rfl (btf h19) rfl <| gfk rfl rfl rfl rfl rfl (btf h19) rfl <| gfk rfl rfl rfl rfl rfl (btf h19) rfl <| vl rfl rfl (xpt rfl h19 rfl) <| nl <| ?_
              cases hB1
              refine lf <| ?_
              exact ⟨rfl, rfl, rfl, rfl, rfl, rfl, (Ext.refl _)⟩
            ·
              have hB1 := ifn hB1 h19
              refine gtk rfl rfl rfl rfl rfl (bf h19) <| vl rfl rfl xmv <| gtk rfl rfl rfl rfl rfl (bf h19) <| vl rfl rfl (xneq rfl rfl) <| vl rfl rfl (xpf rfl h19 rfl) <| vl rfl rfl xmv <| ?_
              refine Or.elim (Bool.eq_false_or_eq_true (!decide (x16.2 = 5))) (fun h20 => ?_) (fun h20 => ?_)
              ·
                have hB1 := ifp hB1 h20
                refine gfk rfl rfl rfl rfl rfl (btf h20) rfl <| gfk rfl rfl rfl rfl rfl (btf h20) rfl <| gfk rfl rfl rfl rfl rfl (btf h20) rfl <| gfk rfl rfl rfl rfl rfl (btf h20) rfl <| gfk rfl rfl rfl rfl rfl (btf h20) rfl <| vl rfl rfl (xpt rfl h20 rfl) <| vl rfl rfl xmv <| gtk rfl rfl rfl rfl rfl (bf h19) <| vl rfl rfl xmv <| gtk rfl rfl rfl rfl rfl (bf h19) <| vl rfl rfl xmv <| ?_
                have hz := bs hB1; obtain ⟨x26, Ex26, hB1⟩ := hz
                refine gtk rfl rfl rfl rfl rfl (bf h19) <| cl rfl rfl (xc cb18 (mc rfl (mc rfl mn))) (c18 r78 r76 Ex26) ?_
                rintro _ w15 ⟨rfl, hx15⟩
                have k14 := k9.tr hx15
                have hb14 := hb9.ext hx15
                have r103 := r70.ext hx15
                have r104 := r71.ext hx15
                have r105 := r72.ext hx15
                have r106 := r73.ext hx15
                have r107 := r74.ext hx15
                have r108 := r76.ext hx15
                refine gtk rfl rfl rfl rfl rfl (bf h19) <| vl rfl rfl (xnot rfl) <| vl rfl rfl (xpf rfl h19 rfl) <| vl rfl rfl xmv <| ?_
                refine Or.elim (Bool.eq_false_or_eq_true (!x26)) (fun h21 => ?_) (fun h21 => ?_)
                ·
                  have hB1 := ifp hB1 h21
                  refine gfk rfl rfl rfl rfl rfl (btf h21) rfl <| gfk rfl rfl rfl rfl rfl (btf h21) rfl <| gfk rfl rfl rfl rfl rfl (btf h21) rfl <| gfk rfl rfl rfl rfl rfl (btf h21) rfl <| gfk rfl rfl rfl rfl rfl (btf h21) rfl <| gfk rfl rfl rfl rfl rfl (btf h21) rfl <| vl rfl rfl (xpt rfl h21 rfl) <| nl <| ?_
                  cases hB1
                  refine lf <| ?_
                  exact ⟨rfl, rfl, rfl, rfl, rfl, rfl, hx15⟩
                ·
                  have hB1 := ifn hB1 h21
                  refine gtk rfl rfl rfl rfl rfl (bf h21) <| vl rfl rfl xmv <| gtk rfl rfl rfl rfl rfl (bf h21) <| vl rfl rfl xmv <| ?_
                  have hz := bs hB1; obtain ⟨x27, Ex27, hB1⟩ := hz
                  have hz := (RV.els r76).ix Ex27; obtain ⟨b13, f6, cs12, e10, i11, i12, q14, hc9⟩ := hz
                  cases e10
                  obtain rfl := q14
                  have hc10 := hc9.ext hx15
                  refine gtk rfl rfl rfl rfl rfl (bf h21) <| vl rfl rfl (xixs rfl rfl Try.underlying22 ti2 i11 i12) <| gtk rfl rfl rfl rfl rfl (bf h21) <| vl rfl rfl (xld rfl ti2 (hc10.at 0 rfl)) <| gtk rfl rfl rfl rfl rfl (bf h21) <| vl rfl rfl xmv <| gtk rfl rfl rfl rfl rfl (bf h21) <| vl rfl rfl (xgtr rfl rfl) <| vl rfl rfl (xpf rfl h21 rfl) <| nl <| ?_
                  cases hB1
                  refine lf <| ?_
                  exact ⟨rfl, rfl, rfl, rfl, rfl, rfl, hx15⟩
              ·
                have hB1 := ifn hB1 h20
                refine gtk rfl rfl rfl rfl rfl (bf h20) <| vl rfl rfl xmv <| gtk rfl rfl rfl rfl rfl (bf h20) <| vl rfl rfl (xlen rfl Try.underlying26) <| gtk rfl rfl rfl rfl rfl (bf h20) <| vl rfl rfl xmv <| gtk rfl rfl rfl rfl rfl (bf h20) <| vl rfl rfl (xlen rfl Try.underlying26) <| gtk rfl rfl rfl rfl rfl (bf h20) <| vl rfl rfl (xgtr rfl rfl) <| vl rfl rfl (xpf rfl h20 rfl) <| vl rfl rfl xmv <| ?_
                refine Or.elim (Bool.eq_false_or_eq_true (decide ((x9.length : Int) < (x12.1.length : Int)))) (fun h22 => ?_) (fun h22 => ?_)
                ·
                  have hB1 := ifp hB1 h22
                  refine gfk rfl rfl rfl rfl rfl (btf h22) rfl <| gfk rfl rfl rfl rfl rfl (btf h22) rfl <| gfk rfl rfl rfl rfl rfl (btf h22) rfl <| gfk rfl rfl rfl rfl rfl (btf h22) rfl <| vl rfl rfl (xpt rfl h22 rfl) <| vl rfl rfl xmv <| gtk rfl rfl rfl rfl rfl (bf h19) <| vl rfl rfl xmv <| gtk rfl rfl rfl rfl rfl (bf h19) <| vl rfl rfl xmv <| ?_
                  have hz := bs hB1; obtain ⟨x28, Ex28, hB1⟩ := hz
                  have hz := (RV.els r76).ix Ex28; obtain ⟨b14, f7, cs13, e11, i13, i14, q15, hc11⟩ := hz
                  cases e11
                  obtain rfl := q15
                  refine gtk rfl rfl rfl rfl rfl (bf h19) <| vl rfl rfl (xixs rfl rfl Try.underlying22 ti2 i13 i14) <| gtk rfl rfl rfl rfl rfl (bf h19) <| vl rfl rfl (xld rfl ti2 (hc11.at 0 rfl)) <| gtk rfl rfl rfl rfl rfl (bf h19) <| vl rfl rfl xmv <| gtk rfl rfl rfl rfl rfl (bf h19) <| vl rfl rfl (xgtr rfl rfl) <| vl rfl rfl (xpf rfl h19 rfl) <| nl <| ?_
                  cases hB1
                  refine lf <| ?_
                  exact ⟨rfl, rfl, rfl, rfl, rfl, rfl, (Ext.refl _)⟩
                ·
                  have hB1 := ifn hB1 h22
                  refine gtk rfl rfl rfl rfl rfl (bf h22) <| vl rfl rfl xmv <| gtk rfl rfl rfl rfl rfl (bf h22) <| vl rfl rfl xmv <| ?_
                  have hz := bs hB1; obtain ⟨x29, Ex29, hB1⟩ := hz
                  refine gtk rfl rfl rfl rfl rfl (bf h22) <| cl rfl rfl (xc cb18 (mc rfl (mc rfl mn))) (c18 r78 r76 Ex29) ?_
                  rintro _ w16 ⟨rfl, hx16⟩
                  have k15 := k9.tr hx16
                  have hb15 := hb9.ext hx16
                  have r109 := r70.ext hx16
                  have r110 := r71.ext hx16
                  have r111 := r72.ext hx16
                  have r112 := r73.ext hx16
                  have r113 := r74.ext hx16
                  have r114 := r76.ext hx16
                  refine gtk rfl rfl rfl rfl rfl (bf h22) <| vl rfl rfl (xnot rfl) <| vl rfl rfl (xpf rfl h22 rfl) <| vl rfl rfl xmv <| ?_
                  refine Or.elim (Bool.eq_false_or_eq_true (!x29)) (fun h23 => ?_) (fun h23 => ?_)
                  ·
                    have hB1 := ifp hB1 h23
                    refine gfk rfl rfl rfl rfl rfl (btf h23) rfl <| gfk rfl rfl rfl rfl rfl (btf h23) rfl <| gfk rfl rfl rfl rfl rfl (btf h23) rfl <| gfk rfl rfl rfl rfl rfl (btf h23) rfl <| gfk rfl rfl rfl rfl rfl (btf h23) rfl <| gfk rfl rfl rfl rfl rfl (btf h23) rfl <| vl rfl rfl (xpt rfl h23 rfl) <| nl <| ?_
                    cases hB1
                    refine lf <| ?_
                    exact ⟨rfl, rfl, rfl, rfl, rfl, rfl, hx16⟩
                  ·
                    have hB1 := ifn hB1 h23
                    refine gtk rfl rfl rfl rfl rfl (bf h23) <| vl rfl rfl xmv <| gtk rfl rfl rfl rfl rfl (bf h23) <| vl rfl rfl xmv <| ?_
                    have hz := bs hB1; obtain ⟨x30, Ex30, hB1⟩ := hz
                    have hz := (RV.els r76).ix Ex30; obtain ⟨b15, f8, cs14, e12, i15, i16, q16, hc12⟩ := hz
                    cases e12
                    obtain rfl := q16
                    have hc13 := hc12.ext hx16
                    refine gtk rfl rfl rfl rfl rfl (bf h23) <| vl rfl rfl (xixs rfl rfl Try.underlying22 ti2 i15 i16) <| gtk rfl rfl rfl rfl rfl (bf h23) <| vl rfl rfl (xld rfl ti2 (hc13.at 0 rfl)) <| gtk rfl rfl rfl rfl rfl (bf h23) <| vl rfl rfl xmv <| gtk rfl rfl rfl rfl rfl (bf h23) <| vl rfl rfl (xgtr rfl rfl) <| vl rfl rfl (xpf rfl h23 rfl) <| nl <| ?_
                    cases hB1
                    refine lf <| ?_
                    exact ⟨rfl, rfl, rfl, rfl, rfl, rfl, hx16⟩
          ·
            have hB1 := ifn hB1 h18
            refine gtk rfl rfl rfl rfl rfl (bf h18) <| vl rfl rfl xmv <| gtk rfl rfl rfl rfl rfl (bf h18) <| vl rfl rfl (xneq rfl rfl) <| vl rfl rfl (xpf rfl h18 rfl) <| vl rfl rfl xmv <| ?_
            refine Or.elim (Bool.eq_false_or_eq_true (!decide (x15.2.2 = 0))) (fun h24 => ?_) (fun h24 => ?_)
            ·
              have hB1 := ifp hB1 h24
              refine gfk rfl rfl rfl rfl rfl (btf h24) rfl <| gfk rfl rfl rfl rfl rfl (btf h24) rfl <| vl rfl rfl (xpt rfl h24 rfl) <| vl rfl rfl xmv <| ?_
              refine Or.elim (Bool.eq_false_or_eq_true true) (fun h25 => ?_) (fun h25 => ?_)
              ·
                have hB1 := ifp hB1 h25
                refine gfk rfl rfl rfl rfl rfl (btf h25) rfl <| gfk rfl rfl rfl rfl rfl (btf h25) rfl <| gfk rfl rfl rfl rfl rfl (btf h25) rfl <| gfk rfl rfl rfl rfl rfl (btf h25) rfl <| gfk rfl rfl rfl rfl rfl (btf h25) rfl <| vl rfl rfl (xpt rfl h25 rfl) <| vl rfl rfl xmv <| gfk rfl rfl rfl rfl rfl (btf h25) rfl <| gfk rfl rfl rfl rfl rfl (btf h25) rfl <| gfk rfl rfl rfl rfl rfl (btf h25) rfl <| gfk rfl rfl rfl rfl rfl (btf h25) rfl <| vl rfl rfl (xpt rfl h25 rfl) <| vl rfl rfl xmv <| gfk rfl rfl rfl rfl rfl (btf h25) rfl <| gfk rfl rfl rfl rfl rfl (btf h25) rfl <| gfk rfl rfl rfl rfl rfl (btf h25) rfl <| gfk rfl rfl rfl rfl rfl (btf h25) rfl <| gfk rfl rfl rfl rfl rfl (btf h25) rfl <| gfk rfl rfl rfl rfl rfl (btf h25) rfl <| vl rfl rfl (xpt rfl h25 rfl) <| nl <| ?_
                cases hB1
                refine lf <| ?_
                exact ⟨rfl, rfl, rfl, rfl, rfl, rfl, (Ext.refl _)⟩
              ·
                have hB1 := ifn hB1 h25
                refine gtk rfl rfl rfl rfl rfl (bf h25) <| vl rfl rfl xmv <| gtk rfl rfl rfl rfl rfl (bf h25) <| vl rfl rfl (xlen rfl Try.underlying26) <| gtk rfl rfl rfl rfl rfl (bf h25) <| vl rfl rfl xmv <| gtk rfl rfl rfl rfl rfl (bf h25) <| vl rfl rfl (xlen rfl Try.underlying26) <| gtk rfl rfl rfl rfl rfl (bf h25) <| vl rfl rfl (xgtr rfl rfl) <| vl rfl rfl (xpf rfl h25 rfl) <| vl rfl rfl xmv <| ?_
                refine Or.elim (Bool.eq_false_or_eq_true (decide ((x9.length : Int) < (x12.1.length : Int)))) (fun h26 => ?_) (fun h26 => ?_)
                ·
                  have hB1 := ifp hB1 h26
                  refine gfk rfl rfl rfl rfl rfl (btf h26) rfl <| gfk rfl rfl rfl rfl rfl (btf h26) rfl <| gfk rfl rfl rfl rfl rfl (btf h26) rfl <| gfk rfl rfl rfl rfl rfl (btf h26) rfl <| vl rfl rfl (xpt rfl h26 rfl) <| vl rfl rfl xmv <| gtk rfl rfl rfl rfl rfl (bf h25) <| vl rfl rfl xmv <| gtk rfl rfl rfl rfl rfl (bf h25) <| vl rfl rfl xmv <| ?_
                  have hz := bs hB1; obtain ⟨x31, Ex31, hB1⟩ := hz
                  have hz := (RV.els r76).ix Ex31; obtain ⟨b16, f9, cs15, e13, i17, i18, q17, hc14⟩ := hz
                  cases e13
                  obtain rfl := q17
                  refine gtk rfl rfl rfl rfl rfl (bf h25) <| vl rfl rfl (xixs rfl rfl Try.underlying22 ti2 i17 i18) <| gtk rfl rfl rfl rfl rfl (bf h25) <| vl rfl rfl (xld rfl ti2 (hc14.at 0 rfl)) <| gtk rfl rfl rfl rfl rfl (bf h25) <| vl rfl rfl xmv <| gtk rfl rfl rfl rfl rfl (bf h25) <| vl rfl rfl (xgtr rfl rfl) <| vl rfl rfl (xpf rfl h25 rfl) <| nl <| ?_
                  cases hB1
                  refine lf <| ?_
                  exact ⟨rfl, rfl, rfl, rfl, rfl, rfl, (Ext.refl _)⟩
                ·
                  have hB1 := ifn hB1 h26
                  refine gtk rfl rfl rfl rfl rfl (bf h26) <| vl rfl rfl xmv <| gtk rfl rfl rfl rfl rfl (bf h26) <| vl rfl rfl xmv <| ?_
                  have hz := bs hB1; obtain ⟨x32, Ex32, hB1⟩ := hz
                  refine gtk rfl rfl rfl rfl rfl (bf h26) <| cl rfl rfl (xc cb18 (mc rfl (mc rfl mn))) (c18 r78 r76 Ex32) ?_
                  rintro _ w17 ⟨rfl, hx17⟩
                  have k16 := k9.tr hx17
                  have hb16 := hb9.ext hx17
                  have r115 := r70.ext hx17
                  have r116 := r71.ext hx17
                  have r117 := r72.ext hx17
                  have r118 := r73.ext hx17
                  have r119 := r74.ext hx17
                  have r120 := r76.ext hx17
                  refine gtk rfl rfl rfl rfl rfl (bf h26) <| vl rfl rfl (xnot rfl) <| vl rfl rfl (xpf rfl h26 rfl) <| vl rfl rfl xmv <| ?_
                  refine Or.elim (Bool.eq_false_or_eq_true (!x32)) (fun h27 => ?_) (fun h27 => ?_)
                  ·
                    have hB1 := ifp hB1 h27
                    refine gfk rfl rfl rfl rfl rfl (btf h27) rfl <| gfk rfl rfl rfl rfl rfl (btf h27) rfl <| gfk rfl rfl rfl rfl rfl (btf h27) rfl <| gfk rfl rfl rfl rfl rfl (btf h27) rfl <| gfk rfl rfl rfl rfl rfl (btf h27) rfl <| gfk rfl rfl rfl rfl rfl (btf h27) rfl <| vl rfl rfl (xpt rfl h27 rfl) <| nl <| ?_
                    cases hB1
                    refine lf <| ?_
                    exact ⟨rfl, rfl, rfl, rfl, rfl, rfl, hx17⟩
                  ·
                    have hB1 := ifn hB1 h27
                    refine gtk rfl rfl rfl rfl rfl (bf h27) <| vl rfl rfl xmv <| gtk rfl rfl rfl rfl rfl (bf h27) <| vl rfl rfl xmv <| ?_
                    have hz := bs hB1; obtain ⟨x33, Ex33, hB1⟩ := hz
                    have hz := (RV.els r76).ix Ex33; obtain ⟨b17, f10, cs16, e14, i19, i20, q18, hc15⟩ := hz
                    cases e14
                    obtain rfl := q18
                    have hc16 := hc15.ext hx17
                    refine gtk rfl rfl rfl rfl rfl (bf h27) <| vl rfl rfl (xixs rfl rfl Try.underlying22 ti2 i19 i20) <| gtk rfl rfl rfl rfl rfl (bf h27) <| vl rfl rfl (xld rfl ti2 (hc16.at 0 rfl)) <| gtk rfl rfl rfl rfl rfl (bf h27) <| vl rfl rfl xmv <| gtk rfl rfl rfl rfl rfl (bf h27) <| vl rfl rfl (xgtr rfl rfl) <| vl rfl rfl (xpf rfl h27 rfl) <| nl <| ?_
                    cases hB1
                    refine lf <| ?_
                    exact ⟨rfl, rfl, rfl, rfl, rfl, rfl, hx17⟩
            ·
              have hB1 := ifn hB1 h24
              refine gtk rfl rfl rfl rfl rfl (bf h24) <| vl rfl rfl xmv <| gtk rfl rfl rfl rfl rfl (bf h24) <| vl rfl rfl (xneq rfl rfl) <| vl rfl rfl (xpf rfl h24 rfl) <| vl rfl rfl xmv <| ?_
              refine Or.elim (Bool.eq_false_or_eq_true (!decide (x16.2 = 5))) (fun h28 => ?_) (fun h28 => ?_)
              ·
                have hB1 := ifp hB1 h28
                refine gfk rfl rfl rfl rfl rfl (btf h28) rfl <| gfk rfl rfl rfl rfl rfl (btf h28) rfl <| gfk rfl rfl rfl rfl rfl (btf h28) rfl <| gfk rfl rfl rfl rfl rfl (btf h28) rfl <| gfk rfl rfl rfl rfl rfl (btf h28) rfl <| vl rfl rfl (xpt rfl h28 rfl) <| vl rfl rfl xmv <| ?_
                refine Or.elim (Bool.eq_false_or_eq_true true) (fun h29 => ?_) (fun h29 => ?_)
                ·
                  have hB1 := ifp hB1 h29
                  refine gfk rfl rfl rfl rfl rfl (btf h29) rfl <| gfk rfl rfl rfl rfl rfl (btf h29) rfl <| gfk rfl rfl rfl rfl rfl (btf h29) rfl <| gfk rfl rfl rfl rfl rfl (btf h29) rfl <| vl rfl rfl (xpt rfl h29 rfl) <| vl rfl rfl xmv <| gfk rfl rfl rfl rfl rfl (btf h29) rfl <| gfk rfl rfl rfl rfl rfl (btf h29) rfl <| gfk rfl rfl rfl rfl rfl (btf h29) rfl <| gfk rfl rfl rfl rfl rfl (btf h29) rfl <| gfk rfl rfl rfl rfl rfl (btf h29) rfl <| gfk rfl rfl rfl rfl rfl (btf h29) rfl <| vl rfl rfl (xpt rfl h29 rfl) <| nl <| ?_
                  cases hB1
                  refine lf <| ?_
                  exact ⟨rfl, rfl, rfl, rfl, rfl, rfl, (Ext.refl _)⟩
                ·
                  have hB1 := ifn hB1 h29
                  refine gtk rfl rfl rfl rfl rfl (bf h29) <| vl rfl rfl xmv <| gtk rfl rfl rfl rfl rfl (bf h29) <| vl rfl rfl xmv <| ?_
                  have hz := bs hB1; obtain ⟨x34, Ex34, hB1⟩ := hz
                  refine gtk rfl rfl rfl rfl rfl (bf h29) <| cl rfl rfl (xc cb18 (mc rfl (mc rfl mn))) (c18 r78 r76 Ex34) ?_
                  rintro _ w18 ⟨rfl, hx18⟩
                  have k17 := k9.tr hx18
                  have hb17 := hb9.ext hx18
                  have r121 := r70.ext hx18
                  have r122 := r71.ext hx18
                  have r123 := r72.ext hx18
                  have r124 := r73.ext hx18
                  have r125 := r74.ext hx18
                  have r126 := r76.ext hx18
                  refine gtk rfl rfl rfl rfl rfl (bf h29) <| vl rfl rfl (xnot rfl) <| vl rfl rfl (xpf rfl h29 rfl) <| vl rfl rfl xmv <| ?_
                  refine Or.elim (Bool.eq_false_or_eq_true (!x34)) (fun h30 => ?_) (fun h30 => ?_)
                  ·
                    have hB1 := ifp hB1 h30
                    refine gfk rfl rfl rfl rfl rfl (btf h30) rfl <| gfk rfl rfl rfl rfl rfl (btf h30) rfl <| gfk rfl rfl rfl rfl rfl (btf h30) rfl <| gfk rfl rfl rfl rfl rfl (btf h30) rfl <| gfk rfl rfl rfl rfl rfl (btf h30) rfl <| gfk rfl rfl rfl rfl rfl (btf h30) rfl <| vl rfl rfl (xpt rfl h30 rfl) <| nl <| ?_
                    cases hB1
                    refine lf <| ?_
                    exact ⟨rfl, rfl, rfl, rfl, rfl, rfl, hx18⟩
                  ·
                    have hB1 := ifn hB1 h30
                    refine gtk rfl rfl rfl rfl rfl (bf h30) <| vl rfl rfl xmv <| gtk rfl rfl rfl rfl rfl (bf h30) <| vl rfl rfl xmv <| ?_
                    have hz := bs hB1; obtain ⟨x35, Ex35, hB1⟩ := hz
                    have hz := (RV.els r76).ix Ex35; obtain ⟨b18, f11, cs17, e15, i21, i22, q19, hc17⟩ := hz
                    cases e15
                    obtain rfl := q19
                    have hc18 := hc17.ext hx18
                    refine gtk rfl rfl rfl rfl rfl (bf h30) <| vl rfl rfl (xixs rfl rfl Try.underlying22 ti2 i21 i22) <| gtk rfl rfl rfl rfl rfl (bf h30) <| vl rfl rfl (xld rfl ti2 (hc18.at 0 rfl)) <| gtk rfl rfl rfl rfl rfl (bf h30) <| vl rfl rfl xmv <| gtk rfl rfl rfl rfl rfl (bf h30) <| vl rfl rfl (xgtr rfl rfl) <| vl rfl rfl (xpf rfl h30 rfl) <| nl <| ?_
                    cases hB1
                    refine lf <| ?_
                    exact ⟨rfl, rfl, rfl, rfl, rfl, rfl, hx18⟩
              ·
                have hB1 := ifn hB1 h28
                refine gtk rfl rfl rfl rfl rfl (bf h28) <| vl rfl rfl xmv <| gtk rfl rfl rfl rfl rfl (bf h28) <| vl rfl rfl (xlen rfl Try.underlying26) <| gtk rfl rfl rfl rfl rfl (bf h28) <| vl rfl rfl xmv <| gtk rfl rfl rfl rfl rfl (bf h28) <| vl rfl rfl (xlen rfl Try.underlying26) <| gtk rfl rfl rfl rfl rfl (bf h28) <| vl rfl rfl (xgtr rfl rfl) <| vl rfl rfl (xpf rfl h28 rfl) <| vl rfl rfl xmv <| ?_
                refine Or.elim (Bool.eq_false_or_eq_true (decide ((x9.length : Int) < (x12.1.length : Int)))) (fun h31 => ?_) (fun h31 => ?_)
                ·
                  have hB1 := ifp hB1 h31
                  refine gfk rfl rfl rfl rfl rfl (btf h31) rfl <| gfk rfl rfl rfl rfl rfl (btf h31) rfl <| gfk rfl rfl rfl rfl rfl (btf h31) rfl <| gfk rfl rfl rfl rfl rfl (btf h31) rfl <| vl rfl rfl (xpt rfl h31 rfl) <| vl rfl rfl xmv <| ?_
                  refine Or.elim (Bool.eq_false_or_eq_true true) (fun h32 => ?_) (fun h32 => ?_)
                  ·
                    have hB1 := ifp hB1 h32
                    refine gfk rfl rfl rfl rfl rfl (btf h32) rfl <| gfk rfl rfl rfl rfl rfl (btf h32) rfl <| gfk rfl rfl rfl rfl rfl (btf h32) rfl <| gfk rfl rfl rfl rfl rfl (btf h32) rfl <| gfk rfl rfl rfl rfl rfl (btf h32) rfl <| gfk rfl rfl rfl rfl rfl (btf h32) rfl <| vl rfl rfl (xpt rfl h32 rfl) <| nl <| ?_
                    cases hB1
                    refine lf <| ?_
                    exact ⟨rfl, rfl, rfl, rfl, rfl, rfl, (Ext.refl _)⟩
                  ·
                    have hB1 := ifn hB1 h32
                    refine gtk rfl rfl rfl rfl rfl (bf h32) <| vl rfl rfl xmv <| gtk rfl rfl rfl rfl rfl (bf h32) <| vl rfl rfl xmv <| ?_
                    have hz := bs hB1; obtain ⟨x36, Ex36, hB1⟩ := hz
                    have hz := (RV.els r76).ix Ex36; obtain ⟨b19, f12, cs18, e16, i23, i24, q20, hc19⟩ := hz
                    cases e16
                    obtain rfl := q20
                    refine gtk rfl rfl rfl rfl rfl (bf h32) <| vl rfl rfl (xixs rfl rfl Try.underlying22 ti2 i23 i24) <| gtk rfl rfl rfl rfl rfl (bf h32) <| vl rfl rfl (xld rfl ti2 (hc19.at 0 rfl)) <| gtk rfl rfl rfl rfl rfl (bf h32) <| vl rfl rfl xmv <| gtk rfl rfl rfl rfl rfl (bf h32) <| vl rfl rfl (xgtr rfl rfl) <| vl rfl rfl (xpf rfl h32 rfl) <| nl <| ?_
                    cases hB1
                    refine lf <| ?_
                    exact ⟨rfl, rfl, rfl, rfl, rfl, rfl, (Ext.refl _)⟩
                ·
                  have hB1 := ifn hB1 h31
                  refine gtk rfl rfl rfl rfl rfl (bf h31) <| vl rfl rfl xmv <| gtk rfl rfl rfl rfl rfl (bf h31) <| vl rfl rfl xmv <| ?_
                  have hz := bs hB1; obtain ⟨x37, Ex37, hB1⟩ := hz
                  refine gtk rfl rfl rfl rfl rfl (bf h31) <| cl rfl rfl (xc cb18 (mc rfl (mc rfl mn))) (c18 r78 r76 Ex37) ?_
                  rintro _ w19 ⟨rfl, hx19⟩
                  have k18 := k9.tr hx19
                  have hb18 := hb9.ext hx19
                  have r127 := r70.ext hx19
                  have r128 := r71.ext hx19
                  have r129 := r72.ext hx19
                  have r130 := r73.ext hx19
                  have r131 := r74.ext hx19
                  have r132 := r76.ext hx19
                  refine gtk rfl rfl rfl rfl rfl (bf h31) <| vl rfl rfl (xnot rfl) <| vl rfl rfl (xpf rfl h31 rfl) <| vl rfl rfl xmv <| ?_
                  refine Or.elim (Bool.eq_false_or_eq_true (!x37)) (fun h33 => ?_) (fun h33 => ?_)
                  ·
                    have hB1 := ifp hB1 h33
                    refine gfk rfl rfl rfl rfl rfl (btf h33) rfl <| gfk rfl rfl rfl rfl rfl (btf h33) rfl <| gfk rfl rfl rfl rfl rfl (btf h33) rfl <| gfk rfl rfl rfl rfl rfl (btf h33) rfl <| gfk rfl rfl rfl rfl rfl (btf h33) rfl <| gfk rfl rfl rfl rfl rfl (btf h33) rfl <| vl rfl rfl (xpt rfl h33 rfl) <| nl <| ?_
                    cases hB1
                    refine lf <| ?_
                    exact ⟨rfl, rfl, rfl, rfl, rfl, rfl, hx19⟩
                  ·
                    have hB1 := ifn hB1 h33
                    refine gtk rfl rfl rfl rfl rfl (bf h33) <| vl rfl rfl xmv <| gtk rfl rfl rfl rfl rfl (bf h33) <| vl rfl rfl xmv <| ?_
                    have hz := bs hB1; obtain ⟨x38, Ex38, hB1⟩ := hz
                    have hz := (RV.els r76).ix Ex38; obtain ⟨b20, f13, cs19, e17, i25, i26, q21, hc20⟩ := hz
                    cases e17
                    obtain rfl := q21
                    have hc21 := hc20.ext hx19
                    refine gtk rfl rfl rfl rfl rfl (bf h33) <| vl rfl rfl (xixs rfl rfl Try.underlying22 ti2 i25 i26) <| gtk rfl rfl rfl rfl rfl (bf h33) <| vl rfl rfl (xld rfl ti2 (hc21.at 0 rfl)) <| gtk rfl rfl rfl rfl rfl (bf h33) <| vl rfl rfl xmv <| gtk rfl rfl rfl rfl rfl (bf h33) <| vl rfl rfl (xgtr rfl rfl) <| vl rfl rfl (xpf rfl h33 rfl) <| nl <| ?_
                    cases hB1
                    refine lf <| ?_
                    exact ⟨rfl, rfl, rfl, rfl, rfl, rfl, hx19⟩
      rintro L w20 ⟨l144_j1, l1_j1, l3_j1, l4_j1, l6_j1, l14_j1, K0_j1⟩
      have k19 := k9.tr K0_j1
      have r133 := r72.ext K0_j1
      have r134 := r73.ext K0_j1
      have r135 := r74.ext K0_j1
      have r136 := r70.ext K0_j1
      have r137 := r71.ext K0_j1
      have hb19 := hb9.ext K0_j1
      have r138 := r76.ext K0_j1
      refine cnd l144_j1 (fun h34 => ?_) (fun h34 => ?_)
      ·
        have hF := ifp hF h34
        refine wp_seq <| rg <| vl rfl rfl xas <| nl <| ?_
        cases hF
        exact wp_ret <| rt rfl (.tmp rfl rfl .nil) ⟨rfl, k19⟩
      ·
        have hF := ifn hF h34
        refine wp_skip <| wp_seq <| wp_seq <| rg <| vl rfl rfl (xlda l6_j1 ti25 rfl (Bx.cs hb19)) <| vl rfl rfl xmv <| ?_
        have hz := bs hF; obtain ⟨x39, Ex39, hF⟩ := hz
        refine cl rfl rfl (xc cb33 (mc rfl (mc l3_j1 mn))) (c33 (show RV (α := ((List Int) × (List ((List Int) × (List Int))))) _ (.agg [.slice a1 x0.1.length cq1, .slice a2 x0.2.length cq2].toArray) (x0.1, x0.2) from ⟨_, rfl, ⟨[.slice a1 x0.1.length cq1], [.slice a2 x0.2.length cq2], rfl, r136.rep1, r137.rep1⟩⟩) r134 Ex39) ?_
        rintro _ w21 ⟨rfl, hx20⟩
        have k20 := k19.tr hx20
        have k21 := K0_j1.tr hx20
        have hb20 := hb19.ext hx20
        have r139 := r136.ext hx20
        have r140 := r137.ext hx20
        have r141 := r133.ext hx20
        have r142 := r134.ext hx20
        have r143 := r135.ext hx20
        have r144 := r138.ext hx20
        refine vl rfl rfl (xeql rfl rfl) <| vl rfl rfl xmv <| gv rfl rfl rfl rfl (gw1 rfl) rfl (fun hc => xmva l3_j1) <| gv rfl rfl rfl rfl (gw1 rfl) rfl (fun hc => xlen (mv hc rfl) Try.underlying22) <| gv rfl rfl rfl rfl (gw1 rfl) rfl (fun hc => xmva l1_j1) <| gv rfl rfl rfl rfl (gw1 rfl) rfl (fun hc => xlen (mv hc rfl) Try.underlying22) <| gv rfl rfl rfl rfl (gw1 rfl) rfl (fun hc => xneq (mv hc rfl) (mv hc rfl)) <| gv rfl rfl rfl rfl (gw1 rfl) rfl (fun hc => xmva (mv hc rfl)) <| gv rfl rfl rfl rfl (gn0 rfl) rfl (fun hc => xmva l3_j1) <| gv rfl rfl rfl rfl (gn0 rfl) rfl (fun hc => xmva l1_j1) <| ?_
        have hz := bs hF; obtain ⟨x40, Ex40, hF⟩ := hz
        refine gc rfl rfl rfl rfl (gn0 rfl) rfl (fun hc => xc cb34 (mc (mv hc rfl) (mc (mv hc rfl) mn))) (fun hc => (c34 r142 r141 (gdp Ex40 hc))) (fun v9 w22 hy3 hn3 => ?_)
        have hx21 : Ext w21 w22 := gx (fun h => (hy3 h).2) (fun h => (hn3 h).2 ▸ Ext.refl _)
        have e18 := mkw (fun h => (hy3 h).1) (fun h => (hn3 h).1)
        have k22 := k20.tr hx21
        have k23 := k21.tr hx21
        have hb21 := hb20.ext hx21
        have r145 := r139.ext hx21
        have r146 := r140.ext hx21
        have r147 := r141.ext hx21
        have r148 := r142.ext hx21
        have r149 := r143.ext hx21
        have r150 := r144.ext hx21
        refine gv rfl rfl rfl rfl (gn0 rfl) rfl (fun hc => xmva l3_j1) <| gv rfl rfl rfl rfl (gn0 rfl) rfl (fun hc => xmva l14_j1) <| ?_
        have hz := bs hF; obtain ⟨x41, Ex41, hF⟩ := hz
        refine gc rfl rfl rfl rfl (gn0 rfl) rfl (fun hc => xc cb34 (mc (mv hc rfl) (mc (mv hc rfl) mn))) (fun hc => (c34 r148 r150 (gdp Ex41 hc))) (fun v10 w23 hy4 hn4 => ?_)
        have hx22 : Ext w22 w23 := gx (fun h => (hy4 h).2) (fun h => (hn4 h).2 ▸ Ext.refl _)
        have e19 := mkw (fun h => (hy4 h).1) (fun h => (hn4 h).1)
        have k24 := k22.tr hx22
        have k25 := k23.tr hx22
        have hb22 := hb21.ext hx22
        have r151 := r145.ext hx22
        have r152 := r146.ext hx22
        have r153 := r147.ext hx22
        have r154 := r149.ext hx22
        refine gv rfl rfl rfl rfl (gn0 rfl) rfl (fun hc => xneq (mv hc e18) (mv hc e19)) <| gv rfl rfl rfl rfl (gw1 rfl) rfl (fun hc => xpo (mv hc rfl) (mvn hc rfl) rfl) <| vl rfl rfl (xpa rfl rfl rfl) <| nl <| cnd rfl (fun h35 => ?_) (fun h35 => ?_)
        ·
          have hF := ifp hF h35
          refine wp_seq <| rg <| vl rfl rfl xas <| nl <| ?_
          cases hF
          exact wp_ret <| rt rfl (.tmp rfl rfl .nil) ⟨rfl, k24⟩
        ·
          have hF := ifn hF h35
          refine wp_skip <| wp_seq <| wp_seq <| rg <| vl rfl rfl (xlda l6_j1 ti25 rfl (Bx.cs hb22)) <| vl rfl rfl xmv <| ?_
          have hz := bs hF; obtain ⟨x42, Ex42, hF⟩ := hz
          refine cl rfl rfl (xc cb31 (mc rfl (mc l4_j1 mn))) (c31 (show RV (α := ((List Int) × (List ((List Int) × (List Int))))) _ (.agg [.slice a1 x0.1.length cq1, .slice a2 x0.2.length cq2].toArray) (x0.1, x0.2) from ⟨_, rfl, ⟨[.slice a1 x0.1.length cq1], [.slice a2 x0.2.length cq2], rfl, r151.rep1, r152.rep1⟩⟩) r154 Ex42) ?_
          rintro _ w24 ⟨rfl, hx23⟩
          have k26 := k24.tr hx23
          have k27 := k25.tr hx23
          have hb23 := hb22.ext hx23
          have r155 := r151.ext hx23
          have r156 := r152.ext hx23
          have r157 := r153.ext hx23
          have r158 := r154.ext hx23
          refine vl rfl rfl (xneq rfl rfl) <| nl <| cnd rfl (fun h36 => ?_) (fun h36 => ?_)
          ·
            have hF := ifp hF h36
            refine wp_seq <| rg <| ?_
            have hz := bs hF; obtain ⟨x43, Ex43, hF⟩ := hz
            refine cl rfl rfl (xc cb13 mn) (c13 Ex43) ?_
            rintro _ w25 ⟨rfl, hx24⟩
            have k28 := k26.tr hx24
            have k29 := k27.tr hx24
            refine vl rfl rfl xas <| nl <| ?_
            cases hF
            exact wp_ret <| rt rfl (.tmp rfl rfl .nil) ⟨rfl, k28⟩
          ·
            have hF := ifn hF h36
            refine wp_skip <| wp_seq <| rg <| vl rfl rfl (xlda l6_j1 ti25 rfl (Bx.cs hb23)) <| vl rfl rfl xmv <| vl rfl rfl xmv <| ?_
            have hz := bs hF; obtain ⟨x44, Ex44, hF⟩ := hz
            refine cl rfl rfl (xc cb32 (mc rfl (mc l1_j1 (mc l4_j1 mn)))) (c32 (show RV (α := ((List Int) × (List ((List Int) × (List Int))))) _ (.agg [.slice a1 x0.1.length cq1, .slice a2 x0.2.length cq2].toArray) (x0.1, x0.2) from ⟨_, rfl, ⟨[.slice a1 x0.1.length cq1], [.slice a2 x0.2.length cq2], rfl, r155.rep1, r156.rep1⟩⟩) r157 r158 Ex44) ?_
            rintro _ w26 ⟨u7, rfl, r159, hx25⟩
            have k30 := k26.tr hx25
            have k31 := k27.tr hx25
            have hb24 := hb23.ext hx25
            have r160 := r155.ext hx25
            have r161 := r156.ext hx25
            have r162 := r157.ext hx25
            have r163 := r158.ext hx25
            have hz := RV.sl r159; obtain ⟨a13, cq13, rfl, -, -, -⟩ := hz
            refine vl rfl rfl xmv <| vl rfl rfl (xext rfl rfl) <| vl rfl rfl (xext rfl rfl) <| vl rfl rfl xas <| vl rfl rfl xas <| nl <| wp_seq <| rg <| vl rfl rfl (xlda l6_j1 ti25 rfl (Bx.cs hb24)) <| vl rfl rfl xmv <| vl rfl rfl xmv <| ?_
            have hz := bs hF; obtain ⟨x45, Ex45, hF⟩ := hz
            refine cl rfl rfl (xc cb20 (mc rfl (mc l1_j1 (mc l4_j1 mn)))) (c20 (show RV (α := ((List Int) × (List ((List Int) × (List Int))))) _ (.agg [.slice a1 x0.1.length cq1, .slice a2 x0.2.length cq2].toArray) (x0.1, x0.2) from ⟨_, rfl, ⟨[.slice a1 x0.1.length cq1], [.slice a2 x0.2.length cq2], rfl, r160.rep1, r161.rep1⟩⟩) r162 r163 Ex45) ?_
            rintro _ w27 ⟨u8, rfl, r164, hx26⟩
            have k32 := k30.tr hx26
            have k33 := k31.tr hx26
            have hb25 := hb24.ext hx26
            have r165 := r160.ext hx26
            have r166 := r161.ext hx26
            have r167 := r162.ext hx26
            have r168 := r163.ext hx26
            have r169 := r159.ext hx26
            have hz := RV.sl r164; obtain ⟨a14, cq14, rfl, -, -, -⟩ := hz
            refine vl rfl rfl xmv <| vl rfl rfl (xext rfl rfl) <| vl rfl rfl (xext rfl rfl) <| vl rfl rfl xas <| vl rfl rfl xas <| nl <| wp_seq <| wp_seq <| rg <| vl rfl rfl xmv <| vl rfl rfl (xeql rfl rfl) <| nl <| cnd rfl (fun h37 => ?_) (fun h37 => ?_)
            ·
              have hF := ifp hF h37
              refine wp_seq <| rg <| vl rfl rfl (xlda l6_j1 ti25 rfl (Bx.cs hb25)) <| vl rfl rfl xmv <| vl rfl rfl xmv <| vl rfl rfl xmv <| ?_
              have hz := bs hF; obtain ⟨x46, Ex46, hF⟩ := hz
              refine cl rfl rfl (xc cb35 (mc rfl (mc rfl (mc l1_j1 (mc l4_j1 mn))))) (c35 (show RV (α := ((List Int) × (List ((List Int) × (List Int))))) _ (.agg [.slice a1 x0.1.length cq1, .slice a2 x0.2.length cq2].toArray) (x0.1, x0.2) from ⟨_, rfl, ⟨[.slice a1 x0.1.length cq1], [.slice a2 x0.2.length cq2], rfl, r165.rep1, r166.rep1⟩⟩) r169 r167 r168 Ex46) ?_
              rintro _ w28 ⟨rfl, hx27⟩
              have k34 := k32.tr hx27
              have k35 := k33.tr hx27
              refine vl rfl rfl xmv <| gv rfl rfl rfl rfl (gw1 rfl) rfl (fun hc => xmva rfl) <| gv rfl rfl rfl rfl (gw1 rfl) rfl (fun hc => xeql (mv hc rfl) rfl) <| vl rfl rfl (xpa rfl rfl rfl) <| vl rfl rfl xmv <| ?_
              have hz := bs hF; obtain ⟨x47, Ex47, hF⟩ := hz
              refine gc rfl rfl rfl rfl (gw1 rfl) rfl (fun hc => xc cb13 mn) (fun hc => (c13 (gdp Ex47 hc))) (fun v11 w29 hy5 hn5 => ?_)
              have hx28 : Ext w28 w29 := gx (fun h => (hy5 h).2) (fun h => (hn5 h).2 ▸ Ext.refl _)
              have e20 := mkw (fun h => (hy5 h).1) (fun h => (hn5 h).1)
              have k36 := k34.tr hx28
              have k37 := k35.tr hx28
              refine vl rfl rfl (xpa rfl e20 rfl) <| vl rfl rfl xas <| nl <| ?_
              cases hF
              exact wp_ret <| rt rfl (.tmp rfl rfl .nil) ⟨rfl, k36⟩
            ·
              have hF := ifn hF h37
              refine wp_skip <| wp_seq <| rg <| vl rfl rfl xmv <| vl rfl rfl (xeql rfl rfl) <| vl rfl rfl xmv <| gv rfl rfl rfl rfl (gw1 rfl) rfl (fun hc => xmva rfl) <| gv rfl rfl rfl rfl (gw1 rfl) rfl (fun hc => xeql (mv hc rfl) rfl) <| gv rfl rfl rfl rfl (gw1 rfl) rfl (fun hc => xmva (mv hc rfl)) <| gv rfl rfl rfl rfl (gn0 rfl) rfl (fun hc => xmva rfl) <| gv rfl rfl rfl rfl (gn0 rfl) rfl (fun hc => xeql (mv hc rfl) rfl) <| gv rfl rfl rfl rfl (gw1 rfl) rfl (fun hc => xpo (mv hc rfl) (mvn hc rfl) rfl) <| vl rfl rfl (xpa rfl rfl rfl) <| vl rfl rfl xmv <| ?_
              have hz := bs hF; obtain ⟨x48, Ex48, hF⟩ := hz
              refine gc rfl rfl rfl rfl (gw1 rfl) rfl (fun hc => xc cb13 mn) (fun hc => (c13 (gdp Ex48 hc))) (fun v12 w30 hy6 hn6 => ?_)
              have hx29 : Ext w27 w30 := gx (fun h => (hy6 h).2) (fun h => (hn6 h).2 ▸ Ext.refl _)
              have e21 := mkw (fun h => (hy6 h).1) (fun h => (hn6 h).1)
              have k38 := k32.tr hx29
              have k39 := k33.tr hx29
              refine vl rfl rfl (xpa rfl e21 rfl) <| vl rfl rfl xas <| nl <| ?_
              cases hF
              exact wp_ret <| rt rfl (.tmp rfl rfl .nil) ⟨rfl, k38⟩
end Go.Proofs.Ytboefnpnoojfpaa
