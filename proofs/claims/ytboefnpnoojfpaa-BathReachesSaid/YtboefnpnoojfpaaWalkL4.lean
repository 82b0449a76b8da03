/-
  Each function of the program returns what its pure function computes, and leaves all memory that was there as it was. Condition: the pure function computes something.
-/
import Derived.Test.YtboefnpnoojfpaaFacts
import Derived.Test.YtboefnpnoojfpaaPureC
import Derived.Test.YtboefnpnoojfpaaMore
import Derived.Test.YtboefnpnoojfpaaWalkB
namespace Go.Proofs.Ytboefnpnoojfpaa
open Go Go.Md Go.RowKit
attribute [local irreducible] Go.wpList Go.Code.wp Go.Calls Go.Md.Rnd Go.Md.Mt Go.Md.MtM Go.Md.RndM Go.Code.wpIn

set_option maxHeartbeats 4000000 in
theorem c4 {w0 : World} {v0 : Value} {x0 : ((List Int) × (List ((List Int) × (List Int))))} (r0 : RV w0 v0 x0) {v1 : Value} {x1 : (List Int)} (r1 : RV w0 v1 x1) {v2 : Value} {x2 : (List Int)} (r2 : RV w0 v2 x2) {x3 : Int} {F : Nat} {r : Bool} (hF : law11_BathReaches F x0 x1 x2 x3 = some r) :
    Calls Try.prog 4 [v0, v1, v2, .int .i64 x3].toArray w0 (Ret fun v w' => v = .bool r ∧ Ext w0 w') := by
  unfold law11_BathReaches at hF
  have hz := id r0; obtain ⟨_, rfl, ⟨_, _, rfl, ⟨a1, cq1, rfl, p1, q5, e1⟩, ⟨a2, cq2, rfl, p2, q6, e2⟩⟩⟩ := hz
  have r5 := RV.of1 p1 q5 e1
  have r6 := RV.of1 p2 q6 e2
  have hz := r1.sl; obtain ⟨a3, cq3, rfl, -, -, -⟩ := hz
  have hz := r2.sl; obtain ⟨a4, cq4, rfl, -, -, -⟩ := hz
  refine entr (n := 210) Try.func4 rfl rfl rfl <| wp_seq <| rg <| sbx rfl rfl fun b5 w1 hx1 hg1 hb1 => ?_
  have r7 := r1.ext hx1
  have r8 := r2.ext hx1
  have r9 := r5.ext hx1
  have r10 := r6.ext hx1
  have r11 := r0.ext hx1
  refine vl rfl rfl xas <| nl <| wp_seq <| wp_seq <| rg <| vl rfl rfl (xlda rfl ti25 rfl (Bx.cs hb1)) <| ?_
  have hz := bs hF; obtain ⟨x5, Ex5, hF⟩ := hz
  refine cl rfl rfl (xc cb12 (mc rfl mn)) (c12 (show RV (α := ((List Int) × (List ((List Int) × (List Int))))) _ (.agg [.slice a1 x0.1.length cq1, .slice a2 x0.2.length cq2].toArray) (x0.1, x0.2) from ⟨_, rfl, ⟨[.slice a1 x0.1.length cq1], [.slice a2 x0.2.length cq2], rfl, r9.rep1, r10.rep1⟩⟩) Ex5) ?_
  rintro _ w2 ⟨rfl, hx2⟩
  have k1 := hx1.tr hx2
  have hb2 := hb1.ext hx2
  have r12 := r9.ext hx2
  have r13 := r10.ext hx2
  have r14 := r7.ext hx2
  have r15 := r8.ext hx2
  refine vl rfl rfl xmv <| gv rfl rfl rfl rfl (gw0 rfl) rfl (fun hc => xlda rfl ti25 rfl (Bx.cs hb2)) <| ?_
  have hz := bs hF; obtain ⟨x6, Ex6, hF⟩ := hz
  refine gc rfl rfl rfl rfl (gw0 rfl) rfl (fun hc => xc cb19 (mc (mv hc rfl) mn)) (fun hc => (c19 (show RV (α := ((List Int) × (List ((List Int) × (List Int))))) _ (.agg [.slice a1 x0.1.length cq1, .slice a2 x0.2.length cq2].toArray) (x0.1, x0.2) from ⟨_, rfl, ⟨[.slice a1 x0.1.length cq1], [.slice a2 x0.2.length cq2], rfl, r12.rep1, r13.rep1⟩⟩) (gdp Ex6 hc))) (fun v5 w3 hy1 hn1 => ?_)
  have hx3 : Ext w2 w3 := gx (fun h => (hy1 h).2) (fun h => (hn1 h).2 ▸ Ext.refl _)
  have e3 := mkw (fun h => (hy1 h).1) (fun h => (hn1 h).1)
  have k2 := k1.tr hx3
  have hb3 := hb2.ext hx3
  have r16 := r12.ext hx3
  have r17 := r13.ext hx3
  have r18 := r14.ext hx3
  have r19 := r15.ext hx3
  refine vl rfl rfl (xpo rfl e3 rfl) <| vl rfl rfl xmv <| gv rfl rfl rfl rfl (gw0 rfl) rfl (fun hc => xmva rfl) <| gv rfl rfl rfl rfl (gw0 rfl) rfl (fun hc => xlen (mv hc rfl) Try.underlying22) <| gv rfl rfl rfl rfl (gw0 rfl) rfl (fun hc => xgtr (mv hc rfl) rfl) <| vl rfl rfl (xpo rfl rfl rfl) <| vl rfl rfl xmv <| gv rfl rfl rfl rfl (gw0 rfl) rfl (fun hc => xmva rfl) <| gv rfl rfl rfl rfl (gw0 rfl) rfl (fun hc => xlen (mv hc rfl) Try.underlying22) <| gv rfl rfl rfl rfl (gw0 rfl) rfl (fun hc => xgtr (mv hc rfl) rfl) <| vl rfl rfl (xpo rfl rfl rfl) <| nl <| cnd rfl (fun h5 => ?_) (fun h5 => ?_)
  ·
    have hF := ifp hF h5
    refine wp_seq <| rg <| ?_
    have hz := bs hF; obtain ⟨x7, Ex7, hF⟩ := hz
    refine cl rfl rfl (xc cb13 mn) (c13 Ex7) ?_
    rintro _ w4 ⟨rfl, hx4⟩
    have k3 := k2.tr hx4
    refine vl rfl rfl xas <| nl <| ?_
    cases hF
    exact wp_ret <| rt rfl (.tmp rfl rfl .nil) ⟨rfl, k3⟩
  ·
    have hF := ifn hF h5
    refine wp_skip <| wp_seq <| rg <| vl rfl rfl (xlda rfl ti25 rfl (Bx.cs hb3)) <| vl rfl rfl xmv <| vl rfl rfl xmv <| ?_
    have hz := bs hF; obtain ⟨x8, Ex8, hF⟩ := hz
    refine cl rfl rfl (xc cb20 (mc rfl (mc rfl (mc rfl mn)))) (c20 (show RV (α := ((List Int) × (List ((List Int) × (List Int))))) _ (.agg [.slice a1 x0.1.length cq1, .slice a2 x0.2.length cq2].toArray) (x0.1, x0.2) from ⟨_, rfl, ⟨[.slice a1 x0.1.length cq1], [.slice a2 x0.2.length cq2], rfl, r16.rep1, r17.rep1⟩⟩) r18 r19 Ex8) ?_
    rintro _ w5 ⟨u1, rfl, r20, hx5⟩
    have k4 := k2.tr hx5
    have hb4 := hb3.ext hx5
    have r21 := r16.ext hx5
    have r22 := r17.ext hx5
    have r23 := r18.ext hx5
    have r24 := r19.ext hx5
    have hz := RV.sl r20; obtain ⟨a5, cq5, rfl, -, -, -⟩ := hz
    refine vl rfl rfl xmv <| vl rfl rfl (xext rfl rfl) <| vl rfl rfl (xext rfl rfl) <| vl rfl rfl xas <| vl rfl rfl xas <| nl <| wp_seq <| rg <| vl rfl rfl (xlda rfl ti25 rfl (Bx.cs hb4)) <| vl rfl rfl xmv <| vl rfl rfl xmv <| ?_
    have hz := bs hF; obtain ⟨x9, Ex9, hF⟩ := hz
    refine cl rfl rfl (xc cb21 (mc rfl (mc rfl (mc rfl mn)))) (c21 (show RV (α := ((List Int) × (List ((List Int) × (List Int))))) _ (.agg [.slice a1 x0.1.length cq1, .slice a2 x0.2.length cq2].toArray) (x0.1, x0.2) from ⟨_, rfl, ⟨[.slice a1 x0.1.length cq1], [.slice a2 x0.2.length cq2], rfl, r21.rep1, r22.rep1⟩⟩) r23 r24 Ex9) ?_
    rintro _ w6 ⟨rfl, hx6⟩
    have k5 := k4.tr hx6
    have hb5 := hb4.ext hx6
    have r25 := r21.ext hx6
    have r26 := r22.ext hx6
    have r27 := r23.ext hx6
    have r28 := r24.ext hx6
    have r29 := r20.ext hx6
    refine vl rfl rfl xmv <| vl rfl rfl (xext rfl rfl) <| vl rfl rfl (xext rfl rfl) <| vl rfl rfl xas <| vl rfl rfl xas <| nl <| wp_seq <| rg <| vl rfl rfl (xlda rfl ti25 rfl (Bx.cs hb5)) <| vl rfl rfl xmv <| ?_
    have hz := bs hF; obtain ⟨x10, Ex10, hF⟩ := hz
    refine cl rfl rfl (xc cb22 (mc rfl (mc rfl mn))) (c22 (show RV (α := ((List Int) × (List ((List Int) × (List Int))))) _ (.agg [.slice a1 x0.1.length cq1, .slice a2 x0.2.length cq2].toArray) (x0.1, x0.2) from ⟨_, rfl, ⟨[.slice a1 x0.1.length cq1], [.slice a2 x0.2.length cq2], rfl, r25.rep1, r26.rep1⟩⟩) r27 Ex10) ?_
    rintro _ w7 ⟨rfl, hx7⟩
    have k6 := k5.tr hx7
    have hb6 := hb5.ext hx7
    have r30 := r25.ext hx7
    have r31 := r26.ext hx7
    have r32 := r27.ext hx7
    have r33 := r28.ext hx7
    have r34 := r29.ext hx7
    refine vl rfl rfl xmv <| vl rfl rfl (xext rfl rfl) <| vl rfl rfl (xext rfl rfl) <| vl rfl rfl xas <| vl rfl rfl xas <| nl <| wp_seq <| rg <| vl rfl rfl (xlda rfl ti25 rfl (Bx.cs hb6)) <| vl rfl rfl xmv <| ?_
    have hz := bs hF; obtain ⟨x11, Ex11, hF⟩ := hz
    refine cl rfl rfl (xc cb23 (mc rfl (mc rfl mn))) (c23 (show RV (α := ((List Int) × (List ((List Int) × (List Int))))) _ (.agg [.slice a1 x0.1.length cq1, .slice a2 x0.2.length cq2].toArray) (x0.1, x0.2) from ⟨_, rfl, ⟨[.slice a1 x0.1.length cq1], [.slice a2 x0.2.length cq2], rfl, r30.rep1, r31.rep1⟩⟩) r32 Ex11) ?_
    rintro _ w8 ⟨rfl, hx8⟩
    have k7 := k6.tr hx8
    have hb7 := hb6.ext hx8
    have r35 := r30.ext hx8
    have r36 := r31.ext hx8
    have r37 := r32.ext hx8
    have r38 := r33.ext hx8
    have r39 := r34.ext hx8
    refine vl rfl rfl xmv <| vl rfl rfl (xext rfl rfl) <| vl rfl rfl (xext rfl rfl) <| vl rfl rfl xas <| vl rfl rfl xas <| nl <| wp_seq <| rg <| vl rfl rfl (xlda rfl ti25 rfl (Bx.cs hb7)) <| vl rfl rfl xmv <| vl rfl rfl xmv <| ?_
    have hz := bs hF; obtain ⟨x12, Ex12, hF⟩ := hz
    refine cl rfl rfl (xc cb24 (mc rfl (mc rfl (mc rfl mn)))) (c24 (show RV (α := ((List Int) × (List ((List Int) × (List Int))))) _ (.agg [.slice a1 x0.1.length cq1, .slice a2 x0.2.length cq2].toArray) (x0.1, x0.2) from ⟨_, rfl, ⟨[.slice a1 x0.1.length cq1], [.slice a2 x0.2.length cq2], rfl, r35.rep1, r36.rep1⟩⟩) r37 Ex12) ?_
    rintro _ w9 ⟨u2, rfl, r40, hx9⟩
    have k8 := k7.tr hx9
    have hb8 := hb7.ext hx9
    have r41 := r35.ext hx9
    have r42 := r36.ext hx9
    have r43 := r37.ext hx9
    have r44 := r38.ext hx9
    have r45 := r39.ext hx9
    have hz := RV.sl r40; obtain ⟨a6, cq6, rfl, -, -, -⟩ := hz
    refine vl rfl rfl xmv <| vl rfl rfl (xext rfl rfl) <| vl rfl rfl (xext rfl rfl) <| vl rfl rfl (xext rfl rfl) <| vl rfl rfl xas <| vl rfl rfl xas <| vl rfl rfl xas <| nl <| wp_seq <| rg <| vl rfl rfl (xlda rfl ti25 rfl (Bx.cs hb8)) <| vl rfl rfl xmv <| vl rfl rfl xmv <| ?_
    have hz := bs hF; obtain ⟨x13, Ex13, hF⟩ := hz
    refine cl rfl rfl (xc cb25 (mc rfl (mc rfl (mc rfl mn)))) (c25 (show RV (α := ((List Int) × (List ((List Int) × (List Int))))) _ (.agg [.slice a1 x0.1.length cq1, .slice a2 x0.2.length cq2].toArray) (x0.1, x0.2) from ⟨_, rfl, ⟨[.slice a1 x0.1.length cq1], [.slice a2 x0.2.length cq2], rfl, r41.rep1, r42.rep1⟩⟩) r43 Ex13) ?_
    rintro _ w10 ⟨rfl, hx10⟩
    have k9 := k8.tr hx10
    have hb9 := hb8.ext hx10
    have r46 := r41.ext hx10
    have r47 := r42.ext hx10
    have r48 := r43.ext hx10
    have r49 := r44.ext hx10
    have r50 := r45.ext hx10
    have r51 := r40.ext hx10
    refine vl rfl rfl xmv <| vl rfl rfl (xext rfl rfl) <| vl rfl rfl (xext rfl rfl) <| vl rfl rfl (xext rfl rfl) <| vl rfl rfl xas <| vl rfl rfl xas <| vl rfl rfl xas <| nl <| wp_seq <| rg <| vl rfl rfl (xlda rfl ti25 rfl (Bx.cs hb9)) <| vl rfl rfl xmv <| ?_
    have hz := bs hF; obtain ⟨x14, Ex14, hF⟩ := hz
    refine cl rfl rfl (xc cb26 (mc rfl (mc rfl mn))) (c26 (show RV (α := ((List Int) × (List ((List Int) × (List Int))))) _ (.agg [.slice a1 x0.1.length cq1, .slice a2 x0.2.length cq2].toArray) (x0.1, x0.2) from ⟨_, rfl, ⟨[.slice a1 x0.1.length cq1], [.slice a2 x0.2.length cq2], rfl, r46.rep1, r47.rep1⟩⟩) r48 Ex14) ?_
    rintro _ w11 ⟨u3, rfl, r52, hx11⟩
    have k10 := k9.tr hx11
    have hb10 := hb9.ext hx11
    have r53 := r46.ext hx11
    have r54 := r47.ext hx11
    have r55 := r48.ext hx11
    have r56 := r49.ext hx11
    have r57 := r50.ext hx11
    have r58 := r51.ext hx11
    have hz := RV.sl r52; obtain ⟨a7, cq7, rfl, -, -, -⟩ := hz
    refine vl rfl rfl xmv <| vl rfl rfl (xext rfl rfl) <| vl rfl rfl (xext rfl rfl) <| vl rfl rfl xas <| vl rfl rfl xas <| nl <| wp_seq <| rg <| vl rfl rfl (xlda rfl ti25 rfl (Bx.cs hb10)) <| vl rfl rfl xmv <| ?_
    have hz := bs hF; obtain ⟨x15, Ex15, hF⟩ := hz
    refine cl rfl rfl (xc cb27 (mc rfl (mc rfl mn))) (c27 (show RV (α := ((List Int) × (List ((List Int) × (List Int))))) _ (.agg [.slice a1 x0.1.length cq1, .slice a2 x0.2.length cq2].toArray) (x0.1, x0.2) from ⟨_, rfl, ⟨[.slice a1 x0.1.length cq1], [.slice a2 x0.2.length cq2], rfl, r53.rep1, r54.rep1⟩⟩) r55 Ex15) ?_
    rintro _ w12 ⟨rfl, hx12⟩
    have k11 := k10.tr hx12
    have hb11 := hb10.ext hx12
    have r59 := r53.ext hx12
    have r60 := r54.ext hx12
    have r61 := r55.ext hx12
    have r62 := r56.ext hx12
    have r63 := r57.ext hx12
    have r64 := r58.ext hx12
    have r65 := r52.ext hx12
    refine vl rfl rfl xmv <| vl rfl rfl (xext rfl rfl) <| vl rfl rfl (xext rfl rfl) <| vl rfl rfl xas <| vl rfl rfl xas <| nl <| wp_seq <| wp_seq <| rg <| vl rfl rfl xmv <| vl rfl rfl xmv <| vl rfl rfl (xneq rfl rfl) <| vl rfl rfl xmv <| gv rfl rfl rfl rfl (gw0 rfl) rfl (fun hc => xmva rfl) <| gv rfl rfl rfl rfl (gw0 rfl) rfl (fun hc => xlen (mv hc rfl) Try.underlying26) <| gv rfl rfl rfl rfl (gw0 rfl) rfl (fun hc => xmva rfl) <| gv rfl rfl rfl rfl (gw0 rfl) rfl (fun hc => xneq (mv hc rfl) (mv hc rfl)) <| vl rfl rfl (xpo rfl rfl rfl) <| vl rfl rfl xmv <| gv rfl rfl rfl rfl (gw0 rfl) rfl (fun hc => xmva rfl) <| gv rfl rfl rfl rfl (gw0 rfl) rfl (fun hc => xmva rfl) <| gv rfl rfl rfl rfl (gw0 rfl) rfl (fun hc => xneq (mv hc rfl) (mv hc rfl)) <| vl rfl rfl (xpo rfl rfl rfl) <| vl rfl rfl xmv <| gv rfl rfl rfl rfl (gw0 rfl) rfl (fun hc => xmva rfl) <| gv rfl rfl rfl rfl (gw0 rfl) rfl (fun hc => xmva rfl) <| gv rfl rfl rfl rfl (gw0 rfl) rfl (fun hc => xneq (mv hc rfl) (mv hc rfl)) <| vl rfl rfl (xpo rfl rfl rfl) <| vl rfl rfl xmv <| gv rfl rfl rfl rfl (gw0 rfl) rfl (fun hc => xmva rfl) <| gv rfl rfl rfl rfl (gw0 rfl) rfl (fun hc => xmva rfl) <| gv rfl rfl rfl rfl (gw0 rfl) rfl (fun hc => xneq (mv hc rfl) (mv hc rfl)) <| vl rfl rfl (xpo rfl rfl rfl) <| vl rfl rfl xmv <| gv rfl rfl rfl rfl (gw0 rfl) rfl (fun hc => xmva rfl) <| gv rfl rfl rfl rfl (gw0 rfl) rfl (fun hc => xlen (mv hc rfl) Try.underlying26) <| gv rfl rfl rfl rfl (gw0 rfl) rfl (fun hc => xmva rfl) <| gv rfl rfl rfl rfl (gw0 rfl) rfl (fun hc => xneq (mv hc rfl) (mv hc rfl)) <| vl rfl rfl (xpo rfl rfl rfl) <| vl rfl rfl xmv <| gv rfl rfl rfl rfl (gw0 rfl) rfl (fun hc => xmva rfl) <| gv rfl rfl rfl rfl (gw0 rfl) rfl (fun hc => xmva rfl) <| gv rfl rfl rfl rfl (gw0 rfl) rfl (fun hc => xneq (mv hc rfl) (mv hc rfl)) <| vl rfl rfl (xpo rfl rfl rfl) <| vl rfl rfl xmv <| gv rfl rfl rfl rfl (gw0 rfl) rfl (fun hc => xmva rfl) <| gv rfl rfl rfl rfl (gw0 rfl) rfl (fun hc => xlen (mv hc rfl) Try.underlying26) <| gv rfl rfl rfl rfl (gw0 rfl) rfl (fun hc => xmva rfl) <| gv rfl rfl rfl rfl (gw0 rfl) rfl (fun hc => xneq (mv hc rfl) (mv hc rfl)) <| vl rfl rfl (xpo rfl rfl rfl) <| vl rfl rfl xmv <| gv rfl rfl rfl rfl (gw0 rfl) rfl (fun hc => xmva rfl) <| gv rfl rfl rfl rfl (gw0 rfl) rfl (fun hc => xmva rfl) <| gv rfl rfl rfl rfl (gw0 rfl) rfl (fun hc => xneq (mv hc rfl) (mv hc rfl)) <| vl rfl rfl (xpo rfl rfl rfl) <| nl <| cnd rfl (fun h6 => ?_) (fun h6 => ?_)
    ·
      have hF := ifp hF h6
      refine wp_seq <| rg <| vl rfl rfl xas <| nl <| ?_
      cases hF
      exact wp_ret <| rt rfl (.tmp rfl rfl .nil) ⟨rfl, k11⟩
    ·
      have hF := ifn hF h6
      refine wp_skip <| wp_seq <| wp_seq <| rg <| vl rfl rfl xmv <| vl rfl rfl (xeql rfl rfl) <| nl <| ?_
      have hz := bs hF; obtain ⟨o1, hB1, hF⟩ := hz
      refine ct (fun L w => o1 = .inr () ∧ L 1 = .slice a3 x1.length cq3 ∧ L 3 = .int .i64 x3 ∧ L 4 = .pointer (some ⟨b5, 0, none⟩) ∧ L 17 = .int .i64 x12.1 ∧ L 18 = .slice a6 x12.2.1.length cq6 ∧ L 19 = .int .i64 x12.2.2 ∧ L 23 = .slice a7 x14.1.length cq7 ∧ L 24 = .int .i64 x14.2 ∧ Ext w12 w) ?_ ?_
      ·
        refine cnd rfl (fun h7 => ?_) (fun h7 => ?_)
        ·
          have hB1 := ifp hB1 h7
          refine wp_seq <| rg <| vl rfl rfl (xlda rfl ti25 rfl (Bx.cs hb11)) <| vl rfl rfl xmv <| vl rfl rfl xmv <| ?_
          have hz := bs hB1; obtain ⟨x16, Ex16, hB1⟩ := hz
          refine cl rfl rfl (xc cb15 (mc rfl (mc rfl (mc rfl mn)))) (c15 (show RV (α := ((List Int) × (List ((List Int) × (List Int))))) _ (.agg [.slice a1 x0.1.length cq1, .slice a2 x0.2.length cq2].toArray) (x0.1, x0.2) from ⟨_, rfl, ⟨[.slice a1 x0.1.length cq1], [.slice a2 x0.2.length cq2], rfl, r59.rep1, r60.rep1⟩⟩) r61 r63 Ex16) ?_
          rintro _ w13 ⟨u4, rfl, r66, hx13⟩
          have k12 := k11.tr hx13
          have hb12 := hb11.ext hx13
          have r67 := r59.ext hx13
          have r68 := r60.ext hx13
          have r69 := r61.ext hx13
          have r70 := r62.ext hx13
          have r71 := r64.ext hx13
          have r72 := r65.ext hx13
          have hz := RV.sl r66; obtain ⟨a8, cq8, rfl, -, -, -⟩ := hz
          refine vl rfl rfl xmv <| vl rfl rfl (xext rfl rfl) <| vl rfl rfl (xext rfl rfl) <| vl rfl rfl xas <| vl rfl rfl xas <| nl <| wp_seq <| rg <| vl rfl rfl xmv <| vl rfl rfl (xneq rfl rfl) <| vl rfl rfl xmv <| gv rfl rfl rfl rfl (gw0 rfl) rfl (fun hc => xmva rfl) <| gv rfl rfl rfl rfl (gw0 rfl) rfl (fun hc => xmva rfl) <| ?_
          have hz := bs hB1; obtain ⟨x17, Ex17, hB1⟩ := hz
          refine gc rfl rfl rfl rfl (gw0 rfl) rfl (fun hc => xc cb18 (mc (mv hc rfl) (mc (mv hc rfl) mn))) (fun hc => (c18 r66 r70 (gdp Ex17 hc))) (fun v6 w14 hy2 hn2 => ?_)
          have hx14 : Ext w13 w14 := gx (fun h => (hy2 h).2) (fun h => (hn2 h).2 ▸ Ext.refl _)
          have e4 := mkw (fun h => (hy2 h).1) (fun h => (hn2 h).1)
          have k13 := k12.tr hx14
          have k14 := hx13.tr hx14
          have hb13 := hb12.ext hx14
          have r73 := r67.ext hx14
          have r74 := r68.ext hx14
          have r75 := r69.ext hx14
          have r76 := r71.ext hx14
          have r77 := r72.ext hx14
          refine gv rfl rfl rfl rfl (gw0 rfl) rfl (fun hc => xnot (mv hc e4)) <| vl rfl rfl (xpo rfl rfl rfl) <| nl <| cnd rfl (fun h8 => ?_) (fun h8 => ?_)
          ·
            have hB1 := ifp hB1 h8
            refine wp_seq <| rg <| vl rfl rfl xas <| nl <| ?_
            cases hB1
            have hF := (show some _ = some _ from hF); cases hF
            exact wp_ret <| rt rfl (.tmp rfl rfl .nil) ⟨rfl, k13⟩
          ·
            have hB1 := ifn hB1 h8
            refine wp_skip <| ?_
            cases hB1
            refine lf <| ?_
            exact ⟨rfl, rfl, rfl, rfl, rfl, rfl, rfl, rfl, rfl, k14⟩
        ·
          have hB1 := ifn hB1 h7
          refine wp_skip <| ?_
          cases hB1
          refine lf <| ?_
          exact ⟨rfl, rfl, rfl, rfl, rfl, rfl, rfl, rfl, rfl, (Ext.refl _)⟩
      rintro L w15 ⟨rfl, l1_j1, l3_j1, l4_j1, l17_j1, l18_j1, l19_j1, l23_j1, l24_j1, K0_j1⟩
      have k15 := k11.tr K0_j1
      have r78 := r61.ext K0_j1
      have r79 := r59.ext K0_j1
      have r80 := r60.ext K0_j1
      have hb14 := hb11.ext K0_j1
      have r81 := r64.ext K0_j1
      have r82 := r65.ext K0_j1
      refine wp_seq <| wp_seq <| rg <| vl rfl rfl xmv <| vl rfl rfl (xeql l19_j1 rfl) <| nl <| ?_
      have hz := bs hF; obtain ⟨o2, hB6, hF⟩ := hz
      refine ct (fun L w => o2 = .inr () ∧ L 1 = .slice a3 x1.length cq3 ∧ L 4 = .pointer (some ⟨b5, 0, none⟩) ∧ L 23 = .slice a7 x14.1.length cq7 ∧ L 24 = .int .i64 x14.2 ∧ Ext w15 w) ?_ ?_
      ·
        refine cnd rfl (fun h9 => ?_) (fun h9 => ?_)
        ·
          have hB6 := ifp hB6 h9
          refine wp_seq <| rg <| vl rfl rfl (xlda l4_j1 ti25 rfl (Bx.cs hb14)) <| vl rfl rfl xmv <| vl rfl rfl xmv <| ?_
          have hz := bs hB6; obtain ⟨x18, Ex18, hB6⟩ := hz
          refine cl rfl rfl (xc cb15 (mc rfl (mc l1_j1 (mc l18_j1 mn)))) (c15 (show RV (α := ((List Int) × (List ((List Int) × (List Int))))) _ (.agg [.slice a1 x0.1.length cq1, .slice a2 x0.2.length cq2].toArray) (x0.1, x0.2) from ⟨_, rfl, ⟨[.slice a1 x0.1.length cq1], [.slice a2 x0.2.length cq2], rfl, r79.rep1, r80.rep1⟩⟩) r78 r81 Ex18) ?_
          rintro _ w16 ⟨u5, rfl, r83, hx15⟩
          have k16 := k15.tr hx15
          have k17 := K0_j1.tr hx15
          have hb15 := hb14.ext hx15
          have r84 := r79.ext hx15
          have r85 := r80.ext hx15
          have r86 := r78.ext hx15
          have r87 := r82.ext hx15
          have hz := RV.sl r83; obtain ⟨a9, cq9, rfl, -, -, -⟩ := hz
          refine vl rfl rfl xmv <| vl rfl rfl (xext rfl rfl) <| vl rfl rfl (xext rfl rfl) <| vl rfl rfl xas <| vl rfl rfl xas <| nl <| wp_seq <| ?_
          have hz := bs hB6; obtain ⟨y1, hB8, hB6⟩ := hz
          refine ct (fun L w => L 191 = .bool y1 ∧ L 1 = .slice a3 x1.length cq3 ∧ L 4 = .pointer (some ⟨b5, 0, none⟩) ∧ L 23 = .slice a7 x14.1.length cq7 ∧ L 24 = .int .i64 x14.2 ∧ Ext w16 w) ?_ ?_
          ·
            refine rg <| vl rfl rfl xmv <| vl rfl rfl (xneq rfl rfl) <| vl rfl rfl xmv <| ?_
            refine Or.elim (Bool.eq_false_or_eq_true (!decide (x18.2 = 0))) (fun h10 => ?_) (fun h10 => ?_)
            ·
              have hB8 := ifp hB8 h10
              refine gfk rfl rfl rfl rfl rfl (btf h10) rfl <| gfk rfl rfl rfl rfl rfl (btf h10) rfl <| gfk rfl rfl rfl rfl rfl (btf h10) rfl <| gfk rfl rfl rfl rfl rfl (btf h10) rfl <| vl rfl rfl (xpt rfl h10 rfl) <| vl rfl rfl xmv <| ?_
              refine Or.elim (Bool.eq_false_or_eq_true true) (fun h11 => ?_) (fun h11 => ?_)
              ·
                have hB8 := ifp hB8 h11
                refine gfk rfl rfl rfl rfl rfl (btf h11) rfl <| gfk rfl rfl rfl rfl rfl (btf h11) rfl <| gfk rfl rfl rfl rfl rfl (btf h11) rfl <| gfk rfl rfl rfl rfl rfl (btf h11) rfl <| gfk rfl rfl rfl rfl rfl (btf h11) rfl <| gfk rfl rfl rfl rfl rfl (btf h11) rfl <| vl rfl rfl (xpt rfl h11 rfl) <| nl <| ?_
                cases hB8
                refine lf <| ?_
                exact ⟨rfl, l1_j1, l4_j1, l23_j1, l24_j1, (Ext.refl _)⟩
              ·
                have hB8 := ifn hB8 h11
                refine gtk rfl rfl rfl rfl rfl (bf h11) <| vl rfl rfl xmv <| gtk rfl rfl rfl rfl rfl (bf h11) <| vl rfl rfl xmv <| ?_
                have hz := bs hB8; obtain ⟨x19, Ex19, hB8⟩ := hz
                have hz := (RV.els r83).ix Ex19; obtain ⟨b6, f1, cs5, e5, i1, i2, q7, hc1⟩ := hz
                cases e5
                obtain rfl := q7
                refine gtk rfl rfl rfl rfl rfl (bf h11) <| vl rfl rfl (xixs rfl l3_j1 Try.underlying22 ti2 i1 i2) <| gtk rfl rfl rfl rfl rfl (bf h11) <| vl rfl rfl (xld rfl ti2 (hc1.at 0 rfl)) <| gtk rfl rfl rfl rfl rfl (bf h11) <| vl rfl rfl xmv <| gtk rfl rfl rfl rfl rfl (bf h11) <| vl rfl rfl (xneq rfl l17_j1) <| vl rfl rfl (xpf rfl h11 rfl) <| nl <| ?_
                cases hB8
                refine lf <| ?_
                exact ⟨rfl, l1_j1, l4_j1, l23_j1, l24_j1, (Ext.refl _)⟩
            ·
              have hB8 := ifn hB8 h10
              refine gtk rfl rfl rfl rfl rfl (bf h10) <| vl rfl rfl xmv <| gtk rfl rfl rfl rfl rfl (bf h10) <| vl rfl rfl (xlen rfl Try.underlying22) <| gtk rfl rfl rfl rfl rfl (bf h10) <| vl rfl rfl xmv <| gtk rfl rfl rfl rfl rfl (bf h10) <| vl rfl rfl (xleq rfl l3_j1) <| vl rfl rfl (xpf rfl h10 rfl) <| vl rfl rfl xmv <| ?_
              refine Or.elim (Bool.eq_false_or_eq_true (decide ((x18.1.length : Int) ≤ x3))) (fun h12 => ?_) (fun h12 => ?_)
              ·
                have hB8 := ifp hB8 h12
                refine gfk rfl rfl rfl rfl rfl (btf h12) rfl <| gfk rfl rfl rfl rfl rfl (btf h12) rfl <| gfk rfl rfl rfl rfl rfl (btf h12) rfl <| gfk rfl rfl rfl rfl rfl (btf h12) rfl <| gfk rfl rfl rfl rfl rfl (btf h12) rfl <| gfk rfl rfl rfl rfl rfl (btf h12) rfl <| vl rfl rfl (xpt rfl h12 rfl) <| nl <| ?_
                cases hB8
                refine lf <| ?_
                exact ⟨rfl, l1_j1, l4_j1, l23_j1, l24_j1, (Ext.refl _)⟩
              ·
                have hB8 := ifn hB8 h12
                refine gtk rfl rfl rfl rfl rfl (bf h12) <| vl rfl rfl xmv <| gtk rfl rfl rfl rfl rfl (bf h12) <| vl rfl rfl xmv <| ?_
                have hz := bs hB8; obtain ⟨x20, Ex20, hB8⟩ := hz
                have hz := (RV.els r83).ix Ex20; obtain ⟨b7, f2, cs6, e6, i3, i4, q8, hc2⟩ := hz
                cases e6
                obtain rfl := q8
                refine gtk rfl rfl rfl rfl rfl (bf h12) <| vl rfl rfl (xixs rfl l3_j1 Try.underlying22 ti2 i3 i4) <| gtk rfl rfl rfl rfl rfl (bf h12) <| vl rfl rfl (xld rfl ti2 (hc2.at 0 rfl)) <| gtk rfl rfl rfl rfl rfl (bf h12) <| vl rfl rfl xmv <| gtk rfl rfl rfl rfl rfl (bf h12) <| vl rfl rfl (xneq rfl l17_j1) <| vl rfl rfl (xpf rfl h12 rfl) <| nl <| ?_
                cases hB8
                refine lf <| ?_
                exact ⟨rfl, l1_j1, l4_j1, l23_j1, l24_j1, (Ext.refl _)⟩
          rintro L w17 ⟨l191_j2, l1_j2, l4_j2, l23_j2, l24_j2, K0_j2⟩
          have k18 := k16.tr K0_j2
          have k19 := k17.tr K0_j2
          have k20 := hx15.tr K0_j2
          have r88 := r86.ext K0_j2
          have r89 := r84.ext K0_j2
          have r90 := r85.ext K0_j2
          have hb16 := hb15.ext K0_j2
          have r91 := r87.ext K0_j2
          refine cnd l191_j2 (fun h13 => ?_) (fun h13 => ?_)
          ·
            have hB6 := ifp hB6 h13
            refine wp_seq <| rg <| vl rfl rfl xas <| nl <| ?_
            cases hB6
            have hF := (show some _ = some _ from hF); cases hF
            exact wp_ret <| rt rfl (.tmp rfl rfl .nil) ⟨rfl, k18⟩
          ·
            have hB6 := ifn hB6 h13
            refine wp_skip <| ?_
            cases hB6
            refine lf <| ?_
            exact ⟨rfl, l1_j2, l4_j2, l23_j2, l24_j2, k20⟩
        ·
          have hB6 := ifn hB6 h9
          refine wp_skip <| ?_
          cases hB6
          refine lf <| ?_
          exact ⟨rfl, l1_j1, l4_j1, l23_j1, l24_j1, (Ext.refl _)⟩
      rintro L w18 ⟨rfl, l1_j3, l4_j3, l23_j3, l24_j3, K0_j3⟩
      have k21 := k15.tr K0_j3
      have k22 := K0_j1.tr K0_j3
      have r92 := r78.ext K0_j3
      have r93 := r79.ext K0_j3
      have r94 := r80.ext K0_j3
      have hb17 := hb14.ext K0_j3
      have r95 := r82.ext K0_j3
      refine wp_seq <| wp_seq <| rg <| vl rfl rfl xmv <| vl rfl rfl (xeql l24_j3 rfl) <| nl <| ?_
      have hz := bs hF; obtain ⟨o3, hB12, hF⟩ := hz
      refine ct (fun L w => o3 = .inr () ∧ Ext w18 w) ?_ ?_
      ·
        refine cnd rfl (fun h14 => ?_) (fun h14 => ?_)
        ·
          have hB12 := ifp hB12 h14
          refine wp_seq <| rg <| vl rfl rfl (xlda l4_j3 ti25 rfl (Bx.cs hb17)) <| vl rfl rfl xmv <| vl rfl rfl xmv <| ?_
          have hz := bs hB12; obtain ⟨x21, Ex21, hB12⟩ := hz
          refine cl rfl rfl (xc cb15 (mc rfl (mc l1_j3 (mc l23_j3 mn)))) (c15 (show RV (α := ((List Int) × (List ((List Int) × (List Int))))) _ (.agg [.slice a1 x0.1.length cq1, .slice a2 x0.2.length cq2].toArray) (x0.1, x0.2) from ⟨_, rfl, ⟨[.slice a1 x0.1.length cq1], [.slice a2 x0.2.length cq2], rfl, r93.rep1, r94.rep1⟩⟩) r92 r95 Ex21) ?_
          rintro _ w19 ⟨u6, rfl, r96, hx16⟩
          have k23 := k21.tr hx16
          have k24 := k22.tr hx16
          have k25 := K0_j3.tr hx16
          have hb18 := hb17.ext hx16
          have r97 := r93.ext hx16
          have r98 := r94.ext hx16
          have hz := RV.sl r96; obtain ⟨a10, cq10, rfl, -, -, -⟩ := hz
          refine vl rfl rfl xmv <| vl rfl rfl (xext rfl rfl) <| vl rfl rfl (xext rfl rfl) <| vl rfl rfl xas <| vl rfl rfl xas <| nl <| wp_seq <| rg <| vl rfl rfl xmv <| vl rfl rfl (xneq rfl rfl) <| vl rfl rfl xmv <| gv rfl rfl rfl rfl (gw0 rfl) rfl (fun hc => xlda l4_j3 ti25 rfl (Bx.cs hb18)) <| gv rfl rfl rfl rfl (gw0 rfl) rfl (fun hc => xmva rfl) <| ?_
          have hz := bs hB12; obtain ⟨x22, Ex22, hB12⟩ := hz
          refine gc rfl rfl rfl rfl (gw0 rfl) rfl (fun hc => xc cb28 (mc (mv hc rfl) (mc (mv hc rfl) mn))) (fun hc => (c28 (show RV (α := ((List Int) × (List ((List Int) × (List Int))))) _ (.agg [.slice a1 x0.1.length cq1, .slice a2 x0.2.length cq2].toArray) (x0.1, x0.2) from ⟨_, rfl, ⟨[.slice a1 x0.1.length cq1], [.slice a2 x0.2.length cq2], rfl, r97.rep1, r98.rep1⟩⟩) r96 (gdp Ex22 hc))) (fun v7 w20 hy3 hn3 => ?_)
          have hx17 : Ext w19 w20 := gx (fun h => (hy3 h).2) (fun h => (hn3 h).2 ▸ Ext.refl _)
          have e7 := mkw (fun h => (hy3 h).1) (fun h => (hn3 h).1)
          have k26 := k23.tr hx17
          have k27 := k24.tr hx17
          have k28 := k25.tr hx17
          have k29 := hx16.tr hx17
          refine gv rfl rfl rfl rfl (gw0 rfl) rfl (fun hc => xnot (mv hc e7)) <| vl rfl rfl (xpo rfl rfl rfl) <| nl <| cnd rfl (fun h15 => ?_) (fun h15 => ?_)
          ·
            have hB12 := ifp hB12 h15
            refine wp_seq <| rg <| vl rfl rfl xas <| nl <| ?_
            cases hB12
            have hF := (show some _ = some _ from hF); cases hF
            exact wp_ret <| rt rfl (.tmp rfl rfl .nil) ⟨rfl, k26⟩
          ·
            have hB12 := ifn hB12 h15
            refine wp_skip <| ?_
            cases hB12
            refine lf <| ?_
            exact ⟨rfl, k29⟩
        ·
          have hB12 := ifn hB12 h14
          refine wp_skip <| ?_
          cases hB12
          refine lf <| ?_
          exact ⟨rfl, (Ext.refl _)⟩
      rintro L w21 ⟨rfl, K0_j4⟩
      have k30 := k21.tr K0_j4
      have k31 := k22.tr K0_j4
      have k32 := K0_j3.tr K0_j4
      refine wp_seq <| rg <| ?_
      have hz := bs hF; obtain ⟨x23, Ex23, hF⟩ := hz
      refine cl rfl rfl (xc cb13 mn) (c13 Ex23) ?_
      rintro _ w22 ⟨rfl, hx18⟩
      have k33 := k30.tr hx18
      have k34 := k31.tr hx18
      have k35 := k32.tr hx18
      have k36 := K0_j4.tr hx18
      refine vl rfl rfl xas <| nl <| ?_
      cases hF
      exact wp_ret <| rt rfl (.tmp rfl rfl .nil) ⟨rfl, k33⟩
end Go.Proofs.Ytboefnpnoojfpaa
