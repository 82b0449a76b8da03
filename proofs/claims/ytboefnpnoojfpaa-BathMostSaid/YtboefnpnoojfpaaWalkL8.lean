/-
  Each function of the program returns what its pure function computes, and leaves all memory that was there as it was. Condition: the pure function computes something.
-/
import Derived.Test.YtboefnpnoojfpaaFacts
import Derived.Test.YtboefnpnoojfpaaPureC
import Derived.Test.YtboefnpnoojfpaaMore
import Derived.Test.YtboefnpnoojfpaaWalkB
namespace Go.Proofs.Ytboefnpnoojfpaa
open Go Go.Md Go.RowKit
attribute [local irreducible] Go.wpList Go.Code.wp Go.Calls Go.Md.Rnd Go.Md.Mt Go.Md.MtM Go.Md.RndM Go.Code.wpIn

set_option maxHeartbeats 4000000 in
theorem c8 {w0 : World} {v0 : Value} {x0 : ((List Int) × (List ((List Int) × (List Int))))} (r0 : RV w0 v0 x0) {v1 : Value} {x1 : (List Int)} (r1 : RV w0 v1 x1) {v2 : Value} {x2 : (List (KI .u8))} (r2 : RV w0 v2 x2) {x3 : Int} {F : Nat} {r : Bool} (hF : law11_BathMost F x0 x1 x2 x3 = some r) :
    Calls Try.prog 8 [v0, v1, v2, .int .u8 x3].toArray w0 (Ret fun v w' => v = .bool r ∧ Ext w0 w') := by
  unfold law11_BathMost at hF
  have hz := id r0; obtain ⟨_, rfl, ⟨_, _, rfl, ⟨a1, cq1, rfl, p1, q5, e1⟩, ⟨a2, cq2, rfl, p2, q6, e2⟩⟩⟩ := hz
  have r5 := RV.of1 p1 q5 e1
  have r6 := RV.of1 p2 q6 e2
  have hz := r1.sl; obtain ⟨a3, cq3, rfl, -, -, -⟩ := hz
  have hz := r2.sl; obtain ⟨a4, cq4, rfl, -, -, -⟩ := hz
  refine entr (n := 216) Try.func8 rfl rfl rfl <| wp_seq <| rg <| sbx rfl rfl fun b5 w1 hx1 hg1 hb1 => ?_
  have r7 := r1.ext hx1
  have r8 := r2.ext hx1
  have r9 := r5.ext hx1
  have r10 := r6.ext hx1
  have r11 := r0.ext hx1
  refine vl rfl rfl xas <| nl <| wp_seq <| wp_seq <| rg <| vl rfl rfl (xlda rfl ti25 rfl (Bx.cs hb1)) <| vl rfl rfl xmv <| ?_
  have hz := bs hF; obtain ⟨x5, Ex5, hF⟩ := hz
  refine cl rfl rfl (xc cb29 (mc rfl (mc rfl mn))) (c29 (show RV (α := ((List Int) × (List ((List Int) × (List Int))))) _ (.agg [.slice a1 x0.1.length cq1, .slice a2 x0.2.length cq2].toArray) (x0.1, x0.2) from ⟨_, rfl, ⟨[.slice a1 x0.1.length cq1], [.slice a2 x0.2.length cq2], rfl, r9.rep1, r10.rep1⟩⟩) r7 Ex5) ?_
  rintro _ w2 ⟨rfl, hx2⟩
  have k1 := hx1.tr hx2
  have hb2 := hb1.ext hx2
  have r12 := r9.ext hx2
  have r13 := r10.ext hx2
  have r14 := r7.ext hx2
  have r15 := r8.ext hx2
  refine vl rfl rfl (xnot rfl) <| vl rfl rfl xmv <| gv rfl rfl rfl rfl (gw0 rfl) rfl (fun hc => xmva rfl) <| gv rfl rfl rfl rfl (gw0 rfl) rfl (fun hc => xlen (mv hc rfl) Try.underlying47) <| gv rfl rfl rfl rfl (gw0 rfl) rfl (fun hc => xgtr (mv hc rfl) rfl) <| vl rfl rfl (xpo rfl rfl rfl) <| nl <| cnd rfl (fun h5 => ?_) (fun h5 => ?_)
  ·
    have hF := ifp hF h5
    refine wp_seq <| rg <| ?_
    have hz := bs hF; obtain ⟨x6, Ex6, hF⟩ := hz
    refine cl rfl rfl (xc cb13 mn) (c13 Ex6) ?_
    rintro _ w3 ⟨rfl, hx3⟩
    have k2 := k1.tr hx3
    refine vl rfl rfl xas <| nl <| ?_
    cases hF
    exact wp_ret <| rt rfl (.tmp rfl rfl .nil) ⟨rfl, k2⟩
  ·
    have hF := ifn hF h5
    refine wp_skip <| wp_seq <| rg <| vl rfl rfl xmv <| vl rfl rfl (xcvt rfl Try.underlying5 Try.underlying3) <| vl rfl rfl xmv <| vl rfl rfl (xlen rfl Try.underlying22) <| ?_
    have hz := bs hF; obtain ⟨x7, Ex7, hF⟩ := hz
    refine vl rfl rfl (xremv rfl rfl Ex7) <| vl rfl rfl xas <| nl <| wp_seq <| rg <| vl rfl rfl (xlda rfl ti25 rfl (Bx.cs hb2)) <| vl rfl rfl xmv <| vl rfl rfl xmv <| ?_
    have hz := bs hF; obtain ⟨x8, Ex8, hF⟩ := hz
    refine cl rfl rfl (xc cb24 (mc rfl (mc rfl (mc rfl mn)))) (c24 (show RV (α := ((List Int) × (List ((List Int) × (List Int))))) _ (.agg [.slice a1 x0.1.length cq1, .slice a2 x0.2.length cq2].toArray) (x0.1, x0.2) from ⟨_, rfl, ⟨[.slice a1 x0.1.length cq1], [.slice a2 x0.2.length cq2], rfl, r12.rep1, r13.rep1⟩⟩) r14 Ex8) ?_
    rintro _ w4 ⟨u1, rfl, r16, hx4⟩
    have k3 := k1.tr hx4
    have hb3 := hb2.ext hx4
    have r17 := r12.ext hx4
    have r18 := r13.ext hx4
    have r19 := r14.ext hx4
    have r20 := r15.ext hx4
    have hz := RV.sl r16; obtain ⟨a5, cq5, rfl, -, -, -⟩ := hz
    refine vl rfl rfl xmv <| vl rfl rfl (xext rfl rfl) <| vl rfl rfl (xext rfl rfl) <| vl rfl rfl (xext rfl rfl) <| vl rfl rfl xas <| vl rfl rfl xas <| vl rfl rfl xas <| nl <| wp_seq <| rg <| vl rfl rfl (xlda rfl ti25 rfl (Bx.cs hb3)) <| vl rfl rfl xmv <| vl rfl rfl xmv <| ?_
    have hz := bs hF; obtain ⟨x9, Ex9, hF⟩ := hz
    refine cl rfl rfl (xc cb14 (mc rfl (mc rfl (mc rfl mn)))) (c14 (show RV (α := ((List Int) × (List ((List Int) × (List Int))))) _ (.agg [.slice a1 x0.1.length cq1, .slice a2 x0.2.length cq2].toArray) (x0.1, x0.2) from ⟨_, rfl, ⟨[.slice a1 x0.1.length cq1], [.slice a2 x0.2.length cq2], rfl, r17.rep1, r18.rep1⟩⟩) r19 r16 Ex9) ?_
    rintro _ w5 ⟨u2, rfl, r21, hx5⟩
    have k4 := k3.tr hx5
    have hb4 := hb3.ext hx5
    have r22 := r17.ext hx5
    have r23 := r18.ext hx5
    have r24 := r19.ext hx5
    have r25 := r20.ext hx5
    have r26 := r16.ext hx5
    have hz := RV.sl r21; obtain ⟨a6, cq6, rfl, -, -, -⟩ := hz
    refine vl rfl rfl xmv <| vl rfl rfl (xext rfl rfl) <| vl rfl rfl (xext rfl rfl) <| vl rfl rfl xas <| vl rfl rfl xas <| nl <| wp_seq <| wp_seq <| ?_
    have hz := bs hF; obtain ⟨y1, hB1, hF⟩ := hz
    refine ct (fun L w => L 80 = .bool y1 ∧ L 1 = .slice a3 x1.length cq3 ∧ L 2 = .slice a4 x2.length cq4 ∧ L 4 = .pointer (some ⟨b5, 0, none⟩) ∧ L 9 = .int .i64 x7 ∧ L 10 = .int .i64 x8.1 ∧ L 11 = .slice a5 x8.2.1.length cq5 ∧ L 13 = .slice a6 x9.1.length cq6 ∧ Ext w5 w) ?_ ?_
    ·
      refine rg <| vl rfl rfl xmv <| vl rfl rfl (xneq rfl rfl) <| vl rfl rfl xmv <| ?_
      refine Or.elim (Bool.eq_false_or_eq_true (!decide (x8.2.2 = 0))) (fun h6 => ?_) (fun h6 => ?_)
      ·
        have hB1 := ifp hB1 h6
        refine gfk rfl rfl rfl rfl rfl (btf h6) rfl <| gfk rfl rfl rfl rfl rfl (btf h6) rfl <| vl rfl rfl (xpt rfl h6 rfl) <| vl rfl rfl xmv <| ?_
        refine Or.elim (Bool.eq_false_or_eq_true true) (fun h7 => ?_) (fun h7 => ?_)
        ·
          have hB1 := ifp hB1 h7
          refine gfk rfl rfl rfl rfl rfl (btf h7) rfl <| gfk rfl rfl rfl rfl rfl (btf h7) rfl <| gfk rfl rfl rfl rfl rfl (btf h7) rfl <| gfk rfl rfl rfl rfl rfl (btf h7) rfl <| vl rfl rfl (xpt rfl h7 rfl) <| vl rfl rfl xmv <| gfk rfl rfl rfl rfl rfl (btf h7) rfl <| gfk rfl rfl rfl rfl rfl (btf h7) rfl <| gfk rfl rfl rfl rfl rfl (btf h7) rfl <| gfk rfl rfl rfl rfl rfl (btf h7) rfl <| gfk rfl rfl rfl rfl rfl (btf h7) rfl <| gfk rfl rfl rfl rfl rfl (btf h7) rfl <| vl rfl rfl (xpt rfl h7 rfl) <| nl <| ?_
          cases hB1
          refine lf <| ?_
          exact ⟨rfl, rfl, rfl, rfl, rfl, rfl, rfl, rfl, (Ext.refl _)⟩
        ·
          have hB1 := ifn hB1 h7
          refine gtk rfl rfl rfl rfl rfl (bf h7) <| vl rfl rfl (xlda rfl ti25 rfl (Bx.cs hb4)) <| gtk rfl rfl rfl rfl rfl (bf h7) <| vl rfl rfl xmv <| ?_
          have hz := bs hB1; obtain ⟨x11, Ex11, hB1⟩ := hz
          refine gtk rfl rfl rfl rfl rfl (bf h7) <| cl rfl rfl (xc cb31 (mc rfl (mc rfl mn))) (c31 (show RV (α := ((List Int) × (List ((List Int) × (List Int))))) _ (.agg [.slice a1 x0.1.length cq1, .slice a2 x0.2.length cq2].toArray) (x0.1, x0.2) from ⟨_, rfl, ⟨[.slice a1 x0.1.length cq1], [.slice a2 x0.2.length cq2], rfl, r22.rep1, r23.rep1⟩⟩) r21 Ex11) ?_
          rintro _ w7 ⟨rfl, hx7⟩
          have k6 := k4.tr hx7
          have hb6 := hb4.ext hx7
          have r33 := r22.ext hx7
          have r34 := r23.ext hx7
          have r35 := r24.ext hx7
          have r36 := r25.ext hx7
          have r37 := r26.ext hx7
          have r38 := r21.ext hx7
          refine gtk rfl rfl rfl rfl rfl (bf h7) <| vl rfl rfl (xneq rfl rfl) <| vl rfl rfl (xpf rfl h7 rfl) <| vl rfl rfl xmv <| ?_
          refine Or.elim (Bool.eq_false_or_eq_true (!decide (x11 = 0))) (fun h8 => ?_) (fun h8 => ?_)
          ·
            have hB1 := ifp hB1 h8
            refine gfk rfl rfl rfl rfl rfl (btf h8) rfl <| gfk rfl rfl rfl rfl rfl (btf h8) rfl <| gfk rfl rfl rfl rfl rfl (btf h8) rfl <| gfk rfl rfl rfl rfl rfl (btf h8) rfl <| gfk rfl rfl rfl rfl rfl (btf h8) rfl <| gfk rfl rfl rfl rfl rfl (btf h8) rfl <| vl rfl rfl (xpt rfl h8 rfl) <| nl <| ?_
            cases hB1
            refine lf <| ?_
            exact ⟨rfl, rfl, rfl, rfl, rfl, rfl, rfl, rfl, hx7⟩
          ·
            have hB1 := ifn hB1 h8
            refine gtk rfl rfl rfl rfl rfl (bf h8) <| vl rfl rfl xmv <| gtk rfl rfl rfl rfl rfl (bf h8) <| vl rfl rfl xmv <| ?_
            have hz := bs hB1; obtain ⟨x12, Ex12, hB1⟩ := hz
            have hz := (RV.els r21).ix Ex12; obtain ⟨b6, f1, cs5, e4, i1, i2, q7, hc1⟩ := hz
            cases e4
            obtain rfl := q7
            have hc2 := hc1.ext hx7
            refine gtk rfl rfl rfl rfl rfl (bf h8) <| vl rfl rfl (xixs rfl rfl Try.underlying22 ti2 i1 i2) <| gtk rfl rfl rfl rfl rfl (bf h8) <| vl rfl rfl (xld rfl ti2 (hc2.at 0 rfl)) <| gtk rfl rfl rfl rfl rfl (bf h8) <| vl rfl rfl xmv <| gtk rfl rfl rfl rfl rfl (bf h8) <| vl rfl rfl (xneq rfl rfl) <| vl rfl rfl (xpf rfl h8 rfl) <| nl <| ?_
            cases hB1
            refine lf <| ?_
            exact ⟨rfl, rfl, rfl, rfl, rfl, rfl, rfl, rfl, hx7⟩
      ·
        have hB1 := ifn hB1 h6
        refine gtk rfl rfl rfl rfl rfl (bf h6) <| vl rfl rfl xmv <| gtk rfl rfl rfl rfl rfl (bf h6) <| vl rfl rfl (xneq rfl rfl) <| vl rfl rfl (xpf rfl h6 rfl) <| vl rfl rfl xmv <| ?_
        refine Or.elim (Bool.eq_false_or_eq_true (!decide (x9.2 = 0))) (fun h9 => ?_) (fun h9 => ?_)
        ·
          have hB1 := ifp hB1 h9
          refine gfk rfl rfl rfl rfl rfl (btf h9) rfl <| gfk rfl rfl rfl rfl rfl (btf h9) rfl <| gfk rfl rfl rfl rfl rfl (btf h9) rfl <| gfk rfl rfl rfl rfl rfl (btf h9) rfl <| vl rfl rfl (xpt rfl h9 rfl) <| vl rfl rfl xmv <| ?_
          refine Or.elim (Bool.eq_false_or_eq_true true) (fun h10 => ?_) (fun h10 => ?_)
          ·
            have hB1 := ifp hB1 h10
            refine gfk rfl rfl rfl rfl rfl (btf h10) rfl <| gfk rfl rfl rfl rfl rfl (btf h10) rfl <| gfk rfl rfl rfl rfl rfl (btf h10) rfl <| gfk rfl rfl rfl rfl rfl (btf h10) rfl <| gfk rfl rfl rfl rfl rfl (btf h10) rfl <| gfk rfl rfl rfl rfl rfl (btf h10) rfl <| vl rfl rfl (xpt rfl h10 rfl) <| nl <| ?_
            cases hB1
            refine lf <| ?_
            exact ⟨rfl, rfl, rfl, rfl, rfl, rfl, rfl, rfl, (Ext.refl _)⟩
          ·
            have hB1 := ifn hB1 h10
            refine gtk rfl rfl rfl rfl rfl (bf h10) <| vl rfl rfl xmv <| gtk rfl rfl rfl rfl rfl (bf h10) <| vl rfl rfl xmv <| ?_
            have hz := bs hB1; obtain ⟨x13, Ex13, hB1⟩ := hz
            have hz := (RV.els r21).ix Ex13; obtain ⟨b7, f2, cs6, e5, i3, i4, q8, hc3⟩ := hz
            cases e5
            obtain rfl := q8
            refine gtk rfl rfl rfl rfl rfl (bf h10) <| vl rfl rfl (xixs rfl rfl Try.underlying22 ti2 i3 i4) <| gtk rfl rfl rfl rfl rfl (bf h10) <| vl rfl rfl (xld rfl ti2 (hc3.at 0 rfl)) <| gtk rfl rfl rfl rfl rfl (bf h10) <| vl rfl rfl xmv <| gtk rfl rfl rfl rfl rfl (bf h10) <| vl rfl rfl (xneq rfl rfl) <| vl rfl rfl (xpf rfl h10 rfl) <| nl <| ?_
            cases hB1
            refine lf <| ?_
            exact ⟨rfl, rfl, rfl, rfl, rfl, rfl, rfl, rfl, (Ext.refl _)⟩
        ·
          have hB1 := ifn hB1 h9
          refine gtk rfl rfl rfl rfl rfl (bf h9) <| vl rfl rfl (xlda rfl ti25 rfl (Bx.cs hb4)) <| gtk rfl rfl rfl rfl rfl (bf h9) <| vl rfl rfl xmv <| ?_
          have hz := bs hB1; obtain ⟨x14, Ex14, hB1⟩ := hz
          refine gtk rfl rfl rfl rfl rfl (bf h9) <| cl rfl rfl (xc cb31 (mc rfl (mc rfl mn))) (c31 (show RV (α := ((List Int) × (List ((List Int) × (List Int))))) _ (.agg [.slice a1 x0.1.length cq1, .slice a2 x0.2.length cq2].toArray) (x0.1, x0.2) from ⟨_, rfl, ⟨[.slice a1 x0.1.length cq1], [.slice a2 x0.2.length cq2], rfl, r22.rep1, r23.rep1⟩⟩) r21 Ex14) ?_
          rintro _ w8 ⟨rfl, hx8⟩
          have k7 := k4.tr hx8
          have hb7 := hb4.ext hx8
          have r39 := r22.ext hx8
          have r40 := r23.ext hx8
          have r41 := r24.ext hx8
          have r42 := r25.ext hx8
          have r43 := r26.ext hx8
          have r44 := r21.ext hx8
          refine gtk rfl rfl rfl rfl rfl (bf h9) <| vl rfl rfl (xneq rfl rfl) <| vl rfl rfl (xpf rfl h9 rfl) <| vl rfl rfl xmv <| ?_
          refine Or.elim (Bool.eq_false_or_eq_true (!decide (x14 = 0))) (fun h11 => ?_) (fun h11 => ?_)
          ·
            have hB1 := ifp hB1 h11
            refine gfk rfl rfl rfl rfl rfl (btf h11) rfl <| gfk rfl rfl rfl rfl rfl (btf h11) rfl <| gfk rfl rfl rfl rfl rfl (btf h11) rfl <| gfk rfl rfl rfl rfl rfl (btf h11) rfl <| gfk rfl rfl rfl rfl rfl (btf h11) rfl <| gfk rfl rfl rfl rfl rfl (btf h11) rfl <| vl rfl rfl (xpt rfl h11 rfl) <| nl <| ?_
            cases hB1
            refine lf <| ?_
            exact ⟨rfl, rfl, rfl, rfl, rfl, rfl, rfl, rfl, hx8⟩
          ·
            have hB1 := ifn hB1 h11
            refine gtk rfl rfl rfl rfl rfl (bf h11) <| vl rfl rfl xmv <| gtk rfl rfl rfl rfl rfl (bf h11) <| vl rfl rfl xmv <| ?_
            have hz := bs hB1; obtain ⟨x15, Ex15, hB1⟩ := hz
            have hz := (RV.els r21).ix Ex15; obtain ⟨b8, f3, cs7, e6, i5, i6, q9, hc4⟩ := hz
            cases e6
            obtain rfl := q9
            have hc5 := hc4.ext hx8
            refine gtk rfl rfl rfl rfl rfl (bf h11) <| vl rfl rfl (xixs rfl rfl Try.underlying22 ti2 i5 i6) <| gtk rfl rfl rfl rfl rfl (bf h11) <| vl rfl rfl (xld rfl ti2 (hc5.at 0 rfl)) <| gtk rfl rfl rfl rfl rfl (bf h11) <| vl rfl rfl xmv <| gtk rfl rfl rfl rfl rfl (bf h11) <| vl rfl rfl (xneq rfl rfl) <| vl rfl rfl (xpf rfl h11 rfl) <| nl <| ?_
            cases hB1
            refine lf <| ?_
            exact ⟨rfl, rfl, rfl, rfl, rfl, rfl, rfl, rfl, hx8⟩
    rintro L w9 ⟨l80_j1, l1_j1, l2_j1, l4_j1, l9_j1, l10_j1, l11_j1, l13_j1, K0_j1⟩
    have k8 := k4.tr K0_j1
    have r45 := r24.ext K0_j1
    have r46 := r25.ext K0_j1
    have r47 := r22.ext K0_j1
    have r48 := r23.ext K0_j1
    have hb8 := hb4.ext K0_j1
    have r49 := r26.ext K0_j1
    have r50 := r21.ext K0_j1
    refine cnd l80_j1 (fun h12 => ?_) (fun h12 => ?_)
    ·
      have hF := ifp hF h12
      refine wp_seq <| rg <| vl rfl rfl xas <| nl <| ?_
      cases hF
      exact wp_ret <| rt rfl (.tmp rfl rfl .nil) ⟨rfl, k8⟩
    ·
      have hF := ifn hF h12
      refine wp_skip <| wp_seq <| rg <| vl rfl rfl (xlda l4_j1 ti25 rfl (Bx.cs hb8)) <| vl rfl rfl xmv <| vl rfl rfl xmv <| ?_
      have hz := bs hF; obtain ⟨x16, Ex16, hF⟩ := hz
      refine cl rfl rfl (xc cb20 (mc rfl (mc l1_j1 (mc l13_j1 mn)))) (c20 (show RV (α := ((List Int) × (List ((List Int) × (List Int))))) _ (.agg [.slice a1 x0.1.length cq1, .slice a2 x0.2.length cq2].toArray) (x0.1, x0.2) from ⟨_, rfl, ⟨[.slice a1 x0.1.length cq1], [.slice a2 x0.2.length cq2], rfl, r47.rep1, r48.rep1⟩⟩) r45 r50 Ex16) ?_
      rintro _ w10 ⟨u3, rfl, r51, hx9⟩
      have k9 := k8.tr hx9
      have k10 := K0_j1.tr hx9
      have hb9 := hb8.ext hx9
      have r52 := r47.ext hx9
      have r53 := r48.ext hx9
      have r54 := r45.ext hx9
      have r55 := r46.ext hx9
      have r56 := r49.ext hx9
      have hz := RV.sl r51; obtain ⟨a7, cq7, rfl, -, -, -⟩ := hz
      refine vl rfl rfl xmv <| vl rfl rfl (xext rfl rfl) <| vl rfl rfl (xext rfl rfl) <| vl rfl rfl xas <| vl rfl rfl xas <| nl <| wp_seq <| rg <| vl rfl rfl (xlda l4_j1 ti25 rfl (Bx.cs hb9)) <| vl rfl rfl xmv <| ?_
      have hz := bs hF; obtain ⟨x17, Ex17, hF⟩ := hz
      refine cl rfl rfl (xc cb22 (mc rfl (mc l1_j1 mn))) (c22 (show RV (α := ((List Int) × (List ((List Int) × (List Int))))) _ (.agg [.slice a1 x0.1.length cq1, .slice a2 x0.2.length cq2].toArray) (x0.1, x0.2) from ⟨_, rfl, ⟨[.slice a1 x0.1.length cq1], [.slice a2 x0.2.length cq2], rfl, r52.rep1, r53.rep1⟩⟩) r54 Ex17) ?_
      rintro _ w11 ⟨rfl, hx10⟩
      have k11 := k9.tr hx10
      have k12 := k10.tr hx10
      have hb10 := hb9.ext hx10
      have r57 := r52.ext hx10
      have r58 := r53.ext hx10
      have r59 := r54.ext hx10
      have r60 := r55.ext hx10
      have r61 := r56.ext hx10
      have r62 := r51.ext hx10
      refine vl rfl rfl xmv <| vl rfl rfl (xext rfl rfl) <| vl rfl rfl (xext rfl rfl) <| vl rfl rfl xas <| vl rfl rfl xas <| nl <| wp_seq <| wp_seq <| rg <| vl rfl rfl xmv <| vl rfl rfl (xneq rfl rfl) <| vl rfl rfl xmv <| gv rfl rfl rfl rfl (gw0 rfl) rfl (fun hc => xmva rfl) <| gv rfl rfl rfl rfl (gw0 rfl) rfl (fun hc => xneq (mv hc rfl) rfl) <| vl rfl rfl (xpo rfl rfl rfl) <| vl rfl rfl xmv <| gv rfl rfl rfl rfl (gw0 rfl) rfl (fun hc => xmva rfl) <| gv rfl rfl rfl rfl (gw0 rfl) rfl (fun hc => xlen (mv hc rfl) Try.underlying26) <| gv rfl rfl rfl rfl (gw0 rfl) rfl (fun hc => xmva l11_j1) <| gv rfl rfl rfl rfl (gw0 rfl) rfl (fun hc => xlen (mv hc rfl) Try.underlying26) <| gv rfl rfl rfl rfl (gw0 rfl) rfl (fun hc => xneq (mv hc rfl) (mv hc rfl)) <| vl rfl rfl (xpo rfl rfl rfl) <| nl <| cnd rfl (fun h13 => ?_) (fun h13 => ?_)
      ·
        have hF := ifp hF h13
        refine wp_seq <| rg <| vl rfl rfl xas <| nl <| ?_
        cases hF
        exact wp_ret <| rt rfl (.tmp rfl rfl .nil) ⟨rfl, k11⟩
      ·
        have hF := ifn hF h13
        refine wp_skip <| wp_seq <| rg <| vl rfl rfl (xlda l4_j1 ti25 rfl (Bx.cs hb10)) <| vl rfl rfl xmv <| ?_
        have hz := bs hF; obtain ⟨x18, Ex18, hF⟩ := hz
        refine cl rfl rfl (xc cb26 (mc rfl (mc l1_j1 mn))) (c26 (show RV (α := ((List Int) × (List ((List Int) × (List Int))))) _ (.agg [.slice a1 x0.1.length cq1, .slice a2 x0.2.length cq2].toArray) (x0.1, x0.2) from ⟨_, rfl, ⟨[.slice a1 x0.1.length cq1], [.slice a2 x0.2.length cq2], rfl, r57.rep1, r58.rep1⟩⟩) r59 Ex18) ?_
        rintro _ w12 ⟨u4, rfl, r63, hx11⟩
        have k13 := k11.tr hx11
        have k14 := k12.tr hx11
        have hb11 := hb10.ext hx11
        have r64 := r57.ext hx11
        have r65 := r58.ext hx11
        have r66 := r59.ext hx11
        have r67 := r60.ext hx11
        have hz := RV.sl r63; obtain ⟨a8, cq8, rfl, -, -, -⟩ := hz
        refine vl rfl rfl xmv <| vl rfl rfl (xext rfl rfl) <| vl rfl rfl (xext rfl rfl) <| vl rfl rfl xas <| vl rfl rfl xas <| nl <| wp_seq <| wp_seq <| rg <| vl rfl rfl xmv <| vl rfl rfl (xeql rfl rfl) <| nl <| ?_
        have hz := bs hF; obtain ⟨o1, hB2, hF⟩ := hz
        refine ct (fun L w => o1 = .inr () ∧ L 1 = .slice a3 x1.length cq3 ∧ L 2 = .slice a4 x2.length cq4 ∧ L 4 = .pointer (some ⟨b5, 0, none⟩) ∧ L 9 = .int .i64 x7 ∧ L 10 = .int .i64 x8.1 ∧ L 17 = .int .i64 x17.1 ∧ L 20 = .int .i64 x18.2 ∧ Ext w12 w) ?_ ?_
        ·
          refine cnd rfl (fun h14 => ?_) (fun h14 => ?_)
          ·
            have hB2 := ifp hB2 h14
            refine wp_seq <| rg <| vl rfl rfl (xlda l4_j1 ti25 rfl (Bx.cs hb11)) <| vl rfl rfl xmv <| vl rfl rfl xmv <| ?_
            have hz := bs hB2; obtain ⟨x19, Ex19, hB2⟩ := hz
            refine cl rfl rfl (xc cb14 (mc rfl (mc l1_j1 (mc rfl mn)))) (c14 (show RV (α := ((List Int) × (List ((List Int) × (List Int))))) _ (.agg [.slice a1 x0.1.length cq1, .slice a2 x0.2.length cq2].toArray) (x0.1, x0.2) from ⟨_, rfl, ⟨[.slice a1 x0.1.length cq1], [.slice a2 x0.2.length cq2], rfl, r64.rep1, r65.rep1⟩⟩) r66 r63 Ex19) ?_
            rintro _ w13 ⟨u5, rfl, r68, hx12⟩
            have k15 := k13.tr hx12
            have k16 := k14.tr hx12
            have hb12 := hb11.ext hx12
            have r69 := r64.ext hx12
            have r70 := r65.ext hx12
            have r71 := r66.ext hx12
            have r72 := r67.ext hx12
            have hz := RV.sl r68; obtain ⟨a9, cq9, rfl, -, -, -⟩ := hz
            refine vl rfl rfl xmv <| vl rfl rfl (xext rfl rfl) <| vl rfl rfl (xext rfl rfl) <| vl rfl rfl xas <| vl rfl rfl xas <| nl <| wp_seq <| wp_seq <| rg <| vl rfl rfl xmv <| vl rfl rfl (xneq rfl rfl) <| vl rfl rfl xmv <| gv rfl rfl rfl rfl (gw0 rfl) rfl (fun hc => xlda l4_j1 ti25 rfl (Bx.cs hb12)) <| gv rfl rfl rfl rfl (gw0 rfl) rfl (fun hc => xmva rfl) <| ?_
            have hz := bs hB2; obtain ⟨x20, Ex20, hB2⟩ := hz
            refine gc rfl rfl rfl rfl (gw0 rfl) rfl (fun hc => xc cb31 (mc (mv hc rfl) (mc (mv hc rfl) mn))) (fun hc => (c31 (show RV (α := ((List Int) × (List ((List Int) × (List Int))))) _ (.agg [.slice a1 x0.1.length cq1, .slice a2 x0.2.length cq2].toArray) (x0.1, x0.2) from ⟨_, rfl, ⟨[.slice a1 x0.1.length cq1], [.slice a2 x0.2.length cq2], rfl, r69.rep1, r70.rep1⟩⟩) r68 (gdp Ex20 hc))) (fun v6 w14 hy2 hn2 => ?_)
            have hx13 : Ext w13 w14 := gx (fun h => (hy2 h).2) (fun h => (hn2 h).2 ▸ Ext.refl _)
            have e7 := mkw (fun h => (hy2 h).1) (fun h => (hn2 h).1)
            have k17 := k15.tr hx13
            have k18 := k16.tr hx13
            have k19 := hx12.tr hx13
            have hb13 := hb12.ext hx13
            have r73 := r69.ext hx13
            have r74 := r70.ext hx13
            have r75 := r71.ext hx13
            have r76 := r72.ext hx13
            have r77 := r68.ext hx13
            refine gv rfl rfl rfl rfl (gw0 rfl) rfl (fun hc => xneq (mv hc e7) rfl) <| vl rfl rfl (xpo rfl rfl rfl) <| vl rfl rfl xmv <| gv rfl rfl rfl rfl (gw0 rfl) rfl (fun hc => xlda l4_j1 ti25 rfl (Bx.cs hb13)) <| gv rfl rfl rfl rfl (gw0 rfl) rfl (fun hc => xmva rfl) <| ?_
            have hz := bs hB2; obtain ⟨x21, Ex21, hB2⟩ := hz
            refine gc rfl rfl rfl rfl (gw0 rfl) rfl (fun hc => xc cb28 (mc (mv hc rfl) (mc (mv hc rfl) mn))) (fun hc => (c28 (show RV (α := ((List Int) × (List ((List Int) × (List Int))))) _ (.agg [.slice a1 x0.1.length cq1, .slice a2 x0.2.length cq2].toArray) (x0.1, x0.2) from ⟨_, rfl, ⟨[.slice a1 x0.1.length cq1], [.slice a2 x0.2.length cq2], rfl, r73.rep1, r74.rep1⟩⟩) r77 (gdp Ex21 hc))) (fun v7 w15 hy3 hn3 => ?_)
            have hx14 : Ext w14 w15 := gx (fun h => (hy3 h).2) (fun h => (hn3 h).2 ▸ Ext.refl _)
            have e8 := mkw (fun h => (hy3 h).1) (fun h => (hn3 h).1)
            have k20 := k17.tr hx14
            have k21 := k18.tr hx14
            have k22 := k19.tr hx14
            have hb14 := hb13.ext hx14
            have r78 := r73.ext hx14
            have r79 := r74.ext hx14
            have r80 := r75.ext hx14
            have r81 := r76.ext hx14
            have r82 := r77.ext hx14
            refine gv rfl rfl rfl rfl (gw0 rfl) rfl (fun hc => xnot (mv hc e8)) <| vl rfl rfl (xpo rfl rfl rfl) <| nl <| cnd rfl (fun h15 => ?_) (fun h15 => ?_)
            ·
              have hB2 := ifp hB2 h15
              refine wp_seq <| rg <| vl rfl rfl xas <| nl <| ?_
              cases hB2
              have hF := (show some _ = some _ from hF); cases hF
              exact wp_ret <| rt rfl (.tmp rfl rfl .nil) ⟨rfl, k20⟩
            ·
              have hB2 := ifn hB2 h15
              refine wp_skip <| wp_seq <| rg <| vl rfl rfl (xlda l4_j1 ti25 rfl (Bx.cs hb14)) <| vl rfl rfl xmv <| ?_
              have hz := bs hB2; obtain ⟨x22, Ex22, hB2⟩ := hz
              refine cl rfl rfl (xc cb22 (mc rfl (mc rfl mn))) (c22 (show RV (α := ((List Int) × (List ((List Int) × (List Int))))) _ (.agg [.slice a1 x0.1.length cq1, .slice a2 x0.2.length cq2].toArray) (x0.1, x0.2) from ⟨_, rfl, ⟨[.slice a1 x0.1.length cq1], [.slice a2 x0.2.length cq2], rfl, r78.rep1, r79.rep1⟩⟩) r82 Ex22) ?_
              rintro _ w16 ⟨rfl, hx15⟩
              have k23 := k20.tr hx15
              have k24 := k21.tr hx15
              have k25 := k22.tr hx15
              have hb15 := hb14.ext hx15
              have r83 := r78.ext hx15
              have r84 := r79.ext hx15
              have r85 := r80.ext hx15
              have r86 := r81.ext hx15
              refine vl rfl rfl xmv <| vl rfl rfl (xext rfl rfl) <| vl rfl rfl (xext rfl rfl) <| vl rfl rfl xas <| vl rfl rfl xas <| nl <| wp_seq <| rg <| vl rfl rfl xmv <| vl rfl rfl (xneq rfl rfl) <| vl rfl rfl xmv <| gv rfl rfl rfl rfl (gw0 rfl) rfl (fun hc => xmva rfl) <| gv rfl rfl rfl rfl (gw0 rfl) rfl (fun hc => xneq (mv hc rfl) rfl) <| vl rfl rfl (xpo rfl rfl rfl) <| nl <| cnd rfl (fun h16 => ?_) (fun h16 => ?_)
              ·
                have hB2 := ifp hB2 h16
                refine wp_seq <| rg <| vl rfl rfl xas <| nl <| ?_
                cases hB2
                have hF := (show some _ = some _ from hF); cases hF
                exact wp_ret <| rt rfl (.tmp rfl rfl .nil) ⟨rfl, k23⟩
              ·
                have hB2 := ifn hB2 h16
                refine wp_skip <| ?_
                cases hB2
                refine lf <| ?_
                exact ⟨rfl, l1_j1, l2_j1, l4_j1, l9_j1, l10_j1, rfl, rfl, k25⟩
          ·
            have hB2 := ifn hB2 h14
            refine wp_skip <| ?_
            cases hB2
            refine lf <| ?_
            exact ⟨rfl, l1_j1, l2_j1, l4_j1, l9_j1, l10_j1, rfl, rfl, (Ext.refl _)⟩
        rintro L w17 ⟨rfl, l1_j2, l2_j2, l4_j2, l9_j2, l10_j2, l17_j2, l20_j2, K0_j2⟩
        have k26 := k13.tr K0_j2
        have k27 := k14.tr K0_j2
        have r87 := r66.ext K0_j2
        have r88 := r67.ext K0_j2
        have r89 := r64.ext K0_j2
        have r90 := r65.ext K0_j2
        have hb16 := hb11.ext K0_j2
        refine wp_seq <| wpl [] (.pure false 0 (.pure true 1 (.pure false 2 (.pure true 3 (.pure true 4 (.eff 5 (.eff 6 (.pure true 7 (.pure true 8 (.pure true 9 (.pure true 10 (.pure true 11 .fin))))) .stop) .stop)))))) mixed (by kernel_rfl) (fun w18 hx16 => ?_)
        have k28 := k26.tr hx16
        have k29 := k27.tr hx16
        have k30 := K0_j2.tr hx16
        have hb17 := hb16.ext hx16
        have r91 := r89.ext hx16
        have r92 := r90.ext hx16
        have r93 := r87.ext hx16
        have r94 := r88.ext hx16
        refine pv rfl rfl rfl (fun _ hS => xlda l4_j2 ti25 rfl (Bx.cs (hb17.ext (hS.resolve_left nofun)))) (.inr (Ext.refl _)) <| pv rfl rfl rfl (fun _ _ => xmv) (.inl rfl) <| pv rfl rfl rfl (fun _ hS => xlda l4_j2 ti25 rfl (Bx.cs (hb17.ext (hS.resolve_left nofun)))) (.inr (Ext.refl _)) <| pv rfl rfl rfl (fun _ _ => xmv) (.inl rfl) <| pv rfl rfl rfl (fun _ _ => xmv) (.inl rfl) <| ?_
        have hz := bs hF; obtain ⟨x23, Ex23, hF⟩ := hz
        refine pe1 rfl <| cl rfl rfl (xc cb30 (mc rfl (mc l1_j2 (mc l2_j2 mn)))) (c30 (show RV (α := ((List Int) × (List ((List Int) × (List Int))))) _ (.agg [.slice a1 x0.1.length cq1, .slice a2 x0.2.length cq2].toArray) (x0.1, x0.2) from ⟨_, rfl, ⟨[.slice a1 x0.1.length cq1], [.slice a2 x0.2.length cq2], rfl, r91.rep1, r92.rep1⟩⟩) r93 r94 Ex23) ?_
        rintro _ w19 ⟨u6, rfl, r95, hx17⟩
        have k31 := k28.tr hx17
        have k32 := k29.tr hx17
        have k33 := k30.tr hx17
        have hb18 := hb17.ext hx17
        have r96 := r91.ext hx17
        have r97 := r92.ext hx17
        have r98 := r93.ext hx17
        have hz := RV.sl r95; obtain ⟨a10, cq10, rfl, -, -, -⟩ := hz
        refine nl ⟨fun _ _ => hx17, ?_⟩
        have hz := bs hF; obtain ⟨x24, Ex24, hF⟩ := hz
        refine pe1 rfl <| cl rfl rfl (xc cb14 (mc rfl (mc l1_j2 (mc rfl mn)))) (c14 (show RV (α := ((List Int) × (List ((List Int) × (List Int))))) _ (.agg [.slice a1 x0.1.length cq1, .slice a2 x0.2.length cq2].toArray) (x0.1, x0.2) from ⟨_, rfl, ⟨[.slice a1 x0.1.length cq1], [.slice a2 x0.2.length cq2], rfl, r96.rep1, r97.rep1⟩⟩) r98 r95 Ex24) ?_
        rintro _ w20 ⟨u7, rfl, r99, hx18⟩
        have k34 := k31.tr hx18
        have k35 := k32.tr hx18
        have k36 := k33.tr hx18
        have k37 := hx17.tr hx18
        have hb19 := hb18.ext hx18
        have r100 := r96.ext hx18
        have r101 := r97.ext hx18
        have hz := RV.sl r99; obtain ⟨a11, cq11, rfl, -, -, -⟩ := hz
        refine nl ⟨fun _ _ => k37, ?_⟩
        refine pv rfl rfl rfl (fun _ _ => xmv) (.inl rfl) <| pv rfl rfl rfl (fun _ _ => xext rfl rfl) (.inl rfl) <| pv rfl rfl rfl (fun _ _ => xext rfl rfl) (.inl rfl) <| pv rfl rfl rfl (fun _ _ => xas) (.inl rfl) <| pv rfl rfl rfl (fun _ _ => xas) (.inl rfl) <| wp_seq <| wp_seq <| rg <| vl rfl rfl xmv <| vl rfl rfl (xneq l20_j2 rfl) <| vl rfl rfl xmv <| gv rfl rfl rfl rfl (gw1 rfl) rfl (fun hc => xmva l20_j2) <| gv rfl rfl rfl rfl (gw1 rfl) rfl (fun hc => xneq (mv hc rfl) rfl) <| vl rfl rfl (xpa rfl rfl rfl) <| vl rfl rfl xmv <| gv rfl rfl rfl rfl (gw0 rfl) rfl (fun hc => xmva rfl) <| gv rfl rfl rfl rfl (gw0 rfl) rfl (fun hc => xneq (mv hc rfl) rfl) <| vl rfl rfl (xpo rfl rfl rfl) <| vl rfl rfl xmv <| gv rfl rfl rfl rfl (gw0 rfl) rfl (fun hc => xlda l4_j2 ti25 rfl (Bx.cs hb19)) <| gv rfl rfl rfl rfl (gw0 rfl) rfl (fun hc => xmva rfl) <| ?_
        have hz := bs hF; obtain ⟨x25, Ex25, hF⟩ := hz
        refine gc rfl rfl rfl rfl (gw0 rfl) rfl (fun hc => xc cb31 (mc (mv hc rfl) (mc (mv hc rfl) mn))) (fun hc => (c31 (show RV (α := ((List Int) × (List ((List Int) × (List Int))))) _ (.agg [.slice a1 x0.1.length cq1, .slice a2 x0.2.length cq2].toArray) (x0.1, x0.2) from ⟨_, rfl, ⟨[.slice a1 x0.1.length cq1], [.slice a2 x0.2.length cq2], rfl, r100.rep1, r101.rep1⟩⟩) r99 (gdp Ex25 hc))) (fun v8 w21 hy4 hn4 => ?_)
        have hx19 : Ext w20 w21 := gx (fun h => (hy4 h).2) (fun h => (hn4 h).2 ▸ Ext.refl _)
        have e9 := mkw (fun h => (hy4 h).1) (fun h => (hn4 h).1)
        have k38 := k34.tr hx19
        have k39 := k35.tr hx19
        have k40 := k36.tr hx19
        have k41 := k37.tr hx19
        have hb20 := hb19.ext hx19
        have r102 := r100.ext hx19
        have r103 := r101.ext hx19
        have r104 := r99.ext hx19
        refine gv rfl rfl rfl rfl (gw0 rfl) rfl (fun hc => xneq (mv hc e9) rfl) <| vl rfl rfl (xpo rfl rfl rfl) <| vl rfl rfl xmv <| gv rfl rfl rfl rfl (gw0 rfl) rfl (fun hc => xmva l20_j2) <| gv rfl rfl rfl rfl (gw0 rfl) rfl (fun hc => xeql (mv hc rfl) rfl) <| gv rfl rfl rfl rfl (gw0 rfl) rfl (fun hc => xmva (mv hc rfl)) <| gv rfl rfl rfl rfl (gn1 rfl) rfl (fun hc => xlda l4_j2 ti25 rfl (Bx.cs hb20)) <| gv rfl rfl rfl rfl (gn1 rfl) rfl (fun hc => xmva rfl) <| ?_
        have hz := bs hF; obtain ⟨x26, Ex26, hF⟩ := hz
        refine gc rfl rfl rfl rfl (gn1 rfl) rfl (fun hc => xc cb28 (mc (mv hc rfl) (mc (mv hc rfl) mn))) (fun hc => (c28 (show RV (α := ((List Int) × (List ((List Int) × (List Int))))) _ (.agg [.slice a1 x0.1.length cq1, .slice a2 x0.2.length cq2].toArray) (x0.1, x0.2) from ⟨_, rfl, ⟨[.slice a1 x0.1.length cq1], [.slice a2 x0.2.length cq2], rfl, r102.rep1, r103.rep1⟩⟩) r104 (gdp Ex26 hc))) (fun v9 w22 hy5 hn5 => ?_)
        have hx20 : Ext w21 w22 := gx (fun h => (hy5 h).2) (fun h => (hn5 h).2 ▸ Ext.refl _)
        have e10 := mkw (fun h => (hy5 h).1) (fun h => (hn5 h).1)
        have k42 := k38.tr hx20
        have k43 := k39.tr hx20
        have k44 := k40.tr hx20
        have k45 := k41.tr hx20
        have hb21 := hb20.ext hx20
        have r105 := r102.ext hx20
        have r106 := r103.ext hx20
        have r107 := r104.ext hx20
        refine gv rfl rfl rfl rfl (gw0 rfl) rfl (fun hc => xpa (mv hc rfl) (mvn hc e10) rfl) <| vl rfl rfl (xpo rfl rfl rfl) <| nl <| cnd rfl (fun h17 => ?_) (fun h17 => ?_)
        ·
          have hF := ifp hF h17
          refine wp_seq <| rg <| vl rfl rfl xas <| nl <| ?_
          cases hF
          exact wp_ret <| rt rfl (.tmp rfl rfl .nil) ⟨rfl, k42⟩
        ·
          have hF := ifn hF h17
          refine wp_skip <| wp_seq <| rg <| vl rfl rfl (xlda l4_j2 ti25 rfl (Bx.cs hb21)) <| vl rfl rfl xmv <| vl rfl rfl xmv <| ?_
          have hz := bs hF; obtain ⟨x27, Ex27, hF⟩ := hz
          refine cl rfl rfl (xc cb24 (mc rfl (mc rfl (mc l9_j2 mn)))) (c24 (show RV (α := ((List Int) × (List ((List Int) × (List Int))))) _ (.agg [.slice a1 x0.1.length cq1, .slice a2 x0.2.length cq2].toArray) (x0.1, x0.2) from ⟨_, rfl, ⟨[.slice a1 x0.1.length cq1], [.slice a2 x0.2.length cq2], rfl, r105.rep1, r106.rep1⟩⟩) r107 Ex27) ?_
          rintro _ w23 ⟨u8, rfl, r108, hx21⟩
          have k46 := k42.tr hx21
          have k47 := k43.tr hx21
          have k48 := k44.tr hx21
          have k49 := k45.tr hx21
          have hb22 := hb21.ext hx21
          have r109 := r105.ext hx21
          have r110 := r106.ext hx21
          have r111 := r107.ext hx21
          have hz := RV.sl r108; obtain ⟨a12, cq12, rfl, -, -, -⟩ := hz
          refine vl rfl rfl xmv <| vl rfl rfl (xext rfl rfl) <| vl rfl rfl (xext rfl rfl) <| vl rfl rfl (xext rfl rfl) <| vl rfl rfl xas <| vl rfl rfl xas <| vl rfl rfl xas <| nl <| wp_seq <| rg <| vl rfl rfl (xlda l4_j2 ti25 rfl (Bx.cs hb22)) <| vl rfl rfl xmv <| ?_
          have hz := bs hF; obtain ⟨x28, Ex28, hF⟩ := hz
          refine cl rfl rfl (xc cb22 (mc rfl (mc rfl mn))) (c22 (show RV (α := ((List Int) × (List ((List Int) × (List Int))))) _ (.agg [.slice a1 x0.1.length cq1, .slice a2 x0.2.length cq2].toArray) (x0.1, x0.2) from ⟨_, rfl, ⟨[.slice a1 x0.1.length cq1], [.slice a2 x0.2.length cq2], rfl, r109.rep1, r110.rep1⟩⟩) r111 Ex28) ?_
          rintro _ w24 ⟨rfl, hx22⟩
          have k50 := k46.tr hx22
          have k51 := k47.tr hx22
          have k52 := k48.tr hx22
          have k53 := k49.tr hx22
          refine vl rfl rfl xmv <| vl rfl rfl (xext rfl rfl) <| vl rfl rfl (xext rfl rfl) <| vl rfl rfl xas <| vl rfl rfl xas <| nl <| wp_seq <| rg <| vl rfl rfl xmv <| vl rfl rfl (xeql rfl rfl) <| vl rfl rfl xmv <| gv rfl rfl rfl rfl (gw1 rfl) rfl (fun hc => xmva rfl) <| gv rfl rfl rfl rfl (gw1 rfl) rfl (fun hc => xeql (mv hc rfl) rfl) <| vl rfl rfl (xpa rfl rfl rfl) <| vl rfl rfl xmv <| gv rfl rfl rfl rfl (gw1 rfl) rfl (fun hc => xmva rfl) <| gv rfl rfl rfl rfl (gw1 rfl) rfl (fun hc => xmva l10_j2) <| gv rfl rfl rfl rfl (gw1 rfl) rfl (fun hc => xleq (mv hc rfl) (mv hc rfl)) <| vl rfl rfl (xpa rfl rfl rfl) <| vl rfl rfl xmv <| gv rfl rfl rfl rfl (gw1 rfl) rfl (fun hc => xmva rfl) <| gv rfl rfl rfl rfl (gw1 rfl) rfl (fun hc => xmva l17_j2) <| gv rfl rfl rfl rfl (gw1 rfl) rfl (fun hc => xleq (mv hc rfl) (mv hc rfl)) <| vl rfl rfl (xpa rfl rfl rfl) <| vl rfl rfl xmv <| ?_
          have hz := bs hF; obtain ⟨x29, Ex29, hF⟩ := hz
          refine gc rfl rfl rfl rfl (gw1 rfl) rfl (fun hc => xc cb13 mn) (fun hc => (c13 (gdp Ex29 hc))) (fun v10 w25 hy6 hn6 => ?_)
          have hx23 : Ext w24 w25 := gx (fun h => (hy6 h).2) (fun h => (hn6 h).2 ▸ Ext.refl _)
          have e11 := mkw (fun h => (hy6 h).1) (fun h => (hn6 h).1)
          have k54 := k50.tr hx23
          have k55 := k51.tr hx23
          have k56 := k52.tr hx23
          have k57 := k53.tr hx23
          refine vl rfl rfl (xpa rfl e11 rfl) <| vl rfl rfl xas <| nl <| ?_
          cases hF
          exact wp_ret <| rt rfl (.tmp rfl rfl .nil) ⟨rfl, k54⟩
end Go.Proofs.Ytboefnpnoojfpaa
