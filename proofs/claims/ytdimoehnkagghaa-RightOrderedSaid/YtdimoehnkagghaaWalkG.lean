/-
  Each function of the program returns what its pure function computes, and leaves all memory that was there as it was. Condition: the pure function computes something.
-/
import Derived.Test.YtdimoehnkagghaaFacts
import Derived.Test.YtdimoehnkagghaaPureG
import Derived.Test.YtdimoehnkagghaaWalkD
namespace Go.Proofs.Ytdimoehnkagghaa
open Go Go.Md Go.RowKit
attribute [local irreducible] Go.wpList Go.Code.wp Go.Calls Go.Md.Rnd Go.Md.Mt Go.Md.MtM Go.Md.RndM Go.Code.wpIn

set_option maxHeartbeats 4000000 in
theorem c9 {w0 : World} {v0 : Value} {x0 : (Int × (List Int) × (List ((List Int) × Int)) × (List ((List Int) × Int)) × (List (List Int)))} (r0 : RV w0 v0 x0) {x1 : Int} {v2 : Value} {x2 : (List (KI .u16))} (r2 : RV w0 v2 x2) {F : Nat} {r : Bool} (hF : law10_RightProved F x0 x1 x2 = some r) :
    Calls Try.prog 9 [v0, .int .u16 x1, v2].toArray w0 (Ret fun v w' => v = .bool r ∧ Ext w0 w') := by
  unfold law10_RightProved at hF
  have hz := id r0; obtain ⟨_, rfl, ⟨_, _, rfl, rfl, ⟨_, _, rfl, ⟨a1, cq1, rfl, p1, q4, e1⟩, ⟨_, _, rfl, ⟨a2, cq2, rfl, p2, q5, e2⟩, ⟨_, _, rfl, ⟨a3, cq3, rfl, p3, q6, e3⟩, ⟨a4, cq4, rfl, p4, q7, e4⟩⟩⟩⟩⟩⟩ := hz
  have r4 := RV.of1 p1 q4 e1
  have r5 := RV.of1 p2 q5 e2
  have r6 := RV.of1 p3 q6 e3
  have r7 := RV.of1 p4 q7 e4
  have hz := r2.sl; obtain ⟨a5, cq5, rfl, -, -, -⟩ := hz
  refine entr (n := 177) Try.func9 rfl rfl rfl <| wp_seq <| rg <| sbx rfl rfl fun b4 w1 hx1 hg1 hb1 => ?_
  have r8 := r2.ext hx1
  have r9 := r4.ext hx1
  have r10 := r5.ext hx1
  have r11 := r6.ext hx1
  have r12 := r7.ext hx1
  have r13 := r0.ext hx1
  refine vl rfl rfl xas <| nl <| wp_seq <| wp_seq <| rg <| vl rfl rfl (xlda rfl ti26 rfl (Bx.cs hb1)) <| ?_
  have hz := bs hF; obtain ⟨x4, Ex4, hF⟩ := hz
  refine cl rfl rfl (xc cb30 (mc rfl mn)) (c30 (show RV (α := (Int × (List Int) × (List ((List Int) × Int)) × (List ((List Int) × Int)) × (List (List Int)))) _ (.agg [.int .i64 x0.1, .slice a1 x0.2.1.length cq1, .slice a2 x0.2.2.1.length cq2, .slice a3 x0.2.2.2.1.length cq3, .slice a4 x0.2.2.2.2.length cq4].toArray) (x0.1, x0.2.1, x0.2.2.1, x0.2.2.2.1, x0.2.2.2.2) from ⟨_, rfl, ⟨[.int .i64 x0.1], [.slice a1 x0.2.1.length cq1] ++ ([.slice a2 x0.2.2.1.length cq2] ++ ([.slice a3 x0.2.2.2.1.length cq3] ++ [.slice a4 x0.2.2.2.2.length cq4])), rfl, rfl, ⟨[.slice a1 x0.2.1.length cq1], [.slice a2 x0.2.2.1.length cq2] ++ ([.slice a3 x0.2.2.2.1.length cq3] ++ [.slice a4 x0.2.2.2.2.length cq4]), rfl, r9.rep1, ⟨[.slice a2 x0.2.2.1.length cq2], [.slice a3 x0.2.2.2.1.length cq3] ++ [.slice a4 x0.2.2.2.2.length cq4], rfl, r10.rep1, ⟨[.slice a3 x0.2.2.2.1.length cq3], [.slice a4 x0.2.2.2.2.length cq4], rfl, r11.rep1, r12.rep1⟩⟩⟩⟩⟩) Ex4) ?_
  rintro _ w2 ⟨rfl, hx2⟩
  have k1 := hx1.tr hx2
  have hb2 := hb1.ext hx2
  have r14 := r9.ext hx2
  have r15 := r10.ext hx2
  have r16 := r11.ext hx2
  have r17 := r12.ext hx2
  have r18 := r8.ext hx2
  refine vl rfl rfl (xnot rfl) <| vl rfl rfl xmv <| gv rfl rfl rfl rfl (gw0 rfl) rfl (fun hc => xmva rfl) <| gv rfl rfl rfl rfl (gw0 rfl) rfl (fun hc => xlen (mv hc rfl) Try.underlying58) <| gv rfl rfl rfl rfl (gw0 rfl) rfl (fun hc => xgtr (mv hc rfl) rfl) <| vl rfl rfl (xpo rfl rfl rfl) <| nl <| cnd rfl (fun h4 => ?_) (fun h4 => ?_)
  ·
    have hF := ifp hF h4
    refine wp_seq <| rg <| ?_
    have hz := bs hF; obtain ⟨x5, Ex5, hF⟩ := hz
    refine cl rfl rfl (xc cb15 mn) (c15 Ex5) ?_
    rintro _ w3 ⟨rfl, hx3⟩
    have k2 := k1.tr hx3
    refine vl rfl rfl xas <| nl <| ?_
    cases hF
    exact wp_ret <| rt rfl (.tmp rfl rfl .nil) ⟨rfl, k2⟩
  ·
    have hF := ifn hF h4
    refine wp_skip <| wp_seq <| rg <| vl rfl rfl (xlda rfl ti26 rfl (Bx.cs hb2)) <| ?_
    have hz := bs hF; obtain ⟨x6, Ex6, hF⟩ := hz
    refine cl rfl rfl (xc cb24 (mc rfl mn)) (c24 (show RV (α := (Int × (List Int) × (List ((List Int) × Int)) × (List ((List Int) × Int)) × (List (List Int)))) _ (.agg [.int .i64 x0.1, .slice a1 x0.2.1.length cq1, .slice a2 x0.2.2.1.length cq2, .slice a3 x0.2.2.2.1.length cq3, .slice a4 x0.2.2.2.2.length cq4].toArray) (x0.1, x0.2.1, x0.2.2.1, x0.2.2.2.1, x0.2.2.2.2) from ⟨_, rfl, ⟨[.int .i64 x0.1], [.slice a1 x0.2.1.length cq1] ++ ([.slice a2 x0.2.2.1.length cq2] ++ ([.slice a3 x0.2.2.2.1.length cq3] ++ [.slice a4 x0.2.2.2.2.length cq4])), rfl, rfl, ⟨[.slice a1 x0.2.1.length cq1], [.slice a2 x0.2.2.1.length cq2] ++ ([.slice a3 x0.2.2.2.1.length cq3] ++ [.slice a4 x0.2.2.2.2.length cq4]), rfl, r14.rep1, ⟨[.slice a2 x0.2.2.1.length cq2], [.slice a3 x0.2.2.2.1.length cq3] ++ [.slice a4 x0.2.2.2.2.length cq4], rfl, r15.rep1, ⟨[.slice a3 x0.2.2.2.1.length cq3], [.slice a4 x0.2.2.2.2.length cq4], rfl, r16.rep1, r17.rep1⟩⟩⟩⟩⟩) Ex6) ?_
    rintro _ w4 ⟨u1, rfl, r19, hx4⟩
    have k3 := k1.tr hx4
    have hb3 := hb2.ext hx4
    have r20 := r14.ext hx4
    have r21 := r15.ext hx4
    have r22 := r16.ext hx4
    have r23 := r17.ext hx4
    have r24 := r18.ext hx4
    have hz := RV.sl r19; obtain ⟨a6, cq6, rfl, -, -, -⟩ := hz
    refine vl rfl rfl xmv <| vl rfl rfl (xext rfl rfl) <| vl rfl rfl (xext rfl rfl) <| vl rfl rfl xas <| vl rfl rfl xas <| nl <| wp_seq <| rg <| vl rfl rfl (xlda rfl ti26 rfl (Bx.cs hb3)) <| ?_
    have hz := bs hF; obtain ⟨x7, Ex7, hF⟩ := hz
    refine cl rfl rfl (xc cb28 (mc rfl mn)) (c28 (show RV (α := (Int × (List Int) × (List ((List Int) × Int)) × (List ((List Int) × Int)) × (List (List Int)))) _ (.agg [.int .i64 x0.1, .slice a1 x0.2.1.length cq1, .slice a2 x0.2.2.1.length cq2, .slice a3 x0.2.2.2.1.length cq3, .slice a4 x0.2.2.2.2.length cq4].toArray) (x0.1, x0.2.1, x0.2.2.1, x0.2.2.2.1, x0.2.2.2.2) from ⟨_, rfl, ⟨[.int .i64 x0.1], [.slice a1 x0.2.1.length cq1] ++ ([.slice a2 x0.2.2.1.length cq2] ++ ([.slice a3 x0.2.2.2.1.length cq3] ++ [.slice a4 x0.2.2.2.2.length cq4])), rfl, rfl, ⟨[.slice a1 x0.2.1.length cq1], [.slice a2 x0.2.2.1.length cq2] ++ ([.slice a3 x0.2.2.2.1.length cq3] ++ [.slice a4 x0.2.2.2.2.length cq4]), rfl, r20.rep1, ⟨[.slice a2 x0.2.2.1.length cq2], [.slice a3 x0.2.2.2.1.length cq3] ++ [.slice a4 x0.2.2.2.2.length cq4], rfl, r21.rep1, ⟨[.slice a3 x0.2.2.2.1.length cq3], [.slice a4 x0.2.2.2.2.length cq4], rfl, r22.rep1, r23.rep1⟩⟩⟩⟩⟩) Ex7) ?_
    rintro _ w5 ⟨u2, rfl, r25, hx5⟩
    have k4 := k3.tr hx5
    have hb4 := hb3.ext hx5
    have r26 := r20.ext hx5
    have r27 := r21.ext hx5
    have r28 := r22.ext hx5
    have r29 := r23.ext hx5
    have r30 := r24.ext hx5
    have r31 := r19.ext hx5
    have hz := RV.sl r25; obtain ⟨a7, cq7, rfl, -, -, -⟩ := hz
    refine vl rfl rfl xmv <| vl rfl rfl (xext rfl rfl) <| vl rfl rfl (xext rfl rfl) <| vl rfl rfl xas <| vl rfl rfl xas <| nl <| wp_seq <| rg <| vl rfl rfl (xlda rfl ti26 rfl (Bx.cs hb4)) <| ?_
    have hz := bs hF; obtain ⟨x8, Ex8, hF⟩ := hz
    refine cl rfl rfl (xc cb21 (mc rfl mn)) (c21 (show RV (α := (Int × (List Int) × (List ((List Int) × Int)) × (List ((List Int) × Int)) × (List (List Int)))) _ (.agg [.int .i64 x0.1, .slice a1 x0.2.1.length cq1, .slice a2 x0.2.2.1.length cq2, .slice a3 x0.2.2.2.1.length cq3, .slice a4 x0.2.2.2.2.length cq4].toArray) (x0.1, x0.2.1, x0.2.2.1, x0.2.2.2.1, x0.2.2.2.2) from ⟨_, rfl, ⟨[.int .i64 x0.1], [.slice a1 x0.2.1.length cq1] ++ ([.slice a2 x0.2.2.1.length cq2] ++ ([.slice a3 x0.2.2.2.1.length cq3] ++ [.slice a4 x0.2.2.2.2.length cq4])), rfl, rfl, ⟨[.slice a1 x0.2.1.length cq1], [.slice a2 x0.2.2.1.length cq2] ++ ([.slice a3 x0.2.2.2.1.length cq3] ++ [.slice a4 x0.2.2.2.2.length cq4]), rfl, r26.rep1, ⟨[.slice a2 x0.2.2.1.length cq2], [.slice a3 x0.2.2.2.1.length cq3] ++ [.slice a4 x0.2.2.2.2.length cq4], rfl, r27.rep1, ⟨[.slice a3 x0.2.2.2.1.length cq3], [.slice a4 x0.2.2.2.2.length cq4], rfl, r28.rep1, r29.rep1⟩⟩⟩⟩⟩) Ex8) ?_
    rintro _ w6 ⟨u3, rfl, r32, hx6⟩
    have k5 := k4.tr hx6
    have hb5 := hb4.ext hx6
    have r33 := r26.ext hx6
    have r34 := r27.ext hx6
    have r35 := r28.ext hx6
    have r36 := r29.ext hx6
    have r37 := r30.ext hx6
    have r38 := r31.ext hx6
    have r39 := r25.ext hx6
    have hz := RV.sl r32; obtain ⟨a8, cq8, rfl, -, -, -⟩ := hz
    refine vl rfl rfl xmv <| vl rfl rfl (xext rfl rfl) <| vl rfl rfl (xext rfl rfl) <| vl rfl rfl xas <| vl rfl rfl xas <| nl <| wp_seq <| wp_seq <| rg <| vl rfl rfl xmv <| vl rfl rfl (xneq rfl rfl) <| vl rfl rfl xmv <| gv rfl rfl rfl rfl (gw0 rfl) rfl (fun hc => xmva rfl) <| gv rfl rfl rfl rfl (gw0 rfl) rfl (fun hc => xneq (mv hc rfl) rfl) <| vl rfl rfl (xpo rfl rfl rfl) <| vl rfl rfl xmv <| gv rfl rfl rfl rfl (gw0 rfl) rfl (fun hc => xmva rfl) <| gv rfl rfl rfl rfl (gw0 rfl) rfl (fun hc => xneq (mv hc rfl) rfl) <| vl rfl rfl (xpo rfl rfl rfl) <| vl rfl rfl xmv <| gv rfl rfl rfl rfl (gw0 rfl) rfl (fun hc => xmva rfl) <| gv rfl rfl rfl rfl (gw0 rfl) rfl (fun hc => xlen (mv hc rfl) Try.underlying22) <| gv rfl rfl rfl rfl (gw0 rfl) rfl (fun hc => xfa rfl fa26_3) <| gv rfl rfl rfl rfl (gw0 rfl) rfl (fun hc => xld (mv hc rfl) ti23 ((Bx.cs hb5).at 3 rfl)) <| gv rfl rfl rfl rfl (gw0 rfl) rfl (fun hc => xlen (mv hc rfl) Try.underlying23) <| gv rfl rfl rfl rfl (gw0 rfl) rfl (fun hc => xneq (mv hc rfl) (mv hc rfl)) <| vl rfl rfl (xpo rfl rfl rfl) <| vl rfl rfl xmv <| gv rfl rfl rfl rfl (gw0 rfl) rfl (fun hc => xlda rfl ti26 rfl (Bx.cs hb5)) <| gv rfl rfl rfl rfl (gw0 rfl) rfl (fun hc => xmva rfl) <| ?_
    have hz := bs hF; obtain ⟨x9, Ex9, hF⟩ := hz
    refine gc rfl rfl rfl rfl (gw0 rfl) rfl (fun hc => xc cb37 (mc (mv hc rfl) (mc (mv hc rfl) mn))) (fun hc => (c37 (show RV (α := (Int × (List Int) × (List ((List Int) × Int)) × (List ((List Int) × Int)) × (List (List Int)))) _ (.agg [.int .i64 x0.1, .slice a1 x0.2.1.length cq1, .slice a2 x0.2.2.1.length cq2, .slice a3 x0.2.2.2.1.length cq3, .slice a4 x0.2.2.2.2.length cq4].toArray) (x0.1, x0.2.1, x0.2.2.1, x0.2.2.2.1, x0.2.2.2.2) from ⟨_, rfl, ⟨[.int .i64 x0.1], [.slice a1 x0.2.1.length cq1] ++ ([.slice a2 x0.2.2.1.length cq2] ++ ([.slice a3 x0.2.2.2.1.length cq3] ++ [.slice a4 x0.2.2.2.2.length cq4])), rfl, rfl, ⟨[.slice a1 x0.2.1.length cq1], [.slice a2 x0.2.2.1.length cq2] ++ ([.slice a3 x0.2.2.2.1.length cq3] ++ [.slice a4 x0.2.2.2.2.length cq4]), rfl, r33.rep1, ⟨[.slice a2 x0.2.2.1.length cq2], [.slice a3 x0.2.2.2.1.length cq3] ++ [.slice a4 x0.2.2.2.2.length cq4], rfl, r34.rep1, ⟨[.slice a3 x0.2.2.2.1.length cq3], [.slice a4 x0.2.2.2.2.length cq4], rfl, r35.rep1, r36.rep1⟩⟩⟩⟩⟩) r38 (gdp Ex9 hc))) (fun v4 w7 hy1 hn1 => ?_)
    have hx7 : Ext w6 w7 := gx (fun h => (hy1 h).2) (fun h => (hn1 h).2 ▸ Ext.refl _)
    have e5 := mkw (fun h => (hy1 h).1) (fun h => (hn1 h).1)
    have k6 := k5.tr hx7
    have hb6 := hb5.ext hx7
    have r40 := r33.ext hx7
    have r41 := r34.ext hx7
    have r42 := r35.ext hx7
    have r43 := r36.ext hx7
    have r44 := r37.ext hx7
    have r45 := r38.ext hx7
    have r46 := r39.ext hx7
    have r47 := r32.ext hx7
    refine gv rfl rfl rfl rfl (gw0 rfl) rfl (fun hc => xneq (mv hc e5) rfl) <| vl rfl rfl (xpo rfl rfl rfl) <| vl rfl rfl xmv <| gv rfl rfl rfl rfl (gw0 rfl) rfl (fun hc => xlda rfl ti26 rfl (Bx.cs hb6)) <| gv rfl rfl rfl rfl (gw0 rfl) rfl (fun hc => xmva rfl) <| ?_
    have hz := bs hF; obtain ⟨x10, Ex10, hF⟩ := hz
    refine gc rfl rfl rfl rfl (gw0 rfl) rfl (fun hc => xc cb32 (mc (mv hc rfl) (mc (mv hc rfl) mn))) (fun hc => (c32 (show RV (α := (Int × (List Int) × (List ((List Int) × Int)) × (List ((List Int) × Int)) × (List (List Int)))) _ (.agg [.int .i64 x0.1, .slice a1 x0.2.1.length cq1, .slice a2 x0.2.2.1.length cq2, .slice a3 x0.2.2.2.1.length cq3, .slice a4 x0.2.2.2.2.length cq4].toArray) (x0.1, x0.2.1, x0.2.2.1, x0.2.2.2.1, x0.2.2.2.2) from ⟨_, rfl, ⟨[.int .i64 x0.1], [.slice a1 x0.2.1.length cq1] ++ ([.slice a2 x0.2.2.1.length cq2] ++ ([.slice a3 x0.2.2.2.1.length cq3] ++ [.slice a4 x0.2.2.2.2.length cq4])), rfl, rfl, ⟨[.slice a1 x0.2.1.length cq1], [.slice a2 x0.2.2.1.length cq2] ++ ([.slice a3 x0.2.2.2.1.length cq3] ++ [.slice a4 x0.2.2.2.2.length cq4]), rfl, r40.rep1, ⟨[.slice a2 x0.2.2.1.length cq2], [.slice a3 x0.2.2.2.1.length cq3] ++ [.slice a4 x0.2.2.2.2.length cq4], rfl, r41.rep1, ⟨[.slice a3 x0.2.2.2.1.length cq3], [.slice a4 x0.2.2.2.2.length cq4], rfl, r42.rep1, r43.rep1⟩⟩⟩⟩⟩) r45 (gdp Ex10 hc))) (fun v5 w8 hy2 hn2 => ?_)
    have hx8 : Ext w7 w8 := gx (fun h => (hy2 h).2) (fun h => (hn2 h).2 ▸ Ext.refl _)
    have e6 := mkw (fun h => (hy2 h).1) (fun h => (hn2 h).1)
    have k7 := k6.tr hx8
    have hb7 := hb6.ext hx8
    have r48 := r40.ext hx8
    have r49 := r41.ext hx8
    have r50 := r42.ext hx8
    have r51 := r43.ext hx8
    have r52 := r44.ext hx8
    have r53 := r45.ext hx8
    have r54 := r46.ext hx8
    have r55 := r47.ext hx8
    refine gv rfl rfl rfl rfl (gw0 rfl) rfl (fun hc => xneq (mv hc e6) rfl) <| vl rfl rfl (xpo rfl rfl rfl) <| nl <| cnd rfl (fun h5 => ?_) (fun h5 => ?_)
    ·
      have hF := ifp hF h5
      refine wp_seq <| rg <| vl rfl rfl xas <| nl <| ?_
      cases hF
      exact wp_ret <| rt rfl (.tmp rfl rfl .nil) ⟨rfl, k7⟩
    ·
      have hF := ifn hF h5
      refine wp_skip <| wp_seq <| rg <| vl rfl rfl (xfa rfl fa26_3) <| vl rfl rfl (xld rfl ti23 ((Bx.cs hb7).at 3 rfl)) <| vl rfl rfl (xlen rfl Try.underlying23) <| vl rfl rfl xmv <| vl rfl rfl (xlen rfl Try.underlying22) <| vl rfl rfl (xsub rfl rfl) <| vl rfl rfl xas <| nl <| wp_seq <| rg <| vl rfl rfl (xlda rfl ti26 rfl (Bx.cs hb7)) <| vl rfl rfl xmv <| ?_
      have hz := bs hF; obtain ⟨x11, Ex11, hF⟩ := hz
      refine cl rfl rfl (xc cb26 (mc rfl (mc rfl mn))) (c26 (show RV (α := (Int × (List Int) × (List ((List Int) × Int)) × (List ((List Int) × Int)) × (List (List Int)))) _ (.agg [.int .i64 x0.1, .slice a1 x0.2.1.length cq1, .slice a2 x0.2.2.1.length cq2, .slice a3 x0.2.2.2.1.length cq3, .slice a4 x0.2.2.2.2.length cq4].toArray) (x0.1, x0.2.1, x0.2.2.1, x0.2.2.2.1, x0.2.2.2.2) from ⟨_, rfl, ⟨[.int .i64 x0.1], [.slice a1 x0.2.1.length cq1] ++ ([.slice a2 x0.2.2.1.length cq2] ++ ([.slice a3 x0.2.2.2.1.length cq3] ++ [.slice a4 x0.2.2.2.2.length cq4])), rfl, rfl, ⟨[.slice a1 x0.2.1.length cq1], [.slice a2 x0.2.2.1.length cq2] ++ ([.slice a3 x0.2.2.2.1.length cq3] ++ [.slice a4 x0.2.2.2.2.length cq4]), rfl, r48.rep1, ⟨[.slice a2 x0.2.2.1.length cq2], [.slice a3 x0.2.2.2.1.length cq3] ++ [.slice a4 x0.2.2.2.2.length cq4], rfl, r49.rep1, ⟨[.slice a3 x0.2.2.2.1.length cq3], [.slice a4 x0.2.2.2.2.length cq4], rfl, r50.rep1, r51.rep1⟩⟩⟩⟩⟩) r54 Ex11) ?_
      rintro _ w9 ⟨rfl, hx9⟩
      have k8 := k7.tr hx9
      have hb8 := hb7.ext hx9
      have r56 := r48.ext hx9
      have r57 := r49.ext hx9
      have r58 := r50.ext hx9
      have r59 := r51.ext hx9
      have r60 := r52.ext hx9
      have r61 := r55.ext hx9
      refine vl rfl rfl xmv <| vl rfl rfl (xext rfl rfl) <| vl rfl rfl (xext rfl rfl) <| vl rfl rfl xas <| vl rfl rfl xas <| nl <| wp_seq <| wp_seq <| rg <| vl rfl rfl xmv <| vl rfl rfl (xneq rfl rfl) <| vl rfl rfl xmv <| gv rfl rfl rfl rfl (gw0 rfl) rfl (fun hc => xmva rfl) <| gv rfl rfl rfl rfl (gw0 rfl) rfl (fun hc => xmva rfl) <| gv rfl rfl rfl rfl (gw0 rfl) rfl (fun hc => xneq (mv hc rfl) (mv hc rfl)) <| vl rfl rfl (xpo rfl rfl rfl) <| nl <| cnd rfl (fun h6 => ?_) (fun h6 => ?_)
      ·
        have hF := ifp hF h6
        refine wp_seq <| rg <| vl rfl rfl xas <| nl <| ?_
        cases hF
        exact wp_ret <| rt rfl (.tmp rfl rfl .nil) ⟨rfl, k8⟩
      ·
        have hF := ifn hF h6
        refine wp_skip <| wp_seq <| rg <| vl rfl rfl xas <| nl <| wp_seq <| wp_seq <| rg <| vl rfl rfl xas <| nl <| ?_
        have hz := bs hF; obtain ⟨z1, hB1, hF⟩ := hz
        refine ct (fun L w => L 16 = .int .i64 z1 ∧ L 1 = .int .u16 x1 ∧ L 2 = .slice a5 x2.length cq5 ∧ L 3 = .pointer (some ⟨b4, 0, none⟩) ∧ L 13 = .int .i64 (w64 ((x0.2.2.2.1.length : Int) - (x6.1.length : Int))) ∧ Ext w9 w) ?_ ?_
        ·
          refine wp_block <| lp (I := fun m L w => ∃ y1 : Int, ∃ y2 : Int, law10_RightProved_l1 F x8 m y1 y2  = some z1 ∧ L 16 = .int .i64 y1 ∧ L 17 = .int .i64 y2 ∧ L 1 = .int .u16 x1 ∧ L 2 = .slice a5 x2.length cq5 ∧ L 3 = .pointer (some ⟨b4, 0, none⟩) ∧ L 11 = .slice a8 x8.1.length cq8 ∧ L 13 = .int .i64 (w64 ((x0.2.2.2.1.length : Int) - (x6.1.length : Int))) ∧ Ext w9 w) F ⟨_, _, hB1, rfl, rfl, rfl, rfl, rfl, rfl, rfl, (Ext.refl _)⟩ ?_
          rintro m L w10 ⟨y1, y2, hB1, l16_i1, l17_i1, l1_i1, l2_i1, l3_i1, l11_i1, l13_i1, K0_i1⟩
          rcases m with _ | m
          · rw [law10_RightProved_l1] at hB1; cases hB1
          rw [law10_RightProved_l1] at hB1
          have k9 := k8.tr K0_i1
          have r62 := r60.ext K0_i1
          have r63 := r56.ext K0_i1
          have r64 := r57.ext K0_i1
          have r65 := r58.ext K0_i1
          have r66 := r59.ext K0_i1
          have hb9 := hb8.ext K0_i1
          have r67 := r61.ext K0_i1
          refine wp_seq <| wp_seq <| rg <| vl rfl rfl xmv <| vl rfl rfl xmv <| vl rfl rfl (xlen l11_i1 Try.underlying22) <| vl rfl rfl (xlss l17_i1 rfl) <| nl <| cnd rfl (fun h7 => ?_) (fun h7 => ?_)
          ·
            have hB1 := ifp hB1 h7
            refine wp_skip <| wp_seq <| ?_
            have hz := bs hB1; obtain ⟨y3, hB3, hB1⟩ := hz
            refine ct (fun L w => L 16 = .int .i64 y3 ∧ L 1 = .int .u16 x1 ∧ L 2 = .slice a5 x2.length cq5 ∧ L 3 = .pointer (some ⟨b4, 0, none⟩) ∧ L 11 = .slice a8 x8.1.length cq8 ∧ L 13 = .int .i64 (w64 ((x0.2.2.2.1.length : Int) - (x6.1.length : Int))) ∧ L 17 = .int .i64 y2 ∧ Ext w10 w) ?_ ?_
            ·
              refine wp_block <| wp_seq <| rg <| vl rfl rfl xmv <| vl rfl rfl xmv <| ?_
              have hz := bs hB3; obtain ⟨x12, Ex12, hB3⟩ := hz
              have hz := (RV.els r61).ix Ex12; obtain ⟨b5, f1, cs4, e7, i2, i3, q8, hc1⟩ := hz
              cases e7
              obtain rfl := q8
              have hc2 := hc1.ext K0_i1
              refine vl rfl rfl (xixs l11_i1 l17_i1 Try.underlying22 ti3 i2 i3) <| vl rfl rfl (xld rfl ti3 (hc2.at 0 rfl)) <| vl rfl rfl (xneq rfl rfl) <| nl <| ?_
              have hz := bs hB3; obtain ⟨y4, hB4, hB3⟩ := hz
              refine ct (fun L w => L 16 = .int .i64 y4 ∧ L 1 = .int .u16 x1 ∧ L 2 = .slice a5 x2.length cq5 ∧ L 3 = .pointer (some ⟨b4, 0, none⟩) ∧ L 11 = .slice (some ⟨b5, f1, none⟩) x8.1.length cq8 ∧ L 13 = .int .i64 (w64 ((x0.2.2.2.1.length : Int) - (x6.1.length : Int))) ∧ L 17 = .int .i64 y2 ∧ Ext w10 w) ?_ ?_
              ·
                refine cnd rfl (fun h8 => ?_) (fun h8 => ?_)
                ·
                  have hB4 := ifp hB4 h8
                  refine rg <| vl rfl rfl xmv <| vl rfl rfl (xadd l16_i1 rfl) <| vl rfl rfl xas <| nl <| ?_
                  cases hB4
                  refine lf <| ?_
                  exact ⟨rfl, l1_i1, l2_i1, l3_i1, l11_i1, l13_i1, l17_i1, (Ext.refl _)⟩
                ·
                  have hB4 := ifn hB4 h8
                  refine wp_skip <| ?_
                  cases hB4
                  refine lf <| ?_
                  exact ⟨l16_i1, l1_i1, l2_i1, l3_i1, l11_i1, l13_i1, l17_i1, (Ext.refl _)⟩
              rintro L w11 ⟨l16_j1, l1_j1, l2_j1, l3_j1, l11_j1, l13_j1, l17_j1, K0_j1⟩
              have k10 := k9.tr K0_j1
              have k11 := K0_i1.tr K0_j1
              have r68 := r62.ext K0_j1
              have r69 := r63.ext K0_j1
              have r70 := r64.ext K0_j1
              have r71 := r65.ext K0_j1
              have r72 := r66.ext K0_j1
              have hb10 := hb9.ext K0_j1
              have r73 := r67.ext K0_j1
              cases hB3
              refine lf <| ?_
              exact ⟨l16_j1, l1_j1, l2_j1, l3_j1, l11_j1, l13_j1, l17_j1, K0_j1⟩
            rintro L w12 ⟨l16_j2, l1_j2, l2_j2, l3_j2, l11_j2, l13_j2, l17_j2, K0_j2⟩
            have k12 := k9.tr K0_j2
            have k13 := K0_i1.tr K0_j2
            have r74 := r62.ext K0_j2
            have r75 := r63.ext K0_j2
            have r76 := r64.ext K0_j2
            have r77 := r65.ext K0_j2
            have r78 := r66.ext K0_j2
            have hb11 := hb9.ext K0_j2
            have r79 := r67.ext K0_j2
            refine rg <| vl rfl rfl xmv <| vl rfl rfl (xadd l17_j2 rfl) <| vl rfl rfl xas <| nl <| ?_
            refine lq m (Nat.lt_succ_self _) <| ?_
            exact ⟨_, _, hB1, l16_j2, rfl, l1_j2, l2_j2, l3_j2, l11_j2, l13_j2, k13⟩
          ·
            have hB1 := ifn hB1 h7
            refine wp_exit <| ?_
            cases hB1
            refine lf <| ?_
            exact ⟨l16_i1, l1_i1, l2_i1, l3_i1, l13_i1, K0_i1⟩
        rintro L w13 ⟨l16_j3, l1_j3, l2_j3, l3_j3, l13_j3, K0_j3⟩
        have k14 := k8.tr K0_j3
        have r80 := r60.ext K0_j3
        have r81 := r56.ext K0_j3
        have r82 := r57.ext K0_j3
        have r83 := r58.ext K0_j3
        have r84 := r59.ext K0_j3
        have hb12 := hb8.ext K0_j3
        refine wp_seq <| rg <| vl rfl rfl (xlda l3_j3 ti26 rfl (Bx.cs hb12)) <| vl rfl rfl xmv <| ?_
        have hz := bs hF; obtain ⟨x13, Ex13, hF⟩ := hz
        refine cl rfl rfl (xc cb31 (mc rfl (mc l1_j3 mn))) (c31 (show RV (α := (Int × (List Int) × (List ((List Int) × Int)) × (List ((List Int) × Int)) × (List (List Int)))) _ (.agg [.int .i64 x0.1, .slice a1 x0.2.1.length cq1, .slice a2 x0.2.2.1.length cq2, .slice a3 x0.2.2.2.1.length cq3, .slice a4 x0.2.2.2.2.length cq4].toArray) (x0.1, x0.2.1, x0.2.2.1, x0.2.2.2.1, x0.2.2.2.2) from ⟨_, rfl, ⟨[.int .i64 x0.1], [.slice a1 x0.2.1.length cq1] ++ ([.slice a2 x0.2.2.1.length cq2] ++ ([.slice a3 x0.2.2.2.1.length cq3] ++ [.slice a4 x0.2.2.2.2.length cq4])), rfl, rfl, ⟨[.slice a1 x0.2.1.length cq1], [.slice a2 x0.2.2.1.length cq2] ++ ([.slice a3 x0.2.2.2.1.length cq3] ++ [.slice a4 x0.2.2.2.2.length cq4]), rfl, r81.rep1, ⟨[.slice a2 x0.2.2.1.length cq2], [.slice a3 x0.2.2.2.1.length cq3] ++ [.slice a4 x0.2.2.2.2.length cq4], rfl, r82.rep1, ⟨[.slice a3 x0.2.2.2.1.length cq3], [.slice a4 x0.2.2.2.2.length cq4], rfl, r83.rep1, r84.rep1⟩⟩⟩⟩⟩) Ex13) ?_
        rintro _ w14 ⟨u4, rfl, r85, hx10⟩
        have k15 := k14.tr hx10
        have k16 := K0_j3.tr hx10
        have hb13 := hb12.ext hx10
        have r86 := r81.ext hx10
        have r87 := r82.ext hx10
        have r88 := r83.ext hx10
        have r89 := r84.ext hx10
        have r90 := r80.ext hx10
        have hz := RV.sl r85.rv; obtain ⟨a9, cq9, rfl, -, -, -⟩ := hz
        refine vl rfl rfl xas <| nl <| wp_seq <| rg <| vl rfl rfl xas <| nl <| wp_seq <| wp_seq <| rg <| vl rfl rfl xas <| nl <| ?_
        have o2 : DRow (α := (List Int)) w0.heap.size 22 w14.heap.size w14 (.slice none 0 0) [] := DRow.nil
        have hz := bs hF; obtain ⟨z2, hB8, hF⟩ := hz
        refine ct (fun L w => ∃ v7 : Value, L 19 = v7 ∧ DRow w0.heap.size 22 w14.heap.size w v7 z2 ∧ Apart (v7) (.slice a9 x13.length cq9) ∧ L 3 = .pointer (some ⟨b4, 0, none⟩) ∧ L 13 = .int .i64 (w64 ((x0.2.2.2.1.length : Int) - (x6.1.length : Int))) ∧ L 16 = .int .i64 z1 ∧ L 18 = .slice a9 x13.length cq9 ∧ w13.heap.size ≤ w.heap.size ∧ Ext w14 w) ?_ ?_
        ·
          refine wp_block <| lp (I := fun m L w => ∃ y5 : (List (List Int)), ∃ y6 : Int, ∃ v6 : Value, law10_RightProved_l2 F x0 x2 m y5 y6  = some z2 ∧ L 19 = v6 ∧ DRow w0.heap.size 22 w14.heap.size w v6 y5 ∧ L 20 = .int .i64 y6 ∧ Apart (v6) (.slice a9 x13.length cq9) ∧ L 2 = .slice a5 x2.length cq5 ∧ L 3 = .pointer (some ⟨b4, 0, none⟩) ∧ L 13 = .int .i64 (w64 ((x0.2.2.2.1.length : Int) - (x6.1.length : Int))) ∧ L 16 = .int .i64 z1 ∧ L 18 = .slice a9 x13.length cq9 ∧ w13.heap.size ≤ w.heap.size ∧ Ext w14 w) F ⟨_, _, _, hB8, rfl, o2, rfl, (Apart.symm (Apart.old' r85.own_lt (fun q e => (o2.lt q e).1))), l2_j3, l3_j3, l13_j3, l16_j3, rfl, hx10.size, (Ext.refl _)⟩ ?_
          rintro m L w15 ⟨y5, y6, v6, hB8, l19_i4, O19_i4, l20_i4, X0_i4, l2_i4, l3_i4, l13_i4, l16_i4, l18_i4, Z0_i4, K0_i4⟩
          rcases m with _ | m
          · rw [law10_RightProved_l2] at hB8; cases hB8
          rw [law10_RightProved_l2] at hB8
          have k17 := k15.tr K0_i4
          have k18 := k16.tr K0_i4
          have k19 := hx10.tr K0_i4
          have r91 := r90.ext K0_i4
          have r92 := r86.ext K0_i4
          have r93 := r87.ext K0_i4
          have r94 := r88.ext K0_i4
          have r95 := r89.ext K0_i4
          have hb14 := hb13.ext K0_i4
          have r96 := r85.ext K0_i4
          have hz := RV.sl O19_i4.rv; obtain ⟨a10, cq10, rfl, -, -, -⟩ := hz
          refine wp_seq <| wp_seq <| rg <| vl rfl rfl xmv <| vl rfl rfl xmv <| vl rfl rfl (xlen l2_i4 Try.underlying58) <| vl rfl rfl (xlss l20_i4 rfl) <| nl <| cnd rfl (fun h9 => ?_) (fun h9 => ?_)
          ·
            have hB8 := ifp hB8 h9
            refine wp_skip <| wp_seq <| wp_block <| wplG (row := (Value.ownBlock (.slice a10 y5.length cq10))) [] (.pure true 0 (.pure false 1 (.pure true 2 (.pure true 3 (.pure true 4 (.pure false 5 (.eff 6 (.eff 7 (.eff 8 (.pure true 9 .fin) .stop) .stop) .stop))))))) mixed (by kernel_rfl) (fun w16 hx11 => ?_)
            have k20 := k17.tr hx11
            have k21 := k18.tr hx11
            have k22 := k19.tr hx11
            have k23 := K0_i4.tr hx11
            have zs1 := Nat.le_trans Z0_i4 hx11.size
            have hb15 := hb14.ext hx11
            have r97 := r92.ext hx11
            have r98 := r93.ext hx11
            have r99 := r94.ext hx11
            have r100 := r95.ext hx11
            have r101 := r91.ext hx11
            have r102 := r96.ext hx11
            have O1 := O19_i4.ext hx11
            refine pv rfl rfl rfl (fun _ _ => xmv) (.inl rfl) <| pv rfl rfl rfl (fun _ hS => xlda l3_i4 ti26 rfl (Bx.cs (Bx.gr hb15 (hS.resolve_left nofun) (O19_i4.ne_old (Nat.lt_of_lt_of_le hb8.lt k16.size))))) (.inr (Ext.gro (Ext.refl _))) <| pv rfl rfl rfl (fun _ _ => xmv) (.inl rfl) <| pv rfl rfl rfl (fun _ _ => xmv) (.inl rfl) <| ?_
            have hz := bs hB8; obtain ⟨x14, Ex14, hB8⟩ := hz
            have hz := (RV.els r2).ix Ex14; obtain ⟨b6, f2, cs5, e8, i5, i6, q9, hc3⟩ := hz
            cases e8
            obtain rfl := q9
            have hc4 := hc3.ext k20
            refine pv rfl rfl rfl (fun _ _ => xixs l2_i4 l20_i4 Try.underlying58 ti46 i5 i6) (.inl rfl) <| pv rfl rfl rfl (fun _ hS => xld rfl ti46 ((Cs.gro0 hc3 k20 (hS.resolve_left nofun) (fun q e => Nat.le_trans k15.size (O19_i4.lt q e).1)).at 0 rfl)) (.inr (Ext.gro (Ext.refl _))) <| ?_
            have hz := bs hB8; obtain ⟨x15, Ex15, hB8⟩ := hz
            refine pe1 rfl <| cl rfl rfl (xc cb31 (mc rfl (mc rfl mn))) (c31 (show RV (α := (Int × (List Int) × (List ((List Int) × Int)) × (List ((List Int) × Int)) × (List (List Int)))) _ (.agg [.int .i64 x0.1, .slice a1 x0.2.1.length cq1, .slice a2 x0.2.2.1.length cq2, .slice a3 x0.2.2.2.1.length cq3, .slice a4 x0.2.2.2.2.length cq4].toArray) (x0.1, x0.2.1, x0.2.2.1, x0.2.2.2.1, x0.2.2.2.2) from ⟨_, rfl, ⟨[.int .i64 x0.1], [.slice a1 x0.2.1.length cq1] ++ ([.slice a2 x0.2.2.1.length cq2] ++ ([.slice a3 x0.2.2.2.1.length cq3] ++ [.slice a4 x0.2.2.2.2.length cq4])), rfl, rfl, ⟨[.slice a1 x0.2.1.length cq1], [.slice a2 x0.2.2.1.length cq2] ++ ([.slice a3 x0.2.2.2.1.length cq3] ++ [.slice a4 x0.2.2.2.2.length cq4]), rfl, r97.rep1, ⟨[.slice a2 x0.2.2.1.length cq2], [.slice a3 x0.2.2.2.1.length cq3] ++ [.slice a4 x0.2.2.2.2.length cq4], rfl, r98.rep1, ⟨[.slice a3 x0.2.2.2.1.length cq3], [.slice a4 x0.2.2.2.2.length cq4], rfl, r99.rep1, r100.rep1⟩⟩⟩⟩⟩) Ex15) ?_
            rintro _ w17 ⟨u5, rfl, r103, hx12⟩
            have k24 := k20.tr hx12
            have k25 := k21.tr hx12
            have k26 := k22.tr hx12
            have k27 := k23.tr hx12
            have zs2 := Nat.le_trans zs1 hx12.size
            have hb16 := hb15.ext hx12
            have r104 := r97.ext hx12
            have r105 := r98.ext hx12
            have r106 := r99.ext hx12
            have r107 := r100.ext hx12
            have r108 := r101.ext hx12
            have r109 := r102.ext hx12
            have O2 := O1.ext hx12
            have hz := RV.sl r103.rv; obtain ⟨a11, cq11, rfl, -, -, -⟩ := hz
            refine nl ⟨fun _ _ => (Ext.gro hx12), ?_⟩
            refine pe1 rfl <| sbsv (cs := [.slice a11 x15.length cq11]) Try.underlying24 ti22 rfl (pc rfl pn) rfl rfl rfl rfl rfl fun b7 w18 hx13 hg2 hb17 => ?_
            have k28 := k24.tr hx13
            have k29 := k25.tr hx13
            have k30 := k26.tr hx13
            have k31 := k27.tr hx13
            have k32 := hx12.tr hx13
            have zs3 := Nat.le_trans zs2 hx13.size
            have hb18 := hb16.ext hx13
            have r111 := r104.ext hx13
            have r112 := r105.ext hx13
            have r113 := r106.ext hx13
            have r114 := r107.ext hx13
            have r115 := r108.ext hx13
            have r116 := r109.ext hx13
            have O3 := O2.ext hx13
            have r117 := r103.ext hx13
            have r110 : RV w18 (.slice (some ⟨b7, 0, none⟩) 1 1) ([x15] : List (List Int)) := RV.lit hb17 (css := [[.slice a11 x15.length cq11]]) rfl ⟨r117.rv.rep1, trivial⟩ rfl (ble rfl)
            refine nl ⟨fun _ _ => (Ext.gro k32), ?_⟩
            have hz := bs hB8; obtain ⟨x16, Ex16, hB8⟩ := hz
            refine pe1 rfl <| sapd (l := y5) (k := ([x15] : List (List Int))) l19_i4 rfl Try.underlying24 ti22 rfl rfl O3 (ElsD.lit1 hb17 (RVo.rep1 (RVo.okn (Row.rvob r117) k23.size O1.own_lt))) Ex16 k31.size fun v8 w19 o4 hB10 hgr1 how1 => ?_
            have k33 := Ext.grow k28 k15.size hB10
            have k34 := Ext.grow k29 k16.size hB10
            have k35 := Ext.grow k30 hx10.size hB10
            have k36 : Ext w14 w19 := k31.trans hB10
            have X1 := Apart.app how1 X0_i4 r116.own_lt
            have zs4 := Nat.le_trans zs3 hgr1.size
            have gS1 := World.grownBy.tr (Ext.gro k32) hgr1
            have hb19 := hb13.ext k36
            have r118 := r86.ext k36
            have r119 := r87.ext k36
            have r120 := r88.ext k36
            have r121 := r89.ext k36
            have r122 := r90.ext k36
            have r123 := r85.ext k36
            have hz := RV.sl o4.rv; obtain ⟨a12, cq12, rfl, -, -, -⟩ := hz
            refine nl ⟨fun _ _ => gS1, ?_⟩
            refine pv rfl rfl rfl (fun _ _ => xas) (.inl rfl) <| rg <| vl rfl rfl xmv <| vl rfl rfl (xadd l20_i4 rfl) <| vl rfl rfl xas <| nl <| ?_
            refine lq m (Nat.lt_succ_self _) <| ?_
            exact ⟨_, _, _, hB8, rfl, o4, rfl, X1, l2_i4, l3_i4, l13_i4, l16_i4, l18_i4, zs4, k36⟩
          ·
            have hB8 := ifn hB8 h9
            refine wp_exit <| ?_
            cases hB8
            refine lf <| ?_
            exact ⟨_, l19_i4, O19_i4, X0_i4, l3_i4, l13_i4, l16_i4, l18_i4, Z0_i4, K0_i4⟩
        rintro L w20 ⟨v7, l19_j4, O19_j4, X0_j4, l3_j4, l13_j4, l16_j4, l18_j4, Z0_j4, K0_j4⟩
        have k37 := k15.tr K0_j4
        have k38 := k16.tr K0_j4
        have k39 := hx10.tr K0_j4
        have r124 := r86.ext K0_j4
        have r125 := r87.ext K0_j4
        have r126 := r88.ext K0_j4
        have r127 := r89.ext K0_j4
        have hb20 := hb13.ext K0_j4
        have r128 := r85.ext K0_j4
        have hz := RV.sl O19_j4.rv; obtain ⟨a13, cq13, rfl, -, -, -⟩ := hz
        refine wp_seq <| rg <| vl rfl rfl (xlda l3_j4 ti26 rfl (Bx.cs hb20)) <| vl rfl rfl xmv <| ?_
        have hz := bs hF; obtain ⟨x17, Ex17, hF⟩ := hz
        refine cl rfl rfl (xc cb26 (mc rfl (mc l19_j4 mn))) (c26 (show RV (α := (Int × (List Int) × (List ((List Int) × Int)) × (List ((List Int) × Int)) × (List (List Int)))) _ (.agg [.int .i64 x0.1, .slice a1 x0.2.1.length cq1, .slice a2 x0.2.2.1.length cq2, .slice a3 x0.2.2.2.1.length cq3, .slice a4 x0.2.2.2.2.length cq4].toArray) (x0.1, x0.2.1, x0.2.2.1, x0.2.2.2.1, x0.2.2.2.2) from ⟨_, rfl, ⟨[.int .i64 x0.1], [.slice a1 x0.2.1.length cq1] ++ ([.slice a2 x0.2.2.1.length cq2] ++ ([.slice a3 x0.2.2.2.1.length cq3] ++ [.slice a4 x0.2.2.2.2.length cq4])), rfl, rfl, ⟨[.slice a1 x0.2.1.length cq1], [.slice a2 x0.2.2.1.length cq2] ++ ([.slice a3 x0.2.2.2.1.length cq3] ++ [.slice a4 x0.2.2.2.2.length cq4]), rfl, r124.rep1, ⟨[.slice a2 x0.2.2.1.length cq2], [.slice a3 x0.2.2.2.1.length cq3] ++ [.slice a4 x0.2.2.2.2.length cq4], rfl, r125.rep1, ⟨[.slice a3 x0.2.2.2.1.length cq3], [.slice a4 x0.2.2.2.2.length cq4], rfl, r126.rep1, r127.rep1⟩⟩⟩⟩⟩) O19_j4.rv Ex17) ?_
        rintro _ w21 ⟨rfl, hx14⟩
        have k40 := k37.tr hx14
        have k41 := k38.tr hx14
        have k42 := k39.tr hx14
        have k43 := K0_j4.tr hx14
        have zs5 := Nat.le_trans Z0_j4 hx14.size
        have hb21 := hb20.ext hx14
        have r129 := r124.ext hx14
        have r130 := r125.ext hx14
        have r131 := r126.ext hx14
        have r132 := r127.ext hx14
        have r133 := r128.ext hx14
        refine vl rfl rfl xmv <| vl rfl rfl (xext rfl rfl) <| vl rfl rfl (xext rfl rfl) <| vl rfl rfl xas <| vl rfl rfl xas <| nl <| wp_seq <| wp_seq <| rg <| vl rfl rfl xmv <| vl rfl rfl xmv <| vl rfl rfl (xlss l16_j4 l13_j4) <| vl rfl rfl xmv <| gv rfl rfl rfl rfl (gw0 rfl) rfl (fun hc => xmva rfl) <| gv rfl rfl rfl rfl (gw0 rfl) rfl (fun hc => xeql (mv hc rfl) rfl) <| gv rfl rfl rfl rfl (gw0 rfl) rfl (fun hc => xmva (mv hc rfl)) <| gv rfl rfl rfl rfl (gn1 rfl) rfl (fun hc => xmva rfl) <| gv rfl rfl rfl rfl (gn1 rfl) rfl (fun hc => xmva l13_j4) <| gv rfl rfl rfl rfl (gn1 rfl) rfl (fun hc => xgtr (mv hc rfl) (mv hc rfl)) <| gv rfl rfl rfl rfl (gw0 rfl) rfl (fun hc => xpa (mv hc rfl) (mvn hc rfl) rfl) <| vl rfl rfl (xpo rfl rfl rfl) <| nl <| cnd rfl (fun h10 => ?_) (fun h10 => ?_)
        ·
          have hF := ifp hF h10
          refine wp_seq <| rg <| vl rfl rfl xas <| nl <| ?_
          cases hF
          exact wp_ret <| rt rfl (.tmp rfl rfl .nil) ⟨rfl, k40⟩
        ·
          have hF := ifn hF h10
          refine wp_skip <| wp_seq <| rg <| vl rfl rfl (xlda l3_j4 ti26 rfl (Bx.cs hb21)) <| vl rfl rfl xmv <| ?_
          have hz := bs hF; obtain ⟨x18, Ex18, hF⟩ := hz
          refine cl rfl rfl (xc cb32 (mc rfl (mc l18_j4 mn))) (c32 (show RV (α := (Int × (List Int) × (List ((List Int) × Int)) × (List ((List Int) × Int)) × (List (List Int)))) _ (.agg [.int .i64 x0.1, .slice a1 x0.2.1.length cq1, .slice a2 x0.2.2.1.length cq2, .slice a3 x0.2.2.2.1.length cq3, .slice a4 x0.2.2.2.2.length cq4].toArray) (x0.1, x0.2.1, x0.2.2.1, x0.2.2.2.1, x0.2.2.2.2) from ⟨_, rfl, ⟨[.int .i64 x0.1], [.slice a1 x0.2.1.length cq1] ++ ([.slice a2 x0.2.2.1.length cq2] ++ ([.slice a3 x0.2.2.2.1.length cq3] ++ [.slice a4 x0.2.2.2.2.length cq4])), rfl, rfl, ⟨[.slice a1 x0.2.1.length cq1], [.slice a2 x0.2.2.1.length cq2] ++ ([.slice a3 x0.2.2.2.1.length cq3] ++ [.slice a4 x0.2.2.2.2.length cq4]), rfl, r129.rep1, ⟨[.slice a2 x0.2.2.1.length cq2], [.slice a3 x0.2.2.2.1.length cq3] ++ [.slice a4 x0.2.2.2.2.length cq4], rfl, r130.rep1, ⟨[.slice a3 x0.2.2.2.1.length cq3], [.slice a4 x0.2.2.2.2.length cq4], rfl, r131.rep1, r132.rep1⟩⟩⟩⟩⟩) r133.rv Ex18) ?_
          rintro _ w22 ⟨rfl, hx15⟩
          have k44 := k40.tr hx15
          have k45 := k41.tr hx15
          have k46 := k42.tr hx15
          have k47 := k43.tr hx15
          have zs6 := Nat.le_trans zs5 hx15.size
          have hb22 := hb21.ext hx15
          have r134 := r129.ext hx15
          have r135 := r130.ext hx15
          have r136 := r131.ext hx15
          have r137 := r132.ext hx15
          have r138 := r133.ext hx15
          refine vl rfl rfl xas <| nl <| wp_seq <| rg <| vl rfl rfl xmv <| vl rfl rfl (xneq rfl rfl) <| vl rfl rfl xmv <| gv rfl rfl rfl rfl (gw0 rfl) rfl (fun hc => xfa l3_j4 fa26_3) <| gv rfl rfl rfl rfl (gw0 rfl) rfl (fun hc => xld (mv hc rfl) ti23 ((Bx.cs hb22).at 3 rfl)) <| gv rfl rfl rfl rfl (gw0 rfl) rfl (fun hc => xlen (mv hc rfl) Try.underlying23) <| gv rfl rfl rfl rfl (gw0 rfl) rfl (fun hc => xmva l18_j4) <| gv rfl rfl rfl rfl (gw0 rfl) rfl (fun hc => xlen (mv hc rfl) Try.underlying22) <| gv rfl rfl rfl rfl (gw0 rfl) rfl (fun hc => xsub (mv hc rfl) (mv hc rfl)) <| gv rfl rfl rfl rfl (gw0 rfl) rfl (fun hc => xmva l13_j4) <| gv rfl rfl rfl rfl (gw0 rfl) rfl (fun hc => xgeq (mv hc rfl) (mv hc rfl)) <| gv rfl rfl rfl rfl (gw0 rfl) rfl (fun hc => xmva (mv hc rfl)) <| gv rfl rfl rfl rfl (gn1 rfl) rfl (fun hc => xmva rfl) <| gv rfl rfl rfl rfl (gn1 rfl) rfl (fun hc => xneq (mv hc rfl) rfl) <| gv rfl rfl rfl rfl (gn1 rfl) rfl (fun hc => xmva (mv hc rfl)) <| gv rfl rfl rfl rfl (gn0 rfl) rfl (fun hc => xfa l3_j4 fa26_3) <| gv rfl rfl rfl rfl (gn0 rfl) rfl (fun hc => xld (mv hc rfl) ti23 ((Bx.cs hb22).at 3 rfl)) <| gv rfl rfl rfl rfl (gn0 rfl) rfl (fun hc => xlen (mv hc rfl) Try.underlying23) <| gv rfl rfl rfl rfl (gn0 rfl) rfl (fun hc => xmva l18_j4) <| gv rfl rfl rfl rfl (gn0 rfl) rfl (fun hc => xlen (mv hc rfl) Try.underlying22) <| gv rfl rfl rfl rfl (gn0 rfl) rfl (fun hc => xsub (mv hc rfl) (mv hc rfl)) <| gv rfl rfl rfl rfl (gn0 rfl) rfl (fun hc => xmva rfl) <| gv rfl rfl rfl rfl (gn0 rfl) rfl (fun hc => xgeq (mv hc rfl) (mv hc rfl)) <| gv rfl rfl rfl rfl (gn1 rfl) rfl (fun hc => xpo (mv hc rfl) (mvn hc rfl) rfl) <| gv rfl rfl rfl rfl (gw0 rfl) rfl (fun hc => xpa (mv hc rfl) (mvn hc rfl) rfl) <| vl rfl rfl (xpo rfl rfl rfl) <| vl rfl rfl xmv <| ?_
          have hz := bs hF; obtain ⟨x19, Ex19, hF⟩ := hz
          refine gc rfl rfl rfl rfl (gw1 rfl) rfl (fun hc => xc cb15 mn) (fun hc => (c15 (gdp Ex19 hc))) (fun v9 w23 hy3 hn3 => ?_)
          have hx16 : Ext w22 w23 := gx (fun h => (hy3 h).2) (fun h => (hn3 h).2 ▸ Ext.refl _)
          have e9 := mkw (fun h => (hy3 h).1) (fun h => (hn3 h).1)
          have k48 := k44.tr hx16
          have k49 := k45.tr hx16
          have k50 := k46.tr hx16
          have k51 := k47.tr hx16
          have zs7 := Nat.le_trans zs6 hx16.size
          refine vl rfl rfl (xpa rfl e9 rfl) <| vl rfl rfl xas <| nl <| ?_
          cases hF
          exact wp_ret <| rt rfl (.tmp rfl rfl .nil) ⟨rfl, k48⟩

set_option maxHeartbeats 4000000 in
theorem c10 {w0 : World} {v0 : Value} {x0 : (Int × (List Int) × (List ((List Int) × Int)) × (List ((List Int) × Int)) × (List (List Int)))} (r0 : RV w0 v0 x0) {x1 : Int} {x2 : Int} {x3 : Int} {v4 : Value} {x4 : ((List Int) × Int)} (r4 : RV w0 v4 x4) {F : Nat} {r : Bool} (hF : law10_RightLess F x0 x1 x2 x3 x4 = some r) :
    Calls Try.prog 10 [v0, .int .u16 x1, .int .u16 x2, .int .u8 x3, v4].toArray w0 (Ret fun v w' => v = .bool r ∧ Ext w0 w') := by
  unfold law10_RightLess at hF
  have hz := id r0; obtain ⟨_, rfl, ⟨_, _, rfl, rfl, ⟨_, _, rfl, ⟨a1, cq1, rfl, p1, q6, e1⟩, ⟨_, _, rfl, ⟨a2, cq2, rfl, p2, q7, e2⟩, ⟨_, _, rfl, ⟨a3, cq3, rfl, p3, q8, e3⟩, ⟨a4, cq4, rfl, p4, q9, e4⟩⟩⟩⟩⟩⟩ := hz
  have r6 := RV.of1 p1 q6 e1
  have r7 := RV.of1 p2 q7 e2
  have r8 := RV.of1 p3 q8 e3
  have r9 := RV.of1 p4 q9 e4
  have hz := id r4; obtain ⟨_, rfl, ⟨_, _, rfl, ⟨a5, cq5, rfl, p5, q10, e5⟩, rfl⟩⟩ := hz
  have r10 := RV.of1 p5 q10 e5
  refine entr (n := 156) Try.func10 rfl rfl rfl <| wp_seq <| rg <| sbx rfl rfl fun b6 w1 hx1 hg1 hb1 => ?_
  have r11 := r10.ext hx1
  have r12 := r4.ext hx1
  have r13 := r6.ext hx1
  have r14 := r7.ext hx1
  have r15 := r8.ext hx1
  have r16 := r9.ext hx1
  have r17 := r0.ext hx1
  refine sbx rfl rfl fun b7 w2 hx2 hg2 hb2 => ?_
  have k1 := hx1.tr hx2
  have hb3 := hb1.ext hx2
  have r18 := r13.ext hx2
  have r19 := r14.ext hx2
  have r20 := r15.ext hx2
  have r21 := r16.ext hx2
  have r22 := r11.ext hx2
  have r23 := r12.ext hx2
  refine vl rfl rfl xas <| nl <| wp_seq <| wp_seq <| rg <| vl rfl rfl (xlda rfl ti26 rfl (Bx.cs hb3)) <| ?_
  have hz := bs hF; obtain ⟨x6, Ex6, hF⟩ := hz
  refine cl rfl rfl (xc cb30 (mc rfl mn)) (c30 (show RV (α := (Int × (List Int) × (List ((List Int) × Int)) × (List ((List Int) × Int)) × (List (List Int)))) _ (.agg [.int .i64 x0.1, .slice a1 x0.2.1.length cq1, .slice a2 x0.2.2.1.length cq2, .slice a3 x0.2.2.2.1.length cq3, .slice a4 x0.2.2.2.2.length cq4].toArray) (x0.1, x0.2.1, x0.2.2.1, x0.2.2.2.1, x0.2.2.2.2) from ⟨_, rfl, ⟨[.int .i64 x0.1], [.slice a1 x0.2.1.length cq1] ++ ([.slice a2 x0.2.2.1.length cq2] ++ ([.slice a3 x0.2.2.2.1.length cq3] ++ [.slice a4 x0.2.2.2.2.length cq4])), rfl, rfl, ⟨[.slice a1 x0.2.1.length cq1], [.slice a2 x0.2.2.1.length cq2] ++ ([.slice a3 x0.2.2.2.1.length cq3] ++ [.slice a4 x0.2.2.2.2.length cq4]), rfl, r18.rep1, ⟨[.slice a2 x0.2.2.1.length cq2], [.slice a3 x0.2.2.2.1.length cq3] ++ [.slice a4 x0.2.2.2.2.length cq4], rfl, r19.rep1, ⟨[.slice a3 x0.2.2.2.1.length cq3], [.slice a4 x0.2.2.2.2.length cq4], rfl, r20.rep1, r21.rep1⟩⟩⟩⟩⟩) Ex6) ?_
  rintro _ w3 ⟨rfl, hx3⟩
  have k2 := k1.tr hx3
  have k3 := hx2.tr hx3
  have hb4 := hb3.ext hx3
  have r24 := r18.ext hx3
  have r25 := r19.ext hx3
  have r26 := r20.ext hx3
  have r27 := r21.ext hx3
  have hb5 := hb2.ext hx3
  have r28 := r22.ext hx3
  refine vl rfl rfl (xnot rfl) <| nl <| cnd rfl (fun h6 => ?_) (fun h6 => ?_)
  ·
    have hF := ifp hF h6
    refine wp_seq <| rg <| ?_
    have hz := bs hF; obtain ⟨x7, Ex7, hF⟩ := hz
    refine cl rfl rfl (xc cb15 mn) (c15 Ex7) ?_
    rintro _ w4 ⟨rfl, hx4⟩
    have k4 := k2.tr hx4
    have k5 := k3.tr hx4
    refine vl rfl rfl xas <| nl <| ?_
    cases hF
    exact wp_ret <| rt rfl (.tmp rfl rfl .nil) ⟨rfl, k4⟩
  ·
    have hF := ifn hF h6
    refine wp_skip <| wp_seq <| wpl [] (.pure false 0 (.pure true 1 (.pure false 3 (.pure true 4 (.pure true 5 (.pure true 6 (.eff 2 (.eff 7 (.pure true 8 (.pure true 9 .fin)) .stop) .stop))))))) mixed (by kernel_rfl) (fun w5 hx5 => ?_)
    have k6 := k2.tr hx5
    have k7 := k3.tr hx5
    have hb6 := hb4.ext hx5
    have r29 := r24.ext hx5
    have r30 := r25.ext hx5
    have r31 := r26.ext hx5
    have r32 := r27.ext hx5
    have hb7 := hb5.ext hx5
    have r33 := r28.ext hx5
    refine pv rfl rfl rfl (fun _ hS => xlda rfl ti26 rfl (Bx.cs (hb6.ext (hS.resolve_left nofun)))) (.inr (Ext.refl _)) <| pv rfl rfl rfl (fun _ _ => xmv) (.inl rfl) <| pv rfl rfl rfl (fun _ hS => xlda rfl ti26 rfl (Bx.cs (hb6.ext (hS.resolve_left nofun)))) (.inr (Ext.refl _)) <| pv rfl rfl rfl (fun _ _ => xmv) (.inl rfl) <| pv rfl rfl rfl (fun _ _ => xmv) (.inl rfl) <| pv rfl rfl rfl (fun _ _ => xand rfl rfl) (.inl rfl) <| ?_
    have hz := bs hF; obtain ⟨x8, Ex8, hF⟩ := hz
    refine pe1 rfl <| cl rfl rfl (xc cb31 (mc rfl (mc rfl mn))) (c31 (show RV (α := (Int × (List Int) × (List ((List Int) × Int)) × (List ((List Int) × Int)) × (List (List Int)))) _ (.agg [.int .i64 x0.1, .slice a1 x0.2.1.length cq1, .slice a2 x0.2.2.1.length cq2, .slice a3 x0.2.2.2.1.length cq3, .slice a4 x0.2.2.2.2.length cq4].toArray) (x0.1, x0.2.1, x0.2.2.1, x0.2.2.2.1, x0.2.2.2.2) from ⟨_, rfl, ⟨[.int .i64 x0.1], [.slice a1 x0.2.1.length cq1] ++ ([.slice a2 x0.2.2.1.length cq2] ++ ([.slice a3 x0.2.2.2.1.length cq3] ++ [.slice a4 x0.2.2.2.2.length cq4])), rfl, rfl, ⟨[.slice a1 x0.2.1.length cq1], [.slice a2 x0.2.2.1.length cq2] ++ ([.slice a3 x0.2.2.2.1.length cq3] ++ [.slice a4 x0.2.2.2.2.length cq4]), rfl, r29.rep1, ⟨[.slice a2 x0.2.2.1.length cq2], [.slice a3 x0.2.2.2.1.length cq3] ++ [.slice a4 x0.2.2.2.2.length cq4], rfl, r30.rep1, ⟨[.slice a3 x0.2.2.2.1.length cq3], [.slice a4 x0.2.2.2.2.length cq4], rfl, r31.rep1, r32.rep1⟩⟩⟩⟩⟩) Ex8) ?_
    rintro _ w6 ⟨u1, rfl, r34, hx6⟩
    have k8 := k6.tr hx6
    have k9 := k7.tr hx6
    have hb8 := hb6.ext hx6
    have r35 := r29.ext hx6
    have r36 := r30.ext hx6
    have r37 := r31.ext hx6
    have r38 := r32.ext hx6
    have hb9 := hb7.ext hx6
    have r39 := r33.ext hx6
    have hz := RV.sl r34.rv; obtain ⟨a6, cq6, rfl, -, -, -⟩ := hz
    refine nl ⟨fun _ _ => hx6, ?_⟩
    have hz := bs hF; obtain ⟨x9, Ex9, hF⟩ := hz
    refine pe1 rfl <| cl rfl rfl (xc cb31 (mc rfl (mc rfl mn))) (c31 (show RV (α := (Int × (List Int) × (List ((List Int) × Int)) × (List ((List Int) × Int)) × (List (List Int)))) _ (.agg [.int .i64 x0.1, .slice a1 x0.2.1.length cq1, .slice a2 x0.2.2.1.length cq2, .slice a3 x0.2.2.2.1.length cq3, .slice a4 x0.2.2.2.2.length cq4].toArray) (x0.1, x0.2.1, x0.2.2.1, x0.2.2.2.1, x0.2.2.2.2) from ⟨_, rfl, ⟨[.int .i64 x0.1], [.slice a1 x0.2.1.length cq1] ++ ([.slice a2 x0.2.2.1.length cq2] ++ ([.slice a3 x0.2.2.2.1.length cq3] ++ [.slice a4 x0.2.2.2.2.length cq4])), rfl, rfl, ⟨[.slice a1 x0.2.1.length cq1], [.slice a2 x0.2.2.1.length cq2] ++ ([.slice a3 x0.2.2.2.1.length cq3] ++ [.slice a4 x0.2.2.2.2.length cq4]), rfl, r35.rep1, ⟨[.slice a2 x0.2.2.1.length cq2], [.slice a3 x0.2.2.2.1.length cq3] ++ [.slice a4 x0.2.2.2.2.length cq4], rfl, r36.rep1, ⟨[.slice a3 x0.2.2.2.1.length cq3], [.slice a4 x0.2.2.2.2.length cq4], rfl, r37.rep1, r38.rep1⟩⟩⟩⟩⟩) Ex9) ?_
    rintro _ w7 ⟨u2, rfl, r40, hx7⟩
    have k10 := k8.tr hx7
    have k11 := k9.tr hx7
    have k12 := hx6.tr hx7
    have hb10 := hb8.ext hx7
    have r41 := r35.ext hx7
    have r42 := r36.ext hx7
    have r43 := r37.ext hx7
    have r44 := r38.ext hx7
    have hb11 := hb9.ext hx7
    have r45 := r39.ext hx7
    have r46 := r34.ext hx7
    have hz := RV.sl r40.rv; obtain ⟨a7, cq7, rfl, -, -, -⟩ := hz
    refine nl ⟨fun _ _ => k12, ?_⟩
    refine pv rfl rfl rfl (fun _ _ => xas) (.inl rfl) <| pv rfl rfl rfl (fun _ _ => xas) (.inl rfl) <| wp_seq <| rg <| vl rfl rfl (xlda rfl ti26 rfl (Bx.cs hb10)) <| vl rfl rfl xmv <| ?_
    have hz := bs hF; obtain ⟨x10, Ex10, hF⟩ := hz
    refine cl rfl rfl (xc cb33 (mc rfl (mc rfl mn))) (c33 (show RV (α := (Int × (List Int) × (List ((List Int) × Int)) × (List ((List Int) × Int)) × (List (List Int)))) _ (.agg [.int .i64 x0.1, .slice a1 x0.2.1.length cq1, .slice a2 x0.2.2.1.length cq2, .slice a3 x0.2.2.2.1.length cq3, .slice a4 x0.2.2.2.2.length cq4].toArray) (x0.1, x0.2.1, x0.2.2.1, x0.2.2.2.1, x0.2.2.2.2) from ⟨_, rfl, ⟨[.int .i64 x0.1], [.slice a1 x0.2.1.length cq1] ++ ([.slice a2 x0.2.2.1.length cq2] ++ ([.slice a3 x0.2.2.2.1.length cq3] ++ [.slice a4 x0.2.2.2.2.length cq4])), rfl, rfl, ⟨[.slice a1 x0.2.1.length cq1], [.slice a2 x0.2.2.1.length cq2] ++ ([.slice a3 x0.2.2.2.1.length cq3] ++ [.slice a4 x0.2.2.2.2.length cq4]), rfl, r41.rep1, ⟨[.slice a2 x0.2.2.1.length cq2], [.slice a3 x0.2.2.2.1.length cq3] ++ [.slice a4 x0.2.2.2.2.length cq4], rfl, r42.rep1, ⟨[.slice a3 x0.2.2.2.1.length cq3], [.slice a4 x0.2.2.2.2.length cq4], rfl, r43.rep1, r44.rep1⟩⟩⟩⟩⟩) r46.rv Ex10) ?_
    rintro _ w8 ⟨u3, rfl, r47, hx8⟩
    have k13 := k10.tr hx8
    have k14 := k11.tr hx8
    have k15 := k12.tr hx8
    have k16 := hx7.tr hx8
    have hb12 := hb10.ext hx8
    have r48 := r41.ext hx8
    have r49 := r42.ext hx8
    have r50 := r43.ext hx8
    have r51 := r44.ext hx8
    have hb13 := hb11.ext hx8
    have r52 := r45.ext hx8
    have r53 := r46.ext hx8
    have r54 := r40.ext hx8
    have hz := RV.sl r47; obtain ⟨a8, cq8, rfl, -, -, -⟩ := hz
    refine vl rfl rfl xmv <| vl rfl rfl (xext rfl rfl) <| vl rfl rfl (xext rfl rfl) <| vl rfl rfl xas <| vl rfl rfl xas <| nl <| wp_seq <| rg <| vl rfl rfl (xlda rfl ti26 rfl (Bx.cs hb12)) <| vl rfl rfl xmv <| ?_
    have hz := bs hF; obtain ⟨x11, Ex11, hF⟩ := hz
    refine cl rfl rfl (xc cb33 (mc rfl (mc rfl mn))) (c33 (show RV (α := (Int × (List Int) × (List ((List Int) × Int)) × (List ((List Int) × Int)) × (List (List Int)))) _ (.agg [.int .i64 x0.1, .slice a1 x0.2.1.length cq1, .slice a2 x0.2.2.1.length cq2, .slice a3 x0.2.2.2.1.length cq3, .slice a4 x0.2.2.2.2.length cq4].toArray) (x0.1, x0.2.1, x0.2.2.1, x0.2.2.2.1, x0.2.2.2.2) from ⟨_, rfl, ⟨[.int .i64 x0.1], [.slice a1 x0.2.1.length cq1] ++ ([.slice a2 x0.2.2.1.length cq2] ++ ([.slice a3 x0.2.2.2.1.length cq3] ++ [.slice a4 x0.2.2.2.2.length cq4])), rfl, rfl, ⟨[.slice a1 x0.2.1.length cq1], [.slice a2 x0.2.2.1.length cq2] ++ ([.slice a3 x0.2.2.2.1.length cq3] ++ [.slice a4 x0.2.2.2.2.length cq4]), rfl, r48.rep1, ⟨[.slice a2 x0.2.2.1.length cq2], [.slice a3 x0.2.2.2.1.length cq3] ++ [.slice a4 x0.2.2.2.2.length cq4], rfl, r49.rep1, ⟨[.slice a3 x0.2.2.2.1.length cq3], [.slice a4 x0.2.2.2.2.length cq4], rfl, r50.rep1, r51.rep1⟩⟩⟩⟩⟩) r54.rv Ex11) ?_
    rintro _ w9 ⟨u4, rfl, r55, hx9⟩
    have k17 := k13.tr hx9
    have k18 := k14.tr hx9
    have k19 := k15.tr hx9
    have k20 := k16.tr hx9
    have hb14 := hb12.ext hx9
    have r56 := r48.ext hx9
    have r57 := r49.ext hx9
    have r58 := r50.ext hx9
    have r59 := r51.ext hx9
    have hb15 := hb13.ext hx9
    have r60 := r52.ext hx9
    have r61 := r53.ext hx9
    have r62 := r54.ext hx9
    have r63 := r47.ext hx9
    have hz := RV.sl r55; obtain ⟨a9, cq9, rfl, -, -, -⟩ := hz
    refine vl rfl rfl xmv <| vl rfl rfl (xext rfl rfl) <| vl rfl rfl (xext rfl rfl) <| vl rfl rfl xas <| vl rfl rfl xas <| nl <| wp_seq <| wp_seq <| rg <| vl rfl rfl xmv <| vl rfl rfl (xneq rfl rfl) <| vl rfl rfl xmv <| gv rfl rfl rfl rfl (gw0 rfl) rfl (fun hc => xmva rfl) <| gv rfl rfl rfl rfl (gw0 rfl) rfl (fun hc => xneq (mv hc rfl) rfl) <| vl rfl rfl (xpo rfl rfl rfl) <| vl rfl rfl xmv <| gv rfl rfl rfl rfl (gw0 rfl) rfl (fun hc => xmva rfl) <| gv rfl rfl rfl rfl (gw0 rfl) rfl (fun hc => xmva rfl) <| ?_
    have hz := bs hF; obtain ⟨x12, Ex12, hF⟩ := hz
    refine gc rfl rfl rfl rfl (gw0 rfl) rfl (fun hc => xc cb34 (mc (mv hc rfl) (mc (mv hc rfl) mn))) (fun hc => (c34 r63 r55 (gdp Ex12 hc))) (fun v6 w10 hy1 hn1 => ?_)
    have hx10 : Ext w9 w10 := gx (fun h => (hy1 h).2) (fun h => (hn1 h).2 ▸ Ext.refl _)
    have e6 := mkw (fun h => (hy1 h).1) (fun h => (hn1 h).1)
    have k21 := k17.tr hx10
    have k22 := k18.tr hx10
    have k23 := k19.tr hx10
    have k24 := k20.tr hx10
    have hb16 := hb14.ext hx10
    have r64 := r56.ext hx10
    have r65 := r57.ext hx10
    have r66 := r58.ext hx10
    have r67 := r59.ext hx10
    have hb17 := hb15.ext hx10
    have r68 := r60.ext hx10
    have r69 := r61.ext hx10
    have r70 := r62.ext hx10
    have r71 := r63.ext hx10
    refine gv rfl rfl rfl rfl (gw0 rfl) rfl (fun hc => xnot (mv hc e6)) <| vl rfl rfl (xpo rfl rfl rfl) <| vl rfl rfl xmv <| gv rfl rfl rfl rfl (gw0 rfl) rfl (fun hc => xlda rfl ti26 rfl (Bx.cs hb16)) <| gv rfl rfl rfl rfl (gw0 rfl) rfl (fun hc => xmva rfl) <| ?_
    have hz := bs hF; obtain ⟨x13, Ex13, hF⟩ := hz
    refine gc rfl rfl rfl rfl (gw0 rfl) rfl (fun hc => xc cb32 (mc (mv hc rfl) (mc (mv hc rfl) mn))) (fun hc => (c32 (show RV (α := (Int × (List Int) × (List ((List Int) × Int)) × (List ((List Int) × Int)) × (List (List Int)))) _ (.agg [.int .i64 x0.1, .slice a1 x0.2.1.length cq1, .slice a2 x0.2.2.1.length cq2, .slice a3 x0.2.2.2.1.length cq3, .slice a4 x0.2.2.2.2.length cq4].toArray) (x0.1, x0.2.1, x0.2.2.1, x0.2.2.2.1, x0.2.2.2.2) from ⟨_, rfl, ⟨[.int .i64 x0.1], [.slice a1 x0.2.1.length cq1] ++ ([.slice a2 x0.2.2.1.length cq2] ++ ([.slice a3 x0.2.2.2.1.length cq3] ++ [.slice a4 x0.2.2.2.2.length cq4])), rfl, rfl, ⟨[.slice a1 x0.2.1.length cq1], [.slice a2 x0.2.2.1.length cq2] ++ ([.slice a3 x0.2.2.2.1.length cq3] ++ [.slice a4 x0.2.2.2.2.length cq4]), rfl, r64.rep1, ⟨[.slice a2 x0.2.2.1.length cq2], [.slice a3 x0.2.2.2.1.length cq3] ++ [.slice a4 x0.2.2.2.2.length cq4], rfl, r65.rep1, ⟨[.slice a3 x0.2.2.2.1.length cq3], [.slice a4 x0.2.2.2.2.length cq4], rfl, r66.rep1, r67.rep1⟩⟩⟩⟩⟩) r69.rv (gdp Ex13 hc))) (fun v7 w11 hy2 hn2 => ?_)
    have hx11 : Ext w10 w11 := gx (fun h => (hy2 h).2) (fun h => (hn2 h).2 ▸ Ext.refl _)
    have e7 := mkw (fun h => (hy2 h).1) (fun h => (hn2 h).1)
    have k25 := k21.tr hx11
    have k26 := k22.tr hx11
    have k27 := k23.tr hx11
    have k28 := k24.tr hx11
    have hb18 := hb16.ext hx11
    have r72 := r64.ext hx11
    have r73 := r65.ext hx11
    have r74 := r66.ext hx11
    have r75 := r67.ext hx11
    have hb19 := hb17.ext hx11
    have r76 := r68.ext hx11
    have r77 := r69.ext hx11
    have r78 := r70.ext hx11
    have r79 := r71.ext hx11
    refine gv rfl rfl rfl rfl (gw0 rfl) rfl (fun hc => xeql (mv hc e7) rfl) <| gv rfl rfl rfl rfl (gw0 rfl) rfl (fun hc => xmva (mv hc rfl)) <| gv rfl rfl rfl rfl (gn1 rfl) rfl (fun hc => xlda rfl ti26 rfl (Bx.cs hb18)) <| gv rfl rfl rfl rfl (gn1 rfl) rfl (fun hc => xmva rfl) <| ?_
    have hz := bs hF; obtain ⟨x14, Ex14, hF⟩ := hz
    refine gc rfl rfl rfl rfl (gn1 rfl) rfl (fun hc => xc cb32 (mc (mv hc rfl) (mc (mv hc rfl) mn))) (fun hc => (c32 (show RV (α := (Int × (List Int) × (List ((List Int) × Int)) × (List ((List Int) × Int)) × (List (List Int)))) _ (.agg [.int .i64 x0.1, .slice a1 x0.2.1.length cq1, .slice a2 x0.2.2.1.length cq2, .slice a3 x0.2.2.2.1.length cq3, .slice a4 x0.2.2.2.2.length cq4].toArray) (x0.1, x0.2.1, x0.2.2.1, x0.2.2.2.1, x0.2.2.2.2) from ⟨_, rfl, ⟨[.int .i64 x0.1], [.slice a1 x0.2.1.length cq1] ++ ([.slice a2 x0.2.2.1.length cq2] ++ ([.slice a3 x0.2.2.2.1.length cq3] ++ [.slice a4 x0.2.2.2.2.length cq4])), rfl, rfl, ⟨[.slice a1 x0.2.1.length cq1], [.slice a2 x0.2.2.1.length cq2] ++ ([.slice a3 x0.2.2.2.1.length cq3] ++ [.slice a4 x0.2.2.2.2.length cq4]), rfl, r72.rep1, ⟨[.slice a2 x0.2.2.1.length cq2], [.slice a3 x0.2.2.2.1.length cq3] ++ [.slice a4 x0.2.2.2.2.length cq4], rfl, r73.rep1, ⟨[.slice a3 x0.2.2.2.1.length cq3], [.slice a4 x0.2.2.2.2.length cq4], rfl, r74.rep1, r75.rep1⟩⟩⟩⟩⟩) r78.rv (gdp Ex14 hc))) (fun v8 w12 hy3 hn3 => ?_)
    have hx12 : Ext w11 w12 := gx (fun h => (hy3 h).2) (fun h => (hn3 h).2 ▸ Ext.refl _)
    have e8 := mkw (fun h => (hy3 h).1) (fun h => (hn3 h).1)
    have k29 := k25.tr hx12
    have k30 := k26.tr hx12
    have k31 := k27.tr hx12
    have k32 := k28.tr hx12
    have hb20 := hb18.ext hx12
    have r80 := r72.ext hx12
    have r81 := r73.ext hx12
    have r82 := r74.ext hx12
    have r83 := r75.ext hx12
    have hb21 := hb19.ext hx12
    have r84 := r76.ext hx12
    have r85 := r77.ext hx12
    have r86 := r79.ext hx12
    refine gv rfl rfl rfl rfl (gn1 rfl) rfl (fun hc => xneq (mv hc e8) rfl) <| gv rfl rfl rfl rfl (gw0 rfl) rfl (fun hc => xpa (mv hc rfl) (mvn hc rfl) rfl) <| vl rfl rfl (xpo rfl rfl rfl) <| nl <| cnd rfl (fun h7 => ?_) (fun h7 => ?_)
    ·
      have hF := ifp hF h7
      refine wp_seq <| rg <| vl rfl rfl xas <| nl <| ?_
      cases hF
      exact wp_ret <| rt rfl (.tmp rfl rfl .nil) ⟨rfl, k29⟩
    ·
      have hF := ifn hF h7
      refine wp_skip <| wp_seq <| ?_
      have hz := bs hF; obtain ⟨⟨⟩, hB1, hF⟩ := hz
      refine ct (fun L w => ∃ v9 v10 : Value, L 17 = v9 ∧ PX 26 w12.heap.size w v9 [.int .i64 x0.1, .slice a1 x0.2.1.length cq1, .slice a2 x0.2.2.1.length cq2, .slice a3 x0.2.2.2.1.length cq3, .slice a4 x0.2.2.2.2.length cq4] ∧ L 18 = v10 ∧ PX 26 w12.heap.size w v10 [.int .i64 x0.1, .slice a1 x0.2.1.length cq1, .slice a2 x0.2.2.1.length cq2, .slice a3 x0.2.2.2.1.length cq3, .slice a4 x0.2.2.2.2.length cq4] ∧ v9 ≠ v10 ∧ L 3 = .int .u8 x3 ∧ L 5 = .pointer (some ⟨b6, 0, none⟩) ∧ L 9 = .pointer (some ⟨b7, 0, none⟩) ∧ L 11 = .slice a6 x8.length cq6 ∧ L 13 = .slice a8 x10.1.length cq8 ∧ w5.heap.size ≤ w.heap.size ∧ Ext w12 w) ?_ ?_
      ·
        refine wpl [] (.pure false 0 (.pure false 1 (.eff 2 (.eff 3 (.eff 4 (.eff 5 .fin .stop) .stop) .stop) (.eff 3 (.eff 2 (.eff 4 (.eff 5 .fin .stop) .stop) .stop) .stop)))) mixed (by kernel_rfl) (fun w18 hx16 => ?_)
        have k60 := k29.tr hx16
        have k61 := k30.tr hx16
        have k62 := k31.tr hx16
        have k63 := k32.tr hx16
        have hb41 := hb20.ext hx16
        have r122 := r80.ext hx16
        have r123 := r81.ext hx16
        have r124 := r82.ext hx16
        have r125 := r83.ext hx16
        have hb42 := hb21.ext hx16
        have r126 := r84.ext hx16
        have r127 := r85.ext hx16
        have r128 := r86.ext hx16
        refine pv rfl rfl rfl (fun _ hS => xlda rfl ti26 rfl (Bx.cs (hb41.ext (hS.resolve_left nofun)))) (.inr (Ext.refl _)) <| pv rfl rfl rfl (fun _ hS => xlda rfl ti26 rfl (Bx.cs (hb41.ext (hS.resolve_left nofun)))) (.inr (Ext.refl _)) <| ?_
        refine pe rfl ?_ ?_
        ·
          refine sal ti26 fun b10 w19 hx17 hg5 hb43 => ?_
          have k64 := k60.tr hx17
          have k65 := k61.tr hx17
          have k66 := k62.tr hx17
          have k67 := k63.tr hx17
          have k68 := hx16.tr hx17
          have hb44 := hb41.ext hx17
          have r129 := r122.ext hx17
          have r130 := r123.ext hx17
          have r131 := r124.ext hx17
          have r132 := r125.ext hx17
          have hb45 := hb42.ext hx17
          have r133 := r126.ext hx17
          have r134 := r127.ext hx17
          have r135 := r128.ext hx17
          refine nl ⟨fun _ _ => hx17, ?_⟩
          refine pe1 rfl <| sal ti26 fun b11 w20 hx18 hg6 hb46 => ?_
          have k69 := k64.tr hx18
          have k70 := k65.tr hx18
          have k71 := k66.tr hx18
          have k72 := k67.tr hx18
          have k73 := k68.tr hx18
          have k74 := hx17.tr hx18
          have hb47 := hb44.ext hx18
          have r136 := r129.ext hx18
          have r137 := r130.ext hx18
          have r138 := r131.ext hx18
          have r139 := r132.ext hx18
          have hb48 := hb45.ext hx18
          have r140 := r133.ext hx18
          have hb49 := hb43.ext hx18
          have r141 := r134.ext hx18
          have r142 := r135.ext hx18
          refine nl ⟨fun _ _ => k74, ?_⟩
          refine pe1 rfl <| sst rfl rfl rfl ti26 hb49 rfl rfl (ble rfl) fun w21 hch3 hb50 => ?_
          have k75 := Ext.chg k69 hch3 (Nat.le_trans k60.size hg5)
          have k76 := Ext.chg k70 hch3 (Nat.le_trans k61.size hg5)
          have k77 := Ext.chg k71 hch3 (Nat.le_trans k62.size hg5)
          have k78 := Ext.chg k72 hch3 (Nat.le_trans k63.size hg5)
          have k79 := Ext.chg k73 hch3 (Nat.le_trans hx16.size hg5)
          have k80 := Ext.chg k74 hch3 (Nat.le_trans (Nat.le_refl _) hg5)
          have hb51 := hb41.ext k80
          have r143 := r122.ext k80
          have r144 := r123.ext k80
          have r145 := r124.ext k80
          have r146 := r125.ext k80
          have hb52 := hb42.ext k80
          have r147 := r126.ext k80
          have hb53 := Bx.chg hb46 hch3 (Ne.symm (Nat.ne_of_lt (Nat.lt_of_lt_of_le hb43.lt hg6)))
          have r148 := r127.ext k80
          have r149 := r128.ext k80
          have hb54 : Bx w21 b10 26 [.int .i64 x0.1, .slice a1 x0.2.1.length cq1, .slice a2 x0.2.2.1.length cq2, .slice a3 x0.2.2.2.1.length cq3, .slice a4 x0.2.2.2.2.length cq4] := hb50
          refine nl ⟨fun _ _ => k80, ?_⟩
          refine pe1 rfl <| sst rfl rfl rfl ti26 hb53 rfl rfl (ble rfl) fun w22 hch4 hb55 => ?_
          have k81 := Ext.chg k75 hch4 (Nat.le_trans k60.size (Nat.le_trans hx17.size hg6))
          have k82 := Ext.chg k76 hch4 (Nat.le_trans k61.size (Nat.le_trans hx17.size hg6))
          have k83 := Ext.chg k77 hch4 (Nat.le_trans k62.size (Nat.le_trans hx17.size hg6))
          have k84 := Ext.chg k78 hch4 (Nat.le_trans k63.size (Nat.le_trans hx17.size hg6))
          have k85 := Ext.chg k79 hch4 (Nat.le_trans hx16.size (Nat.le_trans hx17.size hg6))
          have k86 := Ext.chg k80 hch4 (Nat.le_trans (Nat.le_refl _) (Nat.le_trans hx17.size hg6))
          have hb56 := hb41.ext k86
          have r150 := r122.ext k86
          have r151 := r123.ext k86
          have r152 := r124.ext k86
          have r153 := r125.ext k86
          have hb57 := hb42.ext k86
          have r154 := r126.ext k86
          have hb58 := Bx.chg hb54 hch4 (Nat.ne_of_lt (Nat.lt_of_lt_of_le hb43.lt hg6))
          have r155 := r127.ext k86
          have r156 := r128.ext k86
          have hb59 : Bx w22 b11 26 [.int .i64 x0.1, .slice a1 x0.2.1.length cq1, .slice a2 x0.2.2.1.length cq2, .slice a3 x0.2.2.2.1.length cq3, .slice a4 x0.2.2.2.2.length cq4] := hb55
          refine nl ⟨fun _ _ => k86, ?_⟩
          cases hB1
          refine lf <| ?_
          exact ⟨_, _, rfl, ⟨_, rfl, (Nat.le_trans hx16.size hg5), hb58⟩, rfl, ⟨_, rfl, (Nat.le_trans hx16.size (Nat.le_trans hx17.size hg6)), hb59⟩, (ne_ptr (Nat.ne_of_lt (Nat.lt_of_lt_of_le hb43.lt hg6))), rfl, rfl, rfl, rfl, rfl, k83.size, k85⟩
        refine pm rfl ?_ ?_
        ·
          refine sal ti26 fun b12 w23 hx19 hg7 hb60 => ?_
          have k87 := k60.tr hx19
          have k88 := k61.tr hx19
          have k89 := k62.tr hx19
          have k90 := k63.tr hx19
          have k91 := hx16.tr hx19
          have hb61 := hb41.ext hx19
          have r157 := r122.ext hx19
          have r158 := r123.ext hx19
          have r159 := r124.ext hx19
          have r160 := r125.ext hx19
          have hb62 := hb42.ext hx19
          have r161 := r126.ext hx19
          have r162 := r127.ext hx19
          have r163 := r128.ext hx19
          refine nl ⟨fun _ _ => hx19, ?_⟩
          refine pe1 rfl <| sal ti26 fun b13 w24 hx20 hg8 hb63 => ?_
          have k92 := k87.tr hx20
          have k93 := k88.tr hx20
          have k94 := k89.tr hx20
          have k95 := k90.tr hx20
          have k96 := k91.tr hx20
          have k97 := hx19.tr hx20
          have hb64 := hb61.ext hx20
          have r164 := r157.ext hx20
          have r165 := r158.ext hx20
          have r166 := r159.ext hx20
          have r167 := r160.ext hx20
          have hb65 := hb62.ext hx20
          have r168 := r161.ext hx20
          have hb66 := hb60.ext hx20
          have r169 := r162.ext hx20
          have r170 := r163.ext hx20
          refine nl ⟨fun _ _ => k97, ?_⟩
          refine pe1 rfl <| sst rfl rfl rfl ti26 hb63 rfl rfl (ble rfl) fun w25 hch5 hb67 => ?_
          have k98 := Ext.chg k92 hch5 (Nat.le_trans k87.size hg8)
          have k99 := Ext.chg k93 hch5 (Nat.le_trans k88.size hg8)
          have k100 := Ext.chg k94 hch5 (Nat.le_trans k89.size hg8)
          have k101 := Ext.chg k95 hch5 (Nat.le_trans k90.size hg8)
          have k102 := Ext.chg k96 hch5 (Nat.le_trans k91.size hg8)
          have k103 := Ext.chg k97 hch5 (Nat.le_trans hx19.size hg8)
          have k104 := Ext.chg hx20 hch5 (Nat.le_trans (Nat.le_refl _) hg8)
          have hb68 := hb61.ext k104
          have r171 := r157.ext k104
          have r172 := r158.ext k104
          have r173 := r159.ext k104
          have r174 := r160.ext k104
          have hb69 := hb62.ext k104
          have r175 := r161.ext k104
          have hb70 := hb60.ext k104
          have r176 := r162.ext k104
          have r177 := r163.ext k104
          have hb71 : Bx w25 b13 26 [.int .i64 x0.1, .slice a1 x0.2.1.length cq1, .slice a2 x0.2.2.1.length cq2, .slice a3 x0.2.2.2.1.length cq3, .slice a4 x0.2.2.2.2.length cq4] := hb67
          refine nl ⟨fun _ _ => k103, ?_⟩
          refine pe1 rfl <| sst rfl rfl rfl ti26 hb70 rfl rfl (ble rfl) fun w26 hch6 hb72 => ?_
          have k105 := Ext.chg k98 hch6 (Nat.le_trans k60.size hg7)
          have k106 := Ext.chg k99 hch6 (Nat.le_trans k61.size hg7)
          have k107 := Ext.chg k100 hch6 (Nat.le_trans k62.size hg7)
          have k108 := Ext.chg k101 hch6 (Nat.le_trans k63.size hg7)
          have k109 := Ext.chg k102 hch6 (Nat.le_trans hx16.size hg7)
          have k110 := Ext.chg k103 hch6 (Nat.le_trans (Nat.le_refl _) hg7)
          have hb73 := hb41.ext k110
          have r178 := r122.ext k110
          have r179 := r123.ext k110
          have r180 := r124.ext k110
          have r181 := r125.ext k110
          have hb74 := hb42.ext k110
          have r182 := r126.ext k110
          have hb75 := Bx.chg hb71 hch6 (Ne.symm (Nat.ne_of_lt (Nat.lt_of_lt_of_le hb60.lt hg8)))
          have r183 := r127.ext k110
          have r184 := r128.ext k110
          have hb76 : Bx w26 b12 26 [.int .i64 x0.1, .slice a1 x0.2.1.length cq1, .slice a2 x0.2.2.1.length cq2, .slice a3 x0.2.2.2.1.length cq3, .slice a4 x0.2.2.2.2.length cq4] := hb72
          refine nl ⟨fun _ _ => k110, ?_⟩
          cases hB1
          refine lf <| ?_
          exact ⟨_, _, rfl, ⟨_, rfl, (Nat.le_trans hx16.size (Nat.le_trans hx19.size hg8)), hb75⟩, rfl, ⟨_, rfl, (Nat.le_trans hx16.size hg7), hb76⟩, (ne_ptr (Ne.symm (Nat.ne_of_lt (Nat.lt_of_lt_of_le hb60.lt hg8)))), rfl, rfl, rfl, rfl, rfl, k107.size, k109⟩
        trivial
      rintro L w27 ⟨v9, v10, l17_j1, P17_j1, l18_j1, P18_j1, N17_18_j1, l3_j1, l5_j1, l9_j1, l11_j1, l13_j1, Z0_j1, K0_j1⟩
      have k111 := k29.tr K0_j1
      have k112 := k30.tr K0_j1
      have k113 := k31.tr K0_j1
      have k114 := k32.tr K0_j1
      have r185 := r80.ext K0_j1
      have r186 := r81.ext K0_j1
      have r187 := r82.ext K0_j1
      have r188 := r83.ext K0_j1
      have hb77 := hb20.ext K0_j1
      have r189 := r84.ext K0_j1
      have hb78 := hb21.ext K0_j1
      have r190 := r85.ext K0_j1
      have r191 := r86.ext K0_j1
      obtain ⟨b14, rfl, hg9, hb79⟩ := P17_j1
      obtain ⟨b15, rfl, hg10, hb80⟩ := P18_j1
      refine wp_seq <| rg <| vl rfl rfl xmv <| vl rfl rfl (xcvt l3_j1 Try.underlying5 Try.underlying3) <| vl rfl rfl (xfa l5_j1 fa26_0) <| vl rfl rfl (xld rfl ti3 ((Bx.cs hb77).at 0 rfl)) <| ?_
      have hz := bs hF; obtain ⟨x15, Ex15, hF⟩ := hz
      refine vl rfl rfl (xremv rfl rfl Ex15) <| vl rfl rfl xas <| nl <| wp_seq <| rg <| vl rfl rfl (xfa l17_j1 fa26_1) <| sst rfl rfl rfl ti22 hb79 rfl rfl (ble rfl) fun w28 hch7 hb81 => ?_
      have k115 := Ext.chg k111 hch7 (Nat.le_trans k29.size hg9)
      have k116 := Ext.chg k112 hch7 (Nat.le_trans k30.size hg9)
      have k117 := Ext.chg k113 hch7 (Nat.le_trans k31.size hg9)
      have k118 := Ext.chg k114 hch7 (Nat.le_trans k32.size hg9)
      have k119 := Ext.chg K0_j1 hch7 (Nat.le_trans (Nat.le_refl _) hg9)
      have zs1 := Nat.le_trans Z0_j1 (Nat.le_of_eq hch7.size.symm)
      have hb82 := hb20.ext k119
      have r192 := r80.ext k119
      have r193 := r81.ext k119
      have r194 := r82.ext k119
      have r195 := r83.ext k119
      have hb83 := hb21.ext k119
      have r196 := r84.ext k119
      have hb84 := Bx.chg hb80 hch7 (Ne.symm (ptr_ne N17_18_j1))
      have r197 := r85.ext k119
      have r198 := r86.ext k119
      have hb85 : Bx w28 b14 26 [.int .i64 x0.1, .slice none 0 0, .slice a2 x0.2.2.1.length cq2, .slice a3 x0.2.2.2.1.length cq3, .slice a4 x0.2.2.2.2.length cq4] := hb81
      refine nl <| wp_seq <| wp_seq <| rg <| vl rfl rfl xas <| nl <| ?_
      have hz := bs hF; obtain ⟨z1, hB2, hF⟩ := hz
      refine ct (fun L w => ∃ v12 : Value, Bx w b14 26 [.int .i64 z1.1, v12, .slice a2 x0.2.2.1.length cq2, .slice a3 x0.2.2.2.1.length cq3, .slice a4 x0.2.2.2.2.length cq4] ∧ Row 3 w28.heap.size w v12 z1.2.1 ∧ some b14 ≠ Value.ownBlock v12 ∧ Bx w b15 26 [.int .i64 x0.1, .slice a1 x0.2.1.length cq1, .slice a2 x0.2.2.1.length cq2, .slice a3 x0.2.2.2.1.length cq3, .slice a4 x0.2.2.2.2.length cq4] ∧ Apart (v12) (.slice a6 x8.length cq6) ∧ L 5 = .pointer (some ⟨b6, 0, none⟩) ∧ L 9 = .pointer (some ⟨b7, 0, none⟩) ∧ L 11 = .slice a6 x8.length cq6 ∧ L 13 = .slice a8 x10.1.length cq8 ∧ L 17 = .pointer (some ⟨b14, 0, none⟩) ∧ L 18 = .pointer (some ⟨b15, 0, none⟩) ∧ w28.heap.size ≤ w.heap.size ∧ w5.heap.size ≤ w.heap.size ∧ Ext w12 w) ?_ ?_
      ·
        refine wp_block <| lp (I := fun m L w => ∃ y1 : Int, ∃ y2 : (Int × (List Int) × (List ((List Int) × Int)) × (List ((List Int) × Int)) × (List (List Int))), ∃ v11 : Value, law10_RightLess_l1 F x0 x15 m y1 y2  = some z1 ∧ L 20 = .int .i64 y1 ∧ Bx w b14 26 [.int .i64 y2.1, v11, .slice a2 x0.2.2.1.length cq2, .slice a3 x0.2.2.2.1.length cq3, .slice a4 x0.2.2.2.2.length cq4] ∧ Row 3 w28.heap.size w v11 y2.2.1 ∧ some b14 ≠ Value.ownBlock v11 ∧ Bx w b15 26 [.int .i64 x0.1, .slice a1 x0.2.1.length cq1, .slice a2 x0.2.2.1.length cq2, .slice a3 x0.2.2.2.1.length cq3, .slice a4 x0.2.2.2.2.length cq4] ∧ Apart (v11) (.slice a6 x8.length cq6) ∧ L 5 = .pointer (some ⟨b6, 0, none⟩) ∧ L 9 = .pointer (some ⟨b7, 0, none⟩) ∧ L 11 = .slice a6 x8.length cq6 ∧ L 13 = .slice a8 x10.1.length cq8 ∧ L 17 = .pointer (some ⟨b14, 0, none⟩) ∧ L 18 = .pointer (some ⟨b15, 0, none⟩) ∧ L 19 = .int .i64 x15 ∧ w28.heap.size ≤ w.heap.size ∧ w5.heap.size ≤ w.heap.size ∧ Ext w12 w) F ⟨_, _, _, hB2, rfl, hb85, Row.nil, (fun e => by cases e), hb84, Apart.nil1, l5_j1, l9_j1, l11_j1, l13_j1, l17_j1, l18_j1, rfl, (Nat.le_refl _), zs1, k119⟩ ?_
        rintro m L w29 ⟨y1, y2, v11, hB2, l20_i1, B17_i1, O17c1_i1, N17c1_i1, B18_i1, X0_i1, l5_i1, l9_i1, l11_i1, l13_i1, l17_i1, l18_i1, l19_i1, Z0_i1, Z1_i1, K0_i1⟩
        rcases m with _ | m
        · rw [law10_RightLess_l1] at hB2; cases hB2
        rw [law10_RightLess_l1] at hB2
        have k120 := k29.tr K0_i1
        have k121 := k30.tr K0_i1
        have k122 := k31.tr K0_i1
        have k123 := k32.tr K0_i1
        have r199 := r80.ext K0_i1
        have r200 := r81.ext K0_i1
        have r201 := r82.ext K0_i1
        have r202 := r83.ext K0_i1
        have hb86 := hb20.ext K0_i1
        have r203 := r84.ext K0_i1
        have hb87 := hb21.ext K0_i1
        have r204 := r85.ext K0_i1
        have r205 := r86.ext K0_i1
        have hz := RV.sl O17c1_i1.rv; obtain ⟨a10, cq10, rfl, -, -, -⟩ := hz
        refine wp_seq <| wp_seq <| rg <| vl rfl rfl xmv <| vl rfl rfl (xfa l5_i1 fa26_0) <| vl rfl rfl (xld rfl ti3 ((Bx.cs hb86).at 0 rfl)) <| vl rfl rfl (xlss l20_i1 rfl) <| nl <| cnd rfl (fun h8 => ?_) (fun h8 => ?_)
        ·
          have hB2 := ifp hB2 h8
          refine wp_skip <| wp_seq <| ?_
          have hz := bs hB2; obtain ⟨y3, hB4, hB2⟩ := hz
          refine ct (fun L w => ∃ v13 : Value, Bx w b14 26 [.int .i64 y3.1, v13, .slice a2 x0.2.2.1.length cq2, .slice a3 x0.2.2.2.1.length cq3, .slice a4 x0.2.2.2.2.length cq4] ∧ Row 3 w28.heap.size w v13 y3.2.1 ∧ some b14 ≠ Value.ownBlock v13 ∧ Bx w b15 26 [.int .i64 x0.1, .slice a1 x0.2.1.length cq1, .slice a2 x0.2.2.1.length cq2, .slice a3 x0.2.2.2.1.length cq3, .slice a4 x0.2.2.2.2.length cq4] ∧ Apart (v13) (.slice a6 x8.length cq6) ∧ L 5 = .pointer (some ⟨b6, 0, none⟩) ∧ L 9 = .pointer (some ⟨b7, 0, none⟩) ∧ L 11 = .slice a6 x8.length cq6 ∧ L 13 = .slice a8 x10.1.length cq8 ∧ L 17 = .pointer (some ⟨b14, 0, none⟩) ∧ L 18 = .pointer (some ⟨b15, 0, none⟩) ∧ L 19 = .int .i64 x15 ∧ L 20 = .int .i64 y1 ∧ w28.heap.size ≤ w.heap.size ∧ w5.heap.size ≤ w.heap.size ∧ Ext w12 w) ?_ ?_
          ·
            refine wp_block <| wp_seq <| rg <| vl rfl rfl xmv <| vl rfl rfl xmv <| vl rfl rfl (xeql l20_i1 l19_i1) <| vl rfl rfl xmv <| gv rfl rfl rfl rfl (gw0 rfl) rfl (fun hc => xfa l5_i1 fa26_1) <| gv rfl rfl rfl rfl (gw0 rfl) rfl (fun hc => xld (mv hc rfl) ti22 ((Bx.cs hb86).at 1 rfl)) <| gv rfl rfl rfl rfl (gw0 rfl) rfl (fun hc => xmva l20_i1) <| ?_
            have hz := bs hB4; obtain ⟨x16, Ex16, hB4⟩ := hz
            refine gc rfl rfl rfl rfl (gw0 rfl) rfl (fun hc => xc cb36 (mc (mv hc rfl) (mc (mv hc rfl) mn))) (fun hc => (c36 r199 (gdp Ex16 hc))) (fun v14 w30 hy4 hn4 => ?_)
            have hx21 : Ext w29 w30 := gx (fun h => (hy4 h).2) (fun h => (hn4 h).2 ▸ Ext.refl _)
            have e9 := mkw (fun h => (hy4 h).1) (fun h => (hn4 h).1)
            have k124 := k120.tr hx21
            have k125 := k121.tr hx21
            have k126 := k122.tr hx21
            have k127 := k123.tr hx21
            have k128 := K0_i1.tr hx21
            have zs2 := Nat.le_trans Z0_i1 hx21.size
            have zs3 := Nat.le_trans Z1_i1 hx21.size
            have hb88 := hb86.ext hx21
            have r206 := r199.ext hx21
            have r207 := r200.ext hx21
            have r208 := r201.ext hx21
            have r209 := r202.ext hx21
            have hb89 := hb87.ext hx21
            have r210 := r203.ext hx21
            have B1 := B17_i1.ext hx21
            have O1 := O17c1_i1.ext hx21
            have hb90 := B18_i1.ext hx21
            have r211 := r204.ext hx21
            have r212 := r205.ext hx21
            refine vl rfl rfl (xpo rfl e9 rfl) <| nl <| ?_
            have hz := bs hB4; obtain ⟨y4, hB5, hB4⟩ := hz
            refine ct (fun L w => ∃ v15 : Value, Bx w b14 26 [.int .i64 y4.1, v15, .slice a2 x0.2.2.1.length cq2, .slice a3 x0.2.2.2.1.length cq3, .slice a4 x0.2.2.2.2.length cq4] ∧ Row 3 w28.heap.size w v15 y4.2.1 ∧ some b14 ≠ Value.ownBlock v15 ∧ Bx w b15 26 [.int .i64 x0.1, .slice a1 x0.2.1.length cq1, .slice a2 x0.2.2.1.length cq2, .slice a3 x0.2.2.2.1.length cq3, .slice a4 x0.2.2.2.2.length cq4] ∧ Apart (v15) (.slice a6 x8.length cq6) ∧ L 5 = .pointer (some ⟨b6, 0, none⟩) ∧ L 9 = .pointer (some ⟨b7, 0, none⟩) ∧ L 11 = .slice a6 x8.length cq6 ∧ L 13 = .slice a8 x10.1.length cq8 ∧ L 17 = .pointer (some ⟨b14, 0, none⟩) ∧ L 18 = .pointer (some ⟨b15, 0, none⟩) ∧ L 19 = .int .i64 x15 ∧ L 20 = .int .i64 y1 ∧ w28.heap.size ≤ w.heap.size ∧ w5.heap.size ≤ w.heap.size ∧ Ext w12 w) ?_ ?_
            ·
              refine cnd rfl (fun h9 => ?_) (fun h9 => ?_)
              ·
                have hB5 := ifp hB5 h9
                refine rg <| vl rfl rfl (xfa l17_i1 fa26_1) <| vl rfl rfl (xld rfl ti22 ((Bx.cs B1).at 1 rfl)) <| vl rfl rfl xmv <| sbsv (cs := [.int .i64 y1]) Try.underlying22 ti3 rfl (pc l20_i1 pn) rfl rfl rfl rfl rfl fun b16 w31 hx22 hg11 hb91 => ?_
                have k129 := k124.tr hx22
                have k130 := k125.tr hx22
                have k131 := k126.tr hx22
                have k132 := k127.tr hx22
                have k133 := k128.tr hx22
                have k134 := hx21.tr hx22
                have zs4 := Nat.le_trans zs2 hx22.size
                have zs5 := Nat.le_trans zs3 hx22.size
                have hb92 := hb88.ext hx22
                have r213 := r206.ext hx22
                have r214 := r207.ext hx22
                have r215 := r208.ext hx22
                have r216 := r209.ext hx22
                have hb93 := hb89.ext hx22
                have r217 := r210.ext hx22
                have B2 := B1.ext hx22
                have O2 := O1.ext hx22
                have hb94 := hb90.ext hx22
                have r218 := r211.ext hx22
                have r219 := r212.ext hx22
                have o2 : Row (α := Int) 3 w30.heap.size w31 (.slice (some ⟨b16, 0, none⟩) 1 1) [y1] := Row.lit hg11 hb91 rfl (ble rfl)
                have hz := bs hB5; obtain ⟨x17, Ex17, hB5⟩ := hz
                refine sapx (l := y2.2.1) (k := ([y1] : List Int)) rfl rfl Try.underlying22 ti3 rfl rfl O2 (RV.els o2.rv) Ex17 zs4 fun v16 w32 o3 hB7 hgr1 how1 => ?_
                have k135 := Ext.grow k129 k115.size hB7
                have k136 := Ext.grow k130 k116.size hB7
                have k137 := Ext.grow k131 k117.size hB7
                have k138 := Ext.grow k132 k118.size hB7
                have k139 := Ext.grow k133 k119.size hB7
                have X1 := Apart.app how1 X0_i1 r218.own_lt
                have zs6 := Nat.le_trans zs4 hgr1.size
                have zs7 := Nat.le_trans zs5 hgr1.size
                have hb95 := hb20.ext k139
                have r221 := r80.ext k139
                have r222 := r81.ext k139
                have r223 := r82.ext k139
                have r224 := r83.ext k139
                have hb96 := hb21.ext k139
                have r225 := r84.ext k139
                have ne1 := ne_app how1 N17c1_i1 B2.lt
                have hb97 := Bx.gr B2 hgr1 N17c1_i1
                have ne2 := ne_app how1 (O2.ne_old hb84.lt) hb94.lt
                have hb98 := Bx.gr hb94 hgr1 (O2.ne_old hb84.lt)
                have r226 := r85.ext k139
                have r227 := r86.ext k139
                have hz := RV.sl o3.rv; obtain ⟨a11, cq11, rfl, -, -, -⟩ := hz
                refine vl rfl rfl (xfa l17_i1 fa26_1) <| sst rfl rfl rfl ti22 hb97 rfl rfl (ble rfl) fun w33 hch8 hb99 => ?_
                have k140 := Ext.chg k135 hch8 (Nat.le_trans k29.size hg9)
                have k141 := Ext.chg k136 hch8 (Nat.le_trans k30.size hg9)
                have k142 := Ext.chg k137 hch8 (Nat.le_trans k31.size hg9)
                have k143 := Ext.chg k138 hch8 (Nat.le_trans k32.size hg9)
                have k144 := Ext.chg k139 hch8 (Nat.le_trans (Nat.le_refl _) hg9)
                have zs8 := Nat.le_trans zs6 (Nat.le_of_eq hch8.size.symm)
                have zs9 := Nat.le_trans zs7 (Nat.le_of_eq hch8.size.symm)
                have hb100 := hb20.ext k144
                have r228 := r80.ext k144
                have r229 := r81.ext k144
                have r230 := r82.ext k144
                have r231 := r83.ext k144
                have hb101 := hb21.ext k144
                have r232 := r84.ext k144
                have hb102 := Bx.chg hb98 hch8 (Ne.symm (ptr_ne N17_18_j1))
                have r233 := r85.ext k144
                have r234 := r86.ext k144
                have o4 := Row.chgn o3 hch8 ne1
                have hb103 : Bx w33 b14 26 [.int .i64 y2.1, .slice a11 x17.length cq11, .slice a2 x0.2.2.1.length cq2, .slice a3 x0.2.2.2.1.length cq3, .slice a4 x0.2.2.2.2.length cq4] := hb99
                refine nl <| ?_
                cases hB5
                refine lf <| ?_
                exact ⟨_, hb103, o4, ne1, hb102, X1, l5_i1, l9_i1, l11_i1, l13_i1, l17_i1, l18_i1, l19_i1, l20_i1, zs8, zs9, k144⟩
              ·
                have hB5 := ifn hB5 h9
                refine wp_skip <| ?_
                cases hB5
                refine lf <| ?_
                exact ⟨_, B1, O1, N17c1_i1, hb90, X0_i1, l5_i1, l9_i1, l11_i1, l13_i1, l17_i1, l18_i1, l19_i1, l20_i1, zs2, zs3, k128⟩
            rintro L w34 ⟨v15, B17_j2, O17c1_j2, N17c1_j2, B18_j2, X0_j2, l5_j2, l9_j2, l11_j2, l13_j2, l17_j2, l18_j2, l19_j2, l20_j2, Z0_j2, Z1_j2, K0_j2⟩
            have k145 := k29.tr K0_j2
            have k146 := k30.tr K0_j2
            have k147 := k31.tr K0_j2
            have k148 := k32.tr K0_j2
            have r235 := r80.ext K0_j2
            have r236 := r81.ext K0_j2
            have r237 := r82.ext K0_j2
            have r238 := r83.ext K0_j2
            have hb104 := hb20.ext K0_j2
            have r239 := r84.ext K0_j2
            have hb105 := hb21.ext K0_j2
            have r240 := r85.ext K0_j2
            have r241 := r86.ext K0_j2
            have hz := RV.sl O17c1_j2.rv; obtain ⟨a12, cq12, rfl, -, -, -⟩ := hz
            cases hB4
            refine lf <| ?_
            exact ⟨_, B17_j2, O17c1_j2, N17c1_j2, B18_j2, X0_j2, l5_j2, l9_j2, l11_j2, l13_j2, l17_j2, l18_j2, l19_j2, l20_j2, Z0_j2, Z1_j2, K0_j2⟩
          rintro L w35 ⟨v13, B17_j3, O17c1_j3, N17c1_j3, B18_j3, X0_j3, l5_j3, l9_j3, l11_j3, l13_j3, l17_j3, l18_j3, l19_j3, l20_j3, Z0_j3, Z1_j3, K0_j3⟩
          have k149 := k29.tr K0_j3
          have k150 := k30.tr K0_j3
          have k151 := k31.tr K0_j3
          have k152 := k32.tr K0_j3
          have r242 := r80.ext K0_j3
          have r243 := r81.ext K0_j3
          have r244 := r82.ext K0_j3
          have r245 := r83.ext K0_j3
          have hb106 := hb20.ext K0_j3
          have r246 := r84.ext K0_j3
          have hb107 := hb21.ext K0_j3
          have r247 := r85.ext K0_j3
          have r248 := r86.ext K0_j3
          have hz := RV.sl O17c1_j3.rv; obtain ⟨a13, cq13, rfl, -, -, -⟩ := hz
          refine rg <| vl rfl rfl xmv <| vl rfl rfl (xadd l20_j3 rfl) <| vl rfl rfl xas <| nl <| ?_
          refine lq m (Nat.lt_succ_self _) <| ?_
          exact ⟨_, _, _, hB2, rfl, B17_j3, O17c1_j3, N17c1_j3, B18_j3, X0_j3, l5_j3, l9_j3, l11_j3, l13_j3, l17_j3, l18_j3, l19_j3, Z0_j3, Z1_j3, K0_j3⟩
        ·
          have hB2 := ifn hB2 h8
          refine wp_exit <| ?_
          cases hB2
          refine lf <| ?_
          exact ⟨_, B17_i1, O17c1_i1, N17c1_i1, B18_i1, X0_i1, l5_i1, l9_i1, l11_i1, l13_i1, l17_i1, l18_i1, Z0_i1, Z1_i1, K0_i1⟩
      rintro L w36 ⟨v12, B17_j4, O17c1_j4, N17c1_j4, B18_j4, X0_j4, l5_j4, l9_j4, l11_j4, l13_j4, l17_j4, l18_j4, Z0_j4, Z1_j4, K0_j4⟩
      have k153 := k29.tr K0_j4
      have k154 := k30.tr K0_j4
      have k155 := k31.tr K0_j4
      have k156 := k32.tr K0_j4
      have r249 := r80.ext K0_j4
      have r250 := r81.ext K0_j4
      have r251 := r82.ext K0_j4
      have r252 := r83.ext K0_j4
      have hb108 := hb20.ext K0_j4
      have r253 := r84.ext K0_j4
      have hb109 := hb21.ext K0_j4
      have r254 := r85.ext K0_j4
      have r255 := r86.ext K0_j4
      have hz := RV.sl O17c1_j4.rv; obtain ⟨a14, cq14, rfl, -, -, -⟩ := hz
      refine wp_seq <| ?_
      have hz := bs hF; obtain ⟨y5, hB10, hF⟩ := hz
      refine ct (fun L w => ∃ v17 : Value, Bx w b14 26 [.int .i64 z1.1, .slice a14 z1.2.1.length cq14, .slice a2 x0.2.2.1.length cq2, .slice a3 x0.2.2.2.1.length cq3, .slice a4 x0.2.2.2.2.length cq4] ∧ Row 3 w28.heap.size w (.slice a14 z1.2.1.length cq14) z1.2.1 ∧ Bx w b15 26 [.int .i64 y5.1, .slice a1 x0.2.1.length cq1, v17, .slice a3 x0.2.2.2.1.length cq3, .slice a4 x0.2.2.2.2.length cq4] ∧ RV w v17 y5.2.2.1 ∧ L 5 = .pointer (some ⟨b6, 0, none⟩) ∧ L 11 = .slice a6 x8.length cq6 ∧ L 13 = .slice a8 x10.1.length cq8 ∧ L 17 = .pointer (some ⟨b14, 0, none⟩) ∧ L 18 = .pointer (some ⟨b15, 0, none⟩) ∧ w28.heap.size ≤ w.heap.size ∧ w5.heap.size ≤ w.heap.size ∧ Ext w12 w) ?_ ?_
      ·
        have hz := bs hB10; obtain ⟨x18, Ex18, hB10⟩ := hz
        have hz := bs hB10; obtain ⟨x19, Ex19, hB10⟩ := hz
        refine wpl [8] (.pure true 1 (.pure false 2 (.pure false 4 (.eff 0 (.eff 3 (.eff 5 (.eff 6 (.pure true 7 (.eff 8 .fin .stop)) .stop) .stop) (.eff 5 (.eff 3 (.eff 6 (.pure true 7 (.eff 8 .fin .stop)) .stop) .stop) .stop)) (.eff 5 (.eff 0 (.eff 3 (.eff 6 (.pure true 7 (.eff 8 .fin .stop)) .stop) .stop) .stop) .stop))))) mixed (by kernel_rfl) (fun w43 hx26 => ?_)
        have k194 := k153.tr hx26
        have k195 := k154.tr hx26
        have k196 := k155.tr hx26
        have k197 := k156.tr hx26
        have k198 := K0_j4.tr hx26
        have zs22 := Nat.le_trans Z0_j4 hx26.size
        have zs23 := Nat.le_trans Z1_j4 hx26.size
        have hb127 := hb108.ext hx26
        have r298 := r249.ext hx26
        have r299 := r250.ext hx26
        have r300 := r251.ext hx26
        have r301 := r252.ext hx26
        have hb128 := hb109.ext hx26
        have r302 := r253.ext hx26
        have B8 := B17_j4.ext hx26
        have O8 := O17c1_j4.ext hx26
        have hb129 := B18_j4.ext hx26
        have r303 := r254.ext hx26
        have r304 := r255.ext hx26
        refine pv rfl rfl rfl (fun _ _ => xfa l5_j4 fa26_2) (.inl rfl) <| pv rfl rfl rfl (fun _ hS => xld rfl ti23 ((Bx.cs (hb127.ext (hS.resolve_left nofun))).at 2 rfl)) (.inr (Ext.refl _)) <| pv rfl rfl rfl (fun _ hS => xlda l9_j4 ti54 rfl (Bx.cs (hb128.ext (hS.resolve_left nofun)))) (.inr (Ext.refl _)) <| ?_
        refine pe rfl ?_ ?_
        ·
          refine sbsv (cs := []) Try.underlying23 ti54 rfl pn rfl rfl rfl rfl rfl fun b19 w44 hx27 hg14 hb130 => ?_
          have k199 := k194.tr hx27
          have k200 := k195.tr hx27
          have k201 := k196.tr hx27
          have k202 := k197.tr hx27
          have k203 := k198.tr hx27
          have k204 := hx26.tr hx27
          have zs24 := Nat.le_trans zs22 hx27.size
          have zs25 := Nat.le_trans zs23 hx27.size
          have hb131 := hb127.ext hx27
          have r306 := r298.ext hx27
          have r307 := r299.ext hx27
          have r308 := r300.ext hx27
          have r309 := r301.ext hx27
          have B9 := B8.ext hx27
          have O9 := O8.ext hx27
          have hb132 := hb129.ext hx27
          have r310 := r303.ext hx27
          have r311 := r304.ext hx27
          have r312 := r302.ext hx27
          have r305 : RV w44 (.slice (some ⟨b19, 0, none⟩) 0 0) ([] : List ((List Int) × Int)) := RV.lit hb130 (css := []) rfl trivial rfl (ble rfl)
          have o11 : DRow (α := ((List Int) × Int)) w0.heap.size 54 w43.heap.size w44 (.slice (some ⟨b19, 0, none⟩) 0 0) [] := ⟨[], Row.lit hg14 hb130 rfl (ble rfl), rfl, by simp⟩
          refine nl ⟨fun _ _ => hx27, ?_⟩
          refine pe rfl ?_ ?_
          ·
            refine sapd (l := ([] : List ((List Int) × Int))) (k := x0.2.2.1) rfl rfl Try.underlying23 ti54 rfl rfl o11 (ElsD.of (RVo.oko (RVo.ext (RV.old (w := w0) r7) k199) (o11.geo k194.size))) Ex18 hx27.size fun v20 w45 o12 hB13 hgr4 how4 => ?_
            have k205 := Ext.grow k199 k194.size hB13
            have k206 := Ext.grow k200 k195.size hB13
            have k207 := Ext.grow k201 k196.size hB13
            have k208 := Ext.grow k202 k197.size hB13
            have k209 := Ext.grow k203 k198.size hB13
            have k210 := Ext.grow k204 hx26.size hB13
            have k211 : Ext w43 w45 := hx27.trans hB13
            have X6 := Apart.app how4 (Apart.symm (Apart.old' O8.own_lt (fun q e => (o11.lt q e).1))) O9.own_lt
            have X7 := Apart.app how4 (Apart.symm (Apart.old' r303.own_lt (fun q e => (o11.lt q e).1))) r310.own_lt
            have zs26 := Nat.le_trans zs24 hgr4.size
            have zs27 := Nat.le_trans zs25 hgr4.size
            have hb133 := hb127.ext k211
            have r313 := r298.ext k211
            have r314 := r299.ext k211
            have r315 := r300.ext k211
            have r316 := r301.ext k211
            have B10 := B8.ext k211
            have O10 := O8.ext k211
            have hb134 := hb129.ext k211
            have r317 := r303.ext k211
            have r318 := r304.ext k211
            have r319 := r302.ext k211
            have hz := RV.sl o12.rv; obtain ⟨a17, cq17, rfl, -, -, -⟩ := hz
            refine nl ⟨fun _ _ => k211, ?_⟩
            refine pe1 rfl <| sbsv (cs := [.slice a5 x4.1.length cq5, .int .i64 x4.2]) Try.underlying23 ti54 rfl (pc rfl pn) rfl rfl rfl rfl rfl fun b20 w46 hx28 hg15 hb135 => ?_
            have k212 := k205.tr hx28
            have k213 := k206.tr hx28
            have k214 := k207.tr hx28
            have k215 := k208.tr hx28
            have k216 := k209.tr hx28
            have k217 := k210.tr hx28
            have k218 := k211.tr hx28
            have zs28 := Nat.le_trans zs26 hx28.size
            have zs29 := Nat.le_trans zs27 hx28.size
            have hb136 := hb133.ext hx28
            have r321 := r313.ext hx28
            have r322 := r314.ext hx28
            have r323 := r315.ext hx28
            have r324 := r316.ext hx28
            have B11 := B10.ext hx28
            have O11 := O10.ext hx28
            have hb137 := hb134.ext hx28
            have r325 := r317.ext hx28
            have r326 := r318.ext hx28
            have o13 := o12.ext hx28
            have r327 := r319.ext hx28
            have r320 : RV w46 (.slice (some ⟨b20, 0, none⟩) 1 1) ([(x4.1, x4.2)] : List ((List Int) × Int)) := RV.lit hb135 (css := [[.slice a5 x4.1.length cq5] ++ [.int .i64 x4.2]]) rfl ⟨⟨[.slice a5 x4.1.length cq5], [.int .i64 x4.2], rfl, r327.rep1, rfl⟩, trivial⟩ rfl (ble rfl)
            refine nl ⟨fun _ _ => k218, ?_⟩
            refine pe1 rfl <| sapd (l := x18) (k := ([(x4.1, x4.2)] : List ((List Int) × Int))) rfl rfl Try.underlying23 ti54 rfl rfl o13 (ElsD.lit1 hb135 ⟨[.slice a5 x4.1.length cq5], [.int .i64 x4.2], rfl, (RVo.rep1 (RVo.oko (RVo.ext (RV.old (w := w0) r10) k212) (o13.geo k194.size))), rfl⟩) Ex19 k218.size fun v21 w47 o14 hB14 hgr5 how5 => ?_
            have k219 := Ext.grow k212 k194.size hB14
            have k220 := Ext.grow k213 k195.size hB14
            have k221 := Ext.grow k214 k196.size hB14
            have k222 := Ext.grow k215 k197.size hB14
            have k223 := Ext.grow k216 k198.size hB14
            have k224 := Ext.grow k217 hx26.size hB14
            have k225 : Ext w43 w47 := k218.trans hB14
            have X8 := Apart.app how5 X6 O11.own_lt
            have X9 := Apart.app how5 X7 r325.own_lt
            have zs30 := Nat.le_trans zs28 hgr5.size
            have zs31 := Nat.le_trans zs29 hgr5.size
            have hb138 := hb127.ext k225
            have r328 := r298.ext k225
            have r329 := r299.ext k225
            have r330 := r300.ext k225
            have r331 := r301.ext k225
            have B12 := B8.ext k225
            have O12 := O8.ext k225
            have hb139 := hb129.ext k225
            have r332 := r303.ext k225
            have r333 := r304.ext k225
            have hz := RV.sl o14.rv; obtain ⟨a18, cq18, rfl, -, -, -⟩ := hz
            refine nl ⟨fun _ _ => k225, ?_⟩
            refine pv rfl rfl rfl (fun _ _ => xfa l18_j4 fa26_2) (.inl rfl) <| pe1 rfl <| sst rfl rfl rfl ti23 hb139 rfl rfl (ble rfl) fun w48 hch10 hb140 => ?_
            have k226 := Ext.chg k219 hch10 (Nat.le_trans k29.size hg10)
            have k227 := Ext.chg k220 hch10 (Nat.le_trans k30.size hg10)
            have k228 := Ext.chg k221 hch10 (Nat.le_trans k31.size hg10)
            have k229 := Ext.chg k222 hch10 (Nat.le_trans k32.size hg10)
            have k230 := Ext.chg k223 hch10 (Nat.le_trans (Nat.le_refl _) hg10)
            have zs32 := Nat.le_trans zs30 (Nat.le_of_eq hch10.size.symm)
            have zs33 := Nat.le_trans zs31 (Nat.le_of_eq hch10.size.symm)
            have hb141 := hb20.ext k230
            have r334 := r80.ext k230
            have r335 := r81.ext k230
            have r336 := r82.ext k230
            have r337 := r83.ext k230
            have hb142 := Bx.chg B12 hch10 (ptr_ne N17_18_j1)
            have o15 := Row.chg O12 hch10 hb84.lt
            have r338 := r85.ext k230
            have r339 := r86.ext k230
            have o16 := o14.chgo hch10 (Nat.le_trans k29.size hg10) (Nat.lt_of_lt_of_le B18_j4.lt hx26.size)
            have hb143 : Bx w48 b15 26 [.int .i64 x0.1, .slice a1 x0.2.1.length cq1, .slice a18 x19.length cq18, .slice a3 x0.2.2.2.1.length cq3, .slice a4 x0.2.2.2.2.length cq4] := hb140
            refine nl ⟨fun h => (h (by decide)).elim, ?_⟩
            cases hB10
            refine lf <| ?_
            exact ⟨_, hb142, o15, hb143, o16.rv, l5_j4, l11_j4, l13_j4, l17_j4, l18_j4, zs32, zs33, k230⟩
          refine pm rfl ?_ ?_
          ·
            refine sbsv (cs := [.slice a5 x4.1.length cq5, .int .i64 x4.2]) Try.underlying23 ti54 rfl (pc rfl pn) rfl rfl rfl rfl rfl fun b21 w49 hx29 hg16 hb144 => ?_
            have k231 := k199.tr hx29
            have k232 := k200.tr hx29
            have k233 := k201.tr hx29
            have k234 := k202.tr hx29
            have k235 := k203.tr hx29
            have k236 := k204.tr hx29
            have k237 := hx27.tr hx29
            have zs34 := Nat.le_trans zs24 hx29.size
            have zs35 := Nat.le_trans zs25 hx29.size
            have hb145 := hb131.ext hx29
            have r341 := r306.ext hx29
            have r342 := r307.ext hx29
            have r343 := r308.ext hx29
            have r344 := r309.ext hx29
            have B13 := B9.ext hx29
            have O13 := O9.ext hx29
            have hb146 := hb132.ext hx29
            have r345 := r310.ext hx29
            have r346 := r311.ext hx29
            have o17 := o11.ext hx29
            have r347 := r312.ext hx29
            have r340 : RV w49 (.slice (some ⟨b21, 0, none⟩) 1 1) ([(x4.1, x4.2)] : List ((List Int) × Int)) := RV.lit hb144 (css := [[.slice a5 x4.1.length cq5] ++ [.int .i64 x4.2]]) rfl ⟨⟨[.slice a5 x4.1.length cq5], [.int .i64 x4.2], rfl, r347.rep1, rfl⟩, trivial⟩ rfl (ble rfl)
            refine nl ⟨fun _ _ => k237, ?_⟩
            refine pe1 rfl <| sapd (l := ([] : List ((List Int) × Int))) (k := x0.2.2.1) rfl rfl Try.underlying23 ti54 rfl rfl o17 (ElsD.of (RVo.oko (RVo.ext (RV.old (w := w0) r7) k231) (o17.geo k194.size))) Ex18 k237.size fun v22 w50 o18 hB15 hgr6 how6 => ?_
            have k238 := Ext.grow k231 k194.size hB15
            have k239 := Ext.grow k232 k195.size hB15
            have k240 := Ext.grow k233 k196.size hB15
            have k241 := Ext.grow k234 k197.size hB15
            have k242 := Ext.grow k235 k198.size hB15
            have k243 := Ext.grow k236 hx26.size hB15
            have k244 : Ext w43 w50 := k237.trans hB15
            have X10 := Apart.app how6 (Apart.symm (Apart.old' O8.own_lt (fun q e => (o17.lt q e).1))) O13.own_lt
            have X11 := Apart.app how6 (Apart.symm (Apart.old' r303.own_lt (fun q e => (o17.lt q e).1))) r345.own_lt
            have zs36 := Nat.le_trans zs34 hgr6.size
            have zs37 := Nat.le_trans zs35 hgr6.size
            have hb147 := hb127.ext k244
            have r348 := r298.ext k244
            have r349 := r299.ext k244
            have r350 := r300.ext k244
            have r351 := r301.ext k244
            have B14 := B8.ext k244
            have O14 := O8.ext k244
            have hb148 := hb129.ext k244
            have r352 := r303.ext k244
            have r353 := r304.ext k244
            have hb149 := Bx.gr hb144 hgr6 (o11.ne_new hg16)
            have r354 := r302.ext k244
            have r355 : RV w50 (.slice (some ⟨b21, 0, none⟩) 1 1) ([(x4.1, x4.2)] : List ((List Int) × Int)) := RV.lit hb149 (css := [[.slice a5 x4.1.length cq5] ++ [.int .i64 x4.2]]) rfl ⟨⟨[.slice a5 x4.1.length cq5], [.int .i64 x4.2], rfl, r354.rep1, rfl⟩, trivial⟩ rfl (ble rfl)
            have hz := RV.sl o18.rv; obtain ⟨a19, cq19, rfl, -, -, -⟩ := hz
            refine nl ⟨fun _ _ => k244, ?_⟩
            refine pe1 rfl <| sapd (l := x18) (k := ([(x4.1, x4.2)] : List ((List Int) × Int))) rfl rfl Try.underlying23 ti54 rfl rfl o18 (ElsD.lit1 hb149 ⟨[.slice a5 x4.1.length cq5], [.int .i64 x4.2], rfl, (RVo.rep1 (RVo.oko (RVo.ext (RV.old (w := w0) r10) k238) (o18.geo k194.size))), rfl⟩) Ex19 k244.size fun v23 w51 o19 hB16 hgr7 how7 => ?_
            have k245 := Ext.grow k238 k194.size hB16
            have k246 := Ext.grow k239 k195.size hB16
            have k247 := Ext.grow k240 k196.size hB16
            have k248 := Ext.grow k241 k197.size hB16
            have k249 := Ext.grow k242 k198.size hB16
            have k250 := Ext.grow k243 hx26.size hB16
            have k251 : Ext w43 w51 := k244.trans hB16
            have X12 := Apart.app how7 X10 O14.own_lt
            have X13 := Apart.app how7 X11 r352.own_lt
            have zs38 := Nat.le_trans zs36 hgr7.size
            have zs39 := Nat.le_trans zs37 hgr7.size
            have hb150 := hb127.ext k251
            have r356 := r298.ext k251
            have r357 := r299.ext k251
            have r358 := r300.ext k251
            have r359 := r301.ext k251
            have B15 := B8.ext k251
            have O15 := O8.ext k251
            have hb151 := hb129.ext k251
            have r360 := r303.ext k251
            have r361 := r304.ext k251
            have hz := RV.sl o19.rv; obtain ⟨a20, cq20, rfl, -, -, -⟩ := hz
            refine nl ⟨fun _ _ => k251, ?_⟩
            refine pv rfl rfl rfl (fun _ _ => xfa l18_j4 fa26_2) (.inl rfl) <| pe1 rfl <| sst rfl rfl rfl ti23 hb151 rfl rfl (ble rfl) fun w52 hch11 hb152 => ?_
            have k252 := Ext.chg k245 hch11 (Nat.le_trans k29.size hg10)
            have k253 := Ext.chg k246 hch11 (Nat.le_trans k30.size hg10)
            have k254 := Ext.chg k247 hch11 (Nat.le_trans k31.size hg10)
            have k255 := Ext.chg k248 hch11 (Nat.le_trans k32.size hg10)
            have k256 := Ext.chg k249 hch11 (Nat.le_trans (Nat.le_refl _) hg10)
            have zs40 := Nat.le_trans zs38 (Nat.le_of_eq hch11.size.symm)
            have zs41 := Nat.le_trans zs39 (Nat.le_of_eq hch11.size.symm)
            have hb153 := hb20.ext k256
            have r362 := r80.ext k256
            have r363 := r81.ext k256
            have r364 := r82.ext k256
            have r365 := r83.ext k256
            have hb154 := Bx.chg B15 hch11 (ptr_ne N17_18_j1)
            have o20 := Row.chg O15 hch11 hb84.lt
            have r366 := r85.ext k256
            have r367 := r86.ext k256
            have o21 := o19.chgo hch11 (Nat.le_trans k29.size hg10) (Nat.lt_of_lt_of_le B18_j4.lt hx26.size)
            have hb155 : Bx w52 b15 26 [.int .i64 x0.1, .slice a1 x0.2.1.length cq1, .slice a20 x19.length cq20, .slice a3 x0.2.2.2.1.length cq3, .slice a4 x0.2.2.2.2.length cq4] := hb152
            refine nl ⟨fun h => (h (by decide)).elim, ?_⟩
            cases hB10
            refine lf <| ?_
            exact ⟨_, hb154, o20, hb155, o21.rv, l5_j4, l11_j4, l13_j4, l17_j4, l18_j4, zs40, zs41, k256⟩
          trivial
        refine pm rfl ?_ ?_
        ·
          refine sbsv (cs := [.slice a5 x4.1.length cq5, .int .i64 x4.2]) Try.underlying23 ti54 rfl (pc rfl pn) rfl rfl rfl rfl rfl fun b22 w53 hx30 hg17 hb156 => ?_
          have k257 := k194.tr hx30
          have k258 := k195.tr hx30
          have k259 := k196.tr hx30
          have k260 := k197.tr hx30
          have k261 := k198.tr hx30
          have k262 := hx26.tr hx30
          have zs42 := Nat.le_trans zs22 hx30.size
          have zs43 := Nat.le_trans zs23 hx30.size
          have hb157 := hb127.ext hx30
          have r369 := r298.ext hx30
          have r370 := r299.ext hx30
          have r371 := r300.ext hx30
          have r372 := r301.ext hx30
          have B16 := B8.ext hx30
          have O16 := O8.ext hx30
          have hb158 := hb129.ext hx30
          have r373 := r303.ext hx30
          have r374 := r304.ext hx30
          have r375 := r302.ext hx30
          have r368 : RV w53 (.slice (some ⟨b22, 0, none⟩) 1 1) ([(x4.1, x4.2)] : List ((List Int) × Int)) := RV.lit hb156 (css := [[.slice a5 x4.1.length cq5] ++ [.int .i64 x4.2]]) rfl ⟨⟨[.slice a5 x4.1.length cq5], [.int .i64 x4.2], rfl, r375.rep1, rfl⟩, trivial⟩ rfl (ble rfl)
          refine nl ⟨fun _ _ => hx30, ?_⟩
          refine pe1 rfl <| sbsv (cs := []) Try.underlying23 ti54 rfl pn rfl rfl rfl rfl rfl fun b23 w54 hx31 hg18 hb159 => ?_
          have k263 := k257.tr hx31
          have k264 := k258.tr hx31
          have k265 := k259.tr hx31
          have k266 := k260.tr hx31
          have k267 := k261.tr hx31
          have k268 := k262.tr hx31
          have k269 := hx30.tr hx31
          have zs44 := Nat.le_trans zs42 hx31.size
          have zs45 := Nat.le_trans zs43 hx31.size
          have hb160 := hb157.ext hx31
          have r377 := r369.ext hx31
          have r378 := r370.ext hx31
          have r379 := r371.ext hx31
          have r380 := r372.ext hx31
          have B17 := B16.ext hx31
          have O17 := O16.ext hx31
          have hb161 := hb158.ext hx31
          have r381 := r373.ext hx31
          have r382 := r374.ext hx31
          have r383 := r368.ext hx31
          have hb162 := hb156.ext hx31
          have r384 := r375.ext hx31
          have r376 : RV w54 (.slice (some ⟨b23, 0, none⟩) 0 0) ([] : List ((List Int) × Int)) := RV.lit hb159 (css := []) rfl trivial rfl (ble rfl)
          have o22 : DRow (α := ((List Int) × Int)) w0.heap.size 54 w53.heap.size w54 (.slice (some ⟨b23, 0, none⟩) 0 0) [] := ⟨[], Row.lit hg18 hb159 rfl (ble rfl), rfl, by simp⟩
          refine nl ⟨fun _ _ => k269, ?_⟩
          refine pe1 rfl <| sapd (l := ([] : List ((List Int) × Int))) (k := x0.2.2.1) rfl rfl Try.underlying23 ti54 rfl rfl o22 (ElsD.of (RVo.oko (RVo.ext (RV.old (w := w0) r7) k263) (o22.geo k257.size))) Ex18 hx31.size fun v24 w55 o23 hB17 hgr8 how8 => ?_
          have k270 := Ext.grow k263 k257.size hB17
          have k271 := Ext.grow k264 k258.size hB17
          have k272 := Ext.grow k265 k259.size hB17
          have k273 := Ext.grow k266 k260.size hB17
          have k274 := Ext.grow k267 k261.size hB17
          have k275 := Ext.grow k268 k262.size hB17
          have k276 := Ext.grow k269 hx30.size hB17
          have k277 : Ext w53 w55 := hx31.trans hB17
          have X14 := Apart.app how8 (Apart.symm (Apart.old' O16.own_lt (fun q e => (o22.lt q e).1))) O17.own_lt
          have X15 := Apart.app how8 (Apart.symm (Apart.old' r373.own_lt (fun q e => (o22.lt q e).1))) r381.own_lt
          have zs46 := Nat.le_trans zs44 hgr8.size
          have zs47 := Nat.le_trans zs45 hgr8.size
          have hb163 := hb157.ext k277
          have r385 := r369.ext k277
          have r386 := r370.ext k277
          have r387 := r371.ext k277
          have r388 := r372.ext k277
          have B18 := B16.ext k277
          have O18 := O16.ext k277
          have hb164 := hb158.ext k277
          have r389 := r373.ext k277
          have r390 := r374.ext k277
          have r391 := r368.ext k277
          have hb165 := hb156.ext k277
          have r392 := r375.ext k277
          have hz := RV.sl o23.rv; obtain ⟨a21, cq21, rfl, -, -, -⟩ := hz
          refine nl ⟨fun _ _ => k276, ?_⟩
          refine pe1 rfl <| sapd (l := x18) (k := ([(x4.1, x4.2)] : List ((List Int) × Int))) rfl rfl Try.underlying23 ti54 rfl rfl o23 (ElsD.lit1 hb165 ⟨[.slice a5 x4.1.length cq5], [.int .i64 x4.2], rfl, (RVo.rep1 (RVo.oko (RVo.ext (RV.old (w := w0) r10) k270) (o23.geo k257.size))), rfl⟩) Ex19 k277.size fun v25 w56 o24 hB18 hgr9 how9 => ?_
          have k278 := Ext.grow k270 k257.size hB18
          have k279 := Ext.grow k271 k258.size hB18
          have k280 := Ext.grow k272 k259.size hB18
          have k281 := Ext.grow k273 k260.size hB18
          have k282 := Ext.grow k274 k261.size hB18
          have k283 := Ext.grow k275 k262.size hB18
          have k284 := Ext.grow k276 hx30.size hB18
          have k285 : Ext w53 w56 := k277.trans hB18
          have X16 := Apart.app how9 X14 O18.own_lt
          have X17 := Apart.app how9 X15 r389.own_lt
          have zs48 := Nat.le_trans zs46 hgr9.size
          have zs49 := Nat.le_trans zs47 hgr9.size
          have hb166 := hb157.ext k285
          have r393 := r369.ext k285
          have r394 := r370.ext k285
          have r395 := r371.ext k285
          have r396 := r372.ext k285
          have B19 := B16.ext k285
          have O19 := O16.ext k285
          have hb167 := hb158.ext k285
          have r397 := r373.ext k285
          have r398 := r374.ext k285
          have hz := RV.sl o24.rv; obtain ⟨a22, cq22, rfl, -, -, -⟩ := hz
          refine nl ⟨fun _ _ => k284, ?_⟩
          refine pv rfl rfl rfl (fun _ _ => xfa l18_j4 fa26_2) (.inl rfl) <| pe1 rfl <| sst rfl rfl rfl ti23 hb167 rfl rfl (ble rfl) fun w57 hch12 hb168 => ?_
          have k286 := Ext.chg k278 hch12 (Nat.le_trans k29.size hg10)
          have k287 := Ext.chg k279 hch12 (Nat.le_trans k30.size hg10)
          have k288 := Ext.chg k280 hch12 (Nat.le_trans k31.size hg10)
          have k289 := Ext.chg k281 hch12 (Nat.le_trans k32.size hg10)
          have k290 := Ext.chg k282 hch12 (Nat.le_trans (Nat.le_refl _) hg10)
          have zs50 := Nat.le_trans zs48 (Nat.le_of_eq hch12.size.symm)
          have zs51 := Nat.le_trans zs49 (Nat.le_of_eq hch12.size.symm)
          have hb169 := hb20.ext k290
          have r399 := r80.ext k290
          have r400 := r81.ext k290
          have r401 := r82.ext k290
          have r402 := r83.ext k290
          have hb170 := Bx.chg B19 hch12 (ptr_ne N17_18_j1)
          have o25 := Row.chg O19 hch12 hb84.lt
          have r403 := r85.ext k290
          have r404 := r86.ext k290
          have o26 := o24.chgo hch12 (Nat.le_trans k29.size hg10) (Nat.lt_of_lt_of_le B18_j4.lt k262.size)
          have hb171 : Bx w57 b15 26 [.int .i64 x0.1, .slice a1 x0.2.1.length cq1, .slice a22 x19.length cq22, .slice a3 x0.2.2.2.1.length cq3, .slice a4 x0.2.2.2.2.length cq4] := hb168
          refine nl ⟨fun h => (h (by decide)).elim, ?_⟩
          cases hB10
          refine lf <| ?_
          exact ⟨_, hb170, o25, hb171, o26.rv, l5_j4, l11_j4, l13_j4, l17_j4, l18_j4, zs50, zs51, k290⟩
        trivial
      rintro L w58 ⟨v17, B17_j5, F17c1_j5, B18_j5, R18c1_j5, l5_j5, l11_j5, l13_j5, l17_j5, l18_j5, Z0_j5, Z1_j5, K0_j5⟩
      have k291 := k29.tr K0_j5
      have k292 := k30.tr K0_j5
      have k293 := k31.tr K0_j5
      have k294 := k32.tr K0_j5
      have r405 := r80.ext K0_j5
      have r406 := r81.ext K0_j5
      have r407 := r82.ext K0_j5
      have r408 := r83.ext K0_j5
      have hb172 := hb20.ext K0_j5
      have r409 := r85.ext K0_j5
      have r410 := r86.ext K0_j5
      have hz := RV.sl R18c1_j5; obtain ⟨a23, cq23, rfl, -, -, -⟩ := hz
      refine wp_seq <| rg <| vl rfl rfl (xlda l17_j5 ti26 rfl (Bx.cs B17_j5)) <| vl rfl rfl (xlda l18_j5 ti26 rfl (Bx.cs B18_j5)) <| sbsv (cs := [.int .i64 z1.1, .slice a14 z1.2.1.length cq14, .slice a2 x0.2.2.1.length cq2, .slice a3 x0.2.2.2.1.length cq3, .slice a4 x0.2.2.2.2.length cq4, .int .i64 y5.1, .slice a1 x0.2.1.length cq1, .slice a23 y5.2.2.1.length cq23, .slice a3 x0.2.2.2.1.length cq3, .slice a4 x0.2.2.2.2.length cq4]) Try.underlying60 ti26 rfl (pc rfl (pc rfl pn)) rfl rfl rfl rfl rfl fun b24 w59 hx32 hg19 hb173 => ?_
      have k295 := k291.tr hx32
      have k296 := k292.tr hx32
      have k297 := k293.tr hx32
      have k298 := k294.tr hx32
      have k299 := K0_j5.tr hx32
      have zs52 := Nat.le_trans Z0_j5 hx32.size
      have zs53 := Nat.le_trans Z1_j5 hx32.size
      have hb174 := hb172.ext hx32
      have r412 := r405.ext hx32
      have r413 := r406.ext hx32
      have r414 := r407.ext hx32
      have r415 := r408.ext hx32
      have r416 := r409.ext hx32
      have r417 := r410.ext hx32
      have O20 := F17c1_j5.ext hx32
      have R1 := R18c1_j5.ext hx32
      have r411 : RV w59 (.slice (some ⟨b24, 0, none⟩) 2 2) ([(z1.1, z1.2.1, x0.2.2.1, x0.2.2.2.1, x0.2.2.2.2), (y5.1, x0.2.1, y5.2.2.1, x0.2.2.2.1, x0.2.2.2.2)] : List (Int × (List Int) × (List ((List Int) × Int)) × (List ((List Int) × Int)) × (List (List Int)))) := RV.lit hb173 (css := [[.int .i64 z1.1] ++ ([.slice a14 z1.2.1.length cq14] ++ ([.slice a2 x0.2.2.1.length cq2] ++ ([.slice a3 x0.2.2.2.1.length cq3] ++ [.slice a4 x0.2.2.2.2.length cq4]))), [.int .i64 y5.1] ++ ([.slice a1 x0.2.1.length cq1] ++ ([.slice a23 y5.2.2.1.length cq23] ++ ([.slice a3 x0.2.2.2.1.length cq3] ++ [.slice a4 x0.2.2.2.2.length cq4])))]) rfl ⟨⟨[.int .i64 z1.1], [.slice a14 z1.2.1.length cq14] ++ ([.slice a2 x0.2.2.1.length cq2] ++ ([.slice a3 x0.2.2.2.1.length cq3] ++ [.slice a4 x0.2.2.2.2.length cq4])), rfl, rfl, ⟨[.slice a14 z1.2.1.length cq14], [.slice a2 x0.2.2.1.length cq2] ++ ([.slice a3 x0.2.2.2.1.length cq3] ++ [.slice a4 x0.2.2.2.2.length cq4]), rfl, O20.rv.rep1, ⟨[.slice a2 x0.2.2.1.length cq2], [.slice a3 x0.2.2.2.1.length cq3] ++ [.slice a4 x0.2.2.2.2.length cq4], rfl, r413.rep1, ⟨[.slice a3 x0.2.2.2.1.length cq3], [.slice a4 x0.2.2.2.2.length cq4], rfl, r414.rep1, r415.rep1⟩⟩⟩⟩, ⟨[.int .i64 y5.1], [.slice a1 x0.2.1.length cq1] ++ ([.slice a23 y5.2.2.1.length cq23] ++ ([.slice a3 x0.2.2.2.1.length cq3] ++ [.slice a4 x0.2.2.2.2.length cq4])), rfl, rfl, ⟨[.slice a1 x0.2.1.length cq1], [.slice a23 y5.2.2.1.length cq23] ++ ([.slice a3 x0.2.2.2.1.length cq3] ++ [.slice a4 x0.2.2.2.2.length cq4]), rfl, r412.rep1, ⟨[.slice a23 y5.2.2.1.length cq23], [.slice a3 x0.2.2.2.1.length cq3] ++ [.slice a4 x0.2.2.2.2.length cq4], rfl, R1.rep1, ⟨[.slice a3 x0.2.2.2.1.length cq3], [.slice a4 x0.2.2.2.2.length cq4], rfl, r414.rep1, r415.rep1⟩⟩⟩⟩, trivial⟩ rfl (ble rfl)
      refine vl rfl rfl xas <| nl <| wp_seq <| wp_seq <| rg <| vl rfl rfl xas <| nl <| ?_
      have hz := bs hF; obtain ⟨o27, hB19, hF⟩ := hz
      refine ct (fun L w => o27 = .inr () ∧ w28.heap.size ≤ w.heap.size ∧ w5.heap.size ≤ w.heap.size ∧ Ext w59 w) ?_ ?_
      ·
        refine wp_block <| lp (I := fun m L w => ∃ y6 : Int, law10_RightLess_l2 F x0 x8 x10 y5 z1 m y6  = some o27 ∧ L 22 = .int .i64 y6 ∧ L 5 = .pointer (some ⟨b6, 0, none⟩) ∧ L 11 = .slice a6 x8.length cq6 ∧ L 13 = .slice a8 x10.1.length cq8 ∧ L 21 = .slice (some ⟨b24, 0, none⟩) ([(z1.1, z1.2.1, x0.2.2.1, x0.2.2.2.1, x0.2.2.2.2), (y5.1, x0.2.1, y5.2.2.1, x0.2.2.2.1, x0.2.2.2.2)] : List (Int × (List Int) × (List ((List Int) × Int)) × (List ((List Int) × Int)) × (List (List Int)))).length 2 ∧ w28.heap.size ≤ w.heap.size ∧ w5.heap.size ≤ w.heap.size ∧ Ext w59 w) F ⟨_, hB19, rfl, l5_j5, l11_j5, l13_j5, rfl, zs52, zs53, (Ext.refl _)⟩ ?_
        rintro m L w60 ⟨y6, hB19, l22_i2, l5_i2, l11_i2, l13_i2, l21_i2, Z0_i2, Z1_i2, K0_i2⟩
        rcases m with _ | m
        · rw [law10_RightLess_l2] at hB19; cases hB19
        rw [law10_RightLess_l2] at hB19
        have k300 := k295.tr K0_i2
        have k301 := k296.tr K0_i2
        have k302 := k297.tr K0_i2
        have k303 := k298.tr K0_i2
        have k304 := k299.tr K0_i2
        have k305 := hx32.tr K0_i2
        have r418 := r412.ext K0_i2
        have r419 := r413.ext K0_i2
        have r420 := r414.ext K0_i2
        have r421 := r415.ext K0_i2
        have hb175 := hb174.ext K0_i2
        have r422 := r416.ext K0_i2
        have r423 := r417.ext K0_i2
        have r424 := r411.ext K0_i2
        have hb176 := hb173.ext K0_i2
        have O21 := O20.ext K0_i2
        have R2 := R1.ext K0_i2
        refine wp_seq <| wp_seq <| rg <| vl rfl rfl xmv <| vl rfl rfl (xlss l22_i2 rfl) <| nl <| cnd rfl (fun h10 => ?_) (fun h10 => ?_)
        ·
          have hB19 := ifp hB19 h10
          refine wp_skip <| wp_seq <| ?_
          have hz := bs hB19; obtain ⟨o28, hB21, hB19⟩ := hz
          refine ct (fun L w => o28 = .inr () ∧ L 5 = .pointer (some ⟨b6, 0, none⟩) ∧ L 11 = .slice a6 x8.length cq6 ∧ L 13 = .slice a8 x10.1.length cq8 ∧ L 21 = .slice (some ⟨b24, 0, none⟩) ([(z1.1, z1.2.1, x0.2.2.1, x0.2.2.2.1, x0.2.2.2.2), (y5.1, x0.2.1, y5.2.2.1, x0.2.2.2.1, x0.2.2.2.2)] : List (Int × (List Int) × (List ((List Int) × Int)) × (List ((List Int) × Int)) × (List (List Int)))).length 2 ∧ L 22 = .int .i64 y6 ∧ w28.heap.size ≤ w.heap.size ∧ w5.heap.size ≤ w.heap.size ∧ Ext w60 w) ?_ ?_
          ·
            refine wp_block <| wp_seq <| wp_seq <| rg <| vl rfl rfl xmv <| vl rfl rfl xmv <| ?_
            have hz := bs hB21; obtain ⟨x20, Ex20, hB21⟩ := hz
            have hz := ix2 r411 Ex20; obtain ⟨cs6, i3, i4, q11, hc1⟩ := hz
            obtain ⟨_, _, rfl, rfl, ⟨_, _, rfl, ⟨a24, cq24, rfl, p6, q12, e10⟩, ⟨_, _, rfl, ⟨a25, cq25, rfl, p7, q13, e11⟩, ⟨_, _, rfl, ⟨a26, cq26, rfl, p8, q14, e12⟩, ⟨a27, cq27, rfl, p9, q15, e13⟩⟩⟩⟩⟩ := q11
            have r425 := RV.of1 p6 q12 e10
            have r426 := RV.of1 p7 q13 e11
            have r427 := RV.of1 p8 q14 e12
            have r428 := RV.of1 p9 q15 e13
            have hc2 := hc1.ext K0_i2
            have r429 := r425.ext K0_i2
            have r430 := r426.ext K0_i2
            have r431 := r427.ext K0_i2
            have r432 := r428.ext K0_i2
            refine vl rfl rfl (xixs l21_i2 l22_i2 Try.underlying60 ti26 i3 i4) <| vl rfl rfl (xlda rfl ti26 rfl hc2) <| ?_
            have hz := bs hB21; obtain ⟨x21, Ex21, hB21⟩ := hz
            refine cl rfl rfl (xc cb30 (mc rfl mn)) (c30 (show RV (α := (Int × (List Int) × (List ((List Int) × Int)) × (List ((List Int) × Int)) × (List (List Int)))) _ (.agg [.int .i64 x20.1, .slice a24 x20.2.1.length cq24, .slice a25 x20.2.2.1.length cq25, .slice a26 x20.2.2.2.1.length cq26, .slice a27 x20.2.2.2.2.length cq27].toArray) (x20.1, x20.2.1, x20.2.2.1, x20.2.2.2.1, x20.2.2.2.2) from ⟨_, rfl, ⟨[.int .i64 x20.1], [.slice a24 x20.2.1.length cq24] ++ ([.slice a25 x20.2.2.1.length cq25] ++ ([.slice a26 x20.2.2.2.1.length cq26] ++ [.slice a27 x20.2.2.2.2.length cq27])), rfl, rfl, ⟨[.slice a24 x20.2.1.length cq24], [.slice a25 x20.2.2.1.length cq25] ++ ([.slice a26 x20.2.2.2.1.length cq26] ++ [.slice a27 x20.2.2.2.2.length cq27]), rfl, r429.rep1, ⟨[.slice a25 x20.2.2.1.length cq25], [.slice a26 x20.2.2.2.1.length cq26] ++ [.slice a27 x20.2.2.2.2.length cq27], rfl, r430.rep1, ⟨[.slice a26 x20.2.2.2.1.length cq26], [.slice a27 x20.2.2.2.2.length cq27], rfl, r431.rep1, r432.rep1⟩⟩⟩⟩⟩) Ex21) ?_
            rintro _ w61 ⟨rfl, hx33⟩
            have k306 := k300.tr hx33
            have k307 := k301.tr hx33
            have k308 := k302.tr hx33
            have k309 := k303.tr hx33
            have k310 := k304.tr hx33
            have k311 := k305.tr hx33
            have k312 := K0_i2.tr hx33
            have zs54 := Nat.le_trans Z0_i2 hx33.size
            have zs55 := Nat.le_trans Z1_i2 hx33.size
            have hb177 := hb175.ext hx33
            have r433 := r418.ext hx33
            have r434 := r419.ext hx33
            have r435 := r420.ext hx33
            have r436 := r421.ext hx33
            have r437 := r422.ext hx33
            have r438 := r423.ext hx33
            have r439 := r424.ext hx33
            have hb178 := hb176.ext hx33
            have O22 := O21.ext hx33
            have R3 := R2.ext hx33
            refine vl rfl rfl (xnot rfl) <| nl <| cnd rfl (fun h11 => ?_) (fun h11 => ?_)
            ·
              have hB21 := ifp hB21 h11
              refine wp_exit <| ?_
              cases hB21
              refine lf <| ?_
              exact ⟨rfl, l5_i2, l11_i2, l13_i2, l21_i2, l22_i2, zs54, zs55, hx33⟩
            ·
              have hB21 := ifn hB21 h11
              refine wp_skip <| wp_seq <| rg <| vl rfl rfl xmv <| vl rfl rfl xmv <| ?_
              have hz := bs hB21; obtain ⟨x22, Ex22, hB21⟩ := hz
              have hz := ix2 r411 Ex22; obtain ⟨cs7, i5, i6, q16, hc3⟩ := hz
              obtain ⟨_, _, rfl, rfl, ⟨_, _, rfl, ⟨a28, cq28, rfl, p10, q17, e14⟩, ⟨_, _, rfl, ⟨a29, cq29, rfl, p11, q18, e15⟩, ⟨_, _, rfl, ⟨a30, cq30, rfl, p12, q19, e16⟩, ⟨a31, cq31, rfl, p13, q20, e17⟩⟩⟩⟩⟩ := q16
              have r440 := RV.of1 p10 q17 e14
              have r441 := RV.of1 p11 q18 e15
              have r442 := RV.of1 p12 q19 e16
              have r443 := RV.of1 p13 q20 e17
              have hc4 := hc3.ext k312
              have r444 := r440.ext k312
              have r445 := r441.ext k312
              have r446 := r442.ext k312
              have r447 := r443.ext k312
              refine vl rfl rfl (xixs l21_i2 l22_i2 Try.underlying60 ti26 i5 i6) <| vl rfl rfl (xlda rfl ti26 rfl hc4) <| vl rfl rfl xmv <| ?_
              have hz := bs hB21; obtain ⟨x23, Ex23, hB21⟩ := hz
              refine cl rfl rfl (xc cb33 (mc rfl (mc l11_i2 mn))) (c33 (show RV (α := (Int × (List Int) × (List ((List Int) × Int)) × (List ((List Int) × Int)) × (List (List Int)))) _ (.agg [.int .i64 x22.1, .slice a28 x22.2.1.length cq28, .slice a29 x22.2.2.1.length cq29, .slice a30 x22.2.2.2.1.length cq30, .slice a31 x22.2.2.2.2.length cq31].toArray) (x22.1, x22.2.1, x22.2.2.1, x22.2.2.2.1, x22.2.2.2.2) from ⟨_, rfl, ⟨[.int .i64 x22.1], [.slice a28 x22.2.1.length cq28] ++ ([.slice a29 x22.2.2.1.length cq29] ++ ([.slice a30 x22.2.2.2.1.length cq30] ++ [.slice a31 x22.2.2.2.2.length cq31])), rfl, rfl, ⟨[.slice a28 x22.2.1.length cq28], [.slice a29 x22.2.2.1.length cq29] ++ ([.slice a30 x22.2.2.2.1.length cq30] ++ [.slice a31 x22.2.2.2.2.length cq31]), rfl, r444.rep1, ⟨[.slice a29 x22.2.2.1.length cq29], [.slice a30 x22.2.2.2.1.length cq30] ++ [.slice a31 x22.2.2.2.2.length cq31], rfl, r445.rep1, ⟨[.slice a30 x22.2.2.2.1.length cq30], [.slice a31 x22.2.2.2.2.length cq31], rfl, r446.rep1, r447.rep1⟩⟩⟩⟩⟩) r437.rv Ex23) ?_
              rintro _ w62 ⟨u5, rfl, r448, hx34⟩
              have k313 := k306.tr hx34
              have k314 := k307.tr hx34
              have k315 := k308.tr hx34
              have k316 := k309.tr hx34
              have k317 := k310.tr hx34
              have k318 := k311.tr hx34
              have k319 := k312.tr hx34
              have k320 := hx33.tr hx34
              have zs56 := Nat.le_trans zs54 hx34.size
              have zs57 := Nat.le_trans zs55 hx34.size
              have hb179 := hb177.ext hx34
              have r449 := r433.ext hx34
              have r450 := r434.ext hx34
              have r451 := r435.ext hx34
              have r452 := r436.ext hx34
              have r453 := r437.ext hx34
              have r454 := r438.ext hx34
              have r455 := r439.ext hx34
              have hb180 := hb178.ext hx34
              have O23 := O22.ext hx34
              have R4 := R3.ext hx34
              have hz := RV.sl r448; obtain ⟨a32, cq32, rfl, -, -, -⟩ := hz
              refine vl rfl rfl xmv <| vl rfl rfl (xext rfl rfl) <| vl rfl rfl (xext rfl rfl) <| vl rfl rfl xas <| vl rfl rfl xas <| nl <| wp_seq <| ?_
              have hz := bs hB21; obtain ⟨y7, hB24, hB21⟩ := hz
              refine ct (fun L w => L 154 = .bool y7 ∧ L 5 = .pointer (some ⟨b6, 0, none⟩) ∧ L 11 = .slice a6 x8.length cq6 ∧ L 13 = .slice a8 x10.1.length cq8 ∧ L 21 = .slice (some ⟨b24, 0, none⟩) ([(z1.1, z1.2.1, x0.2.2.1, x0.2.2.2.1, x0.2.2.2.2), (y5.1, x0.2.1, y5.2.2.1, x0.2.2.2.1, x0.2.2.2.2)] : List (Int × (List Int) × (List ((List Int) × Int)) × (List ((List Int) × Int)) × (List (List Int)))).length 2 ∧ L 22 = .int .i64 y6 ∧ w28.heap.size ≤ w.heap.size ∧ w5.heap.size ≤ w.heap.size ∧ Ext w62 w) ?_ ?_
              ·
                refine rg <| vl rfl rfl xmv <| vl rfl rfl (xneq rfl rfl) <| vl rfl rfl xmv <| ?_
                refine Or.elim (Bool.eq_false_or_eq_true (!decide (x23.2 = 0))) (fun h12 => ?_) (fun h12 => ?_)
                ·
                  have hB24 := ifp hB24 h12
                  refine gfk rfl rfl rfl rfl rfl (btf h12) rfl <| gfk rfl rfl rfl rfl rfl (btf h12) rfl <| gfk rfl rfl rfl rfl rfl (btf h12) rfl <| gfk rfl rfl rfl rfl rfl (btf h12) rfl <| vl rfl rfl (xpt rfl h12 rfl) <| vl rfl rfl xmv <| ?_
                  refine Or.elim (Bool.eq_false_or_eq_true true) (fun h13 => ?_) (fun h13 => ?_)
                  ·
                    have hB24 := ifp hB24 h13
                    refine gfk rfl rfl rfl rfl rfl (btf h13) rfl <| gfk rfl rfl rfl rfl rfl (btf h13) rfl <| gfk rfl rfl rfl rfl rfl (btf h13) rfl <| gfk rfl rfl rfl rfl rfl (btf h13) rfl <| gfk rfl rfl rfl rfl rfl (btf h13) rfl <| gfk rfl rfl rfl rfl rfl (btf h13) rfl <| gfk rfl rfl rfl rfl rfl (btf h13) rfl <| gfk rfl rfl rfl rfl rfl (btf h13) rfl <| gfk rfl rfl rfl rfl rfl bu rfl <| gfk rfl rfl rfl rfl rfl bu rfl <| gfk rfl rfl rfl rfl rfl bu rfl <| gfk rfl rfl rfl rfl rfl bu rfl <| gfk rfl rfl rfl rfl rfl (btf h13) rfl <| vl rfl rfl (xpt rfl h13 rfl) <| nl <| ?_
                    cases hB24
                    refine lf <| ?_
                    exact ⟨rfl, l5_i2, l11_i2, l13_i2, l21_i2, l22_i2, zs56, zs57, (Ext.refl _)⟩
                  ·
                    have hB24 := ifn hB24 h13
                    refine gtk rfl rfl rfl rfl rfl (bf h13) <| vl rfl rfl xmv <| gtk rfl rfl rfl rfl rfl (bf h13) <| vl rfl rfl xmv <| ?_
                    have hz := bs hB24; obtain ⟨x25, Ex25, hB24⟩ := hz
                    have hz := ix2 r411 Ex25; obtain ⟨cs8, i7, i8, q21, hc5⟩ := hz
                    obtain ⟨_, _, rfl, rfl, ⟨_, _, rfl, ⟨a33, cq33, rfl, p14, q22, e19⟩, ⟨_, _, rfl, ⟨a34, cq34, rfl, p15, q23, e20⟩, ⟨_, _, rfl, ⟨a35, cq35, rfl, p16, q24, e21⟩, ⟨a36, cq36, rfl, p17, q25, e22⟩⟩⟩⟩⟩ := q21
                    have r463 := RV.of1 p14 q22 e19
                    have r464 := RV.of1 p15 q23 e20
                    have r465 := RV.of1 p16 q24 e21
                    have r466 := RV.of1 p17 q25 e22
                    have hc6 := hc5.ext k319
                    have r467 := r463.ext k319
                    have r468 := r464.ext k319
                    have r469 := r465.ext k319
                    have r470 := r466.ext k319
                    refine gtk rfl rfl rfl rfl rfl (bf h13) <| vl rfl rfl (xixs l21_i2 l22_i2 Try.underlying60 ti26 i7 i8) <| gtk rfl rfl rfl rfl rfl (bf h13) <| vl rfl rfl (xlda rfl ti26 rfl hc6) <| gtk rfl rfl rfl rfl rfl (bf h13) <| vl rfl rfl xmv <| ?_
                    have hz := bs hB24; obtain ⟨x26, Ex26, hB24⟩ := hz
                    refine gtk rfl rfl rfl rfl rfl (bf h13) <| cl rfl rfl (xc cb32 (mc rfl (mc l11_i2 mn))) (c32 (show RV (α := (Int × (List Int) × (List ((List Int) × Int)) × (List ((List Int) × Int)) × (List (List Int)))) _ (.agg [.int .i64 x25.1, .slice a33 x25.2.1.length cq33, .slice a34 x25.2.2.1.length cq34, .slice a35 x25.2.2.2.1.length cq35, .slice a36 x25.2.2.2.2.length cq36].toArray) (x25.1, x25.2.1, x25.2.2.1, x25.2.2.2.1, x25.2.2.2.2) from ⟨_, rfl, ⟨[.int .i64 x25.1], [.slice a33 x25.2.1.length cq33] ++ ([.slice a34 x25.2.2.1.length cq34] ++ ([.slice a35 x25.2.2.2.1.length cq35] ++ [.slice a36 x25.2.2.2.2.length cq36])), rfl, rfl, ⟨[.slice a33 x25.2.1.length cq33], [.slice a34 x25.2.2.1.length cq34] ++ ([.slice a35 x25.2.2.2.1.length cq35] ++ [.slice a36 x25.2.2.2.2.length cq36]), rfl, r467.rep1, ⟨[.slice a34 x25.2.2.1.length cq34], [.slice a35 x25.2.2.2.1.length cq35] ++ [.slice a36 x25.2.2.2.2.length cq36], rfl, r468.rep1, ⟨[.slice a35 x25.2.2.2.1.length cq35], [.slice a36 x25.2.2.2.2.length cq36], rfl, r469.rep1, r470.rep1⟩⟩⟩⟩⟩) r453.rv Ex26) ?_
                    rintro _ w64 ⟨rfl, hx36⟩
                    have k329 := k313.tr hx36
                    have k330 := k314.tr hx36
                    have k331 := k315.tr hx36
                    have k332 := k316.tr hx36
                    have k333 := k317.tr hx36
                    have k334 := k318.tr hx36
                    have k335 := k319.tr hx36
                    have k336 := k320.tr hx36
                    have zs60 := Nat.le_trans zs56 hx36.size
                    have zs61 := Nat.le_trans zs57 hx36.size
                    have hb183 := hb179.ext hx36
                    have r471 := r449.ext hx36
                    have r472 := r450.ext hx36
                    have r473 := r451.ext hx36
                    have r474 := r452.ext hx36
                    have r475 := r453.ext hx36
                    have r476 := r454.ext hx36
                    have r477 := r455.ext hx36
                    have hb184 := hb180.ext hx36
                    have O25 := O23.ext hx36
                    have R6 := R4.ext hx36
                    refine gtk rfl rfl rfl rfl rfl (bf h13) <| vl rfl rfl (xeql rfl rfl) <| gtk rfl rfl rfl rfl rfl (bf h13) <| vl rfl rfl xmv <| ?_
                    refine Or.elim (Bool.eq_false_or_eq_true (decide (x26 = 0))) (fun h14 => ?_) (fun h14 => ?_)
                    ·
                      have hB24 := ifp hB24 h14
                      refine gtk rfl rfl rfl rfl rfl (bt h14) <| vl rfl rfl (xlda l5_i2 ti26 rfl (Bx.cs hb183)) <| gtk rfl rfl rfl rfl rfl (bt h14) <| vl rfl rfl xmv <| ?_
                      have hz := bs hB24; obtain ⟨x27, Ex27, hB24⟩ := hz
                      refine gtk rfl rfl rfl rfl rfl (bt h14) <| cl rfl rfl (xc cb32 (mc rfl (mc l11_i2 mn))) (c32 (show RV (α := (Int × (List Int) × (List ((List Int) × Int)) × (List ((List Int) × Int)) × (List (List Int)))) _ (.agg [.int .i64 x0.1, .slice a1 x0.2.1.length cq1, .slice a2 x0.2.2.1.length cq2, .slice a3 x0.2.2.2.1.length cq3, .slice a4 x0.2.2.2.2.length cq4].toArray) (x0.1, x0.2.1, x0.2.2.1, x0.2.2.2.1, x0.2.2.2.2) from ⟨_, rfl, ⟨[.int .i64 x0.1], [.slice a1 x0.2.1.length cq1] ++ ([.slice a2 x0.2.2.1.length cq2] ++ ([.slice a3 x0.2.2.2.1.length cq3] ++ [.slice a4 x0.2.2.2.2.length cq4])), rfl, rfl, ⟨[.slice a1 x0.2.1.length cq1], [.slice a2 x0.2.2.1.length cq2] ++ ([.slice a3 x0.2.2.2.1.length cq3] ++ [.slice a4 x0.2.2.2.2.length cq4]), rfl, r471.rep1, ⟨[.slice a2 x0.2.2.1.length cq2], [.slice a3 x0.2.2.2.1.length cq3] ++ [.slice a4 x0.2.2.2.2.length cq4], rfl, r472.rep1, ⟨[.slice a3 x0.2.2.2.1.length cq3], [.slice a4 x0.2.2.2.2.length cq4], rfl, r473.rep1, r474.rep1⟩⟩⟩⟩⟩) r475.rv Ex27) ?_
                      rintro _ w65 ⟨rfl, hx37⟩
                      have k337 := k329.tr hx37
                      have k338 := k330.tr hx37
                      have k339 := k331.tr hx37
                      have k340 := k332.tr hx37
                      have k341 := k333.tr hx37
                      have k342 := k334.tr hx37
                      have k343 := k335.tr hx37
                      have k344 := k336.tr hx37
                      have k345 := hx36.tr hx37
                      have zs62 := Nat.le_trans zs60 hx37.size
                      have zs63 := Nat.le_trans zs61 hx37.size
                      have hb185 := hb183.ext hx37
                      have r478 := r471.ext hx37
                      have r479 := r472.ext hx37
                      have r480 := r473.ext hx37
                      have r481 := r474.ext hx37
                      have r482 := r475.ext hx37
                      have r483 := r476.ext hx37
                      have r484 := r477.ext hx37
                      have hb186 := hb184.ext hx37
                      have O26 := O25.ext hx37
                      have R7 := R6.ext hx37
                      refine gtk rfl rfl rfl rfl rfl (bt h14) <| vl rfl rfl (xneq rfl rfl) <| gtk rfl rfl rfl rfl rfl (bf h13) <| vl rfl rfl (xpt rfl h14 rfl) <| vl rfl rfl (xpf rfl h13 rfl) <| nl <| ?_
                      cases hB24
                      refine lf <| ?_
                      exact ⟨rfl, l5_i2, l11_i2, l13_i2, l21_i2, l22_i2, zs62, zs63, k345⟩
                    ·
                      have hB24 := ifn hB24 h14
                      refine gfk rfl rfl rfl rfl rfl (bft h14) rfl <| gfk rfl rfl rfl rfl rfl (bft h14) rfl <| gfk rfl rfl rfl rfl rfl (bft h14) rfl <| gfk rfl rfl rfl rfl rfl (bft h14) rfl <| gtk rfl rfl rfl rfl rfl (bf h13) <| vl rfl rfl (xpf rfl h14 rfl) <| vl rfl rfl (xpf rfl h13 rfl) <| nl <| ?_
                      cases hB24
                      refine lf <| ?_
                      exact ⟨rfl, l5_i2, l11_i2, l13_i2, l21_i2, l22_i2, zs60, zs61, hx36⟩
                ·
                  have hB24 := ifn hB24 h12
                  refine gtk rfl rfl rfl rfl rfl (bf h12) <| vl rfl rfl xmv <| gtk rfl rfl rfl rfl rfl (bf h12) <| vl rfl rfl xmv <| ?_
                  have hz := bs hB24; obtain ⟨x28, Ex28, hB24⟩ := hz
                  refine gtk rfl rfl rfl rfl rfl (bf h12) <| cl rfl rfl (xc cb34 (mc rfl (mc l13_i2 mn))) (c34 r448 r454 Ex28) ?_
                  rintro _ w66 ⟨rfl, hx38⟩
                  have k346 := k313.tr hx38
                  have k347 := k314.tr hx38
                  have k348 := k315.tr hx38
                  have k349 := k316.tr hx38
                  have k350 := k317.tr hx38
                  have k351 := k318.tr hx38
                  have k352 := k319.tr hx38
                  have k353 := k320.tr hx38
                  have zs64 := Nat.le_trans zs56 hx38.size
                  have zs65 := Nat.le_trans zs57 hx38.size
                  have hb187 := hb179.ext hx38
                  have r485 := r449.ext hx38
                  have r486 := r450.ext hx38
                  have r487 := r451.ext hx38
                  have r488 := r452.ext hx38
                  have r489 := r453.ext hx38
                  have r490 := r454.ext hx38
                  have r491 := r455.ext hx38
                  have hb188 := hb180.ext hx38
                  have O27 := O23.ext hx38
                  have R8 := R4.ext hx38
                  refine gtk rfl rfl rfl rfl rfl (bf h12) <| vl rfl rfl (xnot rfl) <| vl rfl rfl (xpf rfl h12 rfl) <| vl rfl rfl xmv <| ?_
                  refine Or.elim (Bool.eq_false_or_eq_true (!x28)) (fun h15 => ?_) (fun h15 => ?_)
                  ·
                    have hB24 := ifp hB24 h15
                    refine gfk rfl rfl rfl rfl rfl (btf h15) rfl <| gfk rfl rfl rfl rfl rfl (btf h15) rfl <| gfk rfl rfl rfl rfl rfl (btf h15) rfl <| gfk rfl rfl rfl rfl rfl (btf h15) rfl <| gfk rfl rfl rfl rfl rfl (btf h15) rfl <| gfk rfl rfl rfl rfl rfl (btf h15) rfl <| gfk rfl rfl rfl rfl rfl (btf h15) rfl <| gfk rfl rfl rfl rfl rfl (btf h15) rfl <| gfk rfl rfl rfl rfl rfl bu rfl <| gfk rfl rfl rfl rfl rfl bu rfl <| gfk rfl rfl rfl rfl rfl bu rfl <| gfk rfl rfl rfl rfl rfl bu rfl <| gfk rfl rfl rfl rfl rfl (btf h15) rfl <| vl rfl rfl (xpt rfl h15 rfl) <| nl <| ?_
                    cases hB24
                    refine lf <| ?_
                    exact ⟨rfl, l5_i2, l11_i2, l13_i2, l21_i2, l22_i2, zs64, zs65, hx38⟩
                  ·
                    have hB24 := ifn hB24 h15
                    refine gtk rfl rfl rfl rfl rfl (bf h15) <| vl rfl rfl xmv <| gtk rfl rfl rfl rfl rfl (bf h15) <| vl rfl rfl xmv <| ?_
                    have hz := bs hB24; obtain ⟨x29, Ex29, hB24⟩ := hz
                    have hz := ix2 r411 Ex29; obtain ⟨cs9, i9, i10, q26, hc7⟩ := hz
                    obtain ⟨_, _, rfl, rfl, ⟨_, _, rfl, ⟨a37, cq37, rfl, p18, q27, e23⟩, ⟨_, _, rfl, ⟨a38, cq38, rfl, p19, q28, e24⟩, ⟨_, _, rfl, ⟨a39, cq39, rfl, p20, q29, e25⟩, ⟨a40, cq40, rfl, p21, q30, e26⟩⟩⟩⟩⟩ := q26
                    have r492 := RV.of1 p18 q27 e23
                    have r493 := RV.of1 p19 q28 e24
                    have r494 := RV.of1 p20 q29 e25
                    have r495 := RV.of1 p21 q30 e26
                    have hc8 := hc7.ext k352
                    have r496 := r492.ext k352
                    have r497 := r493.ext k352
                    have r498 := r494.ext k352
                    have r499 := r495.ext k352
                    refine gtk rfl rfl rfl rfl rfl (bf h15) <| vl rfl rfl (xixs l21_i2 l22_i2 Try.underlying60 ti26 i9 i10) <| gtk rfl rfl rfl rfl rfl (bf h15) <| vl rfl rfl (xlda rfl ti26 rfl hc8) <| gtk rfl rfl rfl rfl rfl (bf h15) <| vl rfl rfl xmv <| ?_
                    have hz := bs hB24; obtain ⟨x30, Ex30, hB24⟩ := hz
                    refine gtk rfl rfl rfl rfl rfl (bf h15) <| cl rfl rfl (xc cb32 (mc rfl (mc l11_i2 mn))) (c32 (show RV (α := (Int × (List Int) × (List ((List Int) × Int)) × (List ((List Int) × Int)) × (List (List Int)))) _ (.agg [.int .i64 x29.1, .slice a37 x29.2.1.length cq37, .slice a38 x29.2.2.1.length cq38, .slice a39 x29.2.2.2.1.length cq39, .slice a40 x29.2.2.2.2.length cq40].toArray) (x29.1, x29.2.1, x29.2.2.1, x29.2.2.2.1, x29.2.2.2.2) from ⟨_, rfl, ⟨[.int .i64 x29.1], [.slice a37 x29.2.1.length cq37] ++ ([.slice a38 x29.2.2.1.length cq38] ++ ([.slice a39 x29.2.2.2.1.length cq39] ++ [.slice a40 x29.2.2.2.2.length cq40])), rfl, rfl, ⟨[.slice a37 x29.2.1.length cq37], [.slice a38 x29.2.2.1.length cq38] ++ ([.slice a39 x29.2.2.2.1.length cq39] ++ [.slice a40 x29.2.2.2.2.length cq40]), rfl, r496.rep1, ⟨[.slice a38 x29.2.2.1.length cq38], [.slice a39 x29.2.2.2.1.length cq39] ++ [.slice a40 x29.2.2.2.2.length cq40], rfl, r497.rep1, ⟨[.slice a39 x29.2.2.2.1.length cq39], [.slice a40 x29.2.2.2.2.length cq40], rfl, r498.rep1, r499.rep1⟩⟩⟩⟩⟩) r489.rv Ex30) ?_
                    rintro _ w67 ⟨rfl, hx39⟩
                    have k354 := k346.tr hx39
                    have k355 := k347.tr hx39
                    have k356 := k348.tr hx39
                    have k357 := k349.tr hx39
                    have k358 := k350.tr hx39
                    have k359 := k351.tr hx39
                    have k360 := k352.tr hx39
                    have k361 := k353.tr hx39
                    have k362 := hx38.tr hx39
                    have zs66 := Nat.le_trans zs64 hx39.size
                    have zs67 := Nat.le_trans zs65 hx39.size
                    have hb189 := hb187.ext hx39
                    have r500 := r485.ext hx39
                    have r501 := r486.ext hx39
                    have r502 := r487.ext hx39
                    have r503 := r488.ext hx39
                    have r504 := r489.ext hx39
                    have r505 := r490.ext hx39
                    have r506 := r491.ext hx39
                    have hb190 := hb188.ext hx39
                    have O28 := O27.ext hx39
                    have R9 := R8.ext hx39
                    refine gtk rfl rfl rfl rfl rfl (bf h15) <| vl rfl rfl (xeql rfl rfl) <| gtk rfl rfl rfl rfl rfl (bf h15) <| vl rfl rfl xmv <| ?_
                    refine Or.elim (Bool.eq_false_or_eq_true (decide (x30 = 0))) (fun h16 => ?_) (fun h16 => ?_)
                    ·
                      have hB24 := ifp hB24 h16
                      refine gtk rfl rfl rfl rfl rfl (bt h16) <| vl rfl rfl (xlda l5_i2 ti26 rfl (Bx.cs hb189)) <| gtk rfl rfl rfl rfl rfl (bt h16) <| vl rfl rfl xmv <| ?_
                      have hz := bs hB24; obtain ⟨x31, Ex31, hB24⟩ := hz
                      refine gtk rfl rfl rfl rfl rfl (bt h16) <| cl rfl rfl (xc cb32 (mc rfl (mc l11_i2 mn))) (c32 (show RV (α := (Int × (List Int) × (List ((List Int) × Int)) × (List ((List Int) × Int)) × (List (List Int)))) _ (.agg [.int .i64 x0.1, .slice a1 x0.2.1.length cq1, .slice a2 x0.2.2.1.length cq2, .slice a3 x0.2.2.2.1.length cq3, .slice a4 x0.2.2.2.2.length cq4].toArray) (x0.1, x0.2.1, x0.2.2.1, x0.2.2.2.1, x0.2.2.2.2) from ⟨_, rfl, ⟨[.int .i64 x0.1], [.slice a1 x0.2.1.length cq1] ++ ([.slice a2 x0.2.2.1.length cq2] ++ ([.slice a3 x0.2.2.2.1.length cq3] ++ [.slice a4 x0.2.2.2.2.length cq4])), rfl, rfl, ⟨[.slice a1 x0.2.1.length cq1], [.slice a2 x0.2.2.1.length cq2] ++ ([.slice a3 x0.2.2.2.1.length cq3] ++ [.slice a4 x0.2.2.2.2.length cq4]), rfl, r500.rep1, ⟨[.slice a2 x0.2.2.1.length cq2], [.slice a3 x0.2.2.2.1.length cq3] ++ [.slice a4 x0.2.2.2.2.length cq4], rfl, r501.rep1, ⟨[.slice a3 x0.2.2.2.1.length cq3], [.slice a4 x0.2.2.2.2.length cq4], rfl, r502.rep1, r503.rep1⟩⟩⟩⟩⟩) r504.rv Ex31) ?_
                      rintro _ w68 ⟨rfl, hx40⟩
                      have k363 := k354.tr hx40
                      have k364 := k355.tr hx40
                      have k365 := k356.tr hx40
                      have k366 := k357.tr hx40
                      have k367 := k358.tr hx40
                      have k368 := k359.tr hx40
                      have k369 := k360.tr hx40
                      have k370 := k361.tr hx40
                      have k371 := k362.tr hx40
                      have zs68 := Nat.le_trans zs66 hx40.size
                      have zs69 := Nat.le_trans zs67 hx40.size
                      have hb191 := hb189.ext hx40
                      have r507 := r500.ext hx40
                      have r508 := r501.ext hx40
                      have r509 := r502.ext hx40
                      have r510 := r503.ext hx40
                      have r511 := r504.ext hx40
                      have r512 := r505.ext hx40
                      have r513 := r506.ext hx40
                      have hb192 := hb190.ext hx40
                      have O29 := O28.ext hx40
                      have R10 := R9.ext hx40
                      refine gtk rfl rfl rfl rfl rfl (bt h16) <| vl rfl rfl (xneq rfl rfl) <| gtk rfl rfl rfl rfl rfl (bf h15) <| vl rfl rfl (xpt rfl h16 rfl) <| vl rfl rfl (xpf rfl h15 rfl) <| nl <| ?_
                      cases hB24
                      refine lf <| ?_
                      exact ⟨rfl, l5_i2, l11_i2, l13_i2, l21_i2, l22_i2, zs68, zs69, k371⟩
                    ·
                      have hB24 := ifn hB24 h16
                      refine gfk rfl rfl rfl rfl rfl (bft h16) rfl <| gfk rfl rfl rfl rfl rfl (bft h16) rfl <| gfk rfl rfl rfl rfl rfl (bft h16) rfl <| gfk rfl rfl rfl rfl rfl (bft h16) rfl <| gtk rfl rfl rfl rfl rfl (bf h15) <| vl rfl rfl (xpf rfl h16 rfl) <| vl rfl rfl (xpf rfl h15 rfl) <| nl <| ?_
                      cases hB24
                      refine lf <| ?_
                      exact ⟨rfl, l5_i2, l11_i2, l13_i2, l21_i2, l22_i2, zs66, zs67, k362⟩
              rintro L w69 ⟨l154_j6, l5_j6, l11_j6, l13_j6, l21_j6, l22_j6, Z0_j6, Z1_j6, K0_j6⟩
              have k372 := k313.tr K0_j6
              have k373 := k314.tr K0_j6
              have k374 := k315.tr K0_j6
              have k375 := k316.tr K0_j6
              have k376 := k317.tr K0_j6
              have k377 := k318.tr K0_j6
              have k378 := k319.tr K0_j6
              have k379 := k320.tr K0_j6
              have r514 := r449.ext K0_j6
              have r515 := r450.ext K0_j6
              have r516 := r451.ext K0_j6
              have r517 := r452.ext K0_j6
              have hb193 := hb179.ext K0_j6
              have r518 := r453.ext K0_j6
              have r519 := r454.ext K0_j6
              have r520 := r455.ext K0_j6
              have hb194 := hb180.ext K0_j6
              have O30 := O23.ext K0_j6
              have R11 := R4.ext K0_j6
              refine cnd l154_j6 (fun h17 => ?_) (fun h17 => ?_)
              ·
                have hB21 := ifp hB21 h17
                refine wp_seq <| rg <| vl rfl rfl xas <| nl <| ?_
                cases hB21
                have hB19 := (show some _ = some _ from hB19); cases hB19
                have hF := (show some _ = some _ from hF); cases hF
                exact wp_ret <| rt rfl (.tmp rfl rfl .nil) ⟨rfl, k372⟩
              ·
                have hB21 := ifn hB21 h17
                refine wp_skip <| ?_
                cases hB21
                refine lf <| ?_
                exact ⟨rfl, l5_j6, l11_j6, l13_j6, l21_j6, l22_j6, Z0_j6, Z1_j6, k379⟩
          rintro L w70 ⟨rfl, l5_j7, l11_j7, l13_j7, l21_j7, l22_j7, Z0_j7, Z1_j7, K0_j7⟩
          have k380 := k300.tr K0_j7
          have k381 := k301.tr K0_j7
          have k382 := k302.tr K0_j7
          have k383 := k303.tr K0_j7
          have k384 := k304.tr K0_j7
          have k385 := k305.tr K0_j7
          have k386 := K0_i2.tr K0_j7
          have r521 := r418.ext K0_j7
          have r522 := r419.ext K0_j7
          have r523 := r420.ext K0_j7
          have r524 := r421.ext K0_j7
          have hb195 := hb175.ext K0_j7
          have r525 := r422.ext K0_j7
          have r526 := r423.ext K0_j7
          have r527 := r424.ext K0_j7
          have hb196 := hb176.ext K0_j7
          have O31 := O21.ext K0_j7
          have R12 := R2.ext K0_j7
          refine rg <| vl rfl rfl xmv <| vl rfl rfl (xadd l22_j7 rfl) <| vl rfl rfl xas <| nl <| ?_
          refine lq m (Nat.lt_succ_self _) <| ?_
          exact ⟨_, hB19, rfl, l5_j7, l11_j7, l13_j7, l21_j7, Z0_j7, Z1_j7, k386⟩
        ·
          have hB19 := ifn hB19 h10
          refine wp_exit <| ?_
          cases hB19
          refine lf <| ?_
          exact ⟨rfl, Z0_i2, Z1_i2, K0_i2⟩
      rintro L w71 ⟨rfl, Z0_j8, Z1_j8, K0_j8⟩
      have k387 := k295.tr K0_j8
      have k388 := k296.tr K0_j8
      have k389 := k297.tr K0_j8
      have k390 := k298.tr K0_j8
      have k391 := k299.tr K0_j8
      have k392 := hx32.tr K0_j8
      refine wp_seq <| rg <| ?_
      have hz := bs hF; obtain ⟨x32, Ex32, hF⟩ := hz
      refine cl rfl rfl (xc cb15 mn) (c15 Ex32) ?_
      rintro _ w72 ⟨rfl, hx41⟩
      have k393 := k387.tr hx41
      have k394 := k388.tr hx41
      have k395 := k389.tr hx41
      have k396 := k390.tr hx41
      have k397 := k391.tr hx41
      have k398 := k392.tr hx41
      have k399 := K0_j8.tr hx41
      have zs70 := Nat.le_trans Z0_j8 hx41.size
      have zs71 := Nat.le_trans Z1_j8 hx41.size
      refine vl rfl rfl xas <| nl <| ?_
      cases hF
      exact wp_ret <| rt rfl (.tmp rfl rfl .nil) ⟨rfl, k393⟩

set_option maxHeartbeats 4000000 in
theorem c11 {w0 : World} {v0 : Value} {x0 : (Int × (List Int) × (List ((List Int) × Int)) × (List ((List Int) × Int)) × (List (List Int)))} (r0 : RV w0 v0 x0) {x1 : Int} {x2 : Int} {x3 : Int} {x4 : Int} {F : Nat} {r : Bool} (hF : law10_RightOrdered F x0 x1 x2 x3 x4 = some r) :
    Calls Try.prog 11 [v0, .int .u16 x1, .int .u8 x2, .int .u8 x3, .int .u8 x4].toArray w0 (Ret fun v w' => v = .bool r ∧ Ext w0 w') := by
  unfold law10_RightOrdered at hF
  have hz := id r0; obtain ⟨_, rfl, ⟨_, _, rfl, rfl, ⟨_, _, rfl, ⟨a1, cq1, rfl, p1, q6, e1⟩, ⟨_, _, rfl, ⟨a2, cq2, rfl, p2, q7, e2⟩, ⟨_, _, rfl, ⟨a3, cq3, rfl, p3, q8, e3⟩, ⟨a4, cq4, rfl, p4, q9, e4⟩⟩⟩⟩⟩⟩ := hz
  have r6 := RV.of1 p1 q6 e1
  have r7 := RV.of1 p2 q7 e2
  have r8 := RV.of1 p3 q8 e3
  have r9 := RV.of1 p4 q9 e4
  refine entr (n := 161) Try.func11 rfl rfl rfl <| wp_seq <| rg <| sbx rfl rfl fun b6 w1 hx1 hg1 hb1 => ?_
  have r10 := r6.ext hx1
  have r11 := r7.ext hx1
  have r12 := r8.ext hx1
  have r13 := r9.ext hx1
  have r14 := r0.ext hx1
  refine vl rfl rfl xas <| nl <| wp_seq <| wp_seq <| rg <| vl rfl rfl (xlda rfl ti26 rfl (Bx.cs hb1)) <| ?_
  have hz := bs hF; obtain ⟨x6, Ex6, hF⟩ := hz
  refine cl rfl rfl (xc cb30 (mc rfl mn)) (c30 (show RV (α := (Int × (List Int) × (List ((List Int) × Int)) × (List ((List Int) × Int)) × (List (List Int)))) _ (.agg [.int .i64 x0.1, .slice a1 x0.2.1.length cq1, .slice a2 x0.2.2.1.length cq2, .slice a3 x0.2.2.2.1.length cq3, .slice a4 x0.2.2.2.2.length cq4].toArray) (x0.1, x0.2.1, x0.2.2.1, x0.2.2.2.1, x0.2.2.2.2) from ⟨_, rfl, ⟨[.int .i64 x0.1], [.slice a1 x0.2.1.length cq1] ++ ([.slice a2 x0.2.2.1.length cq2] ++ ([.slice a3 x0.2.2.2.1.length cq3] ++ [.slice a4 x0.2.2.2.2.length cq4])), rfl, rfl, ⟨[.slice a1 x0.2.1.length cq1], [.slice a2 x0.2.2.1.length cq2] ++ ([.slice a3 x0.2.2.2.1.length cq3] ++ [.slice a4 x0.2.2.2.2.length cq4]), rfl, r10.rep1, ⟨[.slice a2 x0.2.2.1.length cq2], [.slice a3 x0.2.2.2.1.length cq3] ++ [.slice a4 x0.2.2.2.2.length cq4], rfl, r11.rep1, ⟨[.slice a3 x0.2.2.2.1.length cq3], [.slice a4 x0.2.2.2.2.length cq4], rfl, r12.rep1, r13.rep1⟩⟩⟩⟩⟩) Ex6) ?_
  rintro _ w2 ⟨rfl, hx2⟩
  have k1 := hx1.tr hx2
  have hb2 := hb1.ext hx2
  have r15 := r10.ext hx2
  have r16 := r11.ext hx2
  have r17 := r12.ext hx2
  have r18 := r13.ext hx2
  refine vl rfl rfl (xnot rfl) <| nl <| cnd rfl (fun h6 => ?_) (fun h6 => ?_)
  ·
    have hF := ifp hF h6
    refine wp_seq <| rg <| ?_
    have hz := bs hF; obtain ⟨x7, Ex7, hF⟩ := hz
    refine cl rfl rfl (xc cb15 mn) (c15 Ex7) ?_
    rintro _ w3 ⟨rfl, hx3⟩
    have k2 := k1.tr hx3
    refine vl rfl rfl xas <| nl <| ?_
    cases hF
    exact wp_ret <| rt rfl (.tmp rfl rfl .nil) ⟨rfl, k2⟩
  ·
    have hF := ifn hF h6
    refine wp_skip <| wp_seq <| rg <| vl rfl rfl (xlda rfl ti26 rfl (Bx.cs hb2)) <| sal ti26 fun b7 w4 hx4 hg2 hb3 => ?_
    have k3 := k1.tr hx4
    have hb4 := hb2.ext hx4
    have r19 := r15.ext hx4
    have r20 := r16.ext hx4
    have r21 := r17.ext hx4
    have r22 := r18.ext hx4
    refine sst rfl rfl rfl ti26 hb3 rfl rfl (ble rfl) fun w5 hch1 hb5 => ?_
    have k4 := Ext.chg k3 hch1 (Nat.le_trans k1.size hg2)
    have k5 := Ext.chg hx4 hch1 (Nat.le_trans (Nat.le_refl _) hg2)
    have hb6 := hb2.ext k5
    have r23 := r15.ext k5
    have r24 := r16.ext k5
    have r25 := r17.ext k5
    have r26 := r18.ext k5
    have hb7 : Bx w5 b7 26 [.int .i64 x0.1, .slice a1 x0.2.1.length cq1, .slice a2 x0.2.2.1.length cq2, .slice a3 x0.2.2.2.1.length cq3, .slice a4 x0.2.2.2.2.length cq4] := hb5
    refine nl <| wp_seq <| rg <| vl rfl rfl (xfa rfl fa26_2) <| sst rfl rfl rfl ti23 hb7 rfl rfl (ble rfl) fun w6 hch2 hb8 => ?_
    have k6 := Ext.chg k4 hch2 (Nat.le_trans k1.size hg2)
    have k7 := Ext.chg k5 hch2 (Nat.le_trans (Nat.le_refl _) hg2)
    have hb9 := hb2.ext k7
    have r27 := r15.ext k7
    have r28 := r16.ext k7
    have r29 := r17.ext k7
    have r30 := r18.ext k7
    have hb10 : Bx w6 b7 26 [.int .i64 x0.1, .slice a1 x0.2.1.length cq1, .slice none 0 0, .slice a3 x0.2.2.2.1.length cq3, .slice a4 x0.2.2.2.2.length cq4] := hb8
    refine nl <| wp_seq <| rg <| vl rfl rfl (xfa rfl fa26_2) <| vl rfl rfl (xld rfl ti23 ((Bx.cs hb9).at 2 rfl)) <| vl rfl rfl (xlen rfl Try.underlying23) <| vl rfl rfl xas <| nl <| wp_seq <| wp_seq <| rg <| vl rfl rfl xas <| nl <| ?_
    have hz := bs hF; obtain ⟨z1, hB1, hF⟩ := hz
    refine ct (fun L w => ∃ v7 : Value, Bx w b7 26 [.int .i64 z1.1, .slice a1 x0.2.1.length cq1, v7, .slice a3 x0.2.2.2.1.length cq3, .slice a4 x0.2.2.2.2.length cq4] ∧ DRow w0.heap.size 54 w6.heap.size w v7 z1.2.2.1 ∧ some b7 ≠ Value.ownBlock v7 ∧ L 1 = .int .u16 x1 ∧ L 3 = .int .u8 x3 ∧ L 4 = .int .u8 x4 ∧ L 5 = .pointer (some ⟨b6, 0, none⟩) ∧ L 11 = .pointer (some ⟨b7, 0, none⟩) ∧ L 12 = .int .i64 (x0.2.2.1.length : Int) ∧ w6.heap.size ≤ w.heap.size ∧ Ext w2 w) ?_ ?_
    ·
      refine wp_block <| lp (I := fun m L w => ∃ y1 : Int, ∃ y2 : (Int × (List Int) × (List ((List Int) × Int)) × (List ((List Int) × Int)) × (List (List Int))), ∃ v6 : Value, law10_RightOrdered_l1 F x0 x2 m y1 y2  = some z1 ∧ L 13 = .int .i64 y1 ∧ Bx w b7 26 [.int .i64 y2.1, .slice a1 x0.2.1.length cq1, v6, .slice a3 x0.2.2.2.1.length cq3, .slice a4 x0.2.2.2.2.length cq4] ∧ DRow w0.heap.size 54 w6.heap.size w v6 y2.2.2.1 ∧ some b7 ≠ Value.ownBlock v6 ∧ L 1 = .int .u16 x1 ∧ L 2 = .int .u8 x2 ∧ L 3 = .int .u8 x3 ∧ L 4 = .int .u8 x4 ∧ L 5 = .pointer (some ⟨b6, 0, none⟩) ∧ L 11 = .pointer (some ⟨b7, 0, none⟩) ∧ L 12 = .int .i64 (x0.2.2.1.length : Int) ∧ w6.heap.size ≤ w.heap.size ∧ Ext w2 w) F ⟨_, _, _, hB1, rfl, hb10, DRow.nil, (fun e => by cases e), rfl, rfl, rfl, rfl, rfl, rfl, rfl, (Nat.le_refl _), k7⟩ ?_
      rintro m L w7 ⟨y1, y2, v6, hB1, l13_i1, B11_i1, O11c1_i1, N11c1_i1, l1_i1, l2_i1, l3_i1, l4_i1, l5_i1, l11_i1, l12_i1, Z0_i1, K0_i1⟩
      rcases m with _ | m
      · rw [law10_RightOrdered_l1] at hB1; cases hB1
      rw [law10_RightOrdered_l1] at hB1
      have k8 := k1.tr K0_i1
      have r31 := r15.ext K0_i1
      have r32 := r16.ext K0_i1
      have r33 := r17.ext K0_i1
      have r34 := r18.ext K0_i1
      have hb11 := hb2.ext K0_i1
      have hz := RV.sl O11c1_i1.rv; obtain ⟨a5, cq5, rfl, -, -, -⟩ := hz
      refine wp_seq <| wp_seq <| rg <| vl rfl rfl xmv <| vl rfl rfl xmv <| vl rfl rfl (xlss l13_i1 l12_i1) <| nl <| cnd rfl (fun h7 => ?_) (fun h7 => ?_)
      ·
        have hB1 := ifp hB1 h7
        refine wp_skip <| wp_seq <| wp_block <| wplG (row := (Value.ownBlock (.slice a5 y2.2.2.1.length cq5))) [15] (.pure true 0 (.pure false 1 (.pure true 2 (.pure false 3 (.pure true 4 (.pure true 5 (.pure true 6 (.pure true 7 (.pure true 8 (.pure true 9 (.pure true 10 (.pure false 11 (.eff 12 (.eff 13 (.pure true 14 (.eff 15 .fin .stop)) .stop) .stop))))))))))))) mixed (by kernel_rfl) (fun w8 hx5 => ?_)
        have k9 := k8.tr hx5
        have k10 := K0_i1.tr hx5
        have zs1 := Nat.le_trans Z0_i1 hx5.size
        have hb12 := hb11.ext hx5
        have r35 := r31.ext hx5
        have r36 := r32.ext hx5
        have r37 := r33.ext hx5
        have r38 := r34.ext hx5
        have B1 := B11_i1.ext hx5
        have O1 := O11c1_i1.ext hx5
        refine pv rfl rfl rfl (fun _ _ => xfa l11_i1 fa26_2) (.inl rfl) <| pv rfl rfl rfl (fun _ hS => xld rfl ti23 ((Bx.cs (Bx.gr B1 (hS.resolve_left nofun) N11c1_i1)).at 2 rfl)) (.inr (Ext.gro (Ext.refl _))) <| pv rfl rfl rfl (fun _ _ => xfa l5_i1 fa26_2) (.inl rfl) <| pv rfl rfl rfl (fun _ hS => xld rfl ti23 ((Bx.cs (Bx.gr hb12 (hS.resolve_left nofun) (O11c1_i1.ne_old (Nat.lt_of_lt_of_le hb2.lt k7.size)))).at 2 rfl)) (.inr (Ext.gro (Ext.refl _))) <| pv rfl rfl rfl (fun _ _ => xmv) (.inl rfl) <| pv rfl rfl rfl (fun _ _ => xmv) (.inl rfl) <| pv rfl rfl rfl (fun _ _ => xcvt l2_i1 Try.underlying5 Try.underlying3) (.inl rfl) <| pv rfl rfl rfl (fun _ _ => xadd l13_i1 rfl) (.inl rfl) <| pv rfl rfl rfl (fun _ _ => xmv) (.inl rfl) <| ?_
        have hz := bs hB1; obtain ⟨x8, Ex8, hB1⟩ := hz
        refine pv rfl rfl rfl (fun _ _ => xremv rfl l12_i1 Ex8) (.inl rfl) <| ?_
        have hz := bs hB1; obtain ⟨x9, Ex9, hB1⟩ := hz
        have hz := (RV.els r7).ix Ex9; obtain ⟨b8, f1, cs6, e5, i2, i3, q10, hc1⟩ := hz
        cases e5
        obtain ⟨_, _, rfl, ⟨a6, cq6, rfl, p5, q11, e6⟩, rfl⟩ := q10
        have r39 := RV.of1 p5 q11 e6
        have hc2 := hc1.ext k9
        have r40 := r39.ext k9
        refine pv rfl rfl rfl (fun _ _ => xixs rfl rfl Try.underlying23 ti54 i2 i3) (.inl rfl) <| pv rfl rfl rfl (fun _ hS => xlda rfl ti54 rfl (Cs.gro0 hc1 k9 (hS.resolve_left nofun) (fun q e => Nat.le_trans k6.size (O11c1_i1.lt q e).1))) (.inr (Ext.gro (Ext.refl _))) <| pe1 rfl <| sbsv (cs := [.slice a6 x9.1.length cq6, .int .i64 x9.2]) Try.underlying23 ti54 rfl (pc rfl pn) rfl rfl rfl rfl rfl fun b9 w9 hx6 hg3 hb13 => ?_
        have k11 := k9.tr hx6
        have k12 := k10.tr hx6
        have zs2 := Nat.le_trans zs1 hx6.size
        have hb14 := hb12.ext hx6
        have r42 := r35.ext hx6
        have r43 := r36.ext hx6
        have r44 := r37.ext hx6
        have r45 := r38.ext hx6
        have B2 := B1.ext hx6
        have O2 := O1.ext hx6
        have r46 := r40.ext hx6
        have r41 : RV w9 (.slice (some ⟨b9, 0, none⟩) 1 1) ([(x9.1, x9.2)] : List ((List Int) × Int)) := RV.lit hb13 (css := [[.slice a6 x9.1.length cq6] ++ [.int .i64 x9.2]]) rfl ⟨⟨[.slice a6 x9.1.length cq6], [.int .i64 x9.2], rfl, r46.rep1, rfl⟩, trivial⟩ rfl (ble rfl)
        refine nl ⟨fun _ _ => (Ext.gro hx6), ?_⟩
        have hz := bs hB1; obtain ⟨x10, Ex10, hB1⟩ := hz
        refine pe1 rfl <| sapd (l := y2.2.2.1) (k := ([(x9.1, x9.2)] : List ((List Int) × Int))) rfl rfl Try.underlying23 ti54 rfl rfl O2 (ElsD.lit1 hb13 ⟨[.slice a6 x9.1.length cq6], [.int .i64 x9.2], rfl, (RVo.rep1 (RVo.oko (RVo.ext (RV.old (w := w0) r39) k11) (O2.geo k6.size))), rfl⟩) Ex10 zs2 fun v8 w10 o2 hB3 hgr1 how1 => ?_
        have k13 := Ext.grow k11 k6.size hB3
        have k14 := Ext.grow k12 k7.size hB3
        have zs3 := Nat.le_trans zs2 hgr1.size
        have gS1 := World.grownBy.tr (Ext.gro hx6) hgr1
        have hb15 := hb2.ext k14
        have r47 := r15.ext k14
        have r48 := r16.ext k14
        have r49 := r17.ext k14
        have r50 := r18.ext k14
        have ne1 := ne_app how1 N11c1_i1 B2.lt
        have hb16 := Bx.gr B2 hgr1 N11c1_i1
        have hz := RV.sl o2.rv; obtain ⟨a7, cq7, rfl, -, -, -⟩ := hz
        refine nl ⟨fun _ _ => gS1, ?_⟩
        refine pv rfl rfl rfl (fun _ _ => xfa l11_i1 fa26_2) (.inl rfl) <| pe1 rfl <| sst rfl rfl rfl ti23 hb16 rfl rfl (ble rfl) fun w11 hch3 hb17 => ?_
        have k15 := Ext.chg k13 hch3 (Nat.le_trans k1.size hg2)
        have k16 := Ext.chg k14 hch3 (Nat.le_trans (Nat.le_refl _) hg2)
        have zs4 := Nat.le_trans zs3 (Nat.le_of_eq hch3.size.symm)
        have hb18 := hb2.ext k16
        have r51 := r15.ext k16
        have r52 := r16.ext k16
        have r53 := r17.ext k16
        have r54 := r18.ext k16
        have o3 := o2.chgo hch3 (Nat.le_trans k1.size hg2) hb10.lt
        have hb19 : Bx w11 b7 26 [.int .i64 y2.1, .slice a1 x0.2.1.length cq1, .slice a7 x10.length cq7, .slice a3 x0.2.2.2.1.length cq3, .slice a4 x0.2.2.2.2.length cq4] := hb17
        refine nl ⟨fun h => (h (by decide)).elim, ?_⟩
        refine rg <| vl rfl rfl xmv <| vl rfl rfl (xadd l13_i1 rfl) <| vl rfl rfl xas <| nl <| ?_
        refine lq m (Nat.lt_succ_self _) <| ?_
        exact ⟨_, _, _, hB1, rfl, hb19, o3, ne1, l1_i1, l2_i1, l3_i1, l4_i1, l5_i1, l11_i1, l12_i1, zs4, k16⟩
      ·
        have hB1 := ifn hB1 h7
        refine wp_exit <| ?_
        cases hB1
        refine lf <| ?_
        exact ⟨_, B11_i1, O11c1_i1, N11c1_i1, l1_i1, l3_i1, l4_i1, l5_i1, l11_i1, l12_i1, Z0_i1, K0_i1⟩
    rintro L w12 ⟨v7, B11_j1, O11c1_j1, N11c1_j1, l1_j1, l3_j1, l4_j1, l5_j1, l11_j1, l12_j1, Z0_j1, K0_j1⟩
    have k17 := k1.tr K0_j1
    have r55 := r15.ext K0_j1
    have r56 := r16.ext K0_j1
    have r57 := r17.ext K0_j1
    have r58 := r18.ext K0_j1
    have hb20 := hb2.ext K0_j1
    have hz := RV.sl O11c1_j1.rv; obtain ⟨a8, cq8, rfl, -, -, -⟩ := hz
    refine wp_seq <| wp_seq <| rg <| vl rfl rfl (xfa l5_j1 fa26_1) <| vl rfl rfl (xld rfl ti22 ((Bx.cs hb20).at 1 rfl)) <| vl rfl rfl (xlen rfl Try.underlying22) <| vl rfl rfl (xgtr rfl rfl) <| vl rfl rfl xmv <| gv rfl rfl rfl rfl (gw1 rfl) rfl (fun hc => xmva l12_j1) <| gv rfl rfl rfl rfl (gw1 rfl) rfl (fun hc => xlss (mv hc rfl) rfl) <| vl rfl rfl (xpa rfl rfl rfl) <| nl <| ?_
    have hz := bs hF; obtain ⟨y3, hB5, hF⟩ := hz
    refine ct (fun L w => ∃ v9 : Value, Bx w b7 26 [.int .i64 y3.1, .slice a1 x0.2.1.length cq1, v9, .slice a3 x0.2.2.2.1.length cq3, .slice a4 x0.2.2.2.2.length cq4] ∧ DRow w0.heap.size 54 w6.heap.size w v9 y3.2.2.1 ∧ some b7 ≠ Value.ownBlock v9 ∧ L 1 = .int .u16 x1 ∧ L 5 = .pointer (some ⟨b6, 0, none⟩) ∧ L 11 = .pointer (some ⟨b7, 0, none⟩) ∧ w6.heap.size ≤ w.heap.size ∧ Ext w2 w) ?_ ?_
    ·
      refine cnd rfl (fun h8 => ?_) (fun h8 => ?_)
      ·
        have hB5 := ifp hB5 h8
        refine wplG (row := (Value.ownBlock (.slice a8 z1.2.2.1.length cq8))) [22] (.pure true 0 (.pure false 1 (.pure true 2 (.pure false 3 (.pure true 4 (.pure true 5 (.pure true 6 (.pure false 7 (.pure false 8 (.pure true 9 (.pure true 10 (.pure false 11 (.pure true 12 (.pure true 13 (.pure true 14 (.pure false 15 (.pure true 16 (.eff 17 (.eff 18 (.eff 19 (.eff 20 (.pure true 21 (.eff 22 .fin .stop)) .stop) .stop) .stop) .stop)))))))))))))))))) mixed (by kernel_rfl) (fun w13 hx7 => ?_)
        have k18 := k17.tr hx7
        have k19 := K0_j1.tr hx7
        have zs5 := Nat.le_trans Z0_j1 hx7.size
        have hb21 := hb20.ext hx7
        have r59 := r55.ext hx7
        have r60 := r56.ext hx7
        have r61 := r57.ext hx7
        have r62 := r58.ext hx7
        have B3 := B11_j1.ext hx7
        have O3 := O11c1_j1.ext hx7
        refine pv rfl rfl rfl (fun _ _ => xfa l11_j1 fa26_2) (.inl rfl) <| pv rfl rfl rfl (fun _ hS => xld rfl ti23 ((Bx.cs (Bx.gr B3 (hS.resolve_left nofun) N11c1_j1)).at 2 rfl)) (.inr (Ext.gro (Ext.refl _))) <| pv rfl rfl rfl (fun _ _ => xfa l5_j1 fa26_1) (.inl rfl) <| pv rfl rfl rfl (fun _ hS => xld rfl ti22 ((Bx.cs (Bx.gr hb21 (hS.resolve_left nofun) (O11c1_j1.ne_old (Nat.lt_of_lt_of_le hb2.lt k7.size)))).at 1 rfl)) (.inr (Ext.gro (Ext.refl _))) <| pv rfl rfl rfl (fun _ _ => xmv) (.inl rfl) <| pv rfl rfl rfl (fun _ _ => xcvt l3_j1 Try.underlying5 Try.underlying3) (.inl rfl) <| pv rfl rfl rfl (fun _ _ => xfa l5_j1 fa26_1) (.inl rfl) <| pv rfl rfl rfl (fun _ hS => xld rfl ti22 ((Bx.cs (Bx.gr hb21 (hS.resolve_left nofun) (O11c1_j1.ne_old (Nat.lt_of_lt_of_le hb2.lt k7.size)))).at 1 rfl)) (.inr (Ext.gro (Ext.refl _))) <| pv rfl rfl rfl (fun _ hS => xlen rfl Try.underlying22) (.inr (Ext.gro (Ext.refl _))) <| ?_
        have hz := bs hB5; obtain ⟨x11, Ex11, hB5⟩ := hz
        refine pv rfl rfl rfl (fun _ _ => xremv rfl rfl Ex11) (.inl rfl) <| ?_
        have hz := bs hB5; obtain ⟨x12, Ex12, hB5⟩ := hz
        have hz := (RV.els r6).ix Ex12; obtain ⟨b10, f2, cs7, e7, i4, i5, q12, hc3⟩ := hz
        cases e7
        obtain rfl := q12
        have hc4 := hc3.ext k18
        refine pv rfl rfl rfl (fun _ _ => xixs rfl rfl Try.underlying22 ti3 i4 i5) (.inl rfl) <| pv rfl rfl rfl (fun _ hS => xld rfl ti3 ((Cs.gro0 hc3 k18 (hS.resolve_left nofun) (fun q e => Nat.le_trans k6.size (O11c1_j1.lt q e).1)).at 0 rfl)) (.inr (Ext.gro (Ext.refl _))) <| pv rfl rfl rfl (fun _ _ => xmv) (.inl rfl) <| pv rfl rfl rfl (fun _ _ => xcvt l4_j1 Try.underlying5 Try.underlying3) (.inl rfl) <| pv rfl rfl rfl (fun _ _ => xfa l5_j1 fa26_0) (.inl rfl) <| pv rfl rfl rfl (fun _ hS => xld rfl ti3 ((Bx.cs (Bx.gr hb21 (hS.resolve_left nofun) (O11c1_j1.ne_old (Nat.lt_of_lt_of_le hb2.lt k7.size)))).at 0 rfl)) (.inr (Ext.gro (Ext.refl _))) <| ?_
        have hz := bs hB5; obtain ⟨x13, Ex13, hB5⟩ := hz
        refine pv rfl rfl rfl (fun _ _ => xremv rfl rfl Ex13) (.inl rfl) <| pe1 rfl <| sbsv (cs := [.int .i64 x13]) Try.underlying22 ti3 rfl (pc rfl pn) rfl rfl rfl rfl rfl fun b11 w14 hx8 hg4 hb22 => ?_
        have k20 := k18.tr hx8
        have k21 := k19.tr hx8
        have k22 := hx7.tr hx8
        have zs6 := Nat.le_trans zs5 hx8.size
        have hb23 := hb21.ext hx8
        have r63 := r59.ext hx8
        have r64 := r60.ext hx8
        have r65 := r61.ext hx8
        have r66 := r62.ext hx8
        have B4 := B3.ext hx8
        have O4 := O3.ext hx8
        have o4 : Row (α := Int) 3 w13.heap.size w14 (.slice (some ⟨b11, 0, none⟩) 1 1) [x13] := Row.lit hg4 hb22 rfl (ble rfl)
        refine nl ⟨fun _ _ => (Ext.gro hx8), ?_⟩
        refine pe1 rfl <| cl rfl rfl (xc cb38 (mc rfl (mc rfl mn))) c38x ?_
        rintro _ w15 ⟨rfl, hx9⟩
        have k23 := k20.tr hx9
        have k24 := k21.tr hx9
        have k25 := k22.tr hx9
        have k26 := hx8.tr hx9
        have zs7 := Nat.le_trans zs6 hx9.size
        have hb24 := hb23.ext hx9
        have r68 := r63.ext hx9
        have r69 := r64.ext hx9
        have r70 := r65.ext hx9
        have r71 := r66.ext hx9
        have B5 := B4.ext hx9
        have O5 := O4.ext hx9
        have o5 := o4.ext hx9
        refine nl ⟨fun _ _ => (Ext.gro k26), ?_⟩
        refine pe1 rfl <| sbsv (cs := [.slice (some ⟨b11, 0, none⟩) ([x13] : List Int).length 1, .int .i64 x12]) Try.underlying23 ti54 rfl (pc rfl pn) rfl rfl rfl rfl rfl fun b12 w16 hx10 hg5 hb25 => ?_
        have k27 := k23.tr hx10
        have k28 := k24.tr hx10
        have k29 := k25.tr hx10
        have k30 := k26.tr hx10
        have zs8 := Nat.le_trans zs7 hx10.size
        have hb26 := hb24.ext hx10
        have r73 := r68.ext hx10
        have r74 := r69.ext hx10
        have r75 := r70.ext hx10
        have r76 := r71.ext hx10
        have B6 := B5.ext hx10
        have O6 := O5.ext hx10
        have o6 := o5.ext hx10
        have r72 : RV w16 (.slice (some ⟨b12, 0, none⟩) 1 1) ([(([x13] : List Int), x12)] : List ((List Int) × Int)) := RV.lit hb25 (css := [[.slice (some ⟨b11, 0, none⟩) ([x13] : List Int).length 1] ++ [.int .i64 x12]]) rfl ⟨⟨[.slice (some ⟨b11, 0, none⟩) ([x13] : List Int).length 1], [.int .i64 x12], rfl, o6.rv.rep1, rfl⟩, trivial⟩ rfl (ble rfl)
        refine nl ⟨fun _ _ => (Ext.gro k30), ?_⟩
        have hz := bs hB5; obtain ⟨x14, Ex14, hB5⟩ := hz
        refine pe1 rfl <| sapd (l := z1.2.2.1) (k := ([(([x13] : List Int), x12)] : List ((List Int) × Int))) rfl rfl Try.underlying23 ti54 rfl rfl O6 (ElsD.lit1 hb25 ⟨[.slice (some ⟨b11, 0, none⟩) ([x13] : List Int).length 1], [.int .i64 x12], rfl, (RVo.rep1 (RVo.okn (Row.rvob o6) zs5 O3.own_lt)), rfl⟩) Ex14 zs8 fun v10 w17 o7 hB7 hgr2 how2 => ?_
        have k31 := Ext.grow k27 k6.size hB7
        have k32 := Ext.grow k28 k7.size hB7
        have zs9 := Nat.le_trans zs8 hgr2.size
        have gS2 := World.grownBy.tr (Ext.gro k30) hgr2
        have hb27 := hb2.ext k32
        have r77 := r15.ext k32
        have r78 := r16.ext k32
        have r79 := r17.ext k32
        have r80 := r18.ext k32
        have ne2 := ne_app how2 N11c1_j1 B6.lt
        have hb28 := Bx.gr B6 hgr2 N11c1_j1
        have hz := RV.sl o7.rv; obtain ⟨a9, cq9, rfl, -, -, -⟩ := hz
        refine nl ⟨fun _ _ => gS2, ?_⟩
        refine pv rfl rfl rfl (fun _ _ => xfa l11_j1 fa26_2) (.inl rfl) <| pe1 rfl <| sst rfl rfl rfl ti23 hb28 rfl rfl (ble rfl) fun w18 hch4 hb29 => ?_
        have k33 := Ext.chg k31 hch4 (Nat.le_trans k1.size hg2)
        have k34 := Ext.chg k32 hch4 (Nat.le_trans (Nat.le_refl _) hg2)
        have zs10 := Nat.le_trans zs9 (Nat.le_of_eq hch4.size.symm)
        have hb30 := hb2.ext k34
        have r81 := r15.ext k34
        have r82 := r16.ext k34
        have r83 := r17.ext k34
        have r84 := r18.ext k34
        have o8 := o7.chgo hch4 (Nat.le_trans k1.size hg2) hb10.lt
        have hb31 : Bx w18 b7 26 [.int .i64 z1.1, .slice (some ⟨b10, f2, none⟩) x0.2.1.length cq1, .slice a9 x14.length cq9, .slice a3 x0.2.2.2.1.length cq3, .slice a4 x0.2.2.2.2.length cq4] := hb29
        refine nl ⟨fun h => (h (by decide)).elim, ?_⟩
        cases hB5
        refine lf <| ?_
        exact ⟨_, hb31, o8, ne2, l1_j1, l5_j1, l11_j1, zs10, k34⟩
      ·
        have hB5 := ifn hB5 h8
        refine wp_skip <| ?_
        cases hB5
        refine lf <| ?_
        exact ⟨_, B11_j1, O11c1_j1, N11c1_j1, l1_j1, l5_j1, l11_j1, Z0_j1, K0_j1⟩
    rintro L w19 ⟨v9, B11_j2, O11c1_j2, N11c1_j2, l1_j2, l5_j2, l11_j2, Z0_j2, K0_j2⟩
    have k35 := k1.tr K0_j2
    have r85 := r15.ext K0_j2
    have r86 := r16.ext K0_j2
    have r87 := r17.ext K0_j2
    have r88 := r18.ext K0_j2
    have hb32 := hb2.ext K0_j2
    have hz := RV.sl O11c1_j2.rv; obtain ⟨a10, cq10, rfl, -, -, -⟩ := hz
    refine wp_seq <| rg <| vl rfl rfl (xlda l5_j2 ti26 rfl (Bx.cs hb32)) <| vl rfl rfl xmv <| ?_
    have hz := bs hF; obtain ⟨x15, Ex15, hF⟩ := hz
    refine cl rfl rfl (xc cb31 (mc rfl (mc l1_j2 mn))) (c31 (show RV (α := (Int × (List Int) × (List ((List Int) × Int)) × (List ((List Int) × Int)) × (List (List Int)))) _ (.agg [.int .i64 x0.1, .slice a1 x0.2.1.length cq1, .slice a2 x0.2.2.1.length cq2, .slice a3 x0.2.2.2.1.length cq3, .slice a4 x0.2.2.2.2.length cq4].toArray) (x0.1, x0.2.1, x0.2.2.1, x0.2.2.2.1, x0.2.2.2.2) from ⟨_, rfl, ⟨[.int .i64 x0.1], [.slice a1 x0.2.1.length cq1] ++ ([.slice a2 x0.2.2.1.length cq2] ++ ([.slice a3 x0.2.2.2.1.length cq3] ++ [.slice a4 x0.2.2.2.2.length cq4])), rfl, rfl, ⟨[.slice a1 x0.2.1.length cq1], [.slice a2 x0.2.2.1.length cq2] ++ ([.slice a3 x0.2.2.2.1.length cq3] ++ [.slice a4 x0.2.2.2.2.length cq4]), rfl, r85.rep1, ⟨[.slice a2 x0.2.2.1.length cq2], [.slice a3 x0.2.2.2.1.length cq3] ++ [.slice a4 x0.2.2.2.2.length cq4], rfl, r86.rep1, ⟨[.slice a3 x0.2.2.2.1.length cq3], [.slice a4 x0.2.2.2.2.length cq4], rfl, r87.rep1, r88.rep1⟩⟩⟩⟩⟩) Ex15) ?_
    rintro _ w20 ⟨u1, rfl, r89, hx11⟩
    have k36 := k35.tr hx11
    have k37 := K0_j2.tr hx11
    have zs11 := Nat.le_trans Z0_j2 hx11.size
    have hb33 := hb32.ext hx11
    have r90 := r85.ext hx11
    have r91 := r86.ext hx11
    have r92 := r87.ext hx11
    have r93 := r88.ext hx11
    have B7 := B11_j2.ext hx11
    have O7 := O11c1_j2.ext hx11
    have hz := RV.sl r89.rv; obtain ⟨a11, cq11, rfl, -, -, -⟩ := hz
    refine vl rfl rfl xas <| nl <| wp_seq <| rg <| vl rfl rfl (xlda l5_j2 ti26 rfl (Bx.cs hb33)) <| vl rfl rfl xmv <| ?_
    have hz := bs hF; obtain ⟨x16, Ex16, hF⟩ := hz
    refine cl rfl rfl (xc cb33 (mc rfl (mc rfl mn))) (c33 (show RV (α := (Int × (List Int) × (List ((List Int) × Int)) × (List ((List Int) × Int)) × (List (List Int)))) _ (.agg [.int .i64 x0.1, .slice a1 x0.2.1.length cq1, .slice a2 x0.2.2.1.length cq2, .slice a3 x0.2.2.2.1.length cq3, .slice a4 x0.2.2.2.2.length cq4].toArray) (x0.1, x0.2.1, x0.2.2.1, x0.2.2.2.1, x0.2.2.2.2) from ⟨_, rfl, ⟨[.int .i64 x0.1], [.slice a1 x0.2.1.length cq1] ++ ([.slice a2 x0.2.2.1.length cq2] ++ ([.slice a3 x0.2.2.2.1.length cq3] ++ [.slice a4 x0.2.2.2.2.length cq4])), rfl, rfl, ⟨[.slice a1 x0.2.1.length cq1], [.slice a2 x0.2.2.1.length cq2] ++ ([.slice a3 x0.2.2.2.1.length cq3] ++ [.slice a4 x0.2.2.2.2.length cq4]), rfl, r90.rep1, ⟨[.slice a2 x0.2.2.1.length cq2], [.slice a3 x0.2.2.2.1.length cq3] ++ [.slice a4 x0.2.2.2.2.length cq4], rfl, r91.rep1, ⟨[.slice a3 x0.2.2.2.1.length cq3], [.slice a4 x0.2.2.2.2.length cq4], rfl, r92.rep1, r93.rep1⟩⟩⟩⟩⟩) r89.rv Ex16) ?_
    rintro _ w21 ⟨u2, rfl, r94, hx12⟩
    have k38 := k36.tr hx12
    have k39 := k37.tr hx12
    have k40 := hx11.tr hx12
    have zs12 := Nat.le_trans zs11 hx12.size
    have hb34 := hb33.ext hx12
    have r95 := r90.ext hx12
    have r96 := r91.ext hx12
    have r97 := r92.ext hx12
    have r98 := r93.ext hx12
    have B8 := B7.ext hx12
    have O8 := O7.ext hx12
    have r99 := r89.ext hx12
    have hz := RV.sl r94; obtain ⟨a12, cq12, rfl, -, -, -⟩ := hz
    refine vl rfl rfl xmv <| vl rfl rfl (xext rfl rfl) <| vl rfl rfl (xext rfl rfl) <| vl rfl rfl xas <| vl rfl rfl xas <| nl <| wp_seq <| rg <| vl rfl rfl (xlda l11_j2 ti26 rfl (Bx.cs B8)) <| vl rfl rfl xmv <| ?_
    have hz := bs hF; obtain ⟨x17, Ex17, hF⟩ := hz
    refine cl rfl rfl (xc cb33 (mc rfl (mc rfl mn))) (c33 (show RV (α := (Int × (List Int) × (List ((List Int) × Int)) × (List ((List Int) × Int)) × (List (List Int)))) _ (.agg [.int .i64 y3.1, .slice a1 x0.2.1.length cq1, .slice a10 y3.2.2.1.length cq10, .slice a3 x0.2.2.2.1.length cq3, .slice a4 x0.2.2.2.2.length cq4].toArray) (y3.1, x0.2.1, y3.2.2.1, x0.2.2.2.1, x0.2.2.2.2) from ⟨_, rfl, ⟨[.int .i64 y3.1], [.slice a1 x0.2.1.length cq1] ++ ([.slice a10 y3.2.2.1.length cq10] ++ ([.slice a3 x0.2.2.2.1.length cq3] ++ [.slice a4 x0.2.2.2.2.length cq4])), rfl, rfl, ⟨[.slice a1 x0.2.1.length cq1], [.slice a10 y3.2.2.1.length cq10] ++ ([.slice a3 x0.2.2.2.1.length cq3] ++ [.slice a4 x0.2.2.2.2.length cq4]), rfl, r95.rep1, ⟨[.slice a10 y3.2.2.1.length cq10], [.slice a3 x0.2.2.2.1.length cq3] ++ [.slice a4 x0.2.2.2.2.length cq4], rfl, O8.rv.rep1, ⟨[.slice a3 x0.2.2.2.1.length cq3], [.slice a4 x0.2.2.2.2.length cq4], rfl, r97.rep1, r98.rep1⟩⟩⟩⟩⟩) r99.rv Ex17) ?_
    rintro _ w22 ⟨u3, rfl, r100, hx13⟩
    have k41 := k38.tr hx13
    have k42 := k39.tr hx13
    have k43 := k40.tr hx13
    have zs13 := Nat.le_trans zs12 hx13.size
    have hb35 := hb34.ext hx13
    have r101 := r95.ext hx13
    have r102 := r96.ext hx13
    have r103 := r97.ext hx13
    have r104 := r98.ext hx13
    have B9 := B8.ext hx13
    have O9 := O8.ext hx13
    have r105 := r94.ext hx13
    have hz := RV.sl r100; obtain ⟨a13, cq13, rfl, -, -, -⟩ := hz
    refine vl rfl rfl xmv <| vl rfl rfl (xext rfl rfl) <| vl rfl rfl (xext rfl rfl) <| vl rfl rfl xas <| vl rfl rfl xas <| nl <| wp_seq <| rg <| vl rfl rfl (xlda l5_j2 ti26 rfl (Bx.cs hb35)) <| ?_
    have hz := bs hF; obtain ⟨x18, Ex18, hF⟩ := hz
    refine cl rfl rfl (xc cb21 (mc rfl mn)) (c21 (show RV (α := (Int × (List Int) × (List ((List Int) × Int)) × (List ((List Int) × Int)) × (List (List Int)))) _ (.agg [.int .i64 x0.1, .slice a1 x0.2.1.length cq1, .slice a2 x0.2.2.1.length cq2, .slice a3 x0.2.2.2.1.length cq3, .slice a4 x0.2.2.2.2.length cq4].toArray) (x0.1, x0.2.1, x0.2.2.1, x0.2.2.2.1, x0.2.2.2.2) from ⟨_, rfl, ⟨[.int .i64 x0.1], [.slice a1 x0.2.1.length cq1] ++ ([.slice a2 x0.2.2.1.length cq2] ++ ([.slice a3 x0.2.2.2.1.length cq3] ++ [.slice a4 x0.2.2.2.2.length cq4])), rfl, rfl, ⟨[.slice a1 x0.2.1.length cq1], [.slice a2 x0.2.2.1.length cq2] ++ ([.slice a3 x0.2.2.2.1.length cq3] ++ [.slice a4 x0.2.2.2.2.length cq4]), rfl, r101.rep1, ⟨[.slice a2 x0.2.2.1.length cq2], [.slice a3 x0.2.2.2.1.length cq3] ++ [.slice a4 x0.2.2.2.2.length cq4], rfl, r102.rep1, ⟨[.slice a3 x0.2.2.2.1.length cq3], [.slice a4 x0.2.2.2.2.length cq4], rfl, r103.rep1, r104.rep1⟩⟩⟩⟩⟩) Ex18) ?_
    rintro _ w23 ⟨u4, rfl, r106, hx14⟩
    have k44 := k41.tr hx14
    have k45 := k42.tr hx14
    have k46 := k43.tr hx14
    have zs14 := Nat.le_trans zs13 hx14.size
    have hb36 := hb35.ext hx14
    have r107 := r101.ext hx14
    have r108 := r102.ext hx14
    have r109 := r103.ext hx14
    have r110 := r104.ext hx14
    have B10 := B9.ext hx14
    have O10 := O9.ext hx14
    have r111 := r105.ext hx14
    have r112 := r100.ext hx14
    have hz := RV.sl r106; obtain ⟨a14, cq14, rfl, -, -, -⟩ := hz
    refine vl rfl rfl xmv <| vl rfl rfl (xext rfl rfl) <| vl rfl rfl (xext rfl rfl) <| vl rfl rfl xas <| vl rfl rfl xas <| nl <| wp_seq <| rg <| vl rfl rfl (xlda l11_j2 ti26 rfl (Bx.cs B10)) <| ?_
    have hz := bs hF; obtain ⟨x19, Ex19, hF⟩ := hz
    refine cl rfl rfl (xc cb21 (mc rfl mn)) (c21 (show RV (α := (Int × (List Int) × (List ((List Int) × Int)) × (List ((List Int) × Int)) × (List (List Int)))) _ (.agg [.int .i64 y3.1, .slice a1 x0.2.1.length cq1, .slice a10 y3.2.2.1.length cq10, .slice a3 x0.2.2.2.1.length cq3, .slice a4 x0.2.2.2.2.length cq4].toArray) (y3.1, x0.2.1, y3.2.2.1, x0.2.2.2.1, x0.2.2.2.2) from ⟨_, rfl, ⟨[.int .i64 y3.1], [.slice a1 x0.2.1.length cq1] ++ ([.slice a10 y3.2.2.1.length cq10] ++ ([.slice a3 x0.2.2.2.1.length cq3] ++ [.slice a4 x0.2.2.2.2.length cq4])), rfl, rfl, ⟨[.slice a1 x0.2.1.length cq1], [.slice a10 y3.2.2.1.length cq10] ++ ([.slice a3 x0.2.2.2.1.length cq3] ++ [.slice a4 x0.2.2.2.2.length cq4]), rfl, r107.rep1, ⟨[.slice a10 y3.2.2.1.length cq10], [.slice a3 x0.2.2.2.1.length cq3] ++ [.slice a4 x0.2.2.2.2.length cq4], rfl, O10.rv.rep1, ⟨[.slice a3 x0.2.2.2.1.length cq3], [.slice a4 x0.2.2.2.2.length cq4], rfl, r109.rep1, r110.rep1⟩⟩⟩⟩⟩) Ex19) ?_
    rintro _ w24 ⟨u5, rfl, r113, hx15⟩
    have k47 := k44.tr hx15
    have k48 := k45.tr hx15
    have k49 := k46.tr hx15
    have zs15 := Nat.le_trans zs14 hx15.size
    have hb37 := hb36.ext hx15
    have r114 := r107.ext hx15
    have r115 := r108.ext hx15
    have r116 := r109.ext hx15
    have r117 := r110.ext hx15
    have B11 := B10.ext hx15
    have O11 := O10.ext hx15
    have r118 := r111.ext hx15
    have r119 := r112.ext hx15
    have r120 := r106.ext hx15
    have hz := RV.sl r113; obtain ⟨a15, cq15, rfl, -, -, -⟩ := hz
    refine vl rfl rfl xmv <| vl rfl rfl (xext rfl rfl) <| vl rfl rfl (xext rfl rfl) <| vl rfl rfl xas <| vl rfl rfl xas <| nl <| wp_seq <| rg <| vl rfl rfl (xlda l5_j2 ti26 rfl (Bx.cs hb37)) <| ?_
    have hz := bs hF; obtain ⟨x20, Ex20, hF⟩ := hz
    refine cl rfl rfl (xc cb24 (mc rfl mn)) (c24 (show RV (α := (Int × (List Int) × (List ((List Int) × Int)) × (List ((List Int) × Int)) × (List (List Int)))) _ (.agg [.int .i64 x0.1, .slice a1 x0.2.1.length cq1, .slice a2 x0.2.2.1.length cq2, .slice a3 x0.2.2.2.1.length cq3, .slice a4 x0.2.2.2.2.length cq4].toArray) (x0.1, x0.2.1, x0.2.2.1, x0.2.2.2.1, x0.2.2.2.2) from ⟨_, rfl, ⟨[.int .i64 x0.1], [.slice a1 x0.2.1.length cq1] ++ ([.slice a2 x0.2.2.1.length cq2] ++ ([.slice a3 x0.2.2.2.1.length cq3] ++ [.slice a4 x0.2.2.2.2.length cq4])), rfl, rfl, ⟨[.slice a1 x0.2.1.length cq1], [.slice a2 x0.2.2.1.length cq2] ++ ([.slice a3 x0.2.2.2.1.length cq3] ++ [.slice a4 x0.2.2.2.2.length cq4]), rfl, r114.rep1, ⟨[.slice a2 x0.2.2.1.length cq2], [.slice a3 x0.2.2.2.1.length cq3] ++ [.slice a4 x0.2.2.2.2.length cq4], rfl, r115.rep1, ⟨[.slice a3 x0.2.2.2.1.length cq3], [.slice a4 x0.2.2.2.2.length cq4], rfl, r116.rep1, r117.rep1⟩⟩⟩⟩⟩) Ex20) ?_
    rintro _ w25 ⟨u6, rfl, r121, hx16⟩
    have k50 := k47.tr hx16
    have k51 := k48.tr hx16
    have k52 := k49.tr hx16
    have zs16 := Nat.le_trans zs15 hx16.size
    have B12 := B11.ext hx16
    have r122 := r114.ext hx16
    have O12 := O11.ext hx16
    have r123 := r116.ext hx16
    have r124 := r117.ext hx16
    have r125 := r118.ext hx16
    have r126 := r119.ext hx16
    have r127 := r120.ext hx16
    have r128 := r113.ext hx16
    have hz := RV.sl r121; obtain ⟨a16, cq16, rfl, -, -, -⟩ := hz
    refine vl rfl rfl xmv <| vl rfl rfl (xext rfl rfl) <| vl rfl rfl (xext rfl rfl) <| vl rfl rfl xas <| vl rfl rfl xas <| nl <| wp_seq <| rg <| vl rfl rfl (xlda l11_j2 ti26 rfl (Bx.cs B12)) <| ?_
    have hz := bs hF; obtain ⟨x21, Ex21, hF⟩ := hz
    refine cl rfl rfl (xc cb24 (mc rfl mn)) (c24 (show RV (α := (Int × (List Int) × (List ((List Int) × Int)) × (List ((List Int) × Int)) × (List (List Int)))) _ (.agg [.int .i64 y3.1, .slice a1 x0.2.1.length cq1, .slice a10 y3.2.2.1.length cq10, .slice a3 x0.2.2.2.1.length cq3, .slice a4 x0.2.2.2.2.length cq4].toArray) (y3.1, x0.2.1, y3.2.2.1, x0.2.2.2.1, x0.2.2.2.2) from ⟨_, rfl, ⟨[.int .i64 y3.1], [.slice a1 x0.2.1.length cq1] ++ ([.slice a10 y3.2.2.1.length cq10] ++ ([.slice a3 x0.2.2.2.1.length cq3] ++ [.slice a4 x0.2.2.2.2.length cq4])), rfl, rfl, ⟨[.slice a1 x0.2.1.length cq1], [.slice a10 y3.2.2.1.length cq10] ++ ([.slice a3 x0.2.2.2.1.length cq3] ++ [.slice a4 x0.2.2.2.2.length cq4]), rfl, r122.rep1, ⟨[.slice a10 y3.2.2.1.length cq10], [.slice a3 x0.2.2.2.1.length cq3] ++ [.slice a4 x0.2.2.2.2.length cq4], rfl, O12.rv.rep1, ⟨[.slice a3 x0.2.2.2.1.length cq3], [.slice a4 x0.2.2.2.2.length cq4], rfl, r123.rep1, r124.rep1⟩⟩⟩⟩⟩) Ex21) ?_
    rintro _ w26 ⟨u7, rfl, r129, hx17⟩
    have k53 := k50.tr hx17
    have k54 := k51.tr hx17
    have k55 := k52.tr hx17
    have zs17 := Nat.le_trans zs16 hx17.size
    have r130 := r125.ext hx17
    have r131 := r126.ext hx17
    have r132 := r127.ext hx17
    have r133 := r128.ext hx17
    have r134 := r121.ext hx17
    have hz := RV.sl r129; obtain ⟨a17, cq17, rfl, -, -, -⟩ := hz
    refine vl rfl rfl xmv <| vl rfl rfl (xext rfl rfl) <| vl rfl rfl (xext rfl rfl) <| vl rfl rfl xas <| vl rfl rfl xas <| nl <| wp_seq <| rg <| vl rfl rfl xmv <| vl rfl rfl (xeql rfl rfl) <| vl rfl rfl xmv <| gv rfl rfl rfl rfl (gw1 rfl) rfl (fun hc => xmva rfl) <| gv rfl rfl rfl rfl (gw1 rfl) rfl (fun hc => xeql (mv hc rfl) rfl) <| vl rfl rfl (xpa rfl rfl rfl) <| vl rfl rfl xmv <| gv rfl rfl rfl rfl (gw1 rfl) rfl (fun hc => xmva rfl) <| gv rfl rfl rfl rfl (gw1 rfl) rfl (fun hc => xeql (mv hc rfl) rfl) <| vl rfl rfl (xpa rfl rfl rfl) <| vl rfl rfl xmv <| gv rfl rfl rfl rfl (gw1 rfl) rfl (fun hc => xmva rfl) <| gv rfl rfl rfl rfl (gw1 rfl) rfl (fun hc => xeql (mv hc rfl) rfl) <| vl rfl rfl (xpa rfl rfl rfl) <| vl rfl rfl xmv <| gv rfl rfl rfl rfl (gw1 rfl) rfl (fun hc => xmva rfl) <| gv rfl rfl rfl rfl (gw1 rfl) rfl (fun hc => xeql (mv hc rfl) rfl) <| vl rfl rfl (xpa rfl rfl rfl) <| vl rfl rfl xmv <| gv rfl rfl rfl rfl (gw1 rfl) rfl (fun hc => xmva rfl) <| gv rfl rfl rfl rfl (gw1 rfl) rfl (fun hc => xeql (mv hc rfl) rfl) <| vl rfl rfl (xpa rfl rfl rfl) <| vl rfl rfl xmv <| gv rfl rfl rfl rfl (gw1 rfl) rfl (fun hc => xmva rfl) <| gv rfl rfl rfl rfl (gw1 rfl) rfl (fun hc => xmva rfl) <| ?_
    have hz := bs hF; obtain ⟨x22, Ex22, hF⟩ := hz
    refine gc rfl rfl rfl rfl (gw1 rfl) rfl (fun hc => xc cb23 (mc (mv hc rfl) (mc (mv hc rfl) mn))) (fun hc => (c23 r130 r131 (gdp Ex22 hc))) (fun v11 w27 hy1 hn1 => ?_)
    have hx18 : Ext w26 w27 := gx (fun h => (hy1 h).2) (fun h => (hn1 h).2 ▸ Ext.refl _)
    have e8 := mkw (fun h => (hy1 h).1) (fun h => (hn1 h).1)
    have k56 := k53.tr hx18
    have k57 := k54.tr hx18
    have k58 := k55.tr hx18
    have zs18 := Nat.le_trans zs17 hx18.size
    have r135 := r132.ext hx18
    have r136 := r133.ext hx18
    have r137 := r134.ext hx18
    have r138 := r129.ext hx18
    refine vl rfl rfl (xpa rfl e8 rfl) <| vl rfl rfl xmv <| gv rfl rfl rfl rfl (gw1 rfl) rfl (fun hc => xmva rfl) <| gv rfl rfl rfl rfl (gw1 rfl) rfl (fun hc => xmva rfl) <| ?_
    have hz := bs hF; obtain ⟨x23, Ex23, hF⟩ := hz
    refine gc rfl rfl rfl rfl (gw1 rfl) rfl (fun hc => xc cb23 (mc (mv hc rfl) (mc (mv hc rfl) mn))) (fun hc => (c23 r135 r136 (gdp Ex23 hc))) (fun v12 w28 hy2 hn2 => ?_)
    have hx19 : Ext w27 w28 := gx (fun h => (hy2 h).2) (fun h => (hn2 h).2 ▸ Ext.refl _)
    have e9 := mkw (fun h => (hy2 h).1) (fun h => (hn2 h).1)
    have k59 := k56.tr hx19
    have k60 := k57.tr hx19
    have k61 := k58.tr hx19
    have zs19 := Nat.le_trans zs18 hx19.size
    have r139 := r137.ext hx19
    have r140 := r138.ext hx19
    refine vl rfl rfl (xpa rfl e9 rfl) <| vl rfl rfl xmv <| gv rfl rfl rfl rfl (gw1 rfl) rfl (fun hc => xmva rfl) <| gv rfl rfl rfl rfl (gw1 rfl) rfl (fun hc => xmva rfl) <| ?_
    have hz := bs hF; obtain ⟨x24, Ex24, hF⟩ := hz
    refine gc rfl rfl rfl rfl (gw1 rfl) rfl (fun hc => xc cb23 (mc (mv hc rfl) (mc (mv hc rfl) mn))) (fun hc => (c23 r139 r140 (gdp Ex24 hc))) (fun v13 w29 hy3 hn3 => ?_)
    have hx20 : Ext w28 w29 := gx (fun h => (hy3 h).2) (fun h => (hn3 h).2 ▸ Ext.refl _)
    have e10 := mkw (fun h => (hy3 h).1) (fun h => (hn3 h).1)
    have k62 := k59.tr hx20
    have k63 := k60.tr hx20
    have k64 := k61.tr hx20
    have zs20 := Nat.le_trans zs19 hx20.size
    refine vl rfl rfl (xpa rfl e10 rfl) <| vl rfl rfl xmv <| ?_
    have hz := bs hF; obtain ⟨x25, Ex25, hF⟩ := hz
    refine gc rfl rfl rfl rfl (gw1 rfl) rfl (fun hc => xc cb15 mn) (fun hc => (c15 (gdp Ex25 hc))) (fun v14 w30 hy4 hn4 => ?_)
    have hx21 : Ext w29 w30 := gx (fun h => (hy4 h).2) (fun h => (hn4 h).2 ▸ Ext.refl _)
    have e11 := mkw (fun h => (hy4 h).1) (fun h => (hn4 h).1)
    have k65 := k62.tr hx21
    have k66 := k63.tr hx21
    have k67 := k64.tr hx21
    have zs21 := Nat.le_trans zs20 hx21.size
    refine vl rfl rfl (xpa rfl e11 rfl) <| vl rfl rfl xas <| nl <| ?_
    cases hF
    exact wp_ret <| rt rfl (.tmp rfl rfl .nil) ⟨rfl, k65⟩
end Go.Proofs.Ytdimoehnkagghaa
