/-
  Each function of the program returns what its pure function computes, and leaves all memory that was there as it was. Condition: the pure function computes something.
-/
import Derived.Test.YtdimoehnkagghaaFacts
import Derived.Test.YtdimoehnkagghaaPureG
import Derived.Test.YtdimoehnkagghaaWalkD
namespace Go.Proofs.Ytdimoehnkagghaa
open Go Go.Md Go.RowKit
attribute [local irreducible] Go.wpList Go.Code.wp Go.Calls Go.Md.Rnd Go.Md.Mt Go.Md.MtM Go.Md.RndM Go.Code.wpIn

set_option maxHeartbeats 4000000 in
theorem c9 {w0 : World} {v0 : Value} {x0 : (Int × (List Int) × (List ((List Int) × Int)) × (List ((List Int) × Int)) × (List (List Int)))} (r0 : RV w0 v0 x0) {x1 : Int} {v2 : Value} {x2 : (List (KI .u16))} (r2 : RV w0 v2 x2) {F : Nat} {r : Bool} (hF : law10_RightProved F x0 x1 x2 = some r) :
    Calls Try.prog 9 [v0, .int .u16 x1, v2].toArray w0 (Ret fun v w' => v = .bool r ∧ Ext w0 w') := by
  unfold law10_RightProved at hF
  have hz := id r0; obtain ⟨_, rfl, ⟨_, _, rfl, rfl, ⟨_, _, rfl, ⟨a1, cq1, rfl, p1, q4, e1⟩, ⟨_, _, rfl, ⟨a2, cq2, rfl, p2, q5, e2⟩, ⟨_, _, rfl, ⟨a3, cq3, rfl, p3, q6, e3⟩, ⟨a4, cq4, rfl, p4, q7, e4⟩⟩⟩⟩⟩⟩ := hz
  have r4 := RV.of1 p1 q4 e1
  have r5 := RV.of1 p2 q5 e2
  have r6 := RV.of1 p3 q6 e3
  have r7 := RV.of1 p4 q7 e4
  have hz := r2.sl; obtain ⟨a5, cq5, rfl, -, -, -⟩ := hz
  refine entr (n := 177) Try.func9 rfl rfl rfl <| wp_seq <| rg <| sbx rfl rfl fun b4 w1 hx1 hg1 hb1 => ?_
  have r8 := r2.ext hx1
  have r9 := r4.ext hx1
  have r10 := r5.ext hx1
  have r11 := r6.ext hx1
  have r12 := r7.ext hx1
  have r13 := r0.ext hx1
  refine vl rfl rfl xas <| nl <| wp_seq <| wp_seq <| rg <| vl rfl rfl (xlda rfl ti26 rfl (Bx.cs hb1)) <| ?_
  have hz := bs hF; obtain ⟨x4, Ex4, hF⟩ := hz
  refine cl rfl rfl (xc cb30 (mc rfl mn)) (c30 (show RV (α := (Int × (List Int) × (List ((List Int) × Int)) × (List ((List Int) × Int)) × (List (List Int)))) _ (.agg [.int .i64 x0.1, .slice a1 x0.2.1.length cq1, .slice a2 x0.2.2.1.length cq2, .slice a3 x0.2.2.2.1.length cq3, .slice a4 x0.2.2.2.2.length cq4].toArray) (x0.1, x0.2.1, x0.2.2.1, x0.2.2.2.1, x0.2.2.2.2) from ⟨_, rfl, ⟨[.int .i64 x0.1], [.slice a1 x0.2.1.length cq1] ++ ([.slice a2 x0.2.2.1.length cq2] ++ ([.slice a3 x0.2.2.2.1.length cq3] ++ [.slice a4 x0.2.2.2.2.length cq4])), rfl, rfl, ⟨[.slice a1 x0.2.1.length cq1], [.slice a2 x0.2.2.1.length cq2] ++ ([.slice a3 x0.2.2.2.1.length cq3] ++ [.slice a4 x0.2.2.2.2.length cq4]), rfl, r9.rep1, ⟨[.slice a2 x0.2.2.1.length cq2], [.slice a3 x0.2.2.2.1.length cq3] ++ [.slice a4 x0.2.2.2.2.length cq4], rfl, r10.rep1, ⟨[.slice a3 x0.2.2.2.1.length cq3], [.slice a4 x0.2.2.2.2.length cq4], rfl, r11.rep1, r12.rep1⟩⟩⟩⟩⟩) Ex4) ?_
  rintro _ w2 ⟨rfl, hx2⟩
  have k1 := hx1.tr hx2
  have hb2 := hb1.ext hx2
  have r14 := r9.ext hx2
  have r15 := r10.ext hx2
  have r16 := r11.ext hx2
  have r17 := r12.ext hx2
  have r18 := r8.ext hx2
  refine vl rfl rfl (xnot rfl) <| vl rfl rfl xmv <| gv rfl rfl rfl rfl (gw0 rfl) rfl (fun hc => xmva rfl) <| gv rfl rfl rfl rfl (gw0 rfl) rfl (fun hc => xlen (mv hc rfl) Try.underlying58) <| gv rfl rfl rfl rfl (gw0 rfl) rfl (fun hc => xgtr (mv hc rfl) rfl) <| vl rfl rfl (xpo rfl rfl rfl) <| nl <| cnd rfl (fun h4 => ?_) (fun h4 => ?_)
  ·
    have hF := ifp hF h4
    refine wp_seq <| rg <| ?_
    have hz := bs hF; obtain ⟨x5, Ex5, hF⟩ := hz
    refine cl rfl rfl (xc cb15 mn) (c15 Ex5) ?_
    rintro _ w3 ⟨rfl, hx3⟩
    have k2 := k1.tr hx3
    refine vl rfl rfl xas <| nl <| ?_
    cases hF
    exact wp_ret <| rt rfl (.tmp rfl rfl .nil) ⟨rfl, k2⟩
  ·
    have hF := ifn hF h4
    refine wp_skip <| wp_seq <| rg <| vl rfl rfl (xlda rfl ti26 rfl (Bx.cs hb2)) <| ?_
    have hz := bs hF; obtain ⟨x6, Ex6, hF⟩ := hz
    refine cl rfl rfl (xc cb24 (mc rfl mn)) (c24 (show RV (α := (Int × (List Int) × (List ((List Int) × Int)) × (List ((List Int) × Int)) × (List (List Int)))) _ (.agg [.int .i64 x0.1, .slice a1 x0.2.1.length cq1, .slice a2 x0.2.2.1.length cq2, .slice a3 x0.2.2.2.1.length cq3, .slice a4 x0.2.2.2.2.length cq4].toArray) (x0.1, x0.2.1, x0.2.2.1, x0.2.2.2.1, x0.2.2.2.2) from ⟨_, rfl, ⟨[.int .i64 x0.1], [.slice a1 x0.2.1.length cq1] ++ ([.slice a2 x0.2.2.1.length cq2] ++ ([.slice a3 x0.2.2.2.1.length cq3] ++ [.slice a4 x0.2.2.2.2.length cq4])), rfl, rfl, ⟨[.slice a1 x0.2.1.length cq1], [.slice a2 x0.2.2.1.length cq2] ++ ([.slice a3 x0.2.2.2.1.length cq3] ++ [.slice a4 x0.2.2.2.2.length cq4]), rfl, r14.rep1, ⟨[.slice a2 x0.2.2.1.length cq2], [.slice a3 x0.2.2.2.1.length cq3] ++ [.slice a4 x0.2.2.2.2.length cq4], rfl, r15.rep1, ⟨[.slice a3 x0.2.2.2.1.length cq3], [.slice a4 x0.2.2.2.2.length cq4], rfl, r16.rep1, r17.rep1⟩⟩⟩⟩⟩) Ex6) ?_
    rintro _ w4 ⟨u1, rfl, r19, hx4⟩
    have k3 := k1.tr hx4
    have hb3 := hb2.ext hx4
    have r20 := r14.ext hx4
    have r21 := r15.ext hx4
    have r22 := r16.ext hx4
    have r23 := r17.ext hx4
    have r24 := r18.ext hx4
    have hz := RV.sl r19; obtain ⟨a6, cq6, rfl, -, -, -⟩ := hz
    refine vl rfl rfl xmv <| vl rfl rfl (xext rfl rfl) <| vl rfl rfl (xext rfl rfl) <| vl rfl rfl xas <| vl rfl rfl xas <| nl <| wp_seq <| rg <| vl rfl rfl (xlda rfl ti26 rfl (Bx.cs hb3)) <| ?_
    have hz := bs hF; obtain ⟨x7, Ex7, hF⟩ := hz
    refine cl rfl rfl (xc cb28 (mc rfl mn)) (c28 (show RV (α := (Int × (List Int) × (List ((List Int) × Int)) × (List ((List Int) × Int)) × (List (List Int)))) _ (.agg [.int .i64 x0.1, .slice a1 x0.2.1.length cq1, .slice a2 x0.2.2.1.length cq2, .slice a3 x0.2.2.2.1.length cq3, .slice a4 x0.2.2.2.2.length cq4].toArray) (x0.1, x0.2.1, x0.2.2.1, x0.2.2.2.1, x0.2.2.2.2) from ⟨_, rfl, ⟨[.int .i64 x0.1], [.slice a1 x0.2.1.length cq1] ++ ([.slice a2 x0.2.2.1.length cq2] ++ ([.slice a3 x0.2.2.2.1.length cq3] ++ [.slice a4 x0.2.2.2.2.length cq4])), rfl, rfl, ⟨[.slice a1 x0.2.1.length cq1], [.slice a2 x0.2.2.1.length cq2] ++ ([.slice a3 x0.2.2.2.1.length cq3] ++ [.slice a4 x0.2.2.2.2.length cq4]), rfl, r20.rep1, ⟨[.slice a2 x0.2.2.1.length cq2], [.slice a3 x0.2.2.2.1.length cq3] ++ [.slice a4 x0.2.2.2.2.length cq4], rfl, r21.rep1, ⟨[.slice a3 x0.2.2.2.1.length cq3], [.slice a4 x0.2.2.2.2.length cq4], rfl, r22.rep1, r23.rep1⟩⟩⟩⟩⟩) Ex7) ?_
    rintro _ w5 ⟨u2, rfl, r25, hx5⟩
    have k4 := k3.tr hx5
    have hb4 := hb3.ext hx5
    have r26 := r20.ext hx5
    have r27 := r21.ext hx5
    have r28 := r22.ext hx5
    have r29 := r23.ext hx5
    have r30 := r24.ext hx5
    have r31 := r19.ext hx5
    have hz := RV.sl r25; obtain ⟨a7, cq7, rfl, -, -, -⟩ := hz
    refine vl rfl rfl xmv <| vl rfl rfl (xext rfl rfl) <| vl rfl rfl (xext rfl rfl) <| vl rfl rfl xas <| vl rfl rfl xas <| nl <| wp_seq <| rg <| vl rfl rfl (xlda rfl ti26 rfl (Bx.cs hb4)) <| ?_
    have hz := bs hF; obtain ⟨x8, Ex8, hF⟩ := hz
    refine cl rfl rfl (xc cb21 (mc rfl mn)) (c21 (show RV (α := (Int × (List Int) × (List ((List Int) × Int)) × (List ((List Int) × Int)) × (List (List Int)))) _ (.agg [.int .i64 x0.1, .slice a1 x0.2.1.length cq1, .slice a2 x0.2.2.1.length cq2, .slice a3 x0.2.2.2.1.length cq3, .slice a4 x0.2.2.2.2.length cq4].toArray) (x0.1, x0.2.1, x0.2.2.1, x0.2.2.2.1, x0.2.2.2.2) from ⟨_, rfl, ⟨[.int .i64 x0.1], [.slice a1 x0.2.1.length cq1] ++ ([.slice a2 x0.2.2.1.length cq2] ++ ([.slice a3 x0.2.2.2.1.length cq3] ++ [.slice a4 x0.2.2.2.2.length cq4])), rfl, rfl, ⟨[.slice a1 x0.2.1.length cq1], [.slice a2 x0.2.2.1.length cq2] ++ ([.slice a3 x0.2.2.2.1.length cq3] ++ [.slice a4 x0.2.2.2.2.length cq4]), rfl, r26.rep1, ⟨[.slice a2 x0.2.2.1.length cq2], [.slice a3 x0.2.2.2.1.length cq3] ++ [.slice a4 x0.2.2.2.2.length cq4], rfl, r27.rep1, ⟨[.slice a3 x0.2.2.2.1.length cq3], [.slice a4 x0.2.2.2.2.length cq4], rfl, r28.rep1, r29.rep1⟩⟩⟩⟩⟩) Ex8) ?_
    rintro _ w6 ⟨u3, rfl, r32, hx6⟩
    have k5 := k4.tr hx6
    have hb5 := hb4.ext hx6
    have r33 := r26.ext hx6
    have r34 := r27.ext hx6
    have r35 := r28.ext hx6
    have r36 := r29.ext hx6
    have r37 := r30.ext hx6
    have r38 := r31.ext hx6
    have r39 := r25.ext hx6
    have hz := RV.sl r32; obtain ⟨a8, cq8, rfl, -, -, -⟩ := hz
    refine vl rfl rfl xmv <| vl rfl rfl (xext rfl rfl) <| vl rfl rfl (xext rfl rfl) <| vl rfl rfl xas <| vl rfl rfl xas <| nl <| wp_seq <| wp_seq <| rg <| vl rfl rfl xmv <| vl rfl rfl (xneq rfl rfl) <| vl rfl rfl xmv <| gv rfl rfl rfl rfl (gw0 rfl) rfl (fun hc => xmva rfl) <| gv rfl rfl rfl rfl (gw0 rfl) rfl (fun hc => xneq (mv hc rfl) rfl) <| vl rfl rfl (xpo rfl rfl rfl) <| vl rfl rfl xmv <| gv rfl rfl rfl rfl (gw0 rfl) rfl (fun hc => xmva rfl) <| gv rfl rfl rfl rfl (gw0 rfl) rfl (fun hc => xneq (mv hc rfl) rfl) <| vl rfl rfl (xpo rfl rfl rfl) <| vl rfl rfl xmv <| gv rfl rfl rfl rfl (gw0 rfl) rfl (fun hc => xmva rfl) <| gv rfl rfl rfl rfl (gw0 rfl) rfl (fun hc => xlen (mv hc rfl) Try.underlying22) <| gv rfl rfl rfl rfl (gw0 rfl) rfl (fun hc => xfa rfl fa26_3) <| gv rfl rfl rfl rfl (gw0 rfl) rfl (fun hc => xld (mv hc rfl) ti23 ((Bx.cs hb5).at 3 rfl)) <| gv rfl rfl rfl rfl (gw0 rfl) rfl (fun hc => xlen (mv hc rfl) Try.underlying23) <| gv rfl rfl rfl rfl (gw0 rfl) rfl (fun hc => xneq (mv hc rfl) (mv hc rfl)) <| vl rfl rfl (xpo rfl rfl rfl) <| vl rfl rfl xmv <| gv rfl rfl rfl rfl (gw0 rfl) rfl (fun hc => xlda rfl ti26 rfl (Bx.cs hb5)) <| gv rfl rfl rfl rfl (gw0 rfl) rfl (fun hc => xmva rfl) <| ?_
    have hz := bs hF; obtain ⟨x9, Ex9, hF⟩ := hz
    refine gc rfl rfl rfl rfl (gw0 rfl) rfl (fun hc => xc cb37 (mc (mv hc rfl) (mc (mv hc rfl) mn))) (fun hc => (c37 (show RV (α := (Int × (List Int) × (List ((List Int) × Int)) × (List ((List Int) × Int)) × (List (List Int)))) _ (.agg [.int .i64 x0.1, .slice a1 x0.2.1.length cq1, .slice a2 x0.2.2.1.length cq2, .slice a3 x0.2.2.2.1.length cq3, .slice a4 x0.2.2.2.2.length cq4].toArray) (x0.1, x0.2.1, x0.2.2.1, x0.2.2.2.1, x0.2.2.2.2) from ⟨_, rfl, ⟨[.int .i64 x0.1], [.slice a1 x0.2.1.length cq1] ++ ([.slice a2 x0.2.2.1.length cq2] ++ ([.slice a3 x0.2.2.2.1.length cq3] ++ [.slice a4 x0.2.2.2.2.length cq4])), rfl, rfl, ⟨[.slice a1 x0.2.1.length cq1], [.slice a2 x0.2.2.1.length cq2] ++ ([.slice a3 x0.2.2.2.1.length cq3] ++ [.slice a4 x0.2.2.2.2.length cq4]), rfl, r33.rep1, ⟨[.slice a2 x0.2.2.1.length cq2], [.slice a3 x0.2.2.2.1.length cq3] ++ [.slice a4 x0.2.2.2.2.length cq4], rfl, r34.rep1, ⟨[.slice a3 x0.2.2.2.1.length cq3], [.slice a4 x0.2.2.2.2.length cq4], rfl, r35.rep1, r36.rep1⟩⟩⟩⟩⟩) r38 (gdp Ex9 hc))) (fun v4 w7 hy1 hn1 => ?_)
    have hx7 : Ext w6 w7 := gx (fun h => (hy1 h).2) (fun h => (hn1 h).2 ▸ Ext.refl _)
    have e5 := mkw (fun h => (hy1 h).1) (fun h => (hn1 h).1)
    have k6 := k5.tr hx7
    have hb6 := hb5.ext hx7
    have r40 := r33.ext hx7
    have r41 := r34.ext hx7
    have r42 := r35.ext hx7
    have r43 := r36.ext hx7
    have r44 := r37.ext hx7
    have r45 := r38.ext hx7
    have r46 := r39.ext hx7
    have r47 := r32.ext hx7
    refine gv rfl rfl rfl rfl (gw0 rfl) rfl (fun hc => xneq (mv hc e5) rfl) <| vl rfl rfl (xpo rfl rfl rfl) <| vl rfl rfl xmv <| gv rfl rfl rfl rfl (gw0 rfl) rfl (fun hc => xlda rfl ti26 rfl (Bx.cs hb6)) <| gv rfl rfl rfl rfl (gw0 rfl) rfl (fun hc => xmva rfl) <| ?_
    have hz := bs hF; obtain ⟨x10, Ex10, hF⟩ := hz
    refine gc rfl rfl rfl rfl (gw0 rfl) rfl (fun hc => xc cb32 (mc (mv hc rfl) (mc (mv hc rfl) mn))) (fun hc => (c32 (show RV (α := (Int × (List Int) × (List ((List Int) × Int)) × (List ((List Int) × Int)) × (List (List Int)))) _ (.agg [.int .i64 x0.1, .slice a1 x0.2.1.length cq1, .slice a2 x0.2.2.1.length cq2, .slice a3 x0.2.2.2.1.length cq3, .slice a4 x0.2.2.2.2.length cq4].toArray) (x0.1, x0.2.1, x0.2.2.1, x0.2.2.2.1, x0.2.2.2.2) from ⟨_, rfl, ⟨[.int .i64 x0.1], [.slice a1 x0.2.1.length cq1] ++ ([.slice a2 x0.2.2.1.length cq2] ++ ([.slice a3 x0.2.2.2.1.length cq3] ++ [.slice a4 x0.2.2.2.2.length cq4])), rfl, rfl, ⟨[.slice a1 x0.2.1.length cq1], [.slice a2 x0.2.2.1.length cq2] ++ ([.slice a3 x0.2.2.2.1.length cq3] ++ [.slice a4 x0.2.2.2.2.length cq4]), rfl, r40.rep1, ⟨[.slice a2 x0.2.2.1.length cq2], [.slice a3 x0.2.2.2.1.length cq3] ++ [.slice a4 x0.2.2.2.2.length cq4], rfl, r41.rep1, ⟨[.slice a3 x0.2.2.2.1.length cq3], [.slice a4 x0.2.2.2.2.length cq4], rfl, r42.rep1, r43.rep1⟩⟩⟩⟩⟩) r45 (gdp Ex10 hc))) (fun v5 w8 hy2 hn2 => ?_)
    have hx8 : Ext w7 w8 := gx (fun h => (hy2 h).2) (fun h => (hn2 h).2 ▸ Ext.refl _)
    have e6 := mkw (fun h => (hy2 h).1) (fun h => (hn2 h).1)
    have k7 := k6.tr hx8
    have hb7 := hb6.ext hx8
    have r48 := r40.ext hx8
    have r49 := r41.ext hx8
    have r50 := r42.ext hx8
    have r51 := r43.ext hx8
    have r52 := r44.ext hx8
    have r53 := r45.ext hx8
    have r54 := r46.ext hx8
    have r55 := r47.ext hx8
    refine gv rfl rfl rfl rfl (gw0 rfl) rfl (fun hc => xneq (mv hc e6) rfl) <| vl rfl rfl (xpo rfl rfl rfl) <| nl <| cnd rfl (fun h5 => ?_) (fun h5 => ?_)
    ·
      have hF := ifp hF h5
      refine wp_seq <| rg <| vl rfl rfl xas <| nl <| ?_
      cases hF
      exact wp_ret <| rt rfl (.tmp rfl rfl .nil) ⟨rfl, k7⟩
    ·
      have hF := ifn hF h5
      refine wp_skip <| wp_seq <| rg <| vl rfl rfl (xfa rfl fa26_3) <| vl rfl rfl (xld rfl ti23 ((Bx.cs hb7).at 3 rfl)) <| vl rfl rfl (xlen rfl Try.underlying23) <| vl rfl rfl xmv <| vl rfl rfl (xlen rfl Try.underlying22) <| vl rfl rfl (xsub rfl rfl) <| vl rfl rfl xas <| nl <| wp_seq <| rg <| vl rfl rfl (xlda rfl ti26 rfl (Bx.cs hb7)) <| vl rfl rfl xmv <| ?_
      have hz := bs hF; obtain ⟨x11, Ex11, hF⟩ := hz
      refine cl rfl rfl (xc cb26 (mc rfl (mc rfl mn))) (c26 (show RV (α := (Int × (List Int) × (List ((List Int) × Int)) × (List ((List Int) × Int)) × (List (List Int)))) _ (.agg [.int .i64 x0.1, .slice a1 x0.2.1.length cq1, .slice a2 x0.2.2.1.length cq2, .slice a3 x0.2.2.2.1.length cq3, .slice a4 x0.2.2.2.2.length cq4].toArray) (x0.1, x0.2.1, x0.2.2.1, x0.2.2.2.1, x0.2.2.2.2) from ⟨_, rfl, ⟨[.int .i64 x0.1], [.slice a1 x0.2.1.length cq1] ++ ([.slice a2 x0.2.2.1.length cq2] ++ ([.slice a3 x0.2.2.2.1.length cq3] ++ [.slice a4 x0.2.2.2.2.length cq4])), rfl, rfl, ⟨[.slice a1 x0.2.1.length cq1], [.slice a2 x0.2.2.1.length cq2] ++ ([.slice a3 x0.2.2.2.1.length cq3] ++ [.slice a4 x0.2.2.2.2.length cq4]), rfl, r48.rep1, ⟨[.slice a2 x0.2.2.1.length cq2], [.slice a3 x0.2.2.2.1.length cq3] ++ [.slice a4 x0.2.2.2.2.length cq4], rfl, r49.rep1, ⟨[.slice a3 x0.2.2.2.1.length cq3], [.slice a4 x0.2.2.2.2.length cq4], rfl, r50.rep1, r51.rep1⟩⟩⟩⟩⟩) r54 Ex11) ?_
      rintro _ w9 ⟨rfl, hx9⟩
      have k8 := k7.tr hx9
      have hb8 := hb7.ext hx9
      have r56 := r48.ext hx9
      have r57 := r49.ext hx9
      have r58 := r50.ext hx9
      have r59 := r51.ext hx9
      have r60 := r52.ext hx9
      have r61 := r55.ext hx9
      refine vl rfl rfl xmv <| vl rfl rfl (xext rfl rfl) <| vl rfl rfl (xext rfl rfl) <| vl rfl rfl xas <| vl rfl rfl xas <| nl <| wp_seq <| wp_seq <| rg <| vl rfl rfl xmv <| vl rfl rfl (xneq rfl rfl) <| vl rfl rfl xmv <| gv rfl rfl rfl rfl (gw0 rfl) rfl (fun hc => xmva rfl) <| gv rfl rfl rfl rfl (gw0 rfl) rfl (fun hc => xmva rfl) <| gv rfl rfl rfl rfl (gw0 rfl) rfl (fun hc => xneq (mv hc rfl) (mv hc rfl)) <| vl rfl rfl (xpo rfl rfl rfl) <| nl <| cnd rfl (fun h6 => ?_) (fun h6 => ?_)
      ·
        have hF := ifp hF h6
        refine wp_seq <| rg <| vl rfl rfl xas <| nl <| ?_
        cases hF
        exact wp_ret <| rt rfl (.tmp rfl rfl .nil) ⟨rfl, k8⟩
      ·
        have hF := ifn hF h6
        refine wp_skip <| wp_seq <| rg <| vl rfl rfl xas <| nl <| wp_seq <| wp_seq <| rg <| vl rfl rfl xas <| nl <| ?_
        have hz := bs hF; obtain ⟨z1, hB1, hF⟩ := hz
        refine ct (fun L w => L 16 = .int .i64 z1 ∧ L 1 = .int .u16 x1 ∧ L 2 = .slice a5 x2.length cq5 ∧ L 3 = .pointer (some ⟨b4, 0, none⟩) ∧ L 13 = .int .i64 (w64 ((x0.2.2.2.1.length : Int) - (x6.1.length : Int))) ∧ Ext w9 w) ?_ ?_
        ·
          refine wp_block <| lp (I := fun m L w => ∃ y1 : Int, ∃ y2 : Int, law10_RightProved_l1 F x8 m y1 y2  = some z1 ∧ L 16 = .int .i64 y1 ∧ L 17 = .int .i64 y2 ∧ L 1 = .int .u16 x1 ∧ L 2 = .slice a5 x2.length cq5 ∧ L 3 = .pointer (some ⟨b4, 0, none⟩) ∧ L 11 = .slice a8 x8.1.length cq8 ∧ L 13 = .int .i64 (w64 ((x0.2.2.2.1.length : Int) - (x6.1.length : Int))) ∧ Ext w9 w) F ⟨_, _, hB1, rfl, rfl, rfl, rfl, rfl, rfl, rfl, (Ext.refl _)⟩ ?_
          rintro m L w10 ⟨y1, y2, hB1, l16_i1, l17_i1, l1_i1, l2_i1, l3_i1, l11_i1, l13_i1, K0_i1⟩
          rcases m with _ | m
          · rw [law10_RightProved_l1] at hB1; cases hB1
          rw [law10_RightProved_l1] at hB1
          have k9 := k8.tr K0_i1
          have r62 := r60.ext K0_i1
          have r63 := r56.ext K0_i1
          have r64 := r57.ext K0_i1
          have r65 := r58.ext K0_i1
          have r66 := r59.ext K0_i1
          have hb9 := hb8.ext K0_i1
          have r67 := r61.ext K0_i1
          refine wp_seq <| wp_seq <| rg <| vl rfl rfl xmv <| vl rfl rfl xmv <| vl rfl rfl (xlen l11_i1 Try.underlying22) <| vl rfl rfl (xlss l17_i1 rfl) <| nl <| cnd rfl (fun h7 => ?_) (fun h7 => ?_)
          ·
            have hB1 := ifp hB1 h7
            refine wp_skip <| wp_seq <| ?_
            have hz := bs hB1; obtain ⟨y3, hB3, hB1⟩ := hz
            refine ct (fun L w => L 16 = .int .i64 y3 ∧ L 1 = .int .u16 x1 ∧ L 2 = .slice a5 x2.length cq5 ∧ L 3 = .pointer (some ⟨b4, 0, none⟩) ∧ L 11 = .slice a8 x8.1.length cq8 ∧ L 13 = .int .i64 (w64 ((x0.2.2.2.1.length : Int) - (x6.1.length : Int))) ∧ L 17 = .int .i64 y2 ∧ Ext w10 w) ?_ ?_
            ·
              refine wp_block <| wp_seq <| rg <| vl rfl rfl xmv <| vl rfl rfl xmv <| ?_
              have hz := bs hB3; obtain ⟨x12, Ex12, hB3⟩ := hz
              have hz := (RV.els r61).ix Ex12; obtain ⟨b5, f1, cs4, e7, i2, i3, q8, hc1⟩ := hz
              cases e7
              obtain rfl := q8
              have hc2 := hc1.ext K0_i1
              refine vl rfl rfl (xixs l11_i1 l17_i1 Try.underlying22 ti3 i2 i3) <| vl rfl rfl (xld rfl ti3 (hc2.at 0 rfl)) <| vl rfl rfl (xneq rfl rfl) <| nl <| ?_
              have hz := bs hB3; obtain ⟨y4, hB4, hB3⟩ := hz
              refine ct (fun L w => L 16 = .int .i64 y4 ∧ L 1 = .int .u16 x1 ∧ L 2 = .slice a5 x2.length cq5 ∧ L 3 = .pointer (some ⟨b4, 0, none⟩) ∧ L 11 = .slice (some ⟨b5, f1, none⟩) x8.1.length cq8 ∧ L 13 = .int .i64 (w64 ((x0.2.2.2.1.length : Int) - (x6.1.length : Int))) ∧ L 17 = .int .i64 y2 ∧ Ext w10 w) ?_ ?_
              ·
                refine cnd rfl (fun h8 => ?_) (fun h8 => ?_)
                ·
                  have hB4 := ifp hB4 h8
                  refine rg <| vl rfl rfl xmv <| vl rfl rfl (xadd l16_i1 rfl) <| vl rfl rfl xas <| nl <| ?_
                  cases hB4
                  refine lf <| ?_
                  exact ⟨rfl, l1_i1, l2_i1, l3_i1, l11_i1, l13_i1, l17_i1, (Ext.refl _)⟩
                ·
                  have hB4 := ifn hB4 h8
                  refine wp_skip <| ?_
                  cases hB4
                  refine lf <| ?_
                  exact ⟨l16_i1, l1_i1, l2_i1, l3_i1, l11_i1, l13_i1, l17_i1, (Ext.refl _)⟩
              rintro L w11 ⟨l16_j1, l1_j1, l2_j1, l3_j1, l11_j1, l13_j1, l17_j1, K0_j1⟩
              have k10 := k9.tr K0_j1
              have k11 := K0_i1.tr K0_j1
              have r68 := r62.ext K0_j1
              have r69 := r63.ext K0_j1
              have r70 := r64.ext K0_j1
              have r71 := r65.ext K0_j1
              have r72 := r66.ext K0_j1
              have hb10 := hb9.ext K0_j1
              have r73 := r67.ext K0_j1
              cases hB3
              refine lf <| ?_
              exact ⟨l16_j1, l1_j1, l2_j1, l3_j1, l11_j1, l13_j1, l17_j1, K0_j1⟩
            rintro L w12 ⟨l16_j2, l1_j2, l2_j2, l3_j2, l11_j2, l13_j2, l17_j2, K0_j2⟩
            have k12 := k9.tr K0_j2
            have k13 := K0_i1.tr K0_j2
            have r74 := r62.ext K0_j2
            have r75 := r63.ext K0_j2
            have r76 := r64.ext K0_j2
            have r77 := r65.ext K0_j2
            have r78 := r66.ext K0_j2
            have hb11 := hb9.ext K0_j2
            have r79 := r67.ext K0_j2
            refine rg <| vl rfl rfl xmv <| vl rfl rfl (xadd l17_j2 rfl) <| vl rfl rfl xas <| nl <| ?_
            refine lq m (Nat.lt_succ_self _) <| ?_
            exact ⟨_, _, hB1, l16_j2, rfl, l1_j2, l2_j2, l3_j2, l11_j2, l13_j2, k13⟩
          ·
            have hB1 := ifn hB1 h7
            refine wp_exit <| ?_
            cases hB1
            refine lf <| ?_
            exact ⟨l16_i1, l1_i1, l2_i1, l3_i1, l13_i1, K0_i1⟩
        rintro L w13 ⟨l16_j3, l1_j3, l2_j3, l3_j3, l13_j3, K0_j3⟩
        have k14 := k8.tr K0_j3
        have r80 := r60.ext K0_j3
        have r81 := r56.ext K0_j3
        have r82 := r57.ext K0_j3
        have r83 := r58.ext K0_j3
        have r84 := r59.ext K0_j3
        have hb12 := hb8.ext K0_j3
        refine wp_seq <| rg <| vl rfl rfl (xlda l3_j3 ti26 rfl (Bx.cs hb12)) <| vl rfl rfl xmv <| ?_
        have hz := bs hF; obtain ⟨x13, Ex13, hF⟩ := hz
        refine cl rfl rfl (xc cb31 (mc rfl (mc l1_j3 mn))) (c31 (show RV (α := (Int × (List Int) × (List ((List Int) × Int)) × (List ((List Int) × Int)) × (List (List Int)))) _ (.agg [.int .i64 x0.1, .slice a1 x0.2.1.length cq1, .slice a2 x0.2.2.1.length cq2, .slice a3 x0.2.2.2.1.length cq3, .slice a4 x0.2.2.2.2.length cq4].toArray) (x0.1, x0.2.1, x0.2.2.1, x0.2.2.2.1, x0.2.2.2.2) from ⟨_, rfl, ⟨[.int .i64 x0.1], [.slice a1 x0.2.1.length cq1] ++ ([.slice a2 x0.2.2.1.length cq2] ++ ([.slice a3 x0.2.2.2.1.length cq3] ++ [.slice a4 x0.2.2.2.2.length cq4])), rfl, rfl, ⟨[.slice a1 x0.2.1.length cq1], [.slice a2 x0.2.2.1.length cq2] ++ ([.slice a3 x0.2.2.2.1.length cq3] ++ [.slice a4 x0.2.2.2.2.length cq4]), rfl, r81.rep1, ⟨[.slice a2 x0.2.2.1.length cq2], [.slice a3 x0.2.2.2.1.length cq3] ++ [.slice a4 x0.2.2.2.2.length cq4], rfl, r82.rep1, ⟨[.slice a3 x0.2.2.2.1.length cq3], [.slice a4 x0.2.2.2.2.length cq4], rfl, r83.rep1, r84.rep1⟩⟩⟩⟩⟩) Ex13) ?_
        rintro _ w14 ⟨u4, rfl, r85, hx10⟩
        have k15 := k14.tr hx10
        have k16 := K0_j3.tr hx10
        have hb13 := hb12.ext hx10
        have r86 := r81.ext hx10
        have r87 := r82.ext hx10
        have r88 := r83.ext hx10
        have r89 := r84.ext hx10
        have r90 := r80.ext hx10
        have hz := RV.sl r85.rv; obtain ⟨a9, cq9, rfl, -, -, -⟩ := hz
        refine vl rfl rfl xas <| nl <| wp_seq <| rg <| vl rfl rfl xas <| nl <| wp_seq <| wp_seq <| rg <| vl rfl rfl xas <| nl <| ?_
        have o2 : DRow (α := (List Int)) w0.heap.size 22 w14.heap.size w14 (.slice none 0 0) [] := DRow.nil
        have hz := bs hF; obtain ⟨z2, hB8, hF⟩ := hz
        refine ct (fun L w => ∃ v7 : Value, L 19 = v7 ∧ DRow w0.heap.size 22 w14.heap.size w v7 z2 ∧ Apart (v7) (.slice a9 x13.length cq9) ∧ L 3 = .pointer (some ⟨b4, 0, none⟩) ∧ L 13 = .int .i64 (w64 ((x0.2.2.2.1.length : Int) - (x6.1.length : Int))) ∧ L 16 = .int .i64 z1 ∧ L 18 = .slice a9 x13.length cq9 ∧ w13.heap.size ≤ w.heap.size ∧ Ext w14 w) ?_ ?_
        ·
          refine wp_block <| lp (I := fun m L w => ∃ y5 : (List (List Int)), ∃ y6 : Int, ∃ v6 : Value, law10_RightProved_l2 F x0 x2 m y5 y6  = some z2 ∧ L 19 = v6 ∧ DRow w0.heap.size 22 w14.heap.size w v6 y5 ∧ L 20 = .int .i64 y6 ∧ Apart (v6) (.slice a9 x13.length cq9) ∧ L 2 = .slice a5 x2.length cq5 ∧ L 3 = .pointer (some ⟨b4, 0, none⟩) ∧ L 13 = .int .i64 (w64 ((x0.2.2.2.1.length : Int) - (x6.1.length : Int))) ∧ L 16 = .int .i64 z1 ∧ L 18 = .slice a9 x13.length cq9 ∧ w13.heap.size ≤ w.heap.size ∧ Ext w14 w) F ⟨_, _, _, hB8, rfl, o2, rfl, (Apart.symm (Apart.old' r85.own_lt (fun q e => (o2.lt q e).1))), l2_j3, l3_j3, l13_j3, l16_j3, rfl, hx10.size, (Ext.refl _)⟩ ?_
          rintro m L w15 ⟨y5, y6, v6, hB8, l19_i4, O19_i4, l20_i4, X0_i4, l2_i4, l3_i4, l13_i4, l16_i4, l18_i4, Z0_i4, K0_i4⟩
          rcases m with _ | m
          · rw [law10_RightProved_l2] at hB8; cases hB8
          rw [law10_RightProved_l2] at hB8
          have k17 := k15.tr K0_i4
          have k18 := k16.tr K0_i4
          have k19 := hx10.tr K0_i4
          have r91 := r90.ext K0_i4
          have r92 := r86.ext K0_i4
          have r93 := r87.ext K0_i4
          have r94 := r88.ext K0_i4
          have r95 := r89.ext K0_i4
          have hb14 := hb13.ext K0_i4
          have r96 := r85.ext K0_i4
          have hz := RV.sl O19_i4.rv; obtain ⟨a10, cq10, rfl, -, -, -⟩ := hz
          refine wp_seq <| wp_seq <| rg <| vl rfl rfl xmv <| vl rfl rfl xmv <| vl rfl rfl (xlen l2_i4 Try.underlying58) <| vl rfl rfl (xlss l20_i4 rfl) <| nl <| cnd rfl (fun h9 => ?_) (fun h9 => ?_)
          ·
            have hB8 := ifp hB8 h9
            refine wp_skip <| wp_seq <| wp_block <| wplG (row := (Value.ownBlock (.slice a10 y5.length cq10))) [] (.pure true 0 (.pure false 1 (.pure true 2 (.pure true 3 (.pure true 4 (.pure false 5 (.eff 6 (.eff 7 (.eff 8 (.pure true 9 .fin) .stop) .stop) .stop))))))) mixed (by kernel_rfl) (fun w16 hx11 => ?_)
            have k20 := k17.tr hx11
            have k21 := k18.tr hx11
            have k22 := k19.tr hx11
            have k23 := K0_i4.tr hx11
            have zs1 := Nat.le_trans Z0_i4 hx11.size
            have hb15 := hb14.ext hx11
            have r97 := r92.ext hx11
            have r98 := r93.ext hx11
            have r99 := r94.ext hx11
            have r100 := r95.ext hx11
            have r101 := r91.ext hx11
            have r102 := r96.ext hx11
            have O1 := O19_i4.ext hx11
            refine pv rfl rfl rfl (fun _ _ => xmv) (.inl rfl) <| pv rfl rfl rfl (fun _ hS => xlda l3_i4 ti26 rfl (Bx.cs (Bx.gr hb15 (hS.resolve_left nofun) (O19_i4.ne_old (Nat.lt_of_lt_of_le hb8.lt k16.size))))) (.inr (Ext.gro (Ext.refl _))) <| pv rfl rfl rfl (fun _ _ => xmv) (.inl rfl) <| pv rfl rfl rfl (fun _ _ => xmv) (.inl rfl) <| ?_
            have hz := bs hB8; obtain ⟨x14, Ex14, hB8⟩ := hz
            have hz := (RV.els r2).ix Ex14; obtain ⟨b6, f2, cs5, e8, i5, i6, q9, hc3⟩ := hz
            cases e8
            obtain rfl := q9
            have hc4 := hc3.ext k20
            refine pv rfl rfl rfl (fun _ _ => xixs l2_i4 l20_i4 Try.underlying58 ti46 i5 i6) (.inl rfl) <| pv rfl rfl rfl (fun _ hS => xld rfl ti46 ((Cs.gro0 hc3 k20 (hS.resolve_left nofun) (fun q e => Nat.le_trans k15.size (O19_i4.lt q e).1)).at 0 rfl)) (.inr (Ext.gro (Ext.refl _))) <| ?_
            have hz := bs hB8; obtain ⟨x15, Ex15, hB8⟩ := hz
            refine pe1 rfl <| cl rfl rfl (xc cb31 (mc rfl (mc rfl mn))) (c31 (show RV (α := (Int × (List Int) × (List ((List Int) × Int)) × (List ((List Int) × Int)) × (List (List Int)))) _ (.agg [.int .i64 x0.1, .slice a1 x0.2.1.length cq1, .slice a2 x0.2.2.1.length cq2, .slice a3 x0.2.2.2.1.length cq3, .slice a4 x0.2.2.2.2.length cq4].toArray) (x0.1, x0.2.1, x0.2.2.1, x0.2.2.2.1, x0.2.2.2.2) from ⟨_, rfl, ⟨[.int .i64 x0.1], [.slice a1 x0.2.1.length cq1] ++ ([.slice a2 x0.2.2.1.length cq2] ++ ([.slice a3 x0.2.2.2.1.length cq3] ++ [.slice a4 x0.2.2.2.2.length cq4])), rfl, rfl, ⟨[.slice a1 x0.2.1.length cq1], [.slice a2 x0.2.2.1.length cq2] ++ ([.slice a3 x0.2.2.2.1.length cq3] ++ [.slice a4 x0.2.2.2.2.length cq4]), rfl, r97.rep1, ⟨[.slice a2 x0.2.2.1.length cq2], [.slice a3 x0.2.2.2.1.length cq3] ++ [.slice a4 x0.2.2.2.2.length cq4], rfl, r98.rep1, ⟨[.slice a3 x0.2.2.2.1.length cq3], [.slice a4 x0.2.2.2.2.length cq4], rfl, r99.rep1, r100.rep1⟩⟩⟩⟩⟩) Ex15) ?_
            rintro _ w17 ⟨u5, rfl, r103, hx12⟩
            have k24 := k20.tr hx12
            have k25 := k21.tr hx12
            have k26 := k22.tr hx12
            have k27 := k23.tr hx12
            have zs2 := Nat.le_trans zs1 hx12.size
            have hb16 := hb15.ext hx12
            have r104 := r97.ext hx12
            have r105 := r98.ext hx12
            have r106 := r99.ext hx12
            have r107 := r100.ext hx12
            have r108 := r101.ext hx12
            have r109 := r102.ext hx12
            have O2 := O1.ext hx12
            have hz := RV.sl r103.rv; obtain ⟨a11, cq11, rfl, -, -, -⟩ := hz
            refine nl ⟨fun _ _ => (Ext.gro hx12), ?_⟩
            refine pe1 rfl <| sbsv (cs := [.slice a11 x15.length cq11]) Try.underlying24 ti22 rfl (pc rfl pn) rfl rfl rfl rfl rfl fun b7 w18 hx13 hg2 hb17 => ?_
            have k28 := k24.tr hx13
            have k29 := k25.tr hx13
            have k30 := k26.tr hx13
            have k31 := k27.tr hx13
            have k32 := hx12.tr hx13
            have zs3 := Nat.le_trans zs2 hx13.size
            have hb18 := hb16.ext hx13
            have r111 := r104.ext hx13
            have r112 := r105.ext hx13
            have r113 := r106.ext hx13
            have r114 := r107.ext hx13
            have r115 := r108.ext hx13
            have r116 := r109.ext hx13
            have O3 := O2.ext hx13
            have r117 := r103.ext hx13
            have r110 : RV w18 (.slice (some ⟨b7, 0, none⟩) 1 1) ([x15] : List (List Int)) := RV.lit hb17 (css := [[.slice a11 x15.length cq11]]) rfl ⟨r117.rv.rep1, trivial⟩ rfl (ble rfl)
            refine nl ⟨fun _ _ => (Ext.gro k32), ?_⟩
            have hz := bs hB8; obtain ⟨x16, Ex16, hB8⟩ := hz
            refine pe1 rfl <| sapd (l := y5) (k := ([x15] : List (List Int))) l19_i4 rfl Try.underlying24 ti22 rfl rfl O3 (ElsD.lit1 hb17 (RVo.rep1 (RVo.okn (Row.rvob r117) k23.size O1.own_lt))) Ex16 k31.size fun v8 w19 o4 hB10 hgr1 how1 => ?_
            have k33 := Ext.grow k28 k15.size hB10
            have k34 := Ext.grow k29 k16.size hB10
            have k35 := Ext.grow k30 hx10.size hB10
            have k36 : Ext w14 w19 := k31.trans hB10
            have X1 := Apart.app how1 X0_i4 r116.own_lt
            have zs4 := Nat.le_trans zs3 hgr1.size
            have gS1 := World.grownBy.tr (Ext.gro k32) hgr1
            have hb19 := hb13.ext k36
            have r118 := r86.ext k36
            have r119 := r87.ext k36
            have r120 := r88.ext k36
            have r121 := r89.ext k36
            have r122 := r90.ext k36
            have r123 := r85.ext k36
            have hz := RV.sl o4.rv; obtain ⟨a12, cq12, rfl, -, -, -⟩ := hz
            refine nl ⟨fun _ _ => gS1, ?_⟩
            refine pv rfl rfl rfl (fun _ _ => xas) (.inl rfl) <| rg <| vl rfl rfl xmv <| vl rfl rfl (xadd l20_i4 rfl) <| vl rfl rfl xas <| nl <| ?_
            refine lq m (Nat.lt_succ_self _) <| ?_
            exact ⟨_, _, _, hB8, rfl, o4, rfl, X1, l2_i4, l3_i4, l13_i4, l16_i4, l18_i4, zs4, k36⟩
          ·
            have hB8 := ifn hB8 h9
            refine wp_exit <| ?_
            cases hB8
            refine lf <| ?_
            exact ⟨_, l19_i4, O19_i4, X0_i4, l3_i4, l13_i4, l16_i4, l18_i4, Z0_i4, K0_i4⟩
        rintro L w20 ⟨v7, l19_j4, O19_j4, X0_j4, l3_j4, l13_j4, l16_j4, l18_j4, Z0_j4, K0_j4⟩
        have k37 := k15.tr K0_j4
        have k38 := k16.tr K0_j4
        have k39 := hx10.tr K0_j4
        have r124 := r86.ext K0_j4
        have r125 := r87.ext K0_j4
        have r126 := r88.ext K0_j4
        have r127 := r89.ext K0_j4
        have hb20 := hb13.ext K0_j4
        have r128 := r85.ext K0_j4
        have hz := RV.sl O19_j4.rv; obtain ⟨a13, cq13, rfl, -, -, -⟩ := hz
        refine wp_seq <| rg <| vl rfl rfl (xlda l3_j4 ti26 rfl (Bx.cs hb20)) <| vl rfl rfl xmv <| ?_
        have hz := bs hF; obtain ⟨x17, Ex17, hF⟩ := hz
        refine cl rfl rfl (xc cb26 (mc rfl (mc l19_j4 mn))) (c26 (show RV (α := (Int × (List Int) × (List ((List Int) × Int)) × (List ((List Int) × Int)) × (List (List Int)))) _ (.agg [.int .i64 x0.1, .slice a1 x0.2.1.length cq1, .slice a2 x0.2.2.1.length cq2, .slice a3 x0.2.2.2.1.length cq3, .slice a4 x0.2.2.2.2.length cq4].toArray) (x0.1, x0.2.1, x0.2.2.1, x0.2.2.2.1, x0.2.2.2.2) from ⟨_, rfl, ⟨[.int .i64 x0.1], [.slice a1 x0.2.1.length cq1] ++ ([.slice a2 x0.2.2.1.length cq2] ++ ([.slice a3 x0.2.2.2.1.length cq3] ++ [.slice a4 x0.2.2.2.2.length cq4])), rfl, rfl, ⟨[.slice a1 x0.2.1.length cq1], [.slice a2 x0.2.2.1.length cq2] ++ ([.slice a3 x0.2.2.2.1.length cq3] ++ [.slice a4 x0.2.2.2.2.length cq4]), rfl, r124.rep1, ⟨[.slice a2 x0.2.2.1.length cq2], [.slice a3 x0.2.2.2.1.length cq3] ++ [.slice a4 x0.2.2.2.2.length cq4], rfl, r125.rep1, ⟨[.slice a3 x0.2.2.2.1.length cq3], [.slice a4 x0.2.2.2.2.length cq4], rfl, r126.rep1, r127.rep1⟩⟩⟩⟩⟩) O19_j4.rv Ex17) ?_
        rintro _ w21 ⟨rfl, hx14⟩
        have k40 := k37.tr hx14
        have k41 := k38.tr hx14
        have k42 := k39.tr hx14
        have k43 := K0_j4.tr hx14
        have zs5 := Nat.le_trans Z0_j4 hx14.size
        have hb21 := hb20.ext hx14
        have r129 := r124.ext hx14
        have r130 := r125.ext hx14
        have r131 := r126.ext hx14
        have r132 := r127.ext hx14
        have r133 := r128.ext hx14
        refine vl rfl rfl xmv <| vl rfl rfl (xext rfl rfl) <| vl rfl rfl (xext rfl rfl) <| vl rfl rfl xas <| vl rfl rfl xas <| nl <| wp_seq <| wp_seq <| rg <| vl rfl rfl xmv <| vl rfl rfl xmv <| vl rfl rfl (xlss l16_j4 l13_j4) <| vl rfl rfl xmv <| gv rfl rfl rfl rfl (gw0 rfl) rfl (fun hc => xmva rfl) <| gv rfl rfl rfl rfl (gw0 rfl) rfl (fun hc => xeql (mv hc rfl) rfl) <| gv rfl rfl rfl rfl (gw0 rfl) rfl (fun hc => xmva (mv hc rfl)) <| gv rfl rfl rfl rfl (gn1 rfl) rfl (fun hc => xmva rfl) <| gv rfl rfl rfl rfl (gn1 rfl) rfl (fun hc => xmva l13_j4) <| gv rfl rfl rfl rfl (gn1 rfl) rfl (fun hc => xgtr (mv hc rfl) (mv hc rfl)) <| gv rfl rfl rfl rfl (gw0 rfl) rfl (fun hc => xpa (mv hc rfl) (mvn hc rfl) rfl) <| vl rfl rfl (xpo rfl rfl rfl) <| nl <| cnd rfl (fun h10 => ?_) (fun h10 => ?_)
        ·
          have hF := ifp hF h10
          refine wp_seq <| rg <| vl rfl rfl xas <| nl <| ?_
          cases hF
          exact wp_ret <| rt rfl (.tmp rfl rfl .nil) ⟨rfl, k40⟩
        ·
          have hF := ifn hF h10
          refine wp_skip <| wp_seq <| rg <| vl rfl rfl (xlda l3_j4 ti26 rfl (Bx.cs hb21)) <| vl rfl rfl xmv <| ?_
          have hz := bs hF; obtain ⟨x18, Ex18, hF⟩ := hz
          refine cl rfl rfl (xc cb32 (mc rfl (mc l18_j4 mn))) (c32 (show RV (α := (Int × (List Int) × (List ((List Int) × Int)) × (List ((List Int) × Int)) × (List (List Int)))) _ (.agg [.int .i64 x0.1, .slice a1 x0.2.1.length cq1, .slice a2 x0.2.2.1.length cq2, .slice a3 x0.2.2.2.1.length cq3, .slice a4 x0.2.2.2.2.length cq4].toArray) (x0.1, x0.2.1, x0.2.2.1, x0.2.2.2.1, x0.2.2.2.2) from ⟨_, rfl, ⟨[.int .i64 x0.1], [.slice a1 x0.2.1.length cq1] ++ ([.slice a2 x0.2.2.1.length cq2] ++ ([.slice a3 x0.2.2.2.1.length cq3] ++ [.slice a4 x0.2.2.2.2.length cq4])), rfl, rfl, ⟨[.slice a1 x0.2.1.length cq1], [.slice a2 x0.2.2.1.length cq2] ++ ([.slice a3 x0.2.2.2.1.length cq3] ++ [.slice a4 x0.2.2.2.2.length cq4]), rfl, r129.rep1, ⟨[.slice a2 x0.2.2.1.length cq2], [.slice a3 x0.2.2.2.1.length cq3] ++ [.slice a4 x0.2.2.2.2.length cq4], rfl, r130.rep1, ⟨[.slice a3 x0.2.2.2.1.length cq3], [.slice a4 x0.2.2.2.2.length cq4], rfl, r131.rep1, r132.rep1⟩⟩⟩⟩⟩) r133.rv Ex18) ?_
          rintro _ w22 ⟨rfl, hx15⟩
          have k44 := k40.tr hx15
          have k45 := k41.tr hx15
          have k46 := k42.tr hx15
          have k47 := k43.tr hx15
          have zs6 := Nat.le_trans zs5 hx15.size
          have hb22 := hb21.ext hx15
          have r134 := r129.ext hx15
          have r135 := r130.ext hx15
          have r136 := r131.ext hx15
          have r137 := r132.ext hx15
          have r138 := r133.ext hx15
          refine vl rfl rfl xas <| nl <| wp_seq <| rg <| vl rfl rfl xmv <| vl rfl rfl (xneq rfl rfl) <| vl rfl rfl xmv <| gv rfl rfl rfl rfl (gw0 rfl) rfl (fun hc => xfa l3_j4 fa26_3) <| gv rfl rfl rfl rfl (gw0 rfl) rfl (fun hc => xld (mv hc rfl) ti23 ((Bx.cs hb22).at 3 rfl)) <| gv rfl rfl rfl rfl (gw0 rfl) rfl (fun hc => xlen (mv hc rfl) Try.underlying23) <| gv rfl rfl rfl rfl (gw0 rfl) rfl (fun hc => xmva l18_j4) <| gv rfl rfl rfl rfl (gw0 rfl) rfl (fun hc => xlen (mv hc rfl) Try.underlying22) <| gv rfl rfl rfl rfl (gw0 rfl) rfl (fun hc => xsub (mv hc rfl) (mv hc rfl)) <| gv rfl rfl rfl rfl (gw0 rfl) rfl (fun hc => xmva l13_j4) <| gv rfl rfl rfl rfl (gw0 rfl) rfl (fun hc => xgeq (mv hc rfl) (mv hc rfl)) <| gv rfl rfl rfl rfl (gw0 rfl) rfl (fun hc => xmva (mv hc rfl)) <| gv rfl rfl rfl rfl (gn1 rfl) rfl (fun hc => xmva rfl) <| gv rfl rfl rfl rfl (gn1 rfl) rfl (fun hc => xneq (mv hc rfl) rfl) <| gv rfl rfl rfl rfl (gn1 rfl) rfl (fun hc => xmva (mv hc rfl)) <| gv rfl rfl rfl rfl (gn0 rfl) rfl (fun hc => xfa l3_j4 fa26_3) <| gv rfl rfl rfl rfl (gn0 rfl) rfl (fun hc => xld (mv hc rfl) ti23 ((Bx.cs hb22).at 3 rfl)) <| gv rfl rfl rfl rfl (gn0 rfl) rfl (fun hc => xlen (mv hc rfl) Try.underlying23) <| gv rfl rfl rfl rfl (gn0 rfl) rfl (fun hc => xmva l18_j4) <| gv rfl rfl rfl rfl (gn0 rfl) rfl (fun hc => xlen (mv hc rfl) Try.underlying22) <| gv rfl rfl rfl rfl (gn0 rfl) rfl (fun hc => xsub (mv hc rfl) (mv hc rfl)) <| gv rfl rfl rfl rfl (gn0 rfl) rfl (fun hc => xmva rfl) <| gv rfl rfl rfl rfl (gn0 rfl) rfl (fun hc => xgeq (mv hc rfl) (mv hc rfl)) <| gv rfl rfl rfl rfl (gn1 rfl) rfl (fun hc => xpo (mv hc rfl) (mvn hc rfl) rfl) <| gv rfl rfl rfl rfl (gw0 rfl) rfl (fun hc => xpa (mv hc rfl) (mvn hc rfl) rfl) <| vl rfl rfl (xpo rfl rfl rfl) <| vl rfl rfl xmv <| ?_
          have hz := bs hF; obtain ⟨x19, Ex19, hF⟩ := hz
          refine gc rfl rfl rfl rfl (gw1 rfl) rfl (fun hc => xc cb15 mn) (fun hc => (c15 (gdp Ex19 hc))) (fun v9 w23 hy3 hn3 => ?_)
          have hx16 : Ext w22 w23 := gx (fun h => (hy3 h).2) (fun h => (hn3 h).2 ▸ Ext.refl _)
          have e9 := mkw (fun h => (hy3 h).1) (fun h => (hn3 h).1)
          have k48 := k44.tr hx16
          have k49 := k45.tr hx16
          have k50 := k46.tr hx16
          have k51 := k47.tr hx16
          have zs7 := Nat.le_trans zs6 hx16.size
          refine vl rfl rfl (xpa rfl e9 rfl) <| vl rfl rfl xas <| nl <| ?_
          cases hF
          exact wp_ret <| rt rfl (.tmp rfl rfl .nil) ⟨rfl, k48⟩

end Go.Proofs.Ytdimoehnkagghaa
