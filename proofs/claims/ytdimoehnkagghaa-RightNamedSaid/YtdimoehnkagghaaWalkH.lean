/-
  Each function of the program returns what its pure function computes, and leaves all memory that was there as it was. Condition: the pure function computes something.
-/
import Derived.Test.YtdimoehnkagghaaFacts
import Derived.Test.YtdimoehnkagghaaPureH
import Derived.Test.YtdimoehnkagghaaWalkD
namespace Go.Proofs.Ytdimoehnkagghaa
open Go Go.Md Go.RowKit
attribute [local irreducible] Go.wpList Go.Code.wp Go.Calls Go.Md.Rnd Go.Md.Mt Go.Md.MtM Go.Md.RndM Go.Code.wpIn

set_option maxHeartbeats 4000000 in
theorem c7 {w0 : World} {v0 : Value} {x0 : (Int × (List Int) × (List ((List Int) × Int)) × (List ((List Int) × Int)) × (List (List Int)))} (r0 : RV w0 v0 x0) {x1 : Int} {x2 : Int} {v3 : Value} {x3 : (List (KI .u8))} (r3 : RV w0 v3 x3) {v4 : Value} {x4 : (List (Bool × Int))} (r4 : RV w0 v4 x4) {F : Nat} {r : Bool} (hF : law10_RightKept F x0 x1 x2 x3 x4 = some r) :
    Calls Try.prog 7 [v0, .int .u16 x1, .int .u8 x2, v3, v4].toArray w0 (Ret fun v w' => v = .bool r ∧ Ext w0 w') := by
  unfold law10_RightKept at hF
  have hz := id r0; obtain ⟨_, rfl, ⟨_, _, rfl, rfl, ⟨_, _, rfl, ⟨a1, cq1, rfl, p1, q6, e1⟩, ⟨_, _, rfl, ⟨a2, cq2, rfl, p2, q7, e2⟩, ⟨_, _, rfl, ⟨a3, cq3, rfl, p3, q8, e3⟩, ⟨a4, cq4, rfl, p4, q9, e4⟩⟩⟩⟩⟩⟩ := hz
  have r6 := RV.of1 p1 q6 e1
  have r7 := RV.of1 p2 q7 e2
  have r8 := RV.of1 p3 q8 e3
  have r9 := RV.of1 p4 q9 e4
  have hz := r3.sl; obtain ⟨a5, cq5, rfl, -, -, -⟩ := hz
  have hz := r4.sl; obtain ⟨a6, cq6, rfl, -, -, -⟩ := hz
  refine entr (n := 229) Try.func7 rfl rfl rfl <| wp_seq <| rg <| sbx rfl rfl fun b6 w1 hx1 hg1 hb1 => ?_
  have r10 := r3.ext hx1
  have r11 := r4.ext hx1
  have r12 := r6.ext hx1
  have r13 := r7.ext hx1
  have r14 := r8.ext hx1
  have r15 := r9.ext hx1
  have r16 := r0.ext hx1
  refine vl rfl rfl xas <| nl <| wp_seq <| wp_seq <| rg <| vl rfl rfl (xlda rfl ti26 rfl (Bx.cs hb1)) <| ?_
  have hz := bs hF; obtain ⟨x6, Ex6, hF⟩ := hz
  refine cl rfl rfl (xc cb30 (mc rfl mn)) (c30 (show RV (α := (Int × (List Int) × (List ((List Int) × Int)) × (List ((List Int) × Int)) × (List (List Int)))) _ (.agg [.int .i64 x0.1, .slice a1 x0.2.1.length cq1, .slice a2 x0.2.2.1.length cq2, .slice a3 x0.2.2.2.1.length cq3, .slice a4 x0.2.2.2.2.length cq4].toArray) (x0.1, x0.2.1, x0.2.2.1, x0.2.2.2.1, x0.2.2.2.2) from ⟨_, rfl, ⟨[.int .i64 x0.1], [.slice a1 x0.2.1.length cq1] ++ ([.slice a2 x0.2.2.1.length cq2] ++ ([.slice a3 x0.2.2.2.1.length cq3] ++ [.slice a4 x0.2.2.2.2.length cq4])), rfl, rfl, ⟨[.slice a1 x0.2.1.length cq1], [.slice a2 x0.2.2.1.length cq2] ++ ([.slice a3 x0.2.2.2.1.length cq3] ++ [.slice a4 x0.2.2.2.2.length cq4]), rfl, r12.rep1, ⟨[.slice a2 x0.2.2.1.length cq2], [.slice a3 x0.2.2.2.1.length cq3] ++ [.slice a4 x0.2.2.2.2.length cq4], rfl, r13.rep1, ⟨[.slice a3 x0.2.2.2.1.length cq3], [.slice a4 x0.2.2.2.2.length cq4], rfl, r14.rep1, r15.rep1⟩⟩⟩⟩⟩) Ex6) ?_
  rintro _ w2 ⟨rfl, hx2⟩
  have k1 := hx1.tr hx2
  have hb2 := hb1.ext hx2
  have r17 := r12.ext hx2
  have r18 := r13.ext hx2
  have r19 := r14.ext hx2
  have r20 := r15.ext hx2
  have r21 := r10.ext hx2
  have r22 := r11.ext hx2
  refine vl rfl rfl (xnot rfl) <| vl rfl rfl xmv <| gv rfl rfl rfl rfl (gw0 rfl) rfl (fun hc => xmva rfl) <| gv rfl rfl rfl rfl (gw0 rfl) rfl (fun hc => xlen (mv hc rfl) Try.underlying47) <| gv rfl rfl rfl rfl (gw0 rfl) rfl (fun hc => xgtr (mv hc rfl) rfl) <| vl rfl rfl (xpo rfl rfl rfl) <| vl rfl rfl xmv <| gv rfl rfl rfl rfl (gw0 rfl) rfl (fun hc => xmva rfl) <| gv rfl rfl rfl rfl (gw0 rfl) rfl (fun hc => xlen (mv hc rfl) Try.underlying27) <| gv rfl rfl rfl rfl (gw0 rfl) rfl (fun hc => xgtr (mv hc rfl) rfl) <| vl rfl rfl (xpo rfl rfl rfl) <| nl <| cnd rfl (fun h6 => ?_) (fun h6 => ?_)
  ·
    have hF := ifp hF h6
    refine wp_seq <| rg <| ?_
    have hz := bs hF; obtain ⟨x7, Ex7, hF⟩ := hz
    refine cl rfl rfl (xc cb15 mn) (c15 Ex7) ?_
    rintro _ w3 ⟨rfl, hx3⟩
    have k2 := k1.tr hx3
    refine vl rfl rfl xas <| nl <| ?_
    cases hF
    exact wp_ret <| rt rfl (.tmp rfl rfl .nil) ⟨rfl, k2⟩
  ·
    have hF := ifn hF h6
    refine wp_skip <| wp_seq <| rg <| vl rfl rfl (xlda rfl ti26 rfl (Bx.cs hb2)) <| vl rfl rfl xmv <| ?_
    have hz := bs hF; obtain ⟨x8, Ex8, hF⟩ := hz
    refine cl rfl rfl (xc cb31 (mc rfl (mc rfl mn))) (c31 (show RV (α := (Int × (List Int) × (List ((List Int) × Int)) × (List ((List Int) × Int)) × (List (List Int)))) _ (.agg [.int .i64 x0.1, .slice a1 x0.2.1.length cq1, .slice a2 x0.2.2.1.length cq2, .slice a3 x0.2.2.2.1.length cq3, .slice a4 x0.2.2.2.2.length cq4].toArray) (x0.1, x0.2.1, x0.2.2.1, x0.2.2.2.1, x0.2.2.2.2) from ⟨_, rfl, ⟨[.int .i64 x0.1], [.slice a1 x0.2.1.length cq1] ++ ([.slice a2 x0.2.2.1.length cq2] ++ ([.slice a3 x0.2.2.2.1.length cq3] ++ [.slice a4 x0.2.2.2.2.length cq4])), rfl, rfl, ⟨[.slice a1 x0.2.1.length cq1], [.slice a2 x0.2.2.1.length cq2] ++ ([.slice a3 x0.2.2.2.1.length cq3] ++ [.slice a4 x0.2.2.2.2.length cq4]), rfl, r17.rep1, ⟨[.slice a2 x0.2.2.1.length cq2], [.slice a3 x0.2.2.2.1.length cq3] ++ [.slice a4 x0.2.2.2.2.length cq4], rfl, r18.rep1, ⟨[.slice a3 x0.2.2.2.1.length cq3], [.slice a4 x0.2.2.2.2.length cq4], rfl, r19.rep1, r20.rep1⟩⟩⟩⟩⟩) Ex8) ?_
    rintro _ w4 ⟨u1, rfl, r23, hx4⟩
    have k3 := k1.tr hx4
    have hb3 := hb2.ext hx4
    have r24 := r17.ext hx4
    have r25 := r18.ext hx4
    have r26 := r19.ext hx4
    have r27 := r20.ext hx4
    have r28 := r21.ext hx4
    have r29 := r22.ext hx4
    have hz := RV.sl r23.rv; obtain ⟨a7, cq7, rfl, -, -, -⟩ := hz
    refine vl rfl rfl xas <| nl <| wp_seq <| rg <| vl rfl rfl (xlda rfl ti26 rfl (Bx.cs hb3)) <| vl rfl rfl xmv <| ?_
    have hz := bs hF; obtain ⟨x9, Ex9, hF⟩ := hz
    refine cl rfl rfl (xc cb32 (mc rfl (mc rfl mn))) (c32 (show RV (α := (Int × (List Int) × (List ((List Int) × Int)) × (List ((List Int) × Int)) × (List (List Int)))) _ (.agg [.int .i64 x0.1, .slice a1 x0.2.1.length cq1, .slice a2 x0.2.2.1.length cq2, .slice a3 x0.2.2.2.1.length cq3, .slice a4 x0.2.2.2.2.length cq4].toArray) (x0.1, x0.2.1, x0.2.2.1, x0.2.2.2.1, x0.2.2.2.2) from ⟨_, rfl, ⟨[.int .i64 x0.1], [.slice a1 x0.2.1.length cq1] ++ ([.slice a2 x0.2.2.1.length cq2] ++ ([.slice a3 x0.2.2.2.1.length cq3] ++ [.slice a4 x0.2.2.2.2.length cq4])), rfl, rfl, ⟨[.slice a1 x0.2.1.length cq1], [.slice a2 x0.2.2.1.length cq2] ++ ([.slice a3 x0.2.2.2.1.length cq3] ++ [.slice a4 x0.2.2.2.2.length cq4]), rfl, r24.rep1, ⟨[.slice a2 x0.2.2.1.length cq2], [.slice a3 x0.2.2.2.1.length cq3] ++ [.slice a4 x0.2.2.2.2.length cq4], rfl, r25.rep1, ⟨[.slice a3 x0.2.2.2.1.length cq3], [.slice a4 x0.2.2.2.2.length cq4], rfl, r26.rep1, r27.rep1⟩⟩⟩⟩⟩) r23.rv Ex9) ?_
    rintro _ w5 ⟨rfl, hx5⟩
    have k4 := k3.tr hx5
    have k5 := hx4.tr hx5
    have hb4 := hb3.ext hx5
    have r30 := r24.ext hx5
    have r31 := r25.ext hx5
    have r32 := r26.ext hx5
    have r33 := r27.ext hx5
    have r34 := r28.ext hx5
    have r35 := r29.ext hx5
    have r36 := r23.ext hx5
    refine vl rfl rfl xas <| nl <| wp_seq <| rg <| vl rfl rfl (xlda rfl ti26 rfl (Bx.cs hb4)) <| vl rfl rfl xmv <| ?_
    have hz := bs hF; obtain ⟨x10, Ex10, hF⟩ := hz
    refine cl rfl rfl (xc cb16 (mc rfl (mc rfl mn))) (c16 (show RV (α := (Int × (List Int) × (List ((List Int) × Int)) × (List ((List Int) × Int)) × (List (List Int)))) _ (.agg [.int .i64 x0.1, .slice a1 x0.2.1.length cq1, .slice a2 x0.2.2.1.length cq2, .slice a3 x0.2.2.2.1.length cq3, .slice a4 x0.2.2.2.2.length cq4].toArray) (x0.1, x0.2.1, x0.2.2.1, x0.2.2.2.1, x0.2.2.2.2) from ⟨_, rfl, ⟨[.int .i64 x0.1], [.slice a1 x0.2.1.length cq1] ++ ([.slice a2 x0.2.2.1.length cq2] ++ ([.slice a3 x0.2.2.2.1.length cq3] ++ [.slice a4 x0.2.2.2.2.length cq4])), rfl, rfl, ⟨[.slice a1 x0.2.1.length cq1], [.slice a2 x0.2.2.1.length cq2] ++ ([.slice a3 x0.2.2.2.1.length cq3] ++ [.slice a4 x0.2.2.2.2.length cq4]), rfl, r30.rep1, ⟨[.slice a2 x0.2.2.1.length cq2], [.slice a3 x0.2.2.2.1.length cq3] ++ [.slice a4 x0.2.2.2.2.length cq4], rfl, r31.rep1, ⟨[.slice a3 x0.2.2.2.1.length cq3], [.slice a4 x0.2.2.2.2.length cq4], rfl, r32.rep1, r33.rep1⟩⟩⟩⟩⟩) r36.rv Ex10) ?_
    rintro _ w6 ⟨u2, rfl, r37, hx6⟩
    have k6 := k4.tr hx6
    have k7 := k5.tr hx6
    have hb5 := hb4.ext hx6
    have r38 := r30.ext hx6
    have r39 := r31.ext hx6
    have r40 := r32.ext hx6
    have r41 := r33.ext hx6
    have r42 := r34.ext hx6
    have r43 := r35.ext hx6
    have r44 := r36.ext hx6
    have hz := RV.sl r37; obtain ⟨a8, cq8, rfl, -, -, -⟩ := hz
    refine vl rfl rfl xmv <| vl rfl rfl (xext rfl rfl) <| vl rfl rfl (xext rfl rfl) <| vl rfl rfl (xext rfl rfl) <| vl rfl rfl xas <| vl rfl rfl xas <| vl rfl rfl xas <| nl <| wp_seq <| rg <| vl rfl rfl (xlda rfl ti26 rfl (Bx.cs hb5)) <| vl rfl rfl xmv <| ?_
    have hz := bs hF; obtain ⟨x11, Ex11, hF⟩ := hz
    refine cl rfl rfl (xc cb33 (mc rfl (mc rfl mn))) (c33 (show RV (α := (Int × (List Int) × (List ((List Int) × Int)) × (List ((List Int) × Int)) × (List (List Int)))) _ (.agg [.int .i64 x0.1, .slice a1 x0.2.1.length cq1, .slice a2 x0.2.2.1.length cq2, .slice a3 x0.2.2.2.1.length cq3, .slice a4 x0.2.2.2.2.length cq4].toArray) (x0.1, x0.2.1, x0.2.2.1, x0.2.2.2.1, x0.2.2.2.2) from ⟨_, rfl, ⟨[.int .i64 x0.1], [.slice a1 x0.2.1.length cq1] ++ ([.slice a2 x0.2.2.1.length cq2] ++ ([.slice a3 x0.2.2.2.1.length cq3] ++ [.slice a4 x0.2.2.2.2.length cq4])), rfl, rfl, ⟨[.slice a1 x0.2.1.length cq1], [.slice a2 x0.2.2.1.length cq2] ++ ([.slice a3 x0.2.2.2.1.length cq3] ++ [.slice a4 x0.2.2.2.2.length cq4]), rfl, r38.rep1, ⟨[.slice a2 x0.2.2.1.length cq2], [.slice a3 x0.2.2.2.1.length cq3] ++ [.slice a4 x0.2.2.2.2.length cq4], rfl, r39.rep1, ⟨[.slice a3 x0.2.2.2.1.length cq3], [.slice a4 x0.2.2.2.2.length cq4], rfl, r40.rep1, r41.rep1⟩⟩⟩⟩⟩) r44.rv Ex11) ?_
    rintro _ w7 ⟨u3, rfl, r45, hx7⟩
    have k8 := k6.tr hx7
    have k9 := k7.tr hx7
    have hb6 := hb5.ext hx7
    have r46 := r38.ext hx7
    have r47 := r39.ext hx7
    have r48 := r40.ext hx7
    have r49 := r41.ext hx7
    have r50 := r42.ext hx7
    have r51 := r43.ext hx7
    have r52 := r44.ext hx7
    have r53 := r37.ext hx7
    have hz := RV.sl r45; obtain ⟨a9, cq9, rfl, -, -, -⟩ := hz
    refine vl rfl rfl xmv <| vl rfl rfl (xext rfl rfl) <| vl rfl rfl (xext rfl rfl) <| vl rfl rfl xas <| vl rfl rfl xas <| nl <| wp_seq <| wp_seq <| rg <| vl rfl rfl xmv <| vl rfl rfl (xneq rfl rfl) <| vl rfl rfl xmv <| gv rfl rfl rfl rfl (gw0 rfl) rfl (fun hc => xmva rfl) <| gv rfl rfl rfl rfl (gw0 rfl) rfl (fun hc => xneq (mv hc rfl) rfl) <| gv rfl rfl rfl rfl (gw0 rfl) rfl (fun hc => xmva (mv hc rfl)) <| gv rfl rfl rfl rfl (gn1 rfl) rfl (fun hc => xmva rfl) <| gv rfl rfl rfl rfl (gn1 rfl) rfl (fun hc => xneq (mv hc rfl) rfl) <| gv rfl rfl rfl rfl (gw0 rfl) rfl (fun hc => xpa (mv hc rfl) (mvn hc rfl) rfl) <| vl rfl rfl (xpo rfl rfl rfl) <| vl rfl rfl xmv <| gv rfl rfl rfl rfl (gw0 rfl) rfl (fun hc => xmva rfl) <| gv rfl rfl rfl rfl (gw0 rfl) rfl (fun hc => xeql (mv hc rfl) rfl) <| gv rfl rfl rfl rfl (gw0 rfl) rfl (fun hc => xmva rfl) <| gv rfl rfl rfl rfl (gw0 rfl) rfl (fun hc => xeql (mv hc rfl) rfl) <| gv rfl rfl rfl rfl (gw0 rfl) rfl (fun hc => xneb Try.underlying4 (mv hc rfl) (mv hc rfl)) <| vl rfl rfl (xpo rfl rfl rfl) <| vl rfl rfl xmv <| gv rfl rfl rfl rfl (gw0 rfl) rfl (fun hc => xmva rfl) <| gv rfl rfl rfl rfl (gw0 rfl) rfl (fun hc => xeql (mv hc rfl) rfl) <| gv rfl rfl rfl rfl (gw0 rfl) rfl (fun hc => xmva rfl) <| gv rfl rfl rfl rfl (gw0 rfl) rfl (fun hc => xeql (mv hc rfl) rfl) <| gv rfl rfl rfl rfl (gw0 rfl) rfl (fun hc => xneb Try.underlying4 (mv hc rfl) (mv hc rfl)) <| vl rfl rfl (xpo rfl rfl rfl) <| nl <| cnd rfl (fun h7 => ?_) (fun h7 => ?_)
    ·
      have hF := ifp hF h7
      refine wp_seq <| rg <| vl rfl rfl xas <| nl <| ?_
      cases hF
      exact wp_ret <| rt rfl (.tmp rfl rfl .nil) ⟨rfl, k8⟩
    ·
      have hF := ifn hF h7
      refine wp_skip <| wp_seq <| wp_seq <| ?_
      have hz := bs hF; obtain ⟨y1, hB1, hF⟩ := hz
      refine ct (fun L w => L 119 = .bool y1 ∧ L 2 = .int .u8 x2 ∧ L 3 = .slice a5 x3.length cq5 ∧ L 4 = .slice a6 x4.length cq6 ∧ L 5 = .pointer (some ⟨b6, 0, none⟩) ∧ L 11 = .slice a7 x8.length cq7 ∧ L 12 = .int .i64 x9 ∧ L 16 = .slice a9 x11.1.length cq9 ∧ w2.heap.size ≤ w.heap.size ∧ Ext w7 w) ?_ ?_
      ·
        refine rg <| vl rfl rfl xmv <| vl rfl rfl (xeql rfl rfl) <| vl rfl rfl xmv <| ?_
        refine Or.elim (Bool.eq_false_or_eq_true (decide (x10.2.2 = 0))) (fun h8 => ?_) (fun h8 => ?_)
        ·
          have hB1 := ifp hB1 h8
          refine gtk rfl rfl rfl rfl rfl (bt h8) <| vl rfl rfl xmv <| gtk rfl rfl rfl rfl rfl (bt h8) <| vl rfl rfl (xlss rfl rfl) <| gtk rfl rfl rfl rfl rfl (bt h8) <| vl rfl rfl xmv <| ?_
          refine Or.elim (Bool.eq_false_or_eq_true (decide (x10.1 < 0))) (fun h9 => ?_) (fun h9 => ?_)
          ·
            have hB1 := ifp hB1 h9
            refine gfk rfl rfl rfl rfl rfl (btf h9) rfl <| gfk rfl rfl rfl rfl rfl (btf h9) rfl <| gfk rfl rfl rfl rfl rfl (btf h9) rfl <| gfk rfl rfl rfl rfl rfl (btf h9) rfl <| gfk rfl rfl rfl rfl rfl (btf h9) rfl <| gtk rfl rfl rfl rfl rfl (bt h8) <| vl rfl rfl (xpt rfl h9 rfl) <| gtk rfl rfl rfl rfl rfl (bt h8) <| vl rfl rfl xmv <| ?_
            refine Or.elim (Bool.eq_false_or_eq_true true) (fun h10 => ?_) (fun h10 => ?_)
            ·
              have hB1 := ifp hB1 h10
              refine gfk rfl rfl rfl rfl rfl (btf h10) rfl <| gfk rfl rfl rfl rfl rfl (btf h10) rfl <| gfk rfl rfl rfl rfl rfl (btf h10) rfl <| gfk rfl rfl rfl rfl rfl (btf h10) rfl <| gfk rfl rfl rfl rfl rfl (btf h10) rfl <| gfk rfl rfl rfl rfl rfl (btf h10) rfl <| gtk rfl rfl rfl rfl rfl (bt h8) <| vl rfl rfl (xpt rfl h10 rfl) <| gtk rfl rfl rfl rfl rfl (bt h8) <| vl rfl rfl xmv <| gfk rfl rfl rfl rfl rfl (btf h10) rfl <| gfk rfl rfl rfl rfl rfl (btf h10) rfl <| gfk rfl rfl rfl rfl rfl (btf h10) rfl <| gfk rfl rfl rfl rfl rfl (btf h10) rfl <| gfk rfl rfl rfl rfl rfl (btf h10) rfl <| gfk rfl rfl rfl rfl rfl (btf h10) rfl <| gtk rfl rfl rfl rfl rfl (bt h8) <| vl rfl rfl (xpt rfl h10 rfl) <| gtk rfl rfl rfl rfl rfl (bt h8) <| vl rfl rfl xmv <| gfk rfl rfl rfl rfl rfl (btf h10) rfl <| gfk rfl rfl rfl rfl rfl (btf h10) rfl <| gfk rfl rfl rfl rfl rfl (btf h10) rfl <| gfk rfl rfl rfl rfl rfl (btf h10) rfl <| gfk rfl rfl rfl rfl rfl (btf h10) rfl <| gfk rfl rfl rfl rfl rfl (btf h10) rfl <| gfk rfl rfl rfl rfl rfl (btf h10) rfl <| gfk rfl rfl rfl rfl rfl (btf h10) rfl <| gtk rfl rfl rfl rfl rfl (bt h8) <| vl rfl rfl (xpt rfl h10 rfl) <| vl rfl rfl (xpt rfl h8 rfl) <| nl <| ?_
              cases hB1
              refine lf <| ?_
              exact ⟨rfl, rfl, rfl, rfl, rfl, rfl, rfl, rfl, k9.size, (Ext.refl _)⟩
            ·
              have hB1 := ifn hB1 h10
              refine gtk rfl rfl rfl rfl rfl (bf h10) <| vl rfl rfl (xlda rfl ti26 rfl (Bx.cs hb6)) <| gtk rfl rfl rfl rfl rfl (bf h10) <| vl rfl rfl xmv <| gtk rfl rfl rfl rfl rfl (bf h10) <| vl rfl rfl xmv <| gtk rfl rfl rfl rfl rfl (bf h10) <| vl rfl rfl xmv <| ?_
              have hz := bs hB1; obtain ⟨x14, Ex14, hB1⟩ := hz
              refine gtk rfl rfl rfl rfl rfl (bf h10) <| cl rfl rfl (xc cb17 (mc rfl (mc rfl (mc rfl (mc rfl mn))))) (c17 (show RV (α := (Int × (List Int) × (List ((List Int) × Int)) × (List ((List Int) × Int)) × (List (List Int)))) _ (.agg [.int .i64 x0.1, .slice a1 x0.2.1.length cq1, .slice a2 x0.2.2.1.length cq2, .slice a3 x0.2.2.2.1.length cq3, .slice a4 x0.2.2.2.2.length cq4].toArray) (x0.1, x0.2.1, x0.2.2.1, x0.2.2.2.1, x0.2.2.2.2) from ⟨_, rfl, ⟨[.int .i64 x0.1], [.slice a1 x0.2.1.length cq1] ++ ([.slice a2 x0.2.2.1.length cq2] ++ ([.slice a3 x0.2.2.2.1.length cq3] ++ [.slice a4 x0.2.2.2.2.length cq4])), rfl, rfl, ⟨[.slice a1 x0.2.1.length cq1], [.slice a2 x0.2.2.1.length cq2] ++ ([.slice a3 x0.2.2.2.1.length cq3] ++ [.slice a4 x0.2.2.2.2.length cq4]), rfl, r46.rep1, ⟨[.slice a2 x0.2.2.1.length cq2], [.slice a3 x0.2.2.2.1.length cq3] ++ [.slice a4 x0.2.2.2.2.length cq4], rfl, r47.rep1, ⟨[.slice a3 x0.2.2.2.1.length cq3], [.slice a4 x0.2.2.2.2.length cq4], rfl, r48.rep1, r49.rep1⟩⟩⟩⟩⟩) r52.rv r53 Ex14) ?_
              rintro _ w10 ⟨rfl, hx10⟩
              have k14 := k8.tr hx10
              have k15 := k9.tr hx10
              have hb9 := hb6.ext hx10
              have r71 := r46.ext hx10
              have r72 := r47.ext hx10
              have r73 := r48.ext hx10
              have r74 := r49.ext hx10
              have r75 := r50.ext hx10
              have r76 := r51.ext hx10
              have r77 := r52.ext hx10
              have r78 := r53.ext hx10
              have r79 := r45.ext hx10
              refine gtk rfl rfl rfl rfl rfl (bf h10) <| vl rfl rfl (xneq rfl rfl) <| gtk rfl rfl rfl rfl rfl (bt h8) <| vl rfl rfl (xpf rfl h10 rfl) <| gtk rfl rfl rfl rfl rfl (bt h8) <| vl rfl rfl xmv <| ?_
              refine Or.elim (Bool.eq_false_or_eq_true (!decide (x14 = 0))) (fun h11 => ?_) (fun h11 => ?_)
              ·
                have hB1 := ifp hB1 h11
                refine gfk rfl rfl rfl rfl rfl (btf h11) rfl <| gfk rfl rfl rfl rfl rfl (btf h11) rfl <| gfk rfl rfl rfl rfl rfl (btf h11) rfl <| gfk rfl rfl rfl rfl rfl (btf h11) rfl <| gfk rfl rfl rfl rfl rfl (btf h11) rfl <| gfk rfl rfl rfl rfl rfl (btf h11) rfl <| gtk rfl rfl rfl rfl rfl (bt h8) <| vl rfl rfl (xpt rfl h11 rfl) <| gtk rfl rfl rfl rfl rfl (bt h8) <| vl rfl rfl xmv <| gtk rfl rfl rfl rfl rfl (bf h10) <| vl rfl rfl xmv <| gtk rfl rfl rfl rfl rfl (bf h10) <| vl rfl rfl (xfa rfl fa26_4) <| gtk rfl rfl rfl rfl rfl (bf h10) <| vl rfl rfl (xld rfl ti24 ((Bx.cs hb9).at 4 rfl)) <| gtk rfl rfl rfl rfl rfl (bf h10) <| vl rfl rfl xmv <| ?_
                have hz := bs hB1; obtain ⟨x15, Ex15, hB1⟩ := hz
                have hz := (RV.els r9).ix Ex15; obtain ⟨b7, f1, cs6, e7, i1, i2, q10, hc1⟩ := hz
                cases e7
                obtain ⟨a10, cq10, rfl, p5, q11, e8⟩ := q10
                have r80 := RV.of1 p5 q11 e8
                have hc2 := hc1.ext k14
                have r81 := r80.ext k14
                refine gtk rfl rfl rfl rfl rfl (bf h10) <| vl rfl rfl (xixs rfl rfl Try.underlying24 ti22 i1 i2) <| gtk rfl rfl rfl rfl rfl (bf h10) <| vl rfl rfl (xld rfl ti22 (hc2.at 0 rfl)) <| ?_
                have hz := bs hB1; obtain ⟨x16, Ex16, hB1⟩ := hz
                refine gtk rfl rfl rfl rfl rfl (bf h10) <| cl rfl rfl (xc cb34 (mc rfl (mc rfl mn))) (c34 r79 r81 Ex16) ?_
                rintro _ w11 ⟨rfl, hx11⟩
                have k16 := k14.tr hx11
                have k17 := k15.tr hx11
                have k18 := hx10.tr hx11
                have hb10 := hb9.ext hx11
                have r82 := r71.ext hx11
                have r83 := r72.ext hx11
                have r84 := r73.ext hx11
                have r85 := r74.ext hx11
                have r86 := r75.ext hx11
                have r87 := r76.ext hx11
                have r88 := r77.ext hx11
                have r89 := r79.ext hx11
                refine gtk rfl rfl rfl rfl rfl (bf h10) <| vl rfl rfl (xnot rfl) <| gtk rfl rfl rfl rfl rfl (bt h8) <| vl rfl rfl (xpf rfl h10 rfl) <| vl rfl rfl (xpt rfl h8 rfl) <| nl <| ?_
                cases hB1
                refine lf <| ?_
                exact ⟨rfl, rfl, rfl, rfl, rfl, rfl, rfl, rfl, k17.size, k18⟩
              ·
                have hB1 := ifn hB1 h11
                refine gtk rfl rfl rfl rfl rfl (bf h11) <| vl rfl rfl (xlda rfl ti26 rfl (Bx.cs hb9)) <| gtk rfl rfl rfl rfl rfl (bf h11) <| vl rfl rfl xmv <| gtk rfl rfl rfl rfl rfl (bf h11) <| vl rfl rfl xmv <| gtk rfl rfl rfl rfl rfl (bf h11) <| vl rfl rfl xmv <| ?_
                have hz := bs hB1; obtain ⟨x17, Ex17, hB1⟩ := hz
                refine gtk rfl rfl rfl rfl rfl (bf h11) <| cl rfl rfl (xc cb18 (mc rfl (mc rfl (mc rfl (mc rfl mn))))) (c18 (show RV (α := (Int × (List Int) × (List ((List Int) × Int)) × (List ((List Int) × Int)) × (List (List Int)))) _ (.agg [.int .i64 x0.1, .slice a1 x0.2.1.length cq1, .slice a2 x0.2.2.1.length cq2, .slice a3 x0.2.2.2.1.length cq3, .slice a4 x0.2.2.2.2.length cq4].toArray) (x0.1, x0.2.1, x0.2.2.1, x0.2.2.2.1, x0.2.2.2.2) from ⟨_, rfl, ⟨[.int .i64 x0.1], [.slice a1 x0.2.1.length cq1] ++ ([.slice a2 x0.2.2.1.length cq2] ++ ([.slice a3 x0.2.2.2.1.length cq3] ++ [.slice a4 x0.2.2.2.2.length cq4])), rfl, rfl, ⟨[.slice a1 x0.2.1.length cq1], [.slice a2 x0.2.2.1.length cq2] ++ ([.slice a3 x0.2.2.2.1.length cq3] ++ [.slice a4 x0.2.2.2.2.length cq4]), rfl, r71.rep1, ⟨[.slice a2 x0.2.2.1.length cq2], [.slice a3 x0.2.2.2.1.length cq3] ++ [.slice a4 x0.2.2.2.2.length cq4], rfl, r72.rep1, ⟨[.slice a3 x0.2.2.2.1.length cq3], [.slice a4 x0.2.2.2.2.length cq4], rfl, r73.rep1, r74.rep1⟩⟩⟩⟩⟩) r77.rv r78 Ex17) ?_
                rintro _ w12 ⟨rfl, hx12⟩
                have k19 := k14.tr hx12
                have k20 := k15.tr hx12
                have k21 := hx10.tr hx12
                have hb11 := hb9.ext hx12
                have r90 := r71.ext hx12
                have r91 := r72.ext hx12
                have r92 := r73.ext hx12
                have r93 := r74.ext hx12
                have r94 := r75.ext hx12
                have r95 := r76.ext hx12
                have r96 := r77.ext hx12
                have r97 := r79.ext hx12
                refine gtk rfl rfl rfl rfl rfl (bf h11) <| vl rfl rfl (xneq rfl rfl) <| gtk rfl rfl rfl rfl rfl (bt h8) <| vl rfl rfl (xpf rfl h11 rfl) <| gtk rfl rfl rfl rfl rfl (bt h8) <| vl rfl rfl xmv <| ?_
                refine Or.elim (Bool.eq_false_or_eq_true (!decide (x17 = 0))) (fun h12 => ?_) (fun h12 => ?_)
                ·
                  have hB1 := ifp hB1 h12
                  refine gfk rfl rfl rfl rfl rfl (btf h12) rfl <| gfk rfl rfl rfl rfl rfl (btf h12) rfl <| gfk rfl rfl rfl rfl rfl (btf h12) rfl <| gfk rfl rfl rfl rfl rfl (btf h12) rfl <| gfk rfl rfl rfl rfl rfl (btf h12) rfl <| gfk rfl rfl rfl rfl rfl (btf h12) rfl <| gfk rfl rfl rfl rfl rfl (btf h12) rfl <| gfk rfl rfl rfl rfl rfl (btf h12) rfl <| gtk rfl rfl rfl rfl rfl (bt h8) <| vl rfl rfl (xpt rfl h12 rfl) <| vl rfl rfl (xpt rfl h8 rfl) <| nl <| ?_
                  cases hB1
                  refine lf <| ?_
                  exact ⟨rfl, rfl, rfl, rfl, rfl, rfl, rfl, rfl, k20.size, k21⟩
                ·
                  have hB1 := ifn hB1 h12
                  refine gtk rfl rfl rfl rfl rfl (bf h12) <| vl rfl rfl xmv <| gtk rfl rfl rfl rfl rfl (bf h12) <| vl rfl rfl (xfa rfl fa26_4) <| gtk rfl rfl rfl rfl rfl (bf h12) <| vl rfl rfl (xld rfl ti24 ((Bx.cs hb11).at 4 rfl)) <| gtk rfl rfl rfl rfl rfl (bf h12) <| vl rfl rfl xmv <| ?_
                  have hz := bs hB1; obtain ⟨x18, Ex18, hB1⟩ := hz
                  have hz := (RV.els r9).ix Ex18; obtain ⟨b8, f2, cs7, e9, i3, i4, q12, hc3⟩ := hz
                  cases e9
                  obtain ⟨a11, cq11, rfl, p6, q13, e10⟩ := q12
                  have r98 := RV.of1 p6 q13 e10
                  have hc4 := hc3.ext k19
                  have r99 := r98.ext k19
                  refine gtk rfl rfl rfl rfl rfl (bf h12) <| vl rfl rfl (xixs rfl rfl Try.underlying24 ti22 i3 i4) <| gtk rfl rfl rfl rfl rfl (bf h12) <| vl rfl rfl (xld rfl ti22 (hc4.at 0 rfl)) <| ?_
                  have hz := bs hB1; obtain ⟨x19, Ex19, hB1⟩ := hz
                  refine gtk rfl rfl rfl rfl rfl (bf h12) <| cl rfl rfl (xc cb34 (mc rfl (mc rfl mn))) (c34 r97 r99 Ex19) ?_
                  rintro _ w13 ⟨rfl, hx13⟩
                  have k22 := k19.tr hx13
                  have k23 := k20.tr hx13
                  have k24 := k21.tr hx13
                  have hb12 := hb11.ext hx13
                  have r100 := r90.ext hx13
                  have r101 := r91.ext hx13
                  have r102 := r92.ext hx13
                  have r103 := r93.ext hx13
                  have r104 := r94.ext hx13
                  have r105 := r95.ext hx13
                  have r106 := r96.ext hx13
                  have r107 := r97.ext hx13
                  refine gtk rfl rfl rfl rfl rfl (bf h12) <| vl rfl rfl (xnot rfl) <| gtk rfl rfl rfl rfl rfl (bt h8) <| vl rfl rfl (xpf rfl h12 rfl) <| vl rfl rfl (xpt rfl h8 rfl) <| nl <| ?_
                  cases hB1
                  refine lf <| ?_
                  exact ⟨rfl, rfl, rfl, rfl, rfl, rfl, rfl, rfl, k23.size, k24⟩
          ·
            have hB1 := ifn hB1 h9
            refine gtk rfl rfl rfl rfl rfl (bf h9) <| vl rfl rfl xmv <| gtk rfl rfl rfl rfl rfl (bf h9) <| vl rfl rfl (xfa rfl fa26_4) <| gtk rfl rfl rfl rfl rfl (bf h9) <| vl rfl rfl (xld rfl ti24 ((Bx.cs hb6).at 4 rfl)) <| gtk rfl rfl rfl rfl rfl (bf h9) <| vl rfl rfl (xlen rfl Try.underlying24) <| gtk rfl rfl rfl rfl rfl (bf h9) <| vl rfl rfl (xgeq rfl rfl) <| gtk rfl rfl rfl rfl rfl (bt h8) <| vl rfl rfl (xpf rfl h9 rfl) <| gtk rfl rfl rfl rfl rfl (bt h8) <| vl rfl rfl xmv <| ?_
            refine Or.elim (Bool.eq_false_or_eq_true (decide ((x0.2.2.2.2.length : Int) ≤ x10.1))) (fun h13 => ?_) (fun h13 => ?_)
            ·
              have hB1 := ifp hB1 h13
              refine gfk rfl rfl rfl rfl rfl (btf h13) rfl <| gfk rfl rfl rfl rfl rfl (btf h13) rfl <| gfk rfl rfl rfl rfl rfl (btf h13) rfl <| gfk rfl rfl rfl rfl rfl (btf h13) rfl <| gfk rfl rfl rfl rfl rfl (btf h13) rfl <| gfk rfl rfl rfl rfl rfl (btf h13) rfl <| gtk rfl rfl rfl rfl rfl (bt h8) <| vl rfl rfl (xpt rfl h13 rfl) <| gtk rfl rfl rfl rfl rfl (bt h8) <| vl rfl rfl xmv <| ?_
              refine Or.elim (Bool.eq_false_or_eq_true true) (fun h14 => ?_) (fun h14 => ?_)
              ·
                have hB1 := ifp hB1 h14
                refine gfk rfl rfl rfl rfl rfl (btf h14) rfl <| gfk rfl rfl rfl rfl rfl (btf h14) rfl <| gfk rfl rfl rfl rfl rfl (btf h14) rfl <| gfk rfl rfl rfl rfl rfl (btf h14) rfl <| gfk rfl rfl rfl rfl rfl (btf h14) rfl <| gfk rfl rfl rfl rfl rfl (btf h14) rfl <| gtk rfl rfl rfl rfl rfl (bt h8) <| vl rfl rfl (xpt rfl h14 rfl) <| gtk rfl rfl rfl rfl rfl (bt h8) <| vl rfl rfl xmv <| gfk rfl rfl rfl rfl rfl (btf h14) rfl <| gfk rfl rfl rfl rfl rfl (btf h14) rfl <| gfk rfl rfl rfl rfl rfl (btf h14) rfl <| gfk rfl rfl rfl rfl rfl (btf h14) rfl <| gfk rfl rfl rfl rfl rfl (btf h14) rfl <| gfk rfl rfl rfl rfl rfl (btf h14) rfl <| gfk rfl rfl rfl rfl rfl (btf h14) rfl <| gfk rfl rfl rfl rfl rfl (btf h14) rfl <| gtk rfl rfl rfl rfl rfl (bt h8) <| vl rfl rfl (xpt rfl h14 rfl) <| vl rfl rfl (xpt rfl h8 rfl) <| nl <| ?_
                cases hB1
                refine lf <| ?_
                exact ⟨rfl, rfl, rfl, rfl, rfl, rfl, rfl, rfl, k9.size, (Ext.refl _)⟩
              ·
                have hB1 := ifn hB1 h14
                refine gtk rfl rfl rfl rfl rfl (bf h14) <| vl rfl rfl (xlda rfl ti26 rfl (Bx.cs hb6)) <| gtk rfl rfl rfl rfl rfl (bf h14) <| vl rfl rfl xmv <| gtk rfl rfl rfl rfl rfl (bf h14) <| vl rfl rfl xmv <| gtk rfl rfl rfl rfl rfl (bf h14) <| vl rfl rfl xmv <| ?_
                have hz := bs hB1; obtain ⟨x20, Ex20, hB1⟩ := hz
                refine gtk rfl rfl rfl rfl rfl (bf h14) <| cl rfl rfl (xc cb18 (mc rfl (mc rfl (mc rfl (mc rfl mn))))) (c18 (show RV (α := (Int × (List Int) × (List ((List Int) × Int)) × (List ((List Int) × Int)) × (List (List Int)))) _ (.agg [.int .i64 x0.1, .slice a1 x0.2.1.length cq1, .slice a2 x0.2.2.1.length cq2, .slice a3 x0.2.2.2.1.length cq3, .slice a4 x0.2.2.2.2.length cq4].toArray) (x0.1, x0.2.1, x0.2.2.1, x0.2.2.2.1, x0.2.2.2.2) from ⟨_, rfl, ⟨[.int .i64 x0.1], [.slice a1 x0.2.1.length cq1] ++ ([.slice a2 x0.2.2.1.length cq2] ++ ([.slice a3 x0.2.2.2.1.length cq3] ++ [.slice a4 x0.2.2.2.2.length cq4])), rfl, rfl, ⟨[.slice a1 x0.2.1.length cq1], [.slice a2 x0.2.2.1.length cq2] ++ ([.slice a3 x0.2.2.2.1.length cq3] ++ [.slice a4 x0.2.2.2.2.length cq4]), rfl, r46.rep1, ⟨[.slice a2 x0.2.2.1.length cq2], [.slice a3 x0.2.2.2.1.length cq3] ++ [.slice a4 x0.2.2.2.2.length cq4], rfl, r47.rep1, ⟨[.slice a3 x0.2.2.2.1.length cq3], [.slice a4 x0.2.2.2.2.length cq4], rfl, r48.rep1, r49.rep1⟩⟩⟩⟩⟩) r52.rv r53 Ex20) ?_
                rintro _ w14 ⟨rfl, hx14⟩
                have k25 := k8.tr hx14
                have k26 := k9.tr hx14
                have hb13 := hb6.ext hx14
                have r108 := r46.ext hx14
                have r109 := r47.ext hx14
                have r110 := r48.ext hx14
                have r111 := r49.ext hx14
                have r112 := r50.ext hx14
                have r113 := r51.ext hx14
                have r114 := r52.ext hx14
                have r115 := r45.ext hx14
                refine gtk rfl rfl rfl rfl rfl (bf h14) <| vl rfl rfl (xneq rfl rfl) <| gtk rfl rfl rfl rfl rfl (bt h8) <| vl rfl rfl (xpf rfl h14 rfl) <| gtk rfl rfl rfl rfl rfl (bt h8) <| vl rfl rfl xmv <| ?_
                refine Or.elim (Bool.eq_false_or_eq_true (!decide (x20 = 0))) (fun h15 => ?_) (fun h15 => ?_)
                ·
                  have hB1 := ifp hB1 h15
                  refine gfk rfl rfl rfl rfl rfl (btf h15) rfl <| gfk rfl rfl rfl rfl rfl (btf h15) rfl <| gfk rfl rfl rfl rfl rfl (btf h15) rfl <| gfk rfl rfl rfl rfl rfl (btf h15) rfl <| gfk rfl rfl rfl rfl rfl (btf h15) rfl <| gfk rfl rfl rfl rfl rfl (btf h15) rfl <| gfk rfl rfl rfl rfl rfl (btf h15) rfl <| gfk rfl rfl rfl rfl rfl (btf h15) rfl <| gtk rfl rfl rfl rfl rfl (bt h8) <| vl rfl rfl (xpt rfl h15 rfl) <| vl rfl rfl (xpt rfl h8 rfl) <| nl <| ?_
                  cases hB1
                  refine lf <| ?_
                  exact ⟨rfl, rfl, rfl, rfl, rfl, rfl, rfl, rfl, k26.size, hx14⟩
                ·
                  have hB1 := ifn hB1 h15
                  refine gtk rfl rfl rfl rfl rfl (bf h15) <| vl rfl rfl xmv <| gtk rfl rfl rfl rfl rfl (bf h15) <| vl rfl rfl (xfa rfl fa26_4) <| gtk rfl rfl rfl rfl rfl (bf h15) <| vl rfl rfl (xld rfl ti24 ((Bx.cs hb13).at 4 rfl)) <| gtk rfl rfl rfl rfl rfl (bf h15) <| vl rfl rfl xmv <| ?_
                  have hz := bs hB1; obtain ⟨x21, Ex21, hB1⟩ := hz
                  have hz := (RV.els r9).ix Ex21; obtain ⟨b9, f3, cs8, e11, i5, i6, q14, hc5⟩ := hz
                  cases e11
                  obtain ⟨a12, cq12, rfl, p7, q15, e12⟩ := q14
                  have r116 := RV.of1 p7 q15 e12
                  have hc6 := hc5.ext k25
                  have r117 := r116.ext k25
                  refine gtk rfl rfl rfl rfl rfl (bf h15) <| vl rfl rfl (xixs rfl rfl Try.underlying24 ti22 i5 i6) <| gtk rfl rfl rfl rfl rfl (bf h15) <| vl rfl rfl (xld rfl ti22 (hc6.at 0 rfl)) <| ?_
                  have hz := bs hB1; obtain ⟨x22, Ex22, hB1⟩ := hz
                  refine gtk rfl rfl rfl rfl rfl (bf h15) <| cl rfl rfl (xc cb34 (mc rfl (mc rfl mn))) (c34 r115 r117 Ex22) ?_
                  rintro _ w15 ⟨rfl, hx15⟩
                  have k27 := k25.tr hx15
                  have k28 := k26.tr hx15
                  have k29 := hx14.tr hx15
                  have hb14 := hb13.ext hx15
                  have r118 := r108.ext hx15
                  have r119 := r109.ext hx15
                  have r120 := r110.ext hx15
                  have r121 := r111.ext hx15
                  have r122 := r112.ext hx15
                  have r123 := r113.ext hx15
                  have r124 := r114.ext hx15
                  have r125 := r115.ext hx15
                  refine gtk rfl rfl rfl rfl rfl (bf h15) <| vl rfl rfl (xnot rfl) <| gtk rfl rfl rfl rfl rfl (bt h8) <| vl rfl rfl (xpf rfl h15 rfl) <| vl rfl rfl (xpt rfl h8 rfl) <| nl <| ?_
                  cases hB1
                  refine lf <| ?_
                  exact ⟨rfl, rfl, rfl, rfl, rfl, rfl, rfl, rfl, k28.size, k29⟩
            ·
              have hB1 := ifn hB1 h13
              refine gtk rfl rfl rfl rfl rfl (bf h13) <| vl rfl rfl (xlda rfl ti26 rfl (Bx.cs hb6)) <| gtk rfl rfl rfl rfl rfl (bf h13) <| vl rfl rfl xmv <| gtk rfl rfl rfl rfl rfl (bf h13) <| vl rfl rfl xmv <| gtk rfl rfl rfl rfl rfl (bf h13) <| vl rfl rfl xmv <| ?_
              have hz := bs hB1; obtain ⟨x23, Ex23, hB1⟩ := hz
              refine gtk rfl rfl rfl rfl rfl (bf h13) <| cl rfl rfl (xc cb17 (mc rfl (mc rfl (mc rfl (mc rfl mn))))) (c17 (show RV (α := (Int × (List Int) × (List ((List Int) × Int)) × (List ((List Int) × Int)) × (List (List Int)))) _ (.agg [.int .i64 x0.1, .slice a1 x0.2.1.length cq1, .slice a2 x0.2.2.1.length cq2, .slice a3 x0.2.2.2.1.length cq3, .slice a4 x0.2.2.2.2.length cq4].toArray) (x0.1, x0.2.1, x0.2.2.1, x0.2.2.2.1, x0.2.2.2.2) from ⟨_, rfl, ⟨[.int .i64 x0.1], [.slice a1 x0.2.1.length cq1] ++ ([.slice a2 x0.2.2.1.length cq2] ++ ([.slice a3 x0.2.2.2.1.length cq3] ++ [.slice a4 x0.2.2.2.2.length cq4])), rfl, rfl, ⟨[.slice a1 x0.2.1.length cq1], [.slice a2 x0.2.2.1.length cq2] ++ ([.slice a3 x0.2.2.2.1.length cq3] ++ [.slice a4 x0.2.2.2.2.length cq4]), rfl, r46.rep1, ⟨[.slice a2 x0.2.2.1.length cq2], [.slice a3 x0.2.2.2.1.length cq3] ++ [.slice a4 x0.2.2.2.2.length cq4], rfl, r47.rep1, ⟨[.slice a3 x0.2.2.2.1.length cq3], [.slice a4 x0.2.2.2.2.length cq4], rfl, r48.rep1, r49.rep1⟩⟩⟩⟩⟩) r52.rv r53 Ex23) ?_
              rintro _ w16 ⟨rfl, hx16⟩
              have k30 := k8.tr hx16
              have k31 := k9.tr hx16
              have hb15 := hb6.ext hx16
              have r126 := r46.ext hx16
              have r127 := r47.ext hx16
              have r128 := r48.ext hx16
              have r129 := r49.ext hx16
              have r130 := r50.ext hx16
              have r131 := r51.ext hx16
              have r132 := r52.ext hx16
              have r133 := r53.ext hx16
              have r134 := r45.ext hx16
              refine gtk rfl rfl rfl rfl rfl (bf h13) <| vl rfl rfl (xneq rfl rfl) <| gtk rfl rfl rfl rfl rfl (bt h8) <| vl rfl rfl (xpf rfl h13 rfl) <| gtk rfl rfl rfl rfl rfl (bt h8) <| vl rfl rfl xmv <| ?_
              refine Or.elim (Bool.eq_false_or_eq_true (!decide (x23 = 0))) (fun h16 => ?_) (fun h16 => ?_)
              ·
                have hB1 := ifp hB1 h16
                refine gfk rfl rfl rfl rfl rfl (btf h16) rfl <| gfk rfl rfl rfl rfl rfl (btf h16) rfl <| gfk rfl rfl rfl rfl rfl (btf h16) rfl <| gfk rfl rfl rfl rfl rfl (btf h16) rfl <| gfk rfl rfl rfl rfl rfl (btf h16) rfl <| gfk rfl rfl rfl rfl rfl (btf h16) rfl <| gtk rfl rfl rfl rfl rfl (bt h8) <| vl rfl rfl (xpt rfl h16 rfl) <| gtk rfl rfl rfl rfl rfl (bt h8) <| vl rfl rfl xmv <| ?_
                refine Or.elim (Bool.eq_false_or_eq_true true) (fun h17 => ?_) (fun h17 => ?_)
                ·
                  have hB1 := ifp hB1 h17
                  refine gfk rfl rfl rfl rfl rfl (btf h17) rfl <| gfk rfl rfl rfl rfl rfl (btf h17) rfl <| gfk rfl rfl rfl rfl rfl (btf h17) rfl <| gfk rfl rfl rfl rfl rfl (btf h17) rfl <| gfk rfl rfl rfl rfl rfl (btf h17) rfl <| gfk rfl rfl rfl rfl rfl (btf h17) rfl <| gfk rfl rfl rfl rfl rfl (btf h17) rfl <| gfk rfl rfl rfl rfl rfl (btf h17) rfl <| gtk rfl rfl rfl rfl rfl (bt h8) <| vl rfl rfl (xpt rfl h17 rfl) <| vl rfl rfl (xpt rfl h8 rfl) <| nl <| ?_
                  cases hB1
                  refine lf <| ?_
                  exact ⟨rfl, rfl, rfl, rfl, rfl, rfl, rfl, rfl, k31.size, hx16⟩
                ·
                  have hB1 := ifn hB1 h17
                  refine gtk rfl rfl rfl rfl rfl (bf h17) <| vl rfl rfl xmv <| gtk rfl rfl rfl rfl rfl (bf h17) <| vl rfl rfl (xfa rfl fa26_4) <| gtk rfl rfl rfl rfl rfl (bf h17) <| vl rfl rfl (xld rfl ti24 ((Bx.cs hb15).at 4 rfl)) <| gtk rfl rfl rfl rfl rfl (bf h17) <| vl rfl rfl xmv <| ?_
                  have hz := bs hB1; obtain ⟨x24, Ex24, hB1⟩ := hz
                  have hz := (RV.els r9).ix Ex24; obtain ⟨b10, f4, cs9, e13, i7, i8, q16, hc7⟩ := hz
                  cases e13
                  obtain ⟨a13, cq13, rfl, p8, q17, e14⟩ := q16
                  have r135 := RV.of1 p8 q17 e14
                  have hc8 := hc7.ext k30
                  have r136 := r135.ext k30
                  refine gtk rfl rfl rfl rfl rfl (bf h17) <| vl rfl rfl (xixs rfl rfl Try.underlying24 ti22 i7 i8) <| gtk rfl rfl rfl rfl rfl (bf h17) <| vl rfl rfl (xld rfl ti22 (hc8.at 0 rfl)) <| ?_
                  have hz := bs hB1; obtain ⟨x25, Ex25, hB1⟩ := hz
                  refine gtk rfl rfl rfl rfl rfl (bf h17) <| cl rfl rfl (xc cb34 (mc rfl (mc rfl mn))) (c34 r134 r136 Ex25) ?_
                  rintro _ w17 ⟨rfl, hx17⟩
                  have k32 := k30.tr hx17
                  have k33 := k31.tr hx17
                  have k34 := hx16.tr hx17
                  have hb16 := hb15.ext hx17
                  have r137 := r126.ext hx17
                  have r138 := r127.ext hx17
                  have r139 := r128.ext hx17
                  have r140 := r129.ext hx17
                  have r141 := r130.ext hx17
                  have r142 := r131.ext hx17
                  have r143 := r132.ext hx17
                  have r144 := r134.ext hx17
                  refine gtk rfl rfl rfl rfl rfl (bf h17) <| vl rfl rfl (xnot rfl) <| gtk rfl rfl rfl rfl rfl (bt h8) <| vl rfl rfl (xpf rfl h17 rfl) <| vl rfl rfl (xpt rfl h8 rfl) <| nl <| ?_
                  cases hB1
                  refine lf <| ?_
                  exact ⟨rfl, rfl, rfl, rfl, rfl, rfl, rfl, rfl, k33.size, k34⟩
              ·
                have hB1 := ifn hB1 h16
                refine gtk rfl rfl rfl rfl rfl (bf h16) <| vl rfl rfl (xlda rfl ti26 rfl (Bx.cs hb15)) <| gtk rfl rfl rfl rfl rfl (bf h16) <| vl rfl rfl xmv <| gtk rfl rfl rfl rfl rfl (bf h16) <| vl rfl rfl xmv <| gtk rfl rfl rfl rfl rfl (bf h16) <| vl rfl rfl xmv <| ?_
                have hz := bs hB1; obtain ⟨x26, Ex26, hB1⟩ := hz
                refine gtk rfl rfl rfl rfl rfl (bf h16) <| cl rfl rfl (xc cb18 (mc rfl (mc rfl (mc rfl (mc rfl mn))))) (c18 (show RV (α := (Int × (List Int) × (List ((List Int) × Int)) × (List ((List Int) × Int)) × (List (List Int)))) _ (.agg [.int .i64 x0.1, .slice a1 x0.2.1.length cq1, .slice a2 x0.2.2.1.length cq2, .slice a3 x0.2.2.2.1.length cq3, .slice a4 x0.2.2.2.2.length cq4].toArray) (x0.1, x0.2.1, x0.2.2.1, x0.2.2.2.1, x0.2.2.2.2) from ⟨_, rfl, ⟨[.int .i64 x0.1], [.slice a1 x0.2.1.length cq1] ++ ([.slice a2 x0.2.2.1.length cq2] ++ ([.slice a3 x0.2.2.2.1.length cq3] ++ [.slice a4 x0.2.2.2.2.length cq4])), rfl, rfl, ⟨[.slice a1 x0.2.1.length cq1], [.slice a2 x0.2.2.1.length cq2] ++ ([.slice a3 x0.2.2.2.1.length cq3] ++ [.slice a4 x0.2.2.2.2.length cq4]), rfl, r126.rep1, ⟨[.slice a2 x0.2.2.1.length cq2], [.slice a3 x0.2.2.2.1.length cq3] ++ [.slice a4 x0.2.2.2.2.length cq4], rfl, r127.rep1, ⟨[.slice a3 x0.2.2.2.1.length cq3], [.slice a4 x0.2.2.2.2.length cq4], rfl, r128.rep1, r129.rep1⟩⟩⟩⟩⟩) r132.rv r133 Ex26) ?_
                rintro _ w18 ⟨rfl, hx18⟩
                have k35 := k30.tr hx18
                have k36 := k31.tr hx18
                have k37 := hx16.tr hx18
                have hb17 := hb15.ext hx18
                have r145 := r126.ext hx18
                have r146 := r127.ext hx18
                have r147 := r128.ext hx18
                have r148 := r129.ext hx18
                have r149 := r130.ext hx18
                have r150 := r131.ext hx18
                have r151 := r132.ext hx18
                have r152 := r134.ext hx18
                refine gtk rfl rfl rfl rfl rfl (bf h16) <| vl rfl rfl (xneq rfl rfl) <| gtk rfl rfl rfl rfl rfl (bt h8) <| vl rfl rfl (xpf rfl h16 rfl) <| gtk rfl rfl rfl rfl rfl (bt h8) <| vl rfl rfl xmv <| ?_
                refine Or.elim (Bool.eq_false_or_eq_true (!decide (x26 = 0))) (fun h18 => ?_) (fun h18 => ?_)
                ·
                  have hB1 := ifp hB1 h18
                  refine gfk rfl rfl rfl rfl rfl (btf h18) rfl <| gfk rfl rfl rfl rfl rfl (btf h18) rfl <| gfk rfl rfl rfl rfl rfl (btf h18) rfl <| gfk rfl rfl rfl rfl rfl (btf h18) rfl <| gfk rfl rfl rfl rfl rfl (btf h18) rfl <| gfk rfl rfl rfl rfl rfl (btf h18) rfl <| gfk rfl rfl rfl rfl rfl (btf h18) rfl <| gfk rfl rfl rfl rfl rfl (btf h18) rfl <| gtk rfl rfl rfl rfl rfl (bt h8) <| vl rfl rfl (xpt rfl h18 rfl) <| vl rfl rfl (xpt rfl h8 rfl) <| nl <| ?_
                  cases hB1
                  refine lf <| ?_
                  exact ⟨rfl, rfl, rfl, rfl, rfl, rfl, rfl, rfl, k36.size, k37⟩
                ·
                  have hB1 := ifn hB1 h18
                  refine gtk rfl rfl rfl rfl rfl (bf h18) <| vl rfl rfl xmv <| gtk rfl rfl rfl rfl rfl (bf h18) <| vl rfl rfl (xfa rfl fa26_4) <| gtk rfl rfl rfl rfl rfl (bf h18) <| vl rfl rfl (xld rfl ti24 ((Bx.cs hb17).at 4 rfl)) <| gtk rfl rfl rfl rfl rfl (bf h18) <| vl rfl rfl xmv <| ?_
                  have hz := bs hB1; obtain ⟨x27, Ex27, hB1⟩ := hz
                  have hz := (RV.els r9).ix Ex27; obtain ⟨b11, f5, cs10, e15, i9, i10, q18, hc9⟩ := hz
                  cases e15
                  obtain ⟨a14, cq14, rfl, p9, q19, e16⟩ := q18
                  have r153 := RV.of1 p9 q19 e16
                  have hc10 := hc9.ext k35
                  have r154 := r153.ext k35
                  refine gtk rfl rfl rfl rfl rfl (bf h18) <| vl rfl rfl (xixs rfl rfl Try.underlying24 ti22 i9 i10) <| gtk rfl rfl rfl rfl rfl (bf h18) <| vl rfl rfl (xld rfl ti22 (hc10.at 0 rfl)) <| ?_
                  have hz := bs hB1; obtain ⟨x28, Ex28, hB1⟩ := hz
                  refine gtk rfl rfl rfl rfl rfl (bf h18) <| cl rfl rfl (xc cb34 (mc rfl (mc rfl mn))) (c34 r152 r154 Ex28) ?_
                  rintro _ w19 ⟨rfl, hx19⟩
                  have k38 := k35.tr hx19
                  have k39 := k36.tr hx19
                  have k40 := k37.tr hx19
                  have hb18 := hb17.ext hx19
                  have r155 := r145.ext hx19
                  have r156 := r146.ext hx19
                  have r157 := r147.ext hx19
                  have r158 := r148.ext hx19
                  have r159 := r149.ext hx19
                  have r160 := r150.ext hx19
                  have r161 := r151.ext hx19
                  have r162 := r152.ext hx19
                  refine gtk rfl rfl rfl rfl rfl (bf h18) <| vl rfl rfl (xnot rfl) <| gtk rfl rfl rfl rfl rfl (bt h8) <| vl rfl rfl (xpf rfl h18 rfl) <| vl rfl rfl (xpt rfl h8 rfl) <| nl <| ?_
                  cases hB1
                  refine lf <| ?_
                  exact ⟨rfl, rfl, rfl, rfl, rfl, rfl, rfl, rfl, k39.size, k40⟩
        ·
          have hB1 := ifn hB1 h8
          refine gfk rfl rfl rfl rfl rfl (bft h8) rfl <| gfk rfl rfl rfl rfl rfl (bft h8) rfl <| gfk rfl rfl rfl rfl rfl (bft h8) rfl <| gfk rfl rfl rfl rfl rfl bu rfl <| gfk rfl rfl rfl rfl rfl bu rfl <| gfk rfl rfl rfl rfl rfl bu rfl <| gfk rfl rfl rfl rfl rfl bu rfl <| gfk rfl rfl rfl rfl rfl bu rfl <| gfk rfl rfl rfl rfl rfl (bft h8) rfl <| gfk rfl rfl rfl rfl rfl (bft h8) rfl <| gfk rfl rfl rfl rfl rfl bu rfl <| gfk rfl rfl rfl rfl rfl bu rfl <| gfk rfl rfl rfl rfl rfl bu rfl <| gfk rfl rfl rfl rfl rfl bu rfl <| gfk rfl rfl rfl rfl rfl bu rfl <| gfk rfl rfl rfl rfl rfl bu rfl <| gfk rfl rfl rfl rfl rfl (bft h8) rfl <| gfk rfl rfl rfl rfl rfl (bft h8) rfl <| gfk rfl rfl rfl rfl rfl bu rfl <| gfk rfl rfl rfl rfl rfl bu rfl <| gfk rfl rfl rfl rfl rfl bu rfl <| gfk rfl rfl rfl rfl rfl bu rfl <| gfk rfl rfl rfl rfl rfl bu rfl <| gfk rfl rfl rfl rfl rfl bu rfl <| gfk rfl rfl rfl rfl rfl (bft h8) rfl <| gfk rfl rfl rfl rfl rfl (bft h8) rfl <| gfk rfl rfl rfl rfl rfl bu rfl <| gfk rfl rfl rfl rfl rfl bu rfl <| gfk rfl rfl rfl rfl rfl bu rfl <| gfk rfl rfl rfl rfl rfl bu rfl <| gfk rfl rfl rfl rfl rfl bu rfl <| gfk rfl rfl rfl rfl rfl bu rfl <| gfk rfl rfl rfl rfl rfl bu rfl <| gfk rfl rfl rfl rfl rfl bu rfl <| gfk rfl rfl rfl rfl rfl (bft h8) rfl <| vl rfl rfl (xpf rfl h8 rfl) <| nl <| ?_
          cases hB1
          refine lf <| ?_
          exact ⟨rfl, rfl, rfl, rfl, rfl, rfl, rfl, rfl, k9.size, (Ext.refl _)⟩
      rintro L w20 ⟨l119_j1, l2_j1, l3_j1, l4_j1, l5_j1, l11_j1, l12_j1, l16_j1, Z0_j1, K0_j1⟩
      have k41 := k8.tr K0_j1
      have k42 := k9.tr K0_j1
      have r163 := r50.ext K0_j1
      have r164 := r51.ext K0_j1
      have r165 := r46.ext K0_j1
      have r166 := r47.ext K0_j1
      have r167 := r48.ext K0_j1
      have r168 := r49.ext K0_j1
      have hb19 := hb6.ext K0_j1
      have r169 := r52.ext K0_j1
      have r170 := r45.ext K0_j1
      refine cnd l119_j1 (fun h19 => ?_) (fun h19 => ?_)
      ·
        have hF := ifp hF h19
        refine wp_seq <| rg <| vl rfl rfl xas <| nl <| ?_
        cases hF
        exact wp_ret <| rt rfl (.tmp rfl rfl .nil) ⟨rfl, k41⟩
      ·
        have hF := ifn hF h19
        refine wp_skip <| wp_seq <| rg <| vl rfl rfl (xlda l5_j1 ti26 rfl (Bx.cs hb19)) <| vl rfl rfl xmv <| vl rfl rfl xmv <| ?_
        have hz := bs hF; obtain ⟨x29, Ex29, hF⟩ := hz
        refine cl rfl rfl (xc cb35 (mc rfl (mc l11_j1 (mc l3_j1 mn)))) (c35 (show RV (α := (Int × (List Int) × (List ((List Int) × Int)) × (List ((List Int) × Int)) × (List (List Int)))) _ (.agg [.int .i64 x0.1, .slice a1 x0.2.1.length cq1, .slice a2 x0.2.2.1.length cq2, .slice a3 x0.2.2.2.1.length cq3, .slice a4 x0.2.2.2.2.length cq4].toArray) (x0.1, x0.2.1, x0.2.2.1, x0.2.2.2.1, x0.2.2.2.2) from ⟨_, rfl, ⟨[.int .i64 x0.1], [.slice a1 x0.2.1.length cq1] ++ ([.slice a2 x0.2.2.1.length cq2] ++ ([.slice a3 x0.2.2.2.1.length cq3] ++ [.slice a4 x0.2.2.2.2.length cq4])), rfl, rfl, ⟨[.slice a1 x0.2.1.length cq1], [.slice a2 x0.2.2.1.length cq2] ++ ([.slice a3 x0.2.2.2.1.length cq3] ++ [.slice a4 x0.2.2.2.2.length cq4]), rfl, r165.rep1, ⟨[.slice a2 x0.2.2.1.length cq2], [.slice a3 x0.2.2.2.1.length cq3] ++ [.slice a4 x0.2.2.2.2.length cq4], rfl, r166.rep1, ⟨[.slice a3 x0.2.2.2.1.length cq3], [.slice a4 x0.2.2.2.2.length cq4], rfl, r167.rep1, r168.rep1⟩⟩⟩⟩⟩) r169.rv r163 Ex29) ?_
        rintro _ w21 ⟨u4, rfl, r171, hx20⟩
        have k43 := k41.tr hx20
        have k44 := k42.tr hx20
        have k45 := K0_j1.tr hx20
        have zs1 := Nat.le_trans Z0_j1 hx20.size
        have hb20 := hb19.ext hx20
        have r172 := r165.ext hx20
        have r173 := r166.ext hx20
        have r174 := r167.ext hx20
        have r175 := r168.ext hx20
        have r176 := r164.ext hx20
        have r177 := r169.ext hx20
        have r178 := r170.ext hx20
        have hz := RV.sl r171; obtain ⟨a15, cq15, rfl, -, -, -⟩ := hz
        refine vl rfl rfl xas <| nl <| wp_seq <| wp_seq <| rg <| vl rfl rfl xas <| nl <| ?_
        have hz := bs hF; obtain ⟨o1, hB2, hF⟩ := hz
        refine ct (fun L w => o1 = .inr () ∧ L 2 = .int .u8 x2 ∧ L 4 = .slice a6 x4.length cq6 ∧ L 5 = .pointer (some ⟨b6, 0, none⟩) ∧ L 11 = .slice a7 x8.length cq7 ∧ L 12 = .int .i64 x9 ∧ L 16 = .slice a9 x11.1.length cq9 ∧ L 18 = .slice a15 x29.length cq15 ∧ w2.heap.size ≤ w.heap.size ∧ Ext w21 w) ?_ ?_
        ·
          refine wp_block <| lp (I := fun m L w => ∃ y2 : Int, law10_RightKept_l1 F x0 x11 x29 m y2  = some o1 ∧ L 19 = .int .i64 y2 ∧ L 2 = .int .u8 x2 ∧ L 4 = .slice a6 x4.length cq6 ∧ L 5 = .pointer (some ⟨b6, 0, none⟩) ∧ L 11 = .slice a7 x8.length cq7 ∧ L 12 = .int .i64 x9 ∧ L 16 = .slice a9 x11.1.length cq9 ∧ L 18 = .slice a15 x29.length cq15 ∧ w2.heap.size ≤ w.heap.size ∧ Ext w21 w) F ⟨_, hB2, rfl, l2_j1, l4_j1, l5_j1, l11_j1, l12_j1, l16_j1, rfl, zs1, (Ext.refl _)⟩ ?_
          rintro m L w22 ⟨y2, hB2, l19_i11, l2_i11, l4_i11, l5_i11, l11_i11, l12_i11, l16_i11, l18_i11, Z0_i11, K0_i11⟩
          rcases m with _ | m
          · rw [law10_RightKept_l1] at hB2; cases hB2
          rw [law10_RightKept_l1] at hB2
          have k46 := k43.tr K0_i11
          have k47 := k44.tr K0_i11
          have k48 := k45.tr K0_i11
          have r179 := r176.ext K0_i11
          have r180 := r172.ext K0_i11
          have r181 := r173.ext K0_i11
          have r182 := r174.ext K0_i11
          have r183 := r175.ext K0_i11
          have hb21 := hb20.ext K0_i11
          have r184 := r177.ext K0_i11
          have r185 := r178.ext K0_i11
          have r186 := r171.ext K0_i11
          refine wp_seq <| wp_seq <| rg <| vl rfl rfl xmv <| vl rfl rfl xmv <| vl rfl rfl (xlen l18_i11 Try.underlying27) <| vl rfl rfl (xlss l19_i11 rfl) <| nl <| cnd rfl (fun h20 => ?_) (fun h20 => ?_)
          ·
            have hB2 := ifp hB2 h20
            refine wp_skip <| wp_seq <| wp_block <| wp_seq <| rg <| vl rfl rfl xas <| nl <| wp_seq <| wp_seq <| rg <| vl rfl rfl xmv <| vl rfl rfl xmv <| ?_
            have hz := bs hB2; obtain ⟨x30, Ex30, hB2⟩ := hz
            have hz := (RV.els r171).ix Ex30; obtain ⟨b12, f6, cs11, e17, i12, i13, q20, hc11⟩ := hz
            cases e17
            obtain ⟨_, _, rfl, rfl, rfl⟩ := q20
            have hc12 := hc11.ext K0_i11
            refine vl rfl rfl (xixs l18_i11 l19_i11 Try.underlying27 ti52 i12 i13) <| vl rfl rfl (xfa rfl fa52_0) <| vl rfl rfl (xld rfl ti4 (hc12.at 0 rfl)) <| nl <| ?_
            have hz := bs hB2; obtain ⟨y3, hB4, hB2⟩ := hz
            refine ct (fun L w => L 20 = .int .i64 y3 ∧ L 2 = .int .u8 x2 ∧ L 4 = .slice a6 x4.length cq6 ∧ L 5 = .pointer (some ⟨b6, 0, none⟩) ∧ L 11 = .slice a7 x8.length cq7 ∧ L 12 = .int .i64 x9 ∧ L 16 = .slice a9 x11.1.length cq9 ∧ L 18 = .slice (some ⟨b12, f6, none⟩) x29.length cq15 ∧ L 19 = .int .i64 y2 ∧ w2.heap.size ≤ w.heap.size ∧ Ext w22 w) ?_ ?_
            ·
              refine cnd rfl (fun h21 => ?_) (fun h21 => ?_)
              ·
                have hB4 := ifp hB4 h21
                refine wpl [] (.pure true 0 (.pure false 1 (.pure true 2 (.pure true 3 (.pure true 4 (.pure true 5 (.pure false 6 (.pure true 7 (.pure true 8 (.pure false 9 (.pure true 10 .fin))))))))))) mixed (by kernel_rfl) (fun w23 hx21 => ?_)
                have k49 := k46.tr hx21
                have k50 := k47.tr hx21
                have k51 := k48.tr hx21
                have k52 := K0_i11.tr hx21
                have zs2 := Nat.le_trans Z0_i11 hx21.size
                have hb22 := hb21.ext hx21
                have r187 := r180.ext hx21
                have r188 := r181.ext hx21
                have r189 := r182.ext hx21
                have r190 := r183.ext hx21
                have r191 := r179.ext hx21
                have r192 := r184.ext hx21
                have r193 := r185.ext hx21
                have r194 := r186.ext hx21
                refine pv rfl rfl rfl (fun _ _ => xfa l5_i11 fa26_3) (.inl rfl) <| pv rfl rfl rfl (fun _ hS => xld rfl ti23 ((Bx.cs (hb22.ext (hS.resolve_left nofun))).at 3 rfl)) (.inr (Ext.refl _)) <| pv rfl rfl rfl (fun _ _ => xmv) (.inl rfl) <| pv rfl rfl rfl (fun _ _ => xmv) (.inl rfl) <| ?_
                have hz := bs hB4; obtain ⟨x31, Ex31, hB4⟩ := hz
                have hz := ix2 r171 Ex31; obtain ⟨cs12, i14, i15, q21, hc13⟩ := hz
                obtain ⟨_, _, rfl, rfl, rfl⟩ := q21
                have hc14 := hc13.ext k52
                refine pv rfl rfl rfl (fun _ _ => xixs l18_i11 l19_i11 Try.underlying27 ti52 i14 i15) (.inl rfl) <| pv rfl rfl rfl (fun _ _ => xfa rfl fa52_1) (.inl rfl) <| pv rfl rfl rfl (fun _ hS => xld rfl ti3 ((hc14.ext (hS.resolve_left nofun)).at 1 rfl)) (.inr (Ext.refl _)) <| ?_
                have hz := bs hB4; obtain ⟨x32, Ex32, hB4⟩ := hz
                have hz := (RV.els r8).ix Ex32; obtain ⟨b13, f7, cs13, e18, i16, i17, q22, hc15⟩ := hz
                cases e18
                obtain ⟨_, _, rfl, ⟨a16, cq16, rfl, p10, q23, e19⟩, rfl⟩ := q22
                have r195 := RV.of1 p10 q23 e19
                have hc16 := hc15.ext k49
                have r196 := r195.ext k49
                refine pv rfl rfl rfl (fun _ _ => xixs rfl rfl Try.underlying23 ti54 i16 i17) (.inl rfl) <| pv rfl rfl rfl (fun _ _ => xfa rfl fa54_1) (.inl rfl) <| pv rfl rfl rfl (fun _ hS => xld rfl ti3 ((hc16.ext (hS.resolve_left nofun)).at 1 rfl)) (.inr (Ext.refl _)) <| pv rfl rfl rfl (fun _ _ => xas) (.inl rfl) <| ?_
                cases hB4
                refine lf <| ?_
                exact ⟨rfl, l2_i11, l4_i11, l5_i11, l11_i11, l12_i11, l16_i11, l18_i11, l19_i11, zs2, hx21⟩
              ·
                have hB4 := ifn hB4 h21
                refine wpl [] (.pure true 0 (.pure false 1 (.pure true 2 (.pure true 3 (.pure true 4 (.pure true 5 (.pure false 6 (.pure true 7 (.pure true 8 (.pure false 9 (.pure true 10 .fin))))))))))) mixed (by kernel_rfl) (fun w24 hx22 => ?_)
                have k53 := k46.tr hx22
                have k54 := k47.tr hx22
                have k55 := k48.tr hx22
                have k56 := K0_i11.tr hx22
                have zs3 := Nat.le_trans Z0_i11 hx22.size
                have hb23 := hb21.ext hx22
                have r197 := r180.ext hx22
                have r198 := r181.ext hx22
                have r199 := r182.ext hx22
                have r200 := r183.ext hx22
                have r201 := r179.ext hx22
                have r202 := r184.ext hx22
                have r203 := r185.ext hx22
                have r204 := r186.ext hx22
                refine pv rfl rfl rfl (fun _ _ => xfa l5_i11 fa26_2) (.inl rfl) <| pv rfl rfl rfl (fun _ hS => xld rfl ti23 ((Bx.cs (hb23.ext (hS.resolve_left nofun))).at 2 rfl)) (.inr (Ext.refl _)) <| pv rfl rfl rfl (fun _ _ => xmv) (.inl rfl) <| pv rfl rfl rfl (fun _ _ => xmv) (.inl rfl) <| ?_
                have hz := bs hB4; obtain ⟨x33, Ex33, hB4⟩ := hz
                have hz := ix2 r171 Ex33; obtain ⟨cs14, i18, i19, q24, hc17⟩ := hz
                obtain ⟨_, _, rfl, rfl, rfl⟩ := q24
                have hc18 := hc17.ext k56
                refine pv rfl rfl rfl (fun _ _ => xixs l18_i11 l19_i11 Try.underlying27 ti52 i18 i19) (.inl rfl) <| pv rfl rfl rfl (fun _ _ => xfa rfl fa52_1) (.inl rfl) <| pv rfl rfl rfl (fun _ hS => xld rfl ti3 ((hc18.ext (hS.resolve_left nofun)).at 1 rfl)) (.inr (Ext.refl _)) <| ?_
                have hz := bs hB4; obtain ⟨x34, Ex34, hB4⟩ := hz
                have hz := (RV.els r7).ix Ex34; obtain ⟨b14, f8, cs15, e20, i20, i21, q25, hc19⟩ := hz
                cases e20
                obtain ⟨_, _, rfl, ⟨a17, cq17, rfl, p11, q26, e21⟩, rfl⟩ := q25
                have r205 := RV.of1 p11 q26 e21
                have hc20 := hc19.ext k53
                have r206 := r205.ext k53
                refine pv rfl rfl rfl (fun _ _ => xixs rfl rfl Try.underlying23 ti54 i20 i21) (.inl rfl) <| pv rfl rfl rfl (fun _ _ => xfa rfl fa54_1) (.inl rfl) <| pv rfl rfl rfl (fun _ hS => xld rfl ti3 ((hc20.ext (hS.resolve_left nofun)).at 1 rfl)) (.inr (Ext.refl _)) <| pv rfl rfl rfl (fun _ _ => xas) (.inl rfl) <| ?_
                cases hB4
                refine lf <| ?_
                exact ⟨rfl, l2_i11, l4_i11, l5_i11, l11_i11, l12_i11, l16_i11, l18_i11, l19_i11, zs3, hx22⟩
            rintro L w25 ⟨l20_j2, l2_j2, l4_j2, l5_j2, l11_j2, l12_j2, l16_j2, l18_j2, l19_j2, Z0_j2, K0_j2⟩
            have k57 := k46.tr K0_j2
            have k58 := k47.tr K0_j2
            have k59 := k48.tr K0_j2
            have k60 := K0_i11.tr K0_j2
            have r207 := r179.ext K0_j2
            have r208 := r180.ext K0_j2
            have r209 := r181.ext K0_j2
            have r210 := r182.ext K0_j2
            have r211 := r183.ext K0_j2
            have hb24 := hb21.ext K0_j2
            have r212 := r184.ext K0_j2
            have r213 := r185.ext K0_j2
            have r214 := r186.ext K0_j2
            refine wp_seq <| rg <| vl rfl rfl xmv <| vl rfl rfl xmv <| ?_
            have hz := bs hB2; obtain ⟨x35, Ex35, hB2⟩ := hz
            refine cl rfl rfl (xc cb36 (mc l16_j2 (mc l20_j2 mn))) (c36 r213 Ex35) ?_
            rintro _ w26 ⟨rfl, hx23⟩
            have k61 := k57.tr hx23
            have k62 := k58.tr hx23
            have k63 := k59.tr hx23
            have k64 := k60.tr hx23
            have k65 := K0_j2.tr hx23
            have zs4 := Nat.le_trans Z0_j2 hx23.size
            have hb25 := hb24.ext hx23
            have r215 := r208.ext hx23
            have r216 := r209.ext hx23
            have r217 := r210.ext hx23
            have r218 := r211.ext hx23
            have r219 := r207.ext hx23
            have r220 := r212.ext hx23
            have r221 := r213.ext hx23
            have r222 := r214.ext hx23
            refine vl rfl rfl (xnot rfl) <| nl <| cnd rfl (fun h22 => ?_) (fun h22 => ?_)
            ·
              have hB2 := ifp hB2 h22
              refine wp_seq <| rg <| vl rfl rfl xas <| nl <| ?_
              cases hB2
              have hF := (show some _ = some _ from hF); cases hF
              exact wp_ret <| rt rfl (.tmp rfl rfl .nil) ⟨rfl, k61⟩
            ·
              have hB2 := ifn hB2 h22
              refine wp_skip <| rg <| vl rfl rfl xmv <| vl rfl rfl (xadd l19_j2 rfl) <| vl rfl rfl xas <| nl <| ?_
              refine lq m (Nat.lt_succ_self _) <| ?_
              exact ⟨_, hB2, rfl, l2_j2, l4_j2, l5_j2, l11_j2, l12_j2, l16_j2, l18_j2, zs4, k64⟩
          ·
            have hB2 := ifn hB2 h20
            refine wp_exit <| ?_
            cases hB2
            refine lf <| ?_
            exact ⟨rfl, l2_i11, l4_i11, l5_i11, l11_i11, l12_i11, l16_i11, l18_i11, Z0_i11, K0_i11⟩
        rintro L w27 ⟨rfl, l2_j3, l4_j3, l5_j3, l11_j3, l12_j3, l16_j3, l18_j3, Z0_j3, K0_j3⟩
        have k66 := k43.tr K0_j3
        have k67 := k44.tr K0_j3
        have k68 := k45.tr K0_j3
        have r223 := r176.ext K0_j3
        have r224 := r172.ext K0_j3
        have r225 := r173.ext K0_j3
        have r226 := r174.ext K0_j3
        have r227 := r175.ext K0_j3
        have hb26 := hb20.ext K0_j3
        have r228 := r177.ext K0_j3
        have r229 := r178.ext K0_j3
        have r230 := r171.ext K0_j3
        refine wp_seq <| wp_seq <| rg <| vl rfl rfl (xfa l5_j3 fa26_4) <| vl rfl rfl (xld rfl ti24 ((Bx.cs hb26).at 4 rfl)) <| vl rfl rfl (xlen rfl Try.underlying24) <| vl rfl rfl (xeql rfl rfl) <| nl <| cnd rfl (fun h23 => ?_) (fun h23 => ?_)
        ·
          have hF := ifp hF h23
          refine wp_seq <| rg <| vl rfl rfl xmv <| vl rfl rfl (xeql l12_j3 rfl) <| vl rfl rfl xmv <| ?_
          have hz := bs hF; obtain ⟨x36, Ex36, hF⟩ := hz
          refine gc rfl rfl rfl rfl (gw1 rfl) rfl (fun hc => xc cb15 mn) (fun hc => (c15 (gdp Ex36 hc))) (fun v8 w28 hy3 hn3 => ?_)
          have hx24 : Ext w27 w28 := gx (fun h => (hy3 h).2) (fun h => (hn3 h).2 ▸ Ext.refl _)
          have e22 := mkw (fun h => (hy3 h).1) (fun h => (hn3 h).1)
          have k69 := k66.tr hx24
          have k70 := k67.tr hx24
          have k71 := k68.tr hx24
          have k72 := K0_j3.tr hx24
          have zs5 := Nat.le_trans Z0_j3 hx24.size
          refine vl rfl rfl (xpa rfl e22 rfl) <| vl rfl rfl xas <| nl <| ?_
          cases hF
          exact wp_ret <| rt rfl (.tmp rfl rfl .nil) ⟨rfl, k69⟩
        ·
          have hF := ifn hF h23
          refine wp_skip <| wp_seq <| rg <| vl rfl rfl xmv <| vl rfl rfl (xcvt l2_j3 Try.underlying5 Try.underlying3) <| vl rfl rfl (xfa l5_j3 fa26_4) <| vl rfl rfl (xld rfl ti24 ((Bx.cs hb26).at 4 rfl)) <| vl rfl rfl (xlen rfl Try.underlying24) <| ?_
          have hz := bs hF; obtain ⟨x37, Ex37, hF⟩ := hz
          refine vl rfl rfl (xremv rfl rfl Ex37) <| vl rfl rfl xas <| nl <| wp_seq <| wpl [] (.pure false 0 (.pure true 1 (.pure true 2 (.pure true 3 (.pure false 5 (.pure true 6 (.pure true 7 (.pure true 8 (.eff 4 (.eff 9 (.pure true 10 (.pure true 11 .fin)) .stop) .stop))))))))) mixed (by kernel_rfl) (fun w29 hx25 => ?_)
          have k73 := k66.tr hx25
          have k74 := k67.tr hx25
          have k75 := k68.tr hx25
          have k76 := K0_j3.tr hx25
          have zs6 := Nat.le_trans Z0_j3 hx25.size
          have hb27 := hb26.ext hx25
          have r231 := r224.ext hx25
          have r232 := r225.ext hx25
          have r233 := r226.ext hx25
          have r234 := r227.ext hx25
          have r235 := r223.ext hx25
          have r236 := r228.ext hx25
          have r237 := r229.ext hx25
          have r238 := r230.ext hx25
          refine pv rfl rfl rfl (fun _ hS => xlda l5_j3 ti26 rfl (Bx.cs (hb27.ext (hS.resolve_left nofun)))) (.inr (Ext.refl _)) <| pv rfl rfl rfl (fun _ _ => xmv) (.inl rfl) <| pv rfl rfl rfl (fun _ _ => xmv) (.inl rfl) <| pv rfl rfl rfl (fun _ _ => xmv) (.inl rfl) <| pv rfl rfl rfl (fun _ hS => xlda l5_j3 ti26 rfl (Bx.cs (hb27.ext (hS.resolve_left nofun)))) (.inr (Ext.refl _)) <| pv rfl rfl rfl (fun _ _ => xmv) (.inl rfl) <| pv rfl rfl rfl (fun _ _ => xmv) (.inl rfl) <| pv rfl rfl rfl (fun _ _ => xmv) (.inl rfl) <| ?_
          have hz := bs hF; obtain ⟨x38, Ex38, hF⟩ := hz
          refine pe1 rfl <| cl rfl rfl (xc cb17 (mc rfl (mc l11_j3 (mc rfl (mc l18_j3 mn))))) (c17 (show RV (α := (Int × (List Int) × (List ((List Int) × Int)) × (List ((List Int) × Int)) × (List (List Int)))) _ (.agg [.int .i64 x0.1, .slice a1 x0.2.1.length cq1, .slice a2 x0.2.2.1.length cq2, .slice a3 x0.2.2.2.1.length cq3, .slice a4 x0.2.2.2.2.length cq4].toArray) (x0.1, x0.2.1, x0.2.2.1, x0.2.2.2.1, x0.2.2.2.2) from ⟨_, rfl, ⟨[.int .i64 x0.1], [.slice a1 x0.2.1.length cq1] ++ ([.slice a2 x0.2.2.1.length cq2] ++ ([.slice a3 x0.2.2.2.1.length cq3] ++ [.slice a4 x0.2.2.2.2.length cq4])), rfl, rfl, ⟨[.slice a1 x0.2.1.length cq1], [.slice a2 x0.2.2.1.length cq2] ++ ([.slice a3 x0.2.2.2.1.length cq3] ++ [.slice a4 x0.2.2.2.2.length cq4]), rfl, r231.rep1, ⟨[.slice a2 x0.2.2.1.length cq2], [.slice a3 x0.2.2.2.1.length cq3] ++ [.slice a4 x0.2.2.2.2.length cq4], rfl, r232.rep1, ⟨[.slice a3 x0.2.2.2.1.length cq3], [.slice a4 x0.2.2.2.2.length cq4], rfl, r233.rep1, r234.rep1⟩⟩⟩⟩⟩) r236.rv r238 Ex38) ?_
          rintro _ w30 ⟨rfl, hx26⟩
          have k77 := k73.tr hx26
          have k78 := k74.tr hx26
          have k79 := k75.tr hx26
          have k80 := k76.tr hx26
          have zs7 := Nat.le_trans zs6 hx26.size
          have hb28 := hb27.ext hx26
          have r239 := r231.ext hx26
          have r240 := r232.ext hx26
          have r241 := r233.ext hx26
          have r242 := r234.ext hx26
          have r243 := r237.ext hx26
          have r244 := r236.ext hx26
          have r245 := r235.ext hx26
          refine nl ⟨fun _ _ => hx26, ?_⟩
          have hz := bs hF; obtain ⟨x39, Ex39, hF⟩ := hz
          refine pe1 rfl <| cl rfl rfl (xc cb17 (mc rfl (mc l11_j3 (mc rfl (mc l4_j3 mn))))) (c17 (show RV (α := (Int × (List Int) × (List ((List Int) × Int)) × (List ((List Int) × Int)) × (List (List Int)))) _ (.agg [.int .i64 x0.1, .slice a1 x0.2.1.length cq1, .slice a2 x0.2.2.1.length cq2, .slice a3 x0.2.2.2.1.length cq3, .slice a4 x0.2.2.2.2.length cq4].toArray) (x0.1, x0.2.1, x0.2.2.1, x0.2.2.2.1, x0.2.2.2.2) from ⟨_, rfl, ⟨[.int .i64 x0.1], [.slice a1 x0.2.1.length cq1] ++ ([.slice a2 x0.2.2.1.length cq2] ++ ([.slice a3 x0.2.2.2.1.length cq3] ++ [.slice a4 x0.2.2.2.2.length cq4])), rfl, rfl, ⟨[.slice a1 x0.2.1.length cq1], [.slice a2 x0.2.2.1.length cq2] ++ ([.slice a3 x0.2.2.2.1.length cq3] ++ [.slice a4 x0.2.2.2.2.length cq4]), rfl, r239.rep1, ⟨[.slice a2 x0.2.2.1.length cq2], [.slice a3 x0.2.2.2.1.length cq3] ++ [.slice a4 x0.2.2.2.2.length cq4], rfl, r240.rep1, ⟨[.slice a3 x0.2.2.2.1.length cq3], [.slice a4 x0.2.2.2.2.length cq4], rfl, r241.rep1, r242.rep1⟩⟩⟩⟩⟩) r244.rv r245 Ex39) ?_
          rintro _ w31 ⟨rfl, hx27⟩
          have k81 := k77.tr hx27
          have k82 := k78.tr hx27
          have k83 := k79.tr hx27
          have k84 := k80.tr hx27
          have k85 := hx26.tr hx27
          have zs8 := Nat.le_trans zs7 hx27.size
          have hb29 := hb28.ext hx27
          have r246 := r239.ext hx27
          have r247 := r240.ext hx27
          have r248 := r241.ext hx27
          have r249 := r242.ext hx27
          have r250 := r243.ext hx27
          refine nl ⟨fun _ _ => k85, ?_⟩
          refine pv rfl rfl rfl (fun _ _ => xas) (.inl rfl) <| pv rfl rfl rfl (fun _ _ => xas) (.inl rfl) <| wp_seq <| wp_seq <| rg <| vl rfl rfl xmv <| vl rfl rfl (xneq rfl rfl) <| vl rfl rfl xmv <| gv rfl rfl rfl rfl (gw1 rfl) rfl (fun hc => xmva rfl) <| gv rfl rfl rfl rfl (gw1 rfl) rfl (fun hc => xneq (mv hc rfl) rfl) <| vl rfl rfl (xpa rfl rfl rfl) <| vl rfl rfl xmv <| gv rfl rfl rfl rfl (gw0 rfl) rfl (fun hc => xmva l12_j3) <| gv rfl rfl rfl rfl (gw0 rfl) rfl (fun hc => xeql (mv hc rfl) rfl) <| gv rfl rfl rfl rfl (gw0 rfl) rfl (fun hc => xmva (mv hc rfl)) <| gv rfl rfl rfl rfl (gn1 rfl) rfl (fun hc => xmva rfl) <| gv rfl rfl rfl rfl (gn1 rfl) rfl (fun hc => xeql (mv hc rfl) rfl) <| gv rfl rfl rfl rfl (gn1 rfl) rfl (fun hc => xmva (mv hc rfl)) <| gv rfl rfl rfl rfl (gn0 rfl) rfl (fun hc => xmva rfl) <| gv rfl rfl rfl rfl (gn0 rfl) rfl (fun hc => xeql (mv hc rfl) rfl) <| gv rfl rfl rfl rfl (gn1 rfl) rfl (fun hc => xpo (mv hc rfl) (mvn hc rfl) rfl) <| gv rfl rfl rfl rfl (gw0 rfl) rfl (fun hc => xpa (mv hc rfl) (mvn hc rfl) rfl) <| vl rfl rfl (xpo rfl rfl rfl) <| nl <| cnd rfl (fun h24 => ?_) (fun h24 => ?_)
          ·
            have hF := ifp hF h24
            refine wp_seq <| rg <| vl rfl rfl xas <| nl <| ?_
            cases hF
            exact wp_ret <| rt rfl (.tmp rfl rfl .nil) ⟨rfl, k81⟩
          ·
            have hF := ifn hF h24
            refine wp_skip <| wp_seq <| ?_
            have hz := bs hF; obtain ⟨y4, hB10, hF⟩ := hz
            refine ct (fun L w => L 10 = .bool y4 ∧ w2.heap.size ≤ w.heap.size ∧ Ext w31 w) ?_ ?_
            ·
              refine rg <| vl rfl rfl xmv <| vl rfl rfl (xneq rfl rfl) <| vl rfl rfl xmv <| ?_
              refine Or.elim (Bool.eq_false_or_eq_true (!decide (x38 = 0))) (fun h25 => ?_) (fun h25 => ?_)
              ·
                have hB10 := ifp hB10 h25
                refine gfk rfl rfl rfl rfl rfl (btf h25) rfl <| gfk rfl rfl rfl rfl rfl (btf h25) rfl <| gfk rfl rfl rfl rfl rfl (btf h25) rfl <| gfk rfl rfl rfl rfl rfl (btf h25) rfl <| gfk rfl rfl rfl rfl rfl (btf h25) rfl <| gfk rfl rfl rfl rfl rfl (btf h25) rfl <| gfk rfl rfl rfl rfl rfl (btf h25) rfl <| vl rfl rfl (xpt rfl h25 rfl) <| vl rfl rfl xmv <| ?_
                refine Or.elim (Bool.eq_false_or_eq_true true) (fun h26 => ?_) (fun h26 => ?_)
                ·
                  have hB10 := ifp hB10 h26
                  refine gtk rfl rfl rfl rfl rfl (bt h26) <| vl rfl rfl xmv <| gtk rfl rfl rfl rfl rfl (bt h26) <| vl rfl rfl (xneq rfl rfl) <| gtk rfl rfl rfl rfl rfl (bt h26) <| vl rfl rfl xmv <| ?_
                  refine Or.elim (Bool.eq_false_or_eq_true (!decide (x39 = 0))) (fun h27 => ?_) (fun h27 => ?_)
                  ·
                    have hB10 := ifp hB10 h27
                    refine gfk rfl rfl rfl rfl rfl (btf h27) rfl <| gfk rfl rfl rfl rfl rfl (btf h27) rfl <| gfk rfl rfl rfl rfl rfl (btf h27) rfl <| gfk rfl rfl rfl rfl rfl (btf h27) rfl <| gfk rfl rfl rfl rfl rfl (btf h27) rfl <| gfk rfl rfl rfl rfl rfl (btf h27) rfl <| gfk rfl rfl rfl rfl rfl (btf h27) rfl <| gtk rfl rfl rfl rfl rfl (bt h26) <| vl rfl rfl (xpt rfl h27 rfl) <| vl rfl rfl (xpt rfl h26 rfl) <| vl rfl rfl xmv <| ?_
                    have hz := bs hB10; obtain ⟨x40, Ex40, hB10⟩ := hz
                    refine gtk rfl rfl rfl rfl rfl (bt h26) <| cl rfl rfl (xc cb15 mn) (c15 Ex40) ?_
                    rintro _ w32 ⟨rfl, hx28⟩
                    have k86 := k81.tr hx28
                    have k87 := k82.tr hx28
                    have k88 := k83.tr hx28
                    have k89 := k84.tr hx28
                    have k90 := k85.tr hx28
                    have zs9 := Nat.le_trans zs8 hx28.size
                    refine vl rfl rfl (xpt rfl h26 rfl) <| vl rfl rfl xas <| nl <| ?_
                    cases hB10
                    refine lf <| ?_
                    exact ⟨rfl, zs9, hx28⟩
                  ·
                    have hB10 := ifn hB10 h27
                    refine gtk rfl rfl rfl rfl rfl (bf h27) <| vl rfl rfl xmv <| gtk rfl rfl rfl rfl rfl (bf h27) <| vl rfl rfl (xfa l5_j3 fa26_4) <| gtk rfl rfl rfl rfl rfl (bf h27) <| vl rfl rfl (xld rfl ti24 ((Bx.cs hb29).at 4 rfl)) <| gtk rfl rfl rfl rfl rfl (bf h27) <| vl rfl rfl xmv <| ?_
                    have hz := bs hB10; obtain ⟨x41, Ex41, hB10⟩ := hz
                    have hz := (RV.els r9).ix Ex41; obtain ⟨b15, f9, cs16, e23, i22, i23, q27, hc21⟩ := hz
                    cases e23
                    obtain ⟨a18, cq18, rfl, p12, q28, e24⟩ := q27
                    have r251 := RV.of1 p12 q28 e24
                    have hc22 := hc21.ext k81
                    have r252 := r251.ext k81
                    refine gtk rfl rfl rfl rfl rfl (bf h27) <| vl rfl rfl (xixs rfl rfl Try.underlying24 ti22 i22 i23) <| gtk rfl rfl rfl rfl rfl (bf h27) <| vl rfl rfl (xld rfl ti22 (hc22.at 0 rfl)) <| ?_
                    have hz := bs hB10; obtain ⟨x42, Ex42, hB10⟩ := hz
                    refine gtk rfl rfl rfl rfl rfl (bf h27) <| cl rfl rfl (xc cb34 (mc l16_j3 (mc rfl mn))) (c34 r250 r252 Ex42) ?_
                    rintro _ w33 ⟨rfl, hx29⟩
                    have k91 := k81.tr hx29
                    have k92 := k82.tr hx29
                    have k93 := k83.tr hx29
                    have k94 := k84.tr hx29
                    have k95 := k85.tr hx29
                    have zs10 := Nat.le_trans zs8 hx29.size
                    refine gtk rfl rfl rfl rfl rfl (bt h26) <| vl rfl rfl (xpf rfl h27 rfl) <| vl rfl rfl (xpt rfl h26 rfl) <| vl rfl rfl xmv <| ?_
                    refine Or.elim (Bool.eq_false_or_eq_true x42) (fun h28 => ?_) (fun h28 => ?_)
                    ·
                      have hB10 := ifp hB10 h28
                      have hz := bs hB10; obtain ⟨x43, Ex43, hB10⟩ := hz
                      refine gtk rfl rfl rfl rfl rfl (bt h28) <| cl rfl rfl (xc cb15 mn) (c15 Ex43) ?_
                      rintro _ w34 ⟨rfl, hx30⟩
                      have k96 := k91.tr hx30
                      have k97 := k92.tr hx30
                      have k98 := k93.tr hx30
                      have k99 := k94.tr hx30
                      have k100 := k95.tr hx30
                      have k101 := hx29.tr hx30
                      have zs11 := Nat.le_trans zs10 hx30.size
                      refine vl rfl rfl (xpt rfl h28 rfl) <| vl rfl rfl xas <| nl <| ?_
                      cases hB10
                      refine lf <| ?_
                      exact ⟨rfl, zs11, k101⟩
                    ·
                      have hB10 := ifn hB10 h28
                      refine gfk rfl rfl rfl rfl rfl (bft h28) rfl <| vl rfl rfl (xpf rfl h28 rfl) <| vl rfl rfl xas <| nl <| ?_
                      cases hB10
                      refine lf <| ?_
                      exact ⟨rfl, zs10, hx29⟩
                ·
                  have hB10 := ifn hB10 h26
                  refine gfk rfl rfl rfl rfl rfl (bft h26) rfl <| gfk rfl rfl rfl rfl rfl (bft h26) rfl <| gfk rfl rfl rfl rfl rfl (bft h26) rfl <| gfk rfl rfl rfl rfl rfl bu rfl <| gfk rfl rfl rfl rfl rfl bu rfl <| gfk rfl rfl rfl rfl rfl bu rfl <| gfk rfl rfl rfl rfl rfl bu rfl <| gfk rfl rfl rfl rfl rfl bu rfl <| gfk rfl rfl rfl rfl rfl bu rfl <| gfk rfl rfl rfl rfl rfl bu rfl <| gfk rfl rfl rfl rfl rfl (bft h26) rfl <| vl rfl rfl (xpf rfl h26 rfl) <| vl rfl rfl xmv <| ?_
                  refine Or.elim (Bool.eq_false_or_eq_true false) (fun h29 => ?_) (fun h29 => ?_)
                  ·
                    have hB10 := ifp hB10 h29
                    have hz := bs hB10; obtain ⟨x44, Ex44, hB10⟩ := hz
                    refine gtk rfl rfl rfl rfl rfl (bt h29) <| cl rfl rfl (xc cb15 mn) (c15 Ex44) ?_
                    rintro _ w35 ⟨rfl, hx31⟩
                    have k102 := k81.tr hx31
                    have k103 := k82.tr hx31
                    have k104 := k83.tr hx31
                    have k105 := k84.tr hx31
                    have k106 := k85.tr hx31
                    have zs12 := Nat.le_trans zs8 hx31.size
                    refine vl rfl rfl (xpt rfl h29 rfl) <| vl rfl rfl xas <| nl <| ?_
                    cases hB10
                    refine lf <| ?_
                    exact ⟨rfl, zs12, hx31⟩
                  ·
                    have hB10 := ifn hB10 h29
                    refine gfk rfl rfl rfl rfl rfl (bft h29) rfl <| vl rfl rfl (xpf rfl h29 rfl) <| vl rfl rfl xas <| nl <| ?_
                    cases hB10
                    refine lf <| ?_
                    exact ⟨rfl, zs8, (Ext.refl _)⟩
              ·
                have hB10 := ifn hB10 h25
                refine gtk rfl rfl rfl rfl rfl (bf h25) <| vl rfl rfl xmv <| gtk rfl rfl rfl rfl rfl (bf h25) <| vl rfl rfl (xfa l5_j3 fa26_4) <| gtk rfl rfl rfl rfl rfl (bf h25) <| vl rfl rfl (xld rfl ti24 ((Bx.cs hb29).at 4 rfl)) <| gtk rfl rfl rfl rfl rfl (bf h25) <| vl rfl rfl xmv <| ?_
                have hz := bs hB10; obtain ⟨x45, Ex45, hB10⟩ := hz
                have hz := (RV.els r9).ix Ex45; obtain ⟨b16, f10, cs17, e25, i24, i25, q29, hc23⟩ := hz
                cases e25
                obtain ⟨a19, cq19, rfl, p13, q30, e26⟩ := q29
                have r253 := RV.of1 p13 q30 e26
                have hc24 := hc23.ext k81
                have r254 := r253.ext k81
                refine gtk rfl rfl rfl rfl rfl (bf h25) <| vl rfl rfl (xixs rfl rfl Try.underlying24 ti22 i24 i25) <| gtk rfl rfl rfl rfl rfl (bf h25) <| vl rfl rfl (xld rfl ti22 (hc24.at 0 rfl)) <| ?_
                have hz := bs hB10; obtain ⟨x46, Ex46, hB10⟩ := hz
                refine gtk rfl rfl rfl rfl rfl (bf h25) <| cl rfl rfl (xc cb34 (mc l16_j3 (mc rfl mn))) (c34 r250 r254 Ex46) ?_
                rintro _ w36 ⟨rfl, hx32⟩
                have k107 := k81.tr hx32
                have k108 := k82.tr hx32
                have k109 := k83.tr hx32
                have k110 := k84.tr hx32
                have k111 := k85.tr hx32
                have zs13 := Nat.le_trans zs8 hx32.size
                have hb30 := hb29.ext hx32
                have r255 := r246.ext hx32
                have r256 := r247.ext hx32
                have r257 := r248.ext hx32
                have r258 := r249.ext hx32
                have r259 := r250.ext hx32
                refine vl rfl rfl (xpf rfl h25 rfl) <| vl rfl rfl xmv <| ?_
                refine Or.elim (Bool.eq_false_or_eq_true x46) (fun h30 => ?_) (fun h30 => ?_)
                ·
                  have hB10 := ifp hB10 h30
                  refine gtk rfl rfl rfl rfl rfl (bt h30) <| vl rfl rfl xmv <| gtk rfl rfl rfl rfl rfl (bt h30) <| vl rfl rfl (xneq rfl rfl) <| gtk rfl rfl rfl rfl rfl (bt h30) <| vl rfl rfl xmv <| ?_
                  refine Or.elim (Bool.eq_false_or_eq_true (!decide (x39 = 0))) (fun h31 => ?_) (fun h31 => ?_)
                  ·
                    have hB10 := ifp hB10 h31
                    refine gfk rfl rfl rfl rfl rfl (btf h31) rfl <| gfk rfl rfl rfl rfl rfl (btf h31) rfl <| gfk rfl rfl rfl rfl rfl (btf h31) rfl <| gfk rfl rfl rfl rfl rfl (btf h31) rfl <| gfk rfl rfl rfl rfl rfl (btf h31) rfl <| gfk rfl rfl rfl rfl rfl (btf h31) rfl <| gfk rfl rfl rfl rfl rfl (btf h31) rfl <| gtk rfl rfl rfl rfl rfl (bt h30) <| vl rfl rfl (xpt rfl h31 rfl) <| vl rfl rfl (xpt rfl h30 rfl) <| vl rfl rfl xmv <| ?_
                    refine Or.elim (Bool.eq_false_or_eq_true true) (fun h32 => ?_) (fun h32 => ?_)
                    ·
                      have hB10 := ifp hB10 h32
                      have hz := bs hB10; obtain ⟨x47, Ex47, hB10⟩ := hz
                      refine gtk rfl rfl rfl rfl rfl (bt h32) <| cl rfl rfl (xc cb15 mn) (c15 Ex47) ?_
                      rintro _ w37 ⟨rfl, hx33⟩
                      have k112 := k107.tr hx33
                      have k113 := k108.tr hx33
                      have k114 := k109.tr hx33
                      have k115 := k110.tr hx33
                      have k116 := k111.tr hx33
                      have k117 := hx32.tr hx33
                      have zs14 := Nat.le_trans zs13 hx33.size
                      refine vl rfl rfl (xpt rfl h32 rfl) <| vl rfl rfl xas <| nl <| ?_
                      cases hB10
                      refine lf <| ?_
                      exact ⟨rfl, zs14, k117⟩
                    ·
                      have hB10 := ifn hB10 h32
                      refine gfk rfl rfl rfl rfl rfl (bft h32) rfl <| vl rfl rfl (xpf rfl h32 rfl) <| vl rfl rfl xas <| nl <| ?_
                      cases hB10
                      refine lf <| ?_
                      exact ⟨rfl, zs13, hx32⟩
                  ·
                    have hB10 := ifn hB10 h31
                    refine gtk rfl rfl rfl rfl rfl (bf h31) <| vl rfl rfl xmv <| gtk rfl rfl rfl rfl rfl (bf h31) <| vl rfl rfl (xfa l5_j3 fa26_4) <| gtk rfl rfl rfl rfl rfl (bf h31) <| vl rfl rfl (xld rfl ti24 ((Bx.cs hb30).at 4 rfl)) <| gtk rfl rfl rfl rfl rfl (bf h31) <| vl rfl rfl xmv <| ?_
                    have hz := bs hB10; obtain ⟨x48, Ex48, hB10⟩ := hz
                    have hz := ix2 r9 Ex48; obtain ⟨cs18, i26, i27, q31, hc25⟩ := hz
                    obtain ⟨a20, cq20, rfl, p14, q32, e27⟩ := q31
                    have r260 := RV.of1 p14 q32 e27
                    have hc26 := hc25.ext k107
                    have r261 := r260.ext k107
                    refine gtk rfl rfl rfl rfl rfl (bf h31) <| vl rfl rfl (xixs rfl rfl Try.underlying24 ti22 i26 i27) <| gtk rfl rfl rfl rfl rfl (bf h31) <| vl rfl rfl (xld rfl ti22 (hc26.at 0 rfl)) <| ?_
                    have hz := bs hB10; obtain ⟨x49, Ex49, hB10⟩ := hz
                    refine gtk rfl rfl rfl rfl rfl (bf h31) <| cl rfl rfl (xc cb34 (mc l16_j3 (mc rfl mn))) (c34 r259 r261 Ex49) ?_
                    rintro _ w38 ⟨rfl, hx34⟩
                    have k118 := k107.tr hx34
                    have k119 := k108.tr hx34
                    have k120 := k109.tr hx34
                    have k121 := k110.tr hx34
                    have k122 := k111.tr hx34
                    have k123 := hx32.tr hx34
                    have zs15 := Nat.le_trans zs13 hx34.size
                    refine gtk rfl rfl rfl rfl rfl (bt h30) <| vl rfl rfl (xpf rfl h31 rfl) <| vl rfl rfl (xpt rfl h30 rfl) <| vl rfl rfl xmv <| ?_
                    refine Or.elim (Bool.eq_false_or_eq_true x49) (fun h33 => ?_) (fun h33 => ?_)
                    ·
                      have hB10 := ifp hB10 h33
                      have hz := bs hB10; obtain ⟨x50, Ex50, hB10⟩ := hz
                      refine gtk rfl rfl rfl rfl rfl (bt h33) <| cl rfl rfl (xc cb15 mn) (c15 Ex50) ?_
                      rintro _ w39 ⟨rfl, hx35⟩
                      have k124 := k118.tr hx35
                      have k125 := k119.tr hx35
                      have k126 := k120.tr hx35
                      have k127 := k121.tr hx35
                      have k128 := k122.tr hx35
                      have k129 := k123.tr hx35
                      have zs16 := Nat.le_trans zs15 hx35.size
                      refine vl rfl rfl (xpt rfl h33 rfl) <| vl rfl rfl xas <| nl <| ?_
                      cases hB10
                      refine lf <| ?_
                      exact ⟨rfl, zs16, k129⟩
                    ·
                      have hB10 := ifn hB10 h33
                      refine gfk rfl rfl rfl rfl rfl (bft h33) rfl <| vl rfl rfl (xpf rfl h33 rfl) <| vl rfl rfl xas <| nl <| ?_
                      cases hB10
                      refine lf <| ?_
                      exact ⟨rfl, zs15, k123⟩
                ·
                  have hB10 := ifn hB10 h30
                  refine gfk rfl rfl rfl rfl rfl (bft h30) rfl <| gfk rfl rfl rfl rfl rfl (bft h30) rfl <| gfk rfl rfl rfl rfl rfl (bft h30) rfl <| gfk rfl rfl rfl rfl rfl bu rfl <| gfk rfl rfl rfl rfl rfl bu rfl <| gfk rfl rfl rfl rfl rfl bu rfl <| gfk rfl rfl rfl rfl rfl bu rfl <| gfk rfl rfl rfl rfl rfl bu rfl <| gfk rfl rfl rfl rfl rfl bu rfl <| gfk rfl rfl rfl rfl rfl bu rfl <| gfk rfl rfl rfl rfl rfl (bft h30) rfl <| vl rfl rfl (xpf rfl h30 rfl) <| vl rfl rfl xmv <| ?_
                  refine Or.elim (Bool.eq_false_or_eq_true false) (fun h34 => ?_) (fun h34 => ?_)
                  ·
                    have hB10 := ifp hB10 h34
                    have hz := bs hB10; obtain ⟨x51, Ex51, hB10⟩ := hz
                    refine gtk rfl rfl rfl rfl rfl (bt h34) <| cl rfl rfl (xc cb15 mn) (c15 Ex51) ?_
                    rintro _ w40 ⟨rfl, hx36⟩
                    have k130 := k107.tr hx36
                    have k131 := k108.tr hx36
                    have k132 := k109.tr hx36
                    have k133 := k110.tr hx36
                    have k134 := k111.tr hx36
                    have k135 := hx32.tr hx36
                    have zs17 := Nat.le_trans zs13 hx36.size
                    refine vl rfl rfl (xpt rfl h34 rfl) <| vl rfl rfl xas <| nl <| ?_
                    cases hB10
                    refine lf <| ?_
                    exact ⟨rfl, zs17, k135⟩
                  ·
                    have hB10 := ifn hB10 h34
                    refine gfk rfl rfl rfl rfl rfl (bft h34) rfl <| vl rfl rfl (xpf rfl h34 rfl) <| vl rfl rfl xas <| nl <| ?_
                    cases hB10
                    refine lf <| ?_
                    exact ⟨rfl, zs13, hx32⟩
            rintro L w41 ⟨l10_j4, Z0_j4, K0_j4⟩
            have k136 := k81.tr K0_j4
            have k137 := k82.tr K0_j4
            have k138 := k83.tr K0_j4
            have k139 := k84.tr K0_j4
            have k140 := k85.tr K0_j4
            cases hF
            exact wp_ret <| rt rfl (.tmp l10_j4 rfl .nil) ⟨rfl, k136⟩

set_option maxHeartbeats 4000000 in
theorem c8 {w0 : World} {v0 : Value} {x0 : (Int × (List Int) × (List ((List Int) × Int)) × (List ((List Int) × Int)) × (List (List Int)))} (r0 : RV w0 v0 x0) {x1 : Int} {F : Nat} {r : Bool} (hF : law10_RightNamed F x0 x1 = some r) :
    Calls Try.prog 8 [v0, .int .u8 x1].toArray w0 (Ret fun v w' => v = .bool r ∧ Ext w0 w') := by
  unfold law10_RightNamed at hF
  have hz := id r0; obtain ⟨_, rfl, ⟨_, _, rfl, rfl, ⟨_, _, rfl, ⟨a1, cq1, rfl, p1, q3, e1⟩, ⟨_, _, rfl, ⟨a2, cq2, rfl, p2, q4, e2⟩, ⟨_, _, rfl, ⟨a3, cq3, rfl, p3, q5, e3⟩, ⟨a4, cq4, rfl, p4, q6, e4⟩⟩⟩⟩⟩⟩ := hz
  have r3 := RV.of1 p1 q3 e1
  have r4 := RV.of1 p2 q4 e2
  have r5 := RV.of1 p3 q5 e3
  have r6 := RV.of1 p4 q6 e4
  refine entr (n := 135) Try.func8 rfl rfl rfl <| wp_seq <| rg <| sbx rfl rfl fun b3 w1 hx1 hg1 hb1 => ?_
  have r7 := r3.ext hx1
  have r8 := r4.ext hx1
  have r9 := r5.ext hx1
  have r10 := r6.ext hx1
  have r11 := r0.ext hx1
  refine vl rfl rfl xas <| nl <| wp_seq <| wp_seq <| rg <| vl rfl rfl (xlda rfl ti26 rfl (Bx.cs hb1)) <| ?_
  have hz := bs hF; obtain ⟨x3, Ex3, hF⟩ := hz
  refine cl rfl rfl (xc cb30 (mc rfl mn)) (c30 (show RV (α := (Int × (List Int) × (List ((List Int) × Int)) × (List ((List Int) × Int)) × (List (List Int)))) _ (.agg [.int .i64 x0.1, .slice a1 x0.2.1.length cq1, .slice a2 x0.2.2.1.length cq2, .slice a3 x0.2.2.2.1.length cq3, .slice a4 x0.2.2.2.2.length cq4].toArray) (x0.1, x0.2.1, x0.2.2.1, x0.2.2.2.1, x0.2.2.2.2) from ⟨_, rfl, ⟨[.int .i64 x0.1], [.slice a1 x0.2.1.length cq1] ++ ([.slice a2 x0.2.2.1.length cq2] ++ ([.slice a3 x0.2.2.2.1.length cq3] ++ [.slice a4 x0.2.2.2.2.length cq4])), rfl, rfl, ⟨[.slice a1 x0.2.1.length cq1], [.slice a2 x0.2.2.1.length cq2] ++ ([.slice a3 x0.2.2.2.1.length cq3] ++ [.slice a4 x0.2.2.2.2.length cq4]), rfl, r7.rep1, ⟨[.slice a2 x0.2.2.1.length cq2], [.slice a3 x0.2.2.2.1.length cq3] ++ [.slice a4 x0.2.2.2.2.length cq4], rfl, r8.rep1, ⟨[.slice a3 x0.2.2.2.1.length cq3], [.slice a4 x0.2.2.2.2.length cq4], rfl, r9.rep1, r10.rep1⟩⟩⟩⟩⟩) Ex3) ?_
  rintro _ w2 ⟨rfl, hx2⟩
  have k1 := hx1.tr hx2
  have hb2 := hb1.ext hx2
  have r12 := r7.ext hx2
  have r13 := r8.ext hx2
  have r14 := r9.ext hx2
  have r15 := r10.ext hx2
  refine vl rfl rfl (xnot rfl) <| nl <| cnd rfl (fun h3 => ?_) (fun h3 => ?_)
  ·
    have hF := ifp hF h3
    refine wp_seq <| rg <| ?_
    have hz := bs hF; obtain ⟨x4, Ex4, hF⟩ := hz
    refine cl rfl rfl (xc cb15 mn) (c15 Ex4) ?_
    rintro _ w3 ⟨rfl, hx3⟩
    have k2 := k1.tr hx3
    refine vl rfl rfl xas <| nl <| ?_
    cases hF
    exact wp_ret <| rt rfl (.tmp rfl rfl .nil) ⟨rfl, k2⟩
  ·
    have hF := ifn hF h3
    refine wp_skip <| wp_seq <| rg <| vl rfl rfl (xlda rfl ti26 rfl (Bx.cs hb2)) <| ?_
    have hz := bs hF; obtain ⟨x5, Ex5, hF⟩ := hz
    refine cl rfl rfl (xc cb21 (mc rfl mn)) (c21 (show RV (α := (Int × (List Int) × (List ((List Int) × Int)) × (List ((List Int) × Int)) × (List (List Int)))) _ (.agg [.int .i64 x0.1, .slice a1 x0.2.1.length cq1, .slice a2 x0.2.2.1.length cq2, .slice a3 x0.2.2.2.1.length cq3, .slice a4 x0.2.2.2.2.length cq4].toArray) (x0.1, x0.2.1, x0.2.2.1, x0.2.2.2.1, x0.2.2.2.2) from ⟨_, rfl, ⟨[.int .i64 x0.1], [.slice a1 x0.2.1.length cq1] ++ ([.slice a2 x0.2.2.1.length cq2] ++ ([.slice a3 x0.2.2.2.1.length cq3] ++ [.slice a4 x0.2.2.2.2.length cq4])), rfl, rfl, ⟨[.slice a1 x0.2.1.length cq1], [.slice a2 x0.2.2.1.length cq2] ++ ([.slice a3 x0.2.2.2.1.length cq3] ++ [.slice a4 x0.2.2.2.2.length cq4]), rfl, r12.rep1, ⟨[.slice a2 x0.2.2.1.length cq2], [.slice a3 x0.2.2.2.1.length cq3] ++ [.slice a4 x0.2.2.2.2.length cq4], rfl, r13.rep1, ⟨[.slice a3 x0.2.2.2.1.length cq3], [.slice a4 x0.2.2.2.2.length cq4], rfl, r14.rep1, r15.rep1⟩⟩⟩⟩⟩) Ex5) ?_
    rintro _ w4 ⟨u1, rfl, r16, hx4⟩
    have k3 := k1.tr hx4
    have hb3 := hb2.ext hx4
    have r17 := r12.ext hx4
    have r18 := r13.ext hx4
    have r19 := r14.ext hx4
    have r20 := r15.ext hx4
    have hz := RV.sl r16; obtain ⟨a5, cq5, rfl, -, -, -⟩ := hz
    refine vl rfl rfl xmv <| vl rfl rfl (xext rfl rfl) <| vl rfl rfl (xext rfl rfl) <| vl rfl rfl xas <| vl rfl rfl xas <| nl <| wp_seq <| wp_seq <| rg <| vl rfl rfl xmv <| vl rfl rfl (xneq rfl rfl) <| vl rfl rfl xmv <| gv rfl rfl rfl rfl (gw0 rfl) rfl (fun hc => xmva rfl) <| gv rfl rfl rfl rfl (gw0 rfl) rfl (fun hc => xlen (mv hc rfl) Try.underlying22) <| gv rfl rfl rfl rfl (gw0 rfl) rfl (fun hc => xfa rfl fa26_3) <| gv rfl rfl rfl rfl (gw0 rfl) rfl (fun hc => xld (mv hc rfl) ti23 ((Bx.cs hb3).at 3 rfl)) <| gv rfl rfl rfl rfl (gw0 rfl) rfl (fun hc => xlen (mv hc rfl) Try.underlying23) <| gv rfl rfl rfl rfl (gw0 rfl) rfl (fun hc => xneq (mv hc rfl) (mv hc rfl)) <| vl rfl rfl (xpo rfl rfl rfl) <| nl <| cnd rfl (fun h4 => ?_) (fun h4 => ?_)
    ·
      have hF := ifp hF h4
      refine wp_seq <| rg <| vl rfl rfl xas <| nl <| ?_
      cases hF
      exact wp_ret <| rt rfl (.tmp rfl rfl .nil) ⟨rfl, k3⟩
    ·
      have hF := ifn hF h4
      refine wp_skip <| wp_seq <| rg <| vl rfl rfl xas <| nl <| wp_seq <| wp_seq <| rg <| vl rfl rfl xas <| nl <| ?_
      have o1 : Row (α := Int) 3 w4.heap.size w4 (.slice none 0 0) [] := Row.nil
      have hz := bs hF; obtain ⟨o2, hB1, hF⟩ := hz
      refine ct (fun L w => ∃ z1 : (List Int), ∃ v4 : Value, o2 = .inr z1 ∧ L 7 = v4 ∧ Row 3 w4.heap.size w v4 z1 ∧ L 1 = .int .u8 x1 ∧ L 2 = .pointer (some ⟨b3, 0, none⟩) ∧ L 5 = .slice a5 x5.1.length cq5 ∧ Ext w4 w) ?_ ?_
      ·
        refine wp_block <| lp (I := fun m L w => ∃ y1 : (List Int), ∃ y2 : Int, ∃ v3 : Value, law10_RightNamed_l1 F x0 x5 m y1 y2  = some o2 ∧ L 7 = v3 ∧ Row 3 w4.heap.size w v3 y1 ∧ L 8 = .int .i64 y2 ∧ L 1 = .int .u8 x1 ∧ L 2 = .pointer (some ⟨b3, 0, none⟩) ∧ L 5 = .slice a5 x5.1.length cq5 ∧ Ext w4 w) F ⟨_, _, _, hB1, rfl, o1, rfl, rfl, rfl, rfl, (Ext.refl _)⟩ ?_
        rintro m L w5 ⟨y1, y2, v3, hB1, l7_i1, O7_i1, l8_i1, l1_i1, l2_i1, l5_i1, K0_i1⟩
        rcases m with _ | m
        · rw [law10_RightNamed_l1] at hB1; cases hB1
        rw [law10_RightNamed_l1] at hB1
        have k4 := k3.tr K0_i1
        have r21 := r17.ext K0_i1
        have r22 := r18.ext K0_i1
        have r23 := r19.ext K0_i1
        have r24 := r20.ext K0_i1
        have hb4 := hb3.ext K0_i1
        have r25 := r16.ext K0_i1
        have hz := RV.sl O7_i1.rv; obtain ⟨a6, cq6, rfl, -, -, -⟩ := hz
        refine wp_seq <| wp_seq <| rg <| vl rfl rfl xmv <| vl rfl rfl xmv <| vl rfl rfl (xlen l5_i1 Try.underlying22) <| vl rfl rfl (xlss l8_i1 rfl) <| nl <| cnd rfl (fun h5 => ?_) (fun h5 => ?_)
        ·
          have hB1 := ifp hB1 h5
          refine wp_skip <| wp_seq <| ?_
          have hz := bs hB1; obtain ⟨o3, hB3, hB1⟩ := hz
          refine ct (fun L w => ∃ y3 : (List Int), ∃ v5 : Value, o3 = .inr y3 ∧ L 7 = v5 ∧ Row 3 w4.heap.size w v5 y3 ∧ L 1 = .int .u8 x1 ∧ L 2 = .pointer (some ⟨b3, 0, none⟩) ∧ L 5 = .slice a5 x5.1.length cq5 ∧ L 8 = .int .i64 y2 ∧ Ext w4 w) ?_ ?_
          ·
            refine wp_block <| wp_seq <| wp_seq <| ?_
            have hz := bs hB3; obtain ⟨y4, hB4, hB3⟩ := hz
            refine ct (fun L w => L 53 = .bool y4 ∧ L 1 = .int .u8 x1 ∧ L 2 = .pointer (some ⟨b3, 0, none⟩) ∧ L 5 = .slice a5 x5.1.length cq5 ∧ L 7 = .slice a6 y1.length cq6 ∧ L 8 = .int .i64 y2 ∧ w4.heap.size ≤ w.heap.size ∧ Ext w5 w) ?_ ?_
            ·
              refine wpl [] (.pure true 0 (.pure true 1 (.pure true 2 (.pure false 3 (.pure true 4 (.pure true 5 (.pure true 6 (.pure true 7 (.pure true 8 (.pure false 9 (.pure true 10 (.pure false 11 (.pure false 12 (.pure true 13 (.pure true 14 .fin))))))))))))))) mixed (by kernel_rfl) (fun w7 hx6 => ?_)
              have k7 := k4.tr hx6
              have k8 := K0_i1.tr hx6
              have hb6 := hb4.ext hx6
              have r31 := r21.ext hx6
              have r32 := r22.ext hx6
              have r33 := r23.ext hx6
              have r34 := r24.ext hx6
              have r35 := r25.ext hx6
              have O2 := O7_i1.ext hx6
              refine pv rfl rfl rfl (fun _ _ => xmv) (.inl rfl) <| pv rfl rfl rfl (fun _ _ => xmv) (.inl rfl) <| ?_
              have hz := bs hB4; obtain ⟨x7, Ex7, hB4⟩ := hz
              have hz := (RV.els r16).ix Ex7; obtain ⟨b5, f2, cs4, e6, i4, i5, q8, hc3⟩ := hz
              cases e6
              obtain rfl := q8
              have hc4 := hc3.ext k8
              refine pv rfl rfl rfl (fun _ _ => xixs l5_i1 l8_i1 Try.underlying22 ti3 i4 i5) (.inl rfl) <| pv rfl rfl rfl (fun _ hS => xld rfl ti3 ((hc4.ext (hS.resolve_left nofun)).at 0 rfl)) (.inr (Ext.refl _)) <| pv rfl rfl rfl (fun _ _ => xlss rfl rfl) (.inl rfl) <| pv rfl rfl rfl (fun _ _ => xmv) (.inl rfl) <| ?_
              refine Or.elim (Bool.eq_false_or_eq_true (decide (x7 < (-1)))) (fun h6 => ?_) (fun h6 => ?_)
              ·
                have hB4 := ifp hB4 h6
                refine pvf rfl rfl rfl rfl rfl rfl (btf h6) rfl (.inl rfl) <| pvf rfl rfl rfl rfl rfl rfl (btf h6) rfl (.inl rfl) <| pvf rfl rfl rfl rfl rfl rfl (btf h6) rfl (.inl rfl) <| pvf rfl rfl rfl rfl rfl rfl (btf h6) rfl (.inr (Ext.refl _)) <| pvf rfl rfl rfl rfl rfl rfl (btf h6) rfl (.inl rfl) <| pvf rfl rfl rfl rfl rfl rfl (btf h6) rfl (.inr (Ext.refl _)) <| pvf rfl rfl rfl rfl rfl rfl (btf h6) rfl (.inr (Ext.refl _)) <| pvf rfl rfl rfl rfl rfl rfl (btf h6) rfl (.inl rfl) <| pv rfl rfl rfl (fun _ _ => xpt rfl h6 rfl) (.inl rfl) <| ?_
                cases hB4
                refine lf <| ?_
                exact ⟨rfl, l1_i1, l2_i1, l5_i1, l7_i1, l8_i1, k8.size, hx6⟩
              ·
                have hB4 := ifn hB4 h6
                refine pvt rfl rfl rfl rfl rfl rfl (bf h6) rfl (fun _ _ => xmv) (.inl rfl) <| pvt rfl rfl rfl rfl rfl rfl (bf h6) rfl (fun _ _ => xmv) (.inl rfl) <| ?_
                have hz := bs hB4; obtain ⟨x8, Ex8, hB4⟩ := hz
                have hz := ix2 r16 Ex8; obtain ⟨cs5, i6, i7, q9, hc5⟩ := hz
                obtain rfl := q9
                have hc6 := hc5.ext k8
                refine pvt rfl rfl rfl rfl rfl rfl (bf h6) rfl (fun _ _ => xixs l5_i1 l8_i1 Try.underlying22 ti3 i6 i7) (.inl rfl) <| pvt rfl rfl rfl rfl rfl rfl (bf h6) rfl (fun _ hS => xld rfl ti3 ((hc6.ext (hS.resolve_left nofun)).at 0 rfl)) (.inr (Ext.refl _)) <| pvt rfl rfl rfl rfl rfl rfl (bf h6) rfl (fun _ _ => xfa l2_i1 fa26_4) (.inl rfl) <| pvt rfl rfl rfl rfl rfl rfl (bf h6) rfl (fun _ hS => xld rfl ti24 ((Bx.cs (hb6.ext (hS.resolve_left nofun))).at 4 rfl)) (.inr (Ext.refl _)) <| pvt rfl rfl rfl rfl rfl rfl (bf h6) rfl (fun _ hS => xlen rfl Try.underlying24) (.inr (Ext.refl _)) <| pvt rfl rfl rfl rfl rfl rfl (bf h6) rfl (fun _ _ => xgeq rfl rfl) (.inl rfl) <| pv rfl rfl rfl (fun _ _ => xpf rfl h6 rfl) (.inl rfl) <| ?_
                cases hB4
                refine lf <| ?_
                exact ⟨rfl, l1_i1, l2_i1, l5_i1, l7_i1, l8_i1, k8.size, hx6⟩
            rintro L w8 ⟨l53_j1, l1_j1, l2_j1, l5_j1, l7_j1, l8_j1, Z0_j1, K0_j1⟩
            have k9 := k4.tr K0_j1
            have k10 := K0_i1.tr K0_j1
            have r36 := r21.ext K0_j1
            have r37 := r22.ext K0_j1
            have r38 := r23.ext K0_j1
            have r39 := r24.ext K0_j1
            have hb7 := hb4.ext K0_j1
            have r40 := r25.ext K0_j1
            have O3 := O7_i1.ext K0_j1
            refine cnd l53_j1 (fun h7 => ?_) (fun h7 => ?_)
            ·
              have hB3 := ifp hB3 h7
              refine wp_seq <| rg <| vl rfl rfl xas <| nl <| ?_
              cases hB3
              have hB1 := (show some _ = some _ from hB1); cases hB1
              have hF := (show some _ = some _ from hF); cases hF
              exact wp_ret <| rt rfl (.tmp rfl rfl .nil) ⟨rfl, k9⟩
            ·
              have hB3 := ifn hB3 h7
              refine wp_skip <| wp_seq <| rg <| vl rfl rfl xmv <| vl rfl rfl xmv <| ?_
              have hz := bs hB3; obtain ⟨x9, Ex9, hB3⟩ := hz
              have hz := (RV.els r16).ix Ex9; obtain ⟨b6, f3, cs6, e7, i8, i9, q10, hc7⟩ := hz
              cases e7
              obtain rfl := q10
              have hc8 := hc7.ext k10
              refine vl rfl rfl (xixs l5_j1 l8_j1 Try.underlying22 ti3 i8 i9) <| vl rfl rfl (xld rfl ti3 (hc8.at 0 rfl)) <| vl rfl rfl (xeql rfl rfl) <| nl <| ?_
              have hz := bs hB3; obtain ⟨y5, hB7, hB3⟩ := hz
              refine ct (fun L w => ∃ v6 : Value, L 7 = v6 ∧ Row 3 w4.heap.size w v6 y5 ∧ L 1 = .int .u8 x1 ∧ L 2 = .pointer (some ⟨b3, 0, none⟩) ∧ L 5 = .slice (some ⟨b6, f3, none⟩) x5.1.length cq5 ∧ L 8 = .int .i64 y2 ∧ Ext w4 w) ?_ ?_
              ·
                refine cnd rfl (fun h8 => ?_) (fun h8 => ?_)
                ·
                  have hB7 := ifp hB7 h8
                  refine rg <| vl rfl rfl xmv <| vl rfl rfl xmv <| sbsv (cs := [.int .i64 y2]) Try.underlying22 ti3 rfl (pc l8_j1 pn) rfl rfl rfl rfl rfl fun b7 w9 hx7 hg2 hb8 => ?_
                  have k11 := k9.tr hx7
                  have k12 := k10.tr hx7
                  have k13 := K0_j1.tr hx7
                  have zs1 := Nat.le_trans Z0_j1 hx7.size
                  have hb9 := hb7.ext hx7
                  have r41 := r36.ext hx7
                  have r42 := r37.ext hx7
                  have r43 := r38.ext hx7
                  have r44 := r39.ext hx7
                  have r45 := r40.ext hx7
                  have O4 := O3.ext hx7
                  have o4 : Row (α := Int) 3 w8.heap.size w9 (.slice (some ⟨b7, 0, none⟩) 1 1) [y2] := Row.lit hg2 hb8 rfl (ble rfl)
                  have hz := bs hB7; obtain ⟨x10, Ex10, hB7⟩ := hz
                  refine sapx (l := y1) (k := ([y2] : List Int)) l7_j1 rfl Try.underlying22 ti3 rfl rfl O4 (RV.els o4.rv) Ex10 k12.size fun v7 w10 o5 hB9 hgr1 how1 => ?_
                  have k14 := Ext.grow k11 k3.size hB9
                  have k15 : Ext w4 w10 := k12.trans hB9
                  have zs2 := Nat.le_trans zs1 hgr1.size
                  have hb10 := hb3.ext k15
                  have r47 := r17.ext k15
                  have r48 := r18.ext k15
                  have r49 := r19.ext k15
                  have r50 := r20.ext k15
                  have r51 := r16.ext k15
                  have hz := RV.sl o5.rv; obtain ⟨a7, cq7, rfl, -, -, -⟩ := hz
                  refine vl rfl rfl xas <| nl <| ?_
                  cases hB7
                  refine lf <| ?_
                  exact ⟨_, rfl, o5, l1_j1, l2_j1, l5_j1, l8_j1, k15⟩
                ·
                  have hB7 := ifn hB7 h8
                  refine wp_skip <| ?_
                  cases hB7
                  refine lf <| ?_
                  exact ⟨_, l7_j1, O3, l1_j1, l2_j1, l5_j1, l8_j1, k10⟩
              rintro L w11 ⟨v6, l7_j2, O7_j2, l1_j2, l2_j2, l5_j2, l8_j2, K0_j2⟩
              have k16 := k3.tr K0_j2
              have r52 := r17.ext K0_j2
              have r53 := r18.ext K0_j2
              have r54 := r19.ext K0_j2
              have r55 := r20.ext K0_j2
              have hb11 := hb3.ext K0_j2
              have r56 := r16.ext K0_j2
              have hz := RV.sl O7_j2.rv; obtain ⟨a8, cq8, rfl, -, -, -⟩ := hz
              cases hB3
              refine lf <| ?_
              exact ⟨_, _, rfl, l7_j2, O7_j2, l1_j2, l2_j2, l5_j2, l8_j2, K0_j2⟩
          rintro L w12 ⟨y3, v5, rfl, l7_j3, O7_j3, l1_j3, l2_j3, l5_j3, l8_j3, K0_j3⟩
          have k17 := k3.tr K0_j3
          have r57 := r17.ext K0_j3
          have r58 := r18.ext K0_j3
          have r59 := r19.ext K0_j3
          have r60 := r20.ext K0_j3
          have hb12 := hb3.ext K0_j3
          have r61 := r16.ext K0_j3
          have hz := RV.sl O7_j3.rv; obtain ⟨a9, cq9, rfl, -, -, -⟩ := hz
          refine rg <| vl rfl rfl xmv <| vl rfl rfl (xadd l8_j3 rfl) <| vl rfl rfl xas <| nl <| ?_
          refine lq m (Nat.lt_succ_self _) <| ?_
          exact ⟨_, _, _, hB1, l7_j3, O7_j3, rfl, l1_j3, l2_j3, l5_j3, K0_j3⟩
        ·
          have hB1 := ifn hB1 h5
          refine wp_exit <| ?_
          cases hB1
          refine lf <| ?_
          exact ⟨_, _, rfl, l7_i1, O7_i1, l1_i1, l2_i1, l5_i1, K0_i1⟩
      rintro L w13 ⟨z1, v4, rfl, l7_j4, O7_j4, l1_j4, l2_j4, l5_j4, K0_j4⟩
      have k18 := k3.tr K0_j4
      have r62 := r17.ext K0_j4
      have r63 := r18.ext K0_j4
      have r64 := r19.ext K0_j4
      have r65 := r20.ext K0_j4
      have hb13 := hb3.ext K0_j4
      have r66 := r16.ext K0_j4
      have hz := RV.sl O7_j4.rv; obtain ⟨a10, cq10, rfl, -, -, -⟩ := hz
      refine wp_seq <| wp_seq <| rg <| vl rfl rfl (xlda l2_j4 ti26 rfl (Bx.cs hb13)) <| vl rfl rfl xmv <| ?_
      have hz := bs hF; obtain ⟨x11, Ex11, hF⟩ := hz
      refine cl rfl rfl (xc cb32 (mc rfl (mc l7_j4 mn))) (c32 (show RV (α := (Int × (List Int) × (List ((List Int) × Int)) × (List ((List Int) × Int)) × (List (List Int)))) _ (.agg [.int .i64 x0.1, .slice a1 x0.2.1.length cq1, .slice a2 x0.2.2.1.length cq2, .slice a3 x0.2.2.2.1.length cq3, .slice a4 x0.2.2.2.2.length cq4].toArray) (x0.1, x0.2.1, x0.2.2.1, x0.2.2.2.1, x0.2.2.2.2) from ⟨_, rfl, ⟨[.int .i64 x0.1], [.slice a1 x0.2.1.length cq1] ++ ([.slice a2 x0.2.2.1.length cq2] ++ ([.slice a3 x0.2.2.2.1.length cq3] ++ [.slice a4 x0.2.2.2.2.length cq4])), rfl, rfl, ⟨[.slice a1 x0.2.1.length cq1], [.slice a2 x0.2.2.1.length cq2] ++ ([.slice a3 x0.2.2.2.1.length cq3] ++ [.slice a4 x0.2.2.2.2.length cq4]), rfl, r62.rep1, ⟨[.slice a2 x0.2.2.1.length cq2], [.slice a3 x0.2.2.2.1.length cq3] ++ [.slice a4 x0.2.2.2.2.length cq4], rfl, r63.rep1, ⟨[.slice a3 x0.2.2.2.1.length cq3], [.slice a4 x0.2.2.2.2.length cq4], rfl, r64.rep1, r65.rep1⟩⟩⟩⟩⟩) O7_j4.rv Ex11) ?_
      rintro _ w14 ⟨rfl, hx8⟩
      have k19 := k18.tr hx8
      have k20 := K0_j4.tr hx8
      have hb14 := hb13.ext hx8
      have r67 := r62.ext hx8
      have r68 := r63.ext hx8
      have r69 := r64.ext hx8
      have r70 := r65.ext hx8
      have r71 := r66.ext hx8
      have O5 := O7_j4.ext hx8
      refine vl rfl rfl (xneq rfl rfl) <| vl rfl rfl xmv <| gv rfl rfl rfl rfl (gw0 rfl) rfl (fun hc => xlda l2_j4 ti26 rfl (Bx.cs hb14)) <| gv rfl rfl rfl rfl (gw0 rfl) rfl (fun hc => xmva l7_j4) <| ?_
      have hz := bs hF; obtain ⟨x12, Ex12, hF⟩ := hz
      refine gc rfl rfl rfl rfl (gw0 rfl) rfl (fun hc => xc cb37 (mc (mv hc rfl) (mc (mv hc rfl) mn))) (fun hc => (c37 (show RV (α := (Int × (List Int) × (List ((List Int) × Int)) × (List ((List Int) × Int)) × (List (List Int)))) _ (.agg [.int .i64 x0.1, .slice a1 x0.2.1.length cq1, .slice a2 x0.2.2.1.length cq2, .slice a3 x0.2.2.2.1.length cq3, .slice a4 x0.2.2.2.2.length cq4].toArray) (x0.1, x0.2.1, x0.2.2.1, x0.2.2.2.1, x0.2.2.2.2) from ⟨_, rfl, ⟨[.int .i64 x0.1], [.slice a1 x0.2.1.length cq1] ++ ([.slice a2 x0.2.2.1.length cq2] ++ ([.slice a3 x0.2.2.2.1.length cq3] ++ [.slice a4 x0.2.2.2.2.length cq4])), rfl, rfl, ⟨[.slice a1 x0.2.1.length cq1], [.slice a2 x0.2.2.1.length cq2] ++ ([.slice a3 x0.2.2.2.1.length cq3] ++ [.slice a4 x0.2.2.2.2.length cq4]), rfl, r67.rep1, ⟨[.slice a2 x0.2.2.1.length cq2], [.slice a3 x0.2.2.2.1.length cq3] ++ [.slice a4 x0.2.2.2.2.length cq4], rfl, r68.rep1, ⟨[.slice a3 x0.2.2.2.1.length cq3], [.slice a4 x0.2.2.2.2.length cq4], rfl, r69.rep1, r70.rep1⟩⟩⟩⟩⟩) O5.rv (gdp Ex12 hc))) (fun v8 w15 hy1 hn1 => ?_)
      have hx9 : Ext w14 w15 := gx (fun h => (hy1 h).2) (fun h => (hn1 h).2 ▸ Ext.refl _)
      have e8 := mkw (fun h => (hy1 h).1) (fun h => (hn1 h).1)
      have k21 := k19.tr hx9
      have k22 := k20.tr hx9
      have hb15 := hb14.ext hx9
      have r72 := r67.ext hx9
      have r73 := r68.ext hx9
      have r74 := r69.ext hx9
      have r75 := r70.ext hx9
      have r76 := r71.ext hx9
      refine gv rfl rfl rfl rfl (gw0 rfl) rfl (fun hc => xneq (mv hc e8) rfl) <| vl rfl rfl (xpo rfl rfl rfl) <| nl <| cnd rfl (fun h9 => ?_) (fun h9 => ?_)
      ·
        have hF := ifp hF h9
        refine wp_seq <| rg <| vl rfl rfl xas <| nl <| ?_
        cases hF
        exact wp_ret <| rt rfl (.tmp rfl rfl .nil) ⟨rfl, k21⟩
      ·
        have hF := ifn hF h9
        refine wp_skip <| wp_seq <| wp_seq <| rg <| vl rfl rfl xmv <| vl rfl rfl (xlen l5_j4 Try.underlying22) <| vl rfl rfl (xeql rfl rfl) <| nl <| cnd rfl (fun h10 => ?_) (fun h10 => ?_)
        ·
          have hF := ifp hF h10
          refine wp_seq <| rg <| ?_
          have hz := bs hF; obtain ⟨x13, Ex13, hF⟩ := hz
          refine cl rfl rfl (xc cb15 mn) (c15 Ex13) ?_
          rintro _ w16 ⟨rfl, hx10⟩
          have k23 := k21.tr hx10
          have k24 := k22.tr hx10
          refine vl rfl rfl xas <| nl <| ?_
          cases hF
          exact wp_ret <| rt rfl (.tmp rfl rfl .nil) ⟨rfl, k23⟩
        ·
          have hF := ifn hF h10
          refine wp_skip <| wp_seq <| rg <| vl rfl rfl xmv <| vl rfl rfl (xcvt l1_j4 Try.underlying5 Try.underlying3) <| vl rfl rfl xmv <| vl rfl rfl (xlen l5_j4 Try.underlying22) <| ?_
          have hz := bs hF; obtain ⟨x14, Ex14, hF⟩ := hz
          refine vl rfl rfl (xremv rfl rfl Ex14) <| vl rfl rfl xas <| nl <| wp_seq <| wp_seq <| rg <| vl rfl rfl xmv <| vl rfl rfl xmv <| ?_
          have hz := bs hF; obtain ⟨x15, Ex15, hF⟩ := hz
          have hz := (RV.els r16).ix Ex15; obtain ⟨b8, f4, cs7, e9, i10, i11, q11, hc9⟩ := hz
          cases e9
          obtain rfl := q11
          have hc10 := hc9.ext k22
          refine vl rfl rfl (xixs l5_j4 rfl Try.underlying22 ti3 i10 i11) <| vl rfl rfl (xld rfl ti3 (hc10.at 0 rfl)) <| vl rfl rfl (xeql rfl rfl) <| nl <| cnd rfl (fun h11 => ?_) (fun h11 => ?_)
          ·
            have hF := ifp hF h11
            refine wp_seq <| rg <| ?_
            have hz := bs hF; obtain ⟨x16, Ex16, hF⟩ := hz
            refine cl rfl rfl (xc cb15 mn) (c15 Ex16) ?_
            rintro _ w17 ⟨rfl, hx11⟩
            have k25 := k21.tr hx11
            have k26 := k22.tr hx11
            refine vl rfl rfl xas <| nl <| ?_
            cases hF
            exact wp_ret <| rt rfl (.tmp rfl rfl .nil) ⟨rfl, k25⟩
          ·
            have hF := ifn hF h11
            refine wp_skip <| wp_seq <| rg <| vl rfl rfl xas <| nl <| wp_seq <| wp_seq <| rg <| vl rfl rfl xas <| nl <| ?_
            have o6 : Row (α := Int) 3 w15.heap.size w15 (.slice none 0 0) [] := Row.nil
            have hz := bs hF; obtain ⟨z2, hB12, hF⟩ := hz
            refine ct (fun L w => ∃ v10 : Value, L 10 = v10 ∧ Row 3 w15.heap.size w v10 z2 ∧ L 2 = .pointer (some ⟨b3, 0, none⟩) ∧ L 5 = .slice (some ⟨b8, f4, none⟩) x5.1.length cq5 ∧ L 9 = .int .i64 x14 ∧ Ext w15 w) ?_ ?_
            ·
              refine wp_block <| lp (I := fun m L w => ∃ y6 : (List Int), ∃ y7 : Int, ∃ v9 : Value, law10_RightNamed_l2 F x5 x14 m y6 y7  = some z2 ∧ L 10 = v9 ∧ Row 3 w15.heap.size w v9 y6 ∧ L 11 = .int .i64 y7 ∧ L 2 = .pointer (some ⟨b3, 0, none⟩) ∧ L 5 = .slice (some ⟨b8, f4, none⟩) x5.1.length cq5 ∧ L 9 = .int .i64 x14 ∧ Ext w15 w) F ⟨_, _, _, hB12, rfl, o6, rfl, l2_j4, l5_j4, rfl, (Ext.refl _)⟩ ?_
              rintro m L w18 ⟨y6, y7, v9, hB12, l10_i12, O10_i12, l11_i12, l2_i12, l5_i12, l9_i12, K0_i12⟩
              rcases m with _ | m
              · rw [law10_RightNamed_l2] at hB12; cases hB12
              rw [law10_RightNamed_l2] at hB12
              have k27 := k21.tr K0_i12
              have k28 := k22.tr K0_i12
              have r77 := r72.ext K0_i12
              have r78 := r73.ext K0_i12
              have r79 := r74.ext K0_i12
              have r80 := r75.ext K0_i12
              have hb16 := hb15.ext K0_i12
              have r81 := r76.ext K0_i12
              have hz := RV.sl O10_i12.rv; obtain ⟨a11, cq11, rfl, -, -, -⟩ := hz
              refine wp_seq <| wp_seq <| rg <| vl rfl rfl xmv <| vl rfl rfl xmv <| vl rfl rfl (xleq l11_i12 l9_i12) <| nl <| cnd rfl (fun h12 => ?_) (fun h12 => ?_)
              ·
                have hB12 := ifp hB12 h12
                refine wp_skip <| wp_seq <| ?_
                have hz := bs hB12; obtain ⟨y8, hB14, hB12⟩ := hz
                refine ct (fun L w => ∃ v11 : Value, L 10 = v11 ∧ Row 3 w15.heap.size w v11 y8 ∧ L 2 = .pointer (some ⟨b3, 0, none⟩) ∧ L 5 = .slice (some ⟨b8, f4, none⟩) x5.1.length cq5 ∧ L 9 = .int .i64 x14 ∧ L 11 = .int .i64 y7 ∧ Ext w15 w) ?_ ?_
                ·
                  refine wp_block <| wp_seq <| ?_
                  have hz := bs hB14; obtain ⟨y9, hB15, hB14⟩ := hz
                  refine ct (fun L w => L 102 = .bool y9 ∧ L 2 = .pointer (some ⟨b3, 0, none⟩) ∧ L 5 = .slice (some ⟨b8, f4, none⟩) x5.1.length cq5 ∧ L 9 = .int .i64 x14 ∧ L 10 = .slice a11 y6.length cq11 ∧ L 11 = .int .i64 y7 ∧ w15.heap.size ≤ w.heap.size ∧ Ext w18 w) ?_ ?_
                  ·
                    refine rg <| vl rfl rfl xmv <| vl rfl rfl xmv <| vl rfl rfl (xeql l11_i12 l9_i12) <| vl rfl rfl xmv <| ?_
                    refine Or.elim (Bool.eq_false_or_eq_true (decide (y7 = x14))) (fun h13 => ?_) (fun h13 => ?_)
                    ·
                      have hB15 := ifp hB15 h13
                      refine gfk rfl rfl rfl rfl rfl (btf h13) rfl <| gfk rfl rfl rfl rfl rfl (btf h13) rfl <| gfk rfl rfl rfl rfl rfl (btf h13) rfl <| gfk rfl rfl rfl rfl rfl (btf h13) rfl <| gfk rfl rfl rfl rfl rfl (btf h13) rfl <| vl rfl rfl (xpt rfl h13 rfl) <| nl <| ?_
                      cases hB15
                      refine lf <| ?_
                      exact ⟨rfl, l2_i12, l5_i12, l9_i12, l10_i12, l11_i12, K0_i12.size, (Ext.refl _)⟩
                    ·
                      have hB15 := ifn hB15 h13
                      refine gtk rfl rfl rfl rfl rfl (bf h13) <| vl rfl rfl xmv <| gtk rfl rfl rfl rfl rfl (bf h13) <| vl rfl rfl xmv <| ?_
                      have hz := bs hB15; obtain ⟨x17, Ex17, hB15⟩ := hz
                      have hz := ix2 r16 Ex17; obtain ⟨cs8, i13, i14, q12, hc11⟩ := hz
                      obtain rfl := q12
                      have hc12 := hc11.ext k28
                      refine gtk rfl rfl rfl rfl rfl (bf h13) <| vl rfl rfl (xixs l5_i12 l11_i12 Try.underlying22 ti3 i13 i14) <| gtk rfl rfl rfl rfl rfl (bf h13) <| vl rfl rfl (xld rfl ti3 (hc12.at 0 rfl)) <| gtk rfl rfl rfl rfl rfl (bf h13) <| vl rfl rfl (xeql rfl rfl) <| vl rfl rfl (xpf rfl h13 rfl) <| nl <| ?_
                      cases hB15
                      refine lf <| ?_
                      exact ⟨rfl, l2_i12, l5_i12, l9_i12, l10_i12, l11_i12, K0_i12.size, (Ext.refl _)⟩
                  rintro L w19 ⟨l102_j5, l2_j5, l5_j5, l9_j5, l10_j5, l11_j5, Z0_j5, K0_j5⟩
                  have k29 := k27.tr K0_j5
                  have k30 := k28.tr K0_j5
                  have k31 := K0_i12.tr K0_j5
                  have r82 := r77.ext K0_j5
                  have r83 := r78.ext K0_j5
                  have r84 := r79.ext K0_j5
                  have r85 := r80.ext K0_j5
                  have hb17 := hb16.ext K0_j5
                  have r86 := r81.ext K0_j5
                  have O6 := O10_i12.ext K0_j5
                  have hz := bs hB14; obtain ⟨y10, hB16, hB14⟩ := hz
                  refine ct (fun L w => ∃ v12 : Value, L 10 = v12 ∧ Row 3 w15.heap.size w v12 y10 ∧ L 2 = .pointer (some ⟨b3, 0, none⟩) ∧ L 5 = .slice (some ⟨b8, f4, none⟩) x5.1.length cq5 ∧ L 9 = .int .i64 x14 ∧ L 11 = .int .i64 y7 ∧ Ext w15 w) ?_ ?_
                  ·
                    refine cnd l102_j5 (fun h14 => ?_) (fun h14 => ?_)
                    ·
                      have hB16 := ifp hB16 h14
                      refine rg <| vl rfl rfl xmv <| vl rfl rfl xmv <| sbsv (cs := [.int .i64 y7]) Try.underlying22 ti3 rfl (pc l11_j5 pn) rfl rfl rfl rfl rfl fun b9 w20 hx12 hg3 hb18 => ?_
                      have k32 := k29.tr hx12
                      have k33 := k30.tr hx12
                      have k34 := k31.tr hx12
                      have k35 := K0_j5.tr hx12
                      have zs3 := Nat.le_trans Z0_j5 hx12.size
                      have hb19 := hb17.ext hx12
                      have r87 := r82.ext hx12
                      have r88 := r83.ext hx12
                      have r89 := r84.ext hx12
                      have r90 := r85.ext hx12
                      have r91 := r86.ext hx12
                      have O7 := O6.ext hx12
                      have o8 : Row (α := Int) 3 w19.heap.size w20 (.slice (some ⟨b9, 0, none⟩) 1 1) [y7] := Row.lit hg3 hb18 rfl (ble rfl)
                      have hz := bs hB16; obtain ⟨x18, Ex18, hB16⟩ := hz
                      refine sapx (l := y6) (k := ([y7] : List Int)) l10_j5 rfl Try.underlying22 ti3 rfl rfl O7 (RV.els o8.rv) Ex18 k34.size fun v13 w21 o9 hB18 hgr2 how2 => ?_
                      have k36 := Ext.grow k32 k21.size hB18
                      have k37 := Ext.grow k33 k22.size hB18
                      have k38 : Ext w15 w21 := k34.trans hB18
                      have zs4 := Nat.le_trans zs3 hgr2.size
                      have hb20 := hb15.ext k38
                      have r93 := r72.ext k38
                      have r94 := r73.ext k38
                      have r95 := r74.ext k38
                      have r96 := r75.ext k38
                      have r97 := r76.ext k38
                      have hz := RV.sl o9.rv; obtain ⟨a12, cq12, rfl, -, -, -⟩ := hz
                      refine vl rfl rfl xas <| nl <| ?_
                      cases hB16
                      refine lf <| ?_
                      exact ⟨_, rfl, o9, l2_j5, l5_j5, l9_j5, l11_j5, k38⟩
                    ·
                      have hB16 := ifn hB16 h14
                      refine wp_skip <| ?_
                      cases hB16
                      refine lf <| ?_
                      exact ⟨_, l10_j5, O6, l2_j5, l5_j5, l9_j5, l11_j5, k31⟩
                  rintro L w22 ⟨v12, l10_j6, O10_j6, l2_j6, l5_j6, l9_j6, l11_j6, K0_j6⟩
                  have k39 := k21.tr K0_j6
                  have k40 := k22.tr K0_j6
                  have r98 := r72.ext K0_j6
                  have r99 := r73.ext K0_j6
                  have r100 := r74.ext K0_j6
                  have r101 := r75.ext K0_j6
                  have hb21 := hb15.ext K0_j6
                  have r102 := r76.ext K0_j6
                  have hz := RV.sl O10_j6.rv; obtain ⟨a13, cq13, rfl, -, -, -⟩ := hz
                  cases hB14
                  refine lf <| ?_
                  exact ⟨_, l10_j6, O10_j6, l2_j6, l5_j6, l9_j6, l11_j6, K0_j6⟩
                rintro L w23 ⟨v11, l10_j7, O10_j7, l2_j7, l5_j7, l9_j7, l11_j7, K0_j7⟩
                have k41 := k21.tr K0_j7
                have k42 := k22.tr K0_j7
                have r103 := r72.ext K0_j7
                have r104 := r73.ext K0_j7
                have r105 := r74.ext K0_j7
                have r106 := r75.ext K0_j7
                have hb22 := hb15.ext K0_j7
                have r107 := r76.ext K0_j7
                have hz := RV.sl O10_j7.rv; obtain ⟨a14, cq14, rfl, -, -, -⟩ := hz
                refine rg <| vl rfl rfl xmv <| vl rfl rfl (xadd l11_j7 rfl) <| vl rfl rfl xas <| nl <| ?_
                refine lq m (Nat.lt_succ_self _) <| ?_
                exact ⟨_, _, _, hB12, l10_j7, O10_j7, rfl, l2_j7, l5_j7, l9_j7, K0_j7⟩
              ·
                have hB12 := ifn hB12 h12
                refine wp_exit <| ?_
                cases hB12
                refine lf <| ?_
                exact ⟨_, l10_i12, O10_i12, l2_i12, l5_i12, l9_i12, K0_i12⟩
            rintro L w24 ⟨v10, l10_j8, O10_j8, l2_j8, l5_j8, l9_j8, K0_j8⟩
            have k43 := k21.tr K0_j8
            have k44 := k22.tr K0_j8
            have r108 := r72.ext K0_j8
            have r109 := r73.ext K0_j8
            have r110 := r74.ext K0_j8
            have r111 := r75.ext K0_j8
            have hb23 := hb15.ext K0_j8
            have r112 := r76.ext K0_j8
            have hz := RV.sl O10_j8.rv; obtain ⟨a15, cq15, rfl, -, -, -⟩ := hz
            refine wp_seq <| rg <| vl rfl rfl (xlda l2_j8 ti26 rfl (Bx.cs hb23)) <| vl rfl rfl xmv <| ?_
            have hz := bs hF; obtain ⟨x19, Ex19, hF⟩ := hz
            refine cl rfl rfl (xc cb16 (mc rfl (mc l10_j8 mn))) (c16 (show RV (α := (Int × (List Int) × (List ((List Int) × Int)) × (List ((List Int) × Int)) × (List (List Int)))) _ (.agg [.int .i64 x0.1, .slice a1 x0.2.1.length cq1, .slice a2 x0.2.2.1.length cq2, .slice a3 x0.2.2.2.1.length cq3, .slice a4 x0.2.2.2.2.length cq4].toArray) (x0.1, x0.2.1, x0.2.2.1, x0.2.2.2.1, x0.2.2.2.2) from ⟨_, rfl, ⟨[.int .i64 x0.1], [.slice a1 x0.2.1.length cq1] ++ ([.slice a2 x0.2.2.1.length cq2] ++ ([.slice a3 x0.2.2.2.1.length cq3] ++ [.slice a4 x0.2.2.2.2.length cq4])), rfl, rfl, ⟨[.slice a1 x0.2.1.length cq1], [.slice a2 x0.2.2.1.length cq2] ++ ([.slice a3 x0.2.2.2.1.length cq3] ++ [.slice a4 x0.2.2.2.2.length cq4]), rfl, r108.rep1, ⟨[.slice a2 x0.2.2.1.length cq2], [.slice a3 x0.2.2.2.1.length cq3] ++ [.slice a4 x0.2.2.2.2.length cq4], rfl, r109.rep1, ⟨[.slice a3 x0.2.2.2.1.length cq3], [.slice a4 x0.2.2.2.2.length cq4], rfl, r110.rep1, r111.rep1⟩⟩⟩⟩⟩) O10_j8.rv Ex19) ?_
            rintro _ w25 ⟨u2, rfl, r113, hx13⟩
            have k45 := k43.tr hx13
            have k46 := k44.tr hx13
            have k47 := K0_j8.tr hx13
            have hb24 := hb23.ext hx13
            have r114 := r108.ext hx13
            have r115 := r109.ext hx13
            have r116 := r110.ext hx13
            have r117 := r111.ext hx13
            have r118 := r112.ext hx13
            have O8 := O10_j8.ext hx13
            have hz := RV.sl r113; obtain ⟨a16, cq16, rfl, -, -, -⟩ := hz
            refine vl rfl rfl xmv <| vl rfl rfl (xext rfl rfl) <| vl rfl rfl (xext rfl rfl) <| vl rfl rfl (xext rfl rfl) <| vl rfl rfl xas <| vl rfl rfl xas <| vl rfl rfl xas <| nl <| wp_seq <| ?_
            have hz := bs hF; obtain ⟨y11, hB21, hF⟩ := hz
            refine ct (fun L w => L 4 = .bool y11 ∧ Ext w25 w) ?_ ?_
            ·
              refine rg <| vl rfl rfl xmv <| vl rfl rfl (xeql rfl rfl) <| vl rfl rfl xmv <| ?_
              refine Or.elim (Bool.eq_false_or_eq_true (decide (x19.2.2 = 0))) (fun h15 => ?_) (fun h15 => ?_)
              ·
                have hB21 := ifp hB21 h15
                refine gtk rfl rfl rfl rfl rfl (bt h15) <| vl rfl rfl xmv <| gtk rfl rfl rfl rfl rfl (bt h15) <| vl rfl rfl xmv <| gtk rfl rfl rfl rfl rfl (bt h15) <| vl rfl rfl xmv <| ?_
                have hz := bs hB21; obtain ⟨x20, Ex20, hB21⟩ := hz
                have hz := ix2 r16 Ex20; obtain ⟨cs9, i15, i16, q13, hc13⟩ := hz
                obtain rfl := q13
                have hc14 := hc13.ext k46
                refine gtk rfl rfl rfl rfl rfl (bt h15) <| vl rfl rfl (xixs l5_j8 l9_j8 Try.underlying22 ti3 i15 i16) <| gtk rfl rfl rfl rfl rfl (bt h15) <| vl rfl rfl (xld rfl ti3 (hc14.at 0 rfl)) <| gtk rfl rfl rfl rfl rfl (bt h15) <| vl rfl rfl (xeql rfl rfl) <| vl rfl rfl (xpt rfl h15 rfl) <| vl rfl rfl xmv <| ?_
                refine Or.elim (Bool.eq_false_or_eq_true (decide (x19.1 = x20))) (fun h16 => ?_) (fun h16 => ?_)
                ·
                  have hB21 := ifp hB21 h16
                  refine gtk rfl rfl rfl rfl rfl (bt h16) <| vl rfl rfl (xlda l2_j8 ti26 rfl (Bx.cs hb24)) <| gtk rfl rfl rfl rfl rfl (bt h16) <| vl rfl rfl xmv <| gtk rfl rfl rfl rfl rfl (bt h16) <| vl rfl rfl xmv <| gtk rfl rfl rfl rfl rfl (bt h16) <| vl rfl rfl xmv <| ?_
                  have hz := bs hB21; obtain ⟨x21, Ex21, hB21⟩ := hz
                  refine gtk rfl rfl rfl rfl rfl (bt h16) <| cl rfl rfl (xc cb18 (mc rfl (mc l10_j8 (mc rfl (mc rfl mn))))) (c18 (show RV (α := (Int × (List Int) × (List ((List Int) × Int)) × (List ((List Int) × Int)) × (List (List Int)))) _ (.agg [.int .i64 x0.1, .slice a1 x0.2.1.length cq1, .slice a2 x0.2.2.1.length cq2, .slice a3 x0.2.2.2.1.length cq3, .slice a4 x0.2.2.2.2.length cq4].toArray) (x0.1, x0.2.1, x0.2.2.1, x0.2.2.2.1, x0.2.2.2.2) from ⟨_, rfl, ⟨[.int .i64 x0.1], [.slice a1 x0.2.1.length cq1] ++ ([.slice a2 x0.2.2.1.length cq2] ++ ([.slice a3 x0.2.2.2.1.length cq3] ++ [.slice a4 x0.2.2.2.2.length cq4])), rfl, rfl, ⟨[.slice a1 x0.2.1.length cq1], [.slice a2 x0.2.2.1.length cq2] ++ ([.slice a3 x0.2.2.2.1.length cq3] ++ [.slice a4 x0.2.2.2.2.length cq4]), rfl, r114.rep1, ⟨[.slice a2 x0.2.2.1.length cq2], [.slice a3 x0.2.2.2.1.length cq3] ++ [.slice a4 x0.2.2.2.2.length cq4], rfl, r115.rep1, ⟨[.slice a3 x0.2.2.2.1.length cq3], [.slice a4 x0.2.2.2.2.length cq4], rfl, r116.rep1, r117.rep1⟩⟩⟩⟩⟩) O8.rv r113 Ex21) ?_
                  rintro _ w26 ⟨rfl, hx14⟩
                  have k48 := k45.tr hx14
                  have k49 := k46.tr hx14
                  have k50 := k47.tr hx14
                  refine gtk rfl rfl rfl rfl rfl (bt h16) <| vl rfl rfl (xeql rfl rfl) <| vl rfl rfl (xpt rfl h16 rfl) <| vl rfl rfl xmv <| ?_
                  refine Or.elim (Bool.eq_false_or_eq_true (decide (x21 = 0))) (fun h17 => ?_) (fun h17 => ?_)
                  ·
                    have hB21 := ifp hB21 h17
                    have hz := bs hB21; obtain ⟨x22, Ex22, hB21⟩ := hz
                    refine gtk rfl rfl rfl rfl rfl (bt h17) <| cl rfl rfl (xc cb15 mn) (c15 Ex22) ?_
                    rintro _ w27 ⟨rfl, hx15⟩
                    have k51 := k48.tr hx15
                    have k52 := k49.tr hx15
                    have k53 := k50.tr hx15
                    have k54 := hx14.tr hx15
                    refine vl rfl rfl (xpt rfl h17 rfl) <| vl rfl rfl xas <| nl <| ?_
                    cases hB21
                    refine lf <| ?_
                    exact ⟨rfl, k54⟩
                  ·
                    have hB21 := ifn hB21 h17
                    refine gfk rfl rfl rfl rfl rfl (bft h17) rfl <| vl rfl rfl (xpf rfl h17 rfl) <| vl rfl rfl xas <| nl <| ?_
                    cases hB21
                    refine lf <| ?_
                    exact ⟨rfl, hx14⟩
                ·
                  have hB21 := ifn hB21 h16
                  refine gfk rfl rfl rfl rfl rfl (bft h16) rfl <| gfk rfl rfl rfl rfl rfl (bft h16) rfl <| gfk rfl rfl rfl rfl rfl (bft h16) rfl <| gfk rfl rfl rfl rfl rfl (bft h16) rfl <| gfk rfl rfl rfl rfl rfl (bft h16) rfl <| gfk rfl rfl rfl rfl rfl (bft h16) rfl <| vl rfl rfl (xpf rfl h16 rfl) <| vl rfl rfl xmv <| ?_
                  refine Or.elim (Bool.eq_false_or_eq_true false) (fun h18 => ?_) (fun h18 => ?_)
                  ·
                    have hB21 := ifp hB21 h18
                    have hz := bs hB21; obtain ⟨x23, Ex23, hB21⟩ := hz
                    refine gtk rfl rfl rfl rfl rfl (bt h18) <| cl rfl rfl (xc cb15 mn) (c15 Ex23) ?_
                    rintro _ w28 ⟨rfl, hx16⟩
                    have k55 := k45.tr hx16
                    have k56 := k46.tr hx16
                    have k57 := k47.tr hx16
                    refine vl rfl rfl (xpt rfl h18 rfl) <| vl rfl rfl xas <| nl <| ?_
                    cases hB21
                    refine lf <| ?_
                    exact ⟨rfl, hx16⟩
                  ·
                    have hB21 := ifn hB21 h18
                    refine gfk rfl rfl rfl rfl rfl (bft h18) rfl <| vl rfl rfl (xpf rfl h18 rfl) <| vl rfl rfl xas <| nl <| ?_
                    cases hB21
                    refine lf <| ?_
                    exact ⟨rfl, (Ext.refl _)⟩
              ·
                have hB21 := ifn hB21 h15
                refine gfk rfl rfl rfl rfl rfl (bft h15) rfl <| gfk rfl rfl rfl rfl rfl (bft h15) rfl <| gfk rfl rfl rfl rfl rfl (bft h15) rfl <| gfk rfl rfl rfl rfl rfl (bft h15) rfl <| gfk rfl rfl rfl rfl rfl (bft h15) rfl <| gfk rfl rfl rfl rfl rfl (bft h15) rfl <| vl rfl rfl (xpf rfl h15 rfl) <| vl rfl rfl xmv <| ?_
                refine Or.elim (Bool.eq_false_or_eq_true false) (fun h19 => ?_) (fun h19 => ?_)
                ·
                  have hB21 := ifp hB21 h19
                  refine gtk rfl rfl rfl rfl rfl (bt h19) <| vl rfl rfl (xlda l2_j8 ti26 rfl (Bx.cs hb24)) <| gtk rfl rfl rfl rfl rfl (bt h19) <| vl rfl rfl xmv <| gtk rfl rfl rfl rfl rfl (bt h19) <| vl rfl rfl xmv <| gtk rfl rfl rfl rfl rfl (bt h19) <| vl rfl rfl xmv <| ?_
                  have hz := bs hB21; obtain ⟨x24, Ex24, hB21⟩ := hz
                  refine gtk rfl rfl rfl rfl rfl (bt h19) <| cl rfl rfl (xc cb18 (mc rfl (mc l10_j8 (mc rfl (mc rfl mn))))) (c18 (show RV (α := (Int × (List Int) × (List ((List Int) × Int)) × (List ((List Int) × Int)) × (List (List Int)))) _ (.agg [.int .i64 x0.1, .slice a1 x0.2.1.length cq1, .slice a2 x0.2.2.1.length cq2, .slice a3 x0.2.2.2.1.length cq3, .slice a4 x0.2.2.2.2.length cq4].toArray) (x0.1, x0.2.1, x0.2.2.1, x0.2.2.2.1, x0.2.2.2.2) from ⟨_, rfl, ⟨[.int .i64 x0.1], [.slice a1 x0.2.1.length cq1] ++ ([.slice a2 x0.2.2.1.length cq2] ++ ([.slice a3 x0.2.2.2.1.length cq3] ++ [.slice a4 x0.2.2.2.2.length cq4])), rfl, rfl, ⟨[.slice a1 x0.2.1.length cq1], [.slice a2 x0.2.2.1.length cq2] ++ ([.slice a3 x0.2.2.2.1.length cq3] ++ [.slice a4 x0.2.2.2.2.length cq4]), rfl, r114.rep1, ⟨[.slice a2 x0.2.2.1.length cq2], [.slice a3 x0.2.2.2.1.length cq3] ++ [.slice a4 x0.2.2.2.2.length cq4], rfl, r115.rep1, ⟨[.slice a3 x0.2.2.2.1.length cq3], [.slice a4 x0.2.2.2.2.length cq4], rfl, r116.rep1, r117.rep1⟩⟩⟩⟩⟩) O8.rv r113 Ex24) ?_
                  rintro _ w29 ⟨rfl, hx17⟩
                  have k58 := k45.tr hx17
                  have k59 := k46.tr hx17
                  have k60 := k47.tr hx17
                  refine gtk rfl rfl rfl rfl rfl (bt h19) <| vl rfl rfl (xeql rfl rfl) <| vl rfl rfl (xpt rfl h19 rfl) <| vl rfl rfl xmv <| ?_
                  refine Or.elim (Bool.eq_false_or_eq_true (decide (x24 = 0))) (fun h20 => ?_) (fun h20 => ?_)
                  ·
                    have hB21 := ifp hB21 h20
                    have hz := bs hB21; obtain ⟨x25, Ex25, hB21⟩ := hz
                    refine gtk rfl rfl rfl rfl rfl (bt h20) <| cl rfl rfl (xc cb15 mn) (c15 Ex25) ?_
                    rintro _ w30 ⟨rfl, hx18⟩
                    have k61 := k58.tr hx18
                    have k62 := k59.tr hx18
                    have k63 := k60.tr hx18
                    have k64 := hx17.tr hx18
                    refine vl rfl rfl (xpt rfl h20 rfl) <| vl rfl rfl xas <| nl <| ?_
                    cases hB21
                    refine lf <| ?_
                    exact ⟨rfl, k64⟩
                  ·
                    have hB21 := ifn hB21 h20
                    refine gfk rfl rfl rfl rfl rfl (bft h20) rfl <| vl rfl rfl (xpf rfl h20 rfl) <| vl rfl rfl xas <| nl <| ?_
                    cases hB21
                    refine lf <| ?_
                    exact ⟨rfl, hx17⟩
                ·
                  have hB21 := ifn hB21 h19
                  refine gfk rfl rfl rfl rfl rfl (bft h19) rfl <| gfk rfl rfl rfl rfl rfl (bft h19) rfl <| gfk rfl rfl rfl rfl rfl (bft h19) rfl <| gfk rfl rfl rfl rfl rfl (bft h19) rfl <| gfk rfl rfl rfl rfl rfl (bft h19) rfl <| gfk rfl rfl rfl rfl rfl (bft h19) rfl <| vl rfl rfl (xpf rfl h19 rfl) <| vl rfl rfl xmv <| gfk rfl rfl rfl rfl rfl (bft h19) rfl <| vl rfl rfl (xpf rfl h19 rfl) <| vl rfl rfl xas <| nl <| ?_
                  cases hB21
                  refine lf <| ?_
                  exact ⟨rfl, (Ext.refl _)⟩
            rintro L w31 ⟨l4_j9, K0_j9⟩
            have k65 := k45.tr K0_j9
            have k66 := k46.tr K0_j9
            have k67 := k47.tr K0_j9
            cases hF
            exact wp_ret <| rt rfl (.tmp l4_j9 rfl .nil) ⟨rfl, k65⟩
end Go.Proofs.Ytdimoehnkagghaa
