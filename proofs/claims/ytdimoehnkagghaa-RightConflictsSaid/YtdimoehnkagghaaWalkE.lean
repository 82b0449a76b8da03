/-
  Each function of the program returns what its pure function computes, and leaves all memory that was there as it was. Condition: the pure function computes something.
-/
import Derived.Test.YtdimoehnkagghaaFacts
import Derived.Test.YtdimoehnkagghaaPureE
import Derived.Test.YtdimoehnkagghaaWalkD
namespace Go.Proofs.Ytdimoehnkagghaa
open Go Go.Md Go.RowKit
attribute [local irreducible] Go.wpList Go.Code.wp Go.Calls Go.Md.Rnd Go.Md.Mt Go.Md.MtM Go.Md.RndM Go.Code.wpIn

set_option maxHeartbeats 4000000 in
theorem c3 {w0 : World} {v0 : Value} {x0 : (Int × (List Int) × (List ((List Int) × Int)) × (List ((List Int) × Int)) × (List (List Int)))} (r0 : RV w0 v0 x0) {v1 : Value} {x1 : (List Int)} (r1 : RV w0 v1 x1) {x2 : Int} {v3 : Value} {x3 : (List (Bool × Int))} (r3 : RV w0 v3 x3) {F : Nat} {r : Bool} (hF : law10_RightChains F x0 x1 x2 x3 = some r) :
    Calls Try.prog 3 [v0, v1, .int .i64 x2, v3].toArray w0 (Ret fun v w' => v = .bool r ∧ Ext w0 w') := by
  unfold law10_RightChains at hF
  have hz := id r0; obtain ⟨_, rfl, ⟨_, _, rfl, rfl, ⟨_, _, rfl, ⟨a1, cq1, rfl, p1, q5, e1⟩, ⟨_, _, rfl, ⟨a2, cq2, rfl, p2, q6, e2⟩, ⟨_, _, rfl, ⟨a3, cq3, rfl, p3, q7, e3⟩, ⟨a4, cq4, rfl, p4, q8, e4⟩⟩⟩⟩⟩⟩ := hz
  have r5 := RV.of1 p1 q5 e1
  have r6 := RV.of1 p2 q6 e2
  have r7 := RV.of1 p3 q7 e3
  have r8 := RV.of1 p4 q8 e4
  have hz := r1.sl; obtain ⟨a5, cq5, rfl, -, -, -⟩ := hz
  have hz := r3.sl; obtain ⟨a6, cq6, rfl, -, -, -⟩ := hz
  refine entr (n := 83) Try.func3 rfl rfl rfl <| wp_seq <| rg <| sbx rfl rfl fun b5 w1 hx1 hg1 hb1 => ?_
  have r9 := r1.ext hx1
  have r10 := r3.ext hx1
  have r11 := r5.ext hx1
  have r12 := r6.ext hx1
  have r13 := r7.ext hx1
  have r14 := r8.ext hx1
  have r15 := r0.ext hx1
  refine vl rfl rfl xas <| nl <| wp_seq <| wp_seq <| rg <| vl rfl rfl (xlda rfl ti26 rfl (Bx.cs hb1)) <| ?_
  have hz := bs hF; obtain ⟨x5, Ex5, hF⟩ := hz
  refine cl rfl rfl (xc cb14 (mc rfl mn)) (c14 (show RV (α := (Int × (List Int) × (List ((List Int) × Int)) × (List ((List Int) × Int)) × (List (List Int)))) _ (.agg [.int .i64 x0.1, .slice a1 x0.2.1.length cq1, .slice a2 x0.2.2.1.length cq2, .slice a3 x0.2.2.2.1.length cq3, .slice a4 x0.2.2.2.2.length cq4].toArray) (x0.1, x0.2.1, x0.2.2.1, x0.2.2.2.1, x0.2.2.2.2) from ⟨_, rfl, ⟨[.int .i64 x0.1], [.slice a1 x0.2.1.length cq1] ++ ([.slice a2 x0.2.2.1.length cq2] ++ ([.slice a3 x0.2.2.2.1.length cq3] ++ [.slice a4 x0.2.2.2.2.length cq4])), rfl, rfl, ⟨[.slice a1 x0.2.1.length cq1], [.slice a2 x0.2.2.1.length cq2] ++ ([.slice a3 x0.2.2.2.1.length cq3] ++ [.slice a4 x0.2.2.2.2.length cq4]), rfl, r11.rep1, ⟨[.slice a2 x0.2.2.1.length cq2], [.slice a3 x0.2.2.2.1.length cq3] ++ [.slice a4 x0.2.2.2.2.length cq4], rfl, r12.rep1, ⟨[.slice a3 x0.2.2.2.1.length cq3], [.slice a4 x0.2.2.2.2.length cq4], rfl, r13.rep1, r14.rep1⟩⟩⟩⟩⟩) Ex5) ?_
  rintro _ w2 ⟨rfl, hx2⟩
  have k1 := hx1.tr hx2
  have hb2 := hb1.ext hx2
  have r16 := r11.ext hx2
  have r17 := r12.ext hx2
  have r18 := r13.ext hx2
  have r19 := r14.ext hx2
  have r20 := r9.ext hx2
  have r21 := r10.ext hx2
  refine vl rfl rfl xmv <| gv rfl rfl rfl rfl (gw0 rfl) rfl (fun hc => xmva rfl) <| gv rfl rfl rfl rfl (gw0 rfl) rfl (fun hc => xlen (mv hc rfl) Try.underlying22) <| gv rfl rfl rfl rfl (gw0 rfl) rfl (fun hc => xgtr (mv hc rfl) rfl) <| vl rfl rfl (xpo rfl rfl rfl) <| vl rfl rfl xmv <| gv rfl rfl rfl rfl (gw0 rfl) rfl (fun hc => xmva rfl) <| gv rfl rfl rfl rfl (gw0 rfl) rfl (fun hc => xlen (mv hc rfl) Try.underlying27) <| gv rfl rfl rfl rfl (gw0 rfl) rfl (fun hc => xgtr (mv hc rfl) rfl) <| vl rfl rfl (xpo rfl rfl rfl) <| nl <| cnd rfl (fun h5 => ?_) (fun h5 => ?_)
  ·
    have hF := ifp hF h5
    refine wp_seq <| rg <| ?_
    have hz := bs hF; obtain ⟨x6, Ex6, hF⟩ := hz
    refine cl rfl rfl (xc cb15 mn) (c15 Ex6) ?_
    rintro _ w3 ⟨rfl, hx3⟩
    have k2 := k1.tr hx3
    refine vl rfl rfl xas <| nl <| ?_
    cases hF
    exact wp_ret <| rt rfl (.tmp rfl rfl .nil) ⟨rfl, k2⟩
  ·
    have hF := ifn hF h5
    refine wp_skip <| wp_seq <| rg <| vl rfl rfl (xlda rfl ti26 rfl (Bx.cs hb2)) <| vl rfl rfl xmv <| ?_
    have hz := bs hF; obtain ⟨x7, Ex7, hF⟩ := hz
    refine cl rfl rfl (xc cb16 (mc rfl (mc rfl mn))) (c16 (show RV (α := (Int × (List Int) × (List ((List Int) × Int)) × (List ((List Int) × Int)) × (List (List Int)))) _ (.agg [.int .i64 x0.1, .slice a1 x0.2.1.length cq1, .slice a2 x0.2.2.1.length cq2, .slice a3 x0.2.2.2.1.length cq3, .slice a4 x0.2.2.2.2.length cq4].toArray) (x0.1, x0.2.1, x0.2.2.1, x0.2.2.2.1, x0.2.2.2.2) from ⟨_, rfl, ⟨[.int .i64 x0.1], [.slice a1 x0.2.1.length cq1] ++ ([.slice a2 x0.2.2.1.length cq2] ++ ([.slice a3 x0.2.2.2.1.length cq3] ++ [.slice a4 x0.2.2.2.2.length cq4])), rfl, rfl, ⟨[.slice a1 x0.2.1.length cq1], [.slice a2 x0.2.2.1.length cq2] ++ ([.slice a3 x0.2.2.2.1.length cq3] ++ [.slice a4 x0.2.2.2.2.length cq4]), rfl, r16.rep1, ⟨[.slice a2 x0.2.2.1.length cq2], [.slice a3 x0.2.2.2.1.length cq3] ++ [.slice a4 x0.2.2.2.2.length cq4], rfl, r17.rep1, ⟨[.slice a3 x0.2.2.2.1.length cq3], [.slice a4 x0.2.2.2.2.length cq4], rfl, r18.rep1, r19.rep1⟩⟩⟩⟩⟩) r20 Ex7) ?_
    rintro _ w4 ⟨u1, rfl, r22, hx4⟩
    have k3 := k1.tr hx4
    have hb3 := hb2.ext hx4
    have r23 := r16.ext hx4
    have r24 := r17.ext hx4
    have r25 := r18.ext hx4
    have r26 := r19.ext hx4
    have r27 := r20.ext hx4
    have r28 := r21.ext hx4
    have hz := RV.sl r22; obtain ⟨a7, cq7, rfl, -, -, -⟩ := hz
    refine vl rfl rfl xmv <| vl rfl rfl (xext rfl rfl) <| vl rfl rfl (xext rfl rfl) <| vl rfl rfl (xext rfl rfl) <| vl rfl rfl xas <| vl rfl rfl xas <| vl rfl rfl xas <| nl <| wp_seq <| wp_seq <| wpl [] (.pure false 0 (.pure true 1 (.pure true 2 (.pure true 3 (.pure false 5 (.pure true 6 (.pure true 7 (.pure true 8 (.eff 4 (.eff 9 (.pure true 10 (.pure true 11 (.pure true 12 (.pure false 13 (.pure true 14 (.eff 15 (.pure true 16 (.pure true 17 .fin)) .stop)))))) .stop) .stop))))))))) mixed (by kernel_rfl) (fun w5 hx5 => ?_)
    have k4 := k3.tr hx5
    have hb4 := hb3.ext hx5
    have r29 := r23.ext hx5
    have r30 := r24.ext hx5
    have r31 := r25.ext hx5
    have r32 := r26.ext hx5
    have r33 := r27.ext hx5
    have r34 := r28.ext hx5
    have r35 := r22.ext hx5
    refine pv rfl rfl rfl (fun _ hS => xlda rfl ti26 rfl (Bx.cs (hb4.ext (hS.resolve_left nofun)))) (.inr (Ext.refl _)) <| pv rfl rfl rfl (fun _ _ => xmv) (.inl rfl) <| pv rfl rfl rfl (fun _ _ => xmv) (.inl rfl) <| pv rfl rfl rfl (fun _ _ => xmv) (.inl rfl) <| pv rfl rfl rfl (fun _ hS => xlda rfl ti26 rfl (Bx.cs (hb4.ext (hS.resolve_left nofun)))) (.inr (Ext.refl _)) <| pv rfl rfl rfl (fun _ _ => xmv) (.inl rfl) <| pv rfl rfl rfl (fun _ _ => xmv) (.inl rfl) <| pv rfl rfl rfl (fun _ _ => xmv) (.inl rfl) <| ?_
    have hz := bs hF; obtain ⟨x8, Ex8, hF⟩ := hz
    refine pe1 rfl <| cl rfl rfl (xc cb17 (mc rfl (mc rfl (mc rfl (mc rfl mn))))) (c17 (show RV (α := (Int × (List Int) × (List ((List Int) × Int)) × (List ((List Int) × Int)) × (List (List Int)))) _ (.agg [.int .i64 x0.1, .slice a1 x0.2.1.length cq1, .slice a2 x0.2.2.1.length cq2, .slice a3 x0.2.2.2.1.length cq3, .slice a4 x0.2.2.2.2.length cq4].toArray) (x0.1, x0.2.1, x0.2.2.1, x0.2.2.2.1, x0.2.2.2.2) from ⟨_, rfl, ⟨[.int .i64 x0.1], [.slice a1 x0.2.1.length cq1] ++ ([.slice a2 x0.2.2.1.length cq2] ++ ([.slice a3 x0.2.2.2.1.length cq3] ++ [.slice a4 x0.2.2.2.2.length cq4])), rfl, rfl, ⟨[.slice a1 x0.2.1.length cq1], [.slice a2 x0.2.2.1.length cq2] ++ ([.slice a3 x0.2.2.2.1.length cq3] ++ [.slice a4 x0.2.2.2.2.length cq4]), rfl, r29.rep1, ⟨[.slice a2 x0.2.2.1.length cq2], [.slice a3 x0.2.2.2.1.length cq3] ++ [.slice a4 x0.2.2.2.2.length cq4], rfl, r30.rep1, ⟨[.slice a3 x0.2.2.2.1.length cq3], [.slice a4 x0.2.2.2.2.length cq4], rfl, r31.rep1, r32.rep1⟩⟩⟩⟩⟩) r33 r34 Ex8) ?_
    rintro _ w6 ⟨rfl, hx6⟩
    have k5 := k4.tr hx6
    have hb5 := hb4.ext hx6
    have r36 := r29.ext hx6
    have r37 := r30.ext hx6
    have r38 := r31.ext hx6
    have r39 := r32.ext hx6
    have r40 := r33.ext hx6
    have r41 := r35.ext hx6
    have r42 := r34.ext hx6
    refine nl ⟨fun _ _ => hx6, ?_⟩
    have hz := bs hF; obtain ⟨x9, Ex9, hF⟩ := hz
    refine pe1 rfl <| cl rfl rfl (xc cb18 (mc rfl (mc rfl (mc rfl (mc rfl mn))))) (c18 (show RV (α := (Int × (List Int) × (List ((List Int) × Int)) × (List ((List Int) × Int)) × (List (List Int)))) _ (.agg [.int .i64 x0.1, .slice a1 x0.2.1.length cq1, .slice a2 x0.2.2.1.length cq2, .slice a3 x0.2.2.2.1.length cq3, .slice a4 x0.2.2.2.2.length cq4].toArray) (x0.1, x0.2.1, x0.2.2.1, x0.2.2.2.1, x0.2.2.2.2) from ⟨_, rfl, ⟨[.int .i64 x0.1], [.slice a1 x0.2.1.length cq1] ++ ([.slice a2 x0.2.2.1.length cq2] ++ ([.slice a3 x0.2.2.2.1.length cq3] ++ [.slice a4 x0.2.2.2.2.length cq4])), rfl, rfl, ⟨[.slice a1 x0.2.1.length cq1], [.slice a2 x0.2.2.1.length cq2] ++ ([.slice a3 x0.2.2.2.1.length cq3] ++ [.slice a4 x0.2.2.2.2.length cq4]), rfl, r36.rep1, ⟨[.slice a2 x0.2.2.1.length cq2], [.slice a3 x0.2.2.2.1.length cq3] ++ [.slice a4 x0.2.2.2.2.length cq4], rfl, r37.rep1, ⟨[.slice a3 x0.2.2.2.1.length cq3], [.slice a4 x0.2.2.2.2.length cq4], rfl, r38.rep1, r39.rep1⟩⟩⟩⟩⟩) r40 r42 Ex9) ?_
    rintro _ w7 ⟨rfl, hx7⟩
    have k6 := k5.tr hx7
    have k7 := hx6.tr hx7
    have hb6 := hb5.ext hx7
    have r43 := r36.ext hx7
    have r44 := r37.ext hx7
    have r45 := r38.ext hx7
    have r46 := r39.ext hx7
    have r47 := r40.ext hx7
    have r48 := r41.ext hx7
    refine nl ⟨fun _ _ => k7, ?_⟩
    refine pv rfl rfl rfl (fun _ _ => xneq rfl rfl) (.inl rfl) <| pv rfl rfl rfl (fun _ _ => xmv) (.inl rfl) <| pgv rfl rfl rfl rfl rfl (gw0 rfl) rfl (fun hc => (fun _ _ => xmva rfl)) (.inl rfl) <| pgv rfl rfl rfl rfl rfl (gw0 rfl) rfl (fun hc => (fun _ hS => xlda rfl ti26 rfl (Bx.cs (hb4.ext (hS.resolve_left nofun))))) (.inr k7) <| pgv rfl rfl rfl rfl rfl (gw0 rfl) rfl (fun hc => (fun _ _ => xmva rfl)) (.inl rfl) <| ?_
    have hz := bs hF; obtain ⟨x10, Ex10, hF⟩ := hz
    refine pe1 rfl <| gc rfl rfl rfl rfl (gw0 rfl) rfl (fun hc => xc cb19 (mc (mv hc rfl) (mc (mv hc rfl) mn))) (fun hc => (c19 (show RV (α := (Int × (List Int) × (List ((List Int) × Int)) × (List ((List Int) × Int)) × (List (List Int)))) _ (.agg [.int .i64 x0.1, .slice a1 x0.2.1.length cq1, .slice a2 x0.2.2.1.length cq2, .slice a3 x0.2.2.2.1.length cq3, .slice a4 x0.2.2.2.2.length cq4].toArray) (x0.1, x0.2.1, x0.2.2.1, x0.2.2.2.1, x0.2.2.2.2) from ⟨_, rfl, ⟨[.int .i64 x0.1], [.slice a1 x0.2.1.length cq1] ++ ([.slice a2 x0.2.2.1.length cq2] ++ ([.slice a3 x0.2.2.2.1.length cq3] ++ [.slice a4 x0.2.2.2.2.length cq4])), rfl, rfl, ⟨[.slice a1 x0.2.1.length cq1], [.slice a2 x0.2.2.1.length cq2] ++ ([.slice a3 x0.2.2.2.1.length cq3] ++ [.slice a4 x0.2.2.2.2.length cq4]), rfl, r43.rep1, ⟨[.slice a2 x0.2.2.1.length cq2], [.slice a3 x0.2.2.2.1.length cq3] ++ [.slice a4 x0.2.2.2.2.length cq4], rfl, r44.rep1, ⟨[.slice a3 x0.2.2.2.1.length cq3], [.slice a4 x0.2.2.2.2.length cq4], rfl, r45.rep1, r46.rep1⟩⟩⟩⟩⟩) r47 (gdp Ex10 hc))) (fun v5 w8 hy1 hn1 => ?_)
    have hx8 : Ext w7 w8 := gx (fun h => (hy1 h).2) (fun h => (hn1 h).2 ▸ Ext.refl _)
    have e5 := mkw (fun h => (hy1 h).1) (fun h => (hn1 h).1)
    have k8 := k6.tr hx8
    have k9 := k7.tr hx8
    have hb7 := hb6.ext hx8
    have r49 := r43.ext hx8
    have r50 := r44.ext hx8
    have r51 := r45.ext hx8
    have r52 := r46.ext hx8
    have r53 := r47.ext hx8
    have r54 := r48.ext hx8
    refine nl ⟨fun _ _ => k9, ?_⟩
    refine pgv rfl rfl rfl rfl rfl (gw0 rfl) rfl (fun hc => (fun _ _ => xneq (mv hc rfl) (mv hc e5))) (.inl rfl) <| pv rfl rfl rfl (fun _ _ => xpo rfl rfl rfl) (.inl rfl) <| cnd rfl (fun h6 => ?_) (fun h6 => ?_)
    ·
      have hF := ifp hF h6
      refine wp_seq <| rg <| vl rfl rfl xas <| nl <| ?_
      cases hF
      exact wp_ret <| rt rfl (.tmp rfl rfl .nil) ⟨rfl, k8⟩
    ·
      have hF := ifn hF h6
      refine wp_skip <| wp_seq <| wp_seq <| rg <| vl rfl rfl xmv <| vl rfl rfl (xneq rfl rfl) <| nl <| cnd rfl (fun h7 => ?_) (fun h7 => ?_)
      ·
        have hF := ifp hF h7
        refine wp_seq <| rg <| vl rfl rfl xmv <| vl rfl rfl (xeql rfl rfl) <| vl rfl rfl xmv <| gv rfl rfl rfl rfl (gw1 rfl) rfl (fun hc => xmva rfl) <| gv rfl rfl rfl rfl (gw1 rfl) rfl (fun hc => xlen (mv hc rfl) Try.underlying27) <| gv rfl rfl rfl rfl (gw1 rfl) rfl (fun hc => xeql (mv hc rfl) rfl) <| vl rfl rfl (xpa rfl rfl rfl) <| vl rfl rfl xmv <| ?_
        have hz := bs hF; obtain ⟨x11, Ex11, hF⟩ := hz
        refine gc rfl rfl rfl rfl (gw1 rfl) rfl (fun hc => xc cb15 mn) (fun hc => (c15 (gdp Ex11 hc))) (fun v6 w9 hy2 hn2 => ?_)
        have hx9 : Ext w8 w9 := gx (fun h => (hy2 h).2) (fun h => (hn2 h).2 ▸ Ext.refl _)
        have e6 := mkw (fun h => (hy2 h).1) (fun h => (hn2 h).1)
        have k10 := k8.tr hx9
        have k11 := k9.tr hx9
        refine vl rfl rfl (xpa rfl e6 rfl) <| vl rfl rfl xas <| nl <| ?_
        cases hF
        exact wp_ret <| rt rfl (.tmp rfl rfl .nil) ⟨rfl, k10⟩
      ·
        have hF := ifn hF h7
        refine wp_skip <| wp_seq <| rg <| vl rfl rfl xmv <| vl rfl rfl (xlda rfl ti26 rfl (Bx.cs hb7)) <| vl rfl rfl xmv <| ?_
        have hz := bs hF; obtain ⟨x12, Ex12, hF⟩ := hz
        refine cl rfl rfl (xc cb20 (mc rfl (mc rfl mn))) (c20 (show RV (α := (Int × (List Int) × (List ((List Int) × Int)) × (List ((List Int) × Int)) × (List (List Int)))) _ (.agg [.int .i64 x0.1, .slice a1 x0.2.1.length cq1, .slice a2 x0.2.2.1.length cq2, .slice a3 x0.2.2.2.1.length cq3, .slice a4 x0.2.2.2.2.length cq4].toArray) (x0.1, x0.2.1, x0.2.2.1, x0.2.2.2.1, x0.2.2.2.2) from ⟨_, rfl, ⟨[.int .i64 x0.1], [.slice a1 x0.2.1.length cq1] ++ ([.slice a2 x0.2.2.1.length cq2] ++ ([.slice a3 x0.2.2.2.1.length cq3] ++ [.slice a4 x0.2.2.2.2.length cq4])), rfl, rfl, ⟨[.slice a1 x0.2.1.length cq1], [.slice a2 x0.2.2.1.length cq2] ++ ([.slice a3 x0.2.2.2.1.length cq3] ++ [.slice a4 x0.2.2.2.2.length cq4]), rfl, r49.rep1, ⟨[.slice a2 x0.2.2.1.length cq2], [.slice a3 x0.2.2.2.1.length cq3] ++ [.slice a4 x0.2.2.2.2.length cq4], rfl, r50.rep1, ⟨[.slice a3 x0.2.2.2.1.length cq3], [.slice a4 x0.2.2.2.2.length cq4], rfl, r51.rep1, r52.rep1⟩⟩⟩⟩⟩) r53 Ex12) ?_
        rintro _ w10 ⟨rfl, hx10⟩
        have k12 := k8.tr hx10
        have k13 := k9.tr hx10
        have hb8 := hb7.ext hx10
        have r55 := r49.ext hx10
        have r56 := r50.ext hx10
        have r57 := r51.ext hx10
        have r58 := r52.ext hx10
        have r59 := r53.ext hx10
        have r60 := r54.ext hx10
        refine vl rfl rfl (xeql rfl rfl) <| vl rfl rfl xmv <| gv rfl rfl rfl rfl (gw1 rfl) rfl (fun hc => xmva rfl) <| gv rfl rfl rfl rfl (gw1 rfl) rfl (fun hc => xlen (mv hc rfl) Try.underlying27) <| gv rfl rfl rfl rfl (gw1 rfl) rfl (fun hc => xleq (mv hc rfl) rfl) <| vl rfl rfl (xpa rfl rfl rfl) <| vl rfl rfl xmv <| gv rfl rfl rfl rfl (gw1 rfl) rfl (fun hc => xlda rfl ti26 rfl (Bx.cs hb8)) <| gv rfl rfl rfl rfl (gw1 rfl) rfl (fun hc => xmva rfl) <| gv rfl rfl rfl rfl (gw1 rfl) rfl (fun hc => xmva rfl) <| gv rfl rfl rfl rfl (gw1 rfl) rfl (fun hc => xmva rfl) <| ?_
        have hz := bs hF; obtain ⟨x13, Ex13, hF⟩ := hz
        refine gc rfl rfl rfl rfl (gw1 rfl) rfl (fun hc => xc cb18 (mc (mv hc rfl) (mc (mv hc rfl) (mc (mv hc rfl) (mc (mv hc rfl) mn))))) (fun hc => (c18 (show RV (α := (Int × (List Int) × (List ((List Int) × Int)) × (List ((List Int) × Int)) × (List (List Int)))) _ (.agg [.int .i64 x0.1, .slice a1 x0.2.1.length cq1, .slice a2 x0.2.2.1.length cq2, .slice a3 x0.2.2.2.1.length cq3, .slice a4 x0.2.2.2.2.length cq4].toArray) (x0.1, x0.2.1, x0.2.2.1, x0.2.2.2.1, x0.2.2.2.2) from ⟨_, rfl, ⟨[.int .i64 x0.1], [.slice a1 x0.2.1.length cq1] ++ ([.slice a2 x0.2.2.1.length cq2] ++ ([.slice a3 x0.2.2.2.1.length cq3] ++ [.slice a4 x0.2.2.2.2.length cq4])), rfl, rfl, ⟨[.slice a1 x0.2.1.length cq1], [.slice a2 x0.2.2.1.length cq2] ++ ([.slice a3 x0.2.2.2.1.length cq3] ++ [.slice a4 x0.2.2.2.2.length cq4]), rfl, r55.rep1, ⟨[.slice a2 x0.2.2.1.length cq2], [.slice a3 x0.2.2.2.1.length cq3] ++ [.slice a4 x0.2.2.2.2.length cq4], rfl, r56.rep1, ⟨[.slice a3 x0.2.2.2.1.length cq3], [.slice a4 x0.2.2.2.2.length cq4], rfl, r57.rep1, r58.rep1⟩⟩⟩⟩⟩) r59 r60 (gdp Ex13 hc))) (fun v7 w11 hy3 hn3 => ?_)
        have hx11 : Ext w10 w11 := gx (fun h => (hy3 h).2) (fun h => (hn3 h).2 ▸ Ext.refl _)
        have e7 := mkw (fun h => (hy3 h).1) (fun h => (hn3 h).1)
        have k14 := k12.tr hx11
        have k15 := k13.tr hx11
        refine gv rfl rfl rfl rfl (gw1 rfl) rfl (fun hc => xeql (mv hc e7) rfl) <| vl rfl rfl (xpa rfl rfl rfl) <| vl rfl rfl xmv <| ?_
        have hz := bs hF; obtain ⟨x14, Ex14, hF⟩ := hz
        refine gc rfl rfl rfl rfl (gw1 rfl) rfl (fun hc => xc cb15 mn) (fun hc => (c15 (gdp Ex14 hc))) (fun v8 w12 hy4 hn4 => ?_)
        have hx12 : Ext w11 w12 := gx (fun h => (hy4 h).2) (fun h => (hn4 h).2 ▸ Ext.refl _)
        have e8 := mkw (fun h => (hy4 h).1) (fun h => (hn4 h).1)
        have k16 := k14.tr hx12
        have k17 := k15.tr hx12
        refine vl rfl rfl (xpa rfl e8 rfl) <| vl rfl rfl xas <| nl <| ?_
        cases hF
        exact wp_ret <| rt rfl (.tmp rfl rfl .nil) ⟨rfl, k16⟩

set_option maxHeartbeats 4000000 in
theorem c4 {w0 : World} {v0 : Value} {x0 : (Int × (List Int) × (List ((List Int) × Int)) × (List ((List Int) × Int)) × (List (List Int)))} (r0 : RV w0 v0 x0) {F : Nat} {r : Bool} (hF : law10_RightDecides F x0 = some r) :
    Calls Try.prog 4 [v0].toArray w0 (Ret fun v w' => v = .bool r ∧ Ext w0 w') := by
  unfold law10_RightDecides at hF
  have hz := id r0; obtain ⟨_, rfl, ⟨_, _, rfl, rfl, ⟨_, _, rfl, ⟨a1, cq1, rfl, p1, q2, e1⟩, ⟨_, _, rfl, ⟨a2, cq2, rfl, p2, q3, e2⟩, ⟨_, _, rfl, ⟨a3, cq3, rfl, p3, q4, e3⟩, ⟨a4, cq4, rfl, p4, q5, e4⟩⟩⟩⟩⟩⟩ := hz
  have r2 := RV.of1 p1 q2 e1
  have r3 := RV.of1 p2 q3 e2
  have r4 := RV.of1 p3 q4 e3
  have r5 := RV.of1 p4 q5 e4
  refine entr (n := 31) Try.func4 rfl rfl rfl <| wp_seq <| rg <| sbx rfl rfl fun b2 w1 hx1 hg1 hb1 => ?_
  have r6 := r2.ext hx1
  have r7 := r3.ext hx1
  have r8 := r4.ext hx1
  have r9 := r5.ext hx1
  have r10 := r0.ext hx1
  refine vl rfl rfl xas <| nl <| wp_seq <| wp_seq <| rg <| vl rfl rfl (xlda rfl ti26 rfl (Bx.cs hb1)) <| ?_
  have hz := bs hF; obtain ⟨x2, Ex2, hF⟩ := hz
  refine cl rfl rfl (xc cb14 (mc rfl mn)) (c14 (show RV (α := (Int × (List Int) × (List ((List Int) × Int)) × (List ((List Int) × Int)) × (List (List Int)))) _ (.agg [.int .i64 x0.1, .slice a1 x0.2.1.length cq1, .slice a2 x0.2.2.1.length cq2, .slice a3 x0.2.2.2.1.length cq3, .slice a4 x0.2.2.2.2.length cq4].toArray) (x0.1, x0.2.1, x0.2.2.1, x0.2.2.2.1, x0.2.2.2.2) from ⟨_, rfl, ⟨[.int .i64 x0.1], [.slice a1 x0.2.1.length cq1] ++ ([.slice a2 x0.2.2.1.length cq2] ++ ([.slice a3 x0.2.2.2.1.length cq3] ++ [.slice a4 x0.2.2.2.2.length cq4])), rfl, rfl, ⟨[.slice a1 x0.2.1.length cq1], [.slice a2 x0.2.2.1.length cq2] ++ ([.slice a3 x0.2.2.2.1.length cq3] ++ [.slice a4 x0.2.2.2.2.length cq4]), rfl, r6.rep1, ⟨[.slice a2 x0.2.2.1.length cq2], [.slice a3 x0.2.2.2.1.length cq3] ++ [.slice a4 x0.2.2.2.2.length cq4], rfl, r7.rep1, ⟨[.slice a3 x0.2.2.2.1.length cq3], [.slice a4 x0.2.2.2.2.length cq4], rfl, r8.rep1, r9.rep1⟩⟩⟩⟩⟩) Ex2) ?_
  rintro _ w2 ⟨rfl, hx2⟩
  have k1 := hx1.tr hx2
  have hb2 := hb1.ext hx2
  have r11 := r6.ext hx2
  have r12 := r7.ext hx2
  have r13 := r8.ext hx2
  have r14 := r9.ext hx2
  refine nl <| cnd rfl (fun h2 => ?_) (fun h2 => ?_)
  ·
    have hF := ifp hF h2
    refine wp_seq <| rg <| ?_
    have hz := bs hF; obtain ⟨x3, Ex3, hF⟩ := hz
    refine cl rfl rfl (xc cb15 mn) (c15 Ex3) ?_
    rintro _ w3 ⟨rfl, hx3⟩
    have k2 := k1.tr hx3
    refine vl rfl rfl xas <| nl <| ?_
    cases hF
    exact wp_ret <| rt rfl (.tmp rfl rfl .nil) ⟨rfl, k2⟩
  ·
    have hF := ifn hF h2
    refine wp_skip <| wp_seq <| rg <| vl rfl rfl (xlda rfl ti26 rfl (Bx.cs hb2)) <| ?_
    have hz := bs hF; obtain ⟨x4, Ex4, hF⟩ := hz
    refine cl rfl rfl (xc cb21 (mc rfl mn)) (c21 (show RV (α := (Int × (List Int) × (List ((List Int) × Int)) × (List ((List Int) × Int)) × (List (List Int)))) _ (.agg [.int .i64 x0.1, .slice a1 x0.2.1.length cq1, .slice a2 x0.2.2.1.length cq2, .slice a3 x0.2.2.2.1.length cq3, .slice a4 x0.2.2.2.2.length cq4].toArray) (x0.1, x0.2.1, x0.2.2.1, x0.2.2.2.1, x0.2.2.2.2) from ⟨_, rfl, ⟨[.int .i64 x0.1], [.slice a1 x0.2.1.length cq1] ++ ([.slice a2 x0.2.2.1.length cq2] ++ ([.slice a3 x0.2.2.2.1.length cq3] ++ [.slice a4 x0.2.2.2.2.length cq4])), rfl, rfl, ⟨[.slice a1 x0.2.1.length cq1], [.slice a2 x0.2.2.1.length cq2] ++ ([.slice a3 x0.2.2.2.1.length cq3] ++ [.slice a4 x0.2.2.2.2.length cq4]), rfl, r11.rep1, ⟨[.slice a2 x0.2.2.1.length cq2], [.slice a3 x0.2.2.2.1.length cq3] ++ [.slice a4 x0.2.2.2.2.length cq4], rfl, r12.rep1, ⟨[.slice a3 x0.2.2.2.1.length cq3], [.slice a4 x0.2.2.2.2.length cq4], rfl, r13.rep1, r14.rep1⟩⟩⟩⟩⟩) Ex4) ?_
    rintro _ w4 ⟨u1, rfl, r15, hx4⟩
    have k3 := k1.tr hx4
    have hb3 := hb2.ext hx4
    have r16 := r11.ext hx4
    have r17 := r12.ext hx4
    have r18 := r13.ext hx4
    have r19 := r14.ext hx4
    have hz := RV.sl r15; obtain ⟨a5, cq5, rfl, -, -, -⟩ := hz
    refine vl rfl rfl xmv <| vl rfl rfl (xext rfl rfl) <| vl rfl rfl (xext rfl rfl) <| vl rfl rfl xas <| vl rfl rfl xas <| nl <| wp_seq <| rg <| vl rfl rfl (xlda rfl ti26 rfl (Bx.cs hb3)) <| ?_
    have hz := bs hF; obtain ⟨x5, Ex5, hF⟩ := hz
    refine cl rfl rfl (xc cb22 (mc rfl mn)) (c22 (show RV (α := (Int × (List Int) × (List ((List Int) × Int)) × (List ((List Int) × Int)) × (List (List Int)))) _ (.agg [.int .i64 x0.1, .slice a1 x0.2.1.length cq1, .slice a2 x0.2.2.1.length cq2, .slice a3 x0.2.2.2.1.length cq3, .slice a4 x0.2.2.2.2.length cq4].toArray) (x0.1, x0.2.1, x0.2.2.1, x0.2.2.2.1, x0.2.2.2.2) from ⟨_, rfl, ⟨[.int .i64 x0.1], [.slice a1 x0.2.1.length cq1] ++ ([.slice a2 x0.2.2.1.length cq2] ++ ([.slice a3 x0.2.2.2.1.length cq3] ++ [.slice a4 x0.2.2.2.2.length cq4])), rfl, rfl, ⟨[.slice a1 x0.2.1.length cq1], [.slice a2 x0.2.2.1.length cq2] ++ ([.slice a3 x0.2.2.2.1.length cq3] ++ [.slice a4 x0.2.2.2.2.length cq4]), rfl, r16.rep1, ⟨[.slice a2 x0.2.2.1.length cq2], [.slice a3 x0.2.2.2.1.length cq3] ++ [.slice a4 x0.2.2.2.2.length cq4], rfl, r17.rep1, ⟨[.slice a3 x0.2.2.2.1.length cq3], [.slice a4 x0.2.2.2.2.length cq4], rfl, r18.rep1, r19.rep1⟩⟩⟩⟩⟩) Ex5) ?_
    rintro _ w5 ⟨u2, rfl, r20, hx5⟩
    have k4 := k3.tr hx5
    have r21 := r15.ext hx5
    have hz := RV.sl r20; obtain ⟨a6, cq6, rfl, -, -, -⟩ := hz
    refine vl rfl rfl xmv <| vl rfl rfl (xext rfl rfl) <| vl rfl rfl (xext rfl rfl) <| vl rfl rfl xas <| vl rfl rfl xas <| nl <| wp_seq <| rg <| vl rfl rfl xmv <| vl rfl rfl xmv <| ?_
    have hz := bs hF; obtain ⟨x6, Ex6, hF⟩ := hz
    refine cl rfl rfl (xc cb23 (mc rfl (mc rfl mn))) (c23 r21 r20 Ex6) ?_
    rintro _ w6 ⟨rfl, hx6⟩
    have k5 := k4.tr hx6
    refine vl rfl rfl xmv <| gv rfl rfl rfl rfl (gw1 rfl) rfl (fun hc => xmva rfl) <| gv rfl rfl rfl rfl (gw1 rfl) rfl (fun hc => xmva rfl) <| gv rfl rfl rfl rfl (gw1 rfl) rfl (fun hc => xeql (mv hc rfl) (mv hc rfl)) <| vl rfl rfl (xpa rfl rfl rfl) <| vl rfl rfl xmv <| ?_
    have hz := bs hF; obtain ⟨x7, Ex7, hF⟩ := hz
    refine gc rfl rfl rfl rfl (gw1 rfl) rfl (fun hc => xc cb15 mn) (fun hc => (c15 (gdp Ex7 hc))) (fun v2 w7 hy1 hn1 => ?_)
    have hx7 : Ext w6 w7 := gx (fun h => (hy1 h).2) (fun h => (hn1 h).2 ▸ Ext.refl _)
    have e5 := mkw (fun h => (hy1 h).1) (fun h => (hn1 h).1)
    have k6 := k5.tr hx7
    refine vl rfl rfl (xpa rfl e5 rfl) <| vl rfl rfl xas <| nl <| ?_
    cases hF
    exact wp_ret <| rt rfl (.tmp rfl rfl .nil) ⟨rfl, k6⟩

set_option maxHeartbeats 4000000 in
theorem c5 {w0 : World} {v0 : Value} {x0 : (Int × (List Int) × (List ((List Int) × Int)) × (List ((List Int) × Int)) × (List (List Int)))} (r0 : RV w0 v0 x0) {F : Nat} {r : Bool} (hF : law10_RightFewest F x0 = some r) :
    Calls Try.prog 5 [v0].toArray w0 (Ret fun v w' => v = .bool r ∧ Ext w0 w') := by
  unfold law10_RightFewest at hF
  have hz := id r0; obtain ⟨_, rfl, ⟨_, _, rfl, rfl, ⟨_, _, rfl, ⟨a1, cq1, rfl, p1, q2, e1⟩, ⟨_, _, rfl, ⟨a2, cq2, rfl, p2, q3, e2⟩, ⟨_, _, rfl, ⟨a3, cq3, rfl, p3, q4, e3⟩, ⟨a4, cq4, rfl, p4, q5, e4⟩⟩⟩⟩⟩⟩ := hz
  have r2 := RV.of1 p1 q2 e1
  have r3 := RV.of1 p2 q3 e2
  have r4 := RV.of1 p3 q4 e3
  have r5 := RV.of1 p4 q5 e4
  refine entr (n := 43) Try.func5 rfl rfl rfl <| wp_seq <| rg <| sbx rfl rfl fun b2 w1 hx1 hg1 hb1 => ?_
  have r6 := r2.ext hx1
  have r7 := r3.ext hx1
  have r8 := r4.ext hx1
  have r9 := r5.ext hx1
  have r10 := r0.ext hx1
  refine vl rfl rfl xas <| nl <| wp_seq <| wp_seq <| rg <| vl rfl rfl (xlda rfl ti26 rfl (Bx.cs hb1)) <| ?_
  have hz := bs hF; obtain ⟨x2, Ex2, hF⟩ := hz
  refine cl rfl rfl (xc cb14 (mc rfl mn)) (c14 (show RV (α := (Int × (List Int) × (List ((List Int) × Int)) × (List ((List Int) × Int)) × (List (List Int)))) _ (.agg [.int .i64 x0.1, .slice a1 x0.2.1.length cq1, .slice a2 x0.2.2.1.length cq2, .slice a3 x0.2.2.2.1.length cq3, .slice a4 x0.2.2.2.2.length cq4].toArray) (x0.1, x0.2.1, x0.2.2.1, x0.2.2.2.1, x0.2.2.2.2) from ⟨_, rfl, ⟨[.int .i64 x0.1], [.slice a1 x0.2.1.length cq1] ++ ([.slice a2 x0.2.2.1.length cq2] ++ ([.slice a3 x0.2.2.2.1.length cq3] ++ [.slice a4 x0.2.2.2.2.length cq4])), rfl, rfl, ⟨[.slice a1 x0.2.1.length cq1], [.slice a2 x0.2.2.1.length cq2] ++ ([.slice a3 x0.2.2.2.1.length cq3] ++ [.slice a4 x0.2.2.2.2.length cq4]), rfl, r6.rep1, ⟨[.slice a2 x0.2.2.1.length cq2], [.slice a3 x0.2.2.2.1.length cq3] ++ [.slice a4 x0.2.2.2.2.length cq4], rfl, r7.rep1, ⟨[.slice a3 x0.2.2.2.1.length cq3], [.slice a4 x0.2.2.2.2.length cq4], rfl, r8.rep1, r9.rep1⟩⟩⟩⟩⟩) Ex2) ?_
  rintro _ w2 ⟨rfl, hx2⟩
  have k1 := hx1.tr hx2
  have hb2 := hb1.ext hx2
  have r11 := r6.ext hx2
  have r12 := r7.ext hx2
  have r13 := r8.ext hx2
  have r14 := r9.ext hx2
  refine vl rfl rfl xmv <| gv rfl rfl rfl rfl (gw0 rfl) rfl (fun hc => xfa rfl fa26_3) <| gv rfl rfl rfl rfl (gw0 rfl) rfl (fun hc => xld (mv hc rfl) ti23 ((Bx.cs hb2).at 3 rfl)) <| gv rfl rfl rfl rfl (gw0 rfl) rfl (fun hc => xlen (mv hc rfl) Try.underlying23) <| gv rfl rfl rfl rfl (gw0 rfl) rfl (fun hc => xgtr (mv hc rfl) rfl) <| gv rfl rfl rfl rfl (gw0 rfl) rfl (fun hc => xmva (mv hc rfl)) <| gv rfl rfl rfl rfl (gn1 rfl) rfl (fun hc => xfa rfl fa26_3) <| gv rfl rfl rfl rfl (gn1 rfl) rfl (fun hc => xld (mv hc rfl) ti23 ((Bx.cs hb2).at 3 rfl)) <| gv rfl rfl rfl rfl (gn1 rfl) rfl (fun hc => xlen (mv hc rfl) Try.underlying23) <| gv rfl rfl rfl rfl (gn1 rfl) rfl (fun hc => xleq (mv hc rfl) rfl) <| gv rfl rfl rfl rfl (gw0 rfl) rfl (fun hc => xpa (mv hc rfl) (mvn hc rfl) rfl) <| vl rfl rfl (xpo rfl rfl rfl) <| nl <| cnd rfl (fun h2 => ?_) (fun h2 => ?_)
  ·
    have hF := ifp hF h2
    refine wp_seq <| rg <| ?_
    have hz := bs hF; obtain ⟨x3, Ex3, hF⟩ := hz
    refine cl rfl rfl (xc cb15 mn) (c15 Ex3) ?_
    rintro _ w3 ⟨rfl, hx3⟩
    have k2 := k1.tr hx3
    refine vl rfl rfl xas <| nl <| ?_
    cases hF
    exact wp_ret <| rt rfl (.tmp rfl rfl .nil) ⟨rfl, k2⟩
  ·
    have hF := ifn hF h2
    refine wp_skip <| wp_seq <| rg <| vl rfl rfl (xlda rfl ti26 rfl (Bx.cs hb2)) <| ?_
    have hz := bs hF; obtain ⟨x4, Ex4, hF⟩ := hz
    refine cl rfl rfl (xc cb24 (mc rfl mn)) (c24 (show RV (α := (Int × (List Int) × (List ((List Int) × Int)) × (List ((List Int) × Int)) × (List (List Int)))) _ (.agg [.int .i64 x0.1, .slice a1 x0.2.1.length cq1, .slice a2 x0.2.2.1.length cq2, .slice a3 x0.2.2.2.1.length cq3, .slice a4 x0.2.2.2.2.length cq4].toArray) (x0.1, x0.2.1, x0.2.2.1, x0.2.2.2.1, x0.2.2.2.2) from ⟨_, rfl, ⟨[.int .i64 x0.1], [.slice a1 x0.2.1.length cq1] ++ ([.slice a2 x0.2.2.1.length cq2] ++ ([.slice a3 x0.2.2.2.1.length cq3] ++ [.slice a4 x0.2.2.2.2.length cq4])), rfl, rfl, ⟨[.slice a1 x0.2.1.length cq1], [.slice a2 x0.2.2.1.length cq2] ++ ([.slice a3 x0.2.2.2.1.length cq3] ++ [.slice a4 x0.2.2.2.2.length cq4]), rfl, r11.rep1, ⟨[.slice a2 x0.2.2.1.length cq2], [.slice a3 x0.2.2.2.1.length cq3] ++ [.slice a4 x0.2.2.2.2.length cq4], rfl, r12.rep1, ⟨[.slice a3 x0.2.2.2.1.length cq3], [.slice a4 x0.2.2.2.2.length cq4], rfl, r13.rep1, r14.rep1⟩⟩⟩⟩⟩) Ex4) ?_
    rintro _ w4 ⟨u1, rfl, r15, hx4⟩
    have k3 := k1.tr hx4
    have hb3 := hb2.ext hx4
    have r16 := r11.ext hx4
    have r17 := r12.ext hx4
    have r18 := r13.ext hx4
    have r19 := r14.ext hx4
    have hz := RV.sl r15; obtain ⟨a5, cq5, rfl, -, -, -⟩ := hz
    refine vl rfl rfl xmv <| vl rfl rfl (xext rfl rfl) <| vl rfl rfl (xext rfl rfl) <| vl rfl rfl xas <| vl rfl rfl xas <| nl <| wp_seq <| rg <| vl rfl rfl (xlda rfl ti26 rfl (Bx.cs hb3)) <| ?_
    have hz := bs hF; obtain ⟨x5, Ex5, hF⟩ := hz
    refine cl rfl rfl (xc cb25 (mc rfl mn)) (c25 (show RV (α := (Int × (List Int) × (List ((List Int) × Int)) × (List ((List Int) × Int)) × (List (List Int)))) _ (.agg [.int .i64 x0.1, .slice a1 x0.2.1.length cq1, .slice a2 x0.2.2.1.length cq2, .slice a3 x0.2.2.2.1.length cq3, .slice a4 x0.2.2.2.2.length cq4].toArray) (x0.1, x0.2.1, x0.2.2.1, x0.2.2.2.1, x0.2.2.2.2) from ⟨_, rfl, ⟨[.int .i64 x0.1], [.slice a1 x0.2.1.length cq1] ++ ([.slice a2 x0.2.2.1.length cq2] ++ ([.slice a3 x0.2.2.2.1.length cq3] ++ [.slice a4 x0.2.2.2.2.length cq4])), rfl, rfl, ⟨[.slice a1 x0.2.1.length cq1], [.slice a2 x0.2.2.1.length cq2] ++ ([.slice a3 x0.2.2.2.1.length cq3] ++ [.slice a4 x0.2.2.2.2.length cq4]), rfl, r16.rep1, ⟨[.slice a2 x0.2.2.1.length cq2], [.slice a3 x0.2.2.2.1.length cq3] ++ [.slice a4 x0.2.2.2.2.length cq4], rfl, r17.rep1, ⟨[.slice a3 x0.2.2.2.1.length cq3], [.slice a4 x0.2.2.2.2.length cq4], rfl, r18.rep1, r19.rep1⟩⟩⟩⟩⟩) Ex5) ?_
    rintro _ w5 ⟨u2, rfl, r20, hx5⟩
    have k4 := k3.tr hx5
    have r21 := r15.ext hx5
    have hz := RV.sl r20; obtain ⟨a6, cq6, rfl, -, -, -⟩ := hz
    refine vl rfl rfl xmv <| vl rfl rfl (xext rfl rfl) <| vl rfl rfl (xext rfl rfl) <| vl rfl rfl xas <| vl rfl rfl xas <| nl <| wp_seq <| rg <| vl rfl rfl xmv <| vl rfl rfl xmv <| ?_
    have hz := bs hF; obtain ⟨x6, Ex6, hF⟩ := hz
    refine cl rfl rfl (xc cb23 (mc rfl (mc rfl mn))) (c23 r21 r20 Ex6) ?_
    rintro _ w6 ⟨rfl, hx6⟩
    have k5 := k4.tr hx6
    refine vl rfl rfl xmv <| gv rfl rfl rfl rfl (gw1 rfl) rfl (fun hc => xmva rfl) <| gv rfl rfl rfl rfl (gw1 rfl) rfl (fun hc => xmva rfl) <| gv rfl rfl rfl rfl (gw1 rfl) rfl (fun hc => xeql (mv hc rfl) (mv hc rfl)) <| vl rfl rfl (xpa rfl rfl rfl) <| vl rfl rfl xmv <| ?_
    have hz := bs hF; obtain ⟨x7, Ex7, hF⟩ := hz
    refine gc rfl rfl rfl rfl (gw1 rfl) rfl (fun hc => xc cb15 mn) (fun hc => (c15 (gdp Ex7 hc))) (fun v2 w7 hy1 hn1 => ?_)
    have hx7 : Ext w6 w7 := gx (fun h => (hy1 h).2) (fun h => (hn1 h).2 ▸ Ext.refl _)
    have e5 := mkw (fun h => (hy1 h).1) (fun h => (hn1 h).1)
    have k6 := k5.tr hx7
    refine vl rfl rfl (xpa rfl e5 rfl) <| vl rfl rfl xas <| nl <| ?_
    cases hF
    exact wp_ret <| rt rfl (.tmp rfl rfl .nil) ⟨rfl, k6⟩

set_option maxHeartbeats 4000000 in
theorem c6 {w0 : World} {v0 : Value} {x0 : (Int × (List Int) × (List ((List Int) × Int)) × (List ((List Int) × Int)) × (List (List Int)))} (r0 : RV w0 v0 x0) {v1 : Value} {x1 : (List (List Int))} (r1 : RV w0 v1 x1) {F : Nat} {r : Bool} (hF : law10_RightConflicts F x0 x1 = some r) :
    Calls Try.prog 6 [v0, v1].toArray w0 (Ret fun v w' => v = .bool r ∧ Ext w0 w') := by
  unfold law10_RightConflicts at hF
  have hz := id r0; obtain ⟨_, rfl, ⟨_, _, rfl, rfl, ⟨_, _, rfl, ⟨a1, cq1, rfl, p1, q3, e1⟩, ⟨_, _, rfl, ⟨a2, cq2, rfl, p2, q4, e2⟩, ⟨_, _, rfl, ⟨a3, cq3, rfl, p3, q5, e3⟩, ⟨a4, cq4, rfl, p4, q6, e4⟩⟩⟩⟩⟩⟩ := hz
  have r3 := RV.of1 p1 q3 e1
  have r4 := RV.of1 p2 q4 e2
  have r5 := RV.of1 p3 q5 e3
  have r6 := RV.of1 p4 q6 e4
  have hz := r1.sl; obtain ⟨a5, cq5, rfl, -, -, -⟩ := hz
  refine entr (n := 132) Try.func6 rfl rfl rfl <| wp_seq <| rg <| sbx rfl rfl fun b3 w1 hx1 hg1 hb1 => ?_
  have r7 := r1.ext hx1
  have r8 := r3.ext hx1
  have r9 := r4.ext hx1
  have r10 := r5.ext hx1
  have r11 := r6.ext hx1
  have r12 := r0.ext hx1
  refine vl rfl rfl xas <| nl <| wp_seq <| wp_seq <| rg <| vl rfl rfl (xlda rfl ti26 rfl (Bx.cs hb1)) <| ?_
  have hz := bs hF; obtain ⟨x3, Ex3, hF⟩ := hz
  refine cl rfl rfl (xc cb14 (mc rfl mn)) (c14 (show RV (α := (Int × (List Int) × (List ((List Int) × Int)) × (List ((List Int) × Int)) × (List (List Int)))) _ (.agg [.int .i64 x0.1, .slice a1 x0.2.1.length cq1, .slice a2 x0.2.2.1.length cq2, .slice a3 x0.2.2.2.1.length cq3, .slice a4 x0.2.2.2.2.length cq4].toArray) (x0.1, x0.2.1, x0.2.2.1, x0.2.2.2.1, x0.2.2.2.2) from ⟨_, rfl, ⟨[.int .i64 x0.1], [.slice a1 x0.2.1.length cq1] ++ ([.slice a2 x0.2.2.1.length cq2] ++ ([.slice a3 x0.2.2.2.1.length cq3] ++ [.slice a4 x0.2.2.2.2.length cq4])), rfl, rfl, ⟨[.slice a1 x0.2.1.length cq1], [.slice a2 x0.2.2.1.length cq2] ++ ([.slice a3 x0.2.2.2.1.length cq3] ++ [.slice a4 x0.2.2.2.2.length cq4]), rfl, r8.rep1, ⟨[.slice a2 x0.2.2.1.length cq2], [.slice a3 x0.2.2.2.1.length cq3] ++ [.slice a4 x0.2.2.2.2.length cq4], rfl, r9.rep1, ⟨[.slice a3 x0.2.2.2.1.length cq3], [.slice a4 x0.2.2.2.2.length cq4], rfl, r10.rep1, r11.rep1⟩⟩⟩⟩⟩) Ex3) ?_
  rintro _ w2 ⟨rfl, hx2⟩
  have k1 := hx1.tr hx2
  have hb2 := hb1.ext hx2
  have r13 := r8.ext hx2
  have r14 := r9.ext hx2
  have r15 := r10.ext hx2
  have r16 := r11.ext hx2
  have r17 := r7.ext hx2
  refine vl rfl rfl xmv <| gv rfl rfl rfl rfl (gw0 rfl) rfl (fun hc => xfa rfl fa26_3) <| gv rfl rfl rfl rfl (gw0 rfl) rfl (fun hc => xld (mv hc rfl) ti23 ((Bx.cs hb2).at 3 rfl)) <| gv rfl rfl rfl rfl (gw0 rfl) rfl (fun hc => xlen (mv hc rfl) Try.underlying23) <| gv rfl rfl rfl rfl (gw0 rfl) rfl (fun hc => xgtr (mv hc rfl) rfl) <| gv rfl rfl rfl rfl (gw0 rfl) rfl (fun hc => xmva (mv hc rfl)) <| gv rfl rfl rfl rfl (gn1 rfl) rfl (fun hc => xfa rfl fa26_3) <| gv rfl rfl rfl rfl (gn1 rfl) rfl (fun hc => xld (mv hc rfl) ti23 ((Bx.cs hb2).at 3 rfl)) <| gv rfl rfl rfl rfl (gn1 rfl) rfl (fun hc => xlen (mv hc rfl) Try.underlying23) <| gv rfl rfl rfl rfl (gn1 rfl) rfl (fun hc => xleq (mv hc rfl) rfl) <| gv rfl rfl rfl rfl (gw0 rfl) rfl (fun hc => xpa (mv hc rfl) (mvn hc rfl) rfl) <| vl rfl rfl (xpo rfl rfl rfl) <| vl rfl rfl xmv <| gv rfl rfl rfl rfl (gw0 rfl) rfl (fun hc => xmva rfl) <| gv rfl rfl rfl rfl (gw0 rfl) rfl (fun hc => xlen (mv hc rfl) Try.underlying24) <| gv rfl rfl rfl rfl (gw0 rfl) rfl (fun hc => xgtr (mv hc rfl) rfl) <| vl rfl rfl (xpo rfl rfl rfl) <| nl <| cnd rfl (fun h3 => ?_) (fun h3 => ?_)
  ·
    have hF := ifp hF h3
    refine wp_seq <| rg <| ?_
    have hz := bs hF; obtain ⟨x4, Ex4, hF⟩ := hz
    refine cl rfl rfl (xc cb15 mn) (c15 Ex4) ?_
    rintro _ w3 ⟨rfl, hx3⟩
    have k2 := k1.tr hx3
    refine vl rfl rfl xas <| nl <| ?_
    cases hF
    exact wp_ret <| rt rfl (.tmp rfl rfl .nil) ⟨rfl, k2⟩
  ·
    have hF := ifn hF h3
    refine wp_skip <| wp_seq <| wp_seq <| rg <| vl rfl rfl xas <| nl <| ?_
    have hz := bs hF; obtain ⟨o1, hB1, hF⟩ := hz
    refine ct (fun L w => o1 = .inr () ∧ L 1 = .slice a5 x1.length cq5 ∧ L 2 = .pointer (some ⟨b3, 0, none⟩) ∧ Ext w2 w) ?_ ?_
    ·
      refine wp_block <| lp (I := fun m L w => ∃ y1 : Int, law10_RightConflicts_l1 F x1 m y1  = some o1 ∧ L 5 = .int .i64 y1 ∧ L 1 = .slice a5 x1.length cq5 ∧ L 2 = .pointer (some ⟨b3, 0, none⟩) ∧ Ext w2 w) F ⟨_, hB1, rfl, rfl, rfl, (Ext.refl _)⟩ ?_
      rintro m L w4 ⟨y1, hB1, l5_i1, l1_i1, l2_i1, K0_i1⟩
      rcases m with _ | m
      · rw [law10_RightConflicts_l1] at hB1; cases hB1
      rw [law10_RightConflicts_l1] at hB1
      have k3 := k1.tr K0_i1
      have r18 := r17.ext K0_i1
      have r19 := r13.ext K0_i1
      have r20 := r14.ext K0_i1
      have r21 := r15.ext K0_i1
      have r22 := r16.ext K0_i1
      have hb3 := hb2.ext K0_i1
      refine wp_seq <| wp_seq <| rg <| vl rfl rfl xmv <| vl rfl rfl xmv <| vl rfl rfl (xlen l1_i1 Try.underlying24) <| vl rfl rfl (xlss l5_i1 rfl) <| nl <| cnd rfl (fun h4 => ?_) (fun h4 => ?_)
      ·
        have hB1 := ifp hB1 h4
        refine wp_skip <| wp_seq <| wp_block <| wp_seq <| rg <| vl rfl rfl xmv <| vl rfl rfl xmv <| ?_
        have hz := bs hB1; obtain ⟨x5, Ex5, hB1⟩ := hz
        have hz := (RV.els r1).ix Ex5; obtain ⟨b4, f1, cs3, e5, i2, i3, q7, hc1⟩ := hz
        cases e5
        obtain ⟨a6, cq6, rfl, p5, q8, e6⟩ := q7
        have r23 := RV.of1 p5 q8 e6
        have hc2 := hc1.ext k3
        have r24 := r23.ext k3
        refine vl rfl rfl (xixs l1_i1 l5_i1 Try.underlying24 ti22 i2 i3) <| vl rfl rfl (xld rfl ti22 (hc2.at 0 rfl)) <| vl rfl rfl (xlen rfl Try.underlying22) <| vl rfl rfl (xgtr rfl rfl) <| nl <| cnd rfl (fun h5 => ?_) (fun h5 => ?_)
        ·
          have hB1 := ifp hB1 h5
          refine wp_seq <| rg <| ?_
          have hz := bs hB1; obtain ⟨x6, Ex6, hB1⟩ := hz
          refine cl rfl rfl (xc cb15 mn) (c15 Ex6) ?_
          rintro _ w5 ⟨rfl, hx4⟩
          have k4 := k3.tr hx4
          have k5 := K0_i1.tr hx4
          refine vl rfl rfl xas <| nl <| ?_
          cases hB1
          have hF := (show some _ = some _ from hF); cases hF
          exact wp_ret <| rt rfl (.tmp rfl rfl .nil) ⟨rfl, k4⟩
        ·
          have hB1 := ifn hB1 h5
          refine wp_skip <| rg <| vl rfl rfl xmv <| vl rfl rfl (xadd l5_i1 rfl) <| vl rfl rfl xas <| nl <| ?_
          refine lq m (Nat.lt_succ_self _) <| ?_
          exact ⟨_, hB1, rfl, l1_i1, l2_i1, K0_i1⟩
      ·
        have hB1 := ifn hB1 h4
        refine wp_exit <| ?_
        cases hB1
        refine lf <| ?_
        exact ⟨rfl, l1_i1, l2_i1, K0_i1⟩
    rintro L w6 ⟨rfl, l1_j1, l2_j1, K0_j1⟩
    have k6 := k1.tr K0_j1
    have r25 := r17.ext K0_j1
    have r26 := r13.ext K0_j1
    have r27 := r14.ext K0_j1
    have r28 := r15.ext K0_j1
    have r29 := r16.ext K0_j1
    have hb4 := hb2.ext K0_j1
    refine wp_seq <| rg <| vl rfl rfl (xlda l2_j1 ti26 rfl (Bx.cs hb4)) <| vl rfl rfl xmv <| ?_
    have hz := bs hF; obtain ⟨x7, Ex7, hF⟩ := hz
    refine cl rfl rfl (xc cb26 (mc rfl (mc l1_j1 mn))) (c26 (show RV (α := (Int × (List Int) × (List ((List Int) × Int)) × (List ((List Int) × Int)) × (List (List Int)))) _ (.agg [.int .i64 x0.1, .slice a1 x0.2.1.length cq1, .slice a2 x0.2.2.1.length cq2, .slice a3 x0.2.2.2.1.length cq3, .slice a4 x0.2.2.2.2.length cq4].toArray) (x0.1, x0.2.1, x0.2.2.1, x0.2.2.2.1, x0.2.2.2.2) from ⟨_, rfl, ⟨[.int .i64 x0.1], [.slice a1 x0.2.1.length cq1] ++ ([.slice a2 x0.2.2.1.length cq2] ++ ([.slice a3 x0.2.2.2.1.length cq3] ++ [.slice a4 x0.2.2.2.2.length cq4])), rfl, rfl, ⟨[.slice a1 x0.2.1.length cq1], [.slice a2 x0.2.2.1.length cq2] ++ ([.slice a3 x0.2.2.2.1.length cq3] ++ [.slice a4 x0.2.2.2.2.length cq4]), rfl, r26.rep1, ⟨[.slice a2 x0.2.2.1.length cq2], [.slice a3 x0.2.2.2.1.length cq3] ++ [.slice a4 x0.2.2.2.2.length cq4], rfl, r27.rep1, ⟨[.slice a3 x0.2.2.2.1.length cq3], [.slice a4 x0.2.2.2.2.length cq4], rfl, r28.rep1, r29.rep1⟩⟩⟩⟩⟩) r25 Ex7) ?_
    rintro _ w7 ⟨rfl, hx5⟩
    have k7 := k6.tr hx5
    have k8 := K0_j1.tr hx5
    have hb5 := hb4.ext hx5
    have r30 := r26.ext hx5
    have r31 := r27.ext hx5
    have r32 := r28.ext hx5
    have r33 := r29.ext hx5
    have r34 := r25.ext hx5
    refine vl rfl rfl xmv <| vl rfl rfl (xext rfl rfl) <| vl rfl rfl (xext rfl rfl) <| vl rfl rfl xas <| vl rfl rfl xas <| nl <| wp_seq <| rg <| vl rfl rfl (xlda l2_j1 ti26 rfl (Bx.cs hb5)) <| vl rfl rfl xmv <| ?_
    have hz := bs hF; obtain ⟨x8, Ex8, hF⟩ := hz
    refine cl rfl rfl (xc cb27 (mc rfl (mc l1_j1 mn))) (c27 (show RV (α := (Int × (List Int) × (List ((List Int) × Int)) × (List ((List Int) × Int)) × (List (List Int)))) _ (.agg [.int .i64 x0.1, .slice a1 x0.2.1.length cq1, .slice a2 x0.2.2.1.length cq2, .slice a3 x0.2.2.2.1.length cq3, .slice a4 x0.2.2.2.2.length cq4].toArray) (x0.1, x0.2.1, x0.2.2.1, x0.2.2.2.1, x0.2.2.2.2) from ⟨_, rfl, ⟨[.int .i64 x0.1], [.slice a1 x0.2.1.length cq1] ++ ([.slice a2 x0.2.2.1.length cq2] ++ ([.slice a3 x0.2.2.2.1.length cq3] ++ [.slice a4 x0.2.2.2.2.length cq4])), rfl, rfl, ⟨[.slice a1 x0.2.1.length cq1], [.slice a2 x0.2.2.1.length cq2] ++ ([.slice a3 x0.2.2.2.1.length cq3] ++ [.slice a4 x0.2.2.2.2.length cq4]), rfl, r30.rep1, ⟨[.slice a2 x0.2.2.1.length cq2], [.slice a3 x0.2.2.2.1.length cq3] ++ [.slice a4 x0.2.2.2.2.length cq4], rfl, r31.rep1, ⟨[.slice a3 x0.2.2.2.1.length cq3], [.slice a4 x0.2.2.2.2.length cq4], rfl, r32.rep1, r33.rep1⟩⟩⟩⟩⟩) r34 Ex8) ?_
    rintro _ w8 ⟨rfl, hx6⟩
    have k9 := k7.tr hx6
    have k10 := k8.tr hx6
    have hb6 := hb5.ext hx6
    have r35 := r30.ext hx6
    have r36 := r31.ext hx6
    have r37 := r32.ext hx6
    have r38 := r33.ext hx6
    refine vl rfl rfl xmv <| vl rfl rfl (xext rfl rfl) <| vl rfl rfl (xext rfl rfl) <| vl rfl rfl xas <| vl rfl rfl xas <| nl <| wp_seq <| wp_seq <| rg <| vl rfl rfl xmv <| vl rfl rfl xmv <| vl rfl rfl (xneq rfl rfl) <| vl rfl rfl xmv <| gv rfl rfl rfl rfl (gw0 rfl) rfl (fun hc => xmva rfl) <| gv rfl rfl rfl rfl (gw0 rfl) rfl (fun hc => xmva rfl) <| gv rfl rfl rfl rfl (gw0 rfl) rfl (fun hc => xneq (mv hc rfl) (mv hc rfl)) <| vl rfl rfl (xpo rfl rfl rfl) <| nl <| cnd rfl (fun h6 => ?_) (fun h6 => ?_)
    ·
      have hF := ifp hF h6
      refine wp_seq <| rg <| vl rfl rfl xas <| nl <| ?_
      cases hF
      exact wp_ret <| rt rfl (.tmp rfl rfl .nil) ⟨rfl, k9⟩
    ·
      have hF := ifn hF h6
      refine wp_skip <| wp_seq <| rg <| vl rfl rfl (xlda l2_j1 ti26 rfl (Bx.cs hb6)) <| ?_
      have hz := bs hF; obtain ⟨x9, Ex9, hF⟩ := hz
      refine cl rfl rfl (xc cb28 (mc rfl mn)) (c28 (show RV (α := (Int × (List Int) × (List ((List Int) × Int)) × (List ((List Int) × Int)) × (List (List Int)))) _ (.agg [.int .i64 x0.1, .slice a1 x0.2.1.length cq1, .slice a2 x0.2.2.1.length cq2, .slice a3 x0.2.2.2.1.length cq3, .slice a4 x0.2.2.2.2.length cq4].toArray) (x0.1, x0.2.1, x0.2.2.1, x0.2.2.2.1, x0.2.2.2.2) from ⟨_, rfl, ⟨[.int .i64 x0.1], [.slice a1 x0.2.1.length cq1] ++ ([.slice a2 x0.2.2.1.length cq2] ++ ([.slice a3 x0.2.2.2.1.length cq3] ++ [.slice a4 x0.2.2.2.2.length cq4])), rfl, rfl, ⟨[.slice a1 x0.2.1.length cq1], [.slice a2 x0.2.2.1.length cq2] ++ ([.slice a3 x0.2.2.2.1.length cq3] ++ [.slice a4 x0.2.2.2.2.length cq4]), rfl, r35.rep1, ⟨[.slice a2 x0.2.2.1.length cq2], [.slice a3 x0.2.2.2.1.length cq3] ++ [.slice a4 x0.2.2.2.2.length cq4], rfl, r36.rep1, ⟨[.slice a3 x0.2.2.2.1.length cq3], [.slice a4 x0.2.2.2.2.length cq4], rfl, r37.rep1, r38.rep1⟩⟩⟩⟩⟩) Ex9) ?_
      rintro _ w9 ⟨u1, rfl, r39, hx7⟩
      have k11 := k9.tr hx7
      have k12 := k10.tr hx7
      have hb7 := hb6.ext hx7
      have r40 := r35.ext hx7
      have r41 := r36.ext hx7
      have r42 := r37.ext hx7
      have r43 := r38.ext hx7
      have hz := RV.sl r39; obtain ⟨a7, cq7, rfl, -, -, -⟩ := hz
      refine vl rfl rfl xmv <| vl rfl rfl (xext rfl rfl) <| vl rfl rfl (xext rfl rfl) <| vl rfl rfl xas <| vl rfl rfl xas <| nl <| wp_seq <| wp_seq <| rg <| vl rfl rfl (xlda l2_j1 ti26 rfl (Bx.cs hb7)) <| ?_
      have hz := bs hF; obtain ⟨x10, Ex10, hF⟩ := hz
      refine cl rfl rfl (xc cb29 (mc rfl mn)) (c29 (show RV (α := (Int × (List Int) × (List ((List Int) × Int)) × (List ((List Int) × Int)) × (List (List Int)))) _ (.agg [.int .i64 x0.1, .slice a1 x0.2.1.length cq1, .slice a2 x0.2.2.1.length cq2, .slice a3 x0.2.2.2.1.length cq3, .slice a4 x0.2.2.2.2.length cq4].toArray) (x0.1, x0.2.1, x0.2.2.1, x0.2.2.2.1, x0.2.2.2.2) from ⟨_, rfl, ⟨[.int .i64 x0.1], [.slice a1 x0.2.1.length cq1] ++ ([.slice a2 x0.2.2.1.length cq2] ++ ([.slice a3 x0.2.2.2.1.length cq3] ++ [.slice a4 x0.2.2.2.2.length cq4])), rfl, rfl, ⟨[.slice a1 x0.2.1.length cq1], [.slice a2 x0.2.2.1.length cq2] ++ ([.slice a3 x0.2.2.2.1.length cq3] ++ [.slice a4 x0.2.2.2.2.length cq4]), rfl, r40.rep1, ⟨[.slice a2 x0.2.2.1.length cq2], [.slice a3 x0.2.2.2.1.length cq3] ++ [.slice a4 x0.2.2.2.2.length cq4], rfl, r41.rep1, ⟨[.slice a3 x0.2.2.2.1.length cq3], [.slice a4 x0.2.2.2.2.length cq4], rfl, r42.rep1, r43.rep1⟩⟩⟩⟩⟩) Ex10) ?_
      rintro _ w10 ⟨rfl, hx8⟩
      have k13 := k11.tr hx8
      have k14 := k12.tr hx8
      have hb8 := hb7.ext hx8
      have r44 := r40.ext hx8
      have r45 := r41.ext hx8
      have r46 := r42.ext hx8
      have r47 := r43.ext hx8
      have r48 := r39.ext hx8
      refine vl rfl rfl (xneq rfl rfl) <| nl <| cnd rfl (fun h7 => ?_) (fun h7 => ?_)
      ·
        have hF := ifp hF h7
        refine wp_seq <| rg <| vl rfl rfl xmv <| vl rfl rfl (xlda l2_j1 ti26 rfl (Bx.cs hb8)) <| ?_
        have hz := bs hF; obtain ⟨x11, Ex11, hF⟩ := hz
        refine cl rfl rfl (xc cb29 (mc rfl mn)) (c29 (show RV (α := (Int × (List Int) × (List ((List Int) × Int)) × (List ((List Int) × Int)) × (List (List Int)))) _ (.agg [.int .i64 x0.1, .slice a1 x0.2.1.length cq1, .slice a2 x0.2.2.1.length cq2, .slice a3 x0.2.2.2.1.length cq3, .slice a4 x0.2.2.2.2.length cq4].toArray) (x0.1, x0.2.1, x0.2.2.1, x0.2.2.2.1, x0.2.2.2.2) from ⟨_, rfl, ⟨[.int .i64 x0.1], [.slice a1 x0.2.1.length cq1] ++ ([.slice a2 x0.2.2.1.length cq2] ++ ([.slice a3 x0.2.2.2.1.length cq3] ++ [.slice a4 x0.2.2.2.2.length cq4])), rfl, rfl, ⟨[.slice a1 x0.2.1.length cq1], [.slice a2 x0.2.2.1.length cq2] ++ ([.slice a3 x0.2.2.2.1.length cq3] ++ [.slice a4 x0.2.2.2.2.length cq4]), rfl, r44.rep1, ⟨[.slice a2 x0.2.2.1.length cq2], [.slice a3 x0.2.2.2.1.length cq3] ++ [.slice a4 x0.2.2.2.2.length cq4], rfl, r45.rep1, ⟨[.slice a3 x0.2.2.2.1.length cq3], [.slice a4 x0.2.2.2.2.length cq4], rfl, r46.rep1, r47.rep1⟩⟩⟩⟩⟩) Ex11) ?_
        rintro _ w11 ⟨rfl, hx9⟩
        have k15 := k13.tr hx9
        have k16 := k14.tr hx9
        have r49 := r48.ext hx9
        refine vl rfl rfl (xeql rfl rfl) <| vl rfl rfl xmv <| gv rfl rfl rfl rfl (gw1 rfl) rfl (fun hc => xmva rfl) <| gv rfl rfl rfl rfl (gw1 rfl) rfl (fun hc => xlen (mv hc rfl) Try.underlying24) <| gv rfl rfl rfl rfl (gw1 rfl) rfl (fun hc => xeql (mv hc rfl) rfl) <| vl rfl rfl (xpa rfl rfl rfl) <| vl rfl rfl xmv <| ?_
        have hz := bs hF; obtain ⟨x12, Ex12, hF⟩ := hz
        refine gc rfl rfl rfl rfl (gw1 rfl) rfl (fun hc => xc cb15 mn) (fun hc => (c15 (gdp Ex12 hc))) (fun v3 w12 hy1 hn1 => ?_)
        have hx10 : Ext w11 w12 := gx (fun h => (hy1 h).2) (fun h => (hn1 h).2 ▸ Ext.refl _)
        have e7 := mkw (fun h => (hy1 h).1) (fun h => (hn1 h).1)
        have k17 := k15.tr hx10
        have k18 := k16.tr hx10
        refine vl rfl rfl (xpa rfl e7 rfl) <| vl rfl rfl xas <| nl <| ?_
        cases hF
        exact wp_ret <| rt rfl (.tmp rfl rfl .nil) ⟨rfl, k17⟩
      ·
        have hF := ifn hF h7
        refine wp_skip <| wp_seq <| wp_seq <| rg <| vl rfl rfl xmv <| vl rfl rfl (xeql rfl rfl) <| vl rfl rfl xmv <| gv rfl rfl rfl rfl (gw1 rfl) rfl (fun hc => xmva rfl) <| gv rfl rfl rfl rfl (gw1 rfl) rfl (fun hc => xlen (mv hc rfl) Try.underlying24) <| gv rfl rfl rfl rfl (gw1 rfl) rfl (fun hc => xgtr (mv hc rfl) rfl) <| vl rfl rfl (xpa rfl rfl rfl) <| nl <| cnd rfl (fun h8 => ?_) (fun h8 => ?_)
        ·
          have hF := ifp hF h8
          refine wp_seq <| rg <| vl rfl rfl xmv <| vl rfl rfl (xlen rfl Try.underlying24) <| vl rfl rfl (xleq rfl rfl) <| vl rfl rfl xmv <| ?_
          have hz := bs hF; obtain ⟨x13, Ex13, hF⟩ := hz
          refine gc rfl rfl rfl rfl (gw1 rfl) rfl (fun hc => xc cb15 mn) (fun hc => (c15 (gdp Ex13 hc))) (fun v4 w13 hy2 hn2 => ?_)
          have hx11 : Ext w10 w13 := gx (fun h => (hy2 h).2) (fun h => (hn2 h).2 ▸ Ext.refl _)
          have e8 := mkw (fun h => (hy2 h).1) (fun h => (hn2 h).1)
          have k19 := k13.tr hx11
          have k20 := k14.tr hx11
          refine vl rfl rfl (xpa rfl e8 rfl) <| vl rfl rfl xas <| nl <| ?_
          cases hF
          exact wp_ret <| rt rfl (.tmp rfl rfl .nil) ⟨rfl, k19⟩
        ·
          have hF := ifn hF h8
          refine wp_skip <| wp_seq <| rg <| vl rfl rfl (xlda l2_j1 ti26 rfl (Bx.cs hb8)) <| ?_
          have hz := bs hF; obtain ⟨x14, Ex14, hF⟩ := hz
          refine cl rfl rfl (xc cb25 (mc rfl mn)) (c25 (show RV (α := (Int × (List Int) × (List ((List Int) × Int)) × (List ((List Int) × Int)) × (List (List Int)))) _ (.agg [.int .i64 x0.1, .slice a1 x0.2.1.length cq1, .slice a2 x0.2.2.1.length cq2, .slice a3 x0.2.2.2.1.length cq3, .slice a4 x0.2.2.2.2.length cq4].toArray) (x0.1, x0.2.1, x0.2.2.1, x0.2.2.2.1, x0.2.2.2.2) from ⟨_, rfl, ⟨[.int .i64 x0.1], [.slice a1 x0.2.1.length cq1] ++ ([.slice a2 x0.2.2.1.length cq2] ++ ([.slice a3 x0.2.2.2.1.length cq3] ++ [.slice a4 x0.2.2.2.2.length cq4])), rfl, rfl, ⟨[.slice a1 x0.2.1.length cq1], [.slice a2 x0.2.2.1.length cq2] ++ ([.slice a3 x0.2.2.2.1.length cq3] ++ [.slice a4 x0.2.2.2.2.length cq4]), rfl, r44.rep1, ⟨[.slice a2 x0.2.2.1.length cq2], [.slice a3 x0.2.2.2.1.length cq3] ++ [.slice a4 x0.2.2.2.2.length cq4], rfl, r45.rep1, ⟨[.slice a3 x0.2.2.2.1.length cq3], [.slice a4 x0.2.2.2.2.length cq4], rfl, r46.rep1, r47.rep1⟩⟩⟩⟩⟩) Ex14) ?_
          rintro _ w14 ⟨u2, rfl, r50, hx12⟩
          have k21 := k13.tr hx12
          have k22 := k14.tr hx12
          have hb9 := hb8.ext hx12
          have r51 := r44.ext hx12
          have r52 := r45.ext hx12
          have r53 := r46.ext hx12
          have r54 := r47.ext hx12
          have r55 := r48.ext hx12
          have hz := RV.sl r50; obtain ⟨a8, cq8, rfl, -, -, -⟩ := hz
          refine vl rfl rfl xmv <| vl rfl rfl (xext rfl rfl) <| vl rfl rfl (xext rfl rfl) <| vl rfl rfl xas <| vl rfl rfl xas <| nl <| wp_seq <| rg <| vl rfl rfl (xlda l2_j1 ti26 rfl (Bx.cs hb9)) <| vl rfl rfl xmv <| ?_
          have hz := bs hF; obtain ⟨x15, Ex15, hF⟩ := hz
          refine cl rfl rfl (xc cb27 (mc rfl (mc rfl mn))) (c27 (show RV (α := (Int × (List Int) × (List ((List Int) × Int)) × (List ((List Int) × Int)) × (List (List Int)))) _ (.agg [.int .i64 x0.1, .slice a1 x0.2.1.length cq1, .slice a2 x0.2.2.1.length cq2, .slice a3 x0.2.2.2.1.length cq3, .slice a4 x0.2.2.2.2.length cq4].toArray) (x0.1, x0.2.1, x0.2.2.1, x0.2.2.2.1, x0.2.2.2.2) from ⟨_, rfl, ⟨[.int .i64 x0.1], [.slice a1 x0.2.1.length cq1] ++ ([.slice a2 x0.2.2.1.length cq2] ++ ([.slice a3 x0.2.2.2.1.length cq3] ++ [.slice a4 x0.2.2.2.2.length cq4])), rfl, rfl, ⟨[.slice a1 x0.2.1.length cq1], [.slice a2 x0.2.2.1.length cq2] ++ ([.slice a3 x0.2.2.2.1.length cq3] ++ [.slice a4 x0.2.2.2.2.length cq4]), rfl, r51.rep1, ⟨[.slice a2 x0.2.2.1.length cq2], [.slice a3 x0.2.2.2.1.length cq3] ++ [.slice a4 x0.2.2.2.2.length cq4], rfl, r52.rep1, ⟨[.slice a3 x0.2.2.2.1.length cq3], [.slice a4 x0.2.2.2.2.length cq4], rfl, r53.rep1, r54.rep1⟩⟩⟩⟩⟩) r55 Ex15) ?_
          rintro _ w15 ⟨rfl, hx13⟩
          have k23 := k21.tr hx13
          have k24 := k22.tr hx13
          have hb10 := hb9.ext hx13
          have r56 := r51.ext hx13
          have r57 := r52.ext hx13
          have r58 := r53.ext hx13
          have r59 := r54.ext hx13
          have r60 := r50.ext hx13
          refine vl rfl rfl xmv <| vl rfl rfl (xext rfl rfl) <| vl rfl rfl (xext rfl rfl) <| vl rfl rfl xas <| vl rfl rfl xas <| nl <| wp_seq <| rg <| vl rfl rfl xmv <| vl rfl rfl (xeql rfl rfl) <| vl rfl rfl xmv <| gv rfl rfl rfl rfl (gw1 rfl) rfl (fun hc => xmva rfl) <| gv rfl rfl rfl rfl (gw1 rfl) rfl (fun hc => xeql (mv hc rfl) rfl) <| vl rfl rfl (xpa rfl rfl rfl) <| vl rfl rfl xmv <| gv rfl rfl rfl rfl (gw1 rfl) rfl (fun hc => xmva rfl) <| gv rfl rfl rfl rfl (gw1 rfl) rfl (fun hc => xfa l2_j1 fa26_3) <| gv rfl rfl rfl rfl (gw1 rfl) rfl (fun hc => xld (mv hc rfl) ti23 ((Bx.cs hb10).at 3 rfl)) <| gv rfl rfl rfl rfl (gw1 rfl) rfl (fun hc => xlen (mv hc rfl) Try.underlying23) <| gv rfl rfl rfl rfl (gw1 rfl) rfl (fun hc => xmva rfl) <| gv rfl rfl rfl rfl (gw1 rfl) rfl (fun hc => xlen (mv hc rfl) Try.underlying22) <| gv rfl rfl rfl rfl (gw1 rfl) rfl (fun hc => xsub (mv hc rfl) (mv hc rfl)) <| gv rfl rfl rfl rfl (gw1 rfl) rfl (fun hc => xeql (mv hc rfl) (mv hc rfl)) <| vl rfl rfl (xpa rfl rfl rfl) <| vl rfl rfl xmv <| ?_
          have hz := bs hF; obtain ⟨x16, Ex16, hF⟩ := hz
          refine gc rfl rfl rfl rfl (gw1 rfl) rfl (fun hc => xc cb15 mn) (fun hc => (c15 (gdp Ex16 hc))) (fun v5 w16 hy3 hn3 => ?_)
          have hx14 : Ext w15 w16 := gx (fun h => (hy3 h).2) (fun h => (hn3 h).2 ▸ Ext.refl _)
          have e9 := mkw (fun h => (hy3 h).1) (fun h => (hn3 h).1)
          have k25 := k23.tr hx14
          have k26 := k24.tr hx14
          refine vl rfl rfl (xpa rfl e9 rfl) <| vl rfl rfl xas <| nl <| ?_
          cases hF
          exact wp_ret <| rt rfl (.tmp rfl rfl .nil) ⟨rfl, k25⟩

set_option maxHeartbeats 4000000 in
theorem c12 {w0 : World}  {F : Nat} {r : Bool} (hF : law10_RightKnown F = some r) :
    Calls Try.prog 12 [].toArray w0 (Ret fun v w' => v = .bool r ∧ Ext w0 w') := by
  unfold law10_RightKnown at hF
  refine entr (n := 79) Try.func12 rfl rfl rfl <| wp_seq <| rg <| vl rfl rfl xas <| nl <| wp_seq <| rg <| ?_
  have hz := bs hF; obtain ⟨x1, Ex1, hF⟩ := hz
  refine cl rfl rfl (xc cb39 mn) (c39 Ex1) ?_
  rintro _ w1 ⟨u1, rfl, r1, hx1⟩
  have hz := id r1; obtain ⟨_, rfl, ⟨_, _, rfl, rfl, ⟨_, _, rfl, ⟨a1, cq1, rfl, p1, q1, e1⟩, ⟨_, _, rfl, ⟨a2, cq2, rfl, p2, q2, e2⟩, ⟨_, _, rfl, ⟨a3, cq3, rfl, p3, q3, e3⟩, ⟨a4, cq4, rfl, p4, q4, e4⟩⟩⟩⟩⟩⟩ := hz
  have r2 := RV.of1 p1 q1 e1
  have r3 := RV.of1 p2 q2 e2
  have r4 := RV.of1 p3 q3 e3
  have r5 := RV.of1 p4 q4 e4
  refine sal ti26 fun b1 w2 hx2 hg1 hb1 => ?_
  have k1 := hx1.tr hx2
  have r6 := r2.ext hx2
  have r7 := r3.ext hx2
  have r8 := r4.ext hx2
  have r9 := r5.ext hx2
  have r10 := r1.ext hx2
  refine sst rfl rfl rfl ti26 hb1 rfl rfl (ble rfl) fun w3 hch1 hb2 => ?_
  have k2 := Ext.chg k1 hch1 (Nat.le_trans hx1.size hg1)
  have k3 := Ext.chg hx2 hch1 (Nat.le_trans (Nat.le_refl _) hg1)
  have r11 := r2.ext k3
  have r12 := r3.ext k3
  have r13 := r4.ext k3
  have r14 := r5.ext k3
  have hb3 : Bx w3 b1 26 [.int .i64 x1.1, .slice a1 x1.2.1.length cq1, .slice a2 x1.2.2.1.length cq2, .slice a3 x1.2.2.2.1.length cq3, .slice a4 x1.2.2.2.2.length cq4] := hb2
  refine nl <| wp_seq <| rg <| vl rfl rfl (xlda rfl ti26 rfl (Bx.cs hb3)) <| sbsv (cs := [.int .i64 1]) Try.underlying22 ti3 rfl (pc rfl pn) rfl rfl rfl rfl rfl fun b2 w4 hx3 hg2 hb4 => ?_
  have k4 := k2.tr hx3
  have k5 := k3.tr hx3
  have hb5 := hb3.ext hx3
  have r15 := r11.ext hx3
  have r16 := r12.ext hx3
  have r17 := r13.ext hx3
  have r18 := r14.ext hx3
  have o1 : Row (α := Int) 3 w3.heap.size w4 (.slice (some ⟨b2, 0, none⟩) 1 1) [1] := Row.lit hg2 hb4 rfl (ble rfl)
  have hz := bs hF; obtain ⟨x2, Ex2, hF⟩ := hz
  refine cl rfl rfl (xc cb33 (mc rfl (mc rfl mn))) (c33 (show RV (α := (Int × (List Int) × (List ((List Int) × Int)) × (List ((List Int) × Int)) × (List (List Int)))) _ (.agg [.int .i64 x1.1, .slice a1 x1.2.1.length cq1, .slice a2 x1.2.2.1.length cq2, .slice a3 x1.2.2.2.1.length cq3, .slice a4 x1.2.2.2.2.length cq4].toArray) (x1.1, x1.2.1, x1.2.2.1, x1.2.2.2.1, x1.2.2.2.2) from ⟨_, rfl, ⟨[.int .i64 x1.1], [.slice a1 x1.2.1.length cq1] ++ ([.slice a2 x1.2.2.1.length cq2] ++ ([.slice a3 x1.2.2.2.1.length cq3] ++ [.slice a4 x1.2.2.2.2.length cq4])), rfl, rfl, ⟨[.slice a1 x1.2.1.length cq1], [.slice a2 x1.2.2.1.length cq2] ++ ([.slice a3 x1.2.2.2.1.length cq3] ++ [.slice a4 x1.2.2.2.2.length cq4]), rfl, r15.rep1, ⟨[.slice a2 x1.2.2.1.length cq2], [.slice a3 x1.2.2.2.1.length cq3] ++ [.slice a4 x1.2.2.2.2.length cq4], rfl, r16.rep1, ⟨[.slice a3 x1.2.2.2.1.length cq3], [.slice a4 x1.2.2.2.2.length cq4], rfl, r17.rep1, r18.rep1⟩⟩⟩⟩⟩) o1.rv Ex2) ?_
  rintro _ w5 ⟨u2, rfl, r20, hx4⟩
  have k6 := k4.tr hx4
  have k7 := k5.tr hx4
  have k8 := hx3.tr hx4
  have hb6 := hb5.ext hx4
  have r21 := r15.ext hx4
  have r22 := r16.ext hx4
  have r23 := r17.ext hx4
  have r24 := r18.ext hx4
  have hz := RV.sl r20; obtain ⟨a5, cq5, rfl, -, -, -⟩ := hz
  refine vl rfl rfl xmv <| vl rfl rfl (xext rfl rfl) <| vl rfl rfl (xext rfl rfl) <| vl rfl rfl xas <| vl rfl rfl xas <| nl <| wp_seq <| rg <| vl rfl rfl (xlda rfl ti26 rfl (Bx.cs hb6)) <| sbsv (cs := [.int .i64 2]) Try.underlying22 ti3 rfl (pc rfl pn) rfl rfl rfl rfl rfl fun b3 w6 hx5 hg3 hb7 => ?_
  have k9 := k6.tr hx5
  have k10 := k7.tr hx5
  have k11 := k8.tr hx5
  have hb8 := hb6.ext hx5
  have r25 := r21.ext hx5
  have r26 := r22.ext hx5
  have r27 := r23.ext hx5
  have r28 := r24.ext hx5
  have r29 := r20.ext hx5
  have o2 : Row (α := Int) 3 w5.heap.size w6 (.slice (some ⟨b3, 0, none⟩) 1 1) [2] := Row.lit hg3 hb7 rfl (ble rfl)
  have hz := bs hF; obtain ⟨x3, Ex3, hF⟩ := hz
  refine cl rfl rfl (xc cb33 (mc rfl (mc rfl mn))) (c33 (show RV (α := (Int × (List Int) × (List ((List Int) × Int)) × (List ((List Int) × Int)) × (List (List Int)))) _ (.agg [.int .i64 x1.1, .slice a1 x1.2.1.length cq1, .slice a2 x1.2.2.1.length cq2, .slice a3 x1.2.2.2.1.length cq3, .slice a4 x1.2.2.2.2.length cq4].toArray) (x1.1, x1.2.1, x1.2.2.1, x1.2.2.2.1, x1.2.2.2.2) from ⟨_, rfl, ⟨[.int .i64 x1.1], [.slice a1 x1.2.1.length cq1] ++ ([.slice a2 x1.2.2.1.length cq2] ++ ([.slice a3 x1.2.2.2.1.length cq3] ++ [.slice a4 x1.2.2.2.2.length cq4])), rfl, rfl, ⟨[.slice a1 x1.2.1.length cq1], [.slice a2 x1.2.2.1.length cq2] ++ ([.slice a3 x1.2.2.2.1.length cq3] ++ [.slice a4 x1.2.2.2.2.length cq4]), rfl, r25.rep1, ⟨[.slice a2 x1.2.2.1.length cq2], [.slice a3 x1.2.2.2.1.length cq3] ++ [.slice a4 x1.2.2.2.2.length cq4], rfl, r26.rep1, ⟨[.slice a3 x1.2.2.2.1.length cq3], [.slice a4 x1.2.2.2.2.length cq4], rfl, r27.rep1, r28.rep1⟩⟩⟩⟩⟩) o2.rv Ex3) ?_
  rintro _ w7 ⟨u3, rfl, r31, hx6⟩
  have k12 := k9.tr hx6
  have k13 := k10.tr hx6
  have k14 := k11.tr hx6
  have k15 := hx5.tr hx6
  have hb9 := hb8.ext hx6
  have r32 := r25.ext hx6
  have r33 := r26.ext hx6
  have r34 := r27.ext hx6
  have r35 := r28.ext hx6
  have r36 := r29.ext hx6
  have hz := RV.sl r31; obtain ⟨a6, cq6, rfl, -, -, -⟩ := hz
  refine vl rfl rfl xmv <| vl rfl rfl (xext rfl rfl) <| vl rfl rfl (xext rfl rfl) <| vl rfl rfl xas <| vl rfl rfl xas <| nl <| wp_seq <| rg <| vl rfl rfl (xlda rfl ti26 rfl (Bx.cs hb9)) <| sbsv (cs := [.int .i64 0, .int .i64 1]) Try.underlying22 ti3 rfl (pc rfl (pc rfl pn)) rfl rfl rfl rfl rfl fun b4 w8 hx7 hg4 hb10 => ?_
  have k16 := k12.tr hx7
  have k17 := k13.tr hx7
  have k18 := k14.tr hx7
  have k19 := k15.tr hx7
  have hb11 := hb9.ext hx7
  have r37 := r32.ext hx7
  have r38 := r33.ext hx7
  have r39 := r34.ext hx7
  have r40 := r35.ext hx7
  have r41 := r36.ext hx7
  have r42 := r31.ext hx7
  have o3 : Row (α := Int) 3 w7.heap.size w8 (.slice (some ⟨b4, 0, none⟩) 2 2) [0, 1] := Row.lit hg4 hb10 rfl (ble rfl)
  refine sbsv (cs := [.slice (some ⟨b4, 0, none⟩) ([0, 1] : List Int).length 2]) Try.underlying24 ti22 rfl (pc rfl pn) rfl rfl rfl rfl rfl fun b5 w9 hx8 hg5 hb12 => ?_
  have k20 := k16.tr hx8
  have k21 := k17.tr hx8
  have k22 := k18.tr hx8
  have k23 := k19.tr hx8
  have k24 := hx7.tr hx8
  have hb13 := hb11.ext hx8
  have r45 := r37.ext hx8
  have r46 := r38.ext hx8
  have r47 := r39.ext hx8
  have r48 := r40.ext hx8
  have r49 := r41.ext hx8
  have r50 := r42.ext hx8
  have o4 := o3.ext hx8
  have r44 : RV w9 (.slice (some ⟨b5, 0, none⟩) 1 1) ([([0, 1] : List Int)] : List (List Int)) := RV.lit hb12 (css := [[.slice (some ⟨b4, 0, none⟩) ([0, 1] : List Int).length 2]]) rfl ⟨o4.rv.rep1, trivial⟩ rfl (ble rfl)
  have hz := bs hF; obtain ⟨x4, Ex4, hF⟩ := hz
  refine cl rfl rfl (xc cb26 (mc rfl (mc rfl mn))) (c26 (show RV (α := (Int × (List Int) × (List ((List Int) × Int)) × (List ((List Int) × Int)) × (List (List Int)))) _ (.agg [.int .i64 x1.1, .slice a1 x1.2.1.length cq1, .slice a2 x1.2.2.1.length cq2, .slice a3 x1.2.2.2.1.length cq3, .slice a4 x1.2.2.2.2.length cq4].toArray) (x1.1, x1.2.1, x1.2.2.1, x1.2.2.2.1, x1.2.2.2.2) from ⟨_, rfl, ⟨[.int .i64 x1.1], [.slice a1 x1.2.1.length cq1] ++ ([.slice a2 x1.2.2.1.length cq2] ++ ([.slice a3 x1.2.2.2.1.length cq3] ++ [.slice a4 x1.2.2.2.2.length cq4])), rfl, rfl, ⟨[.slice a1 x1.2.1.length cq1], [.slice a2 x1.2.2.1.length cq2] ++ ([.slice a3 x1.2.2.2.1.length cq3] ++ [.slice a4 x1.2.2.2.2.length cq4]), rfl, r45.rep1, ⟨[.slice a2 x1.2.2.1.length cq2], [.slice a3 x1.2.2.2.1.length cq3] ++ [.slice a4 x1.2.2.2.2.length cq4], rfl, r46.rep1, ⟨[.slice a3 x1.2.2.2.1.length cq3], [.slice a4 x1.2.2.2.2.length cq4], rfl, r47.rep1, r48.rep1⟩⟩⟩⟩⟩) r44 Ex4) ?_
  rintro _ w10 ⟨rfl, hx9⟩
  have k25 := k20.tr hx9
  have k26 := k21.tr hx9
  have k27 := k22.tr hx9
  have k28 := k23.tr hx9
  have k29 := k24.tr hx9
  have k30 := hx8.tr hx9
  have hb14 := hb13.ext hx9
  have r51 := r45.ext hx9
  have r52 := r46.ext hx9
  have r53 := r47.ext hx9
  have r54 := r48.ext hx9
  have r55 := r49.ext hx9
  have r56 := r50.ext hx9
  refine vl rfl rfl xmv <| vl rfl rfl (xext rfl rfl) <| vl rfl rfl (xext rfl rfl) <| vl rfl rfl xas <| vl rfl rfl xas <| nl <| wp_seq <| rg <| vl rfl rfl (xlda rfl ti26 rfl (Bx.cs hb14)) <| sbsv (cs := [.int .i64 1]) Try.underlying22 ti3 rfl (pc rfl pn) rfl rfl rfl rfl rfl fun b6 w11 hx10 hg6 hb15 => ?_
  have k31 := k25.tr hx10
  have k32 := k26.tr hx10
  have k33 := k27.tr hx10
  have k34 := k28.tr hx10
  have k35 := k29.tr hx10
  have k36 := k30.tr hx10
  have hb16 := hb14.ext hx10
  have r57 := r51.ext hx10
  have r58 := r52.ext hx10
  have r59 := r53.ext hx10
  have r60 := r54.ext hx10
  have r61 := r55.ext hx10
  have r62 := r56.ext hx10
  have o5 : Row (α := Int) 3 w10.heap.size w11 (.slice (some ⟨b6, 0, none⟩) 1 1) [1] := Row.lit hg6 hb15 rfl (ble rfl)
  refine sbsv (cs := [.slice (some ⟨b6, 0, none⟩) ([1] : List Int).length 1]) Try.underlying24 ti22 rfl (pc rfl pn) rfl rfl rfl rfl rfl fun b7 w12 hx11 hg7 hb17 => ?_
  have k37 := k31.tr hx11
  have k38 := k32.tr hx11
  have k39 := k33.tr hx11
  have k40 := k34.tr hx11
  have k41 := k35.tr hx11
  have k42 := k36.tr hx11
  have k43 := hx10.tr hx11
  have hb18 := hb16.ext hx11
  have r65 := r57.ext hx11
  have r66 := r58.ext hx11
  have r67 := r59.ext hx11
  have r68 := r60.ext hx11
  have r69 := r61.ext hx11
  have r70 := r62.ext hx11
  have o6 := o5.ext hx11
  have r64 : RV w12 (.slice (some ⟨b7, 0, none⟩) 1 1) ([([1] : List Int)] : List (List Int)) := RV.lit hb17 (css := [[.slice (some ⟨b6, 0, none⟩) ([1] : List Int).length 1]]) rfl ⟨o6.rv.rep1, trivial⟩ rfl (ble rfl)
  have hz := bs hF; obtain ⟨x5, Ex5, hF⟩ := hz
  refine cl rfl rfl (xc cb26 (mc rfl (mc rfl mn))) (c26 (show RV (α := (Int × (List Int) × (List ((List Int) × Int)) × (List ((List Int) × Int)) × (List (List Int)))) _ (.agg [.int .i64 x1.1, .slice a1 x1.2.1.length cq1, .slice a2 x1.2.2.1.length cq2, .slice a3 x1.2.2.2.1.length cq3, .slice a4 x1.2.2.2.2.length cq4].toArray) (x1.1, x1.2.1, x1.2.2.1, x1.2.2.2.1, x1.2.2.2.2) from ⟨_, rfl, ⟨[.int .i64 x1.1], [.slice a1 x1.2.1.length cq1] ++ ([.slice a2 x1.2.2.1.length cq2] ++ ([.slice a3 x1.2.2.2.1.length cq3] ++ [.slice a4 x1.2.2.2.2.length cq4])), rfl, rfl, ⟨[.slice a1 x1.2.1.length cq1], [.slice a2 x1.2.2.1.length cq2] ++ ([.slice a3 x1.2.2.2.1.length cq3] ++ [.slice a4 x1.2.2.2.2.length cq4]), rfl, r65.rep1, ⟨[.slice a2 x1.2.2.1.length cq2], [.slice a3 x1.2.2.2.1.length cq3] ++ [.slice a4 x1.2.2.2.2.length cq4], rfl, r66.rep1, ⟨[.slice a3 x1.2.2.2.1.length cq3], [.slice a4 x1.2.2.2.2.length cq4], rfl, r67.rep1, r68.rep1⟩⟩⟩⟩⟩) r64 Ex5) ?_
  rintro _ w13 ⟨rfl, hx12⟩
  have k44 := k37.tr hx12
  have k45 := k38.tr hx12
  have k46 := k39.tr hx12
  have k47 := k40.tr hx12
  have k48 := k41.tr hx12
  have k49 := k42.tr hx12
  have k50 := k43.tr hx12
  have k51 := hx11.tr hx12
  have hb19 := hb18.ext hx12
  have r71 := r65.ext hx12
  have r72 := r66.ext hx12
  have r73 := r67.ext hx12
  have r74 := r68.ext hx12
  have r75 := r69.ext hx12
  have r76 := r70.ext hx12
  refine vl rfl rfl xmv <| vl rfl rfl (xext rfl rfl) <| vl rfl rfl (xext rfl rfl) <| vl rfl rfl xas <| vl rfl rfl xas <| nl <| wp_seq <| rg <| vl rfl rfl (xlda rfl ti26 rfl (Bx.cs hb19)) <| sbsv (cs := [.int .i64 0]) Try.underlying22 ti3 rfl (pc rfl pn) rfl rfl rfl rfl rfl fun b8 w14 hx13 hg8 hb20 => ?_
  have k52 := k44.tr hx13
  have k53 := k45.tr hx13
  have k54 := k46.tr hx13
  have k55 := k47.tr hx13
  have k56 := k48.tr hx13
  have k57 := k49.tr hx13
  have k58 := k50.tr hx13
  have k59 := k51.tr hx13
  have r77 := r75.ext hx13
  have r78 := r76.ext hx13
  have r79 := r71.ext hx13
  have r80 := r72.ext hx13
  have r81 := r73.ext hx13
  have r82 := r74.ext hx13
  have o7 : Row (α := Int) 3 w13.heap.size w14 (.slice (some ⟨b8, 0, none⟩) 1 1) [0] := Row.lit hg8 hb20 rfl (ble rfl)
  refine vl rfl rfl (xbdv (r := [.bool true, .int .i64 0]) ti52 sp52 (pc rfl (pc rfl pn)) rfl) <| vl rfl rfl (xbdv (r := [.bool false, .int .i64 0]) ti52 sp52 (pc rfl pn) rfl) <| sbsv (cs := [.bool true, .int .i64 0, .bool false, .int .i64 0]) Try.underlying27 ti52 rfl (pc rfl (pc rfl pn)) rfl rfl rfl rfl rfl fun b9 w15 hx14 hg9 hb21 => ?_
  have k60 := k52.tr hx14
  have k61 := k53.tr hx14
  have k62 := k54.tr hx14
  have k63 := k55.tr hx14
  have k64 := k56.tr hx14
  have k65 := k57.tr hx14
  have k66 := k58.tr hx14
  have k67 := k59.tr hx14
  have k68 := hx13.tr hx14
  have r84 := r77.ext hx14
  have r85 := r78.ext hx14
  have r86 := r79.ext hx14
  have r87 := r80.ext hx14
  have r88 := r81.ext hx14
  have r89 := r82.ext hx14
  have o8 := o7.ext hx14
  have o9 : Row (α := (Bool × Int)) 52 w14.heap.size w15 (.slice (some ⟨b9, 0, none⟩) 2 2) [(true, 0), (false, 0)] := Row.lit hg9 hb21 rfl (ble rfl)
  have hz := bs hF; obtain ⟨x6, Ex6, hF⟩ := hz
  refine cl rfl rfl (xc cb17 (mc rfl (mc rfl (mc rfl (mc rfl mn))))) (c17 (show RV (α := (Int × (List Int) × (List ((List Int) × Int)) × (List ((List Int) × Int)) × (List (List Int)))) _ (.agg [.int .i64 x1.1, .slice a1 x1.2.1.length cq1, .slice a2 x1.2.2.1.length cq2, .slice a3 x1.2.2.2.1.length cq3, .slice a4 x1.2.2.2.2.length cq4].toArray) (x1.1, x1.2.1, x1.2.2.1, x1.2.2.2.1, x1.2.2.2.2) from ⟨_, rfl, ⟨[.int .i64 x1.1], [.slice a1 x1.2.1.length cq1] ++ ([.slice a2 x1.2.2.1.length cq2] ++ ([.slice a3 x1.2.2.2.1.length cq3] ++ [.slice a4 x1.2.2.2.2.length cq4])), rfl, rfl, ⟨[.slice a1 x1.2.1.length cq1], [.slice a2 x1.2.2.1.length cq2] ++ ([.slice a3 x1.2.2.2.1.length cq3] ++ [.slice a4 x1.2.2.2.2.length cq4]), rfl, r86.rep1, ⟨[.slice a2 x1.2.2.1.length cq2], [.slice a3 x1.2.2.2.1.length cq3] ++ [.slice a4 x1.2.2.2.2.length cq4], rfl, r87.rep1, ⟨[.slice a3 x1.2.2.2.1.length cq3], [.slice a4 x1.2.2.2.2.length cq4], rfl, r88.rep1, r89.rep1⟩⟩⟩⟩⟩) o8.rv o9.rv Ex6) ?_
  rintro _ w16 ⟨rfl, hx15⟩
  have k69 := k60.tr hx15
  have k70 := k61.tr hx15
  have k71 := k62.tr hx15
  have k72 := k63.tr hx15
  have k73 := k64.tr hx15
  have k74 := k65.tr hx15
  have k75 := k66.tr hx15
  have k76 := k67.tr hx15
  have k77 := k68.tr hx15
  have k78 := hx14.tr hx15
  have r91 := r84.ext hx15
  have r92 := r85.ext hx15
  refine vl rfl rfl xas <| nl <| wp_seq <| rg <| vl rfl rfl xmv <| vl rfl rfl (xeql rfl rfl) <| vl rfl rfl xmv <| gv rfl rfl rfl rfl (gw1 rfl) rfl (fun hc => xmva rfl) <| gv rfl rfl rfl rfl (gw1 rfl) rfl (fun hc => xeql (mv hc rfl) rfl) <| vl rfl rfl (xpa rfl rfl rfl) <| vl rfl rfl xmv <| gv rfl rfl rfl rfl (gw1 rfl) rfl (fun hc => xmva rfl) <| gv rfl rfl rfl rfl (gw1 rfl) rfl (fun hc => xeql (mv hc rfl) rfl) <| vl rfl rfl (xpa rfl rfl rfl) <| vl rfl rfl xmv <| gv rfl rfl rfl rfl (gw1 rfl) rfl (fun hc => xmva rfl) <| gv rfl rfl rfl rfl (gw1 rfl) rfl (fun hc => xeql (mv hc rfl) rfl) <| vl rfl rfl (xpa rfl rfl rfl) <| vl rfl rfl xmv <| gv rfl rfl rfl rfl (gw1 rfl) rfl (fun hc => xmva rfl) <| gv rfl rfl rfl rfl (gw1 rfl) rfl (fun hc => xeql (mv hc rfl) rfl) <| vl rfl rfl (xpa rfl rfl rfl) <| vl rfl rfl xmv <| gv rfl rfl rfl rfl (gw1 rfl) rfl (fun hc => xmva rfl) <| gm (fun v w => RV w v ([0, 3, 4] : List Int) ∧ Ext w16 w) rfl rfl rfl rfl (gw1 rfl) rfl (fun hc => sbsv (cs := [.int .i64 0, .int .i64 3, .int .i64 4]) Try.underlying22 ti3 rfl (pc rfl (pc rfl (pc rfl pn))) rfl rfl rfl rfl rfl fun b w' hx hg hb => nl ⟨_, rfl, (Row.lit (base := 0) (l := ([0, 3, 4] : List Int)) (Nat.zero_le _) hb rfl (ble rfl)).rv, hx⟩) (fun v1 w17 hy1 hn1 => ?_)
  have hx16 : Ext w16 w17 := gx (fun h => (hy1 h).2) (fun h => (hn1 h).2 ▸ Ext.refl _)
  have k79 := k69.tr hx16
  have k80 := k70.tr hx16
  have k81 := k71.tr hx16
  have k82 := k72.tr hx16
  have k83 := k73.tr hx16
  have k84 := k74.tr hx16
  have k85 := k75.tr hx16
  have k86 := k76.tr hx16
  have k87 := k77.tr hx16
  have k88 := k78.tr hx16
  have r93 := r92.ext hx16
  have r94 := r91.ext hx16
  have hz := bs hF; obtain ⟨x7, Ex7, hF⟩ := hz
  refine gc rfl rfl rfl rfl (gw1 rfl) rfl (fun hc => xc cb23 (mc (mv hc rfl) (mc rfl mn))) (fun hc => (c23 r94 ((hy1 hc).1) (gdp Ex7 hc))) (fun v2 w18 hy2 hn2 => ?_)
  have hx17 : Ext w17 w18 := gx (fun h => (hy2 h).2) (fun h => (hn2 h).2 ▸ Ext.refl _)
  have e5 := mkw (fun h => (hy2 h).1) (fun h => (hn2 h).1)
  have k89 := k79.tr hx17
  have k90 := k80.tr hx17
  have k91 := k81.tr hx17
  have k92 := k82.tr hx17
  have k93 := k83.tr hx17
  have k94 := k84.tr hx17
  have k95 := k85.tr hx17
  have k96 := k86.tr hx17
  have k97 := k87.tr hx17
  have k98 := k88.tr hx17
  have r95 := r93.ext hx17
  refine vl rfl rfl (xpa rfl e5 rfl) <| vl rfl rfl xmv <| gv rfl rfl rfl rfl (gw1 rfl) rfl (fun hc => xmva rfl) <| gm (fun v w => RV w v ([0, 3] : List Int) ∧ Ext w18 w) rfl rfl rfl rfl (gw1 rfl) rfl (fun hc => sbsv (cs := [.int .i64 0, .int .i64 3]) Try.underlying22 ti3 rfl (pc rfl (pc rfl pn)) rfl rfl rfl rfl rfl fun b w' hx hg hb => nl ⟨_, rfl, (Row.lit (base := 0) (l := ([0, 3] : List Int)) (Nat.zero_le _) hb rfl (ble rfl)).rv, hx⟩) (fun v3 w19 hy3 hn3 => ?_)
  have hx18 : Ext w18 w19 := gx (fun h => (hy3 h).2) (fun h => (hn3 h).2 ▸ Ext.refl _)
  have k99 := k89.tr hx18
  have k100 := k90.tr hx18
  have k101 := k91.tr hx18
  have k102 := k92.tr hx18
  have k103 := k93.tr hx18
  have k104 := k94.tr hx18
  have k105 := k95.tr hx18
  have k106 := k96.tr hx18
  have k107 := k97.tr hx18
  have k108 := k98.tr hx18
  have r96 := r95.ext hx18
  have hz := bs hF; obtain ⟨x8, Ex8, hF⟩ := hz
  refine gc rfl rfl rfl rfl (gw1 rfl) rfl (fun hc => xc cb23 (mc (mv hc rfl) (mc rfl mn))) (fun hc => (c23 r96 ((hy3 hc).1) (gdp Ex8 hc))) (fun v4 w20 hy4 hn4 => ?_)
  have hx19 : Ext w19 w20 := gx (fun h => (hy4 h).2) (fun h => (hn4 h).2 ▸ Ext.refl _)
  have e6 := mkw (fun h => (hy4 h).1) (fun h => (hn4 h).1)
  have k109 := k99.tr hx19
  have k110 := k100.tr hx19
  have k111 := k101.tr hx19
  have k112 := k102.tr hx19
  have k113 := k103.tr hx19
  have k114 := k104.tr hx19
  have k115 := k105.tr hx19
  have k116 := k106.tr hx19
  have k117 := k107.tr hx19
  have k118 := k108.tr hx19
  refine vl rfl rfl (xpa rfl e6 rfl) <| vl rfl rfl xmv <| gv rfl rfl rfl rfl (gw1 rfl) rfl (fun hc => xmva rfl) <| gv rfl rfl rfl rfl (gw1 rfl) rfl (fun hc => xeql (mv hc rfl) rfl) <| vl rfl rfl (xpa rfl rfl rfl) <| vl rfl rfl xmv <| ?_
  have hz := bs hF; obtain ⟨x9, Ex9, hF⟩ := hz
  refine gc rfl rfl rfl rfl (gw1 rfl) rfl (fun hc => xc cb15 mn) (fun hc => (c15 (gdp Ex9 hc))) (fun v5 w21 hy5 hn5 => ?_)
  have hx20 : Ext w20 w21 := gx (fun h => (hy5 h).2) (fun h => (hn5 h).2 ▸ Ext.refl _)
  have e7 := mkw (fun h => (hy5 h).1) (fun h => (hn5 h).1)
  have k119 := k109.tr hx20
  have k120 := k110.tr hx20
  have k121 := k111.tr hx20
  have k122 := k112.tr hx20
  have k123 := k113.tr hx20
  have k124 := k114.tr hx20
  have k125 := k115.tr hx20
  have k126 := k116.tr hx20
  have k127 := k117.tr hx20
  have k128 := k118.tr hx20
  refine vl rfl rfl (xpa rfl e7 rfl) <| vl rfl rfl xas <| nl <| ?_
  cases hF
  exact wp_ret <| rt rfl (.tmp rfl rfl .nil) ⟨rfl, k119⟩

set_option maxHeartbeats 4000000 in
theorem c13 {w0 : World} {v0 : Value} {x0 : (Int × (List Int) × (List ((List Int) × Int)) × (List ((List Int) × Int)) × (List (List Int)))} (r0 : RV w0 v0 x0) {v1 : Value} {x1 : (List Int)} (r1 : RV w0 v1 x1) {F : Nat} {r : Bool} (hF : law10_RightBooks F x0 x1 = some r) :
    Calls Try.prog 13 [v0, v1].toArray w0 (Ret fun v w' => v = .bool r ∧ Ext w0 w') := by
  unfold law10_RightBooks at hF
  have hz := id r0; obtain ⟨_, rfl, ⟨_, _, rfl, rfl, ⟨_, _, rfl, ⟨a1, cq1, rfl, p1, q3, e1⟩, ⟨_, _, rfl, ⟨a2, cq2, rfl, p2, q4, e2⟩, ⟨_, _, rfl, ⟨a3, cq3, rfl, p3, q5, e3⟩, ⟨a4, cq4, rfl, p4, q6, e4⟩⟩⟩⟩⟩⟩ := hz
  have r3 := RV.of1 p1 q3 e1
  have r4 := RV.of1 p2 q4 e2
  have r5 := RV.of1 p3 q5 e3
  have r6 := RV.of1 p4 q6 e4
  have hz := r1.sl; obtain ⟨a5, cq5, rfl, -, -, -⟩ := hz
  refine entr (n := 56) Try.func13 rfl rfl rfl <| wp_seq <| rg <| sbx rfl rfl fun b3 w1 hx1 hg1 hb1 => ?_
  have r7 := r1.ext hx1
  have r8 := r3.ext hx1
  have r9 := r4.ext hx1
  have r10 := r5.ext hx1
  have r11 := r6.ext hx1
  have r12 := r0.ext hx1
  refine vl rfl rfl xas <| nl <| wp_seq <| wp_seq <| rg <| vl rfl rfl (xlda rfl ti26 rfl (Bx.cs hb1)) <| ?_
  have hz := bs hF; obtain ⟨x3, Ex3, hF⟩ := hz
  refine cl rfl rfl (xc cb14 (mc rfl mn)) (c14 (show RV (α := (Int × (List Int) × (List ((List Int) × Int)) × (List ((List Int) × Int)) × (List (List Int)))) _ (.agg [.int .i64 x0.1, .slice a1 x0.2.1.length cq1, .slice a2 x0.2.2.1.length cq2, .slice a3 x0.2.2.2.1.length cq3, .slice a4 x0.2.2.2.2.length cq4].toArray) (x0.1, x0.2.1, x0.2.2.1, x0.2.2.2.1, x0.2.2.2.2) from ⟨_, rfl, ⟨[.int .i64 x0.1], [.slice a1 x0.2.1.length cq1] ++ ([.slice a2 x0.2.2.1.length cq2] ++ ([.slice a3 x0.2.2.2.1.length cq3] ++ [.slice a4 x0.2.2.2.2.length cq4])), rfl, rfl, ⟨[.slice a1 x0.2.1.length cq1], [.slice a2 x0.2.2.1.length cq2] ++ ([.slice a3 x0.2.2.2.1.length cq3] ++ [.slice a4 x0.2.2.2.2.length cq4]), rfl, r8.rep1, ⟨[.slice a2 x0.2.2.1.length cq2], [.slice a3 x0.2.2.2.1.length cq3] ++ [.slice a4 x0.2.2.2.2.length cq4], rfl, r9.rep1, ⟨[.slice a3 x0.2.2.2.1.length cq3], [.slice a4 x0.2.2.2.2.length cq4], rfl, r10.rep1, r11.rep1⟩⟩⟩⟩⟩) Ex3) ?_
  rintro _ w2 ⟨rfl, hx2⟩
  have k1 := hx1.tr hx2
  have hb2 := hb1.ext hx2
  have r13 := r8.ext hx2
  have r14 := r9.ext hx2
  have r15 := r10.ext hx2
  have r16 := r11.ext hx2
  have r17 := r7.ext hx2
  refine vl rfl rfl xmv <| gv rfl rfl rfl rfl (gw0 rfl) rfl (fun hc => xmva rfl) <| gv rfl rfl rfl rfl (gw0 rfl) rfl (fun hc => xlen (mv hc rfl) Try.underlying22) <| gv rfl rfl rfl rfl (gw0 rfl) rfl (fun hc => xgtr (mv hc rfl) rfl) <| vl rfl rfl (xpo rfl rfl rfl) <| nl <| cnd rfl (fun h3 => ?_) (fun h3 => ?_)
  ·
    have hF := ifp hF h3
    refine wp_seq <| rg <| ?_
    have hz := bs hF; obtain ⟨x4, Ex4, hF⟩ := hz
    refine cl rfl rfl (xc cb15 mn) (c15 Ex4) ?_
    rintro _ w3 ⟨rfl, hx3⟩
    have k2 := k1.tr hx3
    refine vl rfl rfl xas <| nl <| ?_
    cases hF
    exact wp_ret <| rt rfl (.tmp rfl rfl .nil) ⟨rfl, k2⟩
  ·
    have hF := ifn hF h3
    refine wp_skip <| wp_seq <| rg <| vl rfl rfl (xlda rfl ti26 rfl (Bx.cs hb2)) <| vl rfl rfl xmv <| ?_
    have hz := bs hF; obtain ⟨x5, Ex5, hF⟩ := hz
    refine cl rfl rfl (xc cb33 (mc rfl (mc rfl mn))) (c33 (show RV (α := (Int × (List Int) × (List ((List Int) × Int)) × (List ((List Int) × Int)) × (List (List Int)))) _ (.agg [.int .i64 x0.1, .slice a1 x0.2.1.length cq1, .slice a2 x0.2.2.1.length cq2, .slice a3 x0.2.2.2.1.length cq3, .slice a4 x0.2.2.2.2.length cq4].toArray) (x0.1, x0.2.1, x0.2.2.1, x0.2.2.2.1, x0.2.2.2.2) from ⟨_, rfl, ⟨[.int .i64 x0.1], [.slice a1 x0.2.1.length cq1] ++ ([.slice a2 x0.2.2.1.length cq2] ++ ([.slice a3 x0.2.2.2.1.length cq3] ++ [.slice a4 x0.2.2.2.2.length cq4])), rfl, rfl, ⟨[.slice a1 x0.2.1.length cq1], [.slice a2 x0.2.2.1.length cq2] ++ ([.slice a3 x0.2.2.2.1.length cq3] ++ [.slice a4 x0.2.2.2.2.length cq4]), rfl, r13.rep1, ⟨[.slice a2 x0.2.2.1.length cq2], [.slice a3 x0.2.2.2.1.length cq3] ++ [.slice a4 x0.2.2.2.2.length cq4], rfl, r14.rep1, ⟨[.slice a3 x0.2.2.2.1.length cq3], [.slice a4 x0.2.2.2.2.length cq4], rfl, r15.rep1, r16.rep1⟩⟩⟩⟩⟩) r17 Ex5) ?_
    rintro _ w4 ⟨u1, rfl, r18, hx4⟩
    have k3 := k1.tr hx4
    have hb3 := hb2.ext hx4
    have r19 := r13.ext hx4
    have r20 := r14.ext hx4
    have r21 := r15.ext hx4
    have r22 := r16.ext hx4
    have r23 := r17.ext hx4
    have hz := RV.sl r18; obtain ⟨a6, cq6, rfl, -, -, -⟩ := hz
    refine vl rfl rfl xmv <| vl rfl rfl (xext rfl rfl) <| vl rfl rfl (xext rfl rfl) <| vl rfl rfl xas <| vl rfl rfl xas <| nl <| wp_seq <| rg <| vl rfl rfl (xlda rfl ti26 rfl (Bx.cs hb3)) <| vl rfl rfl xmv <| ?_
    have hz := bs hF; obtain ⟨x6, Ex6, hF⟩ := hz
    refine cl rfl rfl (xc cb40 (mc rfl (mc rfl mn))) (c40 (show RV (α := (Int × (List Int) × (List ((List Int) × Int)) × (List ((List Int) × Int)) × (List (List Int)))) _ (.agg [.int .i64 x0.1, .slice a1 x0.2.1.length cq1, .slice a2 x0.2.2.1.length cq2, .slice a3 x0.2.2.2.1.length cq3, .slice a4 x0.2.2.2.2.length cq4].toArray) (x0.1, x0.2.1, x0.2.2.1, x0.2.2.2.1, x0.2.2.2.2) from ⟨_, rfl, ⟨[.int .i64 x0.1], [.slice a1 x0.2.1.length cq1] ++ ([.slice a2 x0.2.2.1.length cq2] ++ ([.slice a3 x0.2.2.2.1.length cq3] ++ [.slice a4 x0.2.2.2.2.length cq4])), rfl, rfl, ⟨[.slice a1 x0.2.1.length cq1], [.slice a2 x0.2.2.1.length cq2] ++ ([.slice a3 x0.2.2.2.1.length cq3] ++ [.slice a4 x0.2.2.2.2.length cq4]), rfl, r19.rep1, ⟨[.slice a2 x0.2.2.1.length cq2], [.slice a3 x0.2.2.2.1.length cq3] ++ [.slice a4 x0.2.2.2.2.length cq4], rfl, r20.rep1, ⟨[.slice a3 x0.2.2.2.1.length cq3], [.slice a4 x0.2.2.2.2.length cq4], rfl, r21.rep1, r22.rep1⟩⟩⟩⟩⟩) r23 Ex6) ?_
    rintro _ w5 ⟨u2, rfl, r24, hx5⟩
    have k4 := k3.tr hx5
    have hb4 := hb3.ext hx5
    have r25 := r19.ext hx5
    have r26 := r20.ext hx5
    have r27 := r21.ext hx5
    have r28 := r22.ext hx5
    have r29 := r23.ext hx5
    have r30 := r18.ext hx5
    have hz := RV.sl r24; obtain ⟨a7, cq7, rfl, -, -, -⟩ := hz
    refine vl rfl rfl xmv <| vl rfl rfl (xext rfl rfl) <| vl rfl rfl (xext rfl rfl) <| vl rfl rfl xas <| vl rfl rfl xas <| nl <| wp_seq <| wpl [] (.pure false 0 (.pure false 2 (.eff 1 (.eff 3 (.pure true 4 (.pure true 5 (.pure true 6 (.pure true 7 (.eff 8 (.pure true 9 (.pure true 10 (.pure true 11 (.pure true 12 (.pure true 13 (.pure true 14 (.pure true 15 (.pure false 16 (.pure true 17 (.pure false 19 (.pure true 20 (.eff 18 (.eff 21 (.pure true 22 (.pure true 23 (.pure true 24 (.eff 25 (.pure true 26 (.pure true 27 .fin)) .stop)))) .stop) .stop)))))))))))) .stop))))) .stop) .stop))) mixed (by kernel_rfl) (fun w6 hx6 => ?_)
    have k5 := k4.tr hx6
    have hb5 := hb4.ext hx6
    have r31 := r25.ext hx6
    have r32 := r26.ext hx6
    have r33 := r27.ext hx6
    have r34 := r28.ext hx6
    have r35 := r29.ext hx6
    have r36 := r30.ext hx6
    have r37 := r24.ext hx6
    refine pv rfl rfl rfl (fun _ hS => xlda rfl ti26 rfl (Bx.cs (hb5.ext (hS.resolve_left nofun)))) (.inr (Ext.refl _)) <| pv rfl rfl rfl (fun _ hS => xlda rfl ti26 rfl (Bx.cs (hb5.ext (hS.resolve_left nofun)))) (.inr (Ext.refl _)) <| ?_
    have hz := bs hF; obtain ⟨x7, Ex7, hF⟩ := hz
    refine pe1 rfl <| cl rfl rfl (xc cb41 (mc rfl mn)) (c41 (show RV (α := (Int × (List Int) × (List ((List Int) × Int)) × (List ((List Int) × Int)) × (List (List Int)))) _ (.agg [.int .i64 x0.1, .slice a1 x0.2.1.length cq1, .slice a2 x0.2.2.1.length cq2, .slice a3 x0.2.2.2.1.length cq3, .slice a4 x0.2.2.2.2.length cq4].toArray) (x0.1, x0.2.1, x0.2.2.1, x0.2.2.2.1, x0.2.2.2.2) from ⟨_, rfl, ⟨[.int .i64 x0.1], [.slice a1 x0.2.1.length cq1] ++ ([.slice a2 x0.2.2.1.length cq2] ++ ([.slice a3 x0.2.2.2.1.length cq3] ++ [.slice a4 x0.2.2.2.2.length cq4])), rfl, rfl, ⟨[.slice a1 x0.2.1.length cq1], [.slice a2 x0.2.2.1.length cq2] ++ ([.slice a3 x0.2.2.2.1.length cq3] ++ [.slice a4 x0.2.2.2.2.length cq4]), rfl, r31.rep1, ⟨[.slice a2 x0.2.2.1.length cq2], [.slice a3 x0.2.2.2.1.length cq3] ++ [.slice a4 x0.2.2.2.2.length cq4], rfl, r32.rep1, ⟨[.slice a3 x0.2.2.2.1.length cq3], [.slice a4 x0.2.2.2.2.length cq4], rfl, r33.rep1, r34.rep1⟩⟩⟩⟩⟩) Ex7) ?_
    rintro _ w7 ⟨rfl, hx7⟩
    have k6 := k5.tr hx7
    have hb6 := hb5.ext hx7
    have r38 := r31.ext hx7
    have r39 := r32.ext hx7
    have r40 := r33.ext hx7
    have r41 := r34.ext hx7
    have r42 := r35.ext hx7
    have r43 := r36.ext hx7
    have r44 := r37.ext hx7
    refine nl ⟨fun _ _ => hx7, ?_⟩
    have hz := bs hF; obtain ⟨x8, Ex8, hF⟩ := hz
    refine pe1 rfl <| cl rfl rfl (xc cb29 (mc rfl mn)) (c29 (show RV (α := (Int × (List Int) × (List ((List Int) × Int)) × (List ((List Int) × Int)) × (List (List Int)))) _ (.agg [.int .i64 x0.1, .slice a1 x0.2.1.length cq1, .slice a2 x0.2.2.1.length cq2, .slice a3 x0.2.2.2.1.length cq3, .slice a4 x0.2.2.2.2.length cq4].toArray) (x0.1, x0.2.1, x0.2.2.1, x0.2.2.2.1, x0.2.2.2.2) from ⟨_, rfl, ⟨[.int .i64 x0.1], [.slice a1 x0.2.1.length cq1] ++ ([.slice a2 x0.2.2.1.length cq2] ++ ([.slice a3 x0.2.2.2.1.length cq3] ++ [.slice a4 x0.2.2.2.2.length cq4])), rfl, rfl, ⟨[.slice a1 x0.2.1.length cq1], [.slice a2 x0.2.2.1.length cq2] ++ ([.slice a3 x0.2.2.2.1.length cq3] ++ [.slice a4 x0.2.2.2.2.length cq4]), rfl, r38.rep1, ⟨[.slice a2 x0.2.2.1.length cq2], [.slice a3 x0.2.2.2.1.length cq3] ++ [.slice a4 x0.2.2.2.2.length cq4], rfl, r39.rep1, ⟨[.slice a3 x0.2.2.2.1.length cq3], [.slice a4 x0.2.2.2.2.length cq4], rfl, r40.rep1, r41.rep1⟩⟩⟩⟩⟩) Ex8) ?_
    rintro _ w8 ⟨rfl, hx8⟩
    have k7 := k6.tr hx8
    have k8 := hx7.tr hx8
    have hb7 := hb6.ext hx8
    have r45 := r38.ext hx8
    have r46 := r39.ext hx8
    have r47 := r40.ext hx8
    have r48 := r41.ext hx8
    have r49 := r42.ext hx8
    have r50 := r43.ext hx8
    have r51 := r44.ext hx8
    refine nl ⟨fun _ _ => k8, ?_⟩
    refine pv rfl rfl rfl (fun _ _ => xeql rfl rfl) (.inl rfl) <| pv rfl rfl rfl (fun _ _ => xmv) (.inl rfl) <| pgv rfl rfl rfl rfl rfl (gw1 rfl) rfl (fun hc => (fun _ _ => xmva rfl)) (.inl rfl) <| pgv rfl rfl rfl rfl rfl (gw1 rfl) rfl (fun hc => (fun _ _ => xmva rfl)) (.inl rfl) <| ?_
    have hz := bs hF; obtain ⟨x9, Ex9, hF⟩ := hz
    refine pe1 rfl <| gc rfl rfl rfl rfl (gw1 rfl) rfl (fun hc => xc cb23 (mc (mv hc rfl) (mc (mv hc rfl) mn))) (fun hc => (c23 r50 r51 (gdp Ex9 hc))) (fun v3 w9 hy1 hn1 => ?_)
    have hx9 : Ext w8 w9 := gx (fun h => (hy1 h).2) (fun h => (hn1 h).2 ▸ Ext.refl _)
    have e5 := mkw (fun h => (hy1 h).1) (fun h => (hn1 h).1)
    have k9 := k7.tr hx9
    have k10 := k8.tr hx9
    have hb8 := hb7.ext hx9
    have r52 := r45.ext hx9
    have r53 := r46.ext hx9
    have r54 := r47.ext hx9
    have r55 := r48.ext hx9
    have r56 := r49.ext hx9
    refine nl ⟨fun _ _ => k10, ?_⟩
    refine pv rfl rfl rfl (fun _ _ => xpa rfl e5 rfl) (.inl rfl) <| pv rfl rfl rfl (fun _ _ => xmv) (.inl rfl) <| pgv rfl rfl rfl rfl rfl (gw1 rfl) rfl (fun hc => (fun _ _ => xmva rfl)) (.inl rfl) <| pgv rfl rfl rfl rfl rfl (gw1 rfl) rfl (fun hc => (fun _ _ => xmva rfl)) (.inl rfl) <| pgv rfl rfl rfl rfl rfl (gw1 rfl) rfl (fun hc => (fun _ _ => xeql (mv hc rfl) (mv hc rfl))) (.inl rfl) <| pv rfl rfl rfl (fun _ _ => xpa rfl rfl rfl) (.inl rfl) <| pv rfl rfl rfl (fun _ _ => xmv) (.inl rfl) <| pgv rfl rfl rfl rfl rfl (gw1 rfl) rfl (fun hc => (fun _ hS => xlda rfl ti26 rfl (Bx.cs (hb5.ext (hS.resolve_left nofun))))) (.inr k10) <| pgv rfl rfl rfl rfl rfl (gw1 rfl) rfl (fun hc => (fun _ _ => xmva rfl)) (.inl rfl) <| pgv rfl rfl rfl rfl rfl (gw1 rfl) rfl (fun hc => (fun _ hS => xlda rfl ti26 rfl (Bx.cs (hb5.ext (hS.resolve_left nofun))))) (.inr k10) <| pgv rfl rfl rfl rfl rfl (gw1 rfl) rfl (fun hc => (fun _ _ => xmva rfl)) (.inl rfl) <| ?_
    have hz := bs hF; obtain ⟨x10, Ex10, hF⟩ := hz
    refine pe1 rfl <| gc rfl rfl rfl rfl (gw1 rfl) rfl (fun hc => xc cb32 (mc (mv hc rfl) (mc (mv hc rfl) mn))) (fun hc => (c32 (show RV (α := (Int × (List Int) × (List ((List Int) × Int)) × (List ((List Int) × Int)) × (List (List Int)))) _ (.agg [.int .i64 x0.1, .slice a1 x0.2.1.length cq1, .slice a2 x0.2.2.1.length cq2, .slice a3 x0.2.2.2.1.length cq3, .slice a4 x0.2.2.2.2.length cq4].toArray) (x0.1, x0.2.1, x0.2.2.1, x0.2.2.2.1, x0.2.2.2.2) from ⟨_, rfl, ⟨[.int .i64 x0.1], [.slice a1 x0.2.1.length cq1] ++ ([.slice a2 x0.2.2.1.length cq2] ++ ([.slice a3 x0.2.2.2.1.length cq3] ++ [.slice a4 x0.2.2.2.2.length cq4])), rfl, rfl, ⟨[.slice a1 x0.2.1.length cq1], [.slice a2 x0.2.2.1.length cq2] ++ ([.slice a3 x0.2.2.2.1.length cq3] ++ [.slice a4 x0.2.2.2.2.length cq4]), rfl, r52.rep1, ⟨[.slice a2 x0.2.2.1.length cq2], [.slice a3 x0.2.2.2.1.length cq3] ++ [.slice a4 x0.2.2.2.2.length cq4], rfl, r53.rep1, ⟨[.slice a3 x0.2.2.2.1.length cq3], [.slice a4 x0.2.2.2.2.length cq4], rfl, r54.rep1, r55.rep1⟩⟩⟩⟩⟩) r56 (gdp Ex10 hc))) (fun v4 w10 hy2 hn2 => ?_)
    have hx10 : Ext w9 w10 := gx (fun h => (hy2 h).2) (fun h => (hn2 h).2 ▸ Ext.refl _)
    have e6 := mkw (fun h => (hy2 h).1) (fun h => (hn2 h).1)
    have k11 := k9.tr hx10
    have k12 := k10.tr hx10
    have r57 := r52.ext hx10
    have r58 := r53.ext hx10
    have r59 := r54.ext hx10
    have r60 := r55.ext hx10
    have r61 := r56.ext hx10
    refine nl ⟨fun _ _ => k12, ?_⟩
    have hz := bs hF; obtain ⟨x11, Ex11, hF⟩ := hz
    refine pe1 rfl <| gc rfl rfl rfl rfl (gw1 rfl) rfl (fun hc => xc cb37 (mc (mv hc rfl) (mc (mv hc rfl) mn))) (fun hc => (c37 (show RV (α := (Int × (List Int) × (List ((List Int) × Int)) × (List ((List Int) × Int)) × (List (List Int)))) _ (.agg [.int .i64 x0.1, .slice a1 x0.2.1.length cq1, .slice a2 x0.2.2.1.length cq2, .slice a3 x0.2.2.2.1.length cq3, .slice a4 x0.2.2.2.2.length cq4].toArray) (x0.1, x0.2.1, x0.2.2.1, x0.2.2.2.1, x0.2.2.2.2) from ⟨_, rfl, ⟨[.int .i64 x0.1], [.slice a1 x0.2.1.length cq1] ++ ([.slice a2 x0.2.2.1.length cq2] ++ ([.slice a3 x0.2.2.2.1.length cq3] ++ [.slice a4 x0.2.2.2.2.length cq4])), rfl, rfl, ⟨[.slice a1 x0.2.1.length cq1], [.slice a2 x0.2.2.1.length cq2] ++ ([.slice a3 x0.2.2.2.1.length cq3] ++ [.slice a4 x0.2.2.2.2.length cq4]), rfl, r57.rep1, ⟨[.slice a2 x0.2.2.1.length cq2], [.slice a3 x0.2.2.2.1.length cq3] ++ [.slice a4 x0.2.2.2.2.length cq4], rfl, r58.rep1, ⟨[.slice a3 x0.2.2.2.1.length cq3], [.slice a4 x0.2.2.2.2.length cq4], rfl, r59.rep1, r60.rep1⟩⟩⟩⟩⟩) r61 (gdp Ex11 hc))) (fun v5 w11 hy3 hn3 => ?_)
    have hx11 : Ext w10 w11 := gx (fun h => (hy3 h).2) (fun h => (hn3 h).2 ▸ Ext.refl _)
    have e7 := mkw (fun h => (hy3 h).1) (fun h => (hn3 h).1)
    have k13 := k11.tr hx11
    have k14 := k12.tr hx11
    refine nl ⟨fun _ _ => k14, ?_⟩
    refine pgv rfl rfl rfl rfl rfl (gw1 rfl) rfl (fun hc => (fun _ _ => xeql (mv hc e6) (mv hc e7))) (.inl rfl) <| pv rfl rfl rfl (fun _ _ => xpa rfl rfl rfl) (.inl rfl) <| pv rfl rfl rfl (fun _ _ => xmv) (.inl rfl) <| ?_
    have hz := bs hF; obtain ⟨x12, Ex12, hF⟩ := hz
    refine pe1 rfl <| gc rfl rfl rfl rfl (gw1 rfl) rfl (fun hc => xc cb15 mn) (fun hc => (c15 (gdp Ex12 hc))) (fun v6 w12 hy4 hn4 => ?_)
    have hx12 : Ext w11 w12 := gx (fun h => (hy4 h).2) (fun h => (hn4 h).2 ▸ Ext.refl _)
    have e8 := mkw (fun h => (hy4 h).1) (fun h => (hn4 h).1)
    have k15 := k13.tr hx12
    have k16 := k14.tr hx12
    refine nl ⟨fun _ _ => k16, ?_⟩
    refine pv rfl rfl rfl (fun _ _ => xpa rfl e8 rfl) (.inl rfl) <| pv rfl rfl rfl (fun _ _ => xas) (.inl rfl) <| ?_
    cases hF
    exact wp_ret <| rt rfl (.tmp rfl rfl .nil) ⟨rfl, k15⟩
end Go.Proofs.Ytdimoehnkagghaa
