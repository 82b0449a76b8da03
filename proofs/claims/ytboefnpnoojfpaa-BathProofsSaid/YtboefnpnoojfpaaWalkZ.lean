/-
  Each function of the program returns what its pure function computes, and leaves all memory that was there as it was. Condition: the pure function computes something.
-/
import Derived.Test.YtboefnpnoojfpaaFacts
import Derived.Test.YtboefnpnoojfpaaPureZ
import Derived.Test.YtboefnpnoojfpaaMore
import Derived.Test.YtboefnpnoojfpaaWalkA
namespace Go.Proofs.Ytboefnpnoojfpaa
open Go Go.Md Go.RowKit
attribute [local irreducible] Go.wpList Go.Code.wp Go.Calls Go.Md.Rnd Go.Md.Mt Go.Md.MtM Go.Md.RndM Go.Code.wpIn

set_option maxHeartbeats 4000000 in
theorem c21 {w0 : World} {v0 : Value} {x0 : ((List Int) × (List ((List Int) × (List Int))))} (r0 : RV w0 v0 x0) {v1 : Value} {x1 : (List Int)} (r1 : RV w0 v1 x1) {v2 : Value} {x2 : (List Int)} (r2 : RV w0 v2 x2) {F : Nat} {r : (Int × Int)} (hF : ref11_Fewest F x0 x1 x2 = some r) :
    Calls Try.prog 21 [v0, v1, v2].toArray w0 (Ret fun v w' => v = .tuple #[.int .i64 r.1, .int .i64 r.2] ∧ Ext w0 w') := by
  unfold ref11_Fewest at hF
  have hz := id r0; obtain ⟨_, rfl, ⟨_, _, rfl, ⟨a1, cq1, rfl, p1, q4, e1⟩, ⟨a2, cq2, rfl, p2, q5, e2⟩⟩⟩ := hz
  have r4 := RV.of1 p1 q4 e1
  have r5 := RV.of1 p2 q5 e2
  have hz := r1.sl; obtain ⟨a3, cq3, rfl, -, -, -⟩ := hz
  have hz := r2.sl; obtain ⟨a4, cq4, rfl, -, -, -⟩ := hz
  refine entr (n := 29) Try.func21 rfl rfl rfl <| wp_seq <| rg <| sbx rfl rfl fun b4 w1 hx1 hg1 hb1 => ?_
  have r6 := r1.ext hx1
  have r7 := r2.ext hx1
  have r8 := r4.ext hx1
  have r9 := r5.ext hx1
  have r10 := r0.ext hx1
  refine vl rfl rfl xas <| vl rfl rfl xas <| nl <| wp_seq <| wp_seq <| rg <| vl rfl rfl (xlda rfl ti25 rfl (Bx.cs hb1)) <| vl rfl rfl xmv <| vl rfl rfl xmv <| ?_
  have hz := bs hF; obtain ⟨x4, Ex4, hF⟩ := hz
  refine cl rfl rfl (xc cb41 (mc rfl (mc rfl (mc rfl mn)))) (c41 (show RV (α := ((List Int) × (List ((List Int) × (List Int))))) _ (.agg [.slice a1 x0.1.length cq1, .slice a2 x0.2.length cq2].toArray) (x0.1, x0.2) from ⟨_, rfl, ⟨[.slice a1 x0.1.length cq1], [.slice a2 x0.2.length cq2], rfl, r8.rep1, r9.rep1⟩⟩) r6 r7 Ex4) ?_
  rintro _ w2 ⟨rfl, hx2⟩
  have k1 := hx1.tr hx2
  have hb2 := hb1.ext hx2
  have r11 := r8.ext hx2
  have r12 := r9.ext hx2
  have r13 := r6.ext hx2
  have r14 := r7.ext hx2
  refine vl rfl rfl (xneq rfl rfl) <| nl <| cnd rfl (fun h4 => ?_) (fun h4 => ?_)
  ·
    have hF := ifp hF h4
    refine wp_seq <| rg <| vl rfl rfl (xlda rfl ti25 rfl (Bx.cs hb2)) <| vl rfl rfl xmv <| vl rfl rfl xmv <| ?_
    have hz := bs hF; obtain ⟨x5, Ex5, hF⟩ := hz
    refine cl rfl rfl (xc cb41 (mc rfl (mc rfl (mc rfl mn)))) (c41 (show RV (α := ((List Int) × (List ((List Int) × (List Int))))) _ (.agg [.slice a1 x0.1.length cq1, .slice a2 x0.2.length cq2].toArray) (x0.1, x0.2) from ⟨_, rfl, ⟨[.slice a1 x0.1.length cq1], [.slice a2 x0.2.length cq2], rfl, r11.rep1, r12.rep1⟩⟩) r13 r14 Ex5) ?_
    rintro _ w3 ⟨rfl, hx3⟩
    have k2 := k1.tr hx3
    refine vl rfl rfl xas <| vl rfl rfl xas <| nl <| ?_
    cases hF
    exact wp_ret <| rt rfl (.tmp rfl rfl (.tmp rfl rfl .nil)) ⟨rfl, k2⟩
  ·
    have hF := ifn hF h4
    refine wp_skip <| wp_seq <| wpl [] (.pure false 0 (.pure true 1 (.pure false 3 (.pure true 4 (.eff 2 (.eff 5 (.pure true 6 (.eff 7 (.pure true 8 .fin) .stop)) .stop) .stop))))) mixed (by kernel_rfl) (fun w4 hx4 => ?_)
    have k3 := k1.tr hx4
    have hb3 := hb2.ext hx4
    have r15 := r11.ext hx4
    have r16 := r12.ext hx4
    have r17 := r13.ext hx4
    have r18 := r14.ext hx4
    refine pv rfl rfl rfl (fun _ hS => xlda rfl ti25 rfl (Bx.cs (hb3.ext (hS.resolve_left nofun)))) (.inr (Ext.refl _)) <| pv rfl rfl rfl (fun _ _ => xmv) (.inl rfl) <| pv rfl rfl rfl (fun _ hS => xlda rfl ti25 rfl (Bx.cs (hb3.ext (hS.resolve_left nofun)))) (.inr (Ext.refl _)) <| pv rfl rfl rfl (fun _ _ => xmv) (.inl rfl) <| ?_
    have hz := bs hF; obtain ⟨x6, Ex6, hF⟩ := hz
    refine pe1 rfl <| cl rfl rfl (xc cb60 (mc rfl (mc rfl mn))) (c60 (show RV (α := ((List Int) × (List ((List Int) × (List Int))))) _ (.agg [.slice a1 x0.1.length cq1, .slice a2 x0.2.length cq2].toArray) (x0.1, x0.2) from ⟨_, rfl, ⟨[.slice a1 x0.1.length cq1], [.slice a2 x0.2.length cq2], rfl, r15.rep1, r16.rep1⟩⟩) r17 Ex6) ?_
    rintro _ w5 ⟨u1, rfl, r19, hx5⟩
    have k4 := k3.tr hx5
    have r20 := r15.ext hx5
    have r21 := r16.ext hx5
    have r22 := r18.ext hx5
    have hz := RV.sl r19; obtain ⟨a5, cq5, rfl, -, -, -⟩ := hz
    refine nl ⟨fun _ _ => hx5, ?_⟩
    have hz := bs hF; obtain ⟨x7, Ex7, hF⟩ := hz
    refine pe1 rfl <| cl rfl rfl (xc cb61 (mc rfl (mc rfl mn))) (c61 (show RV (α := ((List Int) × (List ((List Int) × (List Int))))) _ (.agg [.slice a1 x0.1.length cq1, .slice a2 x0.2.length cq2].toArray) (x0.1, x0.2) from ⟨_, rfl, ⟨[.slice a1 x0.1.length cq1], [.slice a2 x0.2.length cq2], rfl, r20.rep1, r21.rep1⟩⟩) r22 Ex7) ?_
    rintro _ w6 ⟨rfl, hx6⟩
    have k5 := k4.tr hx6
    have k6 := hx5.tr hx6
    have r23 := r19.ext hx6
    refine nl ⟨fun _ _ => k6, ?_⟩
    have hz := bs hF; obtain ⟨x8, Ex8, hF⟩ := hz
    have hz := (RV.els r23).ix Ex8; obtain ⟨b5, f1, cs4, e3, i1, i2, q6, hc1⟩ := hz
    cases e3
    obtain rfl := q6
    refine pv rfl rfl rfl (fun _ _ => xixs rfl rfl Try.underlying26 ti3 i1 i2) (.inl rfl) <| pe1 rfl <| vl rfl rfl (xld rfl ti3 (hc1.at 0 rfl)) <| nl ⟨fun _ _ => k6, ?_⟩
    refine pv rfl rfl rfl (fun _ _ => xas) (.inl rfl) <| wp_seq <| wp_seq <| rg <| vl rfl rfl xmv <| vl rfl rfl (xlss rfl rfl) <| nl <| cnd rfl (fun h5 => ?_) (fun h5 => ?_)
    ·
      have hF := ifp hF h5
      refine wp_seq <| rg <| vl rfl rfl xas <| vl rfl rfl xas <| nl <| ?_
      cases hF
      exact wp_ret <| rt rfl (.tmp rfl rfl (.tmp rfl rfl .nil)) ⟨rfl, k5⟩
    ·
      have hF := ifn hF h5
      refine wp_skip <| wp_seq <| rg <| vl rfl rfl xmv <| vl rfl rfl xas <| vl rfl rfl xas <| nl <| ?_
      cases hF
      exact wp_ret <| rt rfl (.tmp rfl rfl (.tmp rfl rfl .nil)) ⟨rfl, k5⟩

set_option maxHeartbeats 4000000 in
theorem c23 {w0 : World} {v0 : Value} {x0 : ((List Int) × (List ((List Int) × (List Int))))} (r0 : RV w0 v0 x0) {v1 : Value} {x1 : (List Int)} (r1 : RV w0 v1 x1) {F : Nat} {r : (Int × Int)} (hF : ref11_Stocks F x0 x1 = some r) :
    Calls Try.prog 23 [v0, v1].toArray w0 (Ret fun v w' => v = .tuple #[.int .i64 r.1, .int .i64 r.2] ∧ Ext w0 w') := by
  unfold ref11_Stocks at hF
  have hz := id r0; obtain ⟨_, rfl, ⟨_, _, rfl, ⟨a1, cq1, rfl, p1, q3, e1⟩, ⟨a2, cq2, rfl, p2, q4, e2⟩⟩⟩ := hz
  have r3 := RV.of1 p1 q3 e1
  have r4 := RV.of1 p2 q4 e2
  have hz := r1.sl; obtain ⟨a3, cq3, rfl, -, -, -⟩ := hz
  refine entr (n := 33) Try.func23 rfl rfl rfl <| wp_seq <| rg <| sbx rfl rfl fun b3 w1 hx1 hg1 hb1 => ?_
  have r5 := r1.ext hx1
  have r6 := r3.ext hx1
  have r7 := r4.ext hx1
  have r8 := r0.ext hx1
  refine vl rfl rfl xas <| vl rfl rfl xas <| nl <| wp_seq <| wp_seq <| rg <| vl rfl rfl (xlda rfl ti25 rfl (Bx.cs hb1)) <| vl rfl rfl xmv <| ?_
  have hz := bs hF; obtain ⟨x3, Ex3, hF⟩ := hz
  refine cl rfl rfl (xc cb31 (mc rfl (mc rfl mn))) (c31 (show RV (α := ((List Int) × (List ((List Int) × (List Int))))) _ (.agg [.slice a1 x0.1.length cq1, .slice a2 x0.2.length cq2].toArray) (x0.1, x0.2) from ⟨_, rfl, ⟨[.slice a1 x0.1.length cq1], [.slice a2 x0.2.length cq2], rfl, r6.rep1, r7.rep1⟩⟩) r5 Ex3) ?_
  rintro _ w2 ⟨rfl, hx2⟩
  have k1 := hx1.tr hx2
  have hb2 := hb1.ext hx2
  have r9 := r6.ext hx2
  have r10 := r7.ext hx2
  have r11 := r5.ext hx2
  refine vl rfl rfl (xneq rfl rfl) <| nl <| cnd rfl (fun h3 => ?_) (fun h3 => ?_)
  ·
    have hF := ifp hF h3
    refine wp_seq <| rg <| vl rfl rfl (xlda rfl ti25 rfl (Bx.cs hb2)) <| vl rfl rfl xmv <| ?_
    have hz := bs hF; obtain ⟨x4, Ex4, hF⟩ := hz
    refine cl rfl rfl (xc cb31 (mc rfl (mc rfl mn))) (c31 (show RV (α := ((List Int) × (List ((List Int) × (List Int))))) _ (.agg [.slice a1 x0.1.length cq1, .slice a2 x0.2.length cq2].toArray) (x0.1, x0.2) from ⟨_, rfl, ⟨[.slice a1 x0.1.length cq1], [.slice a2 x0.2.length cq2], rfl, r9.rep1, r10.rep1⟩⟩) r11 Ex4) ?_
    rintro _ w3 ⟨rfl, hx3⟩
    have k2 := k1.tr hx3
    refine vl rfl rfl xas <| vl rfl rfl xas <| nl <| ?_
    cases hF
    exact wp_ret <| rt rfl (.tmp rfl rfl (.tmp rfl rfl .nil)) ⟨rfl, k2⟩
  ·
    have hF := ifn hF h3
    refine wp_skip <| wp_seq <| rg <| vl rfl rfl (xlda rfl ti25 rfl (Bx.cs hb2)) <| vl rfl rfl xmv <| ?_
    have hz := bs hF; obtain ⟨x5, Ex5, hF⟩ := hz
    refine cl rfl rfl (xc cb60 (mc rfl (mc rfl mn))) (c60 (show RV (α := ((List Int) × (List ((List Int) × (List Int))))) _ (.agg [.slice a1 x0.1.length cq1, .slice a2 x0.2.length cq2].toArray) (x0.1, x0.2) from ⟨_, rfl, ⟨[.slice a1 x0.1.length cq1], [.slice a2 x0.2.length cq2], rfl, r9.rep1, r10.rep1⟩⟩) r11 Ex5) ?_
    rintro _ w4 ⟨u1, rfl, r12, hx4⟩
    have k3 := k1.tr hx4
    have hz := RV.sl r12; obtain ⟨a4, cq4, rfl, -, -, -⟩ := hz
    refine vl rfl rfl xas <| nl <| wp_seq <| rg <| vl rfl rfl xas <| nl <| wp_seq <| wp_seq <| rg <| vl rfl rfl xas <| nl <| ?_
    have hz := bs hF; obtain ⟨z1, hB1, hF⟩ := hz
    refine ct (fun L w => L 7 = .int .i64 z1 ∧ Ext w4 w) ?_ ?_
    ·
      refine wp_block <| lp (I := fun m L w => ∃ y1 : Int, ∃ y2 : Int, ref11_Stocks_l1 F x5 m y1 y2  = some z1 ∧ L 7 = .int .i64 y1 ∧ L 8 = .int .i64 y2 ∧ L 6 = .slice a4 x5.length cq4 ∧ Ext w4 w) F ⟨_, _, hB1, rfl, rfl, rfl, (Ext.refl _)⟩ ?_
      rintro m L w5 ⟨y1, y2, hB1, l7_i1, l8_i1, l6_i1, K0_i1⟩
      rcases m with _ | m
      · rw [ref11_Stocks_l1] at hB1; cases hB1
      rw [ref11_Stocks_l1] at hB1
      have k4 := k3.tr K0_i1
      have r13 := r12.ext K0_i1
      refine wp_seq <| wp_seq <| rg <| vl rfl rfl xmv <| vl rfl rfl xmv <| vl rfl rfl (xlen l6_i1 Try.underlying26) <| vl rfl rfl (xlss l8_i1 rfl) <| nl <| cnd rfl (fun h4 => ?_) (fun h4 => ?_)
      ·
        have hB1 := ifp hB1 h4
        refine wp_skip <| wp_seq <| ?_
        have hz := bs hB1; obtain ⟨y3, hB3, hB1⟩ := hz
        refine ct (fun L w => L 7 = .int .i64 y3 ∧ L 6 = .slice a4 x5.length cq4 ∧ L 8 = .int .i64 y2 ∧ Ext w5 w) ?_ ?_
        ·
          refine wp_block <| wp_seq <| rg <| vl rfl rfl xmv <| vl rfl rfl xmv <| ?_
          have hz := bs hB3; obtain ⟨x6, Ex6, hB3⟩ := hz
          have hz := (RV.els r12).ix Ex6; obtain ⟨b4, f1, cs3, e3, i2, i3, q5, hc1⟩ := hz
          cases e3
          obtain rfl := q5
          have hc2 := hc1.ext K0_i1
          refine vl rfl rfl (xixs l6_i1 l8_i1 Try.underlying26 ti3 i2 i3) <| vl rfl rfl (xld rfl ti3 (hc2.at 0 rfl)) <| vl rfl rfl (xgeq rfl rfl) <| nl <| ?_
          have hz := bs hB3; obtain ⟨y4, hB4, hB3⟩ := hz
          refine ct (fun L w => L 7 = .int .i64 y4 ∧ L 6 = .slice (some ⟨b4, f1, none⟩) x5.length cq4 ∧ L 8 = .int .i64 y2 ∧ Ext w5 w) ?_ ?_
          ·
            refine cnd rfl (fun h5 => ?_) (fun h5 => ?_)
            ·
              have hB4 := ifp hB4 h5
              refine rg <| vl rfl rfl xmv <| vl rfl rfl (xadd l7_i1 rfl) <| vl rfl rfl xas <| nl <| ?_
              cases hB4
              refine lf <| ?_
              exact ⟨rfl, l6_i1, l8_i1, (Ext.refl _)⟩
            ·
              have hB4 := ifn hB4 h5
              refine wp_skip <| ?_
              cases hB4
              refine lf <| ?_
              exact ⟨l7_i1, l6_i1, l8_i1, (Ext.refl _)⟩
          rintro L w6 ⟨l7_j1, l6_j1, l8_j1, K0_j1⟩
          have k5 := k4.tr K0_j1
          have k6 := K0_i1.tr K0_j1
          have r14 := r13.ext K0_j1
          cases hB3
          refine lf <| ?_
          exact ⟨l7_j1, l6_j1, l8_j1, K0_j1⟩
        rintro L w7 ⟨l7_j2, l6_j2, l8_j2, K0_j2⟩
        have k7 := k4.tr K0_j2
        have k8 := K0_i1.tr K0_j2
        have r15 := r13.ext K0_j2
        refine rg <| vl rfl rfl xmv <| vl rfl rfl (xadd l8_j2 rfl) <| vl rfl rfl xas <| nl <| ?_
        refine lq m (Nat.lt_succ_self _) <| ?_
        exact ⟨_, _, hB1, l7_j2, rfl, l6_j2, k8⟩
      ·
        have hB1 := ifn hB1 h4
        refine wp_exit <| ?_
        cases hB1
        refine lf <| ?_
        exact ⟨l7_i1, K0_i1⟩
    rintro L w8 ⟨l7_j3, K0_j3⟩
    have k9 := k3.tr K0_j3
    refine wp_seq <| rg <| vl rfl rfl xmv <| vl rfl rfl xas <| vl rfl rfl xas <| nl <| ?_
    cases hF
    exact wp_ret <| rt rfl (.tmp l7_j3 rfl (.tmp rfl rfl .nil)) ⟨rfl, k9⟩

set_option maxHeartbeats 4000000 in
theorem c25 {w0 : World} {v0 : Value} {x0 : ((List Int) × (List ((List Int) × (List Int))))} (r0 : RV w0 v0 x0) {v1 : Value} {x1 : (List Int)} (r1 : RV w0 v1 x1) {x2 : Int} {F : Nat} {r : (Int × Int × Int)} (hF : ref11_Most F x0 x1 x2 = some r) :
    Calls Try.prog 25 [v0, v1, .int .i64 x2].toArray w0 (Ret fun v w' => v = .tuple #[.int .i64 r.1, .int .i64 r.2.1, .int .i64 r.2.2] ∧ Ext w0 w') := by
  unfold ref11_Most at hF
  have hz := id r0; obtain ⟨_, rfl, ⟨_, _, rfl, ⟨a1, cq1, rfl, p1, q4, e1⟩, ⟨a2, cq2, rfl, p2, q5, e2⟩⟩⟩ := hz
  have r4 := RV.of1 p1 q4 e1
  have r5 := RV.of1 p2 q5 e2
  have hz := r1.sl; obtain ⟨a3, cq3, rfl, -, -, -⟩ := hz
  refine entr (n := 75) Try.func25 rfl rfl rfl <| wp_seq <| rg <| sbx rfl rfl fun b4 w1 hx1 hg1 hb1 => ?_
  have r6 := r1.ext hx1
  have r7 := r4.ext hx1
  have r8 := r5.ext hx1
  have r9 := r0.ext hx1
  refine vl rfl rfl xas <| vl rfl rfl xas <| vl rfl rfl xas <| nl <| wp_seq <| wp_seq <| rg <| vl rfl rfl (xlda rfl ti25 rfl (Bx.cs hb1)) <| vl rfl rfl xmv <| ?_
  have hz := bs hF; obtain ⟨x4, Ex4, hF⟩ := hz
  refine cl rfl rfl (xc cb31 (mc rfl (mc rfl mn))) (c31 (show RV (α := ((List Int) × (List ((List Int) × (List Int))))) _ (.agg [.slice a1 x0.1.length cq1, .slice a2 x0.2.length cq2].toArray) (x0.1, x0.2) from ⟨_, rfl, ⟨[.slice a1 x0.1.length cq1], [.slice a2 x0.2.length cq2], rfl, r7.rep1, r8.rep1⟩⟩) r6 Ex4) ?_
  rintro _ w2 ⟨rfl, hx2⟩
  have k1 := hx1.tr hx2
  have hb2 := hb1.ext hx2
  have r10 := r7.ext hx2
  have r11 := r8.ext hx2
  have r12 := r6.ext hx2
  refine vl rfl rfl (xneq rfl rfl) <| nl <| cnd rfl (fun h4 => ?_) (fun h4 => ?_)
  ·
    have hF := ifp hF h4
    refine wp_seq <| rg <| vl rfl rfl (xlda rfl ti25 rfl (Bx.cs hb2)) <| vl rfl rfl xmv <| ?_
    have hz := bs hF; obtain ⟨x5, Ex5, hF⟩ := hz
    refine cl rfl rfl (xc cb31 (mc rfl (mc rfl mn))) (c31 (show RV (α := ((List Int) × (List ((List Int) × (List Int))))) _ (.agg [.slice a1 x0.1.length cq1, .slice a2 x0.2.length cq2].toArray) (x0.1, x0.2) from ⟨_, rfl, ⟨[.slice a1 x0.1.length cq1], [.slice a2 x0.2.length cq2], rfl, r10.rep1, r11.rep1⟩⟩) r12 Ex5) ?_
    rintro _ w3 ⟨rfl, hx3⟩
    have k2 := k1.tr hx3
    refine vl rfl rfl xas <| vl rfl rfl xas <| vl rfl rfl xas <| nl <| ?_
    cases hF
    exact wp_ret <| rt rfl (.tmp rfl rfl (.tmp rfl rfl (.tmp rfl rfl .nil))) ⟨rfl, k2⟩
  ·
    have hF := ifn hF h4
    refine wp_skip <| wp_seq <| wp_seq <| rg <| vl rfl rfl xmv <| vl rfl rfl (xlss rfl rfl) <| vl rfl rfl xmv <| gv rfl rfl rfl rfl (gw0 rfl) rfl (fun hc => xmva rfl) <| gv rfl rfl rfl rfl (gw0 rfl) rfl (fun hc => xfa rfl fa25_0) <| gv rfl rfl rfl rfl (gw0 rfl) rfl (fun hc => xld (mv hc rfl) ti22 ((Bx.cs hb2).at 0 rfl)) <| gv rfl rfl rfl rfl (gw0 rfl) rfl (fun hc => xlen (mv hc rfl) Try.underlying22) <| gv rfl rfl rfl rfl (gw0 rfl) rfl (fun hc => xgeq (mv hc rfl) (mv hc rfl)) <| vl rfl rfl (xpo rfl rfl rfl) <| nl <| cnd rfl (fun h5 => ?_) (fun h5 => ?_)
    ·
      have hF := ifp hF h5
      refine wp_seq <| rg <| vl rfl rfl xas <| vl rfl rfl xas <| vl rfl rfl xas <| nl <| ?_
      cases hF
      exact wp_ret <| rt rfl (.tmp rfl rfl (.tmp rfl rfl (.tmp rfl rfl .nil))) ⟨rfl, k1⟩
    ·
      have hF := ifn hF h5
      refine wp_skip <| wp_seq <| rg <| vl rfl rfl (xlda rfl ti25 rfl (Bx.cs hb2)) <| vl rfl rfl xmv <| ?_
      have hz := bs hF; obtain ⟨x6, Ex6, hF⟩ := hz
      refine cl rfl rfl (xc cb60 (mc rfl (mc rfl mn))) (c60 (show RV (α := ((List Int) × (List ((List Int) × (List Int))))) _ (.agg [.slice a1 x0.1.length cq1, .slice a2 x0.2.length cq2].toArray) (x0.1, x0.2) from ⟨_, rfl, ⟨[.slice a1 x0.1.length cq1], [.slice a2 x0.2.length cq2], rfl, r10.rep1, r11.rep1⟩⟩) r12 Ex6) ?_
      rintro _ w4 ⟨u1, rfl, r13, hx4⟩
      have k3 := k1.tr hx4
      have hb3 := hb2.ext hx4
      have r14 := r10.ext hx4
      have r15 := r11.ext hx4
      have hz := RV.sl r13; obtain ⟨a4, cq4, rfl, -, -, -⟩ := hz
      refine vl rfl rfl xas <| nl <| wp_seq <| rg <| vl rfl rfl xas <| vl rfl rfl xas <| nl <| wp_seq <| wp_seq <| rg <| vl rfl rfl xas <| nl <| ?_
      have hz := bs hF; obtain ⟨⟨z1, z2⟩, hB1, hF⟩ := hz
      refine ct (fun L w => L 10 = .int .i64 z1 ∧ L 11 = .int .i64 z2 ∧ Ext w4 w) ?_ ?_
      ·
        refine wp_block <| lp (I := fun m L w => ∃ y1 : Int, ∃ y2 : Int, ∃ y3 : Int, ref11_Most_l1 F x0 x2 x6 m y1 y2 y3  = some (z1, z2) ∧ L 10 = .int .i64 y1 ∧ L 11 = .int .i64 y2 ∧ L 12 = .int .i64 y3 ∧ L 2 = .int .i64 x2 ∧ L 3 = .pointer (some ⟨b4, 0, none⟩) ∧ L 9 = .slice a4 x6.length cq4 ∧ Ext w4 w) F ⟨_, _, _, hB1, rfl, rfl, rfl, rfl, rfl, rfl, (Ext.refl _)⟩ ?_
        rintro m L w5 ⟨y1, y2, y3, hB1, l10_i1, l11_i1, l12_i1, l2_i1, l3_i1, l9_i1, K0_i1⟩
        rcases m with _ | m
        · rw [ref11_Most_l1] at hB1; cases hB1
        rw [ref11_Most_l1] at hB1
        have k4 := k3.tr K0_i1
        have r16 := r14.ext K0_i1
        have r17 := r15.ext K0_i1
        have hb4 := hb3.ext K0_i1
        have r18 := r13.ext K0_i1
        refine wp_seq <| wp_seq <| rg <| vl rfl rfl xmv <| vl rfl rfl xmv <| vl rfl rfl (xlen l9_i1 Try.underlying26) <| vl rfl rfl (xlss l12_i1 rfl) <| nl <| cnd rfl (fun h6 => ?_) (fun h6 => ?_)
        ·
          have hB1 := ifp hB1 h6
          refine wp_skip <| wp_seq <| ?_
          have hz := bs hB1; obtain ⟨⟨y4, y5⟩, hB3, hB1⟩ := hz
          refine ct (fun L w => L 10 = .int .i64 y4 ∧ L 11 = .int .i64 y5 ∧ L 2 = .int .i64 x2 ∧ L 3 = .pointer (some ⟨b4, 0, none⟩) ∧ L 9 = .slice a4 x6.length cq4 ∧ L 12 = .int .i64 y3 ∧ Ext w5 w) ?_ ?_
          ·
            refine wp_block <| wp_seq <| rg <| vl rfl rfl (xlda l3_i1 ti25 rfl (Bx.cs hb4)) <| vl rfl rfl xmv <| ?_
            have hz := bs hB3; obtain ⟨x7, Ex7, hB3⟩ := hz
            refine cl rfl rfl (xc cb62 (mc rfl (mc l12_i1 mn))) (c62 (show RV (α := ((List Int) × (List ((List Int) × (List Int))))) _ (.agg [.slice a1 x0.1.length cq1, .slice a2 x0.2.length cq2].toArray) (x0.1, x0.2) from ⟨_, rfl, ⟨[.slice a1 x0.1.length cq1], [.slice a2 x0.2.length cq2], rfl, r16.rep1, r17.rep1⟩⟩) Ex7) ?_
            rintro _ w6 ⟨u2, rfl, r19, hx5⟩
            have k5 := k4.tr hx5
            have k6 := K0_i1.tr hx5
            have hb5 := hb4.ext hx5
            have r20 := r16.ext hx5
            have r21 := r17.ext hx5
            have r22 := r18.ext hx5
            have hz := RV.sl r19; obtain ⟨a5, cq5, rfl, -, -, -⟩ := hz
            refine vl rfl rfl xmv <| ?_
            have hz := bs hB3; obtain ⟨x8, Ex8, hB3⟩ := hz
            have hz := (RV.els r19).ix Ex8; obtain ⟨b5, f1, cs4, e3, i2, i3, q6, hc1⟩ := hz
            cases e3
            obtain rfl := q6
            refine vl rfl rfl (xixs rfl l2_i1 Try.underlying22 ti2 i2 i3) <| vl rfl rfl (xld rfl ti2 (hc1.at 0 rfl)) <| vl rfl rfl xas <| nl <| wp_seq <| ?_
            have hz := bs hB3; obtain ⟨y6, hB4, hB3⟩ := hz
            refine ct (fun L w => L 67 = .bool y6 ∧ L 2 = .int .i64 x2 ∧ L 3 = .pointer (some ⟨b4, 0, none⟩) ∧ L 9 = .slice a4 x6.length cq4 ∧ L 10 = .int .i64 y1 ∧ L 11 = .int .i64 y2 ∧ L 12 = .int .i64 y3 ∧ L 13 = .int .i64 x8 ∧ Ext w6 w) ?_ ?_
            ·
              refine rg <| vl rfl rfl xmv <| vl rfl rfl xmv <| ?_
              have hz := bs hB4; obtain ⟨x10, Ex10, hB4⟩ := hz
              have hz := (RV.els r13).ix Ex10; obtain ⟨b7, f3, cs6, e5, i6, i7, q8, hc4⟩ := hz
              cases e5
              obtain rfl := q8
              have hc5 := hc4.ext k6
              refine vl rfl rfl (xixs l9_i1 l12_i1 Try.underlying26 ti3 i6 i7) <| vl rfl rfl (xld rfl ti3 (hc5.at 0 rfl)) <| vl rfl rfl (xgeq rfl rfl) <| vl rfl rfl xmv <| ?_
              refine Or.elim (Bool.eq_false_or_eq_true (decide (0 ≤ x10))) (fun h7 => ?_) (fun h7 => ?_)
              ·
                have hB4 := ifp hB4 h7
                refine gtk rfl rfl rfl rfl rfl (bt h7) <| vl rfl rfl xmv <| gtk rfl rfl rfl rfl rfl (bt h7) <| vl rfl rfl xmv <| gtk rfl rfl rfl rfl rfl (bt h7) <| vl rfl rfl (xgtr rfl l10_i1) <| gtk rfl rfl rfl rfl rfl (bt h7) <| vl rfl rfl xmv <| ?_
                refine Or.elim (Bool.eq_false_or_eq_true (decide (y1 < x8))) (fun h8 => ?_) (fun h8 => ?_)
                ·
                  have hB4 := ifp hB4 h8
                  refine gfk rfl rfl rfl rfl rfl (btf h8) rfl <| gfk rfl rfl rfl rfl rfl (btf h8) rfl <| gfk rfl rfl rfl rfl rfl (btf h8) rfl <| gfk rfl rfl rfl rfl rfl (btf h8) rfl <| gfk rfl rfl rfl rfl rfl bu rfl <| gfk rfl rfl rfl rfl rfl bu rfl <| gfk rfl rfl rfl rfl rfl bu rfl <| gfk rfl rfl rfl rfl rfl bu rfl <| gfk rfl rfl rfl rfl rfl bu rfl <| gfk rfl rfl rfl rfl rfl bu rfl <| gfk rfl rfl rfl rfl rfl (btf h8) rfl <| gtk rfl rfl rfl rfl rfl (bt h7) <| vl rfl rfl (xpt rfl h8 rfl) <| vl rfl rfl (xpt rfl h7 rfl) <| nl <| ?_
                  cases hB4
                  refine lf <| ?_
                  exact ⟨rfl, l2_i1, l3_i1, l9_i1, l10_i1, l11_i1, l12_i1, rfl, (Ext.refl _)⟩
                ·
                  have hB4 := ifn hB4 h8
                  refine gtk rfl rfl rfl rfl rfl (bf h8) <| vl rfl rfl xmv <| gtk rfl rfl rfl rfl rfl (bf h8) <| vl rfl rfl xmv <| gtk rfl rfl rfl rfl rfl (bf h8) <| vl rfl rfl (xeql rfl l10_i1) <| gtk rfl rfl rfl rfl rfl (bf h8) <| vl rfl rfl xmv <| ?_
                  refine Or.elim (Bool.eq_false_or_eq_true (decide (x8 = y1))) (fun h9 => ?_) (fun h9 => ?_)
                  ·
                    have hB4 := ifp hB4 h9
                    refine gtk rfl rfl rfl rfl rfl (bt h9) <| vl rfl rfl xmv <| gtk rfl rfl rfl rfl rfl (bt h9) <| vl rfl rfl xmv <| ?_
                    have hz := bs hB4; obtain ⟨x11, Ex11, hB4⟩ := hz
                    have hz := ix2 r13 Ex11; obtain ⟨cs7, i8, i9, q9, hc6⟩ := hz
                    obtain rfl := q9
                    have hc7 := hc6.ext k6
                    refine gtk rfl rfl rfl rfl rfl (bt h9) <| vl rfl rfl (xixs l9_i1 l12_i1 Try.underlying26 ti3 i8 i9) <| gtk rfl rfl rfl rfl rfl (bt h9) <| vl rfl rfl (xld rfl ti3 (hc7.at 0 rfl)) <| gtk rfl rfl rfl rfl rfl (bt h9) <| vl rfl rfl xmv <| gtk rfl rfl rfl rfl rfl (bt h9) <| vl rfl rfl (xlss rfl l11_i1) <| gtk rfl rfl rfl rfl rfl (bf h8) <| vl rfl rfl (xpt rfl h9 rfl) <| gtk rfl rfl rfl rfl rfl (bt h7) <| vl rfl rfl (xpf rfl h8 rfl) <| vl rfl rfl (xpt rfl h7 rfl) <| nl <| ?_
                    cases hB4
                    refine lf <| ?_
                    exact ⟨rfl, l2_i1, l3_i1, l9_i1, l10_i1, l11_i1, l12_i1, rfl, (Ext.refl _)⟩
                  ·
                    have hB4 := ifn hB4 h9
                    refine gfk rfl rfl rfl rfl rfl (bft h9) rfl <| gfk rfl rfl rfl rfl rfl (bft h9) rfl <| gfk rfl rfl rfl rfl rfl (bft h9) rfl <| gfk rfl rfl rfl rfl rfl (bft h9) rfl <| gfk rfl rfl rfl rfl rfl (bft h9) rfl <| gfk rfl rfl rfl rfl rfl (bft h9) rfl <| gtk rfl rfl rfl rfl rfl (bf h8) <| vl rfl rfl (xpf rfl h9 rfl) <| gtk rfl rfl rfl rfl rfl (bt h7) <| vl rfl rfl (xpf rfl h8 rfl) <| vl rfl rfl (xpt rfl h7 rfl) <| nl <| ?_
                    cases hB4
                    refine lf <| ?_
                    exact ⟨rfl, l2_i1, l3_i1, l9_i1, l10_i1, l11_i1, l12_i1, rfl, (Ext.refl _)⟩
              ·
                have hB4 := ifn hB4 h7
                refine gfk rfl rfl rfl rfl rfl (bft h7) rfl <| gfk rfl rfl rfl rfl rfl (bft h7) rfl <| gfk rfl rfl rfl rfl rfl (bft h7) rfl <| gfk rfl rfl rfl rfl rfl (bft h7) rfl <| gfk rfl rfl rfl rfl rfl bu rfl <| gfk rfl rfl rfl rfl rfl bu rfl <| gfk rfl rfl rfl rfl rfl bu rfl <| gfk rfl rfl rfl rfl rfl bu rfl <| gfk rfl rfl rfl rfl rfl bu rfl <| gfk rfl rfl rfl rfl rfl bu rfl <| gfk rfl rfl rfl rfl rfl bu rfl <| gfk rfl rfl rfl rfl rfl bu rfl <| gfk rfl rfl rfl rfl rfl bu rfl <| gfk rfl rfl rfl rfl rfl bu rfl <| gfk rfl rfl rfl rfl rfl bu rfl <| gfk rfl rfl rfl rfl rfl (bft h7) rfl <| vl rfl rfl (xpf rfl h7 rfl) <| nl <| ?_
                cases hB4
                refine lf <| ?_
                exact ⟨rfl, l2_i1, l3_i1, l9_i1, l10_i1, l11_i1, l12_i1, rfl, (Ext.refl _)⟩
            rintro L w7 ⟨l67_j1, l2_j1, l3_j1, l9_j1, l10_j1, l11_j1, l12_j1, l13_j1, K0_j1⟩
            have k7 := k5.tr K0_j1
            have k8 := k6.tr K0_j1
            have k9 := hx5.tr K0_j1
            have r23 := r20.ext K0_j1
            have r24 := r21.ext K0_j1
            have hb6 := hb5.ext K0_j1
            have r25 := r22.ext K0_j1
            have hz := bs hB3; obtain ⟨⟨y7, y8⟩, hB5, hB3⟩ := hz
            refine ct (fun L w => L 10 = .int .i64 y7 ∧ L 11 = .int .i64 y8 ∧ L 2 = .int .i64 x2 ∧ L 3 = .pointer (some ⟨b4, 0, none⟩) ∧ L 9 = .slice a4 x6.length cq4 ∧ L 12 = .int .i64 y3 ∧ Ext w7 w) ?_ ?_
            ·
              refine cnd l67_j1 (fun h10 => ?_) (fun h10 => ?_)
              ·
                have hB5 := ifp hB5 h10
                refine wpl [] (.pure true 0 (.pure true 1 (.pure true 2 (.pure true 3 (.pure false 4 (.pure true 5 (.pure true 6 .fin))))))) mixed (by kernel_rfl) (fun w8 hx6 => ?_)
                have k10 := k7.tr hx6
                have k11 := k8.tr hx6
                have k12 := k9.tr hx6
                have k13 := K0_j1.tr hx6
                have hb7 := hb6.ext hx6
                have r26 := r23.ext hx6
                have r27 := r24.ext hx6
                have r28 := r25.ext hx6
                refine pv rfl rfl rfl (fun _ _ => xmv) (.inl rfl) <| pv rfl rfl rfl (fun _ _ => xmv) (.inl rfl) <| pv rfl rfl rfl (fun _ _ => xmv) (.inl rfl) <| ?_
                have hz := bs hB5; obtain ⟨x12, Ex12, hB5⟩ := hz
                have hz := (RV.els r13).ix Ex12; obtain ⟨b8, f4, cs8, e6, i10, i11, q10, hc8⟩ := hz
                cases e6
                obtain rfl := q10
                have hc9 := hc8.ext k11
                refine pv rfl rfl rfl (fun _ _ => xixs l9_j1 l12_j1 Try.underlying26 ti3 i10 i11) (.inl rfl) <| pv rfl rfl rfl (fun _ hS => xld rfl ti3 ((hc9.ext (hS.resolve_left nofun)).at 0 rfl)) (.inr (Ext.refl _)) <| pv rfl rfl rfl (fun _ _ => xas) (.inl rfl) <| pv rfl rfl rfl (fun _ _ => xas) (.inl rfl) <| ?_
                cases hB5
                refine lf <| ?_
                exact ⟨l13_j1, rfl, l2_j1, l3_j1, l9_j1, l12_j1, hx6⟩
              ·
                have hB5 := ifn hB5 h10
                refine wp_skip <| ?_
                cases hB5
                refine lf <| ?_
                exact ⟨l10_j1, l11_j1, l2_j1, l3_j1, l9_j1, l12_j1, (Ext.refl _)⟩
            rintro L w9 ⟨l10_j2, l11_j2, l2_j2, l3_j2, l9_j2, l12_j2, K0_j2⟩
            have k14 := k7.tr K0_j2
            have k15 := k8.tr K0_j2
            have k16 := k9.tr K0_j2
            have k17 := K0_j1.tr K0_j2
            have r29 := r23.ext K0_j2
            have r30 := r24.ext K0_j2
            have hb8 := hb6.ext K0_j2
            have r31 := r25.ext K0_j2
            cases hB3
            refine lf <| ?_
            exact ⟨l10_j2, l11_j2, l2_j2, l3_j2, l9_j2, l12_j2, k16⟩
          rintro L w10 ⟨l10_j3, l11_j3, l2_j3, l3_j3, l9_j3, l12_j3, K0_j3⟩
          have k18 := k4.tr K0_j3
          have k19 := K0_i1.tr K0_j3
          have r32 := r16.ext K0_j3
          have r33 := r17.ext K0_j3
          have hb9 := hb4.ext K0_j3
          have r34 := r18.ext K0_j3
          refine rg <| vl rfl rfl xmv <| vl rfl rfl (xadd l12_j3 rfl) <| vl rfl rfl xas <| nl <| ?_
          refine lq m (Nat.lt_succ_self _) <| ?_
          exact ⟨_, _, _, hB1, l10_j3, l11_j3, rfl, l2_j3, l3_j3, l9_j3, k19⟩
        ·
          have hB1 := ifn hB1 h6
          refine wp_exit <| ?_
          cases hB1
          refine lf <| ?_
          exact ⟨l10_i1, l11_i1, K0_i1⟩
      rintro L w11 ⟨l10_j4, l11_j4, K0_j4⟩
      have k20 := k3.tr K0_j4
      refine wp_seq <| rg <| vl rfl rfl xmv <| vl rfl rfl xmv <| vl rfl rfl xas <| vl rfl rfl xas <| vl rfl rfl xas <| nl <| ?_
      cases hF
      exact wp_ret <| rt rfl (.tmp l10_j4 rfl (.tmp l11_j4 rfl (.tmp rfl rfl .nil))) ⟨rfl, k20⟩

set_option maxHeartbeats 4000000 in
theorem c28 {w0 : World} {v0 : Value} {x0 : ((List Int) × (List ((List Int) × (List Int))))} (r0 : RV w0 v0 x0) {v1 : Value} {x1 : (List Int)} (r1 : RV w0 v1 x1) {F : Nat} {r : Bool} (hF : ref11_Still F x0 x1 = some r) :
    Calls Try.prog 28 [v0, v1].toArray w0 (Ret fun v w' => v = .bool r ∧ Ext w0 w') := by
  unfold ref11_Still at hF
  have hz := id r0; obtain ⟨_, rfl, ⟨_, _, rfl, ⟨a1, cq1, rfl, p1, q3, e1⟩, ⟨a2, cq2, rfl, p2, q4, e2⟩⟩⟩ := hz
  have r3 := RV.of1 p1 q3 e1
  have r4 := RV.of1 p2 q4 e2
  have hz := r1.sl; obtain ⟨a3, cq3, rfl, -, -, -⟩ := hz
  refine entr (n := 23) Try.func28 rfl rfl rfl <| wp_seq <| rg <| sbx rfl rfl fun b3 w1 hx1 hg1 hb1 => ?_
  have r5 := r1.ext hx1
  have r6 := r3.ext hx1
  have r7 := r4.ext hx1
  have r8 := r0.ext hx1
  refine vl rfl rfl xas <| nl <| wp_seq <| wp_seq <| rg <| vl rfl rfl xas <| nl <| ?_
  have hz := bs hF; obtain ⟨o1, hB1, hF⟩ := hz
  refine ct (fun L w => o1 = .inr () ∧ Ext w1 w) ?_ ?_
  ·
    refine wp_block <| lp (I := fun m L w => ∃ y1 : Int, ref11_Still_l1 F x0 x1 m y1  = some o1 ∧ L 5 = .int .i64 y1 ∧ L 1 = .slice a3 x1.length cq3 ∧ L 2 = .pointer (some ⟨b3, 0, none⟩) ∧ Ext w1 w) F ⟨_, hB1, rfl, rfl, rfl, (Ext.refl _)⟩ ?_
    rintro m L w2 ⟨y1, hB1, l5_i1, l1_i1, l2_i1, K0_i1⟩
    rcases m with _ | m
    · rw [ref11_Still_l1] at hB1; cases hB1
    rw [ref11_Still_l1] at hB1
    have k1 := hx1.tr K0_i1
    have r9 := r5.ext K0_i1
    have r10 := r6.ext K0_i1
    have r11 := r7.ext K0_i1
    have hb2 := hb1.ext K0_i1
    refine wp_seq <| wp_seq <| rg <| vl rfl rfl xmv <| vl rfl rfl (xfa l2_i1 fa25_1) <| vl rfl rfl (xld rfl ti23 ((Bx.cs hb2).at 1 rfl)) <| vl rfl rfl (xlen rfl Try.underlying23) <| vl rfl rfl (xlss l5_i1 rfl) <| nl <| cnd rfl (fun h3 => ?_) (fun h3 => ?_)
    ·
      have hB1 := ifp hB1 h3
      refine wp_skip <| wp_seq <| wp_block <| wp_seq <| rg <| vl rfl rfl (xlda l2_i1 ti25 rfl (Bx.cs hb2)) <| vl rfl rfl xmv <| vl rfl rfl xmv <| ?_
      have hz := bs hB1; obtain ⟨x3, Ex3, hB1⟩ := hz
      refine cl rfl rfl (xc cb49 (mc rfl (mc l1_i1 (mc l5_i1 mn)))) (c49 (show RV (α := ((List Int) × (List ((List Int) × (List Int))))) _ (.agg [.slice a1 x0.1.length cq1, .slice a2 x0.2.length cq2].toArray) (x0.1, x0.2) from ⟨_, rfl, ⟨[.slice a1 x0.1.length cq1], [.slice a2 x0.2.length cq2], rfl, r10.rep1, r11.rep1⟩⟩) r9 Ex3) ?_
      rintro _ w3 ⟨u1, rfl, r12, hx2⟩
      have k2 := k1.tr hx2
      have k3 := K0_i1.tr hx2
      have hb3 := hb2.ext hx2
      have r13 := r10.ext hx2
      have r14 := r11.ext hx2
      have r15 := r9.ext hx2
      have hz := RV.sl r12; obtain ⟨a4, cq4, rfl, -, -, -⟩ := hz
      refine vl rfl rfl xmv <| vl rfl rfl (xext rfl rfl) <| vl rfl rfl (xext rfl rfl) <| vl rfl rfl xas <| vl rfl rfl xas <| nl <| wp_seq <| rg <| vl rfl rfl xmv <| nl <| cnd rfl (fun h4 => ?_) (fun h4 => ?_)
      ·
        have hB1 := ifp hB1 h4
        refine wp_seq <| rg <| vl rfl rfl xas <| nl <| ?_
        cases hB1
        have hF := (show some _ = some _ from hF); cases hF
        exact wp_ret <| rt rfl (.tmp rfl rfl .nil) ⟨rfl, k2⟩
      ·
        have hB1 := ifn hB1 h4
        refine wp_skip <| rg <| vl rfl rfl xmv <| vl rfl rfl (xadd l5_i1 rfl) <| vl rfl rfl xas <| nl <| ?_
        refine lq m (Nat.lt_succ_self _) <| ?_
        exact ⟨_, hB1, rfl, l1_i1, l2_i1, k3⟩
    ·
      have hB1 := ifn hB1 h3
      refine wp_exit <| ?_
      cases hB1
      refine lf <| ?_
      exact ⟨rfl, K0_i1⟩
  rintro L w4 ⟨rfl, K0_j1⟩
  have k4 := hx1.tr K0_j1
  refine wp_seq <| rg <| vl rfl rfl xas <| nl <| ?_
  cases hF
  exact wp_ret <| rt rfl (.tmp rfl rfl .nil) ⟨rfl, k4⟩

set_option maxHeartbeats 4000000 in
theorem c27 {w0 : World} {v0 : Value} {x0 : ((List Int) × (List ((List Int) × (List Int))))} (r0 : RV w0 v0 x0) {v1 : Value} {x1 : (List Int)} (r1 : RV w0 v1 x1) {F : Nat} {r : (Int × Int)} (hF : ref11_Stuck F x0 x1 = some r) :
    Calls Try.prog 27 [v0, v1].toArray w0 (Ret fun v w' => v = .tuple #[.int .i64 r.1, .int .i64 r.2] ∧ Ext w0 w') := by
  unfold ref11_Stuck at hF
  have hz := id r0; obtain ⟨_, rfl, ⟨_, _, rfl, ⟨a1, cq1, rfl, p1, q3, e1⟩, ⟨a2, cq2, rfl, p2, q4, e2⟩⟩⟩ := hz
  have r3 := RV.of1 p1 q3 e1
  have r4 := RV.of1 p2 q4 e2
  have hz := r1.sl; obtain ⟨a3, cq3, rfl, -, -, -⟩ := hz
  refine entr (n := 56) Try.func27 rfl rfl rfl <| wp_seq <| rg <| sbx rfl rfl fun b3 w1 hx1 hg1 hb1 => ?_
  have r5 := r1.ext hx1
  have r6 := r3.ext hx1
  have r7 := r4.ext hx1
  have r8 := r0.ext hx1
  refine vl rfl rfl xas <| vl rfl rfl xas <| nl <| wp_seq <| wp_seq <| rg <| vl rfl rfl (xlda rfl ti25 rfl (Bx.cs hb1)) <| vl rfl rfl xmv <| ?_
  have hz := bs hF; obtain ⟨x3, Ex3, hF⟩ := hz
  refine cl rfl rfl (xc cb31 (mc rfl (mc rfl mn))) (c31 (show RV (α := ((List Int) × (List ((List Int) × (List Int))))) _ (.agg [.slice a1 x0.1.length cq1, .slice a2 x0.2.length cq2].toArray) (x0.1, x0.2) from ⟨_, rfl, ⟨[.slice a1 x0.1.length cq1], [.slice a2 x0.2.length cq2], rfl, r6.rep1, r7.rep1⟩⟩) r5 Ex3) ?_
  rintro _ w2 ⟨rfl, hx2⟩
  have k1 := hx1.tr hx2
  have hb2 := hb1.ext hx2
  have r9 := r6.ext hx2
  have r10 := r7.ext hx2
  have r11 := r5.ext hx2
  refine vl rfl rfl (xneq rfl rfl) <| nl <| cnd rfl (fun h3 => ?_) (fun h3 => ?_)
  ·
    have hF := ifp hF h3
    refine wp_seq <| rg <| vl rfl rfl (xlda rfl ti25 rfl (Bx.cs hb2)) <| vl rfl rfl xmv <| ?_
    have hz := bs hF; obtain ⟨x4, Ex4, hF⟩ := hz
    refine cl rfl rfl (xc cb31 (mc rfl (mc rfl mn))) (c31 (show RV (α := ((List Int) × (List ((List Int) × (List Int))))) _ (.agg [.slice a1 x0.1.length cq1, .slice a2 x0.2.length cq2].toArray) (x0.1, x0.2) from ⟨_, rfl, ⟨[.slice a1 x0.1.length cq1], [.slice a2 x0.2.length cq2], rfl, r9.rep1, r10.rep1⟩⟩) r11 Ex4) ?_
    rintro _ w3 ⟨rfl, hx3⟩
    have k2 := k1.tr hx3
    refine vl rfl rfl xas <| vl rfl rfl xas <| nl <| ?_
    cases hF
    exact wp_ret <| rt rfl (.tmp rfl rfl (.tmp rfl rfl .nil)) ⟨rfl, k2⟩
  ·
    have hF := ifn hF h3
    refine wp_skip <| wp_seq <| rg <| vl rfl rfl (xlda rfl ti25 rfl (Bx.cs hb2)) <| vl rfl rfl xmv <| ?_
    have hz := bs hF; obtain ⟨x5, Ex5, hF⟩ := hz
    refine cl rfl rfl (xc cb60 (mc rfl (mc rfl mn))) (c60 (show RV (α := ((List Int) × (List ((List Int) × (List Int))))) _ (.agg [.slice a1 x0.1.length cq1, .slice a2 x0.2.length cq2].toArray) (x0.1, x0.2) from ⟨_, rfl, ⟨[.slice a1 x0.1.length cq1], [.slice a2 x0.2.length cq2], rfl, r9.rep1, r10.rep1⟩⟩) r11 Ex5) ?_
    rintro _ w4 ⟨u1, rfl, r12, hx4⟩
    have k3 := k1.tr hx4
    have hb3 := hb2.ext hx4
    have r13 := r9.ext hx4
    have r14 := r10.ext hx4
    have hz := RV.sl r12; obtain ⟨a4, cq4, rfl, -, -, -⟩ := hz
    refine vl rfl rfl xas <| nl <| wp_seq <| rg <| vl rfl rfl xas <| nl <| wp_seq <| wp_seq <| rg <| vl rfl rfl xas <| nl <| ?_
    have hz := bs hF; obtain ⟨z1, hB1, hF⟩ := hz
    refine ct (fun L w => L 7 = .int .i64 z1 ∧ Ext w4 w) ?_ ?_
    ·
      refine wp_block <| lp (I := fun m L w => ∃ y1 : Int, ∃ y2 : Int, ref11_Stuck_l1 F x0 x5 m y1 y2  = some z1 ∧ L 7 = .int .i64 y1 ∧ L 8 = .int .i64 y2 ∧ L 2 = .pointer (some ⟨b3, 0, none⟩) ∧ L 6 = .slice a4 x5.length cq4 ∧ Ext w4 w) F ⟨_, _, hB1, rfl, rfl, rfl, rfl, (Ext.refl _)⟩ ?_
      rintro m L w5 ⟨y1, y2, hB1, l7_i1, l8_i1, l2_i1, l6_i1, K0_i1⟩
      rcases m with _ | m
      · rw [ref11_Stuck_l1] at hB1; cases hB1
      rw [ref11_Stuck_l1] at hB1
      have k4 := k3.tr K0_i1
      have r15 := r13.ext K0_i1
      have r16 := r14.ext K0_i1
      have hb4 := hb3.ext K0_i1
      have r17 := r12.ext K0_i1
      refine wp_seq <| wp_seq <| rg <| vl rfl rfl xmv <| vl rfl rfl xmv <| vl rfl rfl (xlen l6_i1 Try.underlying26) <| vl rfl rfl (xlss l8_i1 rfl) <| nl <| cnd rfl (fun h4 => ?_) (fun h4 => ?_)
      ·
        have hB1 := ifp hB1 h4
        refine wp_skip <| wp_seq <| ?_
        have hz := bs hB1; obtain ⟨y3, hB3, hB1⟩ := hz
        refine ct (fun L w => L 7 = .int .i64 y3 ∧ L 2 = .pointer (some ⟨b3, 0, none⟩) ∧ L 6 = .slice a4 x5.length cq4 ∧ L 8 = .int .i64 y2 ∧ Ext w5 w) ?_ ?_
        ·
          refine wp_block <| wp_seq <| ?_
          have hz := bs hB3; obtain ⟨y4, hB4, hB3⟩ := hz
          refine ct (fun L w => L 48 = .bool y4 ∧ L 2 = .pointer (some ⟨b3, 0, none⟩) ∧ L 6 = .slice a4 x5.length cq4 ∧ L 7 = .int .i64 y1 ∧ L 8 = .int .i64 y2 ∧ Ext w5 w) ?_ ?_
          ·
            refine wpl [] (.pure true 0 (.pure true 1 (.pure true 2 (.pure false 3 (.pure true 4 (.pure true 5 (.pure false 6 (.pure false 7 (.pure true 8 (.eff 9 (.eff 10 (.pure true 11 (.pure true 12 (.pure true 13 (.pure true 14 (.pure true 15 (.pure true 16 (.pure true 17 (.pure true 18 (.pure false 19 (.pure true 20 (.pure true 21 (.pure true 22 (.pure true 23 .fin))))))))))))) .stop) .stop)))))))))) mixed (by kernel_rfl) (fun w8 hx7 => ?_)
            have k7 := k4.tr hx7
            have k8 := K0_i1.tr hx7
            have hb6 := hb4.ext hx7
            have r21 := r15.ext hx7
            have r22 := r16.ext hx7
            have r23 := r17.ext hx7
            refine pv rfl rfl rfl (fun _ _ => xmv) (.inl rfl) <| pv rfl rfl rfl (fun _ _ => xmv) (.inl rfl) <| ?_
            have hz := bs hB4; obtain ⟨x8, Ex8, hB4⟩ := hz
            have hz := (RV.els r12).ix Ex8; obtain ⟨b5, f2, cs4, e4, i4, i5, q6, hc3⟩ := hz
            cases e4
            obtain rfl := q6
            have hc4 := hc3.ext k8
            refine pv rfl rfl rfl (fun _ _ => xixs l6_i1 l8_i1 Try.underlying26 ti3 i4 i5) (.inl rfl) <| pv rfl rfl rfl (fun _ hS => xld rfl ti3 ((hc4.ext (hS.resolve_left nofun)).at 0 rfl)) (.inr (Ext.refl _)) <| pv rfl rfl rfl (fun _ _ => xgeq rfl rfl) (.inl rfl) <| pv rfl rfl rfl (fun _ _ => xmv) (.inl rfl) <| ?_
            refine Or.elim (Bool.eq_false_or_eq_true (decide (0 ≤ x8))) (fun h5 => ?_) (fun h5 => ?_)
            ·
              have hB4 := ifp hB4 h5
              refine pvt rfl rfl rfl rfl rfl rfl (bt h5) rfl (fun _ hS => xlda l2_i1 ti25 rfl (Bx.cs (hb6.ext (hS.resolve_left nofun)))) (.inr (Ext.refl _)) <| pvt rfl rfl rfl rfl rfl rfl (bt h5) rfl (fun _ hS => xlda l2_i1 ti25 rfl (Bx.cs (hb6.ext (hS.resolve_left nofun)))) (.inr (Ext.refl _)) <| pvt rfl rfl rfl rfl rfl rfl (bt h5) rfl (fun _ _ => xmv) (.inl rfl) <| ?_
              have hz := bs hB4; obtain ⟨x9, Ex9, hB4⟩ := hz
              refine pe1 rfl <| gtk rfl rfl rfl rfl rfl (bt h5) <| cl rfl rfl (xc cb62 (mc rfl (mc l8_i1 mn))) (c62 (show RV (α := ((List Int) × (List ((List Int) × (List Int))))) _ (.agg [.slice a1 x0.1.length cq1, .slice a2 x0.2.length cq2].toArray) (x0.1, x0.2) from ⟨_, rfl, ⟨[.slice a1 x0.1.length cq1], [.slice a2 x0.2.length cq2], rfl, r21.rep1, r22.rep1⟩⟩) Ex9) ?_
              rintro _ w9 ⟨u2, rfl, r24, hx8⟩
              have k9 := k7.tr hx8
              have k10 := k8.tr hx8
              have k11 := hx7.tr hx8
              have hb7 := hb6.ext hx8
              have r25 := r21.ext hx8
              have r26 := r22.ext hx8
              have r27 := r23.ext hx8
              have hz := RV.sl r24; obtain ⟨a5, cq5, rfl, -, -, -⟩ := hz
              refine nl ⟨fun _ _ => hx8, ?_⟩
              have hz := bs hB4; obtain ⟨x10, Ex10, hB4⟩ := hz
              refine pe1 rfl <| gtk rfl rfl rfl rfl rfl (bt h5) <| cl rfl rfl (xc cb28 (mc rfl (mc rfl mn))) (c28 (show RV (α := ((List Int) × (List ((List Int) × (List Int))))) _ (.agg [.slice a1 x0.1.length cq1, .slice a2 x0.2.length cq2].toArray) (x0.1, x0.2) from ⟨_, rfl, ⟨[.slice a1 x0.1.length cq1], [.slice a2 x0.2.length cq2], rfl, r25.rep1, r26.rep1⟩⟩) r24 Ex10) ?_
              rintro _ w10 ⟨rfl, hx9⟩
              have k12 := k9.tr hx9
              have k13 := k10.tr hx9
              have k14 := k11.tr hx9
              have k15 := hx8.tr hx9
              have hb8 := hb7.ext hx9
              have r28 := r25.ext hx9
              have r29 := r26.ext hx9
              have r30 := r27.ext hx9
              refine nl ⟨fun _ _ => k15, ?_⟩
              refine pv rfl rfl rfl (fun _ _ => xpt rfl h5 rfl) (.inl rfl) <| pv rfl rfl rfl (fun _ _ => xmv) (.inl rfl) <| ?_
              refine Or.elim (Bool.eq_false_or_eq_true x10) (fun h6 => ?_) (fun h6 => ?_)
              ·
                have hB4 := ifp hB4 h6
                refine pvt rfl rfl rfl rfl rfl rfl (bt h6) rfl (fun _ _ => xmv) (.inl rfl) <| pvt rfl rfl rfl rfl rfl rfl (bt h6) rfl (fun _ _ => xlss l7_i1 rfl) (.inl rfl) <| pvt rfl rfl rfl rfl rfl rfl (bt h6) rfl (fun _ _ => xmv) (.inl rfl) <| ?_
                refine Or.elim (Bool.eq_false_or_eq_true (decide (y1 < 0))) (fun h7 => ?_) (fun h7 => ?_)
                ·
                  have hB4 := ifp hB4 h7
                  refine pvf rfl rfl rfl rfl rfl rfl (btf h7) rfl (.inl rfl) <| pvf rfl rfl rfl rfl rfl rfl (btf h7) rfl (.inl rfl) <| pvf rfl rfl rfl rfl rfl rfl (btf h7) rfl (.inl rfl) <| pvf rfl rfl rfl rfl rfl rfl (btf h7) rfl (.inr k15) <| pvf rfl rfl rfl rfl rfl rfl (btf h7) rfl (.inl rfl) <| pvf rfl rfl rfl rfl rfl rfl (btf h7) rfl (.inl rfl) <| pvt rfl rfl rfl rfl rfl rfl (bt h6) rfl (fun _ _ => xpt rfl h7 rfl) (.inl rfl) <| pv rfl rfl rfl (fun _ _ => xpt rfl h6 rfl) (.inl rfl) <| ?_
                  cases hB4
                  refine lf <| ?_
                  exact ⟨rfl, l2_i1, l6_i1, l7_i1, l8_i1, k14⟩
                ·
                  have hB4 := ifn hB4 h7
                  refine pvt rfl rfl rfl rfl rfl rfl (bf h7) rfl (fun _ _ => xmv) (.inl rfl) <| pvt rfl rfl rfl rfl rfl rfl (bf h7) rfl (fun _ _ => xmv) (.inl rfl) <| ?_
                  have hz := bs hB4; obtain ⟨x11, Ex11, hB4⟩ := hz
                  have hz := ix2 r12 Ex11; obtain ⟨cs5, i6, i7, q7, hc5⟩ := hz
                  obtain rfl := q7
                  have hc6 := hc5.ext k13
                  refine pvt rfl rfl rfl rfl rfl rfl (bf h7) rfl (fun _ _ => xixs l6_i1 l8_i1 Try.underlying26 ti3 i6 i7) (.inl rfl) <| ?_
                  have hc7 := hc5.ext k8
                  refine pvt rfl rfl rfl rfl rfl rfl (bf h7) rfl (fun _ hS => xld rfl ti3 ((hc7.ext (hS.resolve_left nofun)).at 0 rfl)) (.inr k15) <| pvt rfl rfl rfl rfl rfl rfl (bf h7) rfl (fun _ _ => xmv) (.inl rfl) <| pvt rfl rfl rfl rfl rfl rfl (bf h7) rfl (fun _ _ => xlss rfl l7_i1) (.inl rfl) <| pvt rfl rfl rfl rfl rfl rfl (bt h6) rfl (fun _ _ => xpf rfl h7 rfl) (.inl rfl) <| pv rfl rfl rfl (fun _ _ => xpt rfl h6 rfl) (.inl rfl) <| ?_
                  cases hB4
                  refine lf <| ?_
                  exact ⟨rfl, l2_i1, l6_i1, l7_i1, l8_i1, k14⟩
              ·
                have hB4 := ifn hB4 h6
                refine pvf rfl rfl rfl rfl rfl rfl (bft h6) rfl (.inl rfl) <| pvf rfl rfl rfl rfl rfl rfl (bft h6) rfl (.inl rfl) <| pvf rfl rfl rfl rfl rfl rfl (bft h6) rfl (.inl rfl) <| pvf rfl rfl rfl rfl rfl rfl bu rfl (.inl rfl) <| pvf rfl rfl rfl rfl rfl rfl bu rfl (.inl rfl) <| pvf rfl rfl rfl rfl rfl rfl bu rfl (.inl rfl) <| pvf rfl rfl rfl rfl rfl rfl bu rfl (.inr k15) <| pvf rfl rfl rfl rfl rfl rfl bu rfl (.inl rfl) <| pvf rfl rfl rfl rfl rfl rfl bu rfl (.inl rfl) <| pvf rfl rfl rfl rfl rfl rfl (bft h6) rfl (.inl rfl) <| pv rfl rfl rfl (fun _ _ => xpf rfl h6 rfl) (.inl rfl) <| ?_
                cases hB4
                refine lf <| ?_
                exact ⟨rfl, l2_i1, l6_i1, l7_i1, l8_i1, k14⟩
            ·
              have hB4 := ifn hB4 h5
              refine pvf rfl rfl rfl rfl rfl rfl (bft h5) rfl (.inr (Ext.refl _)) <| pvf rfl rfl rfl rfl rfl rfl (bft h5) rfl (.inr (Ext.refl _)) <| pvf rfl rfl rfl rfl rfl rfl (bft h5) rfl (.inl rfl) <| pe1 rfl <| gfk rfl rfl rfl rfl rfl (bft h5) rfl <| nl ⟨fun _ _ => (Ext.refl _), ?_⟩
              refine pe1 rfl <| gfk rfl rfl rfl rfl rfl (bft h5) rfl <| nl ⟨fun _ _ => (Ext.refl _), ?_⟩
              refine pv rfl rfl rfl (fun _ _ => xpf rfl h5 rfl) (.inl rfl) <| pv rfl rfl rfl (fun _ _ => xmv) (.inl rfl) <| ?_
              refine Or.elim (Bool.eq_false_or_eq_true false) (fun h8 => ?_) (fun h8 => ?_)
              ·
                have hB4 := ifp hB4 h8
                refine pvt rfl rfl rfl rfl rfl rfl (bt h8) rfl (fun _ _ => xmv) (.inl rfl) <| pvt rfl rfl rfl rfl rfl rfl (bt h8) rfl (fun _ _ => xlss l7_i1 rfl) (.inl rfl) <| pvt rfl rfl rfl rfl rfl rfl (bt h8) rfl (fun _ _ => xmv) (.inl rfl) <| ?_
                refine Or.elim (Bool.eq_false_or_eq_true (decide (y1 < 0))) (fun h9 => ?_) (fun h9 => ?_)
                ·
                  have hB4 := ifp hB4 h9
                  refine pvf rfl rfl rfl rfl rfl rfl (btf h9) rfl (.inl rfl) <| pvf rfl rfl rfl rfl rfl rfl (btf h9) rfl (.inl rfl) <| pvf rfl rfl rfl rfl rfl rfl (btf h9) rfl (.inl rfl) <| pvf rfl rfl rfl rfl rfl rfl (btf h9) rfl (.inr (Ext.refl _)) <| pvf rfl rfl rfl rfl rfl rfl (btf h9) rfl (.inl rfl) <| pvf rfl rfl rfl rfl rfl rfl (btf h9) rfl (.inl rfl) <| pvt rfl rfl rfl rfl rfl rfl (bt h8) rfl (fun _ _ => xpt rfl h9 rfl) (.inl rfl) <| pv rfl rfl rfl (fun _ _ => xpt rfl h8 rfl) (.inl rfl) <| ?_
                  cases hB4
                  refine lf <| ?_
                  exact ⟨rfl, l2_i1, l6_i1, l7_i1, l8_i1, hx7⟩
                ·
                  have hB4 := ifn hB4 h9
                  refine pvt rfl rfl rfl rfl rfl rfl (bf h9) rfl (fun _ _ => xmv) (.inl rfl) <| pvt rfl rfl rfl rfl rfl rfl (bf h9) rfl (fun _ _ => xmv) (.inl rfl) <| ?_
                  have hz := bs hB4; obtain ⟨x12, Ex12, hB4⟩ := hz
                  have hz := ix2 r12 Ex12; obtain ⟨cs6, i8, i9, q8, hc8⟩ := hz
                  obtain rfl := q8
                  have hc9 := hc8.ext k8
                  refine pvt rfl rfl rfl rfl rfl rfl (bf h9) rfl (fun _ _ => xixs l6_i1 l8_i1 Try.underlying26 ti3 i8 i9) (.inl rfl) <| pvt rfl rfl rfl rfl rfl rfl (bf h9) rfl (fun _ hS => xld rfl ti3 ((hc9.ext (hS.resolve_left nofun)).at 0 rfl)) (.inr (Ext.refl _)) <| pvt rfl rfl rfl rfl rfl rfl (bf h9) rfl (fun _ _ => xmv) (.inl rfl) <| pvt rfl rfl rfl rfl rfl rfl (bf h9) rfl (fun _ _ => xlss rfl l7_i1) (.inl rfl) <| pvt rfl rfl rfl rfl rfl rfl (bt h8) rfl (fun _ _ => xpf rfl h9 rfl) (.inl rfl) <| pv rfl rfl rfl (fun _ _ => xpt rfl h8 rfl) (.inl rfl) <| ?_
                  cases hB4
                  refine lf <| ?_
                  exact ⟨rfl, l2_i1, l6_i1, l7_i1, l8_i1, hx7⟩
              ·
                have hB4 := ifn hB4 h8
                refine pvf rfl rfl rfl rfl rfl rfl (bft h8) rfl (.inl rfl) <| pvf rfl rfl rfl rfl rfl rfl (bft h8) rfl (.inl rfl) <| pvf rfl rfl rfl rfl rfl rfl (bft h8) rfl (.inl rfl) <| pvf rfl rfl rfl rfl rfl rfl bu rfl (.inl rfl) <| pvf rfl rfl rfl rfl rfl rfl bu rfl (.inl rfl) <| pvf rfl rfl rfl rfl rfl rfl bu rfl (.inl rfl) <| pvf rfl rfl rfl rfl rfl rfl bu rfl (.inr (Ext.refl _)) <| pvf rfl rfl rfl rfl rfl rfl bu rfl (.inl rfl) <| pvf rfl rfl rfl rfl rfl rfl bu rfl (.inl rfl) <| pvf rfl rfl rfl rfl rfl rfl (bft h8) rfl (.inl rfl) <| pv rfl rfl rfl (fun _ _ => xpf rfl h8 rfl) (.inl rfl) <| ?_
                cases hB4
                refine lf <| ?_
                exact ⟨rfl, l2_i1, l6_i1, l7_i1, l8_i1, hx7⟩
          rintro L w11 ⟨l48_j1, l2_j1, l6_j1, l7_j1, l8_j1, K0_j1⟩
          have k16 := k4.tr K0_j1
          have k17 := K0_i1.tr K0_j1
          have r31 := r15.ext K0_j1
          have r32 := r16.ext K0_j1
          have hb9 := hb4.ext K0_j1
          have r33 := r17.ext K0_j1
          have hz := bs hB3; obtain ⟨y5, hB5, hB3⟩ := hz
          refine ct (fun L w => L 7 = .int .i64 y5 ∧ L 2 = .pointer (some ⟨b3, 0, none⟩) ∧ L 6 = .slice a4 x5.length cq4 ∧ L 8 = .int .i64 y2 ∧ Ext w11 w) ?_ ?_
          ·
            refine cnd l48_j1 (fun h10 => ?_) (fun h10 => ?_)
            ·
              have hB5 := ifp hB5 h10
              refine rg <| vl rfl rfl xmv <| vl rfl rfl xmv <| ?_
              have hz := bs hB5; obtain ⟨x13, Ex13, hB5⟩ := hz
              have hz := (RV.els r12).ix Ex13; obtain ⟨b6, f3, cs7, e5, i10, i11, q9, hc10⟩ := hz
              cases e5
              obtain rfl := q9
              have hc11 := hc10.ext k17
              refine vl rfl rfl (xixs l6_j1 l8_j1 Try.underlying26 ti3 i10 i11) <| vl rfl rfl (xld rfl ti3 (hc11.at 0 rfl)) <| vl rfl rfl xas <| nl <| ?_
              cases hB5
              refine lf <| ?_
              exact ⟨rfl, l2_j1, l6_j1, l8_j1, (Ext.refl _)⟩
            ·
              have hB5 := ifn hB5 h10
              refine wp_skip <| ?_
              cases hB5
              refine lf <| ?_
              exact ⟨l7_j1, l2_j1, l6_j1, l8_j1, (Ext.refl _)⟩
          rintro L w12 ⟨l7_j2, l2_j2, l6_j2, l8_j2, K0_j2⟩
          have k18 := k16.tr K0_j2
          have k19 := k17.tr K0_j2
          have k20 := K0_j1.tr K0_j2
          have r34 := r31.ext K0_j2
          have r35 := r32.ext K0_j2
          have hb10 := hb9.ext K0_j2
          have r36 := r33.ext K0_j2
          cases hB3
          refine lf <| ?_
          exact ⟨l7_j2, l2_j2, l6_j2, l8_j2, k20⟩
        rintro L w13 ⟨l7_j3, l2_j3, l6_j3, l8_j3, K0_j3⟩
        have k21 := k4.tr K0_j3
        have k22 := K0_i1.tr K0_j3
        have r37 := r15.ext K0_j3
        have r38 := r16.ext K0_j3
        have hb11 := hb4.ext K0_j3
        have r39 := r17.ext K0_j3
        refine rg <| vl rfl rfl xmv <| vl rfl rfl (xadd l8_j3 rfl) <| vl rfl rfl xas <| nl <| ?_
        refine lq m (Nat.lt_succ_self _) <| ?_
        exact ⟨_, _, hB1, l7_j3, rfl, l2_j3, l6_j3, k22⟩
      ·
        have hB1 := ifn hB1 h4
        refine wp_exit <| ?_
        cases hB1
        refine lf <| ?_
        exact ⟨l7_i1, K0_i1⟩
    rintro L w14 ⟨l7_j4, K0_j4⟩
    have k23 := k3.tr K0_j4
    refine wp_seq <| wp_seq <| rg <| vl rfl rfl xmv <| vl rfl rfl (xlss l7_j4 rfl) <| nl <| cnd rfl (fun h11 => ?_) (fun h11 => ?_)
    ·
      have hF := ifp hF h11
      refine wp_seq <| rg <| vl rfl rfl xas <| vl rfl rfl xas <| nl <| ?_
      cases hF
      exact wp_ret <| rt rfl (.tmp rfl rfl (.tmp rfl rfl .nil)) ⟨rfl, k23⟩
    ·
      have hF := ifn hF h11
      refine wp_skip <| wp_seq <| rg <| vl rfl rfl xmv <| vl rfl rfl xas <| vl rfl rfl xas <| nl <| ?_
      cases hF
      exact wp_ret <| rt rfl (.tmp l7_j4 rfl (.tmp rfl rfl .nil)) ⟨rfl, k23⟩

set_option maxHeartbeats 4000000 in
theorem c29 {w0 : World} {v0 : Value} {x0 : ((List Int) × (List ((List Int) × (List Int))))} (r0 : RV w0 v0 x0) {v1 : Value} {x1 : (List Int)} (r1 : RV w0 v1 x1) {F : Nat} {r : Bool} (hF : law11_fine F x0 x1 = some r) :
    Calls Try.prog 29 [v0, v1].toArray w0 (Ret fun v w' => v = .bool r ∧ Ext w0 w') := by
  unfold law11_fine at hF
  have hz := id r0; obtain ⟨_, rfl, ⟨_, _, rfl, ⟨a1, cq1, rfl, p1, q3, e1⟩, ⟨a2, cq2, rfl, p2, q4, e2⟩⟩⟩ := hz
  have r3 := RV.of1 p1 q3 e1
  have r4 := RV.of1 p2 q4 e2
  have hz := r1.sl; obtain ⟨a3, cq3, rfl, -, -, -⟩ := hz
  refine entr (n := 24) Try.func29 rfl rfl rfl <| wp_seq <| rg <| sbx rfl rfl fun b3 w1 hx1 hg1 hb1 => ?_
  have r5 := r1.ext hx1
  have r6 := r3.ext hx1
  have r7 := r4.ext hx1
  have r8 := r0.ext hx1
  refine vl rfl rfl xas <| nl <| wp_seq <| rg <| vl rfl rfl (xlda rfl ti25 rfl (Bx.cs hb1)) <| ?_
  have hz := bs hF; obtain ⟨x3, Ex3, hF⟩ := hz
  refine cl rfl rfl (xc cb12 (mc rfl mn)) (c12 (show RV (α := ((List Int) × (List ((List Int) × (List Int))))) _ (.agg [.slice a1 x0.1.length cq1, .slice a2 x0.2.length cq2].toArray) (x0.1, x0.2) from ⟨_, rfl, ⟨[.slice a1 x0.1.length cq1], [.slice a2 x0.2.length cq2], rfl, r6.rep1, r7.rep1⟩⟩) Ex3) ?_
  rintro _ w2 ⟨rfl, hx2⟩
  have k1 := hx1.tr hx2
  have hb2 := hb1.ext hx2
  have r9 := r6.ext hx2
  have r10 := r7.ext hx2
  have r11 := r5.ext hx2
  refine vl rfl rfl (xnot rfl) <| vl rfl rfl xmv <| gv rfl rfl rfl rfl (gw1 rfl) rfl (fun hc => xmva rfl) <| gv rfl rfl rfl rfl (gw1 rfl) rfl (fun hc => xlen (mv hc rfl) Try.underlying22) <| gv rfl rfl rfl rfl (gw1 rfl) rfl (fun hc => xleq (mv hc rfl) rfl) <| vl rfl rfl (xpa rfl rfl rfl) <| vl rfl rfl xmv <| gv rfl rfl rfl rfl (gw1 rfl) rfl (fun hc => xlda rfl ti25 rfl (Bx.cs hb2)) <| gv rfl rfl rfl rfl (gw1 rfl) rfl (fun hc => xmva rfl) <| ?_
  have hz := bs hF; obtain ⟨x4, Ex4, hF⟩ := hz
  refine gc rfl rfl rfl rfl (gw1 rfl) rfl (fun hc => xc cb31 (mc (mv hc rfl) (mc (mv hc rfl) mn))) (fun hc => (c31 (show RV (α := ((List Int) × (List ((List Int) × (List Int))))) _ (.agg [.slice a1 x0.1.length cq1, .slice a2 x0.2.length cq2].toArray) (x0.1, x0.2) from ⟨_, rfl, ⟨[.slice a1 x0.1.length cq1], [.slice a2 x0.2.length cq2], rfl, r9.rep1, r10.rep1⟩⟩) r11 (gdp Ex4 hc))) (fun v3 w3 hy1 hn1 => ?_)
  have hx3 : Ext w2 w3 := gx (fun h => (hy1 h).2) (fun h => (hn1 h).2 ▸ Ext.refl _)
  have e3 := mkw (fun h => (hy1 h).1) (fun h => (hn1 h).1)
  have k2 := k1.tr hx3
  have hb3 := hb2.ext hx3
  have r12 := r9.ext hx3
  have r13 := r10.ext hx3
  refine gv rfl rfl rfl rfl (gw1 rfl) rfl (fun hc => xeql (mv hc e3) rfl) <| vl rfl rfl (xpa rfl rfl rfl) <| vl rfl rfl xmv <| gv rfl rfl rfl rfl (gw1 rfl) rfl (fun hc => xlda rfl ti25 rfl (Bx.cs hb3)) <| ?_
  have hz := bs hF; obtain ⟨x5, Ex5, hF⟩ := hz
  refine gc rfl rfl rfl rfl (gw1 rfl) rfl (fun hc => xc cb57 (mc (mv hc rfl) mn)) (fun hc => (c57 (show RV (α := ((List Int) × (List ((List Int) × (List Int))))) _ (.agg [.slice a1 x0.1.length cq1, .slice a2 x0.2.length cq2].toArray) (x0.1, x0.2) from ⟨_, rfl, ⟨[.slice a1 x0.1.length cq1], [.slice a2 x0.2.length cq2], rfl, r12.rep1, r13.rep1⟩⟩) (gdp Ex5 hc))) (fun v4 w4 hy2 hn2 => ?_)
  have hx4 : Ext w3 w4 := gx (fun h => (hy2 h).2) (fun h => (hn2 h).2 ▸ Ext.refl _)
  have e4 := mkw (fun h => (hy2 h).1) (fun h => (hn2 h).1)
  have k3 := k2.tr hx4
  refine gv rfl rfl rfl rfl (gw1 rfl) rfl (fun hc => xleq (mv hc e4) rfl) <| vl rfl rfl (xpa rfl rfl rfl) <| vl rfl rfl xas <| nl <| ?_
  cases hF
  exact wp_ret <| rt rfl (.tmp rfl rfl .nil) ⟨rfl, k3⟩

set_option maxHeartbeats 4000000 in
theorem c30 {w0 : World} {v0 : Value} {x0 : ((List Int) × (List ((List Int) × (List Int))))} (r0 : RV w0 v0 x0) {v1 : Value} {x1 : (List Int)} (r1 : RV w0 v1 x1) {v2 : Value} {x2 : (List (KI .u8))} (r2 : RV w0 v2 x2) {F : Nat} {r : (List Int)} (hF : law11_Walk F x0 x1 x2 = some r) :
    Calls Try.prog 30 [v0, v1, v2].toArray w0 (Ret fun v w' => ∃ u0 : Value, v = u0 ∧ RV w' u0 r ∧ Ext w0 w') := by
  unfold law11_Walk at hF
  have hz := id r0; obtain ⟨_, rfl, ⟨_, _, rfl, ⟨a1, cq1, rfl, p1, q4, e1⟩, ⟨a2, cq2, rfl, p2, q5, e2⟩⟩⟩ := hz
  have r4 := RV.of1 p1 q4 e1
  have r5 := RV.of1 p2 q5 e2
  have hz := r1.sl; obtain ⟨a3, cq3, rfl, -, -, -⟩ := hz
  have hz := r2.sl; obtain ⟨a4, cq4, rfl, -, -, -⟩ := hz
  refine entr (n := 68) Try.func30 rfl rfl rfl <| wp_seq <| rg <| sbx rfl rfl fun b4 w1 hx1 hg1 hb1 => ?_
  have r6 := r1.ext hx1
  have r7 := r2.ext hx1
  have r8 := r4.ext hx1
  have r9 := r5.ext hx1
  have r10 := r0.ext hx1
  refine vl rfl rfl xas <| nl <| wp_seq <| rg <| vl rfl rfl xas <| nl <| wp_seq <| wp_seq <| rg <| vl rfl rfl xas <| nl <| ?_
  have o1 : Row (α := Int) 3 w1.heap.size w1 (.slice none 0 0) [] := Row.nil
  have hz := bs hF; obtain ⟨o2, hB1, hF⟩ := hz
  refine ct (fun L w => ∃ z1 : (List Int), ∃ v5 : Value, o2 = .inr z1 ∧ L 7 = v5 ∧ Row 3 w1.heap.size w v5 z1 ∧ Ext w1 w) ?_ ?_
  ·
    refine wp_block <| lp (I := fun m L w => ∃ y1 : (List Int), ∃ y2 : Int, ∃ v4 : Value, law11_Walk_l1 F x0 x1 x2 m y1 y2  = some o2 ∧ L 7 = v4 ∧ Row 3 w1.heap.size w v4 y1 ∧ L 8 = .int .i64 y2 ∧ L 1 = .slice a3 x1.length cq3 ∧ L 2 = .slice a4 x2.length cq4 ∧ L 3 = .pointer (some ⟨b4, 0, none⟩) ∧ Ext w1 w) F ⟨_, _, _, hB1, rfl, o1, rfl, rfl, rfl, rfl, (Ext.refl _)⟩ ?_
    rintro m L w2 ⟨y1, y2, v4, hB1, l7_i1, O7_i1, l8_i1, l1_i1, l2_i1, l3_i1, K0_i1⟩
    rcases m with _ | m
    · rw [law11_Walk_l1] at hB1; cases hB1
    rw [law11_Walk_l1] at hB1
    have k1 := hx1.tr K0_i1
    have r11 := r6.ext K0_i1
    have r12 := r7.ext K0_i1
    have r13 := r8.ext K0_i1
    have r14 := r9.ext K0_i1
    have hb2 := hb1.ext K0_i1
    have hz := RV.sl O7_i1.rv; obtain ⟨a5, cq5, rfl, -, -, -⟩ := hz
    refine wp_seq <| wp_seq <| rg <| vl rfl rfl xmv <| vl rfl rfl xmv <| vl rfl rfl (xlen l2_i1 Try.underlying47) <| vl rfl rfl (xlss l8_i1 rfl) <| nl <| cnd rfl (fun h4 => ?_) (fun h4 => ?_)
    ·
      have hB1 := ifp hB1 h4
      refine wp_skip <| wp_seq <| wp_block <| wp_seq <| rg <| vl rfl rfl (xlda l3_i1 ti25 rfl (Bx.cs hb2)) <| vl rfl rfl xmv <| vl rfl rfl xmv <| ?_
      have hz := bs hB1; obtain ⟨x4, Ex4, hB1⟩ := hz
      refine cl rfl rfl (xc cb15 (mc rfl (mc l1_i1 (mc l7_i1 mn)))) (c15 (show RV (α := ((List Int) × (List ((List Int) × (List Int))))) _ (.agg [.slice a1 x0.1.length cq1, .slice a2 x0.2.length cq2].toArray) (x0.1, x0.2) from ⟨_, rfl, ⟨[.slice a1 x0.1.length cq1], [.slice a2 x0.2.length cq2], rfl, r13.rep1, r14.rep1⟩⟩) r11 O7_i1.rv Ex4) ?_
      rintro _ w3 ⟨u1, rfl, r15, hx2⟩
      have k2 := k1.tr hx2
      have k3 := K0_i1.tr hx2
      have hb3 := hb2.ext hx2
      have r16 := r13.ext hx2
      have r17 := r14.ext hx2
      have r18 := r11.ext hx2
      have r19 := r12.ext hx2
      have O1 := O7_i1.ext hx2
      have hz := RV.sl r15; obtain ⟨a6, cq6, rfl, -, -, -⟩ := hz
      refine vl rfl rfl xmv <| vl rfl rfl (xext rfl rfl) <| vl rfl rfl (xext rfl rfl) <| vl rfl rfl xas <| vl rfl rfl xas <| nl <| wp_seq <| rg <| vl rfl rfl xas <| nl <| wp_seq <| wp_seq <| rg <| vl rfl rfl xas <| nl <| ?_
      have o3 : Row (α := Int) 3 w3.heap.size w3 (.slice none 0 0) [] := Row.nil
      have hz := bs hB1; obtain ⟨z2, hB3, hB1⟩ := hz
      refine ct (fun L w => ∃ v7 : Value, L 11 = v7 ∧ Row 3 w3.heap.size w v7 z2 ∧ Apart (v7) (.slice a5 y1.length cq5) ∧ L 1 = .slice a3 x1.length cq3 ∧ L 2 = .slice a4 x2.length cq4 ∧ L 3 = .pointer (some ⟨b4, 0, none⟩) ∧ L 7 = .slice a5 y1.length cq5 ∧ L 8 = .int .i64 y2 ∧ w1.heap.size ≤ w.heap.size ∧ Ext w3 w) ?_ ?_
      ·
        refine wp_block <| lp (I := fun m L w => ∃ y3 : (List Int), ∃ y4 : Int, ∃ v6 : Value, law11_Walk_l2 F x0 x4 m y3 y4  = some z2 ∧ L 11 = v6 ∧ Row 3 w3.heap.size w v6 y3 ∧ L 12 = .int .i64 y4 ∧ Apart (v6) (.slice a5 y1.length cq5) ∧ L 1 = .slice a3 x1.length cq3 ∧ L 2 = .slice a4 x2.length cq4 ∧ L 3 = .pointer (some ⟨b4, 0, none⟩) ∧ L 7 = .slice a5 y1.length cq5 ∧ L 8 = .int .i64 y2 ∧ L 9 = .slice a6 x4.1.length cq6 ∧ w1.heap.size ≤ w.heap.size ∧ Ext w3 w) F ⟨_, _, _, hB3, rfl, o3, rfl, (Apart.symm (Apart.old' O1.own_lt (fun q e => (o3.lt q e).1))), l1_i1, l2_i1, l3_i1, l7_i1, l8_i1, rfl, k3.size, (Ext.refl _)⟩ ?_
        rintro m L w4 ⟨y3, y4, v6, hB3, l11_i2, O11_i2, l12_i2, X0_i2, l1_i2, l2_i2, l3_i2, l7_i2, l8_i2, l9_i2, Z0_i2, K0_i2⟩
        rcases m with _ | m
        · rw [law11_Walk_l2] at hB3; cases hB3
        rw [law11_Walk_l2] at hB3
        have k4 := k2.tr K0_i2
        have k5 := k3.tr K0_i2
        have r20 := r18.ext K0_i2
        have r21 := r19.ext K0_i2
        have r22 := r16.ext K0_i2
        have r23 := r17.ext K0_i2
        have hb4 := hb3.ext K0_i2
        have O2 := O1.ext K0_i2
        have r24 := r15.ext K0_i2
        have hz := RV.sl O11_i2.rv; obtain ⟨a7, cq7, rfl, -, -, -⟩ := hz
        refine wp_seq <| wp_seq <| rg <| vl rfl rfl xmv <| vl rfl rfl (xfa l3_i2 fa25_1) <| vl rfl rfl (xld rfl ti23 ((Bx.cs hb4).at 1 rfl)) <| vl rfl rfl (xlen rfl Try.underlying23) <| vl rfl rfl (xlss l12_i2 rfl) <| nl <| cnd rfl (fun h5 => ?_) (fun h5 => ?_)
        ·
          have hB3 := ifp hB3 h5
          refine wp_skip <| wp_seq <| ?_
          have hz := bs hB3; obtain ⟨y5, hB5, hB3⟩ := hz
          refine ct (fun L w => ∃ v8 : Value, L 11 = v8 ∧ Row 3 w3.heap.size w v8 y5 ∧ Apart (v8) (.slice a5 y1.length cq5) ∧ L 1 = .slice a3 x1.length cq3 ∧ L 2 = .slice a4 x2.length cq4 ∧ L 3 = .pointer (some ⟨b4, 0, none⟩) ∧ L 7 = .slice a5 y1.length cq5 ∧ L 8 = .int .i64 y2 ∧ L 9 = .slice a6 x4.1.length cq6 ∧ L 12 = .int .i64 y4 ∧ w1.heap.size ≤ w.heap.size ∧ Ext w3 w) ?_ ?_
          ·
            refine wp_block <| wp_seq <| rg <| vl rfl rfl (xlda l3_i2 ti25 rfl (Bx.cs hb4)) <| vl rfl rfl xmv <| vl rfl rfl xmv <| sbsv (cs := [.int .i64 y4]) Try.underlying26 ti3 rfl (pc l12_i2 pn) rfl rfl rfl rfl rfl fun b5 w5 hx3 hg2 hb5 => ?_
            have k6 := k4.tr hx3
            have k7 := k5.tr hx3
            have k8 := K0_i2.tr hx3
            have zs1 := Nat.le_trans Z0_i2 hx3.size
            have hb6 := hb4.ext hx3
            have r25 := r22.ext hx3
            have r26 := r23.ext hx3
            have r27 := r20.ext hx3
            have r28 := r21.ext hx3
            have O3 := O2.ext hx3
            have r29 := r24.ext hx3
            have O4 := O11_i2.ext hx3
            have o5 : Row (α := Int) 3 w4.heap.size w5 (.slice (some ⟨b5, 0, none⟩) 1 1) [y4] := Row.lit hg2 hb5 rfl (ble rfl)
            have hz := bs hB5; obtain ⟨x5, Ex5, hB5⟩ := hz
            refine cl rfl rfl (xc cb15 (mc rfl (mc l9_i2 (mc rfl mn)))) (c15 (show RV (α := ((List Int) × (List ((List Int) × (List Int))))) _ (.agg [.slice a1 x0.1.length cq1, .slice a2 x0.2.length cq2].toArray) (x0.1, x0.2) from ⟨_, rfl, ⟨[.slice a1 x0.1.length cq1], [.slice a2 x0.2.length cq2], rfl, r25.rep1, r26.rep1⟩⟩) r29 o5.rv Ex5) ?_
            rintro _ w6 ⟨u2, rfl, r31, hx4⟩
            have k9 := k6.tr hx4
            have k10 := k7.tr hx4
            have k11 := k8.tr hx4
            have k12 := hx3.tr hx4
            have zs2 := Nat.le_trans zs1 hx4.size
            have hb7 := hb6.ext hx4
            have r32 := r25.ext hx4
            have r33 := r26.ext hx4
            have r34 := r27.ext hx4
            have r35 := r28.ext hx4
            have O5 := O3.ext hx4
            have r36 := r29.ext hx4
            have O6 := O4.ext hx4
            have hz := RV.sl r31; obtain ⟨a8, cq8, rfl, -, -, -⟩ := hz
            refine vl rfl rfl xmv <| vl rfl rfl (xext rfl rfl) <| vl rfl rfl (xext rfl rfl) <| vl rfl rfl xas <| vl rfl rfl xas <| nl <| wp_seq <| rg <| vl rfl rfl xmv <| vl rfl rfl (xeql rfl rfl) <| nl <| ?_
            have hz := bs hB5; obtain ⟨y6, hB6, hB5⟩ := hz
            refine ct (fun L w => ∃ v9 : Value, L 11 = v9 ∧ Row 3 w3.heap.size w v9 y6 ∧ Apart (v9) (.slice a5 y1.length cq5) ∧ L 1 = .slice a3 x1.length cq3 ∧ L 2 = .slice a4 x2.length cq4 ∧ L 3 = .pointer (some ⟨b4, 0, none⟩) ∧ L 7 = .slice a5 y1.length cq5 ∧ L 8 = .int .i64 y2 ∧ L 9 = .slice a6 x4.1.length cq6 ∧ L 12 = .int .i64 y4 ∧ w1.heap.size ≤ w.heap.size ∧ Ext w3 w) ?_ ?_
            ·
              refine cnd rfl (fun h6 => ?_) (fun h6 => ?_)
              ·
                have hB6 := ifp hB6 h6
                refine rg <| vl rfl rfl xmv <| vl rfl rfl xmv <| sbsv (cs := [.int .i64 y4]) Try.underlying26 ti3 rfl (pc l12_i2 pn) rfl rfl rfl rfl rfl fun b6 w7 hx5 hg3 hb8 => ?_
                have k13 := k9.tr hx5
                have k14 := k10.tr hx5
                have k15 := k11.tr hx5
                have k16 := k12.tr hx5
                have zs3 := Nat.le_trans zs2 hx5.size
                have hb9 := hb7.ext hx5
                have r37 := r32.ext hx5
                have r38 := r33.ext hx5
                have r39 := r34.ext hx5
                have r40 := r35.ext hx5
                have O7 := O5.ext hx5
                have r41 := r36.ext hx5
                have O8 := O6.ext hx5
                have o6 : Row (α := Int) 3 w6.heap.size w7 (.slice (some ⟨b6, 0, none⟩) 1 1) [y4] := Row.lit hg3 hb8 rfl (ble rfl)
                have hz := bs hB6; obtain ⟨x6, Ex6, hB6⟩ := hz
                refine sapx (l := y3) (k := ([y4] : List Int)) l11_i2 rfl Try.underlying26 ti3 rfl rfl O8 (RV.els o6.rv) Ex6 k15.size fun v10 w8 o7 hB8 hgr1 how1 => ?_
                have k17 := Ext.grow k13 k2.size hB8
                have k18 := Ext.grow k14 k3.size hB8
                have k19 : Ext w3 w8 := k15.trans hB8
                have X1 := Apart.app how1 X0_i2 O7.own_lt
                have zs4 := Nat.le_trans zs3 hgr1.size
                have hb10 := hb3.ext k19
                have r43 := r16.ext k19
                have r44 := r17.ext k19
                have r45 := r18.ext k19
                have r46 := r19.ext k19
                have O9 := O1.ext k19
                have r47 := r15.ext k19
                have hz := RV.sl o7.rv; obtain ⟨a9, cq9, rfl, -, -, -⟩ := hz
                refine vl rfl rfl xas <| nl <| ?_
                cases hB6
                refine lf <| ?_
                exact ⟨_, rfl, o7, X1, l1_i2, l2_i2, l3_i2, l7_i2, l8_i2, l9_i2, l12_i2, zs4, k19⟩
              ·
                have hB6 := ifn hB6 h6
                refine wp_skip <| ?_
                cases hB6
                refine lf <| ?_
                exact ⟨_, l11_i2, O6, X0_i2, l1_i2, l2_i2, l3_i2, l7_i2, l8_i2, l9_i2, l12_i2, zs2, k11⟩
            rintro L w9 ⟨v9, l11_j1, O11_j1, X0_j1, l1_j1, l2_j1, l3_j1, l7_j1, l8_j1, l9_j1, l12_j1, Z0_j1, K0_j1⟩
            have k20 := k2.tr K0_j1
            have k21 := k3.tr K0_j1
            have r48 := r18.ext K0_j1
            have r49 := r19.ext K0_j1
            have r50 := r16.ext K0_j1
            have r51 := r17.ext K0_j1
            have hb11 := hb3.ext K0_j1
            have O10 := O1.ext K0_j1
            have r52 := r15.ext K0_j1
            have hz := RV.sl O11_j1.rv; obtain ⟨a10, cq10, rfl, -, -, -⟩ := hz
            cases hB5
            refine lf <| ?_
            exact ⟨_, l11_j1, O11_j1, X0_j1, l1_j1, l2_j1, l3_j1, l7_j1, l8_j1, l9_j1, l12_j1, Z0_j1, K0_j1⟩
          rintro L w10 ⟨v8, l11_j2, O11_j2, X0_j2, l1_j2, l2_j2, l3_j2, l7_j2, l8_j2, l9_j2, l12_j2, Z0_j2, K0_j2⟩
          have k22 := k2.tr K0_j2
          have k23 := k3.tr K0_j2
          have r53 := r18.ext K0_j2
          have r54 := r19.ext K0_j2
          have r55 := r16.ext K0_j2
          have r56 := r17.ext K0_j2
          have hb12 := hb3.ext K0_j2
          have O11 := O1.ext K0_j2
          have r57 := r15.ext K0_j2
          have hz := RV.sl O11_j2.rv; obtain ⟨a11, cq11, rfl, -, -, -⟩ := hz
          refine rg <| vl rfl rfl xmv <| vl rfl rfl (xadd l12_j2 rfl) <| vl rfl rfl xas <| nl <| ?_
          refine lq m (Nat.lt_succ_self _) <| ?_
          exact ⟨_, _, _, hB3, l11_j2, O11_j2, rfl, X0_j2, l1_j2, l2_j2, l3_j2, l7_j2, l8_j2, l9_j2, Z0_j2, K0_j2⟩
        ·
          have hB3 := ifn hB3 h5
          refine wp_exit <| ?_
          cases hB3
          refine lf <| ?_
          exact ⟨_, l11_i2, O11_i2, X0_i2, l1_i2, l2_i2, l3_i2, l7_i2, l8_i2, Z0_i2, K0_i2⟩
      rintro L w11 ⟨v7, l11_j3, O11_j3, X0_j3, l1_j3, l2_j3, l3_j3, l7_j3, l8_j3, Z0_j3, K0_j3⟩
      have k24 := k2.tr K0_j3
      have k25 := k3.tr K0_j3
      have r58 := r18.ext K0_j3
      have r59 := r19.ext K0_j3
      have r60 := r16.ext K0_j3
      have r61 := r17.ext K0_j3
      have hb13 := hb3.ext K0_j3
      have O12 := O1.ext K0_j3
      have hz := RV.sl O11_j3.rv; obtain ⟨a12, cq12, rfl, -, -, -⟩ := hz
      refine wp_seq <| wp_seq <| rg <| vl rfl rfl xmv <| vl rfl rfl (xlen l11_j3 Try.underlying26) <| vl rfl rfl (xeql rfl rfl) <| nl <| cnd rfl (fun h7 => ?_) (fun h7 => ?_)
      ·
        have hB1 := ifp hB1 h7
        refine wp_seq <| rg <| vl rfl rfl xmv <| vl rfl rfl xas <| nl <| ?_
        cases hB1
        have hF := (show some _ = some _ from hF); cases hF
        exact wp_ret <| rt rfl (.tmp l7_j3 rfl .nil) ⟨_, rfl, O12.rv, k24⟩
      ·
        have hB1 := ifn hB1 h7
        refine wp_skip <| rg <| vl rfl rfl xmv <| vl rfl rfl xmv <| vl rfl rfl xmv <| vl rfl rfl xmv <| ?_
        have hz := bs hB1; obtain ⟨x7, Ex7, hB1⟩ := hz
        have hz := (RV.els r2).ix Ex7; obtain ⟨b7, f1, cs4, e3, i3, i4, q6, hc1⟩ := hz
        cases e3
        obtain rfl := q6
        have hc2 := hc1.ext k24
        refine vl rfl rfl (xixs l2_j3 l8_j3 Try.underlying47 ti5 i3 i4) <| vl rfl rfl (xld rfl ti5 (hc2.at 0 rfl)) <| vl rfl rfl (xcvt rfl Try.underlying5 Try.underlying3) <| vl rfl rfl xmv <| vl rfl rfl (xlen l11_j3 Try.underlying26) <| ?_
        have hz := bs hB1; obtain ⟨x8, Ex8, hB1⟩ := hz
        refine vl rfl rfl (xremv rfl rfl Ex8) <| ?_
        have hz := bs hB1; obtain ⟨x9, Ex9, hB1⟩ := hz
        have hz := (RV.els O11_j3.rv).ix Ex9; obtain ⟨b8, f2, cs5, e4, i5, i6, q7, hc3⟩ := hz
        cases e4
        obtain rfl := q7
        refine vl rfl rfl (xixs l11_j3 rfl Try.underlying26 ti3 i5 i6) <| vl rfl rfl (xld rfl ti3 (hc3.at 0 rfl)) <| sbsv (cs := [.int .i64 x9]) Try.underlying26 ti3 rfl (pc rfl pn) rfl rfl rfl rfl rfl fun b9 w12 hx6 hg4 hb14 => ?_
        have k26 := k24.tr hx6
        have k27 := k25.tr hx6
        have k28 := K0_j3.tr hx6
        have zs5 := Nat.le_trans Z0_j3 hx6.size
        have hb15 := hb13.ext hx6
        have r62 := r60.ext hx6
        have r63 := r61.ext hx6
        have r64 := r58.ext hx6
        have r65 := r59.ext hx6
        have O13 := O12.ext hx6
        have o8 : Row (α := Int) 3 w11.heap.size w12 (.slice (some ⟨b9, 0, none⟩) 1 1) [x9] := Row.lit hg4 hb14 rfl (ble rfl)
        have hz := bs hB1; obtain ⟨x10, Ex10, hB1⟩ := hz
        refine sapx (l := y1) (k := ([x9] : List Int)) l7_j3 rfl Try.underlying26 ti3 rfl rfl O13 (RV.els o8.rv) Ex10 k27.size fun v11 w13 o9 hB13 hgr2 how2 => ?_
        have k29 := Ext.grow k26 hx1.size hB13
        have k30 : Ext w1 w13 := k27.trans hB13
        have zs6 := Nat.le_trans zs5 hgr2.size
        have hb16 := hb1.ext k30
        have r67 := r8.ext k30
        have r68 := r9.ext k30
        have r69 := r6.ext k30
        have r70 := r7.ext k30
        have hz := RV.sl o9.rv; obtain ⟨a13, cq13, rfl, -, -, -⟩ := hz
        refine vl rfl rfl xas <| nl <| rg <| vl rfl rfl xmv <| vl rfl rfl (xadd l8_j3 rfl) <| vl rfl rfl xas <| nl <| ?_
        refine lq m (Nat.lt_succ_self _) <| ?_
        exact ⟨_, _, _, hB1, rfl, o9, rfl, l1_j3, l2_j3, l3_j3, k30⟩
    ·
      have hB1 := ifn hB1 h4
      refine wp_exit <| ?_
      cases hB1
      refine lf <| ?_
      exact ⟨_, _, rfl, l7_i1, O7_i1, K0_i1⟩
  rintro L w14 ⟨z1, v5, rfl, l7_j4, O7_j4, K0_j4⟩
  have k31 := hx1.tr K0_j4
  have hz := RV.sl O7_j4.rv; obtain ⟨a14, cq14, rfl, -, -, -⟩ := hz
  refine wp_seq <| rg <| vl rfl rfl xmv <| vl rfl rfl xas <| nl <| ?_
  cases hF
  exact wp_ret <| rt rfl (.tmp l7_j4 rfl .nil) ⟨_, rfl, O7_j4.rv, k31⟩

set_option maxHeartbeats 4000000 in
theorem c67 {w0 : World} {v0 : Value} {x0 : (List Int)} (r0 : RV w0 v0 x0) {v1 : Value} {x1 : (List Int)} (r1 : RV w0 v1 x1) {F : Nat} {r : Int} (hF : bath_sum F x0 x1 = some r) :
    Calls Try.prog 67 [v0, v1].toArray w0 (Ret fun v w' => v = .int .i64 r ∧ Ext w0 w') := by
  unfold bath_sum at hF
  have hz := r0.sl; obtain ⟨a1, cq1, rfl, -, -, -⟩ := hz
  have hz := r1.sl; obtain ⟨a2, cq2, rfl, -, -, -⟩ := hz
  refine entr (n := 25) Try.func67 rfl rfl rfl <| wp_seq <| rg <| vl rfl rfl xas <| nl <| wp_seq <| rg <| vl rfl rfl xas <| nl <| wp_seq <| wp_seq <| rg <| vl rfl rfl xmv <| vl rfl rfl (xlen rfl Try.underlying22) <| vl rfl rfl xmv <| nl <| ?_
  have hz := bs hF; obtain ⟨z1, hB1, hF⟩ := hz
  refine ct (fun L w => L 5 = .int .i64 z1 ∧ Ext w0 w) ?_ ?_
  ·
    refine wp_block <| lp (I := fun m L w => ∃ y1 : Int, ∃ y2 : Int, bath_sum_l1 F x0 x1 m y1 y2  = some z1 ∧ L 5 = .int .i64 y1 ∧ L 10 = .int .i64 y2 ∧ L 1 = .slice a2 x1.length cq2 ∧ L 8 = .slice a1 x0.length cq1 ∧ L 9 = .int .i64 (x0.length : Int) ∧ Ext w0 w) F ⟨_, _, hB1, rfl, rfl, rfl, rfl, rfl, (Ext.refl _)⟩ ?_
    rintro m L w1 ⟨y1, y2, hB1, l5_i1, l10_i1, l1_i1, l8_i1, l9_i1, K0_i1⟩
    rcases m with _ | m
    · rw [bath_sum_l1] at hB1; cases hB1
    rw [bath_sum_l1] at hB1
    have r3 := r1.ext K0_i1
    have r4 := r0.ext K0_i1
    refine wp_seq <| rg <| vl rfl rfl (xlss l10_i1 l9_i1) <| nl <| wp_seq <| cnd rfl (fun h3 => ?_) (fun h3 => ?_)
    ·
      have hB1 := ifp hB1 h3
      refine wp_skip <| wp_seq <| wp_block <| wp_seq <| rg <| vl rfl rfl xmv <| ?_
      have hz := bs hB1; obtain ⟨x3, Ex3, hB1⟩ := hz
      have hz := (RV.els r0).ix Ex3; obtain ⟨b3, f1, cs3, e1, i2, i3, q3, hc1⟩ := hz
      cases e1
      obtain rfl := q3
      have hc2 := hc1.ext K0_i1
      refine vl rfl rfl (xixs l8_i1 l10_i1 Try.underlying22 ti2 i2 i3) <| vl rfl rfl (xld rfl ti2 (hc2.at 0 rfl)) <| vl rfl rfl xas <| vl rfl rfl xas <| nl <| rg <| vl rfl rfl xmv <| vl rfl rfl xmv <| vl rfl rfl xmv <| vl rfl rfl xmv <| ?_
      have hz := bs hB1; obtain ⟨x4, Ex4, hB1⟩ := hz
      have hz := (RV.els r1).ix Ex4; obtain ⟨b4, f2, cs4, e2, i4, i5, q4, hc3⟩ := hz
      cases e2
      obtain rfl := q4
      have hc4 := hc3.ext K0_i1
      refine vl rfl rfl (xixs l1_i1 l10_i1 Try.underlying22 ti2 i4 i5) <| vl rfl rfl (xld rfl ti2 (hc4.at 0 rfl)) <| vl rfl rfl (xmul rfl rfl) <| vl rfl rfl (xadd l5_i1 rfl) <| vl rfl rfl xas <| nl <| rg <| vl rfl rfl (xadd l10_i1 rfl) <| vl rfl rfl xmv <| nl <| ?_
      refine lq m (Nat.lt_succ_self _) <| ?_
      exact ⟨_, _, hB1, rfl, rfl, l1_i1, l8_i1, l9_i1, K0_i1⟩
    ·
      have hB1 := ifn hB1 h3
      refine wp_exit <| ?_
      cases hB1
      refine lf <| ?_
      exact ⟨l5_i1, K0_i1⟩
  rintro L w2 ⟨l5_j1, K0_j1⟩
  refine wp_seq <| rg <| vl rfl rfl xmv <| vl rfl rfl xas <| nl <| ?_
  cases hF
  exact wp_ret <| rt rfl (.tmp l5_j1 rfl .nil) ⟨rfl, K0_j1⟩

set_option maxHeartbeats 4000000 in
theorem c66 {w0 : World} {v0 : Value} {x0 : ((List Int) × (List Int))} (r0 : RV w0 v0 x0) {b1 : Nat} {cs1 : List Value} {x1 : (List Int)} (h1 : Cs w0 b1 0 cs1) (q1 : Enc.rep (fun _ => True) w0 cs1 x1) {F : Nat} {r : Bool} (hF : bath_CheckWeights_1 F x0 x1 = some r) :
    Calls Try.prog 66 [v0, .pointer (some ⟨b1, 0, none⟩)].toArray w0 (Ret fun v w' => v = .bool r ∧ Ext w0 w') := by
  unfold bath_CheckWeights_1 at hF
  have hz := id r0; obtain ⟨_, rfl, ⟨_, _, rfl, ⟨a1, cq1, rfl, p1, q3, e1⟩, ⟨a2, cq2, rfl, p2, q4, e2⟩⟩⟩ := hz
  have r3 := RV.of1 p1 q3 e1
  have r4 := RV.of1 p2 q4 e2
  obtain ⟨a3, cq3, rfl, p3, q5, e3⟩ := q1
  have r5 := RV.of1 p3 q5 e3
  refine entr (n := 13) Try.func66 rfl rfl rfl <| wp_seq <| rg <| sbx rfl rfl fun b3 w1 hx1 hg1 hb1 => ?_
  have r6 := r5.ext hx1
  have h3 := h1.ext hx1
  have r7 := r3.ext hx1
  have r8 := r4.ext hx1
  have r9 := r0.ext hx1
  refine vl rfl rfl xas <| nl <| wp_seq <| wpl [] (.pure false 0 (.pure true 1 (.pure false 2 (.pure false 4 (.pure true 5 (.pure false 6 (.eff 3 (.eff 7 (.pure true 8 (.pure true 9 .fin)) .stop) .stop))))))) mixed (by kernel_rfl) (fun w2 hx2 => ?_)
  have k1 := hx1.tr hx2
  have hb2 := hb1.ext hx2
  have r10 := r7.ext hx2
  have r11 := r8.ext hx2
  have r12 := r6.ext hx2
  have h4 := h3.ext hx2
  refine pv rfl rfl rfl (fun _ hS => xld rfl ti22 ((h4.ext (hS.resolve_left nofun)).at 0 rfl)) (.inr (Ext.refl _)) <| pv rfl rfl rfl (fun _ _ => xfa rfl fa57_0) (.inl rfl) <| pv rfl rfl rfl (fun _ hS => xld rfl ti22 ((Bx.cs (hb2.ext (hS.resolve_left nofun))).at 0 rfl)) (.inr (Ext.refl _)) <| pv rfl rfl rfl (fun _ hS => xld rfl ti22 ((h4.ext (hS.resolve_left nofun)).at 0 rfl)) (.inr (Ext.refl _)) <| pv rfl rfl rfl (fun _ _ => xfa rfl fa57_1) (.inl rfl) <| pv rfl rfl rfl (fun _ hS => xld rfl ti22 ((Bx.cs (hb2.ext (hS.resolve_left nofun))).at 1 rfl)) (.inr (Ext.refl _)) <| ?_
  have hz := bs hF; obtain ⟨x3, Ex3, hF⟩ := hz
  refine pe1 rfl <| cl rfl rfl (xc cb67 (mc rfl (mc rfl mn))) (c67 r12 r10 Ex3) ?_
  rintro _ w3 ⟨rfl, hx3⟩
  have k2 := k1.tr hx3
  have r13 := r12.ext hx3
  have r14 := r11.ext hx3
  refine nl ⟨fun _ _ => hx3, ?_⟩
  have hz := bs hF; obtain ⟨x4, Ex4, hF⟩ := hz
  refine pe1 rfl <| cl rfl rfl (xc cb67 (mc rfl (mc rfl mn))) (c67 r13 r14 Ex4) ?_
  rintro _ w4 ⟨rfl, hx4⟩
  have k3 := k2.tr hx4
  have k4 := hx3.tr hx4
  refine nl ⟨fun _ _ => k4, ?_⟩
  refine pv rfl rfl rfl (fun _ _ => xneq rfl rfl) (.inl rfl) <| pv rfl rfl rfl (fun _ _ => xas) (.inl rfl) <| ?_
  cases hF
  exact wp_ret <| rt rfl (.tmp rfl rfl .nil) ⟨rfl, k3⟩

set_option maxHeartbeats 4000000 in
theorem c33 {w0 : World} {v0 : Value} {x0 : ((List Int) × (List ((List Int) × (List Int))))} (r0 : RV w0 v0 x0) {v1 : Value} {x1 : (List Int)} (r1 : RV w0 v1 x1) {F : Nat} {r : Int} (hF : bath_CheckWeights F x0 x1 = some r) :
    Calls Try.prog 33 [v0, v1].toArray w0 (Ret fun v w' => v = .int .i64 r ∧ Ext w0 w') := by
  unfold bath_CheckWeights at hF
  have hz := id r0; obtain ⟨_, rfl, ⟨_, _, rfl, ⟨a1, cq1, rfl, p1, q3, e1⟩, ⟨a2, cq2, rfl, p2, q4, e2⟩⟩⟩ := hz
  have r3 := RV.of1 p1 q3 e1
  have r4 := RV.of1 p2 q4 e2
  have hz := r1.sl; obtain ⟨a3, cq3, rfl, -, -, -⟩ := hz
  refine entr (n := 28) Try.func33 rfl rfl rfl <| wp_seq <| rg <| sbx rfl rfl fun b3 w1 hx1 hg1 hb1 => ?_
  have r5 := r1.ext hx1
  have r6 := r3.ext hx1
  have r7 := r4.ext hx1
  have r8 := r0.ext hx1
  refine sbx rfl rfl fun b4 w2 hx2 hg2 hb2 => ?_
  have k1 := hx1.tr hx2
  have hb3 := hb1.ext hx2
  have r9 := r6.ext hx2
  have r10 := r7.ext hx2
  have r11 := r5.ext hx2
  refine vl rfl rfl xas <| nl <| wp_seq <| rg <| vl rfl rfl (xlda rfl ti25 rfl (Bx.cs hb3)) <| ?_
  have hz := bs hF; obtain ⟨x3, Ex3, hF⟩ := hz
  refine cl rfl rfl (xc cb16 (mc rfl mn)) (c16 (show RV (α := ((List Int) × (List ((List Int) × (List Int))))) _ (.agg [.slice a1 x0.1.length cq1, .slice a2 x0.2.length cq2].toArray) (x0.1, x0.2) from ⟨_, rfl, ⟨[.slice a1 x0.1.length cq1], [.slice a2 x0.2.length cq2], rfl, r9.rep1, r10.rep1⟩⟩) Ex3) ?_
  rintro _ w3 ⟨rfl, hx3⟩
  have k2 := k1.tr hx3
  have k3 := hx2.tr hx3
  have hb4 := hb3.ext hx3
  have r12 := r9.ext hx3
  have r13 := r10.ext hx3
  have hb5 := hb2.ext hx3
  have r14 := r11.ext hx3
  refine vl rfl rfl xas <| nl <| wp_seq <| wp_block <| wp_seq <| rg <| vl rfl rfl xmv <| vl rfl rfl (xneq rfl rfl) <| vl rfl rfl xas <| nl <| cnd rfl (fun h3 => ?_) (fun h3 => ?_)
  ·
    have hF := ifp hF h3
    refine wp_seq <| rg <| vl rfl rfl xmv <| vl rfl rfl xas <| nl <| ?_
    cases hF
    exact wp_ret <| rt rfl (.tmp rfl rfl .nil) ⟨rfl, k2⟩
  ·
    have hF := ifn hF h3
    refine wp_seq <| rg <| vl rfl rfl (xld rfl ti22 ((Bx.cs hb5).at 0 rfl)) <| vl rfl rfl (xlen rfl Try.underlying22) <| vl rfl rfl (xfa rfl fa25_0) <| vl rfl rfl (xld rfl ti22 ((Bx.cs hb4).at 0 rfl)) <| vl rfl rfl (xlen rfl Try.underlying22) <| vl rfl rfl (xneq rfl rfl) <| vl rfl rfl xas <| nl <| cnd rfl (fun h4 => ?_) (fun h4 => ?_)
    ·
      have hF := ifp hF h4
      refine wp_seq <| rg <| vl rfl rfl xas <| nl <| ?_
      cases hF
      exact wp_ret <| rt rfl (.tmp rfl rfl .nil) ⟨rfl, k2⟩
    ·
      have hF := ifn hF h4
      refine wp_seq <| rg <| vl rfl rfl (xld rfl ti22 ((Bx.cs hb5).at 0 rfl)) <| ?_
      have hz := bs hF; obtain ⟨x4, Ex4, hF⟩ := hz
      refine cl rfl rfl (xc cb51 (mc rfl (mc rfl (mc rfl mn)))) (c51 r14 Ex4) ?_
      rintro _ w4 ⟨rfl, hx4⟩
      have k4 := k2.tr hx4
      have k5 := k3.tr hx4
      have hb6 := hb4.ext hx4
      have r15 := r12.ext hx4
      have r16 := r13.ext hx4
      have hb7 := hb5.ext hx4
      have r17 := r14.ext hx4
      refine vl rfl rfl (xnot rfl) <| vl rfl rfl xas <| nl <| cnd rfl (fun h5 => ?_) (fun h5 => ?_)
      ·
        have hF := ifp hF h5
        refine wp_seq <| rg <| vl rfl rfl xas <| nl <| ?_
        cases hF
        exact wp_ret <| rt rfl (.tmp rfl rfl .nil) ⟨rfl, k4⟩
      ·
        have hF := ifn hF h5
        refine wp_seq <| rg <| vl rfl rfl (xfa rfl fa25_1) <| vl rfl rfl (xld rfl ti23 ((Bx.cs hb6).at 1 rfl)) <| vl rfl rfl (xmf mn (mc rfl mn)) <| ?_
        have hz := bs hF; obtain ⟨x5, Ex5, hF⟩ := hz
        refine cl rfl rfl (xc cb53 (mc rfl (mc rfl mn))) (c53 r16 ⟨66, [], [.pointer (some ⟨b4, 0, none⟩)], rfl, cb66, fun w' u x b hk hu hp => c66 hu (Bx.cs (hb7.ext hk)) (r17.ext hk).rep1 hp⟩ Ex5) ?_
        rintro _ w5 ⟨rfl, hx5⟩
        have k6 := k4.tr hx5
        have k7 := k5.tr hx5
        refine vl rfl rfl xas <| nl <| cnd rfl (fun h6 => ?_) (fun h6 => ?_)
        ·
          have hF := ifp hF h6
          refine wp_seq <| rg <| vl rfl rfl xas <| nl <| ?_
          cases hF
          exact wp_ret <| rt rfl (.tmp rfl rfl .nil) ⟨rfl, k6⟩
        ·
          have hF := ifn hF h6
          refine wp_skip <| wp_seq <| rg <| vl rfl rfl xas <| nl <| ?_
          cases hF
          exact wp_ret <| rt rfl (.tmp rfl rfl .nil) ⟨rfl, k6⟩

set_option maxHeartbeats 4000000 in
theorem c34 {w0 : World} {v0 : Value} {x0 : (List Int)} (r0 : RV w0 v0 x0) {v1 : Value} {x1 : (List Int)} (r1 : RV w0 v1 x1) {F : Nat} {r : Int} (hF : ref11_Sum F x0 x1 = some r) :
    Calls Try.prog 34 [v0, v1].toArray w0 (Ret fun v w' => v = .int .i64 r ∧ Ext w0 w') := by
  unfold ref11_Sum at hF
  have hz := r0.sl; obtain ⟨a1, cq1, rfl, -, -, -⟩ := hz
  have hz := r1.sl; obtain ⟨a2, cq2, rfl, -, -, -⟩ := hz
  refine entr (n := 25) Try.func34 rfl rfl rfl <| wp_seq <| rg <| vl rfl rfl xas <| nl <| wp_seq <| rg <| vl rfl rfl xas <| nl <| wp_seq <| wp_seq <| rg <| vl rfl rfl xas <| nl <| ?_
  have hz := bs hF; obtain ⟨z1, hB1, hF⟩ := hz
  refine ct (fun L w => L 5 = .int .i64 z1 ∧ Ext w0 w) ?_ ?_
  ·
    refine wp_block <| lp (I := fun m L w => ∃ y1 : Int, ∃ y2 : Int, ref11_Sum_l1 F x0 x1 m y1 y2  = some z1 ∧ L 5 = .int .i64 y1 ∧ L 6 = .int .i64 y2 ∧ L 0 = .slice a1 x0.length cq1 ∧ L 1 = .slice a2 x1.length cq2 ∧ Ext w0 w) F ⟨_, _, hB1, rfl, rfl, rfl, rfl, (Ext.refl _)⟩ ?_
    rintro m L w1 ⟨y1, y2, hB1, l5_i1, l6_i1, l0_i1, l1_i1, K0_i1⟩
    rcases m with _ | m
    · rw [ref11_Sum_l1] at hB1; cases hB1
    rw [ref11_Sum_l1] at hB1
    have r3 := r0.ext K0_i1
    have r4 := r1.ext K0_i1
    refine wp_seq <| wp_seq <| rg <| vl rfl rfl xmv <| vl rfl rfl xmv <| vl rfl rfl (xlen l0_i1 Try.underlying22) <| vl rfl rfl (xlss l6_i1 rfl) <| nl <| cnd rfl (fun h3 => ?_) (fun h3 => ?_)
    ·
      have hB1 := ifp hB1 h3
      refine wp_skip <| wp_seq <| wp_block <| wpl [] (.pure true 0 (.pure true 1 (.pure true 2 (.pure true 3 (.pure false 4 (.pure true 5 (.pure true 6 (.pure true 7 (.pure false 8 (.pure true 9 (.pure true 10 (.pure true 11 .fin)))))))))))) mixed (by kernel_rfl) (fun w2 hx1 => ?_)
      have k1 := K0_i1.tr hx1
      have r5 := r3.ext hx1
      have r6 := r4.ext hx1
      refine pv rfl rfl rfl (fun _ _ => xmv) (.inl rfl) <| pv rfl rfl rfl (fun _ _ => xmv) (.inl rfl) <| pv rfl rfl rfl (fun _ _ => xmv) (.inl rfl) <| ?_
      have hz := bs hB1; obtain ⟨x3, Ex3, hB1⟩ := hz
      have hz := (RV.els r0).ix Ex3; obtain ⟨b3, f1, cs3, e1, i2, i3, q3, hc1⟩ := hz
      cases e1
      obtain rfl := q3
      have hc2 := hc1.ext k1
      refine pv rfl rfl rfl (fun _ _ => xixs l0_i1 l6_i1 Try.underlying22 ti2 i2 i3) (.inl rfl) <| pv rfl rfl rfl (fun _ hS => xld rfl ti2 ((hc2.ext (hS.resolve_left nofun)).at 0 rfl)) (.inr (Ext.refl _)) <| pv rfl rfl rfl (fun _ _ => xmv) (.inl rfl) <| pv rfl rfl rfl (fun _ _ => xmv) (.inl rfl) <| ?_
      have hz := bs hB1; obtain ⟨x4, Ex4, hB1⟩ := hz
      have hz := (RV.els r1).ix Ex4; obtain ⟨b4, f2, cs4, e2, i4, i5, q4, hc3⟩ := hz
      cases e2
      obtain rfl := q4
      have hc4 := hc3.ext k1
      refine pv rfl rfl rfl (fun _ _ => xixs l1_i1 l6_i1 Try.underlying22 ti2 i4 i5) (.inl rfl) <| pv rfl rfl rfl (fun _ hS => xld rfl ti2 ((hc4.ext (hS.resolve_left nofun)).at 0 rfl)) (.inr (Ext.refl _)) <| pv rfl rfl rfl (fun _ _ => xmul rfl rfl) (.inl rfl) <| pv rfl rfl rfl (fun _ _ => xadd l5_i1 rfl) (.inl rfl) <| pv rfl rfl rfl (fun _ _ => xas) (.inl rfl) <| rg <| vl rfl rfl xmv <| vl rfl rfl (xadd l6_i1 rfl) <| vl rfl rfl xas <| nl <| ?_
      refine lq m (Nat.lt_succ_self _) <| ?_
      exact ⟨_, _, hB1, rfl, rfl, l0_i1, l1_i1, k1⟩
    ·
      have hB1 := ifn hB1 h3
      refine wp_exit <| ?_
      cases hB1
      refine lf <| ?_
      exact ⟨l5_i1, K0_i1⟩
  rintro L w3 ⟨l5_j1, K0_j1⟩
  refine wp_seq <| rg <| vl rfl rfl xmv <| vl rfl rfl xas <| nl <| ?_
  cases hF
  exact wp_ret <| rt rfl (.tmp l5_j1 rfl .nil) ⟨rfl, K0_j1⟩

set_option maxHeartbeats 4000000 in
theorem c68 {w0 : World} {v0 : Value} {x0 : (List Int)} (r0 : RV w0 v0 x0) {F : Nat} {r : Bool} (hF : ref11_small F x0 = some r) :
    Calls Try.prog 68 [v0].toArray w0 (Ret fun v w' => v = .bool r ∧ Ext w0 w') := by
  unfold ref11_small at hF
  have hz := r0.sl; obtain ⟨a1, cq1, rfl, -, -, -⟩ := hz
  refine entr (n := 22) Try.func68 rfl rfl rfl <| wp_seq <| rg <| vl rfl rfl xas <| nl <| wp_seq <| wp_seq <| rg <| vl rfl rfl xas <| nl <| ?_
  have hz := bs hF; obtain ⟨o1, hB1, hF⟩ := hz
  refine ct (fun L w => o1 = .inr () ∧ Ext w0 w) ?_ ?_
  ·
    refine wp_block <| lp (I := fun m L w => ∃ y1 : Int, ref11_small_l1 F x0 m y1  = some o1 ∧ L 3 = .int .i64 y1 ∧ L 0 = .slice a1 x0.length cq1 ∧ Ext w0 w) F ⟨_, hB1, rfl, rfl, (Ext.refl _)⟩ ?_
    rintro m L w1 ⟨y1, hB1, l3_i1, l0_i1, K0_i1⟩
    rcases m with _ | m
    · rw [ref11_small_l1] at hB1; cases hB1
    rw [ref11_small_l1] at hB1
    have r2 := r0.ext K0_i1
    refine wp_seq <| wp_seq <| rg <| vl rfl rfl xmv <| vl rfl rfl xmv <| vl rfl rfl (xlen l0_i1 Try.underlying22) <| vl rfl rfl (xlss l3_i1 rfl) <| nl <| cnd rfl (fun h2 => ?_) (fun h2 => ?_)
    ·
      have hB1 := ifp hB1 h2
      refine wp_skip <| wp_seq <| wp_block <| wp_seq <| ?_
      have hz := bs hB1; obtain ⟨y2, hB3, hB1⟩ := hz
      refine ct (fun L w => L 21 = .bool y2 ∧ L 0 = .slice a1 x0.length cq1 ∧ L 3 = .int .i64 y1 ∧ Ext w1 w) ?_ ?_
      ·
        refine rg <| vl rfl rfl xmv <| vl rfl rfl xmv <| ?_
        have hz := bs hB3; obtain ⟨x3, Ex3, hB3⟩ := hz
        have hz := (RV.els r0).ix Ex3; obtain ⟨b3, f2, cs3, e2, i4, i5, q3, hc3⟩ := hz
        cases e2
        obtain rfl := q3
        have hc4 := hc3.ext K0_i1
        refine vl rfl rfl (xixs l0_i1 l3_i1 Try.underlying22 ti2 i4 i5) <| vl rfl rfl (xld rfl ti2 (hc4.at 0 rfl)) <| vl rfl rfl (xlss rfl rfl) <| vl rfl rfl xmv <| ?_
        refine Or.elim (Bool.eq_false_or_eq_true (decide (x3 < (-1048576)))) (fun h3 => ?_) (fun h3 => ?_)
        ·
          have hB3 := ifp hB3 h3
          refine gfk rfl rfl rfl rfl rfl (btf h3) rfl <| gfk rfl rfl rfl rfl rfl (btf h3) rfl <| gfk rfl rfl rfl rfl rfl (btf h3) rfl <| gfk rfl rfl rfl rfl rfl (btf h3) rfl <| gfk rfl rfl rfl rfl rfl (btf h3) rfl <| vl rfl rfl (xpt rfl h3 rfl) <| nl <| ?_
          cases hB3
          refine lf <| ?_
          exact ⟨rfl, l0_i1, l3_i1, (Ext.refl _)⟩
        ·
          have hB3 := ifn hB3 h3
          refine gtk rfl rfl rfl rfl rfl (bf h3) <| vl rfl rfl xmv <| gtk rfl rfl rfl rfl rfl (bf h3) <| vl rfl rfl xmv <| ?_
          have hz := bs hB3; obtain ⟨x4, Ex4, hB3⟩ := hz
          have hz := ix2 r0 Ex4; obtain ⟨cs4, i6, i7, q4, hc5⟩ := hz
          obtain rfl := q4
          have hc6 := hc5.ext K0_i1
          refine gtk rfl rfl rfl rfl rfl (bf h3) <| vl rfl rfl (xixs l0_i1 l3_i1 Try.underlying22 ti2 i6 i7) <| gtk rfl rfl rfl rfl rfl (bf h3) <| vl rfl rfl (xld rfl ti2 (hc6.at 0 rfl)) <| gtk rfl rfl rfl rfl rfl (bf h3) <| vl rfl rfl (xgtr rfl rfl) <| vl rfl rfl (xpf rfl h3 rfl) <| nl <| ?_
          cases hB3
          refine lf <| ?_
          exact ⟨rfl, l0_i1, l3_i1, (Ext.refl _)⟩
      rintro L w2 ⟨l21_j1, l0_j1, l3_j1, K0_j1⟩
      have k1 := K0_i1.tr K0_j1
      have r3 := r2.ext K0_j1
      refine cnd l21_j1 (fun h4 => ?_) (fun h4 => ?_)
      ·
        have hB1 := ifp hB1 h4
        refine wp_seq <| rg <| vl rfl rfl xas <| nl <| ?_
        cases hB1
        have hF := (show some _ = some _ from hF); cases hF
        exact wp_ret <| rt rfl (.tmp rfl rfl .nil) ⟨rfl, k1⟩
      ·
        have hB1 := ifn hB1 h4
        refine wp_skip <| rg <| vl rfl rfl xmv <| vl rfl rfl (xadd l3_j1 rfl) <| vl rfl rfl xas <| nl <| ?_
        refine lq m (Nat.lt_succ_self _) <| ?_
        exact ⟨_, hB1, rfl, l0_j1, k1⟩
    ·
      have hB1 := ifn hB1 h2
      refine wp_exit <| ?_
      cases hB1
      refine lf <| ?_
      exact ⟨rfl, K0_i1⟩
  rintro L w3 ⟨rfl, K0_j2⟩
  refine wp_seq <| rg <| vl rfl rfl xas <| nl <| ?_
  cases hF
  exact wp_ret <| rt rfl (.tmp rfl rfl .nil) ⟨rfl, K0_j2⟩

set_option maxHeartbeats 4000000 in
theorem c37 {w0 : World} {v0 : Value} {x0 : ((List Int) × (List ((List Int) × (List Int))))} (r0 : RV w0 v0 x0) {v1 : Value} {x1 : (List Int)} (r1 : RV w0 v1 x1) {F : Nat} {r : Int} (hF : ref11_CheckWeights F x0 x1 = some r) :
    Calls Try.prog 37 [v0, v1].toArray w0 (Ret fun v w' => v = .int .i64 r ∧ Ext w0 w') := by
  unfold ref11_CheckWeights at hF
  have hz := id r0; obtain ⟨_, rfl, ⟨_, _, rfl, ⟨a1, cq1, rfl, p1, q3, e1⟩, ⟨a2, cq2, rfl, p2, q4, e2⟩⟩⟩ := hz
  have r3 := RV.of1 p1 q3 e1
  have r4 := RV.of1 p2 q4 e2
  have hz := r1.sl; obtain ⟨a3, cq3, rfl, -, -, -⟩ := hz
  refine entr (n := 44) Try.func37 rfl rfl rfl <| wp_seq <| rg <| sbx rfl rfl fun b3 w1 hx1 hg1 hb1 => ?_
  have r5 := r1.ext hx1
  have r6 := r3.ext hx1
  have r7 := r4.ext hx1
  have r8 := r0.ext hx1
  refine vl rfl rfl xas <| nl <| wp_seq <| wp_seq <| rg <| vl rfl rfl (xlda rfl ti25 rfl (Bx.cs hb1)) <| ?_
  have hz := bs hF; obtain ⟨x3, Ex3, hF⟩ := hz
  refine cl rfl rfl (xc cb17 (mc rfl mn)) (c17 (show RV (α := ((List Int) × (List ((List Int) × (List Int))))) _ (.agg [.slice a1 x0.1.length cq1, .slice a2 x0.2.length cq2].toArray) (x0.1, x0.2) from ⟨_, rfl, ⟨[.slice a1 x0.1.length cq1], [.slice a2 x0.2.length cq2], rfl, r6.rep1, r7.rep1⟩⟩) Ex3) ?_
  rintro _ w2 ⟨rfl, hx2⟩
  have k1 := hx1.tr hx2
  have hb2 := hb1.ext hx2
  have r9 := r6.ext hx2
  have r10 := r7.ext hx2
  have r11 := r5.ext hx2
  refine vl rfl rfl (xneq rfl rfl) <| nl <| cnd rfl (fun h3 => ?_) (fun h3 => ?_)
  ·
    have hF := ifp hF h3
    refine wp_seq <| rg <| vl rfl rfl (xlda rfl ti25 rfl (Bx.cs hb2)) <| ?_
    have hz := bs hF; obtain ⟨x4, Ex4, hF⟩ := hz
    refine cl rfl rfl (xc cb17 (mc rfl mn)) (c17 (show RV (α := ((List Int) × (List ((List Int) × (List Int))))) _ (.agg [.slice a1 x0.1.length cq1, .slice a2 x0.2.length cq2].toArray) (x0.1, x0.2) from ⟨_, rfl, ⟨[.slice a1 x0.1.length cq1], [.slice a2 x0.2.length cq2], rfl, r9.rep1, r10.rep1⟩⟩) Ex4) ?_
    rintro _ w3 ⟨rfl, hx3⟩
    have k2 := k1.tr hx3
    refine vl rfl rfl xas <| nl <| ?_
    cases hF
    exact wp_ret <| rt rfl (.tmp rfl rfl .nil) ⟨rfl, k2⟩
  ·
    have hF := ifn hF h3
    refine wp_skip <| wp_seq <| wp_seq <| rg <| vl rfl rfl xmv <| vl rfl rfl (xlen rfl Try.underlying22) <| vl rfl rfl (xfa rfl fa25_0) <| vl rfl rfl (xld rfl ti22 ((Bx.cs hb2).at 0 rfl)) <| vl rfl rfl (xlen rfl Try.underlying22) <| vl rfl rfl (xneq rfl rfl) <| nl <| cnd rfl (fun h4 => ?_) (fun h4 => ?_)
    ·
      have hF := ifp hF h4
      refine wp_seq <| rg <| vl rfl rfl xas <| nl <| ?_
      cases hF
      exact wp_ret <| rt rfl (.tmp rfl rfl .nil) ⟨rfl, k1⟩
    ·
      have hF := ifn hF h4
      refine wp_skip <| wp_seq <| wp_seq <| rg <| vl rfl rfl xmv <| ?_
      have hz := bs hF; obtain ⟨x5, Ex5, hF⟩ := hz
      refine cl rfl rfl (xc cb68 (mc rfl mn)) (c68 r11 Ex5) ?_
      rintro _ w4 ⟨rfl, hx4⟩
      have k3 := k1.tr hx4
      have hb3 := hb2.ext hx4
      have r12 := r9.ext hx4
      have r13 := r10.ext hx4
      have r14 := r11.ext hx4
      refine vl rfl rfl (xnot rfl) <| nl <| cnd rfl (fun h5 => ?_) (fun h5 => ?_)
      ·
        have hF := ifp hF h5
        refine wp_seq <| rg <| vl rfl rfl xas <| nl <| ?_
        cases hF
        exact wp_ret <| rt rfl (.tmp rfl rfl .nil) ⟨rfl, k3⟩
      ·
        have hF := ifn hF h5
        refine wp_skip <| wp_seq <| wp_seq <| rg <| vl rfl rfl xas <| nl <| ?_
        have hz := bs hF; obtain ⟨o1, hB1, hF⟩ := hz
        refine ct (fun L w => o1 = .inr () ∧ Ext w4 w) ?_ ?_
        ·
          refine wp_block <| lp (I := fun m L w => ∃ y1 : Int, ref11_CheckWeights_l1 F x0 x1 m y1  = some o1 ∧ L 5 = .int .i64 y1 ∧ L 1 = .slice a3 x1.length cq3 ∧ L 2 = .pointer (some ⟨b3, 0, none⟩) ∧ Ext w4 w) F ⟨_, hB1, rfl, rfl, rfl, (Ext.refl _)⟩ ?_
          rintro m L w5 ⟨y1, hB1, l5_i1, l1_i1, l2_i1, K0_i1⟩
          rcases m with _ | m
          · rw [ref11_CheckWeights_l1] at hB1; cases hB1
          rw [ref11_CheckWeights_l1] at hB1
          have k4 := k3.tr K0_i1
          have r15 := r14.ext K0_i1
          have r16 := r12.ext K0_i1
          have r17 := r13.ext K0_i1
          have hb4 := hb3.ext K0_i1
          refine wp_seq <| wp_seq <| rg <| vl rfl rfl xmv <| vl rfl rfl (xfa l2_i1 fa25_1) <| vl rfl rfl (xld rfl ti23 ((Bx.cs hb4).at 1 rfl)) <| vl rfl rfl (xlen rfl Try.underlying23) <| vl rfl rfl (xlss l5_i1 rfl) <| nl <| cnd rfl (fun h6 => ?_) (fun h6 => ?_)
          ·
            have hB1 := ifp hB1 h6
            refine wp_skip <| wp_seq <| wp_block <| wp_seq <| wpl [] (.pure true 0 (.pure true 1 (.pure false 2 (.pure true 3 (.pure true 4 (.pure true 5 (.pure false 6 (.pure true 8 (.pure true 9 (.pure false 10 (.pure true 11 (.pure true 12 (.pure true 13 (.pure false 14 (.eff 7 (.eff 15 (.pure true 16 .fin) .stop) .stop))))))))))))))) mixed (by kernel_rfl) (fun w6 hx5 => ?_)
            have k5 := k4.tr hx5
            have k6 := K0_i1.tr hx5
            have hb5 := hb4.ext hx5
            have r18 := r16.ext hx5
            have r19 := r17.ext hx5
            have r20 := r15.ext hx5
            refine pv rfl rfl rfl (fun _ _ => xmv) (.inl rfl) <| pv rfl rfl rfl (fun _ _ => xfa l2_i1 fa25_1) (.inl rfl) <| pv rfl rfl rfl (fun _ hS => xld rfl ti23 ((Bx.cs (hb5.ext (hS.resolve_left nofun))).at 1 rfl)) (.inr (Ext.refl _)) <| pv rfl rfl rfl (fun _ _ => xmv) (.inl rfl) <| ?_
            have hz := bs hB1; obtain ⟨x6, Ex6, hB1⟩ := hz
            have hz := (RV.els r4).ix Ex6; obtain ⟨b4, f1, cs3, e3, i2, i3, q5, hc1⟩ := hz
            cases e3
            obtain ⟨_, _, rfl, ⟨a4, cq4, rfl, p3, q6, e4⟩, ⟨a5, cq5, rfl, p4, q7, e5⟩⟩ := q5
            have r21 := RV.of1 p3 q6 e4
            have r22 := RV.of1 p4 q7 e5
            have hc2 := hc1.ext k5
            have r23 := r21.ext k5
            have r24 := r22.ext k5
            refine pv rfl rfl rfl (fun _ _ => xixs rfl l5_i1 Try.underlying23 ti57 i2 i3) (.inl rfl) <| pv rfl rfl rfl (fun _ _ => xfa rfl fa57_0) (.inl rfl) <| pv rfl rfl rfl (fun _ hS => xld rfl ti22 ((hc2.ext (hS.resolve_left nofun)).at 0 rfl)) (.inr (Ext.refl _)) <| pv rfl rfl rfl (fun _ _ => xmv) (.inl rfl) <| pv rfl rfl rfl (fun _ _ => xfa l2_i1 fa25_1) (.inl rfl) <| pv rfl rfl rfl (fun _ hS => xld rfl ti23 ((Bx.cs (hb5.ext (hS.resolve_left nofun))).at 1 rfl)) (.inr (Ext.refl _)) <| pv rfl rfl rfl (fun _ _ => xmv) (.inl rfl) <| ?_
            have hz := bs hB1; obtain ⟨x7, Ex7, hB1⟩ := hz
            have hz := ix2 r4 Ex7; obtain ⟨cs4, i4, i5, q8, hc3⟩ := hz
            obtain ⟨_, _, rfl, ⟨a6, cq6, rfl, p5, q9, e6⟩, ⟨a7, cq7, rfl, p6, q10, e7⟩⟩ := q8
            have r25 := RV.of1 p5 q9 e6
            have r26 := RV.of1 p6 q10 e7
            have hc4 := hc3.ext k5
            have r27 := r25.ext k5
            have r28 := r26.ext k5
            refine pv rfl rfl rfl (fun _ _ => xixs rfl l5_i1 Try.underlying23 ti57 i4 i5) (.inl rfl) <| pv rfl rfl rfl (fun _ _ => xfa rfl fa57_1) (.inl rfl) <| pv rfl rfl rfl (fun _ hS => xld rfl ti22 ((hc4.ext (hS.resolve_left nofun)).at 1 rfl)) (.inr (Ext.refl _)) <| ?_
            have hz := bs hB1; obtain ⟨x8, Ex8, hB1⟩ := hz
            refine pe1 rfl <| cl rfl rfl (xc cb34 (mc l1_i1 (mc rfl mn))) (c34 r20 r23 Ex8) ?_
            rintro _ w7 ⟨rfl, hx6⟩
            have k7 := k5.tr hx6
            have k8 := k6.tr hx6
            have hb6 := hb5.ext hx6
            have r29 := r18.ext hx6
            have r30 := r19.ext hx6
            have r31 := r20.ext hx6
            have r32 := r28.ext hx6
            refine nl ⟨fun _ _ => hx6, ?_⟩
            have hz := bs hB1; obtain ⟨x9, Ex9, hB1⟩ := hz
            refine pe1 rfl <| cl rfl rfl (xc cb34 (mc l1_i1 (mc rfl mn))) (c34 r31 r32 Ex9) ?_
            rintro _ w8 ⟨rfl, hx7⟩
            have k9 := k7.tr hx7
            have k10 := k8.tr hx7
            have k11 := hx6.tr hx7
            have hb7 := hb6.ext hx7
            have r33 := r29.ext hx7
            have r34 := r30.ext hx7
            have r35 := r31.ext hx7
            refine nl ⟨fun _ _ => k11, ?_⟩
            refine pv rfl rfl rfl (fun _ _ => xneq rfl rfl) (.inl rfl) <| cnd rfl (fun h7 => ?_) (fun h7 => ?_)
            ·
              have hB1 := ifp hB1 h7
              refine wp_seq <| rg <| vl rfl rfl xas <| nl <| ?_
              cases hB1
              have hF := (show some _ = some _ from hF); cases hF
              exact wp_ret <| rt rfl (.tmp rfl rfl .nil) ⟨rfl, k9⟩
            ·
              have hB1 := ifn hB1 h7
              refine wp_skip <| rg <| vl rfl rfl xmv <| vl rfl rfl (xadd l5_i1 rfl) <| vl rfl rfl xas <| nl <| ?_
              refine lq m (Nat.lt_succ_self _) <| ?_
              exact ⟨_, hB1, rfl, l1_i1, l2_i1, k10⟩
          ·
            have hB1 := ifn hB1 h6
            refine wp_exit <| ?_
            cases hB1
            refine lf <| ?_
            exact ⟨rfl, K0_i1⟩
        rintro L w9 ⟨rfl, K0_j1⟩
        have k12 := k3.tr K0_j1
        refine wp_seq <| rg <| vl rfl rfl xas <| nl <| ?_
        cases hF
        exact wp_ret <| rt rfl (.tmp rfl rfl .nil) ⟨rfl, k12⟩

set_option maxHeartbeats 4000000 in
theorem c35 {w0 : World} {v0 : Value} {x0 : ((List Int) × (List ((List Int) × (List Int))))} (r0 : RV w0 v0 x0) {v1 : Value} {x1 : (List Int)} (r1 : RV w0 v1 x1) {v2 : Value} {x2 : (List Int)} (r2 : RV w0 v2 x2) {v3 : Value} {x3 : (List Int)} (r3 : RV w0 v3 x3) {F : Nat} {r : Bool} (hF : law11_parts F x0 x1 x2 x3 = some r) :
    Calls Try.prog 35 [v0, v1, v2, v3].toArray w0 (Ret fun v w' => v = .bool r ∧ Ext w0 w') := by
  unfold law11_parts at hF
  have hz := id r0; obtain ⟨_, rfl, ⟨_, _, rfl, ⟨a1, cq1, rfl, p1, q5, e1⟩, ⟨a2, cq2, rfl, p2, q6, e2⟩⟩⟩ := hz
  have r5 := RV.of1 p1 q5 e1
  have r6 := RV.of1 p2 q6 e2
  have hz := r1.sl; obtain ⟨a3, cq3, rfl, -, -, -⟩ := hz
  have hz := r2.sl; obtain ⟨a4, cq4, rfl, -, -, -⟩ := hz
  have hz := r3.sl; obtain ⟨a5, cq5, rfl, -, -, -⟩ := hz
  refine entr (n := 22) Try.func35 rfl rfl rfl <| wp_seq <| rg <| sbx rfl rfl fun b5 w1 hx1 hg1 hb1 => ?_
  have r7 := r1.ext hx1
  have r8 := r2.ext hx1
  have r9 := r3.ext hx1
  have r10 := r5.ext hx1
  have r11 := r6.ext hx1
  have r12 := r0.ext hx1
  refine vl rfl rfl xas <| nl <| wp_seq <| rg <| vl rfl rfl (xlda rfl ti25 rfl (Bx.cs hb1)) <| vl rfl rfl xmv <| ?_
  have hz := bs hF; obtain ⟨x5, Ex5, hF⟩ := hz
  refine cl rfl rfl (xc cb37 (mc rfl (mc rfl mn))) (c37 (show RV (α := ((List Int) × (List ((List Int) × (List Int))))) _ (.agg [.slice a1 x0.1.length cq1, .slice a2 x0.2.length cq2].toArray) (x0.1, x0.2) from ⟨_, rfl, ⟨[.slice a1 x0.1.length cq1], [.slice a2 x0.2.length cq2], rfl, r10.rep1, r11.rep1⟩⟩) r7 Ex5) ?_
  rintro _ w2 ⟨rfl, hx2⟩
  have k1 := hx1.tr hx2
  have r13 := r7.ext hx2
  have r14 := r8.ext hx2
  have r15 := r9.ext hx2
  refine vl rfl rfl (xeql rfl rfl) <| vl rfl rfl xmv <| gv rfl rfl rfl rfl (gw1 rfl) rfl (fun hc => xmva rfl) <| gv rfl rfl rfl rfl (gw1 rfl) rfl (fun hc => xmva rfl) <| ?_
  have hz := bs hF; obtain ⟨x6, Ex6, hF⟩ := hz
  refine gc rfl rfl rfl rfl (gw1 rfl) rfl (fun hc => xc cb34 (mc (mv hc rfl) (mc (mv hc rfl) mn))) (fun hc => (c34 r13 r14 (gdp Ex6 hc))) (fun v5 w3 hy1 hn1 => ?_)
  have hx3 : Ext w2 w3 := gx (fun h => (hy1 h).2) (fun h => (hn1 h).2 ▸ Ext.refl _)
  have e3 := mkw (fun h => (hy1 h).1) (fun h => (hn1 h).1)
  have k2 := k1.tr hx3
  have r16 := r13.ext hx3
  have r17 := r15.ext hx3
  refine gv rfl rfl rfl rfl (gw1 rfl) rfl (fun hc => xmva rfl) <| gv rfl rfl rfl rfl (gw1 rfl) rfl (fun hc => xmva rfl) <| ?_
  have hz := bs hF; obtain ⟨x7, Ex7, hF⟩ := hz
  refine gc rfl rfl rfl rfl (gw1 rfl) rfl (fun hc => xc cb34 (mc (mv hc rfl) (mc (mv hc rfl) mn))) (fun hc => (c34 r16 r17 (gdp Ex7 hc))) (fun v6 w4 hy2 hn2 => ?_)
  have hx4 : Ext w3 w4 := gx (fun h => (hy2 h).2) (fun h => (hn2 h).2 ▸ Ext.refl _)
  have e4 := mkw (fun h => (hy2 h).1) (fun h => (hn2 h).1)
  have k3 := k2.tr hx4
  refine gv rfl rfl rfl rfl (gw1 rfl) rfl (fun hc => xneq (mv hc e3) (mv hc e4)) <| vl rfl rfl (xpa rfl rfl rfl) <| vl rfl rfl xas <| nl <| ?_
  cases hF
  exact wp_ret <| rt rfl (.tmp rfl rfl .nil) ⟨rfl, k3⟩

set_option maxHeartbeats 4000000 in
theorem c36 {w0 : World} {v0 : Value} {x0 : ((List Int) × (List ((List Int) × (List Int))))} (r0 : RV w0 v0 x0) {F : Nat} {r : ((List Int) × (List ((List Int) × (List Int))))} (hF : law11_back F x0 = some r) :
    Calls Try.prog 36 [v0].toArray w0 (Ret fun v w' => ∃ u0 : Value, v = u0 ∧ RV w' u0 r ∧ Ext w0 w') := by
  unfold law11_back at hF
  have hz := id r0; obtain ⟨_, rfl, ⟨_, _, rfl, ⟨a1, cq1, rfl, p1, q2, e1⟩, ⟨a2, cq2, rfl, p2, q3, e2⟩⟩⟩ := hz
  have r2 := RV.of1 p1 q2 e1
  have r3 := RV.of1 p2 q3 e2
  refine entr (n := 34) Try.func36 rfl rfl rfl <| wp_seq <| rg <| sbx rfl rfl fun b2 w1 hx1 hg1 hb1 => ?_
  have r4 := r2.ext hx1
  have r5 := r3.ext hx1
  have r6 := r0.ext hx1
  refine sal ti25 fun b3 w2 hx2 hg2 hb2 => ?_
  have k1 := hx1.tr hx2
  have hb3 := hb1.ext hx2
  have r7 := r4.ext hx2
  have r8 := r5.ext hx2
  refine nl <| wp_seq <| rg <| vl rfl rfl (xfa rfl fa25_0) <| vl rfl rfl (xld rfl ti22 ((Bx.cs hb3).at 0 rfl)) <| vl rfl rfl (xbdv (r := [.slice a1 x0.1.length cq1, .slice none 0 0]) ti25 sp25 (pc rfl pn) rfl) <| sal ti25 fun b4 w3 hx3 hg3 hb4 => ?_
  have k2 := k1.tr hx3
  have k3 := hx2.tr hx3
  have hb5 := hb3.ext hx3
  have r9 := r7.ext hx3
  have r10 := r8.ext hx3
  have hb6 := hb2.ext hx3
  refine sst rfl rfl rfl ti25 hb4 rfl rfl (ble rfl) fun w4 hch1 hb7 => ?_
  have k4 := Ext.chg k2 hch1 (Nat.le_trans k1.size hg3)
  have k5 := Ext.chg k3 hch1 (Nat.le_trans hx2.size hg3)
  have k6 := Ext.chg hx3 hch1 (Nat.le_trans (Nat.le_refl _) hg3)
  have hb8 := hb3.ext k6
  have r11 := r7.ext k6
  have r12 := r8.ext k6
  have hb9 := hb2.ext k6
  have hb10 : Bx w4 b4 25 [.slice a1 x0.1.length cq1, .slice none 0 0] := hb7
  refine nl <| wp_seq <| wp_seq <| rg <| vl rfl rfl xas <| nl <| ?_
  have hz := bs hF; obtain ⟨z1, hB1, hF⟩ := hz
  refine ct (fun L w => ∃ v3 : Value, Bx w b4 25 [.slice a1 x0.1.length cq1, v3] ∧ DRow w0.heap.size 57 w4.heap.size w v3 z1.2 ∧ some b4 ≠ Value.ownBlock v3 ∧ L 2 = .pointer (some ⟨b3, 0, none⟩) ∧ L 3 = .pointer (some ⟨b4, 0, none⟩) ∧ w4.heap.size ≤ w.heap.size ∧ Ext w2 w) ?_ ?_
  ·
    refine wp_block <| lp (I := fun m L w => ∃ y1 : Int, ∃ y2 : ((List Int) × (List ((List Int) × (List Int)))), ∃ v2 : Value, law11_back_l1 F x0 m y1 y2  = some z1 ∧ L 4 = .int .i64 y1 ∧ Bx w b4 25 [.slice a1 x0.1.length cq1, v2] ∧ DRow w0.heap.size 57 w4.heap.size w v2 y2.2 ∧ some b4 ≠ Value.ownBlock v2 ∧ L 1 = .pointer (some ⟨b2, 0, none⟩) ∧ L 2 = .pointer (some ⟨b3, 0, none⟩) ∧ L 3 = .pointer (some ⟨b4, 0, none⟩) ∧ w4.heap.size ≤ w.heap.size ∧ Ext w2 w) F ⟨_, _, _, hB1, rfl, hb10, DRow.nil, (fun e => by cases e), rfl, rfl, rfl, (Nat.le_refl _), k6⟩ ?_
    rintro m L w5 ⟨y1, y2, v2, hB1, l4_i1, B3_i1, O3c1_i1, N3c1_i1, l1_i1, l2_i1, l3_i1, Z0_i1, K0_i1⟩
    rcases m with _ | m
    · rw [law11_back_l1] at hB1; cases hB1
    rw [law11_back_l1] at hB1
    have k7 := k1.tr K0_i1
    have k8 := hx2.tr K0_i1
    have r13 := r7.ext K0_i1
    have r14 := r8.ext K0_i1
    have hb11 := hb3.ext K0_i1
    have hb12 := hb2.ext K0_i1
    have hz := RV.sl O3c1_i1.rv; obtain ⟨a3, cq3, rfl, -, -, -⟩ := hz
    refine wp_seq <| wp_seq <| rg <| vl rfl rfl xmv <| vl rfl rfl (xfa l1_i1 fa25_1) <| vl rfl rfl (xld rfl ti23 ((Bx.cs hb11).at 1 rfl)) <| vl rfl rfl (xlen rfl Try.underlying23) <| vl rfl rfl (xlss l4_i1 rfl) <| nl <| cnd rfl (fun h2 => ?_) (fun h2 => ?_)
    ·
      have hB1 := ifp hB1 h2
      refine wp_skip <| wp_seq <| wp_block <| wplG (row := (Value.ownBlock (.slice a3 y2.2.length cq3))) [18] (.pure true 0 (.pure false 1 (.pure true 2 (.pure false 3 (.pure true 4 (.pure true 5 (.pure true 6 (.pure false 7 (.pure true 8 (.pure false 9 (.pure true 10 (.pure true 11 (.pure true 12 (.pure false 13 (.pure true 14 (.eff 15 (.eff 16 (.pure true 17 (.eff 18 .fin .stop)) .stop) .stop)))))))))))))))) mixed (by kernel_rfl) (fun w6 hx4 => ?_)
      have k9 := k7.tr hx4
      have k10 := k8.tr hx4
      have k11 := K0_i1.tr hx4
      have zs1 := Nat.le_trans Z0_i1 hx4.size
      have hb13 := hb11.ext hx4
      have r15 := r13.ext hx4
      have r16 := r14.ext hx4
      have hb14 := hb12.ext hx4
      have B1 := B3_i1.ext hx4
      have O1 := O3c1_i1.ext hx4
      refine pv rfl rfl rfl (fun _ _ => xfa l3_i1 fa25_1) (.inl rfl) <| pv rfl rfl rfl (fun _ hS => xld rfl ti23 ((Bx.cs (Bx.gr B1 (hS.resolve_left nofun) N3c1_i1)).at 1 rfl)) (.inr (Ext.gro (Ext.refl _))) <| pv rfl rfl rfl (fun _ _ => xfa l1_i1 fa25_1) (.inl rfl) <| pv rfl rfl rfl (fun _ hS => xld rfl ti23 ((Bx.cs (Bx.gr hb13 (hS.resolve_left nofun) (O3c1_i1.ne_old (Nat.lt_of_lt_of_le hb1.lt k5.size)))).at 1 rfl)) (.inr (Ext.gro (Ext.refl _))) <| pv rfl rfl rfl (fun _ _ => xmv) (.inl rfl) <| ?_
      have hz := bs hB1; obtain ⟨x2, Ex2, hB1⟩ := hz
      have hz := (RV.els r3).ix Ex2; obtain ⟨b5, f1, cs2, e3, i2, i3, q4, hc1⟩ := hz
      cases e3
      obtain ⟨_, _, rfl, ⟨a4, cq4, rfl, p3, q5, e4⟩, ⟨a5, cq5, rfl, p4, q6, e5⟩⟩ := q4
      have r17 := RV.of1 p3 q5 e4
      have r18 := RV.of1 p4 q6 e5
      have hc2 := hc1.ext k9
      have r19 := r17.ext k9
      have r20 := r18.ext k9
      refine pv rfl rfl rfl (fun _ _ => xixs rfl l4_i1 Try.underlying23 ti57 i2 i3) (.inl rfl) <| pv rfl rfl rfl (fun _ _ => xfa rfl fa57_1) (.inl rfl) <| pv rfl rfl rfl (fun _ hS => xld rfl ti22 ((Cs.gro0 hc1 k9 (hS.resolve_left nofun) (fun q e => Nat.le_trans k4.size (O3c1_i1.lt q e).1)).at 1 rfl)) (.inr (Ext.gro (Ext.refl _))) <| pv rfl rfl rfl (fun _ _ => xfa l1_i1 fa25_1) (.inl rfl) <| pv rfl rfl rfl (fun _ hS => xld rfl ti23 ((Bx.cs (Bx.gr hb13 (hS.resolve_left nofun) (O3c1_i1.ne_old (Nat.lt_of_lt_of_le hb1.lt k5.size)))).at 1 rfl)) (.inr (Ext.gro (Ext.refl _))) <| pv rfl rfl rfl (fun _ _ => xmv) (.inl rfl) <| ?_
      have hz := bs hB1; obtain ⟨x3, Ex3, hB1⟩ := hz
      have hz := ix2 r3 Ex3; obtain ⟨cs3, i4, i5, q7, hc3⟩ := hz
      obtain ⟨_, _, rfl, ⟨a6, cq6, rfl, p5, q8, e6⟩, ⟨a7, cq7, rfl, p6, q9, e7⟩⟩ := q7
      have r21 := RV.of1 p5 q8 e6
      have r22 := RV.of1 p6 q9 e7
      have hc4 := hc3.ext k9
      have r23 := r21.ext k9
      have r24 := r22.ext k9
      refine pv rfl rfl rfl (fun _ _ => xixs rfl l4_i1 Try.underlying23 ti57 i4 i5) (.inl rfl) <| pv rfl rfl rfl (fun _ _ => xfa rfl fa57_0) (.inl rfl) <| pv rfl rfl rfl (fun _ hS => xld rfl ti22 ((Cs.gro0 hc3 k9 (hS.resolve_left nofun) (fun q e => Nat.le_trans k4.size (O3c1_i1.lt q e).1)).at 0 rfl)) (.inr (Ext.gro (Ext.refl _))) <| pv rfl rfl rfl (fun _ _ => xbdv (r := [.slice a5 x2.2.length cq5, .slice a6 x3.1.length cq6]) ti57 sp57 (pc rfl (pc rfl pn)) rfl) (.inl rfl) <| pe1 rfl <| sbsv (cs := [.slice a5 x2.2.length cq5, .slice a6 x3.1.length cq6]) Try.underlying23 ti57 rfl (pc rfl pn) rfl rfl rfl rfl rfl fun b6 w7 hx5 hg4 hb15 => ?_
      have k12 := k9.tr hx5
      have k13 := k10.tr hx5
      have k14 := k11.tr hx5
      have zs2 := Nat.le_trans zs1 hx5.size
      have hb16 := hb13.ext hx5
      have r26 := r15.ext hx5
      have r27 := r16.ext hx5
      have hb17 := hb14.ext hx5
      have B2 := B1.ext hx5
      have O2 := O1.ext hx5
      have r28 := r20.ext hx5
      have r29 := r23.ext hx5
      have r25 : RV w7 (.slice (some ⟨b6, 0, none⟩) 1 1) ([(x2.2, x3.1)] : List ((List Int) × (List Int))) := RV.lit hb15 (css := [[.slice a5 x2.2.length cq5] ++ [.slice a6 x3.1.length cq6]]) rfl ⟨⟨[.slice a5 x2.2.length cq5], [.slice a6 x3.1.length cq6], rfl, r28.rep1, r29.rep1⟩, trivial⟩ rfl (ble rfl)
      refine nl ⟨fun _ _ => (Ext.gro hx5), ?_⟩
      have hz := bs hB1; obtain ⟨x4, Ex4, hB1⟩ := hz
      refine pe1 rfl <| sapd (l := y2.2) (k := ([(x2.2, x3.1)] : List ((List Int) × (List Int)))) rfl rfl Try.underlying23 ti57 rfl rfl O2 (ElsD.lit1 hb15 ⟨[.slice a5 x2.2.length cq5], [.slice a6 x3.1.length cq6], rfl, (RVo.rep1 (RVo.oko (RVo.ext (RV.old (w := w0) r18) k12) (O2.geo k4.size))), (RVo.rep1 (RVo.oko (RVo.ext (RV.old (w := w0) r21) k12) (O2.geo k4.size)))⟩) Ex4 zs2 fun v4 w8 o2 hB3 hgr1 how1 => ?_
      have k15 := Ext.grow k12 k4.size hB3
      have k16 := Ext.grow k13 k5.size hB3
      have k17 := Ext.grow k14 k6.size hB3
      have zs3 := Nat.le_trans zs2 hgr1.size
      have gS1 := World.grownBy.tr (Ext.gro hx5) hgr1
      have hb18 := hb3.ext k17
      have r30 := r7.ext k17
      have r31 := r8.ext k17
      have hb19 := hb2.ext k17
      have ne1 := ne_app how1 N3c1_i1 B2.lt
      have hb20 := Bx.gr B2 hgr1 N3c1_i1
      have hz := RV.sl o2.rv; obtain ⟨a8, cq8, rfl, -, -, -⟩ := hz
      refine nl ⟨fun _ _ => gS1, ?_⟩
      refine pv rfl rfl rfl (fun _ _ => xfa l3_i1 fa25_1) (.inl rfl) <| pe1 rfl <| sst rfl rfl rfl ti23 hb20 rfl rfl (ble rfl) fun w9 hch2 hb21 => ?_
      have k18 := Ext.chg k15 hch2 (Nat.le_trans k1.size hg3)
      have k19 := Ext.chg k16 hch2 (Nat.le_trans hx2.size hg3)
      have k20 := Ext.chg k17 hch2 (Nat.le_trans (Nat.le_refl _) hg3)
      have zs4 := Nat.le_trans zs3 (Nat.le_of_eq hch2.size.symm)
      have hb22 := hb3.ext k20
      have r32 := r7.ext k20
      have r33 := r8.ext k20
      have hb23 := hb2.ext k20
      have o3 := o2.chgo hch2 (Nat.le_trans k1.size hg3) hb10.lt
      have hb24 : Bx w9 b4 25 [.slice a1 x0.1.length cq1, .slice a8 x4.length cq8] := hb21
      refine nl ⟨fun h => (h (by decide)).elim, ?_⟩
      refine rg <| vl rfl rfl xmv <| vl rfl rfl (xadd l4_i1 rfl) <| vl rfl rfl xas <| nl <| ?_
      refine lq m (Nat.lt_succ_self _) <| ?_
      exact ⟨_, _, _, hB1, rfl, hb24, o3, ne1, l1_i1, l2_i1, l3_i1, zs4, k20⟩
    ·
      have hB1 := ifn hB1 h2
      refine wp_exit <| ?_
      cases hB1
      refine lf <| ?_
      exact ⟨_, B3_i1, O3c1_i1, N3c1_i1, l2_i1, l3_i1, Z0_i1, K0_i1⟩
  rintro L w10 ⟨v3, B3_j1, O3c1_j1, N3c1_j1, l2_j1, l3_j1, Z0_j1, K0_j1⟩
  have k21 := k1.tr K0_j1
  have k22 := hx2.tr K0_j1
  have hb25 := hb2.ext K0_j1
  have r34 := r7.ext K0_j1
  have hz := RV.sl O3c1_j1.rv; obtain ⟨a9, cq9, rfl, -, -, -⟩ := hz
  refine wp_seq <| rg <| vl rfl rfl (xlda l3_j1 ti25 rfl (Bx.cs B3_j1)) <| sst l2_j1 rfl rfl ti25 hb25 rfl rfl (ble rfl) fun w11 hch3 hb26 => ?_
  have k23 := Ext.chg k21 hch3 (Nat.le_trans hx1.size hg2)
  have k24 := Ext.chg k22 hch3 (Nat.le_trans (Nat.le_refl _) hg2)
  have zs5 := Nat.le_trans Z0_j1 (Nat.le_of_eq hch3.size.symm)
  have r35 := r4.ext k24
  have o4 := O3c1_j1.chgo hch3 (Nat.le_trans hx1.size hg2) (Nat.lt_of_lt_of_le hb2.lt k6.size)
  have hb27 : Bx w11 b3 25 [.slice a1 x0.1.length cq1, .slice a9 z1.2.length cq9] := hb26
  refine nl <| ?_
  cases hF
  exact wp_ret <| rt rfl (.cell l2_j1 rfl ti25 rfl (Bx.cs hb27) .nil) ⟨_, rfl, (show RV (α := ((List Int) × (List ((List Int) × (List Int))))) _ (.agg [.slice a1 x0.1.length cq1, .slice a9 z1.2.length cq9].toArray) (x0.1, z1.2) from ⟨_, rfl, ⟨[.slice a1 x0.1.length cq1], [.slice a9 z1.2.length cq9], rfl, r35.rep1, o4.rv.rep1⟩⟩), k23⟩

set_option maxHeartbeats 4000000 in
theorem c38 {w0 : World} {v0 : Value} {x0 : ((List Int) × (List ((List Int) × (List Int))))} (r0 : RV w0 v0 x0) {v1 : Value} {x1 : (List Int)} (r1 : RV w0 v1 x1) {v2 : Value} {x2 : (List Int)} (r2 : RV w0 v2 x2) {v3 : Value} {x3 : ((List Int) × Int)} (r3 : RV w0 v3 x3) {F : Nat} {r : Int} (hF : bath_CheckMix F x0 x1 x2 x3 = some r) :
    Calls Try.prog 38 [v0, v1, v2, v3].toArray w0 (Ret fun v w' => v = .int .i64 r ∧ Ext w0 w') := by
  unfold bath_CheckMix at hF
  have hz := id r0; obtain ⟨_, rfl, ⟨_, _, rfl, ⟨a1, cq1, rfl, p1, q5, e1⟩, ⟨a2, cq2, rfl, p2, q6, e2⟩⟩⟩ := hz
  have r5 := RV.of1 p1 q5 e1
  have r6 := RV.of1 p2 q6 e2
  have hz := r1.sl; obtain ⟨a3, cq3, rfl, -, -, -⟩ := hz
  have hz := r2.sl; obtain ⟨a4, cq4, rfl, -, -, -⟩ := hz
  have hz := id r3; obtain ⟨_, rfl, ⟨_, _, rfl, ⟨a5, cq5, rfl, p3, q7, e3⟩, rfl⟩⟩ := hz
  have r7 := RV.of1 p3 q7 e3
  refine entr (n := 98) Try.func38 rfl rfl rfl <| wp_seq <| rg <| sbx rfl rfl fun b5 w1 hx1 hg1 hb1 => ?_
  have r8 := r1.ext hx1
  have r9 := r2.ext hx1
  have r10 := r7.ext hx1
  have r11 := r3.ext hx1
  have r12 := r5.ext hx1
  have r13 := r6.ext hx1
  have r14 := r0.ext hx1
  refine sbx rfl rfl fun b6 w2 hx2 hg2 hb2 => ?_
  have k1 := hx1.tr hx2
  have hb3 := hb1.ext hx2
  have r15 := r12.ext hx2
  have r16 := r13.ext hx2
  have r17 := r8.ext hx2
  have r18 := r9.ext hx2
  have r19 := r10.ext hx2
  have r20 := r11.ext hx2
  refine vl rfl rfl xas <| nl <| wp_seq <| rg <| vl rfl rfl (xlda rfl ti25 rfl (Bx.cs hb3)) <| vl rfl rfl xmv <| vl rfl rfl xmv <| sbsv (cs := [.slice a3 x1.length cq3, .slice a4 x2.length cq4]) Try.underlying101 ti22 rfl (pc rfl (pc rfl pn)) rfl rfl rfl rfl rfl fun b7 w3 hx3 hg3 hb4 => ?_
  have k2 := k1.tr hx3
  have k3 := hx2.tr hx3
  have hb5 := hb3.ext hx3
  have r22 := r15.ext hx3
  have r23 := r16.ext hx3
  have hb6 := hb2.ext hx3
  have r24 := r19.ext hx3
  have r25 := r17.ext hx3
  have r26 := r18.ext hx3
  have r21 : RV w3 (.slice (some ⟨b7, 0, none⟩) 2 2) ([x1, x2] : List (List Int)) := RV.lit hb4 (css := [[.slice a3 x1.length cq3], [.slice a4 x2.length cq4]]) rfl ⟨r25.rep1, r26.rep1, trivial⟩ rfl (ble rfl)
  have hz := bs hF; obtain ⟨x5, Ex5, hF⟩ := hz
  refine cl rfl rfl (xc cb45 (mc rfl (mc rfl mn))) (c45 (show RV (α := ((List Int) × (List ((List Int) × (List Int))))) _ (.agg [.slice a1 x0.1.length cq1, .slice a2 x0.2.length cq2].toArray) (x0.1, x0.2) from ⟨_, rfl, ⟨[.slice a1 x0.1.length cq1], [.slice a2 x0.2.length cq2], rfl, r22.rep1, r23.rep1⟩⟩) r21 Ex5) ?_
  rintro _ w4 ⟨u1, u2, rfl, r27, r28, hx4⟩
  have k4 := k2.tr hx4
  have k5 := k3.tr hx4
  have k6 := hx3.tr hx4
  have hb7 := hb5.ext hx4
  have r29 := r22.ext hx4
  have r30 := r23.ext hx4
  have hb8 := hb6.ext hx4
  have r31 := r24.ext hx4
  have r32 := r25.ext hx4
  have r33 := r26.ext hx4
  have hz := obPtr r27; obtain ⟨a6, rfl⟩ := hz
  have hz := RV.sl r28; obtain ⟨a7, cq6, rfl, -, -, -⟩ := hz
  refine vl rfl rfl xmv <| vl rfl rfl (xext rfl rfl) <| vl rfl rfl (xext rfl rfl) <| vl rfl rfl (xext rfl rfl) <| vl rfl rfl xas <| vl rfl rfl xas <| vl rfl rfl xas <| nl <| wp_seq <| wp_block <| wp_seq <| rg <| vl rfl rfl xmv <| vl rfl rfl (xneq rfl rfl) <| vl rfl rfl xas <| nl <| cnd rfl (fun h5 => ?_) (fun h5 => ?_)
  ·
    have hF := ifp hF h5
    refine wp_seq <| rg <| vl rfl rfl xmv <| vl rfl rfl xas <| nl <| ?_
    cases hF
    exact wp_ret <| rt rfl (.tmp rfl rfl .nil) ⟨rfl, k4⟩
  ·
    have hF := ifn hF h5
    refine wp_seq <| rg <| vl rfl rfl (xfa rfl fa62_0) <| vl rfl rfl (xld rfl ti22 ((Bx.cs hb8).at 0 rfl)) <| vl rfl rfl (xlen rfl Try.underlying22) <| vl rfl rfl (xfa rfl fa25_1) <| vl rfl rfl (xld rfl ti23 ((Bx.cs hb7).at 1 rfl)) <| vl rfl rfl (xlen rfl Try.underlying23) <| vl rfl rfl (xneq rfl rfl) <| vl rfl rfl xas <| nl <| cnd rfl (fun h6 => ?_) (fun h6 => ?_)
    ·
      have hF := ifp hF h6
      refine wp_seq <| rg <| vl rfl rfl xas <| nl <| ?_
      cases hF
      exact wp_ret <| rt rfl (.tmp rfl rfl .nil) ⟨rfl, k4⟩
    ·
      have hF := ifn hF h6
      refine wp_seq <| rg <| vl rfl rfl (xfa rfl fa62_0) <| vl rfl rfl (xld rfl ti22 ((Bx.cs hb8).at 0 rfl)) <| ?_
      have hz := bs hF; obtain ⟨x6, Ex6, hF⟩ := hz
      refine cl rfl rfl (xc cb51 (mc rfl (mc rfl (mc rfl mn)))) (c51 r31 Ex6) ?_
      rintro _ w5 ⟨rfl, hx5⟩
      have k7 := k4.tr hx5
      have k8 := k5.tr hx5
      have k9 := k6.tr hx5
      have hb9 := hb7.ext hx5
      have r34 := r29.ext hx5
      have r35 := r30.ext hx5
      have hb10 := hb8.ext hx5
      have r36 := r31.ext hx5
      have r37 := r32.ext hx5
      have r38 := r33.ext hx5
      refine vl rfl rfl (xnot rfl) <| vl rfl rfl xmv <| gv rfl rfl rfl rfl (gw0 rfl) rfl (fun hc => xfa rfl fa62_1) <| gv rfl rfl rfl rfl (gw0 rfl) rfl (fun hc => xld (mv hc rfl) ti2 ((Bx.cs hb10).at 1 rfl)) <| gm (fun v w => RV w v ([x3.2] : List Int) ∧ Ext w5 w) rfl rfl rfl rfl (gw0 rfl) rfl (fun hc => sbsv (cs := [.int .i64 x3.2]) Try.underlying22 ti2 rfl (pc (mv hc rfl) pn) rfl rfl rfl rfl rfl fun b w' hx hg hb => nl ⟨_, rfl, (Row.lit (base := 0) (l := ([x3.2] : List Int)) (Nat.zero_le _) hb rfl (ble rfl)).rv, hx⟩) (fun v5 w6 hy1 hn1 => ?_)
      have hx6 : Ext w5 w6 := gx (fun h => (hy1 h).2) (fun h => (hn1 h).2 ▸ Ext.refl _)
      have k10 := k7.tr hx6
      have k11 := k8.tr hx6
      have k12 := k9.tr hx6
      have hb11 := hb9.ext hx6
      have r39 := r34.ext hx6
      have r40 := r35.ext hx6
      have hb12 := hb10.ext hx6
      have r41 := r36.ext hx6
      have r42 := r37.ext hx6
      have r43 := r38.ext hx6
      have hz := bs hF; obtain ⟨x7, Ex7, hF⟩ := hz
      refine gc rfl rfl rfl rfl (gw0 rfl) rfl (fun hc => xc cb51 (mc rfl (mc rfl (mc rfl mn)))) (fun hc => (c51 ((hy1 hc).1) (gdp Ex7 hc))) (fun v6 w7 hy2 hn2 => ?_)
      have hx7 : Ext w6 w7 := gx (fun h => (hy2 h).2) (fun h => (hn2 h).2 ▸ Ext.refl _)
      have e4 := mkw (fun h => (hy2 h).1) (fun h => (hn2 h).1)
      have k13 := k10.tr hx7
      have k14 := k11.tr hx7
      have k15 := k12.tr hx7
      have hb13 := hb11.ext hx7
      have r44 := r39.ext hx7
      have r45 := r40.ext hx7
      have hb14 := hb12.ext hx7
      have r46 := r41.ext hx7
      have r47 := r42.ext hx7
      have r48 := r43.ext hx7
      refine gv rfl rfl rfl rfl (gw0 rfl) rfl (fun hc => xnot (mv hc e4)) <| vl rfl rfl (xpo rfl rfl rfl) <| vl rfl rfl xas <| nl <| cnd rfl (fun h7 => ?_) (fun h7 => ?_)
      ·
        have hF := ifp hF h7
        refine wp_seq <| rg <| vl rfl rfl xas <| nl <| ?_
        cases hF
        exact wp_ret <| rt rfl (.tmp rfl rfl .nil) ⟨rfl, k13⟩
      ·
        have hF := ifn hF h7
        refine wp_skip <| wp_seq <| wp_seq <| rg <| vl rfl rfl (xfa rfl fa25_0) <| vl rfl rfl (xld rfl ti22 ((Bx.cs hb13).at 0 rfl)) <| vl rfl rfl (xlen rfl Try.underlying22) <| vl rfl rfl xmv <| nl <| ?_
        have hz := bs hF; obtain ⟨o1, hB1, hF⟩ := hz
        refine ct (fun L w => o1 = .inr () ∧ Ext w7 w) ?_ ?_
        ·
          refine wp_block <| lp (I := fun m L w => ∃ y1 : Int, bath_CheckMix_l1 F x0 x1 x2 x3 m y1  = some o1 ∧ L 52 = .int .i64 y1 ∧ L 1 = .slice a3 x1.length cq3 ∧ L 2 = .slice a4 x2.length cq4 ∧ L 4 = .pointer (some ⟨b5, 0, none⟩) ∧ L 7 = .pointer (some ⟨b6, 0, none⟩) ∧ L 51 = .int .i64 (x0.1.length : Int) ∧ Ext w7 w) F ⟨_, hB1, rfl, rfl, rfl, rfl, rfl, rfl, (Ext.refl _)⟩ ?_
          rintro m L w8 ⟨y1, hB1, l52_i1, l1_i1, l2_i1, l4_i1, l7_i1, l51_i1, K0_i1⟩
          rcases m with _ | m
          · rw [bath_CheckMix_l1] at hB1; cases hB1
          rw [bath_CheckMix_l1] at hB1
          have k16 := k13.tr K0_i1
          have k17 := k14.tr K0_i1
          have k18 := k15.tr K0_i1
          have r49 := r47.ext K0_i1
          have r50 := r48.ext K0_i1
          have r51 := r44.ext K0_i1
          have r52 := r45.ext K0_i1
          have hb15 := hb13.ext K0_i1
          have r53 := r46.ext K0_i1
          have hb16 := hb14.ext K0_i1
          refine wp_seq <| rg <| vl rfl rfl (xlss l52_i1 l51_i1) <| nl <| wp_seq <| cnd rfl (fun h8 => ?_) (fun h8 => ?_)
          ·
            have hB1 := ifp hB1 h8
            refine wp_skip <| wp_seq <| wp_block <| wp_seq <| rg <| vl rfl rfl xmv <| vl rfl rfl xas <| nl <| wp_seq <| wpl [] (.pure true 0 (.pure false 1 (.pure true 2 (.pure true 3 (.pure true 4 (.pure false 5 (.pure true 6 (.pure true 7 (.pure true 8 (.pure false 9 (.pure true 10 (.pure true 11 (.pure true 12 .fin))))))))))))) mixed (by kernel_rfl) (fun w9 hx8 => ?_)
            have k19 := k16.tr hx8
            have k20 := k17.tr hx8
            have k21 := k18.tr hx8
            have k22 := K0_i1.tr hx8
            have hb17 := hb15.ext hx8
            have r54 := r51.ext hx8
            have r55 := r52.ext hx8
            have hb18 := hb16.ext hx8
            have r56 := r53.ext hx8
            have r57 := r49.ext hx8
            have r58 := r50.ext hx8
            refine pv rfl rfl rfl (fun _ _ => xfa l7_i1 fa62_1) (.inl rfl) <| pv rfl rfl rfl (fun _ hS => xld rfl ti2 ((Bx.cs (hb18.ext (hS.resolve_left nofun))).at 1 rfl)) (.inr (Ext.refl _)) <| pv rfl rfl rfl (fun _ _ => xmv) (.inl rfl) <| pv rfl rfl rfl (fun _ _ => xmv) (.inl rfl) <| ?_
            have hz := bs hB1; obtain ⟨x8, Ex8, hB1⟩ := hz
            have hz := (RV.els r1).ix Ex8; obtain ⟨b8, f1, cs5, e5, i2, i3, q8, hc1⟩ := hz
            cases e5
            obtain rfl := q8
            have hc2 := hc1.ext k19
            refine pv rfl rfl rfl (fun _ _ => xixs l1_i1 l52_i1 Try.underlying22 ti2 i2 i3) (.inl rfl) <| pv rfl rfl rfl (fun _ hS => xld rfl ti2 ((hc2.ext (hS.resolve_left nofun)).at 0 rfl)) (.inr (Ext.refl _)) <| pv rfl rfl rfl (fun _ _ => xmv) (.inl rfl) <| pv rfl rfl rfl (fun _ _ => xmv) (.inl rfl) <| ?_
            have hz := bs hB1; obtain ⟨x9, Ex9, hB1⟩ := hz
            have hz := (RV.els r2).ix Ex9; obtain ⟨b9, f2, cs6, e6, i4, i5, q9, hc3⟩ := hz
            cases e6
            obtain rfl := q9
            have hc4 := hc3.ext k19
            refine pv rfl rfl rfl (fun _ _ => xixs l2_i1 l52_i1 Try.underlying22 ti2 i4 i5) (.inl rfl) <| pv rfl rfl rfl (fun _ hS => xld rfl ti2 ((hc4.ext (hS.resolve_left nofun)).at 0 rfl)) (.inr (Ext.refl _)) <| pv rfl rfl rfl (fun _ _ => xsub rfl rfl) (.inl rfl) <| pv rfl rfl rfl (fun _ _ => xmul rfl rfl) (.inl rfl) <| pv rfl rfl rfl (fun _ _ => xas) (.inl rfl) <| wp_seq <| wp_seq <| rg <| vl rfl rfl (xfa l4_i1 fa25_1) <| vl rfl rfl (xld rfl ti23 ((Bx.cs hb17).at 1 rfl)) <| vl rfl rfl (xlen rfl Try.underlying23) <| vl rfl rfl xmv <| nl <| ?_
            have hz := bs hB1; obtain ⟨z1, hB3, hB1⟩ := hz
            refine ct (fun L w => L 13 = .int .i64 z1 ∧ L 1 = .slice (some ⟨b8, f1, none⟩) x1.length cq3 ∧ L 2 = .slice (some ⟨b9, f2, none⟩) x2.length cq4 ∧ L 4 = .pointer (some ⟨b5, 0, none⟩) ∧ L 7 = .pointer (some ⟨b6, 0, none⟩) ∧ L 51 = .int .i64 (x0.1.length : Int) ∧ L 52 = .int .i64 y1 ∧ Ext w9 w) ?_ ?_
            ·
              refine wp_block <| lp (I := fun m L w => ∃ y2 : Int, ∃ y3 : Int, bath_CheckMix_l2 F x0 x3 y1 m y2 y3  = some z1 ∧ L 13 = .int .i64 y2 ∧ L 70 = .int .i64 y3 ∧ L 1 = .slice (some ⟨b8, f1, none⟩) x1.length cq3 ∧ L 2 = .slice (some ⟨b9, f2, none⟩) x2.length cq4 ∧ L 4 = .pointer (some ⟨b5, 0, none⟩) ∧ L 7 = .pointer (some ⟨b6, 0, none⟩) ∧ L 12 = .int .i64 y1 ∧ L 51 = .int .i64 (x0.1.length : Int) ∧ L 52 = .int .i64 y1 ∧ L 68 = .slice a2 x0.2.length cq2 ∧ L 69 = .int .i64 (x0.2.length : Int) ∧ Ext w9 w) F ⟨_, _, hB3, rfl, rfl, l1_i1, l2_i1, l4_i1, l7_i1, l52_i1, l51_i1, l52_i1, rfl, rfl, (Ext.refl _)⟩ ?_
              rintro m L w10 ⟨y2, y3, hB3, l13_i6, l70_i6, l1_i6, l2_i6, l4_i6, l7_i6, l12_i6, l51_i6, l52_i6, l68_i6, l69_i6, K0_i6⟩
              rcases m with _ | m
              · rw [bath_CheckMix_l2] at hB3; cases hB3
              rw [bath_CheckMix_l2] at hB3
              have k23 := k19.tr K0_i6
              have k24 := k20.tr K0_i6
              have k25 := k21.tr K0_i6
              have k26 := k22.tr K0_i6
              have r59 := r57.ext K0_i6
              have r60 := r58.ext K0_i6
              have r61 := r54.ext K0_i6
              have r62 := r55.ext K0_i6
              have hb19 := hb17.ext K0_i6
              have r63 := r56.ext K0_i6
              have hb20 := hb18.ext K0_i6
              refine wp_seq <| rg <| vl rfl rfl (xlss l70_i6 l69_i6) <| nl <| wp_seq <| cnd rfl (fun h9 => ?_) (fun h9 => ?_)
              ·
                have hB3 := ifp hB3 h9
                refine wp_skip <| wp_seq <| wp_block <| wp_seq <| rg <| vl rfl rfl xmv <| ?_
                have hz := bs hB3; obtain ⟨x10, Ex10, hB3⟩ := hz
                have hz := (RV.els r6).ix Ex10; obtain ⟨b10, f3, cs7, e7, i7, i8, q10, hc5⟩ := hz
                cases e7
                obtain ⟨_, _, rfl, ⟨a8, cq7, rfl, p4, q11, e8⟩, ⟨a9, cq8, rfl, p5, q12, e9⟩⟩ := q10
                have r64 := RV.of1 p4 q11 e8
                have r65 := RV.of1 p5 q12 e9
                have hc6 := hc5.ext k23
                have r66 := r64.ext k23
                have r67 := r65.ext k23
                refine vl rfl rfl (xixs l68_i6 l70_i6 Try.underlying23 ti57 i7 i8) <| vl rfl rfl (xlda rfl ti57 rfl hc6) <| sal ti57 fun b11 w11 hx9 hg4 hb21 => ?_
                have k27 := k23.tr hx9
                have k28 := k24.tr hx9
                have k29 := k25.tr hx9
                have k30 := k26.tr hx9
                have k31 := K0_i6.tr hx9
                have hb22 := hb19.ext hx9
                have r68 := r61.ext hx9
                have r69 := r62.ext hx9
                have hb23 := hb20.ext hx9
                have r70 := r63.ext hx9
                have r71 := r59.ext hx9
                have r72 := r60.ext hx9
                have r73 := r66.ext hx9
                have r74 := r67.ext hx9
                refine vl rfl rfl xas <| sst rfl rfl rfl ti57 hb21 rfl rfl (ble rfl) fun w12 hch1 hb24 => ?_
                have k32 := Ext.chg k27 hch1 (Nat.le_trans k23.size hg4)
                have k33 := Ext.chg k28 hch1 (Nat.le_trans k24.size hg4)
                have k34 := Ext.chg k29 hch1 (Nat.le_trans k25.size hg4)
                have k35 := Ext.chg k30 hch1 (Nat.le_trans k26.size hg4)
                have k36 := Ext.chg k31 hch1 (Nat.le_trans K0_i6.size hg4)
                have k37 := Ext.chg hx9 hch1 (Nat.le_trans (Nat.le_refl _) hg4)
                have hb25 := hb19.ext k37
                have r75 := r61.ext k37
                have r76 := r62.ext k37
                have hb26 := hb20.ext k37
                have r77 := r63.ext k37
                have r78 := r59.ext k37
                have r79 := r60.ext k37
                have r80 := r66.ext k37
                have r81 := r67.ext k37
                have hb27 : Bx w12 b11 57 [.slice a8 x10.1.length cq7, .slice a9 x10.2.length cq8] := hb24
                refine nl <| wpl [] (.pure true 0 (.pure true 1 (.pure false 2 (.pure true 3 (.pure true 4 (.pure false 5 (.pure true 6 (.pure false 7 (.pure true 8 (.pure true 9 (.pure false 10 (.pure true 11 (.pure false 12 (.pure true 13 (.pure true 14 (.pure false 15 (.pure true 16 (.pure true 17 (.pure true 18 (.pure true 19 .fin)))))))))))))))))))) mixed (by kernel_rfl) (fun w13 hx10 => ?_)
                have k38 := k32.tr hx10
                have k39 := k33.tr hx10
                have k40 := k34.tr hx10
                have k41 := k35.tr hx10
                have k42 := k36.tr hx10
                have k43 := k37.tr hx10
                have hb28 := hb25.ext hx10
                have r82 := r75.ext hx10
                have r83 := r76.ext hx10
                have hb29 := hb26.ext hx10
                have r84 := r77.ext hx10
                have hb30 := hb27.ext hx10
                have r85 := r80.ext hx10
                have r86 := r81.ext hx10
                have r87 := r78.ext hx10
                have r88 := r79.ext hx10
                refine pv rfl rfl rfl (fun _ _ => xmv) (.inl rfl) <| pv rfl rfl rfl (fun _ _ => xfa l7_i6 fa62_0) (.inl rfl) <| pv rfl rfl rfl (fun _ hS => xld rfl ti22 ((Bx.cs (hb29.ext (hS.resolve_left nofun))).at 0 rfl)) (.inr (Ext.refl _)) <| pv rfl rfl rfl (fun _ _ => xmv) (.inl rfl) <| ?_
                have hz := bs hB3; obtain ⟨x11, Ex11, hB3⟩ := hz
                have hz := (RV.els r7).ix Ex11; obtain ⟨b12, f4, cs8, e10, i9, i10, q13, hc7⟩ := hz
                cases e10
                obtain rfl := q13
                have hc8 := hc7.ext k38
                refine pv rfl rfl rfl (fun _ _ => xixs rfl l70_i6 Try.underlying22 ti2 i9 i10) (.inl rfl) <| pv rfl rfl rfl (fun _ hS => xld rfl ti2 ((hc8.ext (hS.resolve_left nofun)).at 0 rfl)) (.inr (Ext.refl _)) <| pv rfl rfl rfl (fun _ _ => xfa rfl fa57_1) (.inl rfl) <| pv rfl rfl rfl (fun _ hS => xld rfl ti22 ((Bx.cs (hb30.ext (hS.resolve_left nofun))).at 1 rfl)) (.inr (Ext.refl _)) <| pv rfl rfl rfl (fun _ _ => xmv) (.inl rfl) <| ?_
                have hz := bs hB3; obtain ⟨x12, Ex12, hB3⟩ := hz
                have hz := (RV.els r65).ix Ex12; obtain ⟨b13, f5, cs9, e11, i11, i12, q14, hc9⟩ := hz
                cases e11
                obtain rfl := q14
                have hc10 := hc9.ext k38
                refine pv rfl rfl rfl (fun _ _ => xixs rfl l12_i6 Try.underlying22 ti2 i11 i12) (.inl rfl) <| pv rfl rfl rfl (fun _ hS => xld rfl ti2 ((hc10.ext (hS.resolve_left nofun)).at 0 rfl)) (.inr (Ext.refl _)) <| pv rfl rfl rfl (fun _ _ => xfa rfl fa57_0) (.inl rfl) <| pv rfl rfl rfl (fun _ hS => xld rfl ti22 ((Bx.cs (hb30.ext (hS.resolve_left nofun))).at 0 rfl)) (.inr (Ext.refl _)) <| pv rfl rfl rfl (fun _ _ => xmv) (.inl rfl) <| ?_
                have hz := bs hB3; obtain ⟨x13, Ex13, hB3⟩ := hz
                have hz := (RV.els r64).ix Ex13; obtain ⟨b14, f6, cs10, e12, i13, i14, q15, hc11⟩ := hz
                cases e12
                obtain rfl := q15
                have hc12 := hc11.ext k38
                refine pv rfl rfl rfl (fun _ _ => xixs rfl l12_i6 Try.underlying22 ti2 i13 i14) (.inl rfl) <| pv rfl rfl rfl (fun _ hS => xld rfl ti2 ((hc12.ext (hS.resolve_left nofun)).at 0 rfl)) (.inr (Ext.refl _)) <| pv rfl rfl rfl (fun _ _ => xsub rfl rfl) (.inl rfl) <| pv rfl rfl rfl (fun _ _ => xmul rfl rfl) (.inl rfl) <| pv rfl rfl rfl (fun _ _ => xadd l13_i6 rfl) (.inl rfl) <| pv rfl rfl rfl (fun _ _ => xas) (.inl rfl) <| rg <| vl rfl rfl (xadd l70_i6 rfl) <| vl rfl rfl xmv <| nl <| ?_
                refine lq m (Nat.lt_succ_self _) <| ?_
                exact ⟨_, _, hB3, rfl, rfl, l1_i6, l2_i6, l4_i6, l7_i6, l12_i6, l51_i6, l52_i6, l68_i6, l69_i6, k42⟩
              ·
                have hB3 := ifn hB3 h9
                refine wp_exit <| ?_
                cases hB3
                refine lf <| ?_
                exact ⟨l13_i6, l1_i6, l2_i6, l4_i6, l7_i6, l51_i6, l52_i6, K0_i6⟩
            rintro L w14 ⟨l13_j1, l1_j1, l2_j1, l4_j1, l7_j1, l51_j1, l52_j1, K0_j1⟩
            have k44 := k19.tr K0_j1
            have k45 := k20.tr K0_j1
            have k46 := k21.tr K0_j1
            have k47 := k22.tr K0_j1
            have r89 := r57.ext K0_j1
            have r90 := r58.ext K0_j1
            have r91 := r54.ext K0_j1
            have r92 := r55.ext K0_j1
            have hb31 := hb17.ext K0_j1
            have r93 := r56.ext K0_j1
            have hb32 := hb18.ext K0_j1
            refine wp_seq <| rg <| vl rfl rfl xmv <| vl rfl rfl (xneq l13_j1 rfl) <| nl <| cnd rfl (fun h10 => ?_) (fun h10 => ?_)
            ·
              have hB1 := ifp hB1 h10
              refine wp_seq <| rg <| vl rfl rfl xas <| nl <| ?_
              cases hB1
              have hF := (show some _ = some _ from hF); cases hF
              exact wp_ret <| rt rfl (.tmp rfl rfl .nil) ⟨rfl, k44⟩
            ·
              have hB1 := ifn hB1 h10
              refine wp_skip <| rg <| vl rfl rfl (xadd l52_j1 rfl) <| vl rfl rfl xmv <| nl <| ?_
              refine lq m (Nat.lt_succ_self _) <| ?_
              exact ⟨_, hB1, rfl, l1_j1, l2_j1, l4_j1, l7_j1, l51_j1, k47⟩
          ·
            have hB1 := ifn hB1 h8
            refine wp_exit <| ?_
            cases hB1
            refine lf <| ?_
            exact ⟨rfl, K0_i1⟩
        rintro L w15 ⟨rfl, K0_j2⟩
        have k48 := k13.tr K0_j2
        have k49 := k14.tr K0_j2
        have k50 := k15.tr K0_j2
        refine wp_seq <| rg <| vl rfl rfl xas <| nl <| ?_
        cases hF
        exact wp_ret <| rt rfl (.tmp rfl rfl .nil) ⟨rfl, k48⟩

set_option maxHeartbeats 4000000 in
theorem c39 {w0 : World} {v0 : Value} {x0 : ((List Int) × (List ((List Int) × (List Int))))} (r0 : RV w0 v0 x0) {v1 : Value} {x1 : (List Int)} (r1 : RV w0 v1 x1) {v2 : Value} {x2 : (List Int)} (r2 : RV w0 v2 x2) {v3 : Value} {x3 : ((List Int) × Int)} (r3 : RV w0 v3 x3) {F : Nat} {r : Int} (hF : ref11_CheckMix F x0 x1 x2 x3 = some r) :
    Calls Try.prog 39 [v0, v1, v2, v3].toArray w0 (Ret fun v w' => v = .int .i64 r ∧ Ext w0 w') := by
  unfold ref11_CheckMix at hF
  have hz := id r0; obtain ⟨_, rfl, ⟨_, _, rfl, ⟨a1, cq1, rfl, p1, q5, e1⟩, ⟨a2, cq2, rfl, p2, q6, e2⟩⟩⟩ := hz
  have r5 := RV.of1 p1 q5 e1
  have r6 := RV.of1 p2 q6 e2
  have hz := r1.sl; obtain ⟨a3, cq3, rfl, -, -, -⟩ := hz
  have hz := r2.sl; obtain ⟨a4, cq4, rfl, -, -, -⟩ := hz
  have hz := id r3; obtain ⟨_, rfl, ⟨_, _, rfl, ⟨a5, cq5, rfl, p3, q7, e3⟩, rfl⟩⟩ := hz
  have r7 := RV.of1 p3 q7 e3
  refine entr (n := 96) Try.func39 rfl rfl rfl <| wp_seq <| rg <| sbx rfl rfl fun b5 w1 hx1 hg1 hb1 => ?_
  have r8 := r1.ext hx1
  have r9 := r2.ext hx1
  have r10 := r7.ext hx1
  have r11 := r3.ext hx1
  have r12 := r5.ext hx1
  have r13 := r6.ext hx1
  have r14 := r0.ext hx1
  refine sbx rfl rfl fun b6 w2 hx2 hg2 hb2 => ?_
  have k1 := hx1.tr hx2
  have hb3 := hb1.ext hx2
  have r15 := r12.ext hx2
  have r16 := r13.ext hx2
  have r17 := r8.ext hx2
  have r18 := r9.ext hx2
  have r19 := r10.ext hx2
  have r20 := r11.ext hx2
  refine vl rfl rfl xas <| nl <| wp_seq <| wp_seq <| rg <| vl rfl rfl (xlda rfl ti25 rfl (Bx.cs hb3)) <| vl rfl rfl xmv <| vl rfl rfl xmv <| ?_
  have hz := bs hF; obtain ⟨x5, Ex5, hF⟩ := hz
  refine cl rfl rfl (xc cb41 (mc rfl (mc rfl (mc rfl mn)))) (c41 (show RV (α := ((List Int) × (List ((List Int) × (List Int))))) _ (.agg [.slice a1 x0.1.length cq1, .slice a2 x0.2.length cq2].toArray) (x0.1, x0.2) from ⟨_, rfl, ⟨[.slice a1 x0.1.length cq1], [.slice a2 x0.2.length cq2], rfl, r15.rep1, r16.rep1⟩⟩) r17 r18 Ex5) ?_
  rintro _ w3 ⟨rfl, hx3⟩
  have k2 := k1.tr hx3
  have k3 := hx2.tr hx3
  have hb4 := hb3.ext hx3
  have r21 := r15.ext hx3
  have r22 := r16.ext hx3
  have hb5 := hb2.ext hx3
  have r23 := r19.ext hx3
  have r24 := r17.ext hx3
  have r25 := r18.ext hx3
  refine vl rfl rfl (xneq rfl rfl) <| nl <| cnd rfl (fun h5 => ?_) (fun h5 => ?_)
  ·
    have hF := ifp hF h5
    refine wp_seq <| rg <| vl rfl rfl (xlda rfl ti25 rfl (Bx.cs hb4)) <| vl rfl rfl xmv <| vl rfl rfl xmv <| ?_
    have hz := bs hF; obtain ⟨x6, Ex6, hF⟩ := hz
    refine cl rfl rfl (xc cb41 (mc rfl (mc rfl (mc rfl mn)))) (c41 (show RV (α := ((List Int) × (List ((List Int) × (List Int))))) _ (.agg [.slice a1 x0.1.length cq1, .slice a2 x0.2.length cq2].toArray) (x0.1, x0.2) from ⟨_, rfl, ⟨[.slice a1 x0.1.length cq1], [.slice a2 x0.2.length cq2], rfl, r21.rep1, r22.rep1⟩⟩) r24 r25 Ex6) ?_
    rintro _ w4 ⟨rfl, hx4⟩
    have k4 := k2.tr hx4
    have k5 := k3.tr hx4
    refine vl rfl rfl xas <| nl <| ?_
    cases hF
    exact wp_ret <| rt rfl (.tmp rfl rfl .nil) ⟨rfl, k4⟩
  ·
    have hF := ifn hF h5
    refine wp_skip <| wp_seq <| wp_seq <| rg <| vl rfl rfl (xfa rfl fa62_0) <| vl rfl rfl (xld rfl ti22 ((Bx.cs hb5).at 0 rfl)) <| vl rfl rfl (xlen rfl Try.underlying22) <| vl rfl rfl (xfa rfl fa25_1) <| vl rfl rfl (xld rfl ti23 ((Bx.cs hb4).at 1 rfl)) <| vl rfl rfl (xlen rfl Try.underlying23) <| vl rfl rfl (xneq rfl rfl) <| nl <| cnd rfl (fun h6 => ?_) (fun h6 => ?_)
    ·
      have hF := ifp hF h6
      refine wp_seq <| rg <| vl rfl rfl xas <| nl <| ?_
      cases hF
      exact wp_ret <| rt rfl (.tmp rfl rfl .nil) ⟨rfl, k2⟩
    ·
      have hF := ifn hF h6
      refine wp_skip <| wp_seq <| wp_seq <| rg <| vl rfl rfl (xfa rfl fa62_0) <| vl rfl rfl (xld rfl ti22 ((Bx.cs hb5).at 0 rfl)) <| ?_
      have hz := bs hF; obtain ⟨x7, Ex7, hF⟩ := hz
      refine cl rfl rfl (xc cb68 (mc rfl mn)) (c68 r23 Ex7) ?_
      rintro _ w5 ⟨rfl, hx5⟩
      have k6 := k2.tr hx5
      have k7 := k3.tr hx5
      have hb6 := hb4.ext hx5
      have r26 := r21.ext hx5
      have r27 := r22.ext hx5
      have hb7 := hb5.ext hx5
      have r28 := r23.ext hx5
      have r29 := r24.ext hx5
      have r30 := r25.ext hx5
      refine vl rfl rfl (xnot rfl) <| vl rfl rfl xmv <| gv rfl rfl rfl rfl (gw0 rfl) rfl (fun hc => xfa rfl fa62_1) <| gv rfl rfl rfl rfl (gw0 rfl) rfl (fun hc => xld (mv hc rfl) ti2 ((Bx.cs hb7).at 1 rfl)) <| gv rfl rfl rfl rfl (gw0 rfl) rfl (fun hc => xlss (mv hc rfl) rfl) <| vl rfl rfl (xpo rfl rfl rfl) <| vl rfl rfl xmv <| gv rfl rfl rfl rfl (gw0 rfl) rfl (fun hc => xfa rfl fa62_1) <| gv rfl rfl rfl rfl (gw0 rfl) rfl (fun hc => xld (mv hc rfl) ti2 ((Bx.cs hb7).at 1 rfl)) <| gv rfl rfl rfl rfl (gw0 rfl) rfl (fun hc => xgtr (mv hc rfl) rfl) <| vl rfl rfl (xpo rfl rfl rfl) <| nl <| cnd rfl (fun h7 => ?_) (fun h7 => ?_)
      ·
        have hF := ifp hF h7
        refine wp_seq <| rg <| vl rfl rfl xas <| nl <| ?_
        cases hF
        exact wp_ret <| rt rfl (.tmp rfl rfl .nil) ⟨rfl, k6⟩
      ·
        have hF := ifn hF h7
        refine wp_skip <| wp_seq <| wp_seq <| rg <| vl rfl rfl xas <| nl <| ?_
        have hz := bs hF; obtain ⟨o1, hB1, hF⟩ := hz
        refine ct (fun L w => o1 = .inr () ∧ Ext w5 w) ?_ ?_
        ·
          refine wp_block <| lp (I := fun m L w => ∃ y1 : Int, ref11_CheckMix_l1 F x0 x1 x2 x3 m y1  = some o1 ∧ L 9 = .int .i64 y1 ∧ L 1 = .slice a3 x1.length cq3 ∧ L 2 = .slice a4 x2.length cq4 ∧ L 4 = .pointer (some ⟨b5, 0, none⟩) ∧ L 7 = .pointer (some ⟨b6, 0, none⟩) ∧ Ext w5 w) F ⟨_, hB1, rfl, rfl, rfl, rfl, rfl, (Ext.refl _)⟩ ?_
          rintro m L w6 ⟨y1, hB1, l9_i1, l1_i1, l2_i1, l4_i1, l7_i1, K0_i1⟩
          rcases m with _ | m
          · rw [ref11_CheckMix_l1] at hB1; cases hB1
          rw [ref11_CheckMix_l1] at hB1
          have k8 := k6.tr K0_i1
          have k9 := k7.tr K0_i1
          have r31 := r29.ext K0_i1
          have r32 := r30.ext K0_i1
          have r33 := r26.ext K0_i1
          have r34 := r27.ext K0_i1
          have hb8 := hb6.ext K0_i1
          have r35 := r28.ext K0_i1
          have hb9 := hb7.ext K0_i1
          refine wp_seq <| wp_seq <| rg <| vl rfl rfl xmv <| vl rfl rfl xmv <| vl rfl rfl (xlen l1_i1 Try.underlying22) <| vl rfl rfl (xlss l9_i1 rfl) <| nl <| cnd rfl (fun h8 => ?_) (fun h8 => ?_)
          ·
            have hB1 := ifp hB1 h8
            refine wp_skip <| wp_seq <| wp_block <| wp_seq <| rg <| vl rfl rfl xas <| nl <| wp_seq <| wp_seq <| rg <| vl rfl rfl xas <| nl <| ?_
            have hz := bs hB1; obtain ⟨z1, hB3, hB1⟩ := hz
            refine ct (fun L w => L 10 = .int .i64 z1 ∧ L 1 = .slice a3 x1.length cq3 ∧ L 2 = .slice a4 x2.length cq4 ∧ L 4 = .pointer (some ⟨b5, 0, none⟩) ∧ L 7 = .pointer (some ⟨b6, 0, none⟩) ∧ L 9 = .int .i64 y1 ∧ Ext w6 w) ?_ ?_
            ·
              refine wp_block <| lp (I := fun m L w => ∃ y2 : Int, ∃ y3 : Int, ref11_CheckMix_l2 F x0 x3 y1 m y2 y3  = some z1 ∧ L 10 = .int .i64 y2 ∧ L 11 = .int .i64 y3 ∧ L 1 = .slice a3 x1.length cq3 ∧ L 2 = .slice a4 x2.length cq4 ∧ L 4 = .pointer (some ⟨b5, 0, none⟩) ∧ L 7 = .pointer (some ⟨b6, 0, none⟩) ∧ L 9 = .int .i64 y1 ∧ Ext w6 w) F ⟨_, _, hB3, rfl, rfl, l1_i1, l2_i1, l4_i1, l7_i1, l9_i1, (Ext.refl _)⟩ ?_
              rintro m L w7 ⟨y2, y3, hB3, l10_i2, l11_i2, l1_i2, l2_i2, l4_i2, l7_i2, l9_i2, K0_i2⟩
              rcases m with _ | m
              · rw [ref11_CheckMix_l2] at hB3; cases hB3
              rw [ref11_CheckMix_l2] at hB3
              have k10 := k8.tr K0_i2
              have k11 := k9.tr K0_i2
              have k12 := K0_i1.tr K0_i2
              have r36 := r31.ext K0_i2
              have r37 := r32.ext K0_i2
              have r38 := r33.ext K0_i2
              have r39 := r34.ext K0_i2
              have hb10 := hb8.ext K0_i2
              have r40 := r35.ext K0_i2
              have hb11 := hb9.ext K0_i2
              refine wp_seq <| wp_seq <| rg <| vl rfl rfl xmv <| vl rfl rfl (xfa l4_i2 fa25_1) <| vl rfl rfl (xld rfl ti23 ((Bx.cs hb10).at 1 rfl)) <| vl rfl rfl (xlen rfl Try.underlying23) <| vl rfl rfl (xlss l11_i2 rfl) <| nl <| cnd rfl (fun h9 => ?_) (fun h9 => ?_)
              ·
                have hB3 := ifp hB3 h9
                refine wp_skip <| wp_seq <| wp_block <| wpl [] (.pure true 0 (.pure true 1 (.pure false 2 (.pure true 3 (.pure true 4 (.pure false 5 (.pure true 6 (.pure false 7 (.pure true 8 (.pure true 9 (.pure true 10 (.pure false 11 (.pure true 12 (.pure true 13 (.pure false 14 (.pure true 15 (.pure false 16 (.pure true 17 (.pure true 18 (.pure true 19 (.pure false 20 (.pure true 21 (.pure true 22 (.pure false 23 (.pure true 24 (.pure true 25 (.pure true 26 (.pure true 27 .fin)))))))))))))))))))))))))))) mixed (by kernel_rfl) (fun w8 hx6 => ?_)
                have k13 := k10.tr hx6
                have k14 := k11.tr hx6
                have k15 := k12.tr hx6
                have k16 := K0_i2.tr hx6
                have hb12 := hb10.ext hx6
                have r41 := r38.ext hx6
                have r42 := r39.ext hx6
                have hb13 := hb11.ext hx6
                have r43 := r40.ext hx6
                have r44 := r36.ext hx6
                have r45 := r37.ext hx6
                refine pv rfl rfl rfl (fun _ _ => xmv) (.inl rfl) <| pv rfl rfl rfl (fun _ _ => xfa l7_i2 fa62_0) (.inl rfl) <| pv rfl rfl rfl (fun _ hS => xld rfl ti22 ((Bx.cs (hb13.ext (hS.resolve_left nofun))).at 0 rfl)) (.inr (Ext.refl _)) <| pv rfl rfl rfl (fun _ _ => xmv) (.inl rfl) <| ?_
                have hz := bs hB3; obtain ⟨x8, Ex8, hB3⟩ := hz
                have hz := (RV.els r7).ix Ex8; obtain ⟨b7, f1, cs5, e4, i3, i4, q8, hc1⟩ := hz
                cases e4
                obtain rfl := q8
                have hc2 := hc1.ext k13
                refine pv rfl rfl rfl (fun _ _ => xixs rfl l11_i2 Try.underlying22 ti2 i3 i4) (.inl rfl) <| pv rfl rfl rfl (fun _ hS => xld rfl ti2 ((hc2.ext (hS.resolve_left nofun)).at 0 rfl)) (.inr (Ext.refl _)) <| pv rfl rfl rfl (fun _ _ => xfa l4_i2 fa25_1) (.inl rfl) <| pv rfl rfl rfl (fun _ hS => xld rfl ti23 ((Bx.cs (hb12.ext (hS.resolve_left nofun))).at 1 rfl)) (.inr (Ext.refl _)) <| pv rfl rfl rfl (fun _ _ => xmv) (.inl rfl) <| ?_
                have hz := bs hB3; obtain ⟨x9, Ex9, hB3⟩ := hz
                have hz := (RV.els r6).ix Ex9; obtain ⟨b8, f2, cs6, e5, i5, i6, q9, hc3⟩ := hz
                cases e5
                obtain ⟨_, _, rfl, ⟨a6, cq6, rfl, p4, q10, e6⟩, ⟨a7, cq7, rfl, p5, q11, e7⟩⟩ := q9
                have r46 := RV.of1 p4 q10 e6
                have r47 := RV.of1 p5 q11 e7
                have hc4 := hc3.ext k13
                have r48 := r46.ext k13
                have r49 := r47.ext k13
                refine pv rfl rfl rfl (fun _ _ => xixs rfl l11_i2 Try.underlying23 ti57 i5 i6) (.inl rfl) <| pv rfl rfl rfl (fun _ _ => xfa rfl fa57_1) (.inl rfl) <| pv rfl rfl rfl (fun _ hS => xld rfl ti22 ((hc4.ext (hS.resolve_left nofun)).at 1 rfl)) (.inr (Ext.refl _)) <| pv rfl rfl rfl (fun _ _ => xmv) (.inl rfl) <| ?_
                have hz := bs hB3; obtain ⟨x10, Ex10, hB3⟩ := hz
                have hz := (RV.els r47).ix Ex10; obtain ⟨b9, f3, cs7, e8, i7, i8, q12, hc5⟩ := hz
                cases e8
                obtain rfl := q12
                have hc6 := hc5.ext k13
                refine pv rfl rfl rfl (fun _ _ => xixs rfl l9_i2 Try.underlying22 ti2 i7 i8) (.inl rfl) <| pv rfl rfl rfl (fun _ hS => xld rfl ti2 ((hc6.ext (hS.resolve_left nofun)).at 0 rfl)) (.inr (Ext.refl _)) <| pv rfl rfl rfl (fun _ _ => xfa l4_i2 fa25_1) (.inl rfl) <| pv rfl rfl rfl (fun _ hS => xld rfl ti23 ((Bx.cs (hb12.ext (hS.resolve_left nofun))).at 1 rfl)) (.inr (Ext.refl _)) <| pv rfl rfl rfl (fun _ _ => xmv) (.inl rfl) <| ?_
                have hz := bs hB3; obtain ⟨x11, Ex11, hB3⟩ := hz
                have hz := ix2 r6 Ex11; obtain ⟨cs8, i9, i10, q13, hc7⟩ := hz
                obtain ⟨_, _, rfl, ⟨a8, cq8, rfl, p6, q14, e9⟩, ⟨a9, cq9, rfl, p7, q15, e10⟩⟩ := q13
                have r50 := RV.of1 p6 q14 e9
                have r51 := RV.of1 p7 q15 e10
                have hc8 := hc7.ext k13
                have r52 := r50.ext k13
                have r53 := r51.ext k13
                refine pv rfl rfl rfl (fun _ _ => xixs rfl l11_i2 Try.underlying23 ti57 i9 i10) (.inl rfl) <| pv rfl rfl rfl (fun _ _ => xfa rfl fa57_0) (.inl rfl) <| pv rfl rfl rfl (fun _ hS => xld rfl ti22 ((hc8.ext (hS.resolve_left nofun)).at 0 rfl)) (.inr (Ext.refl _)) <| pv rfl rfl rfl (fun _ _ => xmv) (.inl rfl) <| ?_
                have hz := bs hB3; obtain ⟨x12, Ex12, hB3⟩ := hz
                have hz := (RV.els r50).ix Ex12; obtain ⟨b10, f4, cs9, e11, i11, i12, q16, hc9⟩ := hz
                cases e11
                obtain rfl := q16
                have hc10 := hc9.ext k13
                refine pv rfl rfl rfl (fun _ _ => xixs rfl l9_i2 Try.underlying22 ti2 i11 i12) (.inl rfl) <| pv rfl rfl rfl (fun _ hS => xld rfl ti2 ((hc10.ext (hS.resolve_left nofun)).at 0 rfl)) (.inr (Ext.refl _)) <| pv rfl rfl rfl (fun _ _ => xsub rfl rfl) (.inl rfl) <| pv rfl rfl rfl (fun _ _ => xmul rfl rfl) (.inl rfl) <| pv rfl rfl rfl (fun _ _ => xadd l10_i2 rfl) (.inl rfl) <| pv rfl rfl rfl (fun _ _ => xas) (.inl rfl) <| rg <| vl rfl rfl xmv <| vl rfl rfl (xadd l11_i2 rfl) <| vl rfl rfl xas <| nl <| ?_
                refine lq m (Nat.lt_succ_self _) <| ?_
                exact ⟨_, _, hB3, rfl, rfl, l1_i2, l2_i2, l4_i2, l7_i2, l9_i2, k16⟩
              ·
                have hB3 := ifn hB3 h9
                refine wp_exit <| ?_
                cases hB3
                refine lf <| ?_
                exact ⟨l10_i2, l1_i2, l2_i2, l4_i2, l7_i2, l9_i2, K0_i2⟩
            rintro L w9 ⟨l10_j1, l1_j1, l2_j1, l4_j1, l7_j1, l9_j1, K0_j1⟩
            have k17 := k8.tr K0_j1
            have k18 := k9.tr K0_j1
            have k19 := K0_i1.tr K0_j1
            have r54 := r31.ext K0_j1
            have r55 := r32.ext K0_j1
            have r56 := r33.ext K0_j1
            have r57 := r34.ext K0_j1
            have hb14 := hb8.ext K0_j1
            have r58 := r35.ext K0_j1
            have hb15 := hb9.ext K0_j1
            refine wp_seq <| wpl [] (.pure true 0 (.pure true 1 (.pure false 2 (.pure true 3 (.pure true 4 (.pure true 5 (.pure false 6 (.pure true 7 (.pure true 8 (.pure true 9 (.pure false 10 (.pure true 11 (.pure true 12 (.pure true 13 .fin)))))))))))))) mixed (by kernel_rfl) (fun w10 hx7 => ?_)
            have k20 := k17.tr hx7
            have k21 := k18.tr hx7
            have k22 := k19.tr hx7
            have k23 := K0_j1.tr hx7
            have hb16 := hb14.ext hx7
            have r59 := r56.ext hx7
            have r60 := r57.ext hx7
            have hb17 := hb15.ext hx7
            have r61 := r58.ext hx7
            have r62 := r54.ext hx7
            have r63 := r55.ext hx7
            refine pv rfl rfl rfl (fun _ _ => xmv) (.inl rfl) <| pv rfl rfl rfl (fun _ _ => xfa l7_j1 fa62_1) (.inl rfl) <| pv rfl rfl rfl (fun _ hS => xld rfl ti2 ((Bx.cs (hb17.ext (hS.resolve_left nofun))).at 1 rfl)) (.inr (Ext.refl _)) <| pv rfl rfl rfl (fun _ _ => xmv) (.inl rfl) <| pv rfl rfl rfl (fun _ _ => xmv) (.inl rfl) <| ?_
            have hz := bs hB1; obtain ⟨x13, Ex13, hB1⟩ := hz
            have hz := (RV.els r2).ix Ex13; obtain ⟨b11, f5, cs10, e12, i13, i14, q17, hc11⟩ := hz
            cases e12
            obtain rfl := q17
            have hc12 := hc11.ext k20
            refine pv rfl rfl rfl (fun _ _ => xixs l2_j1 l9_j1 Try.underlying22 ti2 i13 i14) (.inl rfl) <| pv rfl rfl rfl (fun _ hS => xld rfl ti2 ((hc12.ext (hS.resolve_left nofun)).at 0 rfl)) (.inr (Ext.refl _)) <| pv rfl rfl rfl (fun _ _ => xmv) (.inl rfl) <| pv rfl rfl rfl (fun _ _ => xmv) (.inl rfl) <| ?_
            have hz := bs hB1; obtain ⟨x14, Ex14, hB1⟩ := hz
            have hz := (RV.els r1).ix Ex14; obtain ⟨b12, f6, cs11, e13, i15, i16, q18, hc13⟩ := hz
            cases e13
            obtain rfl := q18
            have hc14 := hc13.ext k20
            refine pv rfl rfl rfl (fun _ _ => xixs l1_j1 l9_j1 Try.underlying22 ti2 i15 i16) (.inl rfl) <| pv rfl rfl rfl (fun _ hS => xld rfl ti2 ((hc14.ext (hS.resolve_left nofun)).at 0 rfl)) (.inr (Ext.refl _)) <| pv rfl rfl rfl (fun _ _ => xsub rfl rfl) (.inl rfl) <| pv rfl rfl rfl (fun _ _ => xmul rfl rfl) (.inl rfl) <| pv rfl rfl rfl (fun _ _ => xneq l10_j1 rfl) (.inl rfl) <| cnd rfl (fun h10 => ?_) (fun h10 => ?_)
            ·
              have hB1 := ifp hB1 h10
              refine wp_seq <| rg <| vl rfl rfl xas <| nl <| ?_
              cases hB1
              have hF := (show some _ = some _ from hF); cases hF
              exact wp_ret <| rt rfl (.tmp rfl rfl .nil) ⟨rfl, k20⟩
            ·
              have hB1 := ifn hB1 h10
              refine wp_skip <| rg <| vl rfl rfl xmv <| vl rfl rfl (xadd l9_j1 rfl) <| vl rfl rfl xas <| nl <| ?_
              refine lq m (Nat.lt_succ_self _) <| ?_
              exact ⟨_, hB1, rfl, l1_j1, l2_j1, l4_j1, l7_j1, k22⟩
          ·
            have hB1 := ifn hB1 h8
            refine wp_exit <| ?_
            cases hB1
            refine lf <| ?_
            exact ⟨rfl, K0_i1⟩
        rintro L w11 ⟨rfl, K0_j2⟩
        have k24 := k6.tr K0_j2
        have k25 := k7.tr K0_j2
        refine wp_seq <| rg <| vl rfl rfl xas <| nl <| ?_
        cases hF
        exact wp_ret <| rt rfl (.tmp rfl rfl .nil) ⟨rfl, k24⟩

set_option maxHeartbeats 4000000 in
theorem c43 {w0 : World}  {r : ((List Int) × (List ((List Int) × (List Int))))} (hF : law11_Bath = some r) :
    Calls Try.prog 43 [].toArray w0 (Ret fun v w' => ∃ u0 : Value, v = u0 ∧ RV w' u0 r ∧ Ext w0 w') := by
  unfold law11_Bath at hF
  refine entr (n := 13) Try.func43 rfl rfl rfl <| wp_seq <| rg <| sal ti25 fun b1 w1 hx1 hg1 hb1 => ?_
  refine nl <| wp_seq <| rg <| sbsv (cs := [.int .i64 6, .int .i64 3, .int .i64 6]) Try.underlying22 ti2 rfl (pc rfl (pc rfl (pc rfl pn))) rfl rfl rfl rfl rfl fun b2 w2 hx2 hg2 hb2 => ?_
  have k1 := hx1.tr hx2
  have hb3 := hb1.ext hx2
  have o1 : Row (α := Int) 2 w1.heap.size w2 (.slice (some ⟨b2, 0, none⟩) 3 3) [6, 3, 6] := Row.lit hg2 hb2 rfl (ble rfl)
  refine sbsv (cs := [.int .i64 2, .int .i64 0, .int .i64 0]) Try.underlying22 ti2 rfl (pc rfl (pc rfl (pc rfl pn))) rfl rfl rfl rfl rfl fun b3 w3 hx3 hg3 hb4 => ?_
  have k2 := k1.tr hx3
  have k3 := hx2.tr hx3
  have hb5 := hb3.ext hx3
  have o2 := o1.ext hx3
  have o3 : Row (α := Int) 2 w2.heap.size w3 (.slice (some ⟨b3, 0, none⟩) 3 3) [2, 0, 0] := Row.lit hg3 hb4 rfl (ble rfl)
  refine sbsv (cs := [.int .i64 0, .int .i64 1, .int .i64 0]) Try.underlying22 ti2 rfl (pc rfl (pc rfl (pc rfl pn))) rfl rfl rfl rfl rfl fun b4 w4 hx4 hg4 hb6 => ?_
  have k4 := k2.tr hx4
  have k5 := k3.tr hx4
  have k6 := hx3.tr hx4
  have hb7 := hb5.ext hx4
  have o4 := o2.ext hx4
  have o5 := o3.ext hx4
  have o6 : Row (α := Int) 2 w3.heap.size w4 (.slice (some ⟨b4, 0, none⟩) 3 3) [0, 1, 0] := Row.lit hg4 hb6 rfl (ble rfl)
  refine vl rfl rfl (xbdv (r := [.slice (some ⟨b3, 0, none⟩) ([2, 0, 0] : List Int).length 3, .slice (some ⟨b4, 0, none⟩) ([0, 1, 0] : List Int).length 3]) ti57 sp57 (pc rfl (pc rfl pn)) rfl) <| sbsv (cs := [.int .i64 1, .int .i64 1, .int .i64 0]) Try.underlying22 ti2 rfl (pc rfl (pc rfl (pc rfl pn))) rfl rfl rfl rfl rfl fun b5 w5 hx5 hg5 hb8 => ?_
  have k7 := k4.tr hx5
  have k8 := k5.tr hx5
  have k9 := k6.tr hx5
  have k10 := hx4.tr hx5
  have hb9 := hb7.ext hx5
  have o7 := o4.ext hx5
  have o8 := o5.ext hx5
  have o9 := o6.ext hx5
  have o10 : Row (α := Int) 2 w4.heap.size w5 (.slice (some ⟨b5, 0, none⟩) 3 3) [1, 1, 0] := Row.lit hg5 hb8 rfl (ble rfl)
  refine sbsv (cs := [.int .i64 0, .int .i64 1, .int .i64 1]) Try.underlying22 ti2 rfl (pc rfl (pc rfl (pc rfl pn))) rfl rfl rfl rfl rfl fun b6 w6 hx6 hg6 hb10 => ?_
  have k11 := k7.tr hx6
  have k12 := k8.tr hx6
  have k13 := k9.tr hx6
  have k14 := k10.tr hx6
  have k15 := hx5.tr hx6
  have hb11 := hb9.ext hx6
  have o11 := o7.ext hx6
  have o12 := o8.ext hx6
  have o13 := o9.ext hx6
  have o14 := o10.ext hx6
  have o15 : Row (α := Int) 2 w5.heap.size w6 (.slice (some ⟨b6, 0, none⟩) 3 3) [0, 1, 1] := Row.lit hg6 hb10 rfl (ble rfl)
  refine vl rfl rfl (xbdv (r := [.slice (some ⟨b5, 0, none⟩) ([1, 1, 0] : List Int).length 3, .slice (some ⟨b6, 0, none⟩) ([0, 1, 1] : List Int).length 3]) ti57 sp57 (pc rfl (pc rfl pn)) rfl) <| sbsv (cs := [.int .i64 0, .int .i64 1, .int .i64 0]) Try.underlying22 ti2 rfl (pc rfl (pc rfl (pc rfl pn))) rfl rfl rfl rfl rfl fun b7 w7 hx7 hg7 hb12 => ?_
  have k16 := k11.tr hx7
  have k17 := k12.tr hx7
  have k18 := k13.tr hx7
  have k19 := k14.tr hx7
  have k20 := k15.tr hx7
  have k21 := hx6.tr hx7
  have hb13 := hb11.ext hx7
  have o16 := o11.ext hx7
  have o17 := o12.ext hx7
  have o18 := o13.ext hx7
  have o19 := o14.ext hx7
  have o20 := o15.ext hx7
  have o21 : Row (α := Int) 2 w6.heap.size w7 (.slice (some ⟨b7, 0, none⟩) 3 3) [0, 1, 0] := Row.lit hg7 hb12 rfl (ble rfl)
  refine sbsv (cs := [.int .i64 2, .int .i64 0, .int .i64 0]) Try.underlying22 ti2 rfl (pc rfl (pc rfl (pc rfl pn))) rfl rfl rfl rfl rfl fun b8 w8 hx8 hg8 hb14 => ?_
  have k22 := k16.tr hx8
  have k23 := k17.tr hx8
  have k24 := k18.tr hx8
  have k25 := k19.tr hx8
  have k26 := k20.tr hx8
  have k27 := k21.tr hx8
  have k28 := hx7.tr hx8
  have hb15 := hb13.ext hx8
  have o22 := o16.ext hx8
  have o23 := o17.ext hx8
  have o24 := o18.ext hx8
  have o25 := o19.ext hx8
  have o26 := o20.ext hx8
  have o27 := o21.ext hx8
  have o28 : Row (α := Int) 2 w7.heap.size w8 (.slice (some ⟨b8, 0, none⟩) 3 3) [2, 0, 0] := Row.lit hg8 hb14 rfl (ble rfl)
  refine vl rfl rfl (xbdv (r := [.slice (some ⟨b7, 0, none⟩) ([0, 1, 0] : List Int).length 3, .slice (some ⟨b8, 0, none⟩) ([2, 0, 0] : List Int).length 3]) ti57 sp57 (pc rfl (pc rfl pn)) rfl) <| sbsv (cs := [.slice (some ⟨b3, 0, none⟩) ([2, 0, 0] : List Int).length 3, .slice (some ⟨b4, 0, none⟩) ([0, 1, 0] : List Int).length 3, .slice (some ⟨b5, 0, none⟩) ([1, 1, 0] : List Int).length 3, .slice (some ⟨b6, 0, none⟩) ([0, 1, 1] : List Int).length 3, .slice (some ⟨b7, 0, none⟩) ([0, 1, 0] : List Int).length 3, .slice (some ⟨b8, 0, none⟩) ([2, 0, 0] : List Int).length 3]) Try.underlying23 ti57 rfl (pc rfl (pc rfl (pc rfl pn))) rfl rfl rfl rfl rfl fun b9 w9 hx9 hg9 hb16 => ?_
  have k29 := k22.tr hx9
  have k30 := k23.tr hx9
  have k31 := k24.tr hx9
  have k32 := k25.tr hx9
  have k33 := k26.tr hx9
  have k34 := k27.tr hx9
  have k35 := k28.tr hx9
  have k36 := hx8.tr hx9
  have hb17 := hb15.ext hx9
  have o29 := o22.ext hx9
  have o30 := o23.ext hx9
  have o31 := o24.ext hx9
  have o32 := o25.ext hx9
  have o33 := o26.ext hx9
  have o34 := o27.ext hx9
  have o35 := o28.ext hx9
  have r8 : RV w9 (.slice (some ⟨b9, 0, none⟩) 3 3) ([(([2, 0, 0] : List Int), ([0, 1, 0] : List Int)), (([1, 1, 0] : List Int), ([0, 1, 1] : List Int)), (([0, 1, 0] : List Int), ([2, 0, 0] : List Int))] : List ((List Int) × (List Int))) := RV.lit hb16 (css := [[.slice (some ⟨b3, 0, none⟩) ([2, 0, 0] : List Int).length 3] ++ [.slice (some ⟨b4, 0, none⟩) ([0, 1, 0] : List Int).length 3], [.slice (some ⟨b5, 0, none⟩) ([1, 1, 0] : List Int).length 3] ++ [.slice (some ⟨b6, 0, none⟩) ([0, 1, 1] : List Int).length 3], [.slice (some ⟨b7, 0, none⟩) ([0, 1, 0] : List Int).length 3] ++ [.slice (some ⟨b8, 0, none⟩) ([2, 0, 0] : List Int).length 3]]) rfl ⟨⟨[.slice (some ⟨b3, 0, none⟩) ([2, 0, 0] : List Int).length 3], [.slice (some ⟨b4, 0, none⟩) ([0, 1, 0] : List Int).length 3], rfl, o30.rv.rep1, o31.rv.rep1⟩, ⟨[.slice (some ⟨b5, 0, none⟩) ([1, 1, 0] : List Int).length 3], [.slice (some ⟨b6, 0, none⟩) ([0, 1, 1] : List Int).length 3], rfl, o32.rv.rep1, o33.rv.rep1⟩, ⟨[.slice (some ⟨b7, 0, none⟩) ([0, 1, 0] : List Int).length 3], [.slice (some ⟨b8, 0, none⟩) ([2, 0, 0] : List Int).length 3], rfl, o34.rv.rep1, o35.rv.rep1⟩, trivial⟩ rfl (ble rfl)
  refine vl rfl rfl (xbdv (r := [.slice (some ⟨b2, 0, none⟩) ([6, 3, 6] : List Int).length 3, .slice (some ⟨b9, 0, none⟩) ([(([2, 0, 0] : List Int), ([0, 1, 0] : List Int)), (([1, 1, 0] : List Int), ([0, 1, 1] : List Int)), (([0, 1, 0] : List Int), ([2, 0, 0] : List Int))] : List ((List Int) × (List Int))).length 3]) ti25 sp25 (pc rfl (pc rfl pn)) rfl) <| sst rfl rfl rfl ti25 hb17 rfl rfl (ble rfl) fun w10 hch1 hb18 => ?_
  have k37 := Ext.chg k29 hch1 (Nat.le_trans (Nat.le_refl _) hg1)
  have o36 := Row.chg o29 hch1 hb1.lt
  have hb19 := Bx.chg hb16 hch1 (Ne.symm (Nat.ne_of_lt (Nat.lt_of_lt_of_le hb15.lt hg9)))
  have o37 := Row.chg o30 hch1 (Nat.lt_of_lt_of_le hb1.lt hx2.size)
  have o38 := Row.chg o31 hch1 (Nat.lt_of_lt_of_le hb1.lt k3.size)
  have o39 := Row.chg o32 hch1 (Nat.lt_of_lt_of_le hb1.lt k5.size)
  have o40 := Row.chg o33 hch1 (Nat.lt_of_lt_of_le hb1.lt k8.size)
  have o41 := Row.chg o34 hch1 (Nat.lt_of_lt_of_le hb1.lt k12.size)
  have o42 := Row.chg o35 hch1 (Nat.lt_of_lt_of_le hb1.lt k17.size)
  have r9 : RV w10 (.slice (some ⟨b9, 0, none⟩) 3 3) ([(([2, 0, 0] : List Int), ([0, 1, 0] : List Int)), (([1, 1, 0] : List Int), ([0, 1, 1] : List Int)), (([0, 1, 0] : List Int), ([2, 0, 0] : List Int))] : List ((List Int) × (List Int))) := RV.lit hb19 (css := [[.slice (some ⟨b3, 0, none⟩) ([2, 0, 0] : List Int).length 3] ++ [.slice (some ⟨b4, 0, none⟩) ([0, 1, 0] : List Int).length 3], [.slice (some ⟨b5, 0, none⟩) ([1, 1, 0] : List Int).length 3] ++ [.slice (some ⟨b6, 0, none⟩) ([0, 1, 1] : List Int).length 3], [.slice (some ⟨b7, 0, none⟩) ([0, 1, 0] : List Int).length 3] ++ [.slice (some ⟨b8, 0, none⟩) ([2, 0, 0] : List Int).length 3]]) rfl ⟨⟨[.slice (some ⟨b3, 0, none⟩) ([2, 0, 0] : List Int).length 3], [.slice (some ⟨b4, 0, none⟩) ([0, 1, 0] : List Int).length 3], rfl, o37.rv.rep1, o38.rv.rep1⟩, ⟨[.slice (some ⟨b5, 0, none⟩) ([1, 1, 0] : List Int).length 3], [.slice (some ⟨b6, 0, none⟩) ([0, 1, 1] : List Int).length 3], rfl, o39.rv.rep1, o40.rv.rep1⟩, ⟨[.slice (some ⟨b7, 0, none⟩) ([0, 1, 0] : List Int).length 3], [.slice (some ⟨b8, 0, none⟩) ([2, 0, 0] : List Int).length 3], rfl, o41.rv.rep1, o42.rv.rep1⟩, trivial⟩ rfl (ble rfl)
  have hb20 : Bx w10 b1 25 [.slice (some ⟨b2, 0, none⟩) ([6, 3, 6] : List Int).length 3, .slice (some ⟨b9, 0, none⟩) ([(([2, 0, 0] : List Int), ([0, 1, 0] : List Int)), (([1, 1, 0] : List Int), ([0, 1, 1] : List Int)), (([0, 1, 0] : List Int), ([2, 0, 0] : List Int))] : List ((List Int) × (List Int))).length 3] := hb18
  refine nl <| ?_
  cases hF
  exact wp_ret <| rt rfl (.cell rfl rfl ti25 rfl (Bx.cs hb20) .nil) ⟨_, rfl, (show RV (α := ((List Int) × (List ((List Int) × (List Int))))) _ (.agg [.slice (some ⟨b2, 0, none⟩) ([6, 3, 6] : List Int).length 3, .slice (some ⟨b9, 0, none⟩) ([(([2, 0, 0] : List Int), ([0, 1, 0] : List Int)), (([1, 1, 0] : List Int), ([0, 1, 1] : List Int)), (([0, 1, 0] : List Int), ([2, 0, 0] : List Int))] : List ((List Int) × (List Int))).length 3].toArray) (([6, 3, 6] : List Int), ([(([2, 0, 0] : List Int), ([0, 1, 0] : List Int)), (([1, 1, 0] : List Int), ([0, 1, 1] : List Int)), (([0, 1, 0] : List Int), ([2, 0, 0] : List Int))] : List ((List Int) × (List Int)))) from ⟨_, rfl, ⟨[.slice (some ⟨b2, 0, none⟩) ([6, 3, 6] : List Int).length 3], [.slice (some ⟨b9, 0, none⟩) ([(([2, 0, 0] : List Int), ([0, 1, 0] : List Int)), (([1, 1, 0] : List Int), ([0, 1, 1] : List Int)), (([0, 1, 0] : List Int), ([2, 0, 0] : List Int))] : List ((List Int) × (List Int))).length 3], rfl, o36.rv.rep1, r9.rep1⟩⟩), k37⟩

set_option maxHeartbeats 4000000 in
theorem c44 {w0 : World} {v0 : Value} {x0 : (List Int)} (r0 : RV w0 v0 x0) {v1 : Value} {x1 : (List Int)} (r1 : RV w0 v1 x1) {F : Nat} {r : Bool} (hF : law11_ints F x0 x1 = some r) :
    Calls Try.prog 44 [v0, v1].toArray w0 (Ret fun v w' => v = .bool r ∧ Ext w0 w') := by
  unfold law11_ints at hF
  have hz := r0.sl; obtain ⟨a1, cq1, rfl, -, -, -⟩ := hz
  have hz := r1.sl; obtain ⟨a2, cq2, rfl, -, -, -⟩ := hz
  refine entr (n := 26) Try.func44 rfl rfl rfl <| wp_seq <| rg <| vl rfl rfl xas <| nl <| wp_seq <| wp_seq <| rg <| vl rfl rfl xmv <| vl rfl rfl (xlen rfl Try.underlying26) <| vl rfl rfl xmv <| vl rfl rfl (xlen rfl Try.underlying26) <| vl rfl rfl (xneq rfl rfl) <| nl <| cnd rfl (fun h3 => ?_) (fun h3 => ?_)
  ·
    have hF := ifp hF h3
    refine wp_seq <| rg <| vl rfl rfl xas <| nl <| ?_
    cases hF
    exact wp_ret <| rt rfl (.tmp rfl rfl .nil) ⟨rfl, (Ext.refl _)⟩
  ·
    have hF := ifn hF h3
    refine wp_skip <| wp_seq <| wp_seq <| rg <| vl rfl rfl xas <| nl <| ?_
    have hz := bs hF; obtain ⟨o1, hB1, hF⟩ := hz
    refine ct (fun L w => o1 = .inr () ∧ Ext w0 w) ?_ ?_
    ·
      refine wp_block <| lp (I := fun m L w => ∃ y1 : Int, law11_ints_l1 F x0 x1 m y1  = some o1 ∧ L 5 = .int .i64 y1 ∧ L 0 = .slice a1 x0.length cq1 ∧ L 1 = .slice a2 x1.length cq2 ∧ Ext w0 w) F ⟨_, hB1, rfl, rfl, rfl, (Ext.refl _)⟩ ?_
      rintro m L w1 ⟨y1, hB1, l5_i1, l0_i1, l1_i1, K0_i1⟩
      rcases m with _ | m
      · rw [law11_ints_l1] at hB1; cases hB1
      rw [law11_ints_l1] at hB1
      have r3 := r0.ext K0_i1
      have r4 := r1.ext K0_i1
      refine wp_seq <| wp_seq <| rg <| vl rfl rfl xmv <| vl rfl rfl xmv <| vl rfl rfl (xlen l0_i1 Try.underlying26) <| vl rfl rfl (xlss l5_i1 rfl) <| nl <| cnd rfl (fun h4 => ?_) (fun h4 => ?_)
      ·
        have hB1 := ifp hB1 h4
        refine wp_skip <| wp_seq <| wp_block <| wp_seq <| wpl [] (.pure true 0 (.pure true 1 (.pure true 2 (.pure false 3 (.pure true 4 (.pure true 5 (.pure true 6 (.pure false 7 (.pure true 8 .fin))))))))) mixed (by kernel_rfl) (fun w2 hx1 => ?_)
        have k1 := K0_i1.tr hx1
        have r5 := r3.ext hx1
        have r6 := r4.ext hx1
        refine pv rfl rfl rfl (fun _ _ => xmv) (.inl rfl) <| pv rfl rfl rfl (fun _ _ => xmv) (.inl rfl) <| ?_
        have hz := bs hB1; obtain ⟨x3, Ex3, hB1⟩ := hz
        have hz := (RV.els r0).ix Ex3; obtain ⟨b3, f1, cs3, e1, i2, i3, q3, hc1⟩ := hz
        cases e1
        obtain rfl := q3
        have hc2 := hc1.ext k1
        refine pv rfl rfl rfl (fun _ _ => xixs l0_i1 l5_i1 Try.underlying26 ti3 i2 i3) (.inl rfl) <| pv rfl rfl rfl (fun _ hS => xld rfl ti3 ((hc2.ext (hS.resolve_left nofun)).at 0 rfl)) (.inr (Ext.refl _)) <| pv rfl rfl rfl (fun _ _ => xmv) (.inl rfl) <| pv rfl rfl rfl (fun _ _ => xmv) (.inl rfl) <| ?_
        have hz := bs hB1; obtain ⟨x4, Ex4, hB1⟩ := hz
        have hz := (RV.els r1).ix Ex4; obtain ⟨b4, f2, cs4, e2, i4, i5, q4, hc3⟩ := hz
        cases e2
        obtain rfl := q4
        have hc4 := hc3.ext k1
        refine pv rfl rfl rfl (fun _ _ => xixs l1_i1 l5_i1 Try.underlying26 ti3 i4 i5) (.inl rfl) <| pv rfl rfl rfl (fun _ hS => xld rfl ti3 ((hc4.ext (hS.resolve_left nofun)).at 0 rfl)) (.inr (Ext.refl _)) <| pv rfl rfl rfl (fun _ _ => xneq rfl rfl) (.inl rfl) <| cnd rfl (fun h5 => ?_) (fun h5 => ?_)
        ·
          have hB1 := ifp hB1 h5
          refine wp_seq <| rg <| vl rfl rfl xas <| nl <| ?_
          cases hB1
          have hF := (show some _ = some _ from hF); cases hF
          exact wp_ret <| rt rfl (.tmp rfl rfl .nil) ⟨rfl, k1⟩
        ·
          have hB1 := ifn hB1 h5
          refine wp_skip <| rg <| vl rfl rfl xmv <| vl rfl rfl (xadd l5_i1 rfl) <| vl rfl rfl xas <| nl <| ?_
          refine lq m (Nat.lt_succ_self _) <| ?_
          exact ⟨_, hB1, rfl, l0_i1, l1_i1, k1⟩
      ·
        have hB1 := ifn hB1 h4
        refine wp_exit <| ?_
        cases hB1
        refine lf <| ?_
        exact ⟨rfl, K0_i1⟩
    rintro L w3 ⟨rfl, K0_j1⟩
    refine wp_seq <| rg <| vl rfl rfl xas <| nl <| ?_
    cases hF
    exact wp_ret <| rt rfl (.tmp rfl rfl .nil) ⟨rfl, K0_j1⟩

set_option maxHeartbeats 4000000 in
theorem c63 {w0 : World} {b0 : Nat} {cs0 : List Value} {x0 : (((List Int) × (List ((List Int) × (List Int)))) × Opq)} (h0 : Cs w0 b0 0 cs0) (q0 : Enc.rep (fun _ => True) w0 cs0 x0) {v1 : Value} {x1 : (Ar 5 Int)} (r1 : RV w0 v1 x1) {F : Nat} {r : Bool} (hF : bath_shop_still F x0 x1 = some r) :
    Calls Try.prog 63 [.pointer (some ⟨b0, 0, none⟩), v1].toArray w0 (Ret fun v w' => v = .bool r ∧ Ext w0 w') := by
  unfold bath_shop_still at hF
  obtain ⟨_, _, rfl, ⟨_, _, rfl, ⟨a1, cq1, rfl, p1, q3, e1⟩, ⟨a2, cq2, rfl, p2, q4, e2⟩⟩, ⟨a3, rfl, q5⟩⟩ := q0
  have r3 := RV.of1 p1 q3 e1
  have r4 := RV.of1 p2 q4 e2
  have hz := id r1; obtain ⟨_, rfl, rfl⟩ := hz
  refine entr (n := 26) Try.func63 rfl rfl rfl <| wp_seq <| rg <| sbx rfl rfl fun b3 w1 hx1 hg1 hb1 => ?_
  have r5 := r3.ext hx1
  have r6 := r4.ext hx1
  have h3 := h0.ext hx1
  have r7 := r1.ext hx1
  refine vl rfl rfl xas <| nl <| wp_seq <| wp_seq <| rg <| vl rfl rfl xmv <| vl rfl rfl (xnil rfl) <| vl rfl rfl (xfa rfl fa105_0) <| vl rfl rfl (xfa rfl fa25_1) <| vl rfl rfl (xld rfl ti23 (h3.at 1 rfl)) <| vl rfl rfl (xlen rfl Try.underlying23) <| vl rfl rfl xmv <| nl <| ?_
  have hz := bs hF; obtain ⟨o1, hB1, hF⟩ := hz
  refine ct (fun L w => o1 = .inr () ∧ Ext w1 w) ?_ ?_
  ·
    refine wp_block <| lp (I := fun m L w => ∃ y1 : Int, bath_shop_still_l1 F x0 x1 m y1  = some o1 ∧ L 14 = .int .i64 y1 ∧ L 0 = .pointer (some ⟨b0, 0, none⟩) ∧ L 3 = .pointer (some ⟨b3, 0, none⟩) ∧ L 13 = .int .i64 (x0.1.2.length : Int) ∧ Ext w1 w) F ⟨_, hB1, rfl, rfl, rfl, rfl, (Ext.refl _)⟩ ?_
    rintro m L w2 ⟨y1, hB1, l14_i1, l0_i1, l3_i1, l13_i1, K0_i1⟩
    rcases m with _ | m
    · rw [bath_shop_still_l1] at hB1; cases hB1
    rw [bath_shop_still_l1] at hB1
    have k1 := hx1.tr K0_i1
    have r8 := r5.ext K0_i1
    have r9 := r6.ext K0_i1
    have h4 := h3.ext K0_i1
    have hb2 := hb1.ext K0_i1
    refine wp_seq <| rg <| vl rfl rfl (xlss l14_i1 l13_i1) <| nl <| wp_seq <| cnd rfl (fun h5 => ?_) (fun h5 => ?_)
    ·
      have hB1 := ifp hB1 h5
      refine wp_skip <| wp_seq <| wp_block <| wp_seq <| rg <| vl rfl rfl xmv <| vl rfl rfl xas <| nl <| wp_seq <| rg <| vl rfl rfl xmv <| vl rfl rfl (xlda l3_i1 ti79 (arlen _) (Bx.cs hb2)) <| vl rfl rfl xmv <| ?_
      have hz := bs hB1; obtain ⟨x3, Ex3, hB1⟩ := hz
      refine cl rfl rfl (xc cb48 (mc l0_i1 (mc rfl (mc l14_i1 mn)))) (c48 (x0 := ((x0.1.1, x0.1.2), Opq.mk)) h4 ⟨[.slice a1 x0.1.1.length cq1] ++ [.slice a2 x0.1.2.length cq2], [a3], rfl, ⟨[.slice a1 x0.1.1.length cq1], [.slice a2 x0.1.2.length cq2], rfl, r8.rep1, r9.rep1⟩, ⟨_, rfl, q5⟩⟩ (show RV (α := (Ar 5 Int)) _ (.agg (List.flatMap Flat.enc x1.l).toArray) x1 from ⟨_, rfl, rfl⟩) Ex3) ?_
      rintro _ w3 ⟨u1, rfl, r10, hx2⟩
      have k2 := k1.tr hx2
      have k3 := K0_i1.tr hx2
      have hb3 := hb2.ext hx2
      have r11 := r8.ext hx2
      have r12 := r9.ext hx2
      have h6 := h4.ext hx2
      have hz := id r10; obtain ⟨_, rfl, rfl⟩ := hz
      refine vl rfl rfl xmv <| vl rfl rfl (xext rfl rfl) <| vl rfl rfl (xext rfl rfl) <| sal ti79 fun b4 w4 hx3 hg2 hb4 => ?_
      have k4 := k2.tr hx3
      have k5 := k3.tr hx3
      have hb5 := hb3.ext hx3
      have r13 := r11.ext hx3
      have r14 := r12.ext hx3
      have h7 := h6.ext hx3
      have r15 := r10.ext hx3
      have hb6 : Bx w4 b4 79 (List.flatMap Flat.enc ((Ar.fill 5 0 : (Ar 5 Int))).l) := hb4
      refine sstw rfl rfl ti79 hb6 (arlen _) (arlen _) (flat_one _) fun w5 hch1 hb7 => ?_
      have k6 := Ext.chg k4 hch1 (Nat.le_trans k2.size hg2)
      have k7 := Ext.chg k5 hch1 (Nat.le_trans k3.size hg2)
      have k8 := Ext.chg hx3 hch1 (Nat.le_trans (Nat.le_refl _) hg2)
      have hb8 := hb3.ext k8
      have r16 := r11.ext k8
      have r17 := r12.ext k8
      have h8 := h6.ext k8
      have hb9 : Bx w5 b4 79 (List.flatMap Flat.enc x3.1.l) := hb7
      refine vl rfl rfl xas <| nl <| wp_seq <| rg <| vl rfl rfl xmv <| nl <| cnd rfl (fun h9 => ?_) (fun h9 => ?_)
      ·
        have hB1 := ifp hB1 h9
        refine wp_seq <| rg <| vl rfl rfl xas <| nl <| ?_
        cases hB1
        have hF := (show some _ = some _ from hF); cases hF
        exact wp_ret <| rt rfl (.tmp rfl rfl .nil) ⟨rfl, k6⟩
      ·
        have hB1 := ifn hB1 h9
        refine wp_skip <| rg <| vl rfl rfl (xadd l14_i1 rfl) <| vl rfl rfl xmv <| nl <| ?_
        refine lq m (Nat.lt_succ_self _) <| ?_
        exact ⟨_, hB1, rfl, l0_i1, l3_i1, l13_i1, k7⟩
    ·
      have hB1 := ifn hB1 h5
      refine wp_exit <| ?_
      cases hB1
      refine lf <| ?_
      exact ⟨rfl, K0_i1⟩
  rintro L w6 ⟨rfl, K0_j1⟩
  have k9 := hx1.tr K0_j1
  refine wp_seq <| rg <| vl rfl rfl xas <| nl <| ?_
  cases hF
  exact wp_ret <| rt rfl (.tmp rfl rfl .nil) ⟨rfl, k9⟩

set_option maxHeartbeats 4000000 in
theorem c79 {w0 : World} {x0 : Int} {x1 : Int} {F : Nat} {r : Int} (hF : ref11_common F x0 x1 = some r) :
    Calls Try.prog 79 [.int .i64 x0, .int .i64 x1].toArray w0 (Ret fun v w' => v = .int .i64 r ∧ Ext w0 w') := by
  unfold ref11_common at hF
  refine entr (n := 20) Try.func79 rfl rfl rfl <| wp_seq <| rg <| vl rfl rfl xas <| nl <| wp_seq <| wp_seq <| rg <| vl rfl rfl xmv <| vl rfl rfl (xlss rfl rfl) <| nl <| ?_
  have hz := bs hF; obtain ⟨y1, hB1, hF⟩ := hz
  refine ct (fun L w => L 0 = .int .i64 y1 ∧ L 1 = .int .i64 x1 ∧ Ext w0 w) ?_ ?_
  ·
    refine cnd rfl (fun h3 => ?_) (fun h3 => ?_)
    ·
      have hB1 := ifp hB1 h3
      refine rg <| vl rfl rfl xmv <| vl rfl rfl (xneg rfl) <| vl rfl rfl xas <| nl <| ?_
      cases hB1
      refine lf <| ?_
      exact ⟨rfl, rfl, (Ext.refl _)⟩
    ·
      have hB1 := ifn hB1 h3
      refine wp_skip <| ?_
      cases hB1
      refine lf <| ?_
      exact ⟨rfl, rfl, (Ext.refl _)⟩
  rintro L w1 ⟨l0_j1, l1_j1, K0_j1⟩
  refine wp_seq <| wp_seq <| rg <| vl rfl rfl xmv <| vl rfl rfl (xlss l1_j1 rfl) <| nl <| ?_
  have hz := bs hF; obtain ⟨y2, hB4, hF⟩ := hz
  refine ct (fun L w => L 1 = .int .i64 y2 ∧ L 0 = .int .i64 y1 ∧ Ext w1 w) ?_ ?_
  ·
    refine cnd rfl (fun h4 => ?_) (fun h4 => ?_)
    ·
      have hB4 := ifp hB4 h4
      refine rg <| vl rfl rfl xmv <| vl rfl rfl (xneg l1_j1) <| vl rfl rfl xas <| nl <| ?_
      cases hB4
      refine lf <| ?_
      exact ⟨rfl, l0_j1, (Ext.refl _)⟩
    ·
      have hB4 := ifn hB4 h4
      refine wp_skip <| ?_
      cases hB4
      refine lf <| ?_
      exact ⟨l1_j1, l0_j1, (Ext.refl _)⟩
  rintro L w2 ⟨l1_j2, l0_j2, K0_j2⟩
  have k1 := K0_j1.tr K0_j2
  refine wp_seq <| ?_
  have hz := bs hF; obtain ⟨z1, hB7, hF⟩ := hz
  refine ct (fun L w => L 0 = .int .i64 z1 ∧ Ext w2 w) ?_ ?_
  ·
    refine wp_block <| lp (I := fun m L w => ∃ y3 : Int, ∃ y4 : Int, ref11_common_l1 F m y3 y4  = some z1 ∧ L 0 = .int .i64 y3 ∧ L 1 = .int .i64 y4 ∧ Ext w2 w) F ⟨_, _, hB7, l0_j2, l1_j2, (Ext.refl _)⟩ ?_
    rintro m L w3 ⟨y3, y4, hB7, l0_i1, l1_i1, K0_i1⟩
    rcases m with _ | m
    · rw [ref11_common_l1] at hB7; cases hB7
    rw [ref11_common_l1] at hB7
    have k2 := k1.tr K0_i1
    have k3 := K0_j2.tr K0_i1
    refine wp_seq <| wp_seq <| rg <| vl rfl rfl xmv <| vl rfl rfl (xneq l1_i1 rfl) <| nl <| cnd rfl (fun h5 => ?_) (fun h5 => ?_)
    ·
      have hB7 := ifp hB7 h5
      refine wp_skip <| wp_block <| wpl [] (.pure true 0 (.pure true 1 (.pure true 2 (.pure true 3 (.pure true 4 (.pure true 5 .fin)))))) mixed (by kernel_rfl) (fun w4 hx1 => ?_)
      have k4 := k2.tr hx1
      have k5 := k3.tr hx1
      have k6 := K0_i1.tr hx1
      refine pv rfl rfl rfl (fun _ _ => xmv) (.inl rfl) <| pv rfl rfl rfl (fun _ _ => xmv) (.inl rfl) <| pv rfl rfl rfl (fun _ _ => xmv) (.inl rfl) <| ?_
      have hz := bs hB7; obtain ⟨x3, Ex3, hB7⟩ := hz
      refine pv rfl rfl rfl (fun _ _ => xremv l0_i1 l1_i1 Ex3) (.inl rfl) <| pv rfl rfl rfl (fun _ _ => xas) (.inl rfl) <| pv rfl rfl rfl (fun _ _ => xas) (.inl rfl) <| ?_
      refine lq m (Nat.lt_succ_self _) <| ?_
      exact ⟨_, _, hB7, l1_i1, rfl, k6⟩
    ·
      have hB7 := ifn hB7 h5
      refine wp_exit <| ?_
      cases hB7
      refine lf <| ?_
      exact ⟨l0_i1, K0_i1⟩
  rintro L w5 ⟨l0_j3, K0_j3⟩
  have k7 := k1.tr K0_j3
  have k8 := K0_j2.tr K0_j3
  refine wp_seq <| rg <| vl rfl rfl xmv <| vl rfl rfl xas <| nl <| ?_
  cases hF
  exact wp_ret <| rt rfl (.tmp l0_j3 rfl .nil) ⟨rfl, k7⟩

set_option maxHeartbeats 4000000 in
theorem c69 {w0 : World} {v0 : Value} {x0 : (List (List Int))} (r0 : RV w0 v0 x0) {F : Nat} {r : Int} (hF : ref11_rank F x0 = some r) :
    Calls Try.prog 69 [v0].toArray w0 (Ret fun v w' => v = .int .i64 r ∧ Ext w0 w') := by
  unfold ref11_rank at hF
  have hz := r0.sl; obtain ⟨a1, cq1, rfl, -, -, -⟩ := hz
  refine entr (n := 111) Try.func69 rfl rfl rfl <| wp_seq <| rg <| vl rfl rfl xas <| nl <| wp_seq <| rg <| vl rfl rfl xas <| nl <| wp_seq <| ?_
  have hz := bs hF; obtain ⟨z1, hB1, hF⟩ := hz
  refine ct (fun L w => L 3 = .int .i64 z1 ∧ Ext w0 w) ?_ ?_
  ·
    refine wp_block <| lp (I := fun m L w => ∃ y1 : (List (List Int)), ∃ y2 : Int, ∃ v2 : Value, ref11_rank_l1 F m y1 y2  = some z1 ∧ L 0 = v2 ∧ RV w v2 y1 ∧ L 3 = .int .i64 y2 ∧ Ext w0 w) F ⟨_, _, _, hB1, rfl, r0, rfl, (Ext.refl _)⟩ ?_
    rintro m L w1 ⟨y1, y2, v2, hB1, l0_i1, R0_i1, l3_i1, K0_i1⟩
    rcases m with _ | m
    · rw [ref11_rank_l1] at hB1; cases hB1
    rw [ref11_rank_l1] at hB1
    have hz := RV.sl R0_i1; obtain ⟨a2, cq2, rfl, -, -, -⟩ := hz
    refine wp_seq <| wp_seq <| rg <| vl rfl rfl xmv <| vl rfl rfl (xlen l0_i1 Try.underlying101) <| vl rfl rfl (xgtr rfl rfl) <| nl <| cnd rfl (fun h2 => ?_) (fun h2 => ?_)
    ·
      have hB1 := ifp hB1 h2
      refine wp_skip <| ?_
      have hz := bs hB1; obtain ⟨⟨y3, y4⟩, hB3, hB1⟩ := hz
      refine ct (fun L w => ∃ v3 : Value, L 0 = v3 ∧ RV w v3 y3 ∧ L 3 = .int .i64 y4 ∧ Ext w1 w) ?_ ?_
      ·
        refine wp_block <| wp_seq <| rg <| vl rfl rfl xmv <| ?_
        have hz := bs hB3; obtain ⟨x2, Ex2, hB3⟩ := hz
        have hz := (RV.els R0_i1).ix Ex2; obtain ⟨b2, f1, cs2, e1, i2, i3, q2, hc1⟩ := hz
        cases e1
        obtain ⟨a3, cq3, rfl, p1, q3, e2⟩ := q2
        have r2 := RV.of1 p1 q3 e2
        refine vl rfl rfl (xixs l0_i1 rfl Try.underlying101 ti22 i2 i3) <| vl rfl rfl (xld rfl ti22 (hc1.at 0 rfl)) <| vl rfl rfl xas <| nl <| wp_seq <| rg <| vl rfl rfl xmv <| ?_
        have hz := bs hB3; obtain ⟨x3, Ex3, hB3⟩ := hz
        have hz := slo R0_i1 Ex3 Try.underlying101 ti22; obtain ⟨a4, cq4, r3, hr1⟩ := hz
        refine vl rfl rfl (hr1 _ _ _ _ _ _ _ _ _ _ l0_i1 rfl) <| vl rfl rfl xas <| nl <| wp_seq <| rg <| vl rfl rfl xas <| nl <| wp_seq <| wp_seq <| rg <| vl rfl rfl xas <| nl <| ?_
        have hz := bs hB3; obtain ⟨z2, hB4, hB3⟩ := hz
        refine ct (fun L w => L 6 = .int .i64 z2 ∧ L 3 = .int .i64 y2 ∧ L 4 = .slice a3 x2.length cq3 ∧ L 5 = .slice a4 x3.length cq4 ∧ Ext w1 w) ?_ ?_
        ·
          refine wp_block <| lp (I := fun m L w => ∃ y5 : Int, ∃ y6 : Int, ref11_rank_l2 F x2 m y5 y6  = some z2 ∧ L 6 = .int .i64 y5 ∧ L 7 = .int .i64 y6 ∧ L 3 = .int .i64 y2 ∧ L 4 = .slice a3 x2.length cq3 ∧ L 5 = .slice a4 x3.length cq4 ∧ Ext w1 w) F ⟨_, _, hB4, rfl, rfl, l3_i1, rfl, rfl, (Ext.refl _)⟩ ?_
          rintro m L w2 ⟨y5, y6, hB4, l6_i4, l7_i4, l3_i4, l4_i4, l5_i4, K0_i4⟩
          rcases m with _ | m
          · rw [ref11_rank_l2] at hB4; cases hB4
          rw [ref11_rank_l2] at hB4
          have k1 := K0_i1.tr K0_i4
          have r4 := r2.ext K0_i4
          have r5 := r3.ext K0_i4
          refine wp_seq <| wp_seq <| rg <| vl rfl rfl xmv <| vl rfl rfl xmv <| vl rfl rfl (xlen l4_i4 Try.underlying22) <| vl rfl rfl (xlss l7_i4 rfl) <| nl <| cnd rfl (fun h3 => ?_) (fun h3 => ?_)
          ·
            have hB4 := ifp hB4 h3
            refine wp_skip <| wp_seq <| ?_
            have hz := bs hB4; obtain ⟨y7, hB6, hB4⟩ := hz
            refine ct (fun L w => L 6 = .int .i64 y7 ∧ L 3 = .int .i64 y2 ∧ L 4 = .slice a3 x2.length cq3 ∧ L 5 = .slice a4 x3.length cq4 ∧ L 7 = .int .i64 y6 ∧ Ext w2 w) ?_ ?_
            ·
              refine wp_block <| wp_seq <| ?_
              have hz := bs hB6; obtain ⟨y8, hB7, hB6⟩ := hz
              refine ct (fun L w => L 37 = .bool y8 ∧ L 3 = .int .i64 y2 ∧ L 4 = .slice a3 x2.length cq3 ∧ L 5 = .slice a4 x3.length cq4 ∧ L 6 = .int .i64 y5 ∧ L 7 = .int .i64 y6 ∧ Ext w2 w) ?_ ?_
              ·
                refine rg <| vl rfl rfl xmv <| vl rfl rfl (xlss l6_i4 rfl) <| vl rfl rfl xmv <| ?_
                refine Or.elim (Bool.eq_false_or_eq_true (decide (y5 < 0))) (fun h4 => ?_) (fun h4 => ?_)
                ·
                  have hB7 := ifp hB7 h4
                  refine gtk rfl rfl rfl rfl rfl (bt h4) <| vl rfl rfl xmv <| gtk rfl rfl rfl rfl rfl (bt h4) <| vl rfl rfl xmv <| ?_
                  have hz := bs hB7; obtain ⟨x4, Ex4, hB7⟩ := hz
                  have hz := (RV.els r2).ix Ex4; obtain ⟨b3, f2, cs3, e3, i5, i6, q4, hc2⟩ := hz
                  cases e3
                  obtain rfl := q4
                  have hc3 := hc2.ext K0_i4
                  refine gtk rfl rfl rfl rfl rfl (bt h4) <| vl rfl rfl (xixs l4_i4 l7_i4 Try.underlying22 ti2 i5 i6) <| gtk rfl rfl rfl rfl rfl (bt h4) <| vl rfl rfl (xld rfl ti2 (hc3.at 0 rfl)) <| gtk rfl rfl rfl rfl rfl (bt h4) <| vl rfl rfl (xneq rfl rfl) <| vl rfl rfl (xpt rfl h4 rfl) <| nl <| ?_
                  cases hB7
                  refine lf <| ?_
                  exact ⟨rfl, l3_i4, l4_i4, l5_i4, l6_i4, l7_i4, (Ext.refl _)⟩
                ·
                  have hB7 := ifn hB7 h4
                  refine gfk rfl rfl rfl rfl rfl (bft h4) rfl <| gfk rfl rfl rfl rfl rfl (bft h4) rfl <| gfk rfl rfl rfl rfl rfl (bft h4) rfl <| gfk rfl rfl rfl rfl rfl (bft h4) rfl <| gfk rfl rfl rfl rfl rfl (bft h4) rfl <| vl rfl rfl (xpf rfl h4 rfl) <| nl <| ?_
                  cases hB7
                  refine lf <| ?_
                  exact ⟨rfl, l3_i4, l4_i4, l5_i4, l6_i4, l7_i4, (Ext.refl _)⟩
              rintro L w3 ⟨l37_j1, l3_j1, l4_j1, l5_j1, l6_j1, l7_j1, K0_j1⟩
              have k2 := k1.tr K0_j1
              have k3 := K0_i4.tr K0_j1
              have r6 := r4.ext K0_j1
              have r7 := r5.ext K0_j1
              have hz := bs hB6; obtain ⟨y9, hB8, hB6⟩ := hz
              refine ct (fun L w => L 6 = .int .i64 y9 ∧ L 3 = .int .i64 y2 ∧ L 4 = .slice a3 x2.length cq3 ∧ L 5 = .slice a4 x3.length cq4 ∧ L 7 = .int .i64 y6 ∧ Ext w3 w) ?_ ?_
              ·
                refine cnd l37_j1 (fun h5 => ?_) (fun h5 => ?_)
                ·
                  have hB8 := ifp hB8 h5
                  refine rg <| vl rfl rfl xmv <| vl rfl rfl xas <| nl <| ?_
                  cases hB8
                  refine lf <| ?_
                  exact ⟨l7_j1, l3_j1, l4_j1, l5_j1, l7_j1, (Ext.refl _)⟩
                ·
                  have hB8 := ifn hB8 h5
                  refine wp_skip <| ?_
                  cases hB8
                  refine lf <| ?_
                  exact ⟨l6_j1, l3_j1, l4_j1, l5_j1, l7_j1, (Ext.refl _)⟩
              rintro L w4 ⟨l6_j2, l3_j2, l4_j2, l5_j2, l7_j2, K0_j2⟩
              have k4 := k2.tr K0_j2
              have k5 := k3.tr K0_j2
              have k6 := K0_j1.tr K0_j2
              have r8 := r6.ext K0_j2
              have r9 := r7.ext K0_j2
              cases hB6
              refine lf <| ?_
              exact ⟨l6_j2, l3_j2, l4_j2, l5_j2, l7_j2, k6⟩
            rintro L w5 ⟨l6_j3, l3_j3, l4_j3, l5_j3, l7_j3, K0_j3⟩
            have k7 := k1.tr K0_j3
            have k8 := K0_i4.tr K0_j3
            have r10 := r4.ext K0_j3
            have r11 := r5.ext K0_j3
            refine rg <| vl rfl rfl xmv <| vl rfl rfl (xadd l7_j3 rfl) <| vl rfl rfl xas <| nl <| ?_
            refine lq m (Nat.lt_succ_self _) <| ?_
            exact ⟨_, _, hB4, l6_j3, rfl, l3_j3, l4_j3, l5_j3, k8⟩
          ·
            have hB4 := ifn hB4 h3
            refine wp_exit <| ?_
            cases hB4
            refine lf <| ?_
            exact ⟨l6_i4, l3_i4, l4_i4, l5_i4, K0_i4⟩
        rintro L w6 ⟨l6_j4, l3_j4, l4_j4, l5_j4, K0_j4⟩
        have k9 := K0_i1.tr K0_j4
        have r12 := r2.ext K0_j4
        have r13 := r3.ext K0_j4
        refine wp_seq <| wp_seq <| rg <| vl rfl rfl xmv <| vl rfl rfl (xlss l6_j4 rfl) <| nl <| cnd rfl (fun h6 => ?_) (fun h6 => ?_)
        ·
          have hB3 := ifp hB3 h6
          refine wp_seq <| rg <| vl rfl rfl xmv <| vl rfl rfl xas <| nl <| wp_exit <| ?_
          cases hB3
          refine lf <| ?_
          exact ⟨_, l5_j4, r13, l3_j4, K0_j4⟩
        ·
          have hB3 := ifn hB3 h6
          refine wp_skip <| wp_seq <| rg <| vl rfl rfl xmv <| vl rfl rfl (xadd l3_j4 rfl) <| vl rfl rfl xas <| nl <| wp_seq <| rg <| vl rfl rfl xas <| nl <| wp_seq <| wp_seq <| rg <| vl rfl rfl xas <| nl <| ?_
          have o3 : DRow (α := (List Int)) w0.heap.size 22 w6.heap.size w6 (.slice none 0 0) [] := DRow.nil
          have hz := bs hB3; obtain ⟨z3, hB14, hB3⟩ := hz
          refine ct (fun L w => ∃ v5 : Value, L 8 = v5 ∧ DRow w0.heap.size 22 w6.heap.size w v5 z3 ∧ L 3 = .int .i64 (w64 (y2 + 1)) ∧ Ext w6 w) ?_ ?_
          ·
            refine wp_block <| lp (I := fun m L w => ∃ y10 : (List (List Int)), ∃ y11 : Int, ∃ v4 : Value, ref11_rank_l3 F x2 x3 z2 m y10 y11  = some z3 ∧ L 8 = v4 ∧ DRow w0.heap.size 22 w6.heap.size w v4 y10 ∧ L 9 = .int .i64 y11 ∧ L 3 = .int .i64 (w64 (y2 + 1)) ∧ L 4 = .slice a3 x2.length cq3 ∧ L 5 = .slice a4 x3.length cq4 ∧ L 6 = .int .i64 z2 ∧ Ext w6 w) F ⟨_, _, _, hB14, rfl, o3, rfl, rfl, l4_j4, l5_j4, l6_j4, (Ext.refl _)⟩ ?_
            rintro m L w7 ⟨y10, y11, v4, hB14, l8_i7, O8_i7, l9_i7, l3_i7, l4_i7, l5_i7, l6_i7, K0_i7⟩
            rcases m with _ | m
            · rw [ref11_rank_l3] at hB14; cases hB14
            rw [ref11_rank_l3] at hB14
            have k10 := k9.tr K0_i7
            have k11 := K0_j4.tr K0_i7
            have r14 := r12.ext K0_i7
            have r15 := r13.ext K0_i7
            have hz := RV.sl O8_i7.rv; obtain ⟨a5, cq5, rfl, -, -, -⟩ := hz
            refine wp_seq <| wp_seq <| rg <| vl rfl rfl xmv <| vl rfl rfl xmv <| vl rfl rfl (xlen l5_i7 Try.underlying101) <| vl rfl rfl (xlss l9_i7 rfl) <| nl <| cnd rfl (fun h7 => ?_) (fun h7 => ?_)
            ·
              have hB14 := ifp hB14 h7
              refine wp_skip <| wp_seq <| wp_block <| wp_seq <| rg <| vl rfl rfl xas <| nl <| wp_seq <| rg <| vl rfl rfl xas <| nl <| wp_seq <| wp_seq <| rg <| vl rfl rfl xas <| nl <| ?_
              have o5 : Row (α := Int) 2 w7.heap.size w7 (.slice none 0 0) [] := Row.nil
              have hz := bs hB14; obtain ⟨⟨z4, z5⟩, hB16, hB14⟩ := hz
              refine ct (fun L w => ∃ v7 : Value, L 10 = v7 ∧ Row 2 w7.heap.size w v7 z4 ∧ L 11 = .int .i64 z5 ∧ Apart (v7) (.slice a5 y10.length cq5) ∧ L 3 = .int .i64 (w64 (y2 + 1)) ∧ L 4 = .slice a3 x2.length cq3 ∧ L 5 = .slice a4 x3.length cq4 ∧ L 6 = .int .i64 z2 ∧ L 8 = .slice a5 y10.length cq5 ∧ L 9 = .int .i64 y11 ∧ w6.heap.size ≤ w.heap.size ∧ Ext w7 w) ?_ ?_
              ·
                refine wp_block <| lp (I := fun m L w => ∃ y12 : (List Int), ∃ y13 : Int, ∃ y14 : Int, ∃ v6 : Value, ref11_rank_l4 F x2 x3 y11 z2 m y12 y13 y14  = some (z4, z5) ∧ L 10 = v6 ∧ Row 2 w7.heap.size w v6 y12 ∧ L 11 = .int .i64 y13 ∧ L 12 = .int .i64 y14 ∧ Apart (v6) (.slice a5 y10.length cq5) ∧ L 3 = .int .i64 (w64 (y2 + 1)) ∧ L 4 = .slice a3 x2.length cq3 ∧ L 5 = .slice a4 x3.length cq4 ∧ L 6 = .int .i64 z2 ∧ L 8 = .slice a5 y10.length cq5 ∧ L 9 = .int .i64 y11 ∧ w6.heap.size ≤ w.heap.size ∧ Ext w7 w) F ⟨_, _, _, _, hB16, rfl, o5, rfl, rfl, (Apart.symm (Apart.old' O8_i7.own_lt (fun q e => (o5.lt q e).1))), l3_i7, l4_i7, l5_i7, l6_i7, l8_i7, l9_i7, K0_i7.size, (Ext.refl _)⟩ ?_
                rintro m L w8 ⟨y12, y13, y14, v6, hB16, l10_i8, O10_i8, l11_i8, l12_i8, X0_i8, l3_i8, l4_i8, l5_i8, l6_i8, l8_i8, l9_i8, Z0_i8, K0_i8⟩
                rcases m with _ | m
                · rw [ref11_rank_l4] at hB16; cases hB16
                rw [ref11_rank_l4] at hB16
                have k12 := k10.tr K0_i8
                have k13 := k11.tr K0_i8
                have k14 := K0_i7.tr K0_i8
                have r16 := r14.ext K0_i8
                have r17 := r15.ext K0_i8
                have O1 := O8_i7.ext K0_i8
                have hz := RV.sl O10_i8.rv; obtain ⟨a6, cq6, rfl, -, -, -⟩ := hz
                refine wp_seq <| wp_seq <| rg <| vl rfl rfl xmv <| vl rfl rfl xmv <| vl rfl rfl (xlen l4_i8 Try.underlying22) <| vl rfl rfl (xlss l12_i8 rfl) <| nl <| cnd rfl (fun h8 => ?_) (fun h8 => ?_)
                ·
                  have hB16 := ifp hB16 h8
                  refine wp_skip <| wp_seq <| wp_block <| wp_seq <| wpl [] (.pure true 0 (.pure true 1 (.pure true 2 (.pure false 3 (.pure true 4 (.pure true 5 (.pure false 6 (.pure true 7 (.pure true 8 (.pure true 9 (.pure false 10 (.pure true 11 (.pure true 12 (.pure true 13 (.pure true 14 (.pure false 15 (.pure true 16 (.pure true 17 (.pure true 18 (.pure false 19 (.pure true 20 (.pure true 21 (.pure false 22 (.pure true 23 (.pure true 24 (.pure true 25 .fin)))))))))))))))))))))))))) mixed (by kernel_rfl) (fun w9 hx1 => ?_)
                  have k15 := k12.tr hx1
                  have k16 := k13.tr hx1
                  have k17 := k14.tr hx1
                  have k18 := K0_i8.tr hx1
                  have zs1 := Nat.le_trans Z0_i8 hx1.size
                  have r18 := r16.ext hx1
                  have r19 := r17.ext hx1
                  have O2 := O1.ext hx1
                  have O3 := O10_i8.ext hx1
                  refine pv rfl rfl rfl (fun _ _ => xmv) (.inl rfl) <| pv rfl rfl rfl (fun _ _ => xmv) (.inl rfl) <| ?_
                  have hz := bs hB16; obtain ⟨x5, Ex5, hB16⟩ := hz
                  have hz := (RV.els r3).ix Ex5; obtain ⟨b4, f3, cs4, e4, i9, i10, q5, hc4⟩ := hz
                  cases e4
                  obtain ⟨a7, cq7, rfl, p2, q6, e5⟩ := q5
                  have r20 := RV.of1 p2 q6 e5
                  have hc5 := hc4.ext k16
                  have r21 := r20.ext k16
                  refine pv rfl rfl rfl (fun _ _ => xixs l5_i8 l9_i8 Try.underlying101 ti22 i9 i10) (.inl rfl) <| pv rfl rfl rfl (fun _ hS => xld rfl ti22 ((hc5.ext (hS.resolve_left nofun)).at 0 rfl)) (.inr (Ext.refl _)) <| pv rfl rfl rfl (fun _ _ => xmv) (.inl rfl) <| ?_
                  have hz := bs hB16; obtain ⟨x6, Ex6, hB16⟩ := hz
                  have hz := (RV.els r20).ix Ex6; obtain ⟨b5, f4, cs5, e6, i11, i12, q7, hc6⟩ := hz
                  cases e6
                  obtain rfl := q7
                  have hc7 := hc6.ext k16
                  refine pv rfl rfl rfl (fun _ _ => xixs rfl l12_i8 Try.underlying22 ti2 i11 i12) (.inl rfl) <| pv rfl rfl rfl (fun _ hS => xld rfl ti2 ((hc7.ext (hS.resolve_left nofun)).at 0 rfl)) (.inr (Ext.refl _)) <| pv rfl rfl rfl (fun _ _ => xmv) (.inl rfl) <| pv rfl rfl rfl (fun _ _ => xmv) (.inl rfl) <| ?_
                  have hz := bs hB16; obtain ⟨x7, Ex7, hB16⟩ := hz
                  have hz := (RV.els r2).ix Ex7; obtain ⟨b6, f5, cs6, e7, i13, i14, q8, hc8⟩ := hz
                  cases e7
                  obtain rfl := q8
                  have hc9 := hc8.ext k16
                  refine pv rfl rfl rfl (fun _ _ => xixs l4_i8 l6_i8 Try.underlying22 ti2 i13 i14) (.inl rfl) <| pv rfl rfl rfl (fun _ hS => xld rfl ti2 ((hc9.ext (hS.resolve_left nofun)).at 0 rfl)) (.inr (Ext.refl _)) <| pv rfl rfl rfl (fun _ _ => xmul rfl rfl) (.inl rfl) <| pv rfl rfl rfl (fun _ _ => xmv) (.inl rfl) <| pv rfl rfl rfl (fun _ _ => xmv) (.inl rfl) <| ?_
                  have hz := bs hB16; obtain ⟨x8, Ex8, hB16⟩ := hz
                  have hz := ix2 r2 Ex8; obtain ⟨cs7, i15, i16, q9, hc10⟩ := hz
                  obtain rfl := q9
                  have hc11 := hc10.ext k16
                  refine pv rfl rfl rfl (fun _ _ => xixs l4_i8 l12_i8 Try.underlying22 ti2 i15 i16) (.inl rfl) <| pv rfl rfl rfl (fun _ hS => xld rfl ti2 ((hc11.ext (hS.resolve_left nofun)).at 0 rfl)) (.inr (Ext.refl _)) <| pv rfl rfl rfl (fun _ _ => xmv) (.inl rfl) <| pv rfl rfl rfl (fun _ _ => xmv) (.inl rfl) <| ?_
                  have hz := bs hB16; obtain ⟨x9, Ex9, hB16⟩ := hz
                  have hz := ix2 r3 Ex9; obtain ⟨cs8, i17, i18, q10, hc12⟩ := hz
                  obtain ⟨a8, cq8, rfl, p3, q11, e8⟩ := q10
                  have r22 := RV.of1 p3 q11 e8
                  have hc13 := hc12.ext k16
                  have r23 := r22.ext k16
                  refine pv rfl rfl rfl (fun _ _ => xixs l5_i8 l9_i8 Try.underlying101 ti22 i17 i18) (.inl rfl) <| pv rfl rfl rfl (fun _ hS => xld rfl ti22 ((hc13.ext (hS.resolve_left nofun)).at 0 rfl)) (.inr (Ext.refl _)) <| pv rfl rfl rfl (fun _ _ => xmv) (.inl rfl) <| ?_
                  have hz := bs hB16; obtain ⟨x10, Ex10, hB16⟩ := hz
                  have hz := (RV.els r22).ix Ex10; obtain ⟨b7, f6, cs9, e9, i19, i20, q12, hc14⟩ := hz
                  cases e9
                  obtain rfl := q12
                  have hc15 := hc14.ext k16
                  refine pv rfl rfl rfl (fun _ _ => xixs rfl l6_i8 Try.underlying22 ti2 i19 i20) (.inl rfl) <| pv rfl rfl rfl (fun _ hS => xld rfl ti2 ((hc15.ext (hS.resolve_left nofun)).at 0 rfl)) (.inr (Ext.refl _)) <| pv rfl rfl rfl (fun _ _ => xmul rfl rfl) (.inl rfl) <| pv rfl rfl rfl (fun _ _ => xsub rfl rfl) (.inl rfl) <| pv rfl rfl rfl (fun _ _ => xas) (.inl rfl) <| wp_seq <| rg <| vl rfl rfl xmv <| vl rfl rfl xmv <| sbsv (cs := [.int .i64 (w64 ((w64 (x6 * x7)) - (w64 (x8 * x10))))]) Try.underlying22 ti2 rfl (pc rfl pn) rfl rfl rfl rfl rfl fun b8 w10 hx2 hg1 hb1 => ?_
                  have k19 := k15.tr hx2
                  have k20 := k16.tr hx2
                  have k21 := k17.tr hx2
                  have k22 := k18.tr hx2
                  have zs2 := Nat.le_trans zs1 hx2.size
                  have r24 := r18.ext hx2
                  have r25 := r19.ext hx2
                  have O4 := O2.ext hx2
                  have O5 := O3.ext hx2
                  have o7 : Row (α := Int) 2 w9.heap.size w10 (.slice (some ⟨b8, 0, none⟩) 1 1) [w64 ((w64 (x6 * x7)) - (w64 (x8 * x10)))] := Row.lit hg1 hb1 rfl (ble rfl)
                  have hz := bs hB16; obtain ⟨x11, Ex11, hB16⟩ := hz
                  refine sapx (l := y12) (k := ([w64 ((w64 (x6 * x7)) - (w64 (x8 * x10)))] : List Int)) l10_i8 rfl Try.underlying22 ti2 rfl rfl O5 (RV.els o7.rv) Ex11 k22.size fun v8 w11 o8 hB18 hgr1 how1 => ?_
                  have k23 := Ext.grow k19 k10.size hB18
                  have k24 := Ext.grow k20 k11.size hB18
                  have k25 := Ext.grow k21 K0_i7.size hB18
                  have k26 : Ext w7 w11 := k22.trans hB18
                  have X1 := Apart.app how1 X0_i8 O4.own_lt
                  have zs3 := Nat.le_trans zs2 hgr1.size
                  have r27 := r14.ext k26
                  have r28 := r15.ext k26
                  have O6 := O8_i7.ext k26
                  have hz := RV.sl o8.rv; obtain ⟨a9, cq9, rfl, -, -, -⟩ := hz
                  refine vl rfl rfl xas <| nl <| rg <| vl rfl rfl xmv <| vl rfl rfl xmv <| ?_
                  have hz := bs hB16; obtain ⟨x12, Ex12, hB16⟩ := hz
                  refine cl rfl rfl (xc cb79 (mc l11_i8 (mc rfl mn))) (c79 Ex12) ?_
                  rintro _ w12 ⟨rfl, hx3⟩
                  have k27 := k23.tr hx3
                  have k28 := k24.tr hx3
                  have k29 := k25.tr hx3
                  have k30 := k26.tr hx3
                  have zs4 := Nat.le_trans zs3 hx3.size
                  have r29 := r27.ext hx3
                  have r30 := r28.ext hx3
                  have O7 := O6.ext hx3
                  have o9 := o8.ext hx3
                  refine vl rfl rfl xas <| nl <| rg <| vl rfl rfl xmv <| vl rfl rfl (xadd l12_i8 rfl) <| vl rfl rfl xas <| nl <| ?_
                  refine lq m (Nat.lt_succ_self _) <| ?_
                  exact ⟨_, _, _, _, hB16, rfl, o9, rfl, rfl, X1, l3_i8, l4_i8, l5_i8, l6_i8, l8_i8, l9_i8, zs4, k30⟩
                ·
                  have hB16 := ifn hB16 h8
                  refine wp_exit <| ?_
                  cases hB16
                  refine lf <| ?_
                  exact ⟨_, l10_i8, O10_i8, l11_i8, X0_i8, l3_i8, l4_i8, l5_i8, l6_i8, l8_i8, l9_i8, Z0_i8, K0_i8⟩
              rintro L w13 ⟨v7, l10_j5, O10_j5, l11_j5, X0_j5, l3_j5, l4_j5, l5_j5, l6_j5, l8_j5, l9_j5, Z0_j5, K0_j5⟩
              have k31 := k10.tr K0_j5
              have k32 := k11.tr K0_j5
              have k33 := K0_i7.tr K0_j5
              have r31 := r14.ext K0_j5
              have r32 := r15.ext K0_j5
              have O8 := O8_i7.ext K0_j5
              have hz := RV.sl O10_j5.rv; obtain ⟨a10, cq10, rfl, -, -, -⟩ := hz
              refine wp_seq <| wp_seq <| rg <| vl rfl rfl xas <| nl <| ?_
              have hz := bs hB14; obtain ⟨z6, hB20, hB14⟩ := hz
              refine ct (fun L w => ∃ v10 : Value, L 10 = v10 ∧ Row 2 w7.heap.size w v10 z6 ∧ Apart (v10) (.slice a5 y10.length cq5) ∧ L 3 = .int .i64 (w64 (y2 + 1)) ∧ L 4 = .slice a3 x2.length cq3 ∧ L 5 = .slice a4 x3.length cq4 ∧ L 6 = .int .i64 z2 ∧ L 8 = .slice a5 y10.length cq5 ∧ L 9 = .int .i64 y11 ∧ w6.heap.size ≤ w.heap.size ∧ Ext w7 w) ?_ ?_
              ·
                refine wp_block <| lp (I := fun m L w => ∃ y15 : (List Int), ∃ y16 : Int, ∃ v9 : Value, ref11_rank_l5 F z5 m y15 y16  = some z6 ∧ L 10 = v9 ∧ Row 2 w7.heap.size w v9 y15 ∧ L 14 = .int .i64 y16 ∧ Apart (v9) (.slice a5 y10.length cq5) ∧ L 3 = .int .i64 (w64 (y2 + 1)) ∧ L 4 = .slice a3 x2.length cq3 ∧ L 5 = .slice a4 x3.length cq4 ∧ L 6 = .int .i64 z2 ∧ L 8 = .slice a5 y10.length cq5 ∧ L 9 = .int .i64 y11 ∧ L 11 = .int .i64 z5 ∧ w6.heap.size ≤ w.heap.size ∧ Ext w7 w) F ⟨_, _, _, hB20, l10_j5, O10_j5, rfl, X0_j5, l3_j5, l4_j5, l5_j5, l6_j5, l8_j5, l9_j5, l11_j5, Z0_j5, K0_j5⟩ ?_
                rintro m L w14 ⟨y15, y16, v9, hB20, l10_i21, O10_i21, l14_i21, X0_i21, l3_i21, l4_i21, l5_i21, l6_i21, l8_i21, l9_i21, l11_i21, Z0_i21, K0_i21⟩
                rcases m with _ | m
                · rw [ref11_rank_l5] at hB20; cases hB20
                rw [ref11_rank_l5] at hB20
                have k34 := k10.tr K0_i21
                have k35 := k11.tr K0_i21
                have k36 := K0_i7.tr K0_i21
                have r33 := r14.ext K0_i21
                have r34 := r15.ext K0_i21
                have O9 := O8_i7.ext K0_i21
                have hz := RV.sl O10_i21.rv; obtain ⟨a11, cq11, rfl, -, -, -⟩ := hz
                refine wp_seq <| wp_seq <| rg <| vl rfl rfl xmv <| vl rfl rfl xmv <| vl rfl rfl (xlen l10_i21 Try.underlying22) <| vl rfl rfl (xlss l14_i21 rfl) <| vl rfl rfl xmv <| gv rfl rfl rfl rfl (gw1 rfl) rfl (fun hc => xmva l11_i21) <| gv rfl rfl rfl rfl (gw1 rfl) rfl (fun hc => xgtr (mv hc rfl) rfl) <| vl rfl rfl (xpa rfl rfl rfl) <| nl <| cnd rfl (fun h9 => ?_) (fun h9 => ?_)
                ·
                  have hB20 := ifp hB20 h9
                  refine wp_skip <| wp_seq <| wp_block <| rg <| vl rfl rfl xmv <| vl rfl rfl xmv <| ?_
                  have hz := bs hB20; obtain ⟨x13, Ex13, hB20⟩ := hz
                  have hz := (RV.els O10_i21.rv).ix Ex13; obtain ⟨b9, f7, cs10, e10, i22, i23, q13, hc16⟩ := hz
                  cases e10
                  obtain rfl := q13
                  refine vl rfl rfl (xixs l10_i21 l14_i21 Try.underlying22 ti2 i22 i23) <| vl rfl rfl (xld rfl ti2 (hc16.at 0 rfl)) <| vl rfl rfl xmv <| ?_
                  have hz := bs hB20; obtain ⟨x14, Ex14, hB20⟩ := hz
                  refine vl rfl rfl (xquov rfl l11_i21 Ex14) <| ?_
                  have hz := bs hB20; obtain ⟨x15, Ex15, hB20⟩ := hz
                  have hz := ix2 O10_i21.rv Ex15; obtain ⟨cs11, i24, i25, q14, hc17⟩ := hz
                  obtain rfl := q14
                  refine vl rfl rfl (xixs l10_i21 l14_i21 Try.underlying22 ti2 i24 i25) <| sstr (l := y15) (v := x14) rfl rfl rfl ti2 O10_i21 Ex15 fun w15 hch1 o11 => ?_
                  have k37 := Ext.chg k34 hch1 (Nat.le_trans k10.size (Row.ge O10_i21))
                  have k38 := Ext.chg k35 hch1 (Nat.le_trans k11.size (Row.ge O10_i21))
                  have k39 := Ext.chg k36 hch1 (Nat.le_trans K0_i7.size (Row.ge O10_i21))
                  have k40 := Ext.chg K0_i21 hch1 (Nat.le_trans (Nat.le_refl _) (Row.ge O10_i21))
                  have zs5 := Nat.le_trans Z0_i21 (Nat.le_of_eq hch1.size.symm)
                  have r35 := r14.ext k40
                  have r36 := r15.ext k40
                  have O10 := O8_i7.ext k40
                  refine nl <| rg <| vl rfl rfl xmv <| vl rfl rfl (xadd l14_i21 rfl) <| vl rfl rfl xas <| nl <| ?_
                  refine lq m (Nat.lt_succ_self _) <| ?_
                  exact ⟨_, _, _, hB20, l10_i21, o11, rfl, (Apart.symm (Apart.old' O8_i7.own_lt (fun q e => (o11.lt q e).1))), l3_i21, l4_i21, l5_i21, l6_i21, l8_i21, l9_i21, l11_i21, zs5, k40⟩
                ·
                  have hB20 := ifn hB20 h9
                  refine wp_exit <| ?_
                  cases hB20
                  refine lf <| ?_
                  exact ⟨_, l10_i21, O10_i21, X0_i21, l3_i21, l4_i21, l5_i21, l6_i21, l8_i21, l9_i21, Z0_i21, K0_i21⟩
              rintro L w16 ⟨v10, l10_j6, O10_j6, X0_j6, l3_j6, l4_j6, l5_j6, l6_j6, l8_j6, l9_j6, Z0_j6, K0_j6⟩
              have k41 := k10.tr K0_j6
              have k42 := k11.tr K0_j6
              have k43 := K0_i7.tr K0_j6
              have r37 := r14.ext K0_j6
              have r38 := r15.ext K0_j6
              have O11 := O8_i7.ext K0_j6
              have hz := RV.sl O10_j6.rv; obtain ⟨a12, cq12, rfl, -, -, -⟩ := hz
              refine rg <| vl rfl rfl xmv <| vl rfl rfl xmv <| sbsv (cs := [.slice a12 z6.length cq12]) Try.underlying101 ti22 rfl (pc l10_j6 pn) rfl rfl rfl rfl rfl fun b10 w17 hx4 hg2 hb2 => ?_
              have k44 := k41.tr hx4
              have k45 := k42.tr hx4
              have k46 := k43.tr hx4
              have k47 := K0_j6.tr hx4
              have zs6 := Nat.le_trans Z0_j6 hx4.size
              have r40 := r37.ext hx4
              have r41 := r38.ext hx4
              have O12 := O11.ext hx4
              have O13 := O10_j6.ext hx4
              have r39 : RV w17 (.slice (some ⟨b10, 0, none⟩) 1 1) ([z6] : List (List Int)) := RV.lit hb2 (css := [[.slice a12 z6.length cq12]]) rfl ⟨O13.rv.rep1, trivial⟩ rfl (ble rfl)
              have hz := bs hB14; obtain ⟨x16, Ex16, hB14⟩ := hz
              refine sapd (l := y10) (k := ([z6] : List (List Int))) l8_j6 rfl Try.underlying101 ti22 rfl rfl O12 (ElsD.lit1 hb2 (RVo.rep1 (RVo.okn (Row.rvob O13) K0_i7.size O8_i7.own_lt))) Ex16 k46.size fun v11 w18 o12 hB23 hgr2 how2 => ?_
              have k48 := Ext.grow k44 k9.size hB23
              have k49 := Ext.grow k45 K0_j4.size hB23
              have k50 : Ext w6 w18 := k46.trans hB23
              have zs7 := Nat.le_trans zs6 hgr2.size
              have r42 := r12.ext k50
              have r43 := r13.ext k50
              have hz := RV.sl o12.rv; obtain ⟨a13, cq13, rfl, -, -, -⟩ := hz
              refine vl rfl rfl xas <| nl <| rg <| vl rfl rfl xmv <| vl rfl rfl (xadd l9_j6 rfl) <| vl rfl rfl xas <| nl <| ?_
              refine lq m (Nat.lt_succ_self _) <| ?_
              exact ⟨_, _, _, hB14, rfl, o12, rfl, l3_j6, l4_j6, l5_j6, l6_j6, k50⟩
            ·
              have hB14 := ifn hB14 h7
              refine wp_exit <| ?_
              cases hB14
              refine lf <| ?_
              exact ⟨_, l8_i7, O8_i7, l3_i7, K0_i7⟩
          rintro L w19 ⟨v5, l8_j7, O8_j7, l3_j7, K0_j7⟩
          have k51 := k9.tr K0_j7
          have k52 := K0_j4.tr K0_j7
          have hz := RV.sl O8_j7.rv; obtain ⟨a14, cq14, rfl, -, -, -⟩ := hz
          refine rg <| vl rfl rfl xmv <| vl rfl rfl xas <| nl <| ?_
          cases hB3
          refine lf <| ?_
          exact ⟨_, l8_j7, O8_j7.rv, l3_j7, k52⟩
      rintro L w20 ⟨v3, l0_j8, R0_j8, l3_j8, K0_j8⟩
      have k53 := K0_i1.tr K0_j8
      have hz := RV.sl R0_j8; obtain ⟨a15, cq15, rfl, -, -, -⟩ := hz
      refine lq m (Nat.lt_succ_self _) <| ?_
      exact ⟨_, _, _, hB1, l0_j8, R0_j8, l3_j8, k53⟩
    ·
      have hB1 := ifn hB1 h2
      refine wp_exit <| ?_
      cases hB1
      refine lf <| ?_
      exact ⟨l3_i1, K0_i1⟩
  rintro L w21 ⟨l3_j9, K0_j9⟩
  refine wp_seq <| rg <| vl rfl rfl xmv <| vl rfl rfl xas <| nl <| ?_
  cases hF
  exact wp_ret <| rt rfl (.tmp l3_j9 rfl .nil) ⟨rfl, K0_j9⟩

set_option maxHeartbeats 4000000 in
theorem c82 {w0 : World} {x0 : Int} {x1 : Int} {F : Nat} {r : Int} (hF : bath_common__int64 F x0 x1 = some r) :
    Calls Try.prog 82 [.int .i64 x0, .int .i64 x1].toArray w0 (Ret fun v w' => v = .int .i64 r ∧ Ext w0 w') := by
  unfold bath_common__int64 at hF
  refine entr (n := 20) Try.func82 rfl rfl rfl <| wp_seq <| rg <| vl rfl rfl xas <| nl <| wp_seq <| rg <| vl rfl rfl xmv <| vl rfl rfl xmv <| vl rfl rfl (xneg rfl) <| vl rfl rfl (xmax rfl rfl) <| vl rfl rfl xmv <| vl rfl rfl xmv <| vl rfl rfl (xneg rfl) <| vl rfl rfl (xmax rfl rfl) <| vl rfl rfl xas <| vl rfl rfl xas <| nl <| wp_seq <| ?_
  have hz := bs hF; obtain ⟨z1, hB1, hF⟩ := hz
  refine ct (fun L w => L 0 = .int .i64 z1 ∧ Ext w0 w) ?_ ?_
  ·
    refine wp_block <| lp (I := fun m L w => ∃ y1 : Int, ∃ y2 : Int, bath_common__int64_l1 F m y1 y2  = some z1 ∧ L 0 = .int .i64 y1 ∧ L 1 = .int .i64 y2 ∧ Ext w0 w) F ⟨_, _, hB1, rfl, rfl, (Ext.refl _)⟩ ?_
    rintro m L w1 ⟨y1, y2, hB1, l0_i1, l1_i1, K0_i1⟩
    rcases m with _ | m
    · rw [bath_common__int64_l1] at hB1; cases hB1
    rw [bath_common__int64_l1] at hB1
    refine wp_seq <| wp_seq <| rg <| vl rfl rfl xmv <| vl rfl rfl (xneq l1_i1 rfl) <| nl <| cnd rfl (fun h3 => ?_) (fun h3 => ?_)
    ·
      have hB1 := ifp hB1 h3
      refine wp_skip <| wp_block <| wpl [] (.pure true 0 (.pure true 1 (.pure true 2 (.pure true 3 (.pure true 4 (.pure true 5 .fin)))))) mixed (by kernel_rfl) (fun w2 hx1 => ?_)
      have k1 := K0_i1.tr hx1
      refine pv rfl rfl rfl (fun _ _ => xmv) (.inl rfl) <| pv rfl rfl rfl (fun _ _ => xmv) (.inl rfl) <| pv rfl rfl rfl (fun _ _ => xmv) (.inl rfl) <| ?_
      have hz := bs hB1; obtain ⟨x3, Ex3, hB1⟩ := hz
      refine pv rfl rfl rfl (fun _ _ => xremv l0_i1 l1_i1 Ex3) (.inl rfl) <| pv rfl rfl rfl (fun _ _ => xas) (.inl rfl) <| pv rfl rfl rfl (fun _ _ => xas) (.inl rfl) <| ?_
      refine lq m (Nat.lt_succ_self _) <| ?_
      exact ⟨_, _, hB1, l1_i1, rfl, k1⟩
    ·
      have hB1 := ifn hB1 h3
      refine wp_exit <| ?_
      cases hB1
      refine lf <| ?_
      exact ⟨l0_i1, K0_i1⟩
  rintro L w3 ⟨l0_j1, K0_j1⟩
  refine wp_seq <| rg <| vl rfl rfl xmv <| vl rfl rfl xas <| nl <| ?_
  cases hF
  exact wp_ret <| rt rfl (.tmp l0_j1 rfl .nil) ⟨rfl, K0_j1⟩

set_option maxHeartbeats 4000000 in
theorem c81 {w0 : World} {x0 : Int} {x1 : Int} {F : Nat} {r : (Int × Int)} (hF : bath_of F x0 x1 = some r) :
    Calls Try.prog 81 [.int .i64 x0, .int .i64 x1].toArray w0 (Ret fun v w' => ∃ u0 : Value, v = u0 ∧ RV w' u0 r ∧ Ext w0 w') := by
  unfold bath_of at hF
  refine entr (n := 22) Try.func81 rfl rfl rfl <| wp_seq <| rg <| sal ti116 fun b3 w1 hx1 hg1 hb1 => ?_
  refine nl <| wp_seq <| wp_seq <| rg <| vl rfl rfl xmv <| vl rfl rfl (xlss rfl rfl) <| nl <| ?_
  have hz := bs hF; obtain ⟨⟨y1, y2⟩, hB1, hF⟩ := hz
  refine ct (fun L w => L 0 = .int .i64 y1 ∧ L 1 = .int .i64 y2 ∧ L 4 = .pointer (some ⟨b3, 0, none⟩) ∧ Ext w1 w) ?_ ?_
  ·
    refine cnd rfl (fun h3 => ?_) (fun h3 => ?_)
    ·
      have hB1 := ifp hB1 h3
      refine rg <| vl rfl rfl xmv <| vl rfl rfl (xneg rfl) <| vl rfl rfl xmv <| vl rfl rfl (xneg rfl) <| vl rfl rfl xas <| vl rfl rfl xas <| nl <| ?_
      cases hB1
      refine lf <| ?_
      exact ⟨rfl, rfl, rfl, (Ext.refl _)⟩
    ·
      have hB1 := ifn hB1 h3
      refine wp_skip <| ?_
      cases hB1
      refine lf <| ?_
      exact ⟨rfl, rfl, rfl, (Ext.refl _)⟩
  rintro L w2 ⟨l0_j1, l1_j1, l4_j1, K0_j1⟩
  have k1 := hx1.tr K0_j1
  have hb2 := hb1.ext K0_j1
  refine wp_seq <| rg <| vl rfl rfl xmv <| vl rfl rfl xmv <| ?_
  have hz := bs hF; obtain ⟨x3, Ex3, hF⟩ := hz
  refine cl rfl rfl (xc cb82 (mc l0_j1 (mc l1_j1 mn))) (c82 Ex3) ?_
  rintro _ w3 ⟨rfl, hx2⟩
  have k2 := k1.tr hx2
  have k3 := K0_j1.tr hx2
  have hb3 := hb2.ext hx2
  refine vl rfl rfl xas <| nl <| wp_seq <| wpl [7] (.pure true 0 (.pure true 1 (.pure true 2 (.pure true 3 (.pure true 4 (.pure true 5 (.pure true 6 (.eff 7 .fin .stop)))))))) mixed (by kernel_rfl) (fun w4 hx3 => ?_)
  have k4 := k2.tr hx3
  have k5 := k3.tr hx3
  have hb4 := hb3.ext hx3
  refine pv rfl rfl rfl (fun _ _ => xmv) (.inl rfl) <| pv rfl rfl rfl (fun _ _ => xmv) (.inl rfl) <| ?_
  have hz := bs hF; obtain ⟨x4, Ex4, hF⟩ := hz
  refine pv rfl rfl rfl (fun _ _ => xquov l0_j1 rfl Ex4) (.inl rfl) <| pv rfl rfl rfl (fun _ _ => xmv) (.inl rfl) <| pv rfl rfl rfl (fun _ _ => xmv) (.inl rfl) <| ?_
  have hz := bs hF; obtain ⟨x5, Ex5, hF⟩ := hz
  refine pv rfl rfl rfl (fun _ _ => xquov l1_j1 rfl Ex5) (.inl rfl) <| pv rfl rfl rfl (fun _ _ => xbdv (r := [.int .i64 x4, .int .i64 x5]) ti116 sp116 (pc rfl (pc rfl pn)) rfl) (.inl rfl) <| pe1 rfl <| sst l4_j1 rfl rfl ti116 hb4 rfl rfl (ble rfl) fun w5 hch1 hb5 => ?_
  have k6 := Ext.chg k4 hch1 (Nat.le_trans (Nat.le_refl _) hg1)
  have hb6 : Bx w5 b3 116 [.int .i64 x4, .int .i64 x5] := hb5
  refine nl ⟨fun h => (h (by decide)).elim, ?_⟩
  cases hF
  exact wp_ret <| rt rfl (.cell l4_j1 rfl ti116 rfl (Bx.cs hb6) .nil) ⟨_, rfl, (show RV (α := (Int × Int)) _ (.agg [.int .i64 x4, .int .i64 x5].toArray) (x4, x5) from ⟨_, rfl, ⟨[.int .i64 x4], [.int .i64 x5], rfl, rfl, rfl⟩⟩), k6⟩

set_option maxHeartbeats 4000000 in
theorem c76 {w0 : World} {v0 : Value} {x0 : (Int × Int)} (r0 : RV w0 v0 x0) {v1 : Value} {x1 : (Int × Int)} (r1 : RV w0 v1 x1) {F : Nat} {r : (Int × Int)} (hF : bath_fraction_over F x0 x1 = some r) :
    Calls Try.prog 76 [v0, v1].toArray w0 (Ret fun v w' => ∃ u0 : Value, v = u0 ∧ RV w' u0 r ∧ Ext w0 w') := by
  unfold bath_fraction_over at hF
  have hz := id r0; obtain ⟨_, rfl, ⟨_, _, rfl, rfl, rfl⟩⟩ := hz
  have hz := id r1; obtain ⟨_, rfl, ⟨_, _, rfl, rfl, rfl⟩⟩ := hz
  refine entr (n := 16) Try.func76 rfl rfl rfl <| wp_seq <| rg <| sbx rfl rfl fun b3 w1 hx1 hg1 hb1 => ?_
  have r3 := r1.ext hx1
  have r4 := r0.ext hx1
  refine sbx rfl rfl fun b4 w2 hx2 hg2 hb2 => ?_
  have k1 := hx1.tr hx2
  have hb3 := hb1.ext hx2
  have r5 := r3.ext hx2
  refine sal ti116 fun b5 w3 hx3 hg3 hb4 => ?_
  have k2 := k1.tr hx3
  have k3 := hx2.tr hx3
  have hb5 := hb3.ext hx3
  have hb6 := hb2.ext hx3
  refine nl <| wp_seq <| rg <| vl rfl rfl (xfa rfl fa116_0) <| vl rfl rfl (xld rfl ti2 ((Bx.cs hb5).at 0 rfl)) <| vl rfl rfl (xfa rfl fa116_1) <| vl rfl rfl (xld rfl ti2 ((Bx.cs hb6).at 1 rfl)) <| vl rfl rfl (xmul rfl rfl) <| vl rfl rfl (xfa rfl fa116_1) <| vl rfl rfl (xld rfl ti2 ((Bx.cs hb5).at 1 rfl)) <| vl rfl rfl (xfa rfl fa116_0) <| vl rfl rfl (xld rfl ti2 ((Bx.cs hb6).at 0 rfl)) <| vl rfl rfl (xmul rfl rfl) <| ?_
  have hz := bs hF; obtain ⟨x3, Ex3, hF⟩ := hz
  refine cl rfl rfl (xc cb81 (mc rfl (mc rfl mn))) (c81 Ex3) ?_
  rintro _ w4 ⟨u1, rfl, r6, hx4⟩
  have k4 := k2.tr hx4
  have k5 := k3.tr hx4
  have k6 := hx3.tr hx4
  have hb7 := hb4.ext hx4
  have hz := id r6; obtain ⟨_, rfl, ⟨_, _, rfl, rfl, rfl⟩⟩ := hz
  refine sst rfl rfl rfl ti116 hb7 rfl rfl (ble rfl) fun w5 hch1 hb8 => ?_
  have k7 := Ext.chg k4 hch1 (Nat.le_trans k1.size hg3)
  have k8 := Ext.chg k5 hch1 (Nat.le_trans hx2.size hg3)
  have k9 := Ext.chg k6 hch1 (Nat.le_trans (Nat.le_refl _) hg3)
  have hb9 : Bx w5 b5 116 [.int .i64 x3.1, .int .i64 x3.2] := hb8
  refine nl <| ?_
  cases hF
  exact wp_ret <| rt rfl (.cell rfl rfl ti116 rfl (Bx.cs hb9) .nil) ⟨_, rfl, (show RV (α := (Int × Int)) _ (.agg [.int .i64 x3.1, .int .i64 x3.2].toArray) (x3.1, x3.2) from ⟨_, rfl, ⟨[.int .i64 x3.1], [.int .i64 x3.2], rfl, rfl, rfl⟩⟩), k7⟩

set_option maxHeartbeats 4000000 in
theorem c77 {w0 : World} {v0 : Value} {x0 : (Int × Int)} (r0 : RV w0 v0 x0) {v1 : Value} {x1 : (Int × Int)} (r1 : RV w0 v1 x1) {v2 : Value} {x2 : (Int × Int)} (r2 : RV w0 v2 x2) {F : Nat} {r : (Int × Int)} (hF : bath_fraction_less F x0 x1 x2 = some r) :
    Calls Try.prog 77 [v0, v1, v2].toArray w0 (Ret fun v w' => ∃ u0 : Value, v = u0 ∧ RV w' u0 r ∧ Ext w0 w') := by
  unfold bath_fraction_less at hF
  have hz := id r0; obtain ⟨_, rfl, ⟨_, _, rfl, rfl, rfl⟩⟩ := hz
  have hz := id r1; obtain ⟨_, rfl, ⟨_, _, rfl, rfl, rfl⟩⟩ := hz
  have hz := id r2; obtain ⟨_, rfl, ⟨_, _, rfl, rfl, rfl⟩⟩ := hz
  refine entr (n := 48) Try.func77 rfl rfl rfl <| wp_seq <| rg <| sbx rfl rfl fun b4 w1 hx1 hg1 hb1 => ?_
  have r4 := r1.ext hx1
  have r5 := r2.ext hx1
  have r6 := r0.ext hx1
  refine sbx rfl rfl fun b5 w2 hx2 hg2 hb2 => ?_
  have k1 := hx1.tr hx2
  have hb3 := hb1.ext hx2
  have r7 := r5.ext hx2
  have r8 := r4.ext hx2
  refine sbx rfl rfl fun b6 w3 hx3 hg3 hb4 => ?_
  have k2 := k1.tr hx3
  have k3 := hx2.tr hx3
  have hb5 := hb3.ext hx3
  have hb6 := hb2.ext hx3
  have r9 := r7.ext hx3
  refine sal ti116 fun b7 w4 hx4 hg4 hb7 => ?_
  have k4 := k2.tr hx4
  have k5 := k3.tr hx4
  have k6 := hx3.tr hx4
  have hb8 := hb5.ext hx4
  have hb9 := hb6.ext hx4
  have hb10 := hb4.ext hx4
  refine nl <| wp_seq <| rg <| vl rfl rfl (xfa rfl fa116_0) <| vl rfl rfl (xld rfl ti2 ((Bx.cs hb9).at 0 rfl)) <| vl rfl rfl (xfa rfl fa116_0) <| vl rfl rfl (xld rfl ti2 ((Bx.cs hb10).at 0 rfl)) <| vl rfl rfl (xmul rfl rfl) <| vl rfl rfl (xfa rfl fa116_1) <| vl rfl rfl (xld rfl ti2 ((Bx.cs hb9).at 1 rfl)) <| vl rfl rfl (xfa rfl fa116_1) <| vl rfl rfl (xld rfl ti2 ((Bx.cs hb10).at 1 rfl)) <| vl rfl rfl (xmul rfl rfl) <| ?_
  have hz := bs hF; obtain ⟨x4, Ex4, hF⟩ := hz
  refine cl rfl rfl (xc cb81 (mc rfl (mc rfl mn))) (c81 Ex4) ?_
  rintro _ w5 ⟨u1, rfl, r10, hx5⟩
  have k7 := k4.tr hx5
  have k8 := k5.tr hx5
  have k9 := k6.tr hx5
  have k10 := hx4.tr hx5
  have hb11 := hb8.ext hx5
  have hb12 := hb7.ext hx5
  have hz := id r10; obtain ⟨_, rfl, ⟨_, _, rfl, rfl, rfl⟩⟩ := hz
  refine sal ti116 fun b8 w6 hx6 hg5 hb13 => ?_
  have k11 := k7.tr hx6
  have k12 := k8.tr hx6
  have k13 := k9.tr hx6
  have k14 := k10.tr hx6
  have hb14 := hb11.ext hx6
  have hb15 := hb12.ext hx6
  have r11 := r10.ext hx6
  refine sst rfl rfl rfl ti116 hb13 rfl rfl (ble rfl) fun w7 hch1 hb16 => ?_
  have k15 := Ext.chg k11 hch1 (Nat.le_trans k7.size hg5)
  have k16 := Ext.chg k12 hch1 (Nat.le_trans k8.size hg5)
  have k17 := Ext.chg k13 hch1 (Nat.le_trans k9.size hg5)
  have k18 := Ext.chg k14 hch1 (Nat.le_trans k10.size hg5)
  have k19 := Ext.chg hx6 hch1 (Nat.le_trans (Nat.le_refl _) hg5)
  have hb17 := hb11.ext k19
  have hb18 := hb12.ext k19
  have hb19 : Bx w7 b8 116 [.int .i64 x4.1, .int .i64 x4.2] := hb16
  refine nl <| wp_seq <| rg <| vl rfl rfl (xfa rfl fa116_1) <| vl rfl rfl (xld rfl ti2 ((Bx.cs hb17).at 1 rfl)) <| vl rfl rfl (xfa rfl fa116_1) <| vl rfl rfl (xld rfl ti2 ((Bx.cs hb19).at 1 rfl)) <| ?_
  have hz := bs hF; obtain ⟨x5, Ex5, hF⟩ := hz
  refine cl rfl rfl (xc cb82 (mc rfl (mc rfl mn))) (c82 Ex5) ?_
  rintro _ w8 ⟨rfl, hx7⟩
  have k20 := k15.tr hx7
  have k21 := k16.tr hx7
  have k22 := k17.tr hx7
  have k23 := k18.tr hx7
  have k24 := k19.tr hx7
  have hb20 := hb17.ext hx7
  have hb21 := hb18.ext hx7
  have hb22 := hb19.ext hx7
  refine vl rfl rfl xas <| nl <| wp_seq <| wpl [23] (.pure true 0 (.pure false 1 (.pure true 2 (.pure false 3 (.pure true 4 (.pure true 5 (.pure true 6 (.pure true 7 (.pure false 8 (.pure true 9 (.pure false 10 (.pure true 11 (.pure true 12 (.pure true 13 (.pure true 14 (.pure true 15 (.pure false 16 (.pure true 17 (.pure true 18 (.pure true 19 (.pure false 20 (.pure true 21 (.eff 22 (.eff 23 .fin .stop) .stop))))))))))))))))))))))) mixed (by kernel_rfl) (fun w9 hx8 => ?_)
  have k25 := k20.tr hx8
  have k26 := k21.tr hx8
  have k27 := k22.tr hx8
  have k28 := k23.tr hx8
  have k29 := k24.tr hx8
  have hb23 := hb20.ext hx8
  have hb24 := hb21.ext hx8
  have hb25 := hb22.ext hx8
  refine pv rfl rfl rfl (fun _ _ => xfa rfl fa116_0) (.inl rfl) <| pv rfl rfl rfl (fun _ hS => xld rfl ti2 ((Bx.cs (hb23.ext (hS.resolve_left nofun))).at 0 rfl)) (.inr (Ext.refl _)) <| pv rfl rfl rfl (fun _ _ => xfa rfl fa116_1) (.inl rfl) <| pv rfl rfl rfl (fun _ hS => xld rfl ti2 ((Bx.cs (hb25.ext (hS.resolve_left nofun))).at 1 rfl)) (.inr (Ext.refl _)) <| pv rfl rfl rfl (fun _ _ => xmv) (.inl rfl) <| ?_
  have hz := bs hF; obtain ⟨x6, Ex6, hF⟩ := hz
  refine pv rfl rfl rfl (fun _ _ => xquov rfl rfl Ex6) (.inl rfl) <| pv rfl rfl rfl (fun _ _ => xmul rfl rfl) (.inl rfl) <| pv rfl rfl rfl (fun _ _ => xfa rfl fa116_0) (.inl rfl) <| pv rfl rfl rfl (fun _ hS => xld rfl ti2 ((Bx.cs (hb25.ext (hS.resolve_left nofun))).at 0 rfl)) (.inr (Ext.refl _)) <| pv rfl rfl rfl (fun _ _ => xfa rfl fa116_1) (.inl rfl) <| pv rfl rfl rfl (fun _ hS => xld rfl ti2 ((Bx.cs (hb23.ext (hS.resolve_left nofun))).at 1 rfl)) (.inr (Ext.refl _)) <| pv rfl rfl rfl (fun _ _ => xmv) (.inl rfl) <| ?_
  have hz := bs hF; obtain ⟨x7, Ex7, hF⟩ := hz
  refine pv rfl rfl rfl (fun _ _ => xquov rfl rfl Ex7) (.inl rfl) <| pv rfl rfl rfl (fun _ _ => xmul rfl rfl) (.inl rfl) <| pv rfl rfl rfl (fun _ _ => xsub rfl rfl) (.inl rfl) <| pv rfl rfl rfl (fun _ _ => xfa rfl fa116_1) (.inl rfl) <| pv rfl rfl rfl (fun _ hS => xld rfl ti2 ((Bx.cs (hb23.ext (hS.resolve_left nofun))).at 1 rfl)) (.inr (Ext.refl _)) <| pv rfl rfl rfl (fun _ _ => xmv) (.inl rfl) <| ?_
  have hz := bs hF; obtain ⟨x8, Ex8, hF⟩ := hz
  refine pv rfl rfl rfl (fun _ _ => xquov rfl rfl Ex8) (.inl rfl) <| pv rfl rfl rfl (fun _ _ => xfa rfl fa116_1) (.inl rfl) <| pv rfl rfl rfl (fun _ hS => xld rfl ti2 ((Bx.cs (hb25.ext (hS.resolve_left nofun))).at 1 rfl)) (.inr (Ext.refl _)) <| pv rfl rfl rfl (fun _ _ => xmul rfl rfl) (.inl rfl) <| ?_
  have hz := bs hF; obtain ⟨x9, Ex9, hF⟩ := hz
  refine pe1 rfl <| cl rfl rfl (xc cb81 (mc rfl (mc rfl mn))) (c81 Ex9) ?_
  rintro _ w10 ⟨u2, rfl, r12, hx9⟩
  have k30 := k25.tr hx9
  have k31 := k26.tr hx9
  have k32 := k27.tr hx9
  have k33 := k28.tr hx9
  have k34 := k29.tr hx9
  have hb26 := hb24.ext hx9
  have hz := id r12; obtain ⟨_, rfl, ⟨_, _, rfl, rfl, rfl⟩⟩ := hz
  refine nl ⟨fun _ _ => hx9, ?_⟩
  refine pe1 rfl <| sst rfl rfl rfl ti116 hb26 rfl rfl (ble rfl) fun w11 hch2 hb27 => ?_
  have k35 := Ext.chg k30 hch2 (Nat.le_trans k2.size hg4)
  have k36 := Ext.chg k31 hch2 (Nat.le_trans k3.size hg4)
  have k37 := Ext.chg k32 hch2 (Nat.le_trans hx3.size hg4)
  have k38 := Ext.chg k33 hch2 (Nat.le_trans (Nat.le_refl _) hg4)
  have hb28 : Bx w11 b7 116 [.int .i64 x9.1, .int .i64 x9.2] := hb27
  refine nl ⟨fun h => (h (by decide)).elim, ?_⟩
  cases hF
  exact wp_ret <| rt rfl (.cell rfl rfl ti116 rfl (Bx.cs hb28) .nil) ⟨_, rfl, (show RV (α := (Int × Int)) _ (.agg [.int .i64 x9.1, .int .i64 x9.2].toArray) (x9.1, x9.2) from ⟨_, rfl, ⟨[.int .i64 x9.1], [.int .i64 x9.2], rfl, rfl, rfl⟩⟩), k35⟩

set_option maxHeartbeats 4000000 in
theorem c78 {w0 : World} {v0 : Value} {x0 : (List (Int × Int))} (r0 : RV w0 v0 x0) {F : Nat} {r : ((List Int) × Int)} (hF : bath_whole F x0 = some r) :
    Calls Try.prog 78 [v0].toArray w0 (Ret fun v w' => ∃ u0 : Value, v = .tuple #[u0, .int .i64 r.2] ∧ Row 2 w0.heap.size w' u0 r.1 ∧ Ext w0 w') := by
  unfold bath_whole at hF
  have hz := r0.sl; obtain ⟨a1, cq1, rfl, -, -, -⟩ := hz
  refine entr (n := 45) Try.func78 rfl rfl rfl <| wp_seq <| rg <| vl rfl rfl xas <| vl rfl rfl xas <| nl <| wp_seq <| rg <| vl rfl rfl xas <| nl <| wp_seq <| wp_seq <| rg <| vl rfl rfl xmv <| vl rfl rfl (xlen rfl Try.underlying118) <| vl rfl rfl xmv <| nl <| ?_
  have hz := bs hF; obtain ⟨z1, hB1, hF⟩ := hz
  refine ct (fun L w => L 4 = .int .i64 z1 ∧ L 0 = .slice a1 x0.length cq1 ∧ Ext w0 w) ?_ ?_
  ·
    refine wp_block <| lp (I := fun m L w => ∃ y1 : Int, ∃ y2 : Int, bath_whole_l1 F x0 m y1 y2  = some z1 ∧ L 4 = .int .i64 y1 ∧ L 12 = .int .i64 y2 ∧ L 0 = .slice a1 x0.length cq1 ∧ L 10 = .slice a1 x0.length cq1 ∧ L 11 = .int .i64 (x0.length : Int) ∧ Ext w0 w) F ⟨_, _, hB1, rfl, rfl, rfl, rfl, rfl, (Ext.refl _)⟩ ?_
    rintro m L w1 ⟨y1, y2, hB1, l4_i1, l12_i1, l0_i1, l10_i1, l11_i1, K0_i1⟩
    rcases m with _ | m
    · rw [bath_whole_l1] at hB1; cases hB1
    rw [bath_whole_l1] at hB1
    have r2 := r0.ext K0_i1
    refine wp_seq <| rg <| vl rfl rfl (xlss l12_i1 l11_i1) <| nl <| wp_seq <| cnd rfl (fun h2 => ?_) (fun h2 => ?_)
    ·
      have hB1 := ifp hB1 h2
      refine wp_skip <| wp_seq <| wp_block <| wp_seq <| rg <| ?_
      have hz := bs hB1; obtain ⟨x2, Ex2, hB1⟩ := hz
      have hz := (RV.els r0).ix Ex2; obtain ⟨b2, f1, cs2, e1, i2, i3, q2, hc1⟩ := hz
      cases e1
      obtain ⟨_, _, rfl, rfl, rfl⟩ := q2
      have hc2 := hc1.ext K0_i1
      refine vl rfl rfl (xixs l10_i1 l12_i1 Try.underlying118 ti116 i2 i3) <| vl rfl rfl (xlda rfl ti116 rfl hc2) <| sal ti116 fun b3 w2 hx1 hg1 hb1 => ?_
      have k1 := K0_i1.tr hx1
      have r3 := r2.ext hx1
      refine sst rfl rfl rfl ti116 hb1 rfl rfl (ble rfl) fun w3 hch1 hb2 => ?_
      have k2 := Ext.chg k1 hch1 (Nat.le_trans K0_i1.size hg1)
      have k3 := Ext.chg hx1 hch1 (Nat.le_trans (Nat.le_refl _) hg1)
      have r4 := r2.ext k3
      have hb3 : Bx w3 b3 116 [.int .i64 x2.1, .int .i64 x2.2] := hb2
      refine nl <| wpl [] (.pure true 0 (.pure true 1 (.pure true 2 (.pure false 3 (.pure true 6 (.pure false 7 (.eff 4 (.pure true 5 (.pure true 8 (.pure true 9 .fin))) .stop))))))) mixed (by kernel_rfl) (fun w4 hx2 => ?_)
      have k4 := k2.tr hx2
      have k5 := k3.tr hx2
      have hb4 := hb3.ext hx2
      have r5 := r4.ext hx2
      refine pv rfl rfl rfl (fun _ _ => xmv) (.inl rfl) <| pv rfl rfl rfl (fun _ _ => xmv) (.inl rfl) <| pv rfl rfl rfl (fun _ _ => xfa rfl fa116_1) (.inl rfl) <| pv rfl rfl rfl (fun _ hS => xld rfl ti2 ((Bx.cs (hb4.ext (hS.resolve_left nofun))).at 1 rfl)) (.inr (Ext.refl _)) <| pv rfl rfl rfl (fun _ _ => xfa rfl fa116_1) (.inl rfl) <| pv rfl rfl rfl (fun _ hS => xld rfl ti2 ((Bx.cs (hb4.ext (hS.resolve_left nofun))).at 1 rfl)) (.inr (Ext.refl _)) <| ?_
      have hz := bs hB1; obtain ⟨x3, Ex3, hB1⟩ := hz
      refine pe1 rfl <| cl rfl rfl (xc cb82 (mc l4_i1 (mc rfl mn))) (c82 Ex3) ?_
      rintro _ w5 ⟨rfl, hx3⟩
      have k6 := k4.tr hx3
      have k7 := k5.tr hx3
      have r6 := r5.ext hx3
      refine nl ⟨fun _ _ => hx3, ?_⟩
      have hz := bs hB1; obtain ⟨x4, Ex4, hB1⟩ := hz
      refine pv rfl rfl rfl (fun _ _ => xquov l4_i1 rfl Ex4) (.inl rfl) <| pv rfl rfl rfl (fun _ _ => xmul rfl rfl) (.inl rfl) <| pv rfl rfl rfl (fun _ _ => xas) (.inl rfl) <| rg <| vl rfl rfl (xadd l12_i1 rfl) <| vl rfl rfl xmv <| nl <| ?_
      refine lq m (Nat.lt_succ_self _) <| ?_
      exact ⟨_, _, hB1, rfl, rfl, l0_i1, l10_i1, l11_i1, k6⟩
    ·
      have hB1 := ifn hB1 h2
      refine wp_exit <| ?_
      cases hB1
      refine lf <| ?_
      exact ⟨l4_i1, l0_i1, K0_i1⟩
  rintro L w6 ⟨l4_j1, l0_j1, K0_j1⟩
  have r7 := r0.ext K0_j1
  refine wp_seq <| rg <| vl rfl rfl xas <| nl <| wp_seq <| wp_seq <| rg <| vl rfl rfl xmv <| vl rfl rfl (xlen l0_j1 Try.underlying118) <| vl rfl rfl xmv <| nl <| ?_
  have o2 : Row (α := Int) 2 w6.heap.size w6 (.slice none 0 0) [] := Row.nil
  have hz := bs hF; obtain ⟨z2, hB4, hF⟩ := hz
  refine ct (fun L w => ∃ v3 : Value, L 7 = v3 ∧ Row 2 w6.heap.size w v3 z2 ∧ L 4 = .int .i64 z1 ∧ Ext w6 w) ?_ ?_
  ·
    refine wp_block <| lp (I := fun m L w => ∃ y3 : (List Int), ∃ y4 : Int, ∃ v2 : Value, bath_whole_l2 F x0 z1 m y3 y4  = some z2 ∧ L 7 = v2 ∧ Row 2 w6.heap.size w v2 y3 ∧ L 28 = .int .i64 y4 ∧ L 4 = .int .i64 z1 ∧ L 26 = .slice a1 x0.length cq1 ∧ L 27 = .int .i64 (x0.length : Int) ∧ Ext w6 w) F ⟨_, _, _, hB4, rfl, o2, rfl, l4_j1, l0_j1, rfl, (Ext.refl _)⟩ ?_
    rintro m L w7 ⟨y3, y4, v2, hB4, l7_i4, O7_i4, l28_i4, l4_i4, l26_i4, l27_i4, K0_i4⟩
    rcases m with _ | m
    · rw [bath_whole_l2] at hB4; cases hB4
    rw [bath_whole_l2] at hB4
    have k8 := K0_j1.tr K0_i4
    have r8 := r7.ext K0_i4
    have hz := RV.sl O7_i4.rv; obtain ⟨a2, cq2, rfl, -, -, -⟩ := hz
    refine wp_seq <| rg <| vl rfl rfl (xlss l28_i4 l27_i4) <| nl <| wp_seq <| cnd rfl (fun h3 => ?_) (fun h3 => ?_)
    ·
      have hB4 := ifp hB4 h3
      refine wp_skip <| wp_seq <| wp_block <| wp_seq <| rg <| ?_
      have hz := bs hB4; obtain ⟨x5, Ex5, hB4⟩ := hz
      have hz := (RV.els r0).ix Ex5; obtain ⟨b4, f2, cs3, e2, i5, i6, q3, hc3⟩ := hz
      cases e2
      obtain ⟨_, _, rfl, rfl, rfl⟩ := q3
      have hc4 := hc3.ext k8
      refine vl rfl rfl (xixs l26_i4 l28_i4 Try.underlying118 ti116 i5 i6) <| vl rfl rfl (xlda rfl ti116 rfl hc4) <| sal ti116 fun b5 w8 hx4 hg2 hb5 => ?_
      have k9 := k8.tr hx4
      have k10 := K0_i4.tr hx4
      have r9 := r8.ext hx4
      have O1 := O7_i4.ext hx4
      refine sst rfl rfl rfl ti116 hb5 rfl rfl (ble rfl) fun w9 hch2 hb6 => ?_
      have k11 := Ext.chg k9 hch2 (Nat.le_trans k8.size hg2)
      have k12 := Ext.chg k10 hch2 (Nat.le_trans K0_i4.size hg2)
      have k13 := Ext.chg hx4 hch2 (Nat.le_trans (Nat.le_refl _) hg2)
      have r10 := r8.ext k13
      have O2 := O7_i4.ext k13
      have hb7 : Bx w9 b5 116 [.int .i64 x5.1, .int .i64 x5.2] := hb6
      refine nl <| wplG (row := (Value.ownBlock (.slice a2 y3.length cq2))) [] (.pure true 0 (.pure true 1 (.pure false 2 (.pure true 3 (.pure true 4 (.pure false 5 (.pure true 6 (.pure true 7 (.eff 8 (.eff 9 (.pure true 10 .fin) .stop) .stop))))))))) mixed (by kernel_rfl) (fun w10 hx5 => ?_)
      have k14 := k11.tr hx5
      have k15 := k12.tr hx5
      have k16 := k13.tr hx5
      have hb8 := hb7.ext hx5
      have r11 := r10.ext hx5
      have O3 := O2.ext hx5
      refine pv rfl rfl rfl (fun _ _ => xmv) (.inl rfl) <| pv rfl rfl rfl (fun _ _ => xfa rfl fa116_0) (.inl rfl) <| pv rfl rfl rfl (fun _ hS => xld rfl ti2 ((Bx.cs (Bx.gr hb8 (hS.resolve_left nofun) (O7_i4.ne_new hg2))).at 0 rfl)) (.inr (Ext.gro (Ext.refl _))) <| pv rfl rfl rfl (fun _ _ => xmv) (.inl rfl) <| pv rfl rfl rfl (fun _ _ => xfa rfl fa116_1) (.inl rfl) <| pv rfl rfl rfl (fun _ hS => xld rfl ti2 ((Bx.cs (Bx.gr hb8 (hS.resolve_left nofun) (O7_i4.ne_new hg2))).at 1 rfl)) (.inr (Ext.gro (Ext.refl _))) <| ?_
      have hz := bs hB4; obtain ⟨x6, Ex6, hB4⟩ := hz
      refine pv rfl rfl rfl (fun _ _ => xquov l4_i4 rfl Ex6) (.inl rfl) <| pv rfl rfl rfl (fun _ _ => xmul rfl rfl) (.inl rfl) <| pe1 rfl <| sbsv (cs := [.int .i64 (w64 (x5.1 * x6))]) Try.underlying22 ti2 rfl (pc rfl pn) rfl rfl rfl rfl rfl fun b6 w11 hx6 hg3 hb9 => ?_
      have k17 := k14.tr hx6
      have k18 := k15.tr hx6
      have k19 := k16.tr hx6
      have r12 := r11.ext hx6
      have O4 := O3.ext hx6
      have o4 : Row (α := Int) 2 w10.heap.size w11 (.slice (some ⟨b6, 0, none⟩) 1 1) [w64 (x5.1 * x6)] := Row.lit hg3 hb9 rfl (ble rfl)
      refine nl ⟨fun _ _ => (Ext.gro hx6), ?_⟩
      have hz := bs hB4; obtain ⟨x7, Ex7, hB4⟩ := hz
      refine pe1 rfl <| sapx (l := y3) (k := ([w64 (x5.1 * x6)] : List Int)) l7_i4 rfl Try.underlying22 ti2 rfl rfl O4 (RV.els o4.rv) Ex7 k18.size fun v4 w12 o5 hB6 hgr1 how1 => ?_
      have k20 := Ext.grow k17 K0_j1.size hB6
      have k21 : Ext w6 w12 := k18.trans hB6
      have gS1 := World.grownBy.tr (Ext.gro hx6) hgr1
      have r14 := r7.ext k21
      have hz := RV.sl o5.rv; obtain ⟨a3, cq3, rfl, -, -, -⟩ := hz
      refine nl ⟨fun _ _ => gS1, ?_⟩
      refine pv rfl rfl rfl (fun _ _ => xas) (.inl rfl) <| rg <| vl rfl rfl (xadd l28_i4 rfl) <| vl rfl rfl xmv <| nl <| ?_
      refine lq m (Nat.lt_succ_self _) <| ?_
      exact ⟨_, _, _, hB4, rfl, o5, rfl, l4_i4, l26_i4, l27_i4, k21⟩
    ·
      have hB4 := ifn hB4 h3
      refine wp_exit <| ?_
      cases hB4
      refine lf <| ?_
      exact ⟨_, l7_i4, O7_i4, l4_i4, K0_i4⟩
  rintro L w13 ⟨v3, l7_j2, O7_j2, l4_j2, K0_j2⟩
  have k22 := K0_j1.tr K0_j2
  have hz := RV.sl O7_j2.rv; obtain ⟨a4, cq4, rfl, -, -, -⟩ := hz
  refine wp_seq <| rg <| vl rfl rfl xmv <| vl rfl rfl xmv <| vl rfl rfl xas <| vl rfl rfl xas <| nl <| ?_
  cases hF
  exact wp_ret <| rt rfl (.tmp l7_j2 rfl (.tmp l4_j2 rfl .nil)) ⟨_, rfl, (O7_j2.bnd K0_j1.size), k22⟩
end Go.Proofs.Ytboefnpnoojfpaa
