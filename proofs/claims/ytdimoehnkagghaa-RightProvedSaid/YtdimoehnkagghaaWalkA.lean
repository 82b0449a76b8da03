/-
  Each function of the program returns what its pure function computes, and leaves all memory that was there as it was. Condition: the pure function computes something.
-/
import Derived.Test.YtdimoehnkagghaaFacts
import Derived.Test.YtdimoehnkagghaaPureA
namespace Go.Proofs.Ytdimoehnkagghaa
open Go Go.Md Go.RowKit
attribute [local irreducible] Go.wpList Go.Code.wp Go.Calls Go.Md.Rnd Go.Md.Mt Go.Md.MtM Go.Md.RndM Go.Code.wpIn

set_option maxHeartbeats 4000000 in
theorem c42 {w0 : World} {v0 : Value} {x0 : (List ((List Int) × Int))} (r0 : RV w0 v0 x0) {F : Nat} {r : Bool} (hF : law10_long F x0 = some r) :
    Calls Try.prog 42 [v0].toArray w0 (Ret fun v w' => v = .bool r ∧ Ext w0 w') := by
  unfold law10_long at hF
  have hz := r0.sl; obtain ⟨a1, c1, rfl, -, -, -⟩ := hz
  refine entr (n := 17) Try.func42 rfl rfl rfl <| wp_seq <| rg <| vl rfl rfl xas <| nl <| wp_seq <| wp_seq <| rg <| vl rfl rfl xas <| nl <| ?_
  have hz := bs hF; obtain ⟨o1, hB1, hF⟩ := hz
  refine ct (fun L w => o1 = .inr () ∧ Ext w0 w) ?_ ?_
  ·
    refine wp_block <| lp (I := fun m L w => ∃ y1 : Int, law10_long_l1 F x0 m y1  = some o1 ∧ L 3 = .int .i64 y1 ∧ L 0 = .slice a1 x0.length c1 ∧ Ext w0 w) F ⟨_, hB1, rfl, rfl, (Ext.refl _)⟩ ?_
    rintro m L w1 ⟨y1, hB1, l3_i1, l0_i1, K0_i1⟩
    rcases m with _ | m
    · rw [law10_long_l1] at hB1; cases hB1
    rw [law10_long_l1] at hB1
    have r2 := r0.ext K0_i1
    refine wp_seq <| wp_seq <| rg <| vl rfl rfl xmv <| vl rfl rfl xmv <| vl rfl rfl (xlen l0_i1 Try.underlying23) <| vl rfl rfl (xlss l3_i1 rfl) <| nl <| cnd rfl (fun h2 => ?_) (fun h2 => ?_)
    ·
      have hB1 := ifp hB1 h2
      refine wp_skip <| wp_seq <| wp_block <| wp_seq <| rg <| vl rfl rfl xmv <| vl rfl rfl xmv <| ?_
      have hz := bs hB1; obtain ⟨x2, Ex2, hB1⟩ := hz
      have hz := (RV.els r0).ix Ex2; obtain ⟨b2, f1, cs2, e1, i2, i3, q2, hc1⟩ := hz
      cases e1
      obtain ⟨_, _, rfl, ⟨a2, c2, rfl, p1, q3, e2⟩, rfl⟩ := q2
      have r3 := RV.of1 p1 q3 e2
      have hc2 := hc1.ext K0_i1
      have r4 := r3.ext K0_i1
      refine vl rfl rfl (xixs l0_i1 l3_i1 Try.underlying23 ti54 i2 i3) <| vl rfl rfl (xfa rfl fa54_0) <| vl rfl rfl (xld rfl ti22 (hc2.at 0 rfl)) <| vl rfl rfl (xlen rfl Try.underlying22) <| vl rfl rfl (xgtr rfl rfl) <| nl <| cnd rfl (fun h3 => ?_) (fun h3 => ?_)
      ·
        have hB1 := ifp hB1 h3
        refine wp_seq <| rg <| vl rfl rfl xas <| nl <| ?_
        cases hB1
        have hF := (show some _ = some _ from hF); cases hF
        exact wp_ret <| rt rfl (.tmp rfl rfl .nil) ⟨rfl, K0_i1⟩
      ·
        have hB1 := ifn hB1 h3
        refine wp_skip <| rg <| vl rfl rfl xmv <| vl rfl rfl (xadd l3_i1 rfl) <| vl rfl rfl xas <| nl <| ?_
        refine lq m (Nat.lt_succ_self _) <| ?_
        exact ⟨_, hB1, rfl, l0_i1, K0_i1⟩
    ·
      have hB1 := ifn hB1 h2
      refine wp_exit <| ?_
      cases hB1
      refine lf <| ?_
      exact ⟨rfl, K0_i1⟩
  rintro L w2 ⟨rfl, K0_j1⟩
  refine wp_seq <| rg <| vl rfl rfl xas <| nl <| ?_
  cases hF
  exact wp_ret <| rt rfl (.tmp rfl rfl .nil) ⟨rfl, K0_j1⟩

set_option maxHeartbeats 4000000 in
theorem c14 {w0 : World} {v0 : Value} {x0 : (Int × (List Int) × (List ((List Int) × Int)) × (List ((List Int) × Int)) × (List (List Int)))} (r0 : RV w0 v0 x0) {F : Nat} {r : Bool} (hF : law10_great F x0 = some r) :
    Calls Try.prog 14 [v0].toArray w0 (Ret fun v w' => v = .bool r ∧ Ext w0 w') := by
  unfold law10_great at hF
  have hz := id r0; obtain ⟨_, rfl, ⟨_, _, rfl, rfl, ⟨_, _, rfl, ⟨a1, c1, rfl, p1, q2, e1⟩, ⟨_, _, rfl, ⟨a2, c2, rfl, p2, q3, e2⟩, ⟨_, _, rfl, ⟨a3, c3, rfl, p3, q4, e3⟩, ⟨a4, c4, rfl, p4, q5, e4⟩⟩⟩⟩⟩⟩ := hz
  have r2 := RV.of1 p1 q2 e1
  have r3 := RV.of1 p2 q3 e2
  have r4 := RV.of1 p3 q4 e3
  have r5 := RV.of1 p4 q5 e4
  refine entr (n := 50) Try.func14 rfl rfl rfl <| wp_seq <| rg <| sbx rfl rfl fun b2 w1 hx1 hg1 hb1 => ?_
  have r6 := r2.ext hx1
  have r7 := r3.ext hx1
  have r8 := r4.ext hx1
  have r9 := r5.ext hx1
  have r10 := r0.ext hx1
  refine vl rfl rfl xas <| nl <| wp_seq <| wp_seq <| rg <| vl rfl rfl (xfa rfl fa26_1) <| vl rfl rfl (xld rfl ti22 ((Bx.cs hb1).at 1 rfl)) <| vl rfl rfl (xlen rfl Try.underlying22) <| vl rfl rfl (xgtr rfl rfl) <| vl rfl rfl xmv <| gv rfl rfl rfl rfl (gw0 rfl) rfl (fun hc => xfa rfl fa26_2) <| gv rfl rfl rfl rfl (gw0 rfl) rfl (fun hc => xld (mv hc rfl) ti23 ((Bx.cs hb1).at 2 rfl)) <| gv rfl rfl rfl rfl (gw0 rfl) rfl (fun hc => xlen (mv hc rfl) Try.underlying23) <| gv rfl rfl rfl rfl (gw0 rfl) rfl (fun hc => xgtr (mv hc rfl) rfl) <| vl rfl rfl (xpo rfl rfl rfl) <| vl rfl rfl xmv <| gv rfl rfl rfl rfl (gw0 rfl) rfl (fun hc => xfa rfl fa26_3) <| gv rfl rfl rfl rfl (gw0 rfl) rfl (fun hc => xld (mv hc rfl) ti23 ((Bx.cs hb1).at 3 rfl)) <| gv rfl rfl rfl rfl (gw0 rfl) rfl (fun hc => xlen (mv hc rfl) Try.underlying23) <| gv rfl rfl rfl rfl (gw0 rfl) rfl (fun hc => xgtr (mv hc rfl) rfl) <| vl rfl rfl (xpo rfl rfl rfl) <| vl rfl rfl xmv <| gv rfl rfl rfl rfl (gw0 rfl) rfl (fun hc => xfa rfl fa26_4) <| gv rfl rfl rfl rfl (gw0 rfl) rfl (fun hc => xld (mv hc rfl) ti24 ((Bx.cs hb1).at 4 rfl)) <| gv rfl rfl rfl rfl (gw0 rfl) rfl (fun hc => xlen (mv hc rfl) Try.underlying24) <| gv rfl rfl rfl rfl (gw0 rfl) rfl (fun hc => xgtr (mv hc rfl) rfl) <| vl rfl rfl (xpo rfl rfl rfl) <| vl rfl rfl xmv <| gv rfl rfl rfl rfl (gw0 rfl) rfl (fun hc => xfa rfl fa26_2) <| gv rfl rfl rfl rfl (gw0 rfl) rfl (fun hc => xld (mv hc rfl) ti23 ((Bx.cs hb1).at 2 rfl)) <| ?_
  have hz := bs hF; obtain ⟨x2, Ex2, hF⟩ := hz
  refine gc rfl rfl rfl rfl (gw0 rfl) rfl (fun hc => xc cb42 (mc (mv hc rfl) mn)) (fun hc => (c42 r7 (gdp Ex2 hc))) (fun v2 w2 hy1 hn1 => ?_)
  have hx2 : Ext w1 w2 := gx (fun h => (hy1 h).2) (fun h => (hn1 h).2 ▸ Ext.refl _)
  have e5 := mkw (fun h => (hy1 h).1) (fun h => (hn1 h).1)
  have k1 := hx1.tr hx2
  have hb2 := hb1.ext hx2
  have r11 := r6.ext hx2
  have r12 := r7.ext hx2
  have r13 := r8.ext hx2
  have r14 := r9.ext hx2
  refine vl rfl rfl (xpo rfl e5 rfl) <| vl rfl rfl xmv <| gv rfl rfl rfl rfl (gw0 rfl) rfl (fun hc => xfa rfl fa26_3) <| gv rfl rfl rfl rfl (gw0 rfl) rfl (fun hc => xld (mv hc rfl) ti23 ((Bx.cs hb2).at 3 rfl)) <| ?_
  have hz := bs hF; obtain ⟨x3, Ex3, hF⟩ := hz
  refine gc rfl rfl rfl rfl (gw0 rfl) rfl (fun hc => xc cb42 (mc (mv hc rfl) mn)) (fun hc => (c42 r13 (gdp Ex3 hc))) (fun v3 w3 hy2 hn2 => ?_)
  have hx3 : Ext w2 w3 := gx (fun h => (hy2 h).2) (fun h => (hn2 h).2 ▸ Ext.refl _)
  have e6 := mkw (fun h => (hy2 h).1) (fun h => (hn2 h).1)
  have k2 := k1.tr hx3
  have hb3 := hb2.ext hx3
  have r15 := r11.ext hx3
  have r16 := r12.ext hx3
  have r17 := r13.ext hx3
  have r18 := r14.ext hx3
  refine vl rfl rfl (xpo rfl e6 rfl) <| nl <| cnd rfl (fun h2 => ?_) (fun h2 => ?_)
  ·
    have hF := ifp hF h2
    refine wp_seq <| rg <| vl rfl rfl xas <| nl <| ?_
    cases hF
    exact wp_ret <| rt rfl (.tmp rfl rfl .nil) ⟨rfl, k2⟩
  ·
    have hF := ifn hF h2
    refine wp_skip <| wp_seq <| wp_seq <| rg <| vl rfl rfl xas <| nl <| ?_
    have hz := bs hF; obtain ⟨o1, hB1, hF⟩ := hz
    refine ct (fun L w => o1 = .inr () ∧ Ext w3 w) ?_ ?_
    ·
      refine wp_block <| lp (I := fun m L w => ∃ y1 : Int, law10_great_l1 F x0 m y1  = some o1 ∧ L 3 = .int .i64 y1 ∧ L 1 = .pointer (some ⟨b2, 0, none⟩) ∧ Ext w3 w) F ⟨_, hB1, rfl, rfl, (Ext.refl _)⟩ ?_
      rintro m L w4 ⟨y1, hB1, l3_i1, l1_i1, K0_i1⟩
      rcases m with _ | m
      · rw [law10_great_l1] at hB1; cases hB1
      rw [law10_great_l1] at hB1
      have k3 := k2.tr K0_i1
      have r19 := r15.ext K0_i1
      have r20 := r16.ext K0_i1
      have r21 := r17.ext K0_i1
      have r22 := r18.ext K0_i1
      have hb4 := hb3.ext K0_i1
      refine wp_seq <| wp_seq <| rg <| vl rfl rfl xmv <| vl rfl rfl (xfa l1_i1 fa26_4) <| vl rfl rfl (xld rfl ti24 ((Bx.cs hb4).at 4 rfl)) <| vl rfl rfl (xlen rfl Try.underlying24) <| vl rfl rfl (xlss l3_i1 rfl) <| nl <| cnd rfl (fun h3 => ?_) (fun h3 => ?_)
      ·
        have hB1 := ifp hB1 h3
        refine wp_skip <| wp_seq <| wp_block <| wp_seq <| rg <| vl rfl rfl (xfa l1_i1 fa26_4) <| vl rfl rfl (xld rfl ti24 ((Bx.cs hb4).at 4 rfl)) <| vl rfl rfl xmv <| ?_
        have hz := bs hB1; obtain ⟨x4, Ex4, hB1⟩ := hz
        have hz := (RV.els r5).ix Ex4; obtain ⟨b3, f1, cs2, e7, i2, i3, q6, hc1⟩ := hz
        cases e7
        obtain ⟨a5, c5, rfl, p5, q7, e8⟩ := q6
        have r23 := RV.of1 p5 q7 e8
        have hc2 := hc1.ext k3
        have r24 := r23.ext k3
        refine vl rfl rfl (xixs rfl l3_i1 Try.underlying24 ti22 i2 i3) <| vl rfl rfl (xld rfl ti22 (hc2.at 0 rfl)) <| vl rfl rfl (xlen rfl Try.underlying22) <| vl rfl rfl (xgtr rfl rfl) <| nl <| cnd rfl (fun h4 => ?_) (fun h4 => ?_)
        ·
          have hB1 := ifp hB1 h4
          refine wp_seq <| rg <| vl rfl rfl xas <| nl <| ?_
          cases hB1
          have hF := (show some _ = some _ from hF); cases hF
          exact wp_ret <| rt rfl (.tmp rfl rfl .nil) ⟨rfl, k3⟩
        ·
          have hB1 := ifn hB1 h4
          refine wp_skip <| rg <| vl rfl rfl xmv <| vl rfl rfl (xadd l3_i1 rfl) <| vl rfl rfl xas <| nl <| ?_
          refine lq m (Nat.lt_succ_self _) <| ?_
          exact ⟨_, hB1, rfl, l1_i1, K0_i1⟩
      ·
        have hB1 := ifn hB1 h3
        refine wp_exit <| ?_
        cases hB1
        refine lf <| ?_
        exact ⟨rfl, K0_i1⟩
    rintro L w5 ⟨rfl, K0_j1⟩
    have k4 := k2.tr K0_j1
    refine wp_seq <| rg <| vl rfl rfl xas <| nl <| ?_
    cases hF
    exact wp_ret <| rt rfl (.tmp rfl rfl .nil) ⟨rfl, k4⟩

set_option maxHeartbeats 4000000 in
theorem c36 {w0 : World} {v0 : Value} {x0 : (List Int)} (r0 : RV w0 v0 x0) {x1 : Int} {F : Nat} {r : Bool} (hF : ref10_In F x0 x1 = some r) :
    Calls Try.prog 36 [v0, .int .i64 x1].toArray w0 (Ret fun v w' => v = .bool r ∧ Ext w0 w') := by
  unfold ref10_In at hF
  have hz := r0.sl; obtain ⟨a1, c1, rfl, -, -, -⟩ := hz
  refine entr (n := 18) Try.func36 rfl rfl rfl <| wp_seq <| rg <| vl rfl rfl xas <| nl <| wp_seq <| wp_seq <| rg <| vl rfl rfl xas <| nl <| ?_
  have hz := bs hF; obtain ⟨o1, hB1, hF⟩ := hz
  refine ct (fun L w => o1 = .inr () ∧ Ext w0 w) ?_ ?_
  ·
    refine wp_block <| lp (I := fun m L w => ∃ y1 : Int, ref10_In_l1 F x0 x1 m y1  = some o1 ∧ L 5 = .int .i64 y1 ∧ L 0 = .slice a1 x0.length c1 ∧ L 1 = .int .i64 x1 ∧ Ext w0 w) F ⟨_, hB1, rfl, rfl, rfl, (Ext.refl _)⟩ ?_
    rintro m L w1 ⟨y1, hB1, l5_i1, l0_i1, l1_i1, K0_i1⟩
    rcases m with _ | m
    · rw [ref10_In_l1] at hB1; cases hB1
    rw [ref10_In_l1] at hB1
    have r3 := r0.ext K0_i1
    refine wp_seq <| wp_seq <| rg <| vl rfl rfl xmv <| vl rfl rfl xmv <| vl rfl rfl (xlen l0_i1 Try.underlying22) <| vl rfl rfl (xlss l5_i1 rfl) <| nl <| cnd rfl (fun h3 => ?_) (fun h3 => ?_)
    ·
      have hB1 := ifp hB1 h3
      refine wp_skip <| wp_seq <| wp_block <| wp_seq <| rg <| vl rfl rfl xmv <| vl rfl rfl xmv <| ?_
      have hz := bs hB1; obtain ⟨x3, Ex3, hB1⟩ := hz
      have hz := (RV.els r0).ix Ex3; obtain ⟨b3, f1, cs3, e1, i2, i3, q3, hc1⟩ := hz
      cases e1
      obtain rfl := q3
      have hc2 := hc1.ext K0_i1
      refine vl rfl rfl (xixs l0_i1 l5_i1 Try.underlying22 ti3 i2 i3) <| vl rfl rfl (xld rfl ti3 (hc2.at 0 rfl)) <| vl rfl rfl xmv <| vl rfl rfl (xeql rfl l1_i1) <| nl <| cnd rfl (fun h4 => ?_) (fun h4 => ?_)
      ·
        have hB1 := ifp hB1 h4
        refine wp_seq <| rg <| vl rfl rfl xas <| nl <| ?_
        cases hB1
        have hF := (show some _ = some _ from hF); cases hF
        exact wp_ret <| rt rfl (.tmp rfl rfl .nil) ⟨rfl, K0_i1⟩
      ·
        have hB1 := ifn hB1 h4
        refine wp_skip <| rg <| vl rfl rfl xmv <| vl rfl rfl (xadd l5_i1 rfl) <| vl rfl rfl xas <| nl <| ?_
        refine lq m (Nat.lt_succ_self _) <| ?_
        exact ⟨_, hB1, rfl, l0_i1, l1_i1, K0_i1⟩
    ·
      have hB1 := ifn hB1 h3
      refine wp_exit <| ?_
      cases hB1
      refine lf <| ?_
      exact ⟨rfl, K0_i1⟩
  rintro L w2 ⟨rfl, K0_j1⟩
  refine wp_seq <| rg <| vl rfl rfl xas <| nl <| ?_
  cases hF
  exact wp_ret <| rt rfl (.tmp rfl rfl .nil) ⟨rfl, K0_j1⟩

set_option maxHeartbeats 4000000 in
theorem c50 {w0 : World} {v0 : Value} {x0 : (List Int)} (r0 : RV w0 v0 x0) {v1 : Value} {x1 : (List Int)} (r1 : RV w0 v1 x1) {F : Nat} {r : Bool} (hF : ref10_all F x0 x1 = some r) :
    Calls Try.prog 50 [v0, v1].toArray w0 (Ret fun v w' => v = .bool r ∧ Ext w0 w') := by
  unfold ref10_all at hF
  have hz := r0.sl; obtain ⟨a1, c1, rfl, -, -, -⟩ := hz
  have hz := r1.sl; obtain ⟨a2, c2, rfl, -, -, -⟩ := hz
  refine entr (n := 19) Try.func50 rfl rfl rfl <| wp_seq <| rg <| vl rfl rfl xas <| nl <| wp_seq <| wp_seq <| rg <| vl rfl rfl xas <| nl <| ?_
  have hz := bs hF; obtain ⟨o1, hB1, hF⟩ := hz
  refine ct (fun L w => o1 = .inr () ∧ Ext w0 w) ?_ ?_
  ·
    refine wp_block <| lp (I := fun m L w => ∃ y1 : Int, ref10_all_l1 F x0 x1 m y1  = some o1 ∧ L 5 = .int .i64 y1 ∧ L 0 = .slice a1 x0.length c1 ∧ L 1 = .slice a2 x1.length c2 ∧ Ext w0 w) F ⟨_, hB1, rfl, rfl, rfl, (Ext.refl _)⟩ ?_
    rintro m L w1 ⟨y1, hB1, l5_i1, l0_i1, l1_i1, K0_i1⟩
    rcases m with _ | m
    · rw [ref10_all_l1] at hB1; cases hB1
    rw [ref10_all_l1] at hB1
    have r3 := r0.ext K0_i1
    have r4 := r1.ext K0_i1
    refine wp_seq <| wp_seq <| rg <| vl rfl rfl xmv <| vl rfl rfl xmv <| vl rfl rfl (xlen l1_i1 Try.underlying22) <| vl rfl rfl (xlss l5_i1 rfl) <| nl <| cnd rfl (fun h3 => ?_) (fun h3 => ?_)
    ·
      have hB1 := ifp hB1 h3
      refine wp_skip <| wp_seq <| wp_block <| wp_seq <| rg <| vl rfl rfl xmv <| vl rfl rfl xmv <| vl rfl rfl xmv <| ?_
      have hz := bs hB1; obtain ⟨x3, Ex3, hB1⟩ := hz
      have hz := (RV.els r1).ix Ex3; obtain ⟨b3, f1, cs3, e1, i2, i3, q3, hc1⟩ := hz
      cases e1
      obtain rfl := q3
      have hc2 := hc1.ext K0_i1
      refine vl rfl rfl (xixs l1_i1 l5_i1 Try.underlying22 ti3 i2 i3) <| vl rfl rfl (xld rfl ti3 (hc2.at 0 rfl)) <| ?_
      have hz := bs hB1; obtain ⟨x4, Ex4, hB1⟩ := hz
      refine cl rfl rfl (xc cb36 (mc l0_i1 (mc rfl mn))) (c36 r3 Ex4) ?_
      rintro _ w2 ⟨rfl, hx1⟩
      have k1 := K0_i1.tr hx1
      have r5 := r3.ext hx1
      have r6 := r4.ext hx1
      refine vl rfl rfl (xnot rfl) <| nl <| cnd rfl (fun h4 => ?_) (fun h4 => ?_)
      ·
        have hB1 := ifp hB1 h4
        refine wp_seq <| rg <| vl rfl rfl xas <| nl <| ?_
        cases hB1
        have hF := (show some _ = some _ from hF); cases hF
        exact wp_ret <| rt rfl (.tmp rfl rfl .nil) ⟨rfl, k1⟩
      ·
        have hB1 := ifn hB1 h4
        refine wp_skip <| rg <| vl rfl rfl xmv <| vl rfl rfl (xadd l5_i1 rfl) <| vl rfl rfl xas <| nl <| ?_
        refine lq m (Nat.lt_succ_self _) <| ?_
        exact ⟨_, hB1, rfl, l0_i1, l1_i1, k1⟩
    ·
      have hB1 := ifn hB1 h3
      refine wp_exit <| ?_
      cases hB1
      refine lf <| ?_
      exact ⟨rfl, K0_i1⟩
  rintro L w3 ⟨rfl, K0_j1⟩
  refine wp_seq <| rg <| vl rfl rfl xas <| nl <| ?_
  cases hF
  exact wp_ret <| rt rfl (.tmp rfl rfl .nil) ⟨rfl, K0_j1⟩

set_option maxHeartbeats 4000000 in
theorem c51 {w0 : World} {v0 : Value} {x0 : (Int × (List Int) × (List ((List Int) × Int)) × (List ((List Int) × Int)) × (List (List Int)))} (r0 : RV w0 v0 x0) {v1 : Value} {x1 : (List Int)} (r1 : RV w0 v1 x1) {F : Nat} {r : (List Int)} (hF : ref10_Closed F x0 x1 = some r) :
    Calls Try.prog 51 [v0, v1].toArray w0 (Ret fun v w' => ∃ u0 : Value, v = u0 ∧ RV w' u0 r ∧ Ext w0 w') := by
  unfold ref10_Closed at hF
  have hz := id r0; obtain ⟨_, rfl, ⟨_, _, rfl, rfl, ⟨_, _, rfl, ⟨a1, c1, rfl, p1, q3, e1⟩, ⟨_, _, rfl, ⟨a2, c2, rfl, p2, q4, e2⟩, ⟨_, _, rfl, ⟨a3, c3, rfl, p3, q5, e3⟩, ⟨a4, c4, rfl, p4, q6, e4⟩⟩⟩⟩⟩⟩ := hz
  have r3 := RV.of1 p1 q3 e1
  have r4 := RV.of1 p2 q4 e2
  have r5 := RV.of1 p3 q5 e3
  have r6 := RV.of1 p4 q6 e4
  have hz := r1.sl; obtain ⟨a5, c5, rfl, -, -, -⟩ := hz
  refine entr (n := 86) Try.func51 rfl rfl rfl <| wp_seq <| rg <| sbx rfl rfl fun b3 w1 hx1 hg1 hb1 => ?_
  have r7 := r1.ext hx1
  have r8 := r3.ext hx1
  have r9 := r4.ext hx1
  have r10 := r5.ext hx1
  have r11 := r6.ext hx1
  have r12 := r0.ext hx1
  refine vl rfl rfl xas <| nl <| wp_seq <| rg <| sbsv (cs := []) Try.underlying22 ti3 rfl pn rfl rfl rfl rfl rfl fun b4 w2 hx2 hg2 hb2 => ?_
  have k1 := hx1.tr hx2
  have hb3 := hb1.ext hx2
  have r13 := r8.ext hx2
  have r14 := r9.ext hx2
  have r15 := r10.ext hx2
  have r16 := r11.ext hx2
  have r17 := r7.ext hx2
  have o1 : Row (α := Int) 3 w1.heap.size w2 (.slice (some ⟨b4, 0, none⟩) 0 0) [] := Row.lit hg2 hb2 rfl (ble rfl)
  refine vl rfl rfl (xfa rfl fa26_1) <| vl rfl rfl (xld rfl ti22 ((Bx.cs hb3).at 1 rfl)) <| ?_
  have hz := bs hF; obtain ⟨x3, Ex3, hF⟩ := hz
  refine sapx (l := ([] : List Int)) (k := x0.2.1) rfl rfl Try.underlying22 ti3 rfl rfl o1 (RV.els r13) Ex3 hx2.size fun v3 w3 o2 hB1 hgr1 how1 => ?_
  have k2 := Ext.grow k1 hx1.size hB1
  have k3 : Ext w1 w3 := hx2.trans hB1
  have hb4 := hb1.ext k3
  have r19 := r8.ext k3
  have r20 := r9.ext k3
  have r21 := r10.ext k3
  have r22 := r11.ext k3
  have r23 := r7.ext k3
  have hz := RV.sl o2.rv; obtain ⟨a6, c6, rfl, -, -, -⟩ := hz
  refine vl rfl rfl xas <| nl <| ?_
  have hz := bs hF; obtain ⟨o3, hB2, hF⟩ := hz
  refine ct (fun L w => False) ?_ ?_
  ·
    refine wp_block <| lp (I := fun m L w => ∃ y1 : (List Int), ∃ v4 : Value, ref10_Closed_l1 F x0 x1 m y1  = some o3 ∧ L 5 = v4 ∧ Row 3 w1.heap.size w v4 y1 ∧ L 1 = .slice a5 x1.length c5 ∧ L 2 = .pointer (some ⟨b3, 0, none⟩) ∧ Ext w1 w) F ⟨_, _, hB2, rfl, o2, rfl, rfl, k3⟩ ?_
    rintro m L w4 ⟨y1, v4, hB2, l5_i1, O5_i1, l1_i1, l2_i1, K0_i1⟩
    rcases m with _ | m
    · rw [ref10_Closed_l1] at hB2; cases hB2
    rw [ref10_Closed_l1] at hB2
    have k4 := hx1.tr K0_i1
    have r24 := r7.ext K0_i1
    have r25 := r8.ext K0_i1
    have r26 := r9.ext K0_i1
    have r27 := r10.ext K0_i1
    have r28 := r11.ext K0_i1
    have hb5 := hb1.ext K0_i1
    have hz := RV.sl O5_i1.rv; obtain ⟨a7, c7, rfl, -, -, -⟩ := hz
    refine wp_block <| wp_seq <| rg <| vl rfl rfl xmv <| vl rfl rfl (xlen l5_i1 Try.underlying22) <| vl rfl rfl xas <| nl <| wp_seq <| wp_seq <| rg <| vl rfl rfl xas <| nl <| ?_
    have hz := bs hB2; obtain ⟨z1, hB3, hB2⟩ := hz
    refine ct (fun L w => ∃ v6 : Value, L 5 = v6 ∧ Row 3 w1.heap.size w v6 z1 ∧ L 1 = .slice a5 x1.length c5 ∧ L 2 = .pointer (some ⟨b3, 0, none⟩) ∧ L 6 = .int .i64 (y1.length : Int) ∧ Ext w1 w) ?_ ?_
    ·
      refine wp_block <| lp (I := fun m L w => ∃ y2 : (List Int), ∃ y3 : Int, ∃ v5 : Value, ref10_Closed_l2 F x0 m y2 y3  = some z1 ∧ L 5 = v5 ∧ Row 3 w1.heap.size w v5 y2 ∧ L 7 = .int .i64 y3 ∧ L 1 = .slice a5 x1.length c5 ∧ L 2 = .pointer (some ⟨b3, 0, none⟩) ∧ L 6 = .int .i64 (y1.length : Int) ∧ Ext w1 w) F ⟨_, _, _, hB3, l5_i1, O5_i1, rfl, l1_i1, l2_i1, rfl, K0_i1⟩ ?_
      rintro m L w5 ⟨y2, y3, v5, hB3, l5_i2, O5_i2, l7_i2, l1_i2, l2_i2, l6_i2, K0_i2⟩
      rcases m with _ | m
      · rw [ref10_Closed_l2] at hB3; cases hB3
      rw [ref10_Closed_l2] at hB3
      have k5 := hx1.tr K0_i2
      have r29 := r7.ext K0_i2
      have r30 := r8.ext K0_i2
      have r31 := r9.ext K0_i2
      have r32 := r10.ext K0_i2
      have r33 := r11.ext K0_i2
      have hb6 := hb1.ext K0_i2
      have hz := RV.sl O5_i2.rv; obtain ⟨a8, c8, rfl, -, -, -⟩ := hz
      refine wp_seq <| wp_seq <| rg <| vl rfl rfl xmv <| vl rfl rfl (xfa l2_i2 fa26_2) <| vl rfl rfl (xld rfl ti23 ((Bx.cs hb6).at 2 rfl)) <| vl rfl rfl (xlen rfl Try.underlying23) <| vl rfl rfl (xlss l7_i2 rfl) <| nl <| cnd rfl (fun h3 => ?_) (fun h3 => ?_)
      ·
        have hB3 := ifp hB3 h3
        refine wp_skip <| wp_seq <| ?_
        have hz := bs hB3; obtain ⟨y4, hB5, hB3⟩ := hz
        refine ct (fun L w => ∃ v7 : Value, L 5 = v7 ∧ Row 3 w1.heap.size w v7 y4 ∧ L 1 = .slice a5 x1.length c5 ∧ L 2 = .pointer (some ⟨b3, 0, none⟩) ∧ L 6 = .int .i64 (y1.length : Int) ∧ L 7 = .int .i64 y3 ∧ Ext w1 w) ?_ ?_
        ·
          refine wp_block <| wp_seq <| ?_
          have hz := bs hB5; obtain ⟨y5, hB6, hB5⟩ := hz
          refine ct (fun L w => L 41 = .bool y5 ∧ L 1 = .slice a5 x1.length c5 ∧ L 2 = .pointer (some ⟨b3, 0, none⟩) ∧ L 5 = .slice a8 y2.length c8 ∧ L 6 = .int .i64 (y1.length : Int) ∧ L 7 = .int .i64 y3 ∧ Ext w5 w) ?_ ?_
          ·
            refine rg <| vl rfl rfl xmv <| vl rfl rfl (xfa l2_i2 fa26_2) <| vl rfl rfl (xld rfl ti23 ((Bx.cs hb6).at 2 rfl)) <| vl rfl rfl xmv <| ?_
            have hz := bs hB6; obtain ⟨x6, Ex6, hB6⟩ := hz
            have hz := (RV.els r4).ix Ex6; obtain ⟨b6, f2, cs4, e7, i5, i6, q9, hc3⟩ := hz
            cases e7
            obtain ⟨_, _, rfl, ⟨a10, c10, rfl, p6, q10, e8⟩, rfl⟩ := q9
            have r41 := RV.of1 p6 q10 e8
            have hc4 := hc3.ext k5
            have r42 := r41.ext k5
            refine vl rfl rfl (xixs rfl l7_i2 Try.underlying23 ti54 i5 i6) <| vl rfl rfl (xfa rfl fa54_0) <| vl rfl rfl (xld rfl ti22 (hc4.at 0 rfl)) <| ?_
            have hz := bs hB6; obtain ⟨x7, Ex7, hB6⟩ := hz
            refine cl rfl rfl (xc cb50 (mc l5_i2 (mc rfl mn))) (c50 O5_i2.rv r42 Ex7) ?_
            rintro _ w7 ⟨rfl, hx4⟩
            have k8 := k5.tr hx4
            have k9 := K0_i2.tr hx4
            have hb8 := hb6.ext hx4
            have r43 := r30.ext hx4
            have r44 := r31.ext hx4
            have r45 := r32.ext hx4
            have r46 := r33.ext hx4
            have r47 := r29.ext hx4
            have O2 := O5_i2.ext hx4
            refine vl rfl rfl xmv <| ?_
            refine Or.elim (Bool.eq_false_or_eq_true x7) (fun h4 => ?_) (fun h4 => ?_)
            ·
              have hB6 := ifp hB6 h4
              refine gtk rfl rfl rfl rfl rfl (bt h4) <| vl rfl rfl xmv <| gtk rfl rfl rfl rfl rfl (bt h4) <| vl rfl rfl (xfa l2_i2 fa26_2) <| gtk rfl rfl rfl rfl rfl (bt h4) <| vl rfl rfl (xld rfl ti23 ((Bx.cs hb8).at 2 rfl)) <| gtk rfl rfl rfl rfl rfl (bt h4) <| vl rfl rfl xmv <| ?_
              have hz := bs hB6; obtain ⟨x8, Ex8, hB6⟩ := hz
              have hz := ix2 r4 Ex8; obtain ⟨cs5, i7, i8, q11, hc5⟩ := hz
              obtain ⟨_, _, rfl, ⟨a11, c11, rfl, p7, q12, e9⟩, rfl⟩ := q11
              have r48 := RV.of1 p7 q12 e9
              have hc6 := hc5.ext k8
              have r49 := r48.ext k8
              refine gtk rfl rfl rfl rfl rfl (bt h4) <| vl rfl rfl (xixs rfl l7_i2 Try.underlying23 ti54 i7 i8) <| gtk rfl rfl rfl rfl rfl (bt h4) <| vl rfl rfl (xfa rfl fa54_1) <| gtk rfl rfl rfl rfl rfl (bt h4) <| vl rfl rfl (xld rfl ti3 (hc6.at 1 rfl)) <| ?_
              have hz := bs hB6; obtain ⟨x9, Ex9, hB6⟩ := hz
              refine gtk rfl rfl rfl rfl rfl (bt h4) <| cl rfl rfl (xc cb36 (mc l5_i2 (mc rfl mn))) (c36 O2.rv Ex9) ?_
              rintro _ w8 ⟨rfl, hx5⟩
              have k10 := k8.tr hx5
              have k11 := k9.tr hx5
              have k12 := hx4.tr hx5
              have hb9 := hb8.ext hx5
              have r50 := r43.ext hx5
              have r51 := r44.ext hx5
              have r52 := r45.ext hx5
              have r53 := r46.ext hx5
              have r54 := r47.ext hx5
              have O3 := O2.ext hx5
              refine gtk rfl rfl rfl rfl rfl (bt h4) <| vl rfl rfl (xnot rfl) <| vl rfl rfl (xpt rfl h4 rfl) <| nl <| ?_
              cases hB6
              refine lf <| ?_
              exact ⟨rfl, l1_i2, l2_i2, l5_i2, l6_i2, l7_i2, k12⟩
            ·
              have hB6 := ifn hB6 h4
              refine gfk rfl rfl rfl rfl rfl (bft h4) rfl <| gfk rfl rfl rfl rfl rfl (bft h4) rfl <| gfk rfl rfl rfl rfl rfl (bft h4) rfl <| gfk rfl rfl rfl rfl rfl (bft h4) rfl <| gfk rfl rfl rfl rfl rfl (bft h4) rfl <| gfk rfl rfl rfl rfl rfl (bft h4) rfl <| gfk rfl rfl rfl rfl rfl (bft h4) rfl <| gfk rfl rfl rfl rfl rfl (bft h4) rfl <| gfk rfl rfl rfl rfl rfl (bft h4) rfl <| vl rfl rfl (xpf rfl h4 rfl) <| nl <| ?_
              cases hB6
              refine lf <| ?_
              exact ⟨rfl, l1_i2, l2_i2, l5_i2, l6_i2, l7_i2, hx4⟩
          rintro L w9 ⟨l41_j1, l1_j1, l2_j1, l5_j1, l6_j1, l7_j1, K0_j1⟩
          have k13 := k5.tr K0_j1
          have k14 := K0_i2.tr K0_j1
          have r55 := r29.ext K0_j1
          have r56 := r30.ext K0_j1
          have r57 := r31.ext K0_j1
          have r58 := r32.ext K0_j1
          have r59 := r33.ext K0_j1
          have hb10 := hb6.ext K0_j1
          have O4 := O5_i2.ext K0_j1
          have hz := bs hB5; obtain ⟨y6, hB7, hB5⟩ := hz
          refine ct (fun L w => ∃ v8 : Value, L 5 = v8 ∧ Row 3 w1.heap.size w v8 y6 ∧ L 1 = .slice a5 x1.length c5 ∧ L 2 = .pointer (some ⟨b3, 0, none⟩) ∧ L 6 = .int .i64 (y1.length : Int) ∧ L 7 = .int .i64 y3 ∧ Ext w1 w) ?_ ?_
          ·
            refine cnd l41_j1 (fun h5 => ?_) (fun h5 => ?_)
            ·
              have hB7 := ifp hB7 h5
              refine rg <| vl rfl rfl xmv <| vl rfl rfl (xfa l2_j1 fa26_2) <| vl rfl rfl (xld rfl ti23 ((Bx.cs hb10).at 2 rfl)) <| vl rfl rfl xmv <| ?_
              have hz := bs hB7; obtain ⟨x10, Ex10, hB7⟩ := hz
              have hz := (RV.els r4).ix Ex10; obtain ⟨b7, f3, cs6, e10, i9, i10, q13, hc7⟩ := hz
              cases e10
              obtain ⟨_, _, rfl, ⟨a12, c12, rfl, p8, q14, e11⟩, rfl⟩ := q13
              have r60 := RV.of1 p8 q14 e11
              have hc8 := hc7.ext k13
              have r61 := r60.ext k13
              refine vl rfl rfl (xixs rfl l7_j1 Try.underlying23 ti54 i9 i10) <| vl rfl rfl (xfa rfl fa54_1) <| vl rfl rfl (xld rfl ti3 (hc8.at 1 rfl)) <| sbsv (cs := [.int .i64 x10.2]) Try.underlying22 ti3 rfl (pc rfl pn) rfl rfl rfl rfl rfl fun b8 w10 hx6 hg3 hb11 => ?_
              have k15 := k13.tr hx6
              have k16 := k14.tr hx6
              have k17 := K0_j1.tr hx6
              have hb12 := hb10.ext hx6
              have r62 := r56.ext hx6
              have r63 := r57.ext hx6
              have r64 := r58.ext hx6
              have r65 := r59.ext hx6
              have r66 := r55.ext hx6
              have O5 := O4.ext hx6
              have o5 : Row (α := Int) 3 w9.heap.size w10 (.slice (some ⟨b8, 0, none⟩) 1 1) [x10.2] := Row.lit hg3 hb11 rfl (ble rfl)
              have hz := bs hB7; obtain ⟨x11, Ex11, hB7⟩ := hz
              refine sapx (l := y2) (k := ([x10.2] : List Int)) l5_j1 rfl Try.underlying22 ti3 rfl rfl O5 (RV.els o5.rv) Ex11 k16.size fun v9 w11 o6 hB9 hgr2 how2 => ?_
              have k18 := Ext.grow k15 hx1.size hB9
              have k19 : Ext w1 w11 := k16.trans hB9
              have hb13 := hb1.ext k19
              have r68 := r8.ext k19
              have r69 := r9.ext k19
              have r70 := r10.ext k19
              have r71 := r11.ext k19
              have r72 := r7.ext k19
              have hz := RV.sl o6.rv; obtain ⟨a13, c13, rfl, -, -, -⟩ := hz
              refine vl rfl rfl xas <| nl <| ?_
              cases hB7
              refine lf <| ?_
              exact ⟨_, rfl, o6, l1_j1, l2_j1, l6_j1, l7_j1, k19⟩
            ·
              have hB7 := ifn hB7 h5
              refine wp_skip <| ?_
              cases hB7
              refine lf <| ?_
              exact ⟨_, l5_j1, O4, l1_j1, l2_j1, l6_j1, l7_j1, k14⟩
          rintro L w12 ⟨v8, l5_j2, O5_j2, l1_j2, l2_j2, l6_j2, l7_j2, K0_j2⟩
          have k20 := hx1.tr K0_j2
          have r73 := r7.ext K0_j2
          have r74 := r8.ext K0_j2
          have r75 := r9.ext K0_j2
          have r76 := r10.ext K0_j2
          have r77 := r11.ext K0_j2
          have hb14 := hb1.ext K0_j2
          have hz := RV.sl O5_j2.rv; obtain ⟨a14, c14, rfl, -, -, -⟩ := hz
          cases hB5
          refine lf <| ?_
          exact ⟨_, l5_j2, O5_j2, l1_j2, l2_j2, l6_j2, l7_j2, K0_j2⟩
        rintro L w13 ⟨v7, l5_j3, O5_j3, l1_j3, l2_j3, l6_j3, l7_j3, K0_j3⟩
        have k21 := hx1.tr K0_j3
        have r78 := r7.ext K0_j3
        have r79 := r8.ext K0_j3
        have r80 := r9.ext K0_j3
        have r81 := r10.ext K0_j3
        have r82 := r11.ext K0_j3
        have hb15 := hb1.ext K0_j3
        have hz := RV.sl O5_j3.rv; obtain ⟨a15, c15, rfl, -, -, -⟩ := hz
        refine rg <| vl rfl rfl xmv <| vl rfl rfl (xadd l7_j3 rfl) <| vl rfl rfl xas <| nl <| ?_
        refine lq m (Nat.lt_succ_self _) <| ?_
        exact ⟨_, _, _, hB3, l5_j3, O5_j3, rfl, l1_j3, l2_j3, l6_j3, K0_j3⟩
      ·
        have hB3 := ifn hB3 h3
        refine wp_exit <| ?_
        cases hB3
        refine lf <| ?_
        exact ⟨_, l5_i2, O5_i2, l1_i2, l2_i2, l6_i2, K0_i2⟩
    rintro L w14 ⟨v6, l5_j4, O5_j4, l1_j4, l2_j4, l6_j4, K0_j4⟩
    have k22 := hx1.tr K0_j4
    have r83 := r7.ext K0_j4
    have r84 := r8.ext K0_j4
    have r85 := r9.ext K0_j4
    have r86 := r10.ext K0_j4
    have r87 := r11.ext K0_j4
    have hb16 := hb1.ext K0_j4
    have hz := RV.sl O5_j4.rv; obtain ⟨a16, c16, rfl, -, -, -⟩ := hz
    refine wp_seq <| wp_seq <| rg <| vl rfl rfl xas <| nl <| ?_
    have hz := bs hB2; obtain ⟨z2, hB12, hB2⟩ := hz
    refine ct (fun L w => ∃ v11 : Value, L 5 = v11 ∧ Row 3 w1.heap.size w v11 z2 ∧ L 1 = .slice a5 x1.length c5 ∧ L 2 = .pointer (some ⟨b3, 0, none⟩) ∧ L 6 = .int .i64 (y1.length : Int) ∧ Ext w1 w) ?_ ?_
    ·
      refine wp_block <| lp (I := fun m L w => ∃ y7 : (List Int), ∃ y8 : Int, ∃ v10 : Value, ref10_Closed_l3 F x0 x1 m y7 y8  = some z2 ∧ L 5 = v10 ∧ Row 3 w1.heap.size w v10 y7 ∧ L 8 = .int .i64 y8 ∧ L 1 = .slice a5 x1.length c5 ∧ L 2 = .pointer (some ⟨b3, 0, none⟩) ∧ L 6 = .int .i64 (y1.length : Int) ∧ Ext w1 w) F ⟨_, _, _, hB12, l5_j4, O5_j4, rfl, l1_j4, l2_j4, l6_j4, K0_j4⟩ ?_
      rintro m L w15 ⟨y7, y8, v10, hB12, l5_i11, O5_i11, l8_i11, l1_i11, l2_i11, l6_i11, K0_i11⟩
      rcases m with _ | m
      · rw [ref10_Closed_l3] at hB12; cases hB12
      rw [ref10_Closed_l3] at hB12
      have k23 := hx1.tr K0_i11
      have r88 := r7.ext K0_i11
      have r89 := r8.ext K0_i11
      have r90 := r9.ext K0_i11
      have r91 := r10.ext K0_i11
      have r92 := r11.ext K0_i11
      have hb17 := hb1.ext K0_i11
      have hz := RV.sl O5_i11.rv; obtain ⟨a17, c17, rfl, -, -, -⟩ := hz
      refine wp_seq <| wp_seq <| rg <| vl rfl rfl xmv <| vl rfl rfl xmv <| vl rfl rfl (xlen l1_i11 Try.underlying22) <| vl rfl rfl (xlss l8_i11 rfl) <| nl <| cnd rfl (fun h6 => ?_) (fun h6 => ?_)
      ·
        have hB12 := ifp hB12 h6
        refine wp_skip <| wp_seq <| ?_
        have hz := bs hB12; obtain ⟨y9, hB14, hB12⟩ := hz
        refine ct (fun L w => ∃ v12 : Value, L 5 = v12 ∧ Row 3 w1.heap.size w v12 y9 ∧ L 1 = .slice a5 x1.length c5 ∧ L 2 = .pointer (some ⟨b3, 0, none⟩) ∧ L 6 = .int .i64 (y1.length : Int) ∧ L 8 = .int .i64 y8 ∧ Ext w1 w) ?_ ?_
        ·
          refine wp_block <| wp_seq <| wpl [] (.pure true 0 (.pure false 1 (.pure true 2 (.pure true 3 (.pure true 4 (.pure false 5 (.pure true 6 (.pure false 7 (.eff 8 (.eff 9 .fin .stop) .stop))))))))) mixed (by kernel_rfl) (fun w16 hx7 => ?_)
          have k24 := k23.tr hx7
          have k25 := K0_i11.tr hx7
          have hb18 := hb17.ext hx7
          have r93 := r89.ext hx7
          have r94 := r90.ext hx7
          have r95 := r91.ext hx7
          have r96 := r92.ext hx7
          have r97 := r88.ext hx7
          have O6 := O5_i11.ext hx7
          refine pv rfl rfl rfl (fun _ _ => xfa l2_i11 fa26_3) (.inl rfl) <| pv rfl rfl rfl (fun _ hS => xld rfl ti23 ((Bx.cs (hb18.ext (hS.resolve_left nofun))).at 3 rfl)) (.inr (Ext.refl _)) <| pv rfl rfl rfl (fun _ _ => xmv) (.inl rfl) <| pv rfl rfl rfl (fun _ _ => xmv) (.inl rfl) <| ?_
          have hz := bs hB14; obtain ⟨x12, Ex12, hB14⟩ := hz
          have hz := (RV.els r1).ix Ex12; obtain ⟨b9, f4, cs7, e12, i12, i13, q15, hc9⟩ := hz
          cases e12
          obtain rfl := q15
          have hc10 := hc9.ext k24
          refine pv rfl rfl rfl (fun _ _ => xixs l1_i11 l8_i11 Try.underlying22 ti3 i12 i13) (.inl rfl) <| pv rfl rfl rfl (fun _ hS => xld rfl ti3 ((hc10.ext (hS.resolve_left nofun)).at 0 rfl)) (.inr (Ext.refl _)) <| ?_
          have hz := bs hB14; obtain ⟨x13, Ex13, hB14⟩ := hz
          have hz := (RV.els r5).ix Ex13; obtain ⟨b10, f5, cs8, e13, i14, i15, q16, hc11⟩ := hz
          cases e13
          obtain ⟨_, _, rfl, ⟨a18, c18, rfl, p9, q17, e14⟩, rfl⟩ := q16
          have r98 := RV.of1 p9 q17 e14
          have hc12 := hc11.ext k24
          have r99 := r98.ext k24
          refine pv rfl rfl rfl (fun _ _ => xixs rfl rfl Try.underlying23 ti54 i14 i15) (.inl rfl) <| pv rfl rfl rfl (fun _ hS => xlda rfl ti54 rfl (hc12.ext (hS.resolve_left nofun))) (.inr (Ext.refl _)) <| pe1 rfl <| sal ti54 fun b11 w17 hx8 hg4 hb19 => ?_
          have k26 := k24.tr hx8
          have k27 := k25.tr hx8
          have k28 := hx7.tr hx8
          have hb20 := hb18.ext hx8
          have r100 := r93.ext hx8
          have r101 := r94.ext hx8
          have r102 := r95.ext hx8
          have r103 := r96.ext hx8
          have r104 := r97.ext hx8
          have O7 := O6.ext hx8
          have r105 := r99.ext hx8
          refine nl ⟨fun _ _ => hx8, ?_⟩
          refine pe1 rfl <| sst rfl rfl rfl ti54 hb19 rfl rfl (ble rfl) fun w18 hch1 hb21 => ?_
          have k29 := Ext.chg k26 hch1 (Nat.le_trans k24.size hg4)
          have k30 := Ext.chg k27 hch1 (Nat.le_trans k25.size hg4)
          have k31 := Ext.chg k28 hch1 (Nat.le_trans hx7.size hg4)
          have k32 := Ext.chg hx8 hch1 (Nat.le_trans (Nat.le_refl _) hg4)
          have hb22 := hb18.ext k32
          have r106 := r93.ext k32
          have r107 := r94.ext k32
          have r108 := r95.ext k32
          have r109 := r96.ext k32
          have r110 := r97.ext k32
          have O8 := O6.ext k32
          have r111 := r99.ext k32
          have hb23 : Bx w18 b11 54 [.slice a18 x13.1.length c18, .int .i64 x13.2] := hb21
          refine nl ⟨fun _ _ => k32, ?_⟩
          refine wp_seq <| rg <| vl rfl rfl xmv <| vl rfl rfl (xfa rfl fa54_0) <| vl rfl rfl (xld rfl ti22 ((Bx.cs hb23).at 0 rfl)) <| ?_
          have hz := bs hB14; obtain ⟨x14, Ex14, hB14⟩ := hz
          refine cl rfl rfl (xc cb50 (mc l5_i11 (mc rfl mn))) (c50 O8.rv r111 Ex14) ?_
          rintro _ w19 ⟨rfl, hx9⟩
          have k33 := k29.tr hx9
          have k34 := k30.tr hx9
          have k35 := k31.tr hx9
          have k36 := k32.tr hx9
          have hb24 := hb22.ext hx9
          have r112 := r106.ext hx9
          have r113 := r107.ext hx9
          have r114 := r108.ext hx9
          have r115 := r109.ext hx9
          have hb25 := hb23.ext hx9
          have r116 := r111.ext hx9
          have r117 := r110.ext hx9
          have O9 := O8.ext hx9
          refine vl rfl rfl xmv <| gv rfl rfl rfl rfl (gw1 rfl) rfl (fun hc => xmva l5_i11) <| gv rfl rfl rfl rfl (gw1 rfl) rfl (fun hc => xfa rfl fa54_1) <| gv rfl rfl rfl rfl (gw1 rfl) rfl (fun hc => xld (mv hc rfl) ti3 ((Bx.cs hb25).at 1 rfl)) <| ?_
          have hz := bs hB14; obtain ⟨x15, Ex15, hB14⟩ := hz
          refine gc rfl rfl rfl rfl (gw1 rfl) rfl (fun hc => xc cb36 (mc (mv hc rfl) (mc (mv hc rfl) mn))) (fun hc => (c36 O9.rv (gdp Ex15 hc))) (fun v13 w20 hy1 hn1 => ?_)
          have hx10 : Ext w19 w20 := gx (fun h => (hy1 h).2) (fun h => (hn1 h).2 ▸ Ext.refl _)
          have e15 := mkw (fun h => (hy1 h).1) (fun h => (hn1 h).1)
          have k37 := k33.tr hx10
          have k38 := k34.tr hx10
          have k39 := k35.tr hx10
          have k40 := k36.tr hx10
          have hb26 := hb24.ext hx10
          have r118 := r112.ext hx10
          have r119 := r113.ext hx10
          have r120 := r114.ext hx10
          have r121 := r115.ext hx10
          have hb27 := hb25.ext hx10
          have r122 := r116.ext hx10
          have r123 := r117.ext hx10
          have O10 := O9.ext hx10
          refine gv rfl rfl rfl rfl (gw1 rfl) rfl (fun hc => xnot (mv hc e15)) <| vl rfl rfl (xpa rfl rfl rfl) <| nl <| ?_
          have hz := bs hB14; obtain ⟨y10, hB15, hB14⟩ := hz
          refine ct (fun L w => ∃ v14 : Value, L 5 = v14 ∧ Row 3 w1.heap.size w v14 y10 ∧ L 1 = .slice (some ⟨b9, f4, none⟩) x1.length c5 ∧ L 2 = .pointer (some ⟨b3, 0, none⟩) ∧ L 6 = .int .i64 (y1.length : Int) ∧ L 8 = .int .i64 y8 ∧ Ext w1 w) ?_ ?_
          ·
            refine cnd rfl (fun h7 => ?_) (fun h7 => ?_)
            ·
              have hB15 := ifp hB15 h7
              refine rg <| vl rfl rfl xmv <| vl rfl rfl (xfa rfl fa54_1) <| vl rfl rfl (xld rfl ti3 ((Bx.cs hb27).at 1 rfl)) <| sbsv (cs := [.int .i64 x13.2]) Try.underlying22 ti3 rfl (pc rfl pn) rfl rfl rfl rfl rfl fun b12 w21 hx11 hg5 hb28 => ?_
              have k41 := k37.tr hx11
              have k42 := k38.tr hx11
              have k43 := k39.tr hx11
              have k44 := k40.tr hx11
              have hb29 := hb26.ext hx11
              have r124 := r118.ext hx11
              have r125 := r119.ext hx11
              have r126 := r120.ext hx11
              have r127 := r121.ext hx11
              have r128 := r123.ext hx11
              have O11 := O10.ext hx11
              have o8 : Row (α := Int) 3 w20.heap.size w21 (.slice (some ⟨b12, 0, none⟩) 1 1) [x13.2] := Row.lit hg5 hb28 rfl (ble rfl)
              have hz := bs hB15; obtain ⟨x16, Ex16, hB15⟩ := hz
              refine sapx (l := y7) (k := ([x13.2] : List Int)) l5_i11 rfl Try.underlying22 ti3 rfl rfl O11 (RV.els o8.rv) Ex16 k42.size fun v15 w22 o9 hB17 hgr3 how3 => ?_
              have k45 := Ext.grow k41 hx1.size hB17
              have k46 : Ext w1 w22 := k42.trans hB17
              have hb30 := hb1.ext k46
              have r130 := r8.ext k46
              have r131 := r9.ext k46
              have r132 := r10.ext k46
              have r133 := r11.ext k46
              have r134 := r7.ext k46
              have hz := RV.sl o9.rv; obtain ⟨a19, c19, rfl, -, -, -⟩ := hz
              refine vl rfl rfl xas <| nl <| ?_
              cases hB15
              refine lf <| ?_
              exact ⟨_, rfl, o9, l1_i11, l2_i11, l6_i11, l8_i11, k46⟩
            ·
              have hB15 := ifn hB15 h7
              refine wp_skip <| ?_
              cases hB15
              refine lf <| ?_
              exact ⟨_, l5_i11, O10, l1_i11, l2_i11, l6_i11, l8_i11, k38⟩
          rintro L w23 ⟨v14, l5_j5, O5_j5, l1_j5, l2_j5, l6_j5, l8_j5, K0_j5⟩
          have k47 := hx1.tr K0_j5
          have r135 := r7.ext K0_j5
          have r136 := r8.ext K0_j5
          have r137 := r9.ext K0_j5
          have r138 := r10.ext K0_j5
          have r139 := r11.ext K0_j5
          have hb31 := hb1.ext K0_j5
          have hz := RV.sl O5_j5.rv; obtain ⟨a20, c20, rfl, -, -, -⟩ := hz
          cases hB14
          refine lf <| ?_
          exact ⟨_, l5_j5, O5_j5, l1_j5, l2_j5, l6_j5, l8_j5, K0_j5⟩
        rintro L w24 ⟨v12, l5_j6, O5_j6, l1_j6, l2_j6, l6_j6, l8_j6, K0_j6⟩
        have k48 := hx1.tr K0_j6
        have r140 := r7.ext K0_j6
        have r141 := r8.ext K0_j6
        have r142 := r9.ext K0_j6
        have r143 := r10.ext K0_j6
        have r144 := r11.ext K0_j6
        have hb32 := hb1.ext K0_j6
        have hz := RV.sl O5_j6.rv; obtain ⟨a21, c21, rfl, -, -, -⟩ := hz
        refine rg <| vl rfl rfl xmv <| vl rfl rfl (xadd l8_j6 rfl) <| vl rfl rfl xas <| nl <| ?_
        refine lq m (Nat.lt_succ_self _) <| ?_
        exact ⟨_, _, _, hB12, l5_j6, O5_j6, rfl, l1_j6, l2_j6, l6_j6, K0_j6⟩
      ·
        have hB12 := ifn hB12 h6
        refine wp_exit <| ?_
        cases hB12
        refine lf <| ?_
        exact ⟨_, l5_i11, O5_i11, l1_i11, l2_i11, l6_i11, K0_i11⟩
    rintro L w25 ⟨v11, l5_j7, O5_j7, l1_j7, l2_j7, l6_j7, K0_j7⟩
    have k49 := hx1.tr K0_j7
    have r145 := r7.ext K0_j7
    have r146 := r8.ext K0_j7
    have r147 := r9.ext K0_j7
    have r148 := r10.ext K0_j7
    have r149 := r11.ext K0_j7
    have hb33 := hb1.ext K0_j7
    have hz := RV.sl O5_j7.rv; obtain ⟨a22, c22, rfl, -, -, -⟩ := hz
    refine wp_seq <| rg <| vl rfl rfl xmv <| vl rfl rfl (xlen l5_j7 Try.underlying22) <| vl rfl rfl xmv <| vl rfl rfl (xeql rfl l6_j7) <| nl <| cnd rfl (fun h8 => ?_) (fun h8 => ?_)
    ·
      have hB2 := ifp hB2 h8
      refine wp_seq <| rg <| vl rfl rfl xmv <| vl rfl rfl xas <| nl <| ?_
      cases hB2
      have hF := (show some _ = some _ from hF); cases hF
      exact wp_ret <| rt rfl (.tmp l5_j7 rfl .nil) ⟨_, rfl, O5_j7.rv, k49⟩
    ·
      have hB2 := ifn hB2 h8
      refine wp_skip <| ?_
      refine lq m (Nat.lt_succ_self _) <| ?_
      exact ⟨_, _, hB2, l5_j7, O5_j7, l1_j7, l2_j7, K0_j7⟩
  rintro L w hdead
  exact hdead.elim

set_option maxHeartbeats 4000000 in
theorem c20 {w0 : World} {v0 : Value} {x0 : (Int × (List Int) × (List ((List Int) × Int)) × (List ((List Int) × Int)) × (List (List Int)))} (r0 : RV w0 v0 x0) {v1 : Value} {x1 : (List Int)} (r1 : RV w0 v1 x1) {F : Nat} {r : Int} (hF : ref10_Taboo F x0 x1 = some r) :
    Calls Try.prog 20 [v0, v1].toArray w0 (Ret fun v w' => v = .int .i64 r ∧ Ext w0 w') := by
  unfold ref10_Taboo at hF
  have hz := id r0; obtain ⟨_, rfl, ⟨_, _, rfl, rfl, ⟨_, _, rfl, ⟨a1, c1, rfl, p1, q3, e1⟩, ⟨_, _, rfl, ⟨a2, c2, rfl, p2, q4, e2⟩, ⟨_, _, rfl, ⟨a3, c3, rfl, p3, q5, e3⟩, ⟨a4, c4, rfl, p4, q6, e4⟩⟩⟩⟩⟩⟩ := hz
  have r3 := RV.of1 p1 q3 e1
  have r4 := RV.of1 p2 q4 e2
  have r5 := RV.of1 p3 q5 e3
  have r6 := RV.of1 p4 q6 e4
  have hz := r1.sl; obtain ⟨a5, c5, rfl, -, -, -⟩ := hz
  refine entr (n := 25) Try.func20 rfl rfl rfl <| wp_seq <| rg <| sbx rfl rfl fun b3 w1 hx1 hg1 hb1 => ?_
  have r7 := r1.ext hx1
  have r8 := r3.ext hx1
  have r9 := r4.ext hx1
  have r10 := r5.ext hx1
  have r11 := r6.ext hx1
  have r12 := r0.ext hx1
  refine vl rfl rfl xas <| nl <| wp_seq <| rg <| vl rfl rfl (xlda rfl ti26 rfl (Bx.cs hb1)) <| vl rfl rfl xmv <| ?_
  have hz := bs hF; obtain ⟨x3, Ex3, hF⟩ := hz
  refine cl rfl rfl (xc cb51 (mc rfl (mc rfl mn))) (c51 (show RV (α := (Int × (List Int) × (List ((List Int) × Int)) × (List ((List Int) × Int)) × (List (List Int)))) _ (.agg [.int .i64 x0.1, .slice a1 x0.2.1.length c1, .slice a2 x0.2.2.1.length c2, .slice a3 x0.2.2.2.1.length c3, .slice a4 x0.2.2.2.2.length c4].toArray) (x0.1, x0.2.1, x0.2.2.1, x0.2.2.2.1, x0.2.2.2.2) from ⟨_, rfl, ⟨[.int .i64 x0.1], [.slice a1 x0.2.1.length c1] ++ ([.slice a2 x0.2.2.1.length c2] ++ ([.slice a3 x0.2.2.2.1.length c3] ++ [.slice a4 x0.2.2.2.2.length c4])), rfl, rfl, ⟨[.slice a1 x0.2.1.length c1], [.slice a2 x0.2.2.1.length c2] ++ ([.slice a3 x0.2.2.2.1.length c3] ++ [.slice a4 x0.2.2.2.2.length c4]), rfl, r8.rep1, ⟨[.slice a2 x0.2.2.1.length c2], [.slice a3 x0.2.2.2.1.length c3] ++ [.slice a4 x0.2.2.2.2.length c4], rfl, r9.rep1, ⟨[.slice a3 x0.2.2.2.1.length c3], [.slice a4 x0.2.2.2.2.length c4], rfl, r10.rep1, r11.rep1⟩⟩⟩⟩⟩) r7 Ex3) ?_
  rintro _ w2 ⟨u1, rfl, r13, hx2⟩
  have k1 := hx1.tr hx2
  have hb2 := hb1.ext hx2
  have r14 := r8.ext hx2
  have r15 := r9.ext hx2
  have r16 := r10.ext hx2
  have r17 := r11.ext hx2
  have hz := RV.sl r13; obtain ⟨a6, c6, rfl, -, -, -⟩ := hz
  refine vl rfl rfl xas <| nl <| wp_seq <| wp_seq <| rg <| vl rfl rfl xas <| nl <| ?_
  have hz := bs hF; obtain ⟨o1, hB1, hF⟩ := hz
  refine ct (fun L w => o1 = .inr () ∧ Ext w2 w) ?_ ?_
  ·
    refine wp_block <| lp (I := fun m L w => ∃ y1 : Int, ref10_Taboo_l1 F x0 x3 m y1  = some o1 ∧ L 6 = .int .i64 y1 ∧ L 2 = .pointer (some ⟨b3, 0, none⟩) ∧ L 5 = .slice a6 x3.length c6 ∧ Ext w2 w) F ⟨_, hB1, rfl, rfl, rfl, (Ext.refl _)⟩ ?_
    rintro m L w3 ⟨y1, hB1, l6_i1, l2_i1, l5_i1, K0_i1⟩
    rcases m with _ | m
    · rw [ref10_Taboo_l1] at hB1; cases hB1
    rw [ref10_Taboo_l1] at hB1
    have k2 := k1.tr K0_i1
    have r18 := r14.ext K0_i1
    have r19 := r15.ext K0_i1
    have r20 := r16.ext K0_i1
    have r21 := r17.ext K0_i1
    have hb3 := hb2.ext K0_i1
    have r22 := r13.ext K0_i1
    refine wp_seq <| wp_seq <| rg <| vl rfl rfl xmv <| vl rfl rfl (xfa l2_i1 fa26_4) <| vl rfl rfl (xld rfl ti24 ((Bx.cs hb3).at 4 rfl)) <| vl rfl rfl (xlen rfl Try.underlying24) <| vl rfl rfl (xlss l6_i1 rfl) <| nl <| cnd rfl (fun h3 => ?_) (fun h3 => ?_)
    ·
      have hB1 := ifp hB1 h3
      refine wp_skip <| wp_seq <| wp_block <| wp_seq <| rg <| vl rfl rfl xmv <| vl rfl rfl (xfa l2_i1 fa26_4) <| vl rfl rfl (xld rfl ti24 ((Bx.cs hb3).at 4 rfl)) <| vl rfl rfl xmv <| ?_
      have hz := bs hB1; obtain ⟨x4, Ex4, hB1⟩ := hz
      have hz := (RV.els r6).ix Ex4; obtain ⟨b4, f1, cs3, e5, i2, i3, q7, hc1⟩ := hz
      cases e5
      obtain ⟨a7, c7, rfl, p5, q8, e6⟩ := q7
      have r23 := RV.of1 p5 q8 e6
      have hc2 := hc1.ext k2
      have r24 := r23.ext k2
      refine vl rfl rfl (xixs rfl l6_i1 Try.underlying24 ti22 i2 i3) <| vl rfl rfl (xld rfl ti22 (hc2.at 0 rfl)) <| ?_
      have hz := bs hB1; obtain ⟨x5, Ex5, hB1⟩ := hz
      refine cl rfl rfl (xc cb50 (mc l5_i1 (mc rfl mn))) (c50 r22 r24 Ex5) ?_
      rintro _ w4 ⟨rfl, hx3⟩
      have k3 := k2.tr hx3
      have k4 := K0_i1.tr hx3
      have hb4 := hb3.ext hx3
      have r25 := r18.ext hx3
      have r26 := r19.ext hx3
      have r27 := r20.ext hx3
      have r28 := r21.ext hx3
      have r29 := r22.ext hx3
      refine nl <| cnd rfl (fun h4 => ?_) (fun h4 => ?_)
      ·
        have hB1 := ifp hB1 h4
        refine wp_seq <| rg <| vl rfl rfl xmv <| vl rfl rfl xas <| nl <| ?_
        cases hB1
        have hF := (show some _ = some _ from hF); cases hF
        exact wp_ret <| rt rfl (.tmp l6_i1 rfl .nil) ⟨rfl, k3⟩
      ·
        have hB1 := ifn hB1 h4
        refine wp_skip <| rg <| vl rfl rfl xmv <| vl rfl rfl (xadd l6_i1 rfl) <| vl rfl rfl xas <| nl <| ?_
        refine lq m (Nat.lt_succ_self _) <| ?_
        exact ⟨_, hB1, rfl, l2_i1, l5_i1, k4⟩
    ·
      have hB1 := ifn hB1 h3
      refine wp_exit <| ?_
      cases hB1
      refine lf <| ?_
      exact ⟨rfl, K0_i1⟩
  rintro L w5 ⟨rfl, K0_j1⟩
  have k5 := k1.tr K0_j1
  refine wp_seq <| rg <| vl rfl rfl xas <| nl <| ?_
  cases hF
  exact wp_ret <| rt rfl (.tmp rfl rfl .nil) ⟨rfl, k5⟩

set_option maxHeartbeats 4000000 in
theorem c64 {w0 : World} {v0 : Value} {x0 : (List Int)} (r0 : RV w0 v0 x0) {x1 : Int} {F : Nat} {r : Bool} (hF : ref10_Rising F x0 x1 = some r) :
    Calls Try.prog 64 [v0, .int .i64 x1].toArray w0 (Ret fun v w' => v = .bool r ∧ Ext w0 w') := by
  unfold ref10_Rising at hF
  have hz := r0.sl; obtain ⟨a1, c1, rfl, -, -, -⟩ := hz
  refine entr (n := 41) Try.func64 rfl rfl rfl <| wp_seq <| rg <| vl rfl rfl xas <| nl <| wp_seq <| wp_seq <| rg <| vl rfl rfl xas <| nl <| ?_
  have hz := bs hF; obtain ⟨o1, hB1, hF⟩ := hz
  refine ct (fun L w => o1 = .inr () ∧ Ext w0 w) ?_ ?_
  ·
    refine wp_block <| lp (I := fun m L w => ∃ y1 : Int, ref10_Rising_l1 F x0 x1 m y1  = some o1 ∧ L 5 = .int .i64 y1 ∧ L 0 = .slice a1 x0.length c1 ∧ L 1 = .int .i64 x1 ∧ Ext w0 w) F ⟨_, hB1, rfl, rfl, rfl, (Ext.refl _)⟩ ?_
    rintro m L w1 ⟨y1, hB1, l5_i1, l0_i1, l1_i1, K0_i1⟩
    rcases m with _ | m
    · rw [ref10_Rising_l1] at hB1; cases hB1
    rw [ref10_Rising_l1] at hB1
    have r3 := r0.ext K0_i1
    refine wp_seq <| wp_seq <| rg <| vl rfl rfl xmv <| vl rfl rfl xmv <| vl rfl rfl (xlen l0_i1 Try.underlying22) <| vl rfl rfl (xlss l5_i1 rfl) <| nl <| cnd rfl (fun h3 => ?_) (fun h3 => ?_)
    ·
      have hB1 := ifp hB1 h3
      refine wp_skip <| wp_seq <| wp_block <| wp_seq <| ?_
      have hz := bs hB1; obtain ⟨y2, hB3, hB1⟩ := hz
      refine ct (fun L w => L 40 = .bool y2 ∧ L 0 = .slice a1 x0.length c1 ∧ L 1 = .int .i64 x1 ∧ L 5 = .int .i64 y1 ∧ Ext w1 w) ?_ ?_
      ·
        refine wpl [] (.pure true 0 (.pure true 1 (.pure true 2 (.pure false 3 (.pure true 4 (.pure true 5 (.pure true 6 (.pure true 7 (.pure true 8 (.pure false 9 (.pure true 10 (.pure true 11 (.pure true 12 (.pure true 13 (.pure true 14 (.pure true 15 (.pure true 16 (.pure true 17 (.pure true 18 (.pure true 19 (.pure false 20 (.pure true 21 (.pure true 22 (.pure true 23 (.pure true 24 (.pure false 25 (.pure true 26 (.pure true 27 (.pure true 28 .fin))))))))))))))))))))))))))))) mixed (by kernel_rfl) (fun w3 hx2 => ?_)
        have k2 := K0_i1.tr hx2
        have r5 := r3.ext hx2
        refine pv rfl rfl rfl (fun _ _ => xmv) (.inl rfl) <| pv rfl rfl rfl (fun _ _ => xmv) (.inl rfl) <| ?_
        have hz := bs hB3; obtain ⟨x4, Ex4, hB3⟩ := hz
        have hz := (RV.els r0).ix Ex4; obtain ⟨b4, f2, cs4, e2, i4, i5, q4, hc3⟩ := hz
        cases e2
        obtain rfl := q4
        have hc4 := hc3.ext k2
        refine pv rfl rfl rfl (fun _ _ => xixs l0_i1 l5_i1 Try.underlying22 ti3 i4 i5) (.inl rfl) <| pv rfl rfl rfl (fun _ hS => xld rfl ti3 ((hc4.ext (hS.resolve_left nofun)).at 0 rfl)) (.inr (Ext.refl _)) <| pv rfl rfl rfl (fun _ _ => xlss rfl rfl) (.inl rfl) <| pv rfl rfl rfl (fun _ _ => xmv) (.inl rfl) <| ?_
        refine Or.elim (Bool.eq_false_or_eq_true (decide (x4 < 0))) (fun h4 => ?_) (fun h4 => ?_)
        ·
          have hB3 := ifp hB3 h4
          refine pvf rfl rfl rfl rfl rfl rfl (btf h4) rfl (.inl rfl) <| pvf rfl rfl rfl rfl rfl rfl (btf h4) rfl (.inl rfl) <| pvf rfl rfl rfl rfl rfl rfl (btf h4) rfl (.inl rfl) <| pvf rfl rfl rfl rfl rfl rfl (btf h4) rfl (.inr (Ext.refl _)) <| pvf rfl rfl rfl rfl rfl rfl (btf h4) rfl (.inl rfl) <| pvf rfl rfl rfl rfl rfl rfl (btf h4) rfl (.inl rfl) <| pv rfl rfl rfl (fun _ _ => xpt rfl h4 rfl) (.inl rfl) <| pv rfl rfl rfl (fun _ _ => xmv) (.inl rfl) <| ?_
          refine Or.elim (Bool.eq_false_or_eq_true true) (fun h5 => ?_) (fun h5 => ?_)
          ·
            have hB3 := ifp hB3 h5
            refine pvf rfl rfl rfl rfl rfl rfl (btf h5) rfl (.inl rfl) <| pvf rfl rfl rfl rfl rfl rfl (btf h5) rfl (.inl rfl) <| pvf rfl rfl rfl rfl rfl rfl (btf h5) rfl (.inl rfl) <| pvf rfl rfl rfl rfl rfl rfl bu rfl (.inl rfl) <| pvf rfl rfl rfl rfl rfl rfl bu rfl (.inl rfl) <| pvf rfl rfl rfl rfl rfl rfl bu rfl (.inl rfl) <| pvf rfl rfl rfl rfl rfl rfl bu rfl (.inr (Ext.refl _)) <| pvf rfl rfl rfl rfl rfl rfl bu rfl (.inl rfl) <| pvf rfl rfl rfl rfl rfl rfl bu rfl (.inl rfl) <| pvf rfl rfl rfl rfl rfl rfl bu rfl (.inl rfl) <| pvf rfl rfl rfl rfl rfl rfl bu rfl (.inl rfl) <| pvf rfl rfl rfl rfl rfl rfl bu rfl (.inr (Ext.refl _)) <| pvf rfl rfl rfl rfl rfl rfl bu rfl (.inl rfl) <| pvf rfl rfl rfl rfl rfl rfl (btf h5) rfl (.inl rfl) <| pv rfl rfl rfl (fun _ _ => xpt rfl h5 rfl) (.inl rfl) <| ?_
            cases hB3
            refine lf <| ?_
            exact ⟨rfl, l0_i1, l1_i1, l5_i1, hx2⟩
          ·
            have hB3 := ifn hB3 h5
            refine pvt rfl rfl rfl rfl rfl rfl (bf h5) rfl (fun _ _ => xmv) (.inl rfl) <| pvt rfl rfl rfl rfl rfl rfl (bf h5) rfl (fun _ _ => xgtr l5_i1 rfl) (.inl rfl) <| pvt rfl rfl rfl rfl rfl rfl (bf h5) rfl (fun _ _ => xmv) (.inl rfl) <| ?_
            refine Or.elim (Bool.eq_false_or_eq_true (decide (0 < y1))) (fun h6 => ?_) (fun h6 => ?_)
            ·
              have hB3 := ifp hB3 h6
              refine pvt rfl rfl rfl rfl rfl rfl (bt h6) rfl (fun _ _ => xmv) (.inl rfl) <| pvt rfl rfl rfl rfl rfl rfl (bt h6) rfl (fun _ _ => xmv) (.inl rfl) <| ?_
              have hz := bs hB3; obtain ⟨x5, Ex5, hB3⟩ := hz
              have hz := ix2 r0 Ex5; obtain ⟨cs5, i6, i7, q5, hc5⟩ := hz
              obtain rfl := q5
              have hc6 := hc5.ext k2
              refine pvt rfl rfl rfl rfl rfl rfl (bt h6) rfl (fun _ _ => xixs l0_i1 l5_i1 Try.underlying22 ti3 i6 i7) (.inl rfl) <| pvt rfl rfl rfl rfl rfl rfl (bt h6) rfl (fun _ hS => xld rfl ti3 ((hc6.ext (hS.resolve_left nofun)).at 0 rfl)) (.inr (Ext.refl _)) <| pvt rfl rfl rfl rfl rfl rfl (bt h6) rfl (fun _ _ => xmv) (.inl rfl) <| pvt rfl rfl rfl rfl rfl rfl (bt h6) rfl (fun _ _ => xmv) (.inl rfl) <| pvt rfl rfl rfl rfl rfl rfl (bt h6) rfl (fun _ _ => xsub l5_i1 rfl) (.inl rfl) <| ?_
              have hz := bs hB3; obtain ⟨x6, Ex6, hB3⟩ := hz
              have hz := ix2 r0 Ex6; obtain ⟨cs6, i8, i9, q6, hc7⟩ := hz
              obtain rfl := q6
              have hc8 := hc7.ext k2
              refine pvt rfl rfl rfl rfl rfl rfl (bt h6) rfl (fun _ _ => xixs l0_i1 rfl Try.underlying22 ti3 i8 i9) (.inl rfl) <| pvt rfl rfl rfl rfl rfl rfl (bt h6) rfl (fun _ hS => xld rfl ti3 ((hc8.ext (hS.resolve_left nofun)).at 0 rfl)) (.inr (Ext.refl _)) <| pvt rfl rfl rfl rfl rfl rfl (bt h6) rfl (fun _ _ => xleq rfl rfl) (.inl rfl) <| pvt rfl rfl rfl rfl rfl rfl (bf h5) rfl (fun _ _ => xpt rfl h6 rfl) (.inl rfl) <| pv rfl rfl rfl (fun _ _ => xpf rfl h5 rfl) (.inl rfl) <| ?_
              cases hB3
              refine lf <| ?_
              exact ⟨rfl, l0_i1, l1_i1, l5_i1, hx2⟩
            ·
              have hB3 := ifn hB3 h6
              refine pvf rfl rfl rfl rfl rfl rfl (bft h6) rfl (.inl rfl) <| pvf rfl rfl rfl rfl rfl rfl (bft h6) rfl (.inl rfl) <| pvf rfl rfl rfl rfl rfl rfl (bft h6) rfl (.inl rfl) <| pvf rfl rfl rfl rfl rfl rfl (bft h6) rfl (.inr (Ext.refl _)) <| pvf rfl rfl rfl rfl rfl rfl (bft h6) rfl (.inl rfl) <| pvf rfl rfl rfl rfl rfl rfl (bft h6) rfl (.inl rfl) <| pvf rfl rfl rfl rfl rfl rfl (bft h6) rfl (.inl rfl) <| pvf rfl rfl rfl rfl rfl rfl (bft h6) rfl (.inl rfl) <| pvf rfl rfl rfl rfl rfl rfl (bft h6) rfl (.inr (Ext.refl _)) <| pvf rfl rfl rfl rfl rfl rfl (bft h6) rfl (.inl rfl) <| pvt rfl rfl rfl rfl rfl rfl (bf h5) rfl (fun _ _ => xpf rfl h6 rfl) (.inl rfl) <| pv rfl rfl rfl (fun _ _ => xpf rfl h5 rfl) (.inl rfl) <| ?_
              cases hB3
              refine lf <| ?_
              exact ⟨rfl, l0_i1, l1_i1, l5_i1, hx2⟩
        ·
          have hB3 := ifn hB3 h4
          refine pvt rfl rfl rfl rfl rfl rfl (bf h4) rfl (fun _ _ => xmv) (.inl rfl) <| pvt rfl rfl rfl rfl rfl rfl (bf h4) rfl (fun _ _ => xmv) (.inl rfl) <| ?_
          have hz := bs hB3; obtain ⟨x7, Ex7, hB3⟩ := hz
          have hz := ix2 r0 Ex7; obtain ⟨cs7, i10, i11, q7, hc9⟩ := hz
          obtain rfl := q7
          have hc10 := hc9.ext k2
          refine pvt rfl rfl rfl rfl rfl rfl (bf h4) rfl (fun _ _ => xixs l0_i1 l5_i1 Try.underlying22 ti3 i10 i11) (.inl rfl) <| pvt rfl rfl rfl rfl rfl rfl (bf h4) rfl (fun _ hS => xld rfl ti3 ((hc10.ext (hS.resolve_left nofun)).at 0 rfl)) (.inr (Ext.refl _)) <| pvt rfl rfl rfl rfl rfl rfl (bf h4) rfl (fun _ _ => xmv) (.inl rfl) <| pvt rfl rfl rfl rfl rfl rfl (bf h4) rfl (fun _ _ => xgeq rfl l1_i1) (.inl rfl) <| pv rfl rfl rfl (fun _ _ => xpf rfl h4 rfl) (.inl rfl) <| pv rfl rfl rfl (fun _ _ => xmv) (.inl rfl) <| ?_
          refine Or.elim (Bool.eq_false_or_eq_true (decide (x1 ≤ x7))) (fun h7 => ?_) (fun h7 => ?_)
          ·
            have hB3 := ifp hB3 h7
            refine pvf rfl rfl rfl rfl rfl rfl (btf h7) rfl (.inl rfl) <| pvf rfl rfl rfl rfl rfl rfl (btf h7) rfl (.inl rfl) <| pvf rfl rfl rfl rfl rfl rfl (btf h7) rfl (.inl rfl) <| pvf rfl rfl rfl rfl rfl rfl bu rfl (.inl rfl) <| pvf rfl rfl rfl rfl rfl rfl bu rfl (.inl rfl) <| pvf rfl rfl rfl rfl rfl rfl bu rfl (.inl rfl) <| pvf rfl rfl rfl rfl rfl rfl bu rfl (.inr (Ext.refl _)) <| pvf rfl rfl rfl rfl rfl rfl bu rfl (.inl rfl) <| pvf rfl rfl rfl rfl rfl rfl bu rfl (.inl rfl) <| pvf rfl rfl rfl rfl rfl rfl bu rfl (.inl rfl) <| pvf rfl rfl rfl rfl rfl rfl bu rfl (.inl rfl) <| pvf rfl rfl rfl rfl rfl rfl bu rfl (.inr (Ext.refl _)) <| pvf rfl rfl rfl rfl rfl rfl bu rfl (.inl rfl) <| pvf rfl rfl rfl rfl rfl rfl (btf h7) rfl (.inl rfl) <| pv rfl rfl rfl (fun _ _ => xpt rfl h7 rfl) (.inl rfl) <| ?_
            cases hB3
            refine lf <| ?_
            exact ⟨rfl, l0_i1, l1_i1, l5_i1, hx2⟩
          ·
            have hB3 := ifn hB3 h7
            refine pvt rfl rfl rfl rfl rfl rfl (bf h7) rfl (fun _ _ => xmv) (.inl rfl) <| pvt rfl rfl rfl rfl rfl rfl (bf h7) rfl (fun _ _ => xgtr l5_i1 rfl) (.inl rfl) <| pvt rfl rfl rfl rfl rfl rfl (bf h7) rfl (fun _ _ => xmv) (.inl rfl) <| ?_
            refine Or.elim (Bool.eq_false_or_eq_true (decide (0 < y1))) (fun h8 => ?_) (fun h8 => ?_)
            ·
              have hB3 := ifp hB3 h8
              refine pvt rfl rfl rfl rfl rfl rfl (bt h8) rfl (fun _ _ => xmv) (.inl rfl) <| pvt rfl rfl rfl rfl rfl rfl (bt h8) rfl (fun _ _ => xmv) (.inl rfl) <| ?_
              have hz := bs hB3; obtain ⟨x8, Ex8, hB3⟩ := hz
              have hz := ix2 r0 Ex8; obtain ⟨cs8, i12, i13, q8, hc11⟩ := hz
              obtain rfl := q8
              have hc12 := hc11.ext k2
              refine pvt rfl rfl rfl rfl rfl rfl (bt h8) rfl (fun _ _ => xixs l0_i1 l5_i1 Try.underlying22 ti3 i12 i13) (.inl rfl) <| pvt rfl rfl rfl rfl rfl rfl (bt h8) rfl (fun _ hS => xld rfl ti3 ((hc12.ext (hS.resolve_left nofun)).at 0 rfl)) (.inr (Ext.refl _)) <| pvt rfl rfl rfl rfl rfl rfl (bt h8) rfl (fun _ _ => xmv) (.inl rfl) <| pvt rfl rfl rfl rfl rfl rfl (bt h8) rfl (fun _ _ => xmv) (.inl rfl) <| pvt rfl rfl rfl rfl rfl rfl (bt h8) rfl (fun _ _ => xsub l5_i1 rfl) (.inl rfl) <| ?_
              have hz := bs hB3; obtain ⟨x9, Ex9, hB3⟩ := hz
              have hz := ix2 r0 Ex9; obtain ⟨cs9, i14, i15, q9, hc13⟩ := hz
              obtain rfl := q9
              have hc14 := hc13.ext k2
              refine pvt rfl rfl rfl rfl rfl rfl (bt h8) rfl (fun _ _ => xixs l0_i1 rfl Try.underlying22 ti3 i14 i15) (.inl rfl) <| pvt rfl rfl rfl rfl rfl rfl (bt h8) rfl (fun _ hS => xld rfl ti3 ((hc14.ext (hS.resolve_left nofun)).at 0 rfl)) (.inr (Ext.refl _)) <| pvt rfl rfl rfl rfl rfl rfl (bt h8) rfl (fun _ _ => xleq rfl rfl) (.inl rfl) <| pvt rfl rfl rfl rfl rfl rfl (bf h7) rfl (fun _ _ => xpt rfl h8 rfl) (.inl rfl) <| pv rfl rfl rfl (fun _ _ => xpf rfl h7 rfl) (.inl rfl) <| ?_
              cases hB3
              refine lf <| ?_
              exact ⟨rfl, l0_i1, l1_i1, l5_i1, hx2⟩
            ·
              have hB3 := ifn hB3 h8
              refine pvf rfl rfl rfl rfl rfl rfl (bft h8) rfl (.inl rfl) <| pvf rfl rfl rfl rfl rfl rfl (bft h8) rfl (.inl rfl) <| pvf rfl rfl rfl rfl rfl rfl (bft h8) rfl (.inl rfl) <| pvf rfl rfl rfl rfl rfl rfl (bft h8) rfl (.inr (Ext.refl _)) <| pvf rfl rfl rfl rfl rfl rfl (bft h8) rfl (.inl rfl) <| pvf rfl rfl rfl rfl rfl rfl (bft h8) rfl (.inl rfl) <| pvf rfl rfl rfl rfl rfl rfl (bft h8) rfl (.inl rfl) <| pvf rfl rfl rfl rfl rfl rfl (bft h8) rfl (.inl rfl) <| pvf rfl rfl rfl rfl rfl rfl (bft h8) rfl (.inr (Ext.refl _)) <| pvf rfl rfl rfl rfl rfl rfl (bft h8) rfl (.inl rfl) <| pvt rfl rfl rfl rfl rfl rfl (bf h7) rfl (fun _ _ => xpf rfl h8 rfl) (.inl rfl) <| pv rfl rfl rfl (fun _ _ => xpf rfl h7 rfl) (.inl rfl) <| ?_
              cases hB3
              refine lf <| ?_
              exact ⟨rfl, l0_i1, l1_i1, l5_i1, hx2⟩
      rintro L w4 ⟨l40_j1, l0_j1, l1_j1, l5_j1, K0_j1⟩
      have k3 := K0_i1.tr K0_j1
      have r6 := r3.ext K0_j1
      refine cnd l40_j1 (fun h9 => ?_) (fun h9 => ?_)
      ·
        have hB1 := ifp hB1 h9
        refine wp_seq <| rg <| vl rfl rfl xas <| nl <| ?_
        cases hB1
        have hF := (show some _ = some _ from hF); cases hF
        exact wp_ret <| rt rfl (.tmp rfl rfl .nil) ⟨rfl, k3⟩
      ·
        have hB1 := ifn hB1 h9
        refine wp_skip <| rg <| vl rfl rfl xmv <| vl rfl rfl (xadd l5_j1 rfl) <| vl rfl rfl xas <| nl <| ?_
        refine lq m (Nat.lt_succ_self _) <| ?_
        exact ⟨_, hB1, rfl, l0_j1, l1_j1, k3⟩
    ·
      have hB1 := ifn hB1 h3
      refine wp_exit <| ?_
      cases hB1
      refine lf <| ?_
      exact ⟨rfl, K0_i1⟩
  rintro L w5 ⟨rfl, K0_j2⟩
  refine wp_seq <| rg <| vl rfl rfl xas <| nl <| ?_
  cases hF
  exact wp_ret <| rt rfl (.tmp rfl rfl .nil) ⟨rfl, K0_j2⟩

set_option maxHeartbeats 4000000 in
theorem c66 {w0 : World} {v0 : Value} {x0 : (List ((List Int) × Int))} (r0 : RV w0 v0 x0) {F : Nat} {r : Bool} (hF : ref10_many F x0 = some r) :
    Calls Try.prog 66 [v0].toArray w0 (Ret fun v w' => v = .bool r ∧ Ext w0 w') := by
  unfold ref10_many at hF
  have hz := r0.sl; obtain ⟨a1, c1, rfl, -, -, -⟩ := hz
  refine entr (n := 17) Try.func66 rfl rfl rfl <| wp_seq <| rg <| vl rfl rfl xas <| nl <| wp_seq <| wp_seq <| rg <| vl rfl rfl xas <| nl <| ?_
  have hz := bs hF; obtain ⟨o1, hB1, hF⟩ := hz
  refine ct (fun L w => o1 = .inr () ∧ Ext w0 w) ?_ ?_
  ·
    refine wp_block <| lp (I := fun m L w => ∃ y1 : Int, ref10_many_l1 F x0 m y1  = some o1 ∧ L 3 = .int .i64 y1 ∧ L 0 = .slice a1 x0.length c1 ∧ Ext w0 w) F ⟨_, hB1, rfl, rfl, (Ext.refl _)⟩ ?_
    rintro m L w1 ⟨y1, hB1, l3_i1, l0_i1, K0_i1⟩
    rcases m with _ | m
    · rw [ref10_many_l1] at hB1; cases hB1
    rw [ref10_many_l1] at hB1
    have r2 := r0.ext K0_i1
    refine wp_seq <| wp_seq <| rg <| vl rfl rfl xmv <| vl rfl rfl xmv <| vl rfl rfl (xlen l0_i1 Try.underlying23) <| vl rfl rfl (xlss l3_i1 rfl) <| nl <| cnd rfl (fun h2 => ?_) (fun h2 => ?_)
    ·
      have hB1 := ifp hB1 h2
      refine wp_skip <| wp_seq <| wp_block <| wp_seq <| rg <| vl rfl rfl xmv <| vl rfl rfl xmv <| ?_
      have hz := bs hB1; obtain ⟨x2, Ex2, hB1⟩ := hz
      have hz := (RV.els r0).ix Ex2; obtain ⟨b2, f1, cs2, e1, i2, i3, q2, hc1⟩ := hz
      cases e1
      obtain ⟨_, _, rfl, ⟨a2, c2, rfl, p1, q3, e2⟩, rfl⟩ := q2
      have r3 := RV.of1 p1 q3 e2
      have hc2 := hc1.ext K0_i1
      have r4 := r3.ext K0_i1
      refine vl rfl rfl (xixs l0_i1 l3_i1 Try.underlying23 ti54 i2 i3) <| vl rfl rfl (xfa rfl fa54_0) <| vl rfl rfl (xld rfl ti22 (hc2.at 0 rfl)) <| vl rfl rfl (xlen rfl Try.underlying22) <| vl rfl rfl (xgtr rfl rfl) <| nl <| cnd rfl (fun h3 => ?_) (fun h3 => ?_)
      ·
        have hB1 := ifp hB1 h3
        refine wp_seq <| rg <| vl rfl rfl xas <| nl <| ?_
        cases hB1
        have hF := (show some _ = some _ from hF); cases hF
        exact wp_ret <| rt rfl (.tmp rfl rfl .nil) ⟨rfl, K0_i1⟩
      ·
        have hB1 := ifn hB1 h3
        refine wp_skip <| rg <| vl rfl rfl xmv <| vl rfl rfl (xadd l3_i1 rfl) <| vl rfl rfl xas <| nl <| ?_
        refine lq m (Nat.lt_succ_self _) <| ?_
        exact ⟨_, hB1, rfl, l0_i1, K0_i1⟩
    ·
      have hB1 := ifn hB1 h2
      refine wp_exit <| ?_
      cases hB1
      refine lf <| ?_
      exact ⟨rfl, K0_i1⟩
  rintro L w2 ⟨rfl, K0_j1⟩
  refine wp_seq <| rg <| vl rfl rfl xas <| nl <| ?_
  cases hF
  exact wp_ret <| rt rfl (.tmp rfl rfl .nil) ⟨rfl, K0_j1⟩

set_option maxHeartbeats 4000000 in
theorem c67 {w0 : World} {v0 : Value} {x0 : (List ((List Int) × Int))} (r0 : RV w0 v0 x0) {x1 : Int} {F : Nat} {r : Bool} (hF : ref10_odd F x0 x1 = some r) :
    Calls Try.prog 67 [v0, .int .i64 x1].toArray w0 (Ret fun v w' => v = .bool r ∧ Ext w0 w') := by
  unfold ref10_odd at hF
  have hz := r0.sl; obtain ⟨a1, c1, rfl, -, -, -⟩ := hz
  refine entr (n := 37) Try.func67 rfl rfl rfl <| wp_seq <| rg <| vl rfl rfl xas <| nl <| wp_seq <| wp_seq <| rg <| vl rfl rfl xas <| nl <| ?_
  have hz := bs hF; obtain ⟨o1, hB1, hF⟩ := hz
  refine ct (fun L w => o1 = .inr () ∧ Ext w0 w) ?_ ?_
  ·
    refine wp_block <| lp (I := fun m L w => ∃ y1 : Int, ref10_odd_l1 F x0 x1 m y1  = some o1 ∧ L 5 = .int .i64 y1 ∧ L 0 = .slice a1 x0.length c1 ∧ L 1 = .int .i64 x1 ∧ Ext w0 w) F ⟨_, hB1, rfl, rfl, rfl, (Ext.refl _)⟩ ?_
    rintro m L w1 ⟨y1, hB1, l5_i1, l0_i1, l1_i1, K0_i1⟩
    rcases m with _ | m
    · rw [ref10_odd_l1] at hB1; cases hB1
    rw [ref10_odd_l1] at hB1
    have r3 := r0.ext K0_i1
    refine wp_seq <| wp_seq <| rg <| vl rfl rfl xmv <| vl rfl rfl xmv <| vl rfl rfl (xlen l0_i1 Try.underlying23) <| vl rfl rfl (xlss l5_i1 rfl) <| nl <| cnd rfl (fun h3 => ?_) (fun h3 => ?_)
    ·
      have hB1 := ifp hB1 h3
      refine wp_skip <| wp_seq <| wp_block <| wp_seq <| ?_
      have hz := bs hB1; obtain ⟨y2, hB3, hB1⟩ := hz
      refine ct (fun L w => L 36 = .bool y2 ∧ L 0 = .slice a1 x0.length c1 ∧ L 1 = .int .i64 x1 ∧ L 5 = .int .i64 y1 ∧ Ext w1 w) ?_ ?_
      ·
        refine rg <| vl rfl rfl xmv <| vl rfl rfl xmv <| ?_
        have hz := bs hB3; obtain ⟨x5, Ex5, hB3⟩ := hz
        have hz := (RV.els r0).ix Ex5; obtain ⟨b4, f2, cs4, e3, i4, i5, q5, hc3⟩ := hz
        cases e3
        obtain ⟨_, _, rfl, ⟨a3, c3, rfl, p2, q6, e4⟩, rfl⟩ := q5
        have r7 := RV.of1 p2 q6 e4
        have hc4 := hc3.ext K0_i1
        have r8 := r7.ext K0_i1
        refine vl rfl rfl (xixs l0_i1 l5_i1 Try.underlying23 ti54 i4 i5) <| vl rfl rfl (xfa rfl fa54_0) <| vl rfl rfl (xld rfl ti22 (hc4.at 0 rfl)) <| vl rfl rfl xmv <| ?_
        have hz := bs hB3; obtain ⟨x6, Ex6, hB3⟩ := hz
        refine cl rfl rfl (xc cb64 (mc rfl (mc l1_i1 mn))) (c64 r8 Ex6) ?_
        rintro _ w3 ⟨rfl, hx2⟩
        have k2 := K0_i1.tr hx2
        have r9 := r3.ext hx2
        refine vl rfl rfl (xnot rfl) <| vl rfl rfl xmv <| ?_
        refine Or.elim (Bool.eq_false_or_eq_true (!x6)) (fun h4 => ?_) (fun h4 => ?_)
        ·
          have hB3 := ifp hB3 h4
          refine gfk rfl rfl rfl rfl rfl (btf h4) rfl <| gfk rfl rfl rfl rfl rfl (btf h4) rfl <| gfk rfl rfl rfl rfl rfl (btf h4) rfl <| gfk rfl rfl rfl rfl rfl (btf h4) rfl <| gfk rfl rfl rfl rfl rfl (btf h4) rfl <| gfk rfl rfl rfl rfl rfl (btf h4) rfl <| vl rfl rfl (xpt rfl h4 rfl) <| vl rfl rfl xmv <| ?_
          refine Or.elim (Bool.eq_false_or_eq_true true) (fun h5 => ?_) (fun h5 => ?_)
          ·
            have hB3 := ifp hB3 h5
            refine gfk rfl rfl rfl rfl rfl (btf h5) rfl <| gfk rfl rfl rfl rfl rfl (btf h5) rfl <| gfk rfl rfl rfl rfl rfl (btf h5) rfl <| gfk rfl rfl rfl rfl rfl (btf h5) rfl <| gfk rfl rfl rfl rfl rfl (btf h5) rfl <| gfk rfl rfl rfl rfl rfl (btf h5) rfl <| gfk rfl rfl rfl rfl rfl (btf h5) rfl <| vl rfl rfl (xpt rfl h5 rfl) <| nl <| ?_
            cases hB3
            refine lf <| ?_
            exact ⟨rfl, l0_i1, l1_i1, l5_i1, hx2⟩
          ·
            have hB3 := ifn hB3 h5
            refine gtk rfl rfl rfl rfl rfl (bf h5) <| vl rfl rfl xmv <| gtk rfl rfl rfl rfl rfl (bf h5) <| vl rfl rfl xmv <| ?_
            have hz := bs hB3; obtain ⟨x7, Ex7, hB3⟩ := hz
            have hz := ix2 r0 Ex7; obtain ⟨cs5, i6, i7, q7, hc5⟩ := hz
            obtain ⟨_, _, rfl, ⟨a4, c4, rfl, p3, q8, e5⟩, rfl⟩ := q7
            have r10 := RV.of1 p3 q8 e5
            have hc6 := hc5.ext k2
            have r11 := r10.ext k2
            refine gtk rfl rfl rfl rfl rfl (bf h5) <| vl rfl rfl (xixs l0_i1 l5_i1 Try.underlying23 ti54 i6 i7) <| gtk rfl rfl rfl rfl rfl (bf h5) <| vl rfl rfl (xfa rfl fa54_1) <| gtk rfl rfl rfl rfl rfl (bf h5) <| vl rfl rfl (xld rfl ti3 (hc6.at 1 rfl)) <| gtk rfl rfl rfl rfl rfl (bf h5) <| vl rfl rfl xmv <| gtk rfl rfl rfl rfl rfl (bf h5) <| vl rfl rfl (xgeq rfl l1_i1) <| vl rfl rfl (xpf rfl h5 rfl) <| nl <| ?_
            cases hB3
            refine lf <| ?_
            exact ⟨rfl, l0_i1, l1_i1, l5_i1, hx2⟩
        ·
          have hB3 := ifn hB3 h4
          refine gtk rfl rfl rfl rfl rfl (bf h4) <| vl rfl rfl xmv <| gtk rfl rfl rfl rfl rfl (bf h4) <| vl rfl rfl xmv <| ?_
          have hz := bs hB3; obtain ⟨x8, Ex8, hB3⟩ := hz
          have hz := ix2 r0 Ex8; obtain ⟨cs6, i8, i9, q9, hc7⟩ := hz
          obtain ⟨_, _, rfl, ⟨a5, c5, rfl, p4, q10, e6⟩, rfl⟩ := q9
          have r12 := RV.of1 p4 q10 e6
          have hc8 := hc7.ext k2
          have r13 := r12.ext k2
          refine gtk rfl rfl rfl rfl rfl (bf h4) <| vl rfl rfl (xixs l0_i1 l5_i1 Try.underlying23 ti54 i8 i9) <| gtk rfl rfl rfl rfl rfl (bf h4) <| vl rfl rfl (xfa rfl fa54_1) <| gtk rfl rfl rfl rfl rfl (bf h4) <| vl rfl rfl (xld rfl ti3 (hc8.at 1 rfl)) <| gtk rfl rfl rfl rfl rfl (bf h4) <| vl rfl rfl (xlss rfl rfl) <| vl rfl rfl (xpf rfl h4 rfl) <| vl rfl rfl xmv <| ?_
          refine Or.elim (Bool.eq_false_or_eq_true (decide (x8.2 < 0))) (fun h6 => ?_) (fun h6 => ?_)
          ·
            have hB3 := ifp hB3 h6
            refine gfk rfl rfl rfl rfl rfl (btf h6) rfl <| gfk rfl rfl rfl rfl rfl (btf h6) rfl <| gfk rfl rfl rfl rfl rfl (btf h6) rfl <| gfk rfl rfl rfl rfl rfl (btf h6) rfl <| gfk rfl rfl rfl rfl rfl (btf h6) rfl <| gfk rfl rfl rfl rfl rfl (btf h6) rfl <| gfk rfl rfl rfl rfl rfl (btf h6) rfl <| vl rfl rfl (xpt rfl h6 rfl) <| nl <| ?_
            cases hB3
            refine lf <| ?_
            exact ⟨rfl, l0_i1, l1_i1, l5_i1, hx2⟩
          ·
            have hB3 := ifn hB3 h6
            refine gtk rfl rfl rfl rfl rfl (bf h6) <| vl rfl rfl xmv <| gtk rfl rfl rfl rfl rfl (bf h6) <| vl rfl rfl xmv <| ?_
            have hz := bs hB3; obtain ⟨x9, Ex9, hB3⟩ := hz
            have hz := ix2 r0 Ex9; obtain ⟨cs7, i10, i11, q11, hc9⟩ := hz
            obtain ⟨_, _, rfl, ⟨a6, c6, rfl, p5, q12, e7⟩, rfl⟩ := q11
            have r14 := RV.of1 p5 q12 e7
            have hc10 := hc9.ext k2
            have r15 := r14.ext k2
            refine gtk rfl rfl rfl rfl rfl (bf h6) <| vl rfl rfl (xixs l0_i1 l5_i1 Try.underlying23 ti54 i10 i11) <| gtk rfl rfl rfl rfl rfl (bf h6) <| vl rfl rfl (xfa rfl fa54_1) <| gtk rfl rfl rfl rfl rfl (bf h6) <| vl rfl rfl (xld rfl ti3 (hc10.at 1 rfl)) <| gtk rfl rfl rfl rfl rfl (bf h6) <| vl rfl rfl xmv <| gtk rfl rfl rfl rfl rfl (bf h6) <| vl rfl rfl (xgeq rfl l1_i1) <| vl rfl rfl (xpf rfl h6 rfl) <| nl <| ?_
            cases hB3
            refine lf <| ?_
            exact ⟨rfl, l0_i1, l1_i1, l5_i1, hx2⟩
      rintro L w4 ⟨l36_j1, l0_j1, l1_j1, l5_j1, K0_j1⟩
      have k3 := K0_i1.tr K0_j1
      have r16 := r3.ext K0_j1
      refine cnd l36_j1 (fun h7 => ?_) (fun h7 => ?_)
      ·
        have hB1 := ifp hB1 h7
        refine wp_seq <| rg <| vl rfl rfl xas <| nl <| ?_
        cases hB1
        have hF := (show some _ = some _ from hF); cases hF
        exact wp_ret <| rt rfl (.tmp rfl rfl .nil) ⟨rfl, k3⟩
      ·
        have hB1 := ifn hB1 h7
        refine wp_skip <| rg <| vl rfl rfl xmv <| vl rfl rfl (xadd l5_j1 rfl) <| vl rfl rfl xas <| nl <| ?_
        refine lq m (Nat.lt_succ_self _) <| ?_
        exact ⟨_, hB1, rfl, l0_j1, l1_j1, k3⟩
    ·
      have hB1 := ifn hB1 h3
      refine wp_exit <| ?_
      cases hB1
      refine lf <| ?_
      exact ⟨rfl, K0_i1⟩
  rintro L w5 ⟨rfl, K0_j2⟩
  refine wp_seq <| rg <| vl rfl rfl xas <| nl <| ?_
  cases hF
  exact wp_ret <| rt rfl (.tmp rfl rfl .nil) ⟨rfl, K0_j2⟩

set_option maxHeartbeats 4000000 in
theorem c29 {w0 : World} {v0 : Value} {x0 : (Int × (List Int) × (List ((List Int) × Int)) × (List ((List Int) × Int)) × (List (List Int)))} (r0 : RV w0 v0 x0) {F : Nat} {r : Int} (hF : ref10_CheckBook F x0 = some r) :
    Calls Try.prog 29 [v0].toArray w0 (Ret fun v w' => v = .int .i64 r ∧ Ext w0 w') := by
  unfold ref10_CheckBook at hF
  have hz := id r0; obtain ⟨_, rfl, ⟨_, _, rfl, rfl, ⟨_, _, rfl, ⟨a1, c1, rfl, p1, q2, e1⟩, ⟨_, _, rfl, ⟨a2, c2, rfl, p2, q3, e2⟩, ⟨_, _, rfl, ⟨a3, c3, rfl, p3, q4, e3⟩, ⟨a4, c4, rfl, p4, q5, e4⟩⟩⟩⟩⟩⟩ := hz
  have r2 := RV.of1 p1 q2 e1
  have r3 := RV.of1 p2 q3 e2
  have r4 := RV.of1 p3 q4 e3
  have r5 := RV.of1 p4 q5 e4
  refine entr (n := 103) Try.func29 rfl rfl rfl <| wp_seq <| rg <| sbx rfl rfl fun b2 w1 hx1 hg1 hb1 => ?_
  have r6 := r2.ext hx1
  have r7 := r3.ext hx1
  have r8 := r4.ext hx1
  have r9 := r5.ext hx1
  have r10 := r0.ext hx1
  refine vl rfl rfl xas <| nl <| wp_seq <| wp_seq <| rg <| vl rfl rfl (xfa rfl fa26_0) <| vl rfl rfl (xld rfl ti3 ((Bx.cs hb1).at 0 rfl)) <| vl rfl rfl (xlss rfl rfl) <| vl rfl rfl xmv <| gv rfl rfl rfl rfl (gw0 rfl) rfl (fun hc => xfa rfl fa26_0) <| gv rfl rfl rfl rfl (gw0 rfl) rfl (fun hc => xld (mv hc rfl) ti3 ((Bx.cs hb1).at 0 rfl)) <| gv rfl rfl rfl rfl (gw0 rfl) rfl (fun hc => xgtr (mv hc rfl) rfl) <| vl rfl rfl (xpo rfl rfl rfl) <| vl rfl rfl xmv <| gv rfl rfl rfl rfl (gw0 rfl) rfl (fun hc => xfa rfl fa26_2) <| gv rfl rfl rfl rfl (gw0 rfl) rfl (fun hc => xld (mv hc rfl) ti23 ((Bx.cs hb1).at 2 rfl)) <| gv rfl rfl rfl rfl (gw0 rfl) rfl (fun hc => xlen (mv hc rfl) Try.underlying23) <| gv rfl rfl rfl rfl (gw0 rfl) rfl (fun hc => xgtr (mv hc rfl) rfl) <| vl rfl rfl (xpo rfl rfl rfl) <| vl rfl rfl xmv <| gv rfl rfl rfl rfl (gw0 rfl) rfl (fun hc => xfa rfl fa26_3) <| gv rfl rfl rfl rfl (gw0 rfl) rfl (fun hc => xld (mv hc rfl) ti23 ((Bx.cs hb1).at 3 rfl)) <| gv rfl rfl rfl rfl (gw0 rfl) rfl (fun hc => xlen (mv hc rfl) Try.underlying23) <| gv rfl rfl rfl rfl (gw0 rfl) rfl (fun hc => xgtr (mv hc rfl) rfl) <| vl rfl rfl (xpo rfl rfl rfl) <| vl rfl rfl xmv <| gv rfl rfl rfl rfl (gw0 rfl) rfl (fun hc => xfa rfl fa26_4) <| gv rfl rfl rfl rfl (gw0 rfl) rfl (fun hc => xld (mv hc rfl) ti24 ((Bx.cs hb1).at 4 rfl)) <| gv rfl rfl rfl rfl (gw0 rfl) rfl (fun hc => xlen (mv hc rfl) Try.underlying24) <| gv rfl rfl rfl rfl (gw0 rfl) rfl (fun hc => xgtr (mv hc rfl) rfl) <| vl rfl rfl (xpo rfl rfl rfl) <| vl rfl rfl xmv <| gv rfl rfl rfl rfl (gw0 rfl) rfl (fun hc => xfa rfl fa26_2) <| gv rfl rfl rfl rfl (gw0 rfl) rfl (fun hc => xld (mv hc rfl) ti23 ((Bx.cs hb1).at 2 rfl)) <| ?_
  have hz := bs hF; obtain ⟨x2, Ex2, hF⟩ := hz
  refine gc rfl rfl rfl rfl (gw0 rfl) rfl (fun hc => xc cb66 (mc (mv hc rfl) mn)) (fun hc => (c66 r7 (gdp Ex2 hc))) (fun v2 w2 hy1 hn1 => ?_)
  have hx2 : Ext w1 w2 := gx (fun h => (hy1 h).2) (fun h => (hn1 h).2 ▸ Ext.refl _)
  have e5 := mkw (fun h => (hy1 h).1) (fun h => (hn1 h).1)
  have k1 := hx1.tr hx2
  have hb2 := hb1.ext hx2
  have r11 := r6.ext hx2
  have r12 := r7.ext hx2
  have r13 := r8.ext hx2
  have r14 := r9.ext hx2
  refine vl rfl rfl (xpo rfl e5 rfl) <| vl rfl rfl xmv <| gv rfl rfl rfl rfl (gw0 rfl) rfl (fun hc => xfa rfl fa26_3) <| gv rfl rfl rfl rfl (gw0 rfl) rfl (fun hc => xld (mv hc rfl) ti23 ((Bx.cs hb2).at 3 rfl)) <| ?_
  have hz := bs hF; obtain ⟨x3, Ex3, hF⟩ := hz
  refine gc rfl rfl rfl rfl (gw0 rfl) rfl (fun hc => xc cb66 (mc (mv hc rfl) mn)) (fun hc => (c66 r13 (gdp Ex3 hc))) (fun v3 w3 hy2 hn2 => ?_)
  have hx3 : Ext w2 w3 := gx (fun h => (hy2 h).2) (fun h => (hn2 h).2 ▸ Ext.refl _)
  have e6 := mkw (fun h => (hy2 h).1) (fun h => (hn2 h).1)
  have k2 := k1.tr hx3
  have hb3 := hb2.ext hx3
  have r15 := r11.ext hx3
  have r16 := r12.ext hx3
  have r17 := r13.ext hx3
  have r18 := r14.ext hx3
  refine vl rfl rfl (xpo rfl e6 rfl) <| nl <| cnd rfl (fun h2 => ?_) (fun h2 => ?_)
  ·
    have hF := ifp hF h2
    refine wp_seq <| rg <| vl rfl rfl xas <| nl <| ?_
    cases hF
    exact wp_ret <| rt rfl (.tmp rfl rfl .nil) ⟨rfl, k2⟩
  ·
    have hF := ifn hF h2
    refine wp_skip <| wp_seq <| wp_seq <| rg <| vl rfl rfl xas <| nl <| ?_
    have hz := bs hF; obtain ⟨o1, hB1, hF⟩ := hz
    refine ct (fun L w => o1 = .inr () ∧ L 1 = .pointer (some ⟨b2, 0, none⟩) ∧ Ext w3 w) ?_ ?_
    ·
      refine wp_block <| lp (I := fun m L w => ∃ y1 : Int, ref10_CheckBook_l1 F x0 m y1  = some o1 ∧ L 3 = .int .i64 y1 ∧ L 1 = .pointer (some ⟨b2, 0, none⟩) ∧ Ext w3 w) F ⟨_, hB1, rfl, rfl, (Ext.refl _)⟩ ?_
      rintro m L w4 ⟨y1, hB1, l3_i1, l1_i1, K0_i1⟩
      rcases m with _ | m
      · rw [ref10_CheckBook_l1] at hB1; cases hB1
      rw [ref10_CheckBook_l1] at hB1
      have k3 := k2.tr K0_i1
      have r19 := r15.ext K0_i1
      have r20 := r16.ext K0_i1
      have r21 := r17.ext K0_i1
      have r22 := r18.ext K0_i1
      have hb4 := hb3.ext K0_i1
      refine wp_seq <| wp_seq <| rg <| vl rfl rfl xmv <| vl rfl rfl (xfa l1_i1 fa26_4) <| vl rfl rfl (xld rfl ti24 ((Bx.cs hb4).at 4 rfl)) <| vl rfl rfl (xlen rfl Try.underlying24) <| vl rfl rfl (xlss l3_i1 rfl) <| nl <| cnd rfl (fun h3 => ?_) (fun h3 => ?_)
      ·
        have hB1 := ifp hB1 h3
        refine wp_skip <| wp_seq <| wp_block <| wp_seq <| ?_
        have hz := bs hB1; obtain ⟨y2, hB3, hB1⟩ := hz
        refine ct (fun L w => L 63 = .bool y2 ∧ L 1 = .pointer (some ⟨b2, 0, none⟩) ∧ L 3 = .int .i64 y1 ∧ Ext w4 w) ?_ ?_
        ·
          refine rg <| vl rfl rfl (xfa l1_i1 fa26_4) <| vl rfl rfl (xld rfl ti24 ((Bx.cs hb4).at 4 rfl)) <| vl rfl rfl xmv <| ?_
          have hz := bs hB3; obtain ⟨x5, Ex5, hB3⟩ := hz
          have hz := (RV.els r5).ix Ex5; obtain ⟨b4, f2, cs3, e9, i4, i5, q8, hc3⟩ := hz
          cases e9
          obtain ⟨a6, c6, rfl, p6, q9, e10⟩ := q8
          have r25 := RV.of1 p6 q9 e10
          have hc4 := hc3.ext k3
          have r26 := r25.ext k3
          refine vl rfl rfl (xixs rfl l3_i1 Try.underlying24 ti22 i4 i5) <| vl rfl rfl (xld rfl ti22 (hc4.at 0 rfl)) <| vl rfl rfl (xlen rfl Try.underlying22) <| vl rfl rfl (xlss rfl rfl) <| vl rfl rfl xmv <| ?_
          refine Or.elim (Bool.eq_false_or_eq_true (decide ((x5.length : Int) < 1))) (fun h4 => ?_) (fun h4 => ?_)
          ·
            have hB3 := ifp hB3 h4
            refine gfk rfl rfl rfl rfl rfl (btf h4) rfl <| gfk rfl rfl rfl rfl rfl (btf h4) rfl <| gfk rfl rfl rfl rfl rfl (btf h4) rfl <| gfk rfl rfl rfl rfl rfl (btf h4) rfl <| gfk rfl rfl rfl rfl rfl (btf h4) rfl <| gfk rfl rfl rfl rfl rfl (btf h4) rfl <| gfk rfl rfl rfl rfl rfl (btf h4) rfl <| vl rfl rfl (xpt rfl h4 rfl) <| nl <| ?_
            cases hB3
            refine lf <| ?_
            exact ⟨rfl, l1_i1, l3_i1, (Ext.refl _)⟩
          ·
            have hB3 := ifn hB3 h4
            refine gtk rfl rfl rfl rfl rfl (bf h4) <| vl rfl rfl (xfa l1_i1 fa26_4) <| gtk rfl rfl rfl rfl rfl (bf h4) <| vl rfl rfl (xld rfl ti24 ((Bx.cs hb4).at 4 rfl)) <| gtk rfl rfl rfl rfl rfl (bf h4) <| vl rfl rfl xmv <| ?_
            have hz := bs hB3; obtain ⟨x6, Ex6, hB3⟩ := hz
            have hz := ix2 r5 Ex6; obtain ⟨cs4, i6, i7, q10, hc5⟩ := hz
            obtain ⟨a7, c7, rfl, p7, q11, e11⟩ := q10
            have r27 := RV.of1 p7 q11 e11
            have hc6 := hc5.ext k3
            have r28 := r27.ext k3
            refine gtk rfl rfl rfl rfl rfl (bf h4) <| vl rfl rfl (xixs rfl l3_i1 Try.underlying24 ti22 i6 i7) <| gtk rfl rfl rfl rfl rfl (bf h4) <| vl rfl rfl (xld rfl ti22 (hc6.at 0 rfl)) <| gtk rfl rfl rfl rfl rfl (bf h4) <| vl rfl rfl (xlen rfl Try.underlying22) <| gtk rfl rfl rfl rfl rfl (bf h4) <| vl rfl rfl (xgtr rfl rfl) <| vl rfl rfl (xpf rfl h4 rfl) <| nl <| ?_
            cases hB3
            refine lf <| ?_
            exact ⟨rfl, l1_i1, l3_i1, (Ext.refl _)⟩
        rintro L w5 ⟨l63_j1, l1_j1, l3_j1, K0_j1⟩
        have k4 := k3.tr K0_j1
        have k5 := K0_i1.tr K0_j1
        have r29 := r19.ext K0_j1
        have r30 := r20.ext K0_j1
        have r31 := r21.ext K0_j1
        have r32 := r22.ext K0_j1
        have hb5 := hb4.ext K0_j1
        refine cnd l63_j1 (fun h5 => ?_) (fun h5 => ?_)
        ·
          have hB1 := ifp hB1 h5
          refine wp_seq <| rg <| vl rfl rfl xas <| nl <| ?_
          cases hB1
          have hF := (show some _ = some _ from hF); cases hF
          exact wp_ret <| rt rfl (.tmp rfl rfl .nil) ⟨rfl, k4⟩
        ·
          have hB1 := ifn hB1 h5
          refine wp_skip <| rg <| vl rfl rfl xmv <| vl rfl rfl (xadd l3_j1 rfl) <| vl rfl rfl xas <| nl <| ?_
          refine lq m (Nat.lt_succ_self _) <| ?_
          exact ⟨_, hB1, rfl, l1_j1, k5⟩
      ·
        have hB1 := ifn hB1 h3
        refine wp_exit <| ?_
        cases hB1
        refine lf <| ?_
        exact ⟨rfl, l1_i1, K0_i1⟩
    rintro L w6 ⟨rfl, l1_j2, K0_j2⟩
    have k6 := k2.tr K0_j2
    have r33 := r15.ext K0_j2
    have r34 := r16.ext K0_j2
    have r35 := r17.ext K0_j2
    have r36 := r18.ext K0_j2
    have hb6 := hb3.ext K0_j2
    refine wp_seq <| wp_seq <| rg <| vl rfl rfl (xfa l1_j2 fa26_1) <| vl rfl rfl (xld rfl ti22 ((Bx.cs hb6).at 1 rfl)) <| vl rfl rfl (xfa l1_j2 fa26_0) <| vl rfl rfl (xld rfl ti3 ((Bx.cs hb6).at 0 rfl)) <| ?_
    have hz := bs hF; obtain ⟨x7, Ex7, hF⟩ := hz
    refine cl rfl rfl (xc cb64 (mc rfl (mc rfl mn))) (c64 r33 Ex7) ?_
    rintro _ w7 ⟨rfl, hx4⟩
    have k7 := k6.tr hx4
    have k8 := K0_j2.tr hx4
    have hb7 := hb6.ext hx4
    have r37 := r33.ext hx4
    have r38 := r34.ext hx4
    have r39 := r35.ext hx4
    have r40 := r36.ext hx4
    refine vl rfl rfl (xnot rfl) <| vl rfl rfl xmv <| gv rfl rfl rfl rfl (gw0 rfl) rfl (fun hc => xfa l1_j2 fa26_2) <| gv rfl rfl rfl rfl (gw0 rfl) rfl (fun hc => xld (mv hc rfl) ti23 ((Bx.cs hb7).at 2 rfl)) <| gv rfl rfl rfl rfl (gw0 rfl) rfl (fun hc => xfa l1_j2 fa26_0) <| gv rfl rfl rfl rfl (gw0 rfl) rfl (fun hc => xld (mv hc rfl) ti3 ((Bx.cs hb7).at 0 rfl)) <| ?_
    have hz := bs hF; obtain ⟨x8, Ex8, hF⟩ := hz
    refine gc rfl rfl rfl rfl (gw0 rfl) rfl (fun hc => xc cb67 (mc (mv hc rfl) (mc (mv hc rfl) mn))) (fun hc => (c67 r38 (gdp Ex8 hc))) (fun v4 w8 hy3 hn3 => ?_)
    have hx5 : Ext w7 w8 := gx (fun h => (hy3 h).2) (fun h => (hn3 h).2 ▸ Ext.refl _)
    have e12 := mkw (fun h => (hy3 h).1) (fun h => (hn3 h).1)
    have k9 := k7.tr hx5
    have k10 := k8.tr hx5
    have hb8 := hb7.ext hx5
    have r41 := r37.ext hx5
    have r42 := r38.ext hx5
    have r43 := r39.ext hx5
    have r44 := r40.ext hx5
    refine vl rfl rfl (xpo rfl e12 rfl) <| vl rfl rfl xmv <| gv rfl rfl rfl rfl (gw0 rfl) rfl (fun hc => xfa l1_j2 fa26_3) <| gv rfl rfl rfl rfl (gw0 rfl) rfl (fun hc => xld (mv hc rfl) ti23 ((Bx.cs hb8).at 3 rfl)) <| gv rfl rfl rfl rfl (gw0 rfl) rfl (fun hc => xfa l1_j2 fa26_0) <| gv rfl rfl rfl rfl (gw0 rfl) rfl (fun hc => xld (mv hc rfl) ti3 ((Bx.cs hb8).at 0 rfl)) <| ?_
    have hz := bs hF; obtain ⟨x9, Ex9, hF⟩ := hz
    refine gc rfl rfl rfl rfl (gw0 rfl) rfl (fun hc => xc cb67 (mc (mv hc rfl) (mc (mv hc rfl) mn))) (fun hc => (c67 r43 (gdp Ex9 hc))) (fun v5 w9 hy4 hn4 => ?_)
    have hx6 : Ext w8 w9 := gx (fun h => (hy4 h).2) (fun h => (hn4 h).2 ▸ Ext.refl _)
    have e13 := mkw (fun h => (hy4 h).1) (fun h => (hn4 h).1)
    have k11 := k9.tr hx6
    have k12 := k10.tr hx6
    have hb9 := hb8.ext hx6
    have r45 := r41.ext hx6
    have r46 := r42.ext hx6
    have r47 := r43.ext hx6
    have r48 := r44.ext hx6
    refine vl rfl rfl (xpo rfl e13 rfl) <| nl <| cnd rfl (fun h6 => ?_) (fun h6 => ?_)
    ·
      have hF := ifp hF h6
      refine wp_seq <| rg <| vl rfl rfl xas <| nl <| ?_
      cases hF
      exact wp_ret <| rt rfl (.tmp rfl rfl .nil) ⟨rfl, k11⟩
    ·
      have hF := ifn hF h6
      refine wp_skip <| wp_seq <| wp_seq <| rg <| vl rfl rfl xas <| nl <| ?_
      have hz := bs hF; obtain ⟨o2, hB7, hF⟩ := hz
      refine ct (fun L w => o2 = .inr () ∧ L 1 = .pointer (some ⟨b2, 0, none⟩) ∧ Ext w9 w) ?_ ?_
      ·
        refine wp_block <| lp (I := fun m L w => ∃ y3 : Int, ref10_CheckBook_l2 F x0 m y3  = some o2 ∧ L 4 = .int .i64 y3 ∧ L 1 = .pointer (some ⟨b2, 0, none⟩) ∧ Ext w9 w) F ⟨_, hB7, rfl, l1_j2, (Ext.refl _)⟩ ?_
        rintro m L w10 ⟨y3, hB7, l4_i8, l1_i8, K0_i8⟩
        rcases m with _ | m
        · rw [ref10_CheckBook_l2] at hB7; cases hB7
        rw [ref10_CheckBook_l2] at hB7
        have k13 := k11.tr K0_i8
        have k14 := k12.tr K0_i8
        have r49 := r45.ext K0_i8
        have r50 := r46.ext K0_i8
        have r51 := r47.ext K0_i8
        have r52 := r48.ext K0_i8
        have hb10 := hb9.ext K0_i8
        refine wp_seq <| wp_seq <| rg <| vl rfl rfl xmv <| vl rfl rfl (xfa l1_i8 fa26_4) <| vl rfl rfl (xld rfl ti24 ((Bx.cs hb10).at 4 rfl)) <| vl rfl rfl (xlen rfl Try.underlying24) <| vl rfl rfl (xlss l4_i8 rfl) <| nl <| cnd rfl (fun h7 => ?_) (fun h7 => ?_)
        ·
          have hB7 := ifp hB7 h7
          refine wp_skip <| wp_seq <| wp_block <| wp_seq <| wpl [] (.pure true 0 (.pure false 1 (.pure true 2 (.pure true 3 (.pure false 4 (.pure true 5 (.pure false 6 (.eff 7 (.pure true 8 .fin) .stop)))))))) mixed (by kernel_rfl) (fun w11 hx7 => ?_)
          have k15 := k13.tr hx7
          have k16 := k14.tr hx7
          have k17 := K0_i8.tr hx7
          have hb11 := hb10.ext hx7
          have r53 := r49.ext hx7
          have r54 := r50.ext hx7
          have r55 := r51.ext hx7
          have r56 := r52.ext hx7
          refine pv rfl rfl rfl (fun _ _ => xfa l1_i8 fa26_4) (.inl rfl) <| pv rfl rfl rfl (fun _ hS => xld rfl ti24 ((Bx.cs (hb11.ext (hS.resolve_left nofun))).at 4 rfl)) (.inr (Ext.refl _)) <| pv rfl rfl rfl (fun _ _ => xmv) (.inl rfl) <| ?_
          have hz := bs hB7; obtain ⟨x10, Ex10, hB7⟩ := hz
          have hz := (RV.els r5).ix Ex10; obtain ⟨b5, f3, cs5, e14, i9, i10, q12, hc7⟩ := hz
          cases e14
          obtain ⟨a8, c8, rfl, p8, q13, e15⟩ := q12
          have r57 := RV.of1 p8 q13 e15
          have hc8 := hc7.ext k15
          have r58 := r57.ext k15
          refine pv rfl rfl rfl (fun _ _ => xixs rfl l4_i8 Try.underlying24 ti22 i9 i10) (.inl rfl) <| pv rfl rfl rfl (fun _ hS => xld rfl ti22 ((hc8.ext (hS.resolve_left nofun)).at 0 rfl)) (.inr (Ext.refl _)) <| pv rfl rfl rfl (fun _ _ => xfa l1_i8 fa26_0) (.inl rfl) <| pv rfl rfl rfl (fun _ hS => xld rfl ti3 ((Bx.cs (hb11.ext (hS.resolve_left nofun))).at 0 rfl)) (.inr (Ext.refl _)) <| ?_
          have hz := bs hB7; obtain ⟨x11, Ex11, hB7⟩ := hz
          refine pe1 rfl <| cl rfl rfl (xc cb64 (mc rfl (mc rfl mn))) (c64 r58 Ex11) ?_
          rintro _ w12 ⟨rfl, hx8⟩
          have k18 := k15.tr hx8
          have k19 := k16.tr hx8
          have k20 := k17.tr hx8
          have hb12 := hb11.ext hx8
          have r59 := r53.ext hx8
          have r60 := r54.ext hx8
          have r61 := r55.ext hx8
          have r62 := r56.ext hx8
          refine nl ⟨fun _ _ => hx8, ?_⟩
          refine pv rfl rfl rfl (fun _ _ => xnot rfl) (.inl rfl) <| cnd rfl (fun h8 => ?_) (fun h8 => ?_)
          ·
            have hB7 := ifp hB7 h8
            refine wp_seq <| rg <| vl rfl rfl xas <| nl <| ?_
            cases hB7
            have hF := (show some _ = some _ from hF); cases hF
            exact wp_ret <| rt rfl (.tmp rfl rfl .nil) ⟨rfl, k18⟩
          ·
            have hB7 := ifn hB7 h8
            refine wp_skip <| rg <| vl rfl rfl xmv <| vl rfl rfl (xadd l4_i8 rfl) <| vl rfl rfl xas <| nl <| ?_
            refine lq m (Nat.lt_succ_self _) <| ?_
            exact ⟨_, hB7, rfl, l1_i8, k20⟩
        ·
          have hB7 := ifn hB7 h7
          refine wp_exit <| ?_
          cases hB7
          refine lf <| ?_
          exact ⟨rfl, l1_i8, K0_i8⟩
      rintro L w13 ⟨rfl, l1_j3, K0_j3⟩
      have k21 := k11.tr K0_j3
      have k22 := k12.tr K0_j3
      have r63 := r45.ext K0_j3
      have r64 := r46.ext K0_j3
      have r65 := r47.ext K0_j3
      have r66 := r48.ext K0_j3
      have hb13 := hb9.ext K0_j3
      refine wp_seq <| wp_seq <| rg <| vl rfl rfl (xlda l1_j3 ti26 rfl (Bx.cs hb13)) <| ?_
      have hz := bs hF; obtain ⟨x12, Ex12, hF⟩ := hz
      refine cl rfl rfl (xc cb20 (mc rfl (mc rfl mn))) (c20 (show RV (α := (Int × (List Int) × (List ((List Int) × Int)) × (List ((List Int) × Int)) × (List (List Int)))) _ (.agg [.int .i64 x0.1, .slice a1 x0.2.1.length c1, .slice a2 x0.2.2.1.length c2, .slice a3 x0.2.2.2.1.length c3, .slice a4 x0.2.2.2.2.length c4].toArray) (x0.1, x0.2.1, x0.2.2.1, x0.2.2.2.1, x0.2.2.2.2) from ⟨_, rfl, ⟨[.int .i64 x0.1], [.slice a1 x0.2.1.length c1] ++ ([.slice a2 x0.2.2.1.length c2] ++ ([.slice a3 x0.2.2.2.1.length c3] ++ [.slice a4 x0.2.2.2.2.length c4])), rfl, rfl, ⟨[.slice a1 x0.2.1.length c1], [.slice a2 x0.2.2.1.length c2] ++ ([.slice a3 x0.2.2.2.1.length c3] ++ [.slice a4 x0.2.2.2.2.length c4]), rfl, r63.rep1, ⟨[.slice a2 x0.2.2.1.length c2], [.slice a3 x0.2.2.2.1.length c3] ++ [.slice a4 x0.2.2.2.2.length c4], rfl, r64.rep1, ⟨[.slice a3 x0.2.2.2.1.length c3], [.slice a4 x0.2.2.2.2.length c4], rfl, r65.rep1, r66.rep1⟩⟩⟩⟩⟩) (RVo.nil (Nat.zero_le _)) Ex12) ?_
      rintro _ w14 ⟨rfl, hx9⟩
      have k23 := k21.tr hx9
      have k24 := k22.tr hx9
      have k25 := K0_j3.tr hx9
      refine vl rfl rfl (xgeq rfl rfl) <| nl <| cnd rfl (fun h9 => ?_) (fun h9 => ?_)
      ·
        have hF := ifp hF h9
        refine wp_seq <| rg <| vl rfl rfl xas <| nl <| ?_
        cases hF
        exact wp_ret <| rt rfl (.tmp rfl rfl .nil) ⟨rfl, k23⟩
      ·
        have hF := ifn hF h9
        refine wp_skip <| wp_seq <| rg <| vl rfl rfl xas <| nl <| ?_
        cases hF
        exact wp_ret <| rt rfl (.tmp rfl rfl .nil) ⟨rfl, k23⟩

set_option maxHeartbeats 4000000 in
theorem c49 {w0 : World} {v0 : Value} {x0 : (Int × (List Int) × (List ((List Int) × Int)) × (List ((List Int) × Int)) × (List (List Int)))} (r0 : RV w0 v0 x0) {v1 : Value} {x1 : (List Int)} (r1 : RV w0 v1 x1) {F : Nat} {r : Int} (hF : ref10_IsGranted F x0 x1 = some r) :
    Calls Try.prog 49 [v0, v1].toArray w0 (Ret fun v w' => v = .int .i64 r ∧ Ext w0 w') := by
  unfold ref10_IsGranted at hF
  have hz := id r0; obtain ⟨_, rfl, ⟨_, _, rfl, rfl, ⟨_, _, rfl, ⟨a1, c1, rfl, p1, q3, e1⟩, ⟨_, _, rfl, ⟨a2, c2, rfl, p2, q4, e2⟩, ⟨_, _, rfl, ⟨a3, c3, rfl, p3, q5, e3⟩, ⟨a4, c4, rfl, p4, q6, e4⟩⟩⟩⟩⟩⟩ := hz
  have r3 := RV.of1 p1 q3 e1
  have r4 := RV.of1 p2 q4 e2
  have r5 := RV.of1 p3 q5 e3
  have r6 := RV.of1 p4 q6 e4
  have hz := r1.sl; obtain ⟨a5, c5, rfl, -, -, -⟩ := hz
  refine entr (n := 16) Try.func49 rfl rfl rfl <| wp_seq <| rg <| sbx rfl rfl fun b3 w1 hx1 hg1 hb1 => ?_
  have r7 := r1.ext hx1
  have r8 := r3.ext hx1
  have r9 := r4.ext hx1
  have r10 := r5.ext hx1
  have r11 := r6.ext hx1
  have r12 := r0.ext hx1
  refine vl rfl rfl xas <| nl <| wp_seq <| wp_seq <| rg <| vl rfl rfl (xlda rfl ti26 rfl (Bx.cs hb1)) <| ?_
  have hz := bs hF; obtain ⟨x3, Ex3, hF⟩ := hz
  refine cl rfl rfl (xc cb29 (mc rfl mn)) (c29 (show RV (α := (Int × (List Int) × (List ((List Int) × Int)) × (List ((List Int) × Int)) × (List (List Int)))) _ (.agg [.int .i64 x0.1, .slice a1 x0.2.1.length c1, .slice a2 x0.2.2.1.length c2, .slice a3 x0.2.2.2.1.length c3, .slice a4 x0.2.2.2.2.length c4].toArray) (x0.1, x0.2.1, x0.2.2.1, x0.2.2.2.1, x0.2.2.2.2) from ⟨_, rfl, ⟨[.int .i64 x0.1], [.slice a1 x0.2.1.length c1] ++ ([.slice a2 x0.2.2.1.length c2] ++ ([.slice a3 x0.2.2.2.1.length c3] ++ [.slice a4 x0.2.2.2.2.length c4])), rfl, rfl, ⟨[.slice a1 x0.2.1.length c1], [.slice a2 x0.2.2.1.length c2] ++ ([.slice a3 x0.2.2.2.1.length c3] ++ [.slice a4 x0.2.2.2.2.length c4]), rfl, r8.rep1, ⟨[.slice a2 x0.2.2.1.length c2], [.slice a3 x0.2.2.2.1.length c3] ++ [.slice a4 x0.2.2.2.2.length c4], rfl, r9.rep1, ⟨[.slice a3 x0.2.2.2.1.length c3], [.slice a4 x0.2.2.2.2.length c4], rfl, r10.rep1, r11.rep1⟩⟩⟩⟩⟩) Ex3) ?_
  rintro _ w2 ⟨rfl, hx2⟩
  have k1 := hx1.tr hx2
  have hb2 := hb1.ext hx2
  have r13 := r8.ext hx2
  have r14 := r9.ext hx2
  have r15 := r10.ext hx2
  have r16 := r11.ext hx2
  have r17 := r7.ext hx2
  refine vl rfl rfl (xneq rfl rfl) <| nl <| cnd rfl (fun h3 => ?_) (fun h3 => ?_)
  ·
    have hF := ifp hF h3
    refine wp_seq <| rg <| vl rfl rfl (xlda rfl ti26 rfl (Bx.cs hb2)) <| ?_
    have hz := bs hF; obtain ⟨x4, Ex4, hF⟩ := hz
    refine cl rfl rfl (xc cb29 (mc rfl mn)) (c29 (show RV (α := (Int × (List Int) × (List ((List Int) × Int)) × (List ((List Int) × Int)) × (List (List Int)))) _ (.agg [.int .i64 x0.1, .slice a1 x0.2.1.length c1, .slice a2 x0.2.2.1.length c2, .slice a3 x0.2.2.2.1.length c3, .slice a4 x0.2.2.2.2.length c4].toArray) (x0.1, x0.2.1, x0.2.2.1, x0.2.2.2.1, x0.2.2.2.2) from ⟨_, rfl, ⟨[.int .i64 x0.1], [.slice a1 x0.2.1.length c1] ++ ([.slice a2 x0.2.2.1.length c2] ++ ([.slice a3 x0.2.2.2.1.length c3] ++ [.slice a4 x0.2.2.2.2.length c4])), rfl, rfl, ⟨[.slice a1 x0.2.1.length c1], [.slice a2 x0.2.2.1.length c2] ++ ([.slice a3 x0.2.2.2.1.length c3] ++ [.slice a4 x0.2.2.2.2.length c4]), rfl, r13.rep1, ⟨[.slice a2 x0.2.2.1.length c2], [.slice a3 x0.2.2.2.1.length c3] ++ [.slice a4 x0.2.2.2.2.length c4], rfl, r14.rep1, ⟨[.slice a3 x0.2.2.2.1.length c3], [.slice a4 x0.2.2.2.2.length c4], rfl, r15.rep1, r16.rep1⟩⟩⟩⟩⟩) Ex4) ?_
    rintro _ w3 ⟨rfl, hx3⟩
    have k2 := k1.tr hx3
    refine vl rfl rfl xas <| nl <| ?_
    cases hF
    exact wp_ret <| rt rfl (.tmp rfl rfl .nil) ⟨rfl, k2⟩
  ·
    have hF := ifn hF h3
    refine wp_skip <| wp_seq <| wp_seq <| rg <| vl rfl rfl xmv <| vl rfl rfl (xfa rfl fa26_3) <| vl rfl rfl (xld rfl ti23 ((Bx.cs hb2).at 3 rfl)) <| vl rfl rfl (xlen rfl Try.underlying23) <| ?_
    have hz := bs hF; obtain ⟨x5, Ex5, hF⟩ := hz
    refine cl rfl rfl (xc cb64 (mc rfl (mc rfl mn))) (c64 r17 Ex5) ?_
    rintro _ w4 ⟨rfl, hx4⟩
    have k3 := k1.tr hx4
    refine vl rfl rfl (xnot rfl) <| nl <| cnd rfl (fun h4 => ?_) (fun h4 => ?_)
    ·
      have hF := ifp hF h4
      refine wp_seq <| rg <| vl rfl rfl xas <| nl <| ?_
      cases hF
      exact wp_ret <| rt rfl (.tmp rfl rfl .nil) ⟨rfl, k3⟩
    ·
      have hF := ifn hF h4
      refine wp_skip <| wp_seq <| rg <| vl rfl rfl xas <| nl <| ?_
      cases hF
      exact wp_ret <| rt rfl (.tmp rfl rfl .nil) ⟨rfl, k3⟩

set_option maxHeartbeats 4000000 in
theorem c37 {w0 : World} {v0 : Value} {x0 : (Int × (List Int) × (List ((List Int) × Int)) × (List ((List Int) × Int)) × (List (List Int)))} (r0 : RV w0 v0 x0) {v1 : Value} {x1 : (List Int)} (r1 : RV w0 v1 x1) {F : Nat} {r : Int} (hF : ref10_Check F x0 x1 = some r) :
    Calls Try.prog 37 [v0, v1].toArray w0 (Ret fun v w' => v = .int .i64 r ∧ Ext w0 w') := by
  unfold ref10_Check at hF
  have hz := id r0; obtain ⟨_, rfl, ⟨_, _, rfl, rfl, ⟨_, _, rfl, ⟨a1, c1, rfl, p1, q3, e1⟩, ⟨_, _, rfl, ⟨a2, c2, rfl, p2, q4, e2⟩, ⟨_, _, rfl, ⟨a3, c3, rfl, p3, q5, e3⟩, ⟨a4, c4, rfl, p4, q6, e4⟩⟩⟩⟩⟩⟩ := hz
  have r3 := RV.of1 p1 q3 e1
  have r4 := RV.of1 p2 q4 e2
  have r5 := RV.of1 p3 q5 e3
  have r6 := RV.of1 p4 q6 e4
  have hz := r1.sl; obtain ⟨a5, c5, rfl, -, -, -⟩ := hz
  refine entr (n := 16) Try.func37 rfl rfl rfl <| wp_seq <| rg <| sbx rfl rfl fun b3 w1 hx1 hg1 hb1 => ?_
  have r7 := r1.ext hx1
  have r8 := r3.ext hx1
  have r9 := r4.ext hx1
  have r10 := r5.ext hx1
  have r11 := r6.ext hx1
  have r12 := r0.ext hx1
  refine vl rfl rfl xas <| nl <| wp_seq <| wp_seq <| rg <| vl rfl rfl (xlda rfl ti26 rfl (Bx.cs hb1)) <| vl rfl rfl xmv <| ?_
  have hz := bs hF; obtain ⟨x3, Ex3, hF⟩ := hz
  refine cl rfl rfl (xc cb49 (mc rfl (mc rfl mn))) (c49 (show RV (α := (Int × (List Int) × (List ((List Int) × Int)) × (List ((List Int) × Int)) × (List (List Int)))) _ (.agg [.int .i64 x0.1, .slice a1 x0.2.1.length c1, .slice a2 x0.2.2.1.length c2, .slice a3 x0.2.2.2.1.length c3, .slice a4 x0.2.2.2.2.length c4].toArray) (x0.1, x0.2.1, x0.2.2.1, x0.2.2.2.1, x0.2.2.2.2) from ⟨_, rfl, ⟨[.int .i64 x0.1], [.slice a1 x0.2.1.length c1] ++ ([.slice a2 x0.2.2.1.length c2] ++ ([.slice a3 x0.2.2.2.1.length c3] ++ [.slice a4 x0.2.2.2.2.length c4])), rfl, rfl, ⟨[.slice a1 x0.2.1.length c1], [.slice a2 x0.2.2.1.length c2] ++ ([.slice a3 x0.2.2.2.1.length c3] ++ [.slice a4 x0.2.2.2.2.length c4]), rfl, r8.rep1, ⟨[.slice a2 x0.2.2.1.length c2], [.slice a3 x0.2.2.2.1.length c3] ++ [.slice a4 x0.2.2.2.2.length c4], rfl, r9.rep1, ⟨[.slice a3 x0.2.2.2.1.length c3], [.slice a4 x0.2.2.2.2.length c4], rfl, r10.rep1, r11.rep1⟩⟩⟩⟩⟩) r7 Ex3) ?_
  rintro _ w2 ⟨rfl, hx2⟩
  have k1 := hx1.tr hx2
  have hb2 := hb1.ext hx2
  have r13 := r8.ext hx2
  have r14 := r9.ext hx2
  have r15 := r10.ext hx2
  have r16 := r11.ext hx2
  have r17 := r7.ext hx2
  refine vl rfl rfl (xneq rfl rfl) <| nl <| cnd rfl (fun h3 => ?_) (fun h3 => ?_)
  ·
    have hF := ifp hF h3
    refine wp_seq <| rg <| vl rfl rfl (xlda rfl ti26 rfl (Bx.cs hb2)) <| vl rfl rfl xmv <| ?_
    have hz := bs hF; obtain ⟨x4, Ex4, hF⟩ := hz
    refine cl rfl rfl (xc cb49 (mc rfl (mc rfl mn))) (c49 (show RV (α := (Int × (List Int) × (List ((List Int) × Int)) × (List ((List Int) × Int)) × (List (List Int)))) _ (.agg [.int .i64 x0.1, .slice a1 x0.2.1.length c1, .slice a2 x0.2.2.1.length c2, .slice a3 x0.2.2.2.1.length c3, .slice a4 x0.2.2.2.2.length c4].toArray) (x0.1, x0.2.1, x0.2.2.1, x0.2.2.2.1, x0.2.2.2.2) from ⟨_, rfl, ⟨[.int .i64 x0.1], [.slice a1 x0.2.1.length c1] ++ ([.slice a2 x0.2.2.1.length c2] ++ ([.slice a3 x0.2.2.2.1.length c3] ++ [.slice a4 x0.2.2.2.2.length c4])), rfl, rfl, ⟨[.slice a1 x0.2.1.length c1], [.slice a2 x0.2.2.1.length c2] ++ ([.slice a3 x0.2.2.2.1.length c3] ++ [.slice a4 x0.2.2.2.2.length c4]), rfl, r13.rep1, ⟨[.slice a2 x0.2.2.1.length c2], [.slice a3 x0.2.2.2.1.length c3] ++ [.slice a4 x0.2.2.2.2.length c4], rfl, r14.rep1, ⟨[.slice a3 x0.2.2.2.1.length c3], [.slice a4 x0.2.2.2.2.length c4], rfl, r15.rep1, r16.rep1⟩⟩⟩⟩⟩) r17 Ex4) ?_
    rintro _ w3 ⟨rfl, hx3⟩
    have k2 := k1.tr hx3
    refine vl rfl rfl xas <| nl <| ?_
    cases hF
    exact wp_ret <| rt rfl (.tmp rfl rfl .nil) ⟨rfl, k2⟩
  ·
    have hF := ifn hF h3
    refine wp_skip <| wp_seq <| wp_seq <| rg <| vl rfl rfl (xlda rfl ti26 rfl (Bx.cs hb2)) <| vl rfl rfl xmv <| ?_
    have hz := bs hF; obtain ⟨x5, Ex5, hF⟩ := hz
    refine cl rfl rfl (xc cb20 (mc rfl (mc rfl mn))) (c20 (show RV (α := (Int × (List Int) × (List ((List Int) × Int)) × (List ((List Int) × Int)) × (List (List Int)))) _ (.agg [.int .i64 x0.1, .slice a1 x0.2.1.length c1, .slice a2 x0.2.2.1.length c2, .slice a3 x0.2.2.2.1.length c3, .slice a4 x0.2.2.2.2.length c4].toArray) (x0.1, x0.2.1, x0.2.2.1, x0.2.2.2.1, x0.2.2.2.2) from ⟨_, rfl, ⟨[.int .i64 x0.1], [.slice a1 x0.2.1.length c1] ++ ([.slice a2 x0.2.2.1.length c2] ++ ([.slice a3 x0.2.2.2.1.length c3] ++ [.slice a4 x0.2.2.2.2.length c4])), rfl, rfl, ⟨[.slice a1 x0.2.1.length c1], [.slice a2 x0.2.2.1.length c2] ++ ([.slice a3 x0.2.2.2.1.length c3] ++ [.slice a4 x0.2.2.2.2.length c4]), rfl, r13.rep1, ⟨[.slice a2 x0.2.2.1.length c2], [.slice a3 x0.2.2.2.1.length c3] ++ [.slice a4 x0.2.2.2.2.length c4], rfl, r14.rep1, ⟨[.slice a3 x0.2.2.2.1.length c3], [.slice a4 x0.2.2.2.2.length c4], rfl, r15.rep1, r16.rep1⟩⟩⟩⟩⟩) r17 Ex5) ?_
    rintro _ w4 ⟨rfl, hx4⟩
    have k3 := k1.tr hx4
    refine vl rfl rfl (xgeq rfl rfl) <| nl <| cnd rfl (fun h4 => ?_) (fun h4 => ?_)
    ·
      have hF := ifp hF h4
      refine wp_seq <| rg <| vl rfl rfl xas <| nl <| ?_
      cases hF
      exact wp_ret <| rt rfl (.tmp rfl rfl .nil) ⟨rfl, k3⟩
    ·
      have hF := ifn hF h4
      refine wp_skip <| wp_seq <| rg <| vl rfl rfl xas <| nl <| ?_
      cases hF
      exact wp_ret <| rt rfl (.tmp rfl rfl .nil) ⟨rfl, k3⟩

set_option maxHeartbeats 4000000 in
theorem c19 {w0 : World} {v0 : Value} {x0 : (Int × (List Int) × (List ((List Int) × Int)) × (List ((List Int) × Int)) × (List (List Int)))} (r0 : RV w0 v0 x0) {v1 : Value} {x1 : (List Int)} (r1 : RV w0 v1 x1) {F : Nat} {r : Int} (hF : ref10_BrokenError F x0 x1 = some r) :
    Calls Try.prog 19 [v0, v1].toArray w0 (Ret fun v w' => v = .int .i64 r ∧ Ext w0 w') := by
  unfold ref10_BrokenError at hF
  have hz := id r0; obtain ⟨_, rfl, ⟨_, _, rfl, rfl, ⟨_, _, rfl, ⟨a1, c1, rfl, p1, q3, e1⟩, ⟨_, _, rfl, ⟨a2, c2, rfl, p2, q4, e2⟩, ⟨_, _, rfl, ⟨a3, c3, rfl, p3, q5, e3⟩, ⟨a4, c4, rfl, p4, q6, e4⟩⟩⟩⟩⟩⟩ := hz
  have r3 := RV.of1 p1 q3 e1
  have r4 := RV.of1 p2 q4 e2
  have r5 := RV.of1 p3 q5 e3
  have r6 := RV.of1 p4 q6 e4
  have hz := r1.sl; obtain ⟨a5, c5, rfl, -, -, -⟩ := hz
  refine entr (n := 14) Try.func19 rfl rfl rfl <| wp_seq <| rg <| sbx rfl rfl fun b3 w1 hx1 hg1 hb1 => ?_
  have r7 := r1.ext hx1
  have r8 := r3.ext hx1
  have r9 := r4.ext hx1
  have r10 := r5.ext hx1
  have r11 := r6.ext hx1
  have r12 := r0.ext hx1
  refine vl rfl rfl xas <| nl <| wp_seq <| rg <| vl rfl rfl (xlda rfl ti26 rfl (Bx.cs hb1)) <| vl rfl rfl xmv <| ?_
  have hz := bs hF; obtain ⟨x3, Ex3, hF⟩ := hz
  refine cl rfl rfl (xc cb37 (mc rfl (mc rfl mn))) (c37 (show RV (α := (Int × (List Int) × (List ((List Int) × Int)) × (List ((List Int) × Int)) × (List (List Int)))) _ (.agg [.int .i64 x0.1, .slice a1 x0.2.1.length c1, .slice a2 x0.2.2.1.length c2, .slice a3 x0.2.2.2.1.length c3, .slice a4 x0.2.2.2.2.length c4].toArray) (x0.1, x0.2.1, x0.2.2.1, x0.2.2.2.1, x0.2.2.2.2) from ⟨_, rfl, ⟨[.int .i64 x0.1], [.slice a1 x0.2.1.length c1] ++ ([.slice a2 x0.2.2.1.length c2] ++ ([.slice a3 x0.2.2.2.1.length c3] ++ [.slice a4 x0.2.2.2.2.length c4])), rfl, rfl, ⟨[.slice a1 x0.2.1.length c1], [.slice a2 x0.2.2.1.length c2] ++ ([.slice a3 x0.2.2.2.1.length c3] ++ [.slice a4 x0.2.2.2.2.length c4]), rfl, r8.rep1, ⟨[.slice a2 x0.2.2.1.length c2], [.slice a3 x0.2.2.2.1.length c3] ++ [.slice a4 x0.2.2.2.2.length c4], rfl, r9.rep1, ⟨[.slice a3 x0.2.2.2.1.length c3], [.slice a4 x0.2.2.2.2.length c4], rfl, r10.rep1, r11.rep1⟩⟩⟩⟩⟩) r7 Ex3) ?_
  rintro _ w2 ⟨rfl, hx2⟩
  have k1 := hx1.tr hx2
  refine vl rfl rfl xas <| nl <| wp_seq <| wp_seq <| rg <| vl rfl rfl xmv <| vl rfl rfl (xeql rfl rfl) <| nl <| cnd rfl (fun h3 => ?_) (fun h3 => ?_)
  ·
    have hF := ifp hF h3
    refine wp_seq <| rg <| vl rfl rfl xas <| nl <| ?_
    cases hF
    exact wp_ret <| rt rfl (.tmp rfl rfl .nil) ⟨rfl, k1⟩
  ·
    have hF := ifn hF h3
    refine wp_skip <| wp_seq <| wp_seq <| rg <| vl rfl rfl xmv <| vl rfl rfl (xeql rfl rfl) <| nl <| cnd rfl (fun h4 => ?_) (fun h4 => ?_)
    ·
      have hF := ifp hF h4
      refine wp_seq <| rg <| vl rfl rfl xas <| nl <| ?_
      cases hF
      exact wp_ret <| rt rfl (.tmp rfl rfl .nil) ⟨rfl, k1⟩
    ·
      have hF := ifn hF h4
      refine wp_skip <| wp_seq <| rg <| vl rfl rfl xmv <| vl rfl rfl xas <| nl <| ?_
      cases hF
      exact wp_ret <| rt rfl (.tmp rfl rfl .nil) ⟨rfl, k1⟩

set_option maxHeartbeats 4000000 in
theorem c23 {w0 : World} {v0 : Value} {x0 : (List Int)} (r0 : RV w0 v0 x0) {v1 : Value} {x1 : (List Int)} (r1 : RV w0 v1 x1) {F : Nat} {r : Bool} (hF : law10_ints F x0 x1 = some r) :
    Calls Try.prog 23 [v0, v1].toArray w0 (Ret fun v w' => v = .bool r ∧ Ext w0 w') := by
  unfold law10_ints at hF
  have hz := r0.sl; obtain ⟨a1, c1, rfl, -, -, -⟩ := hz
  have hz := r1.sl; obtain ⟨a2, c2, rfl, -, -, -⟩ := hz
  refine entr (n := 26) Try.func23 rfl rfl rfl <| wp_seq <| rg <| vl rfl rfl xas <| nl <| wp_seq <| wp_seq <| rg <| vl rfl rfl xmv <| vl rfl rfl (xlen rfl Try.underlying22) <| vl rfl rfl xmv <| vl rfl rfl (xlen rfl Try.underlying22) <| vl rfl rfl (xneq rfl rfl) <| nl <| cnd rfl (fun h3 => ?_) (fun h3 => ?_)
  ·
    have hF := ifp hF h3
    refine wp_seq <| rg <| vl rfl rfl xas <| nl <| ?_
    cases hF
    exact wp_ret <| rt rfl (.tmp rfl rfl .nil) ⟨rfl, (Ext.refl _)⟩
  ·
    have hF := ifn hF h3
    refine wp_skip <| wp_seq <| wp_seq <| rg <| vl rfl rfl xas <| nl <| ?_
    have hz := bs hF; obtain ⟨o1, hB1, hF⟩ := hz
    refine ct (fun L w => o1 = .inr () ∧ Ext w0 w) ?_ ?_
    ·
      refine wp_block <| lp (I := fun m L w => ∃ y1 : Int, law10_ints_l1 F x0 x1 m y1  = some o1 ∧ L 5 = .int .i64 y1 ∧ L 0 = .slice a1 x0.length c1 ∧ L 1 = .slice a2 x1.length c2 ∧ Ext w0 w) F ⟨_, hB1, rfl, rfl, rfl, (Ext.refl _)⟩ ?_
      rintro m L w1 ⟨y1, hB1, l5_i1, l0_i1, l1_i1, K0_i1⟩
      rcases m with _ | m
      · rw [law10_ints_l1] at hB1; cases hB1
      rw [law10_ints_l1] at hB1
      have r3 := r0.ext K0_i1
      have r4 := r1.ext K0_i1
      refine wp_seq <| wp_seq <| rg <| vl rfl rfl xmv <| vl rfl rfl xmv <| vl rfl rfl (xlen l0_i1 Try.underlying22) <| vl rfl rfl (xlss l5_i1 rfl) <| nl <| cnd rfl (fun h4 => ?_) (fun h4 => ?_)
      ·
        have hB1 := ifp hB1 h4
        refine wp_skip <| wp_seq <| wp_block <| wp_seq <| wpl [] (.pure true 0 (.pure true 1 (.pure true 2 (.pure false 3 (.pure true 4 (.pure true 5 (.pure true 6 (.pure false 7 (.pure true 8 .fin))))))))) mixed (by kernel_rfl) (fun w2 hx1 => ?_)
        have k1 := K0_i1.tr hx1
        have r5 := r3.ext hx1
        have r6 := r4.ext hx1
        refine pv rfl rfl rfl (fun _ _ => xmv) (.inl rfl) <| pv rfl rfl rfl (fun _ _ => xmv) (.inl rfl) <| ?_
        have hz := bs hB1; obtain ⟨x3, Ex3, hB1⟩ := hz
        have hz := (RV.els r0).ix Ex3; obtain ⟨b3, f1, cs3, e1, i2, i3, q3, hc1⟩ := hz
        cases e1
        obtain rfl := q3
        have hc2 := hc1.ext k1
        refine pv rfl rfl rfl (fun _ _ => xixs l0_i1 l5_i1 Try.underlying22 ti3 i2 i3) (.inl rfl) <| pv rfl rfl rfl (fun _ hS => xld rfl ti3 ((hc2.ext (hS.resolve_left nofun)).at 0 rfl)) (.inr (Ext.refl _)) <| pv rfl rfl rfl (fun _ _ => xmv) (.inl rfl) <| pv rfl rfl rfl (fun _ _ => xmv) (.inl rfl) <| ?_
        have hz := bs hB1; obtain ⟨x4, Ex4, hB1⟩ := hz
        have hz := (RV.els r1).ix Ex4; obtain ⟨b4, f2, cs4, e2, i4, i5, q4, hc3⟩ := hz
        cases e2
        obtain rfl := q4
        have hc4 := hc3.ext k1
        refine pv rfl rfl rfl (fun _ _ => xixs l1_i1 l5_i1 Try.underlying22 ti3 i4 i5) (.inl rfl) <| pv rfl rfl rfl (fun _ hS => xld rfl ti3 ((hc4.ext (hS.resolve_left nofun)).at 0 rfl)) (.inr (Ext.refl _)) <| pv rfl rfl rfl (fun _ _ => xneq rfl rfl) (.inl rfl) <| cnd rfl (fun h5 => ?_) (fun h5 => ?_)
        ·
          have hB1 := ifp hB1 h5
          refine wp_seq <| rg <| vl rfl rfl xas <| nl <| ?_
          cases hB1
          have hF := (show some _ = some _ from hF); cases hF
          exact wp_ret <| rt rfl (.tmp rfl rfl .nil) ⟨rfl, k1⟩
        ·
          have hB1 := ifn hB1 h5
          refine wp_skip <| rg <| vl rfl rfl xmv <| vl rfl rfl (xadd l5_i1 rfl) <| vl rfl rfl xas <| nl <| ?_
          refine lq m (Nat.lt_succ_self _) <| ?_
          exact ⟨_, hB1, rfl, l0_i1, l1_i1, k1⟩
      ·
        have hB1 := ifn hB1 h4
        refine wp_exit <| ?_
        cases hB1
        refine lf <| ?_
        exact ⟨rfl, K0_i1⟩
    rintro L w3 ⟨rfl, K0_j1⟩
    refine wp_seq <| rg <| vl rfl rfl xas <| nl <| ?_
    cases hF
    exact wp_ret <| rt rfl (.tmp rfl rfl .nil) ⟨rfl, K0_j1⟩

set_option maxHeartbeats 4000000 in
theorem c56 {w0 : World} {x0 : Int} {F : Nat} {r : (List Int)} (hF : ref10_List F x0 = some r) :
    Calls Try.prog 56 [.int .i64 x0].toArray w0 (Ret fun v w' => ∃ u0 : Value, v = u0 ∧ Row 3 w0.heap.size w' u0 r ∧ Ext w0 w') := by
  unfold ref10_List at hF
  refine entr (n := 21) Try.func56 rfl rfl rfl <| wp_seq <| rg <| vl rfl rfl xas <| nl <| wp_seq <| rg <| vl rfl rfl xas <| nl <| wp_seq <| wp_seq <| rg <| vl rfl rfl xas <| nl <| ?_
  have o1 : Row (α := Int) 3 w0.heap.size w0 (.slice none 0 0) [] := Row.nil
  have hz := bs hF; obtain ⟨z1, hB1, hF⟩ := hz
  refine ct (fun L w => ∃ v3 : Value, L 3 = v3 ∧ Row 3 w0.heap.size w v3 z1 ∧ Ext w0 w) ?_ ?_
  ·
    refine wp_block <| lp (I := fun m L w => ∃ y1 : (List Int), ∃ y2 : Int, ∃ v2 : Value, ref10_List_l1 F x0 m y1 y2  = some z1 ∧ L 3 = v2 ∧ Row 3 w0.heap.size w v2 y1 ∧ L 4 = .int .i64 y2 ∧ L 0 = .int .i64 x0 ∧ Ext w0 w) F ⟨_, _, _, hB1, rfl, o1, rfl, rfl, (Ext.refl _)⟩ ?_
    rintro m L w1 ⟨y1, y2, v2, hB1, l3_i1, O3_i1, l4_i1, l0_i1, K0_i1⟩
    rcases m with _ | m
    · rw [ref10_List_l1] at hB1; cases hB1
    rw [ref10_List_l1] at hB1
    have hz := RV.sl O3_i1.rv; obtain ⟨a1, c1, rfl, -, -, -⟩ := hz
    refine wp_seq <| wp_seq <| rg <| vl rfl rfl xmv <| vl rfl rfl xmv <| ?_
    have hz := bs hB1; obtain ⟨x2, Ex2, hB1⟩ := hz
    refine vl rfl rfl (xshr l0_i1 l4_i1 Ex2) <| vl rfl rfl (xgtr rfl rfl) <| nl <| cnd rfl (fun h2 => ?_) (fun h2 => ?_)
    ·
      have hB1 := ifp hB1 h2
      refine wp_skip <| wp_seq <| ?_
      have hz := bs hB1; obtain ⟨y3, hB3, hB1⟩ := hz
      refine ct (fun L w => ∃ v4 : Value, L 3 = v4 ∧ Row 3 w0.heap.size w v4 y3 ∧ L 0 = .int .i64 x0 ∧ L 4 = .int .i64 y2 ∧ Ext w0 w) ?_ ?_
      ·
        refine wp_block <| wp_seq <| rg <| vl rfl rfl xmv <| vl rfl rfl xmv <| ?_
        have hz := bs hB3; obtain ⟨x3, Ex3, hB3⟩ := hz
        refine vl rfl rfl (xshr l0_i1 l4_i1 Ex3) <| vl rfl rfl (xrem rfl rfl (by decide)) <| vl rfl rfl (xeql rfl rfl) <| nl <| ?_
        have hz := bs hB3; obtain ⟨y4, hB4, hB3⟩ := hz
        refine ct (fun L w => ∃ v5 : Value, L 3 = v5 ∧ Row 3 w0.heap.size w v5 y4 ∧ L 0 = .int .i64 x0 ∧ L 4 = .int .i64 y2 ∧ Ext w0 w) ?_ ?_
        ·
          refine cnd rfl (fun h3 => ?_) (fun h3 => ?_)
          ·
            have hB4 := ifp hB4 h3
            refine rg <| vl rfl rfl xmv <| vl rfl rfl xmv <| sbsv (cs := [.int .i64 y2]) Try.underlying22 ti3 rfl (pc l4_i1 pn) rfl rfl rfl rfl rfl fun b2 w2 hx1 hg1 hb1 => ?_
            have k1 := K0_i1.tr hx1
            have O1 := O3_i1.ext hx1
            have o3 : Row (α := Int) 3 w1.heap.size w2 (.slice (some ⟨b2, 0, none⟩) 1 1) [y2] := Row.lit hg1 hb1 rfl (ble rfl)
            have hz := bs hB4; obtain ⟨x4, Ex4, hB4⟩ := hz
            refine sapx (l := y1) (k := ([y2] : List Int)) l3_i1 rfl Try.underlying22 ti3 rfl rfl O1 (RV.els o3.rv) Ex4 k1.size fun v6 w3 o4 hB6 hgr1 how1 => ?_
            have k2 : Ext w0 w3 := k1.trans hB6
            have hz := RV.sl o4.rv; obtain ⟨a2, c2, rfl, -, -, -⟩ := hz
            refine vl rfl rfl xas <| nl <| ?_
            cases hB4
            refine lf <| ?_
            exact ⟨_, rfl, o4, l0_i1, l4_i1, k2⟩
          ·
            have hB4 := ifn hB4 h3
            refine wp_skip <| ?_
            cases hB4
            refine lf <| ?_
            exact ⟨_, l3_i1, O3_i1, l0_i1, l4_i1, K0_i1⟩
        rintro L w4 ⟨v5, l3_j1, O3_j1, l0_j1, l4_j1, K0_j1⟩
        have hz := RV.sl O3_j1.rv; obtain ⟨a3, c3, rfl, -, -, -⟩ := hz
        cases hB3
        refine lf <| ?_
        exact ⟨_, l3_j1, O3_j1, l0_j1, l4_j1, K0_j1⟩
      rintro L w5 ⟨v4, l3_j2, O3_j2, l0_j2, l4_j2, K0_j2⟩
      have hz := RV.sl O3_j2.rv; obtain ⟨a4, c4, rfl, -, -, -⟩ := hz
      refine rg <| vl rfl rfl xmv <| vl rfl rfl (xadd l4_j2 rfl) <| vl rfl rfl xas <| nl <| ?_
      refine lq m (Nat.lt_succ_self _) <| ?_
      exact ⟨_, _, _, hB1, l3_j2, O3_j2, rfl, l0_j2, K0_j2⟩
    ·
      have hB1 := ifn hB1 h2
      refine wp_exit <| ?_
      cases hB1
      refine lf <| ?_
      exact ⟨_, l3_i1, O3_i1, K0_i1⟩
  rintro L w6 ⟨v3, l3_j3, O3_j3, K0_j3⟩
  have hz := RV.sl O3_j3.rv; obtain ⟨a5, c5, rfl, -, -, -⟩ := hz
  refine wp_seq <| rg <| vl rfl rfl xmv <| vl rfl rfl xas <| nl <| ?_
  cases hF
  exact wp_ret <| rt rfl (.tmp l3_j3 rfl .nil) ⟨_, rfl, O3_j3, K0_j3⟩

set_option maxHeartbeats 4000000 in
theorem c57 {w0 : World} {v0 : Value} {x0 : (List Int)} (r0 : RV w0 v0 x0) {v1 : Value} {x1 : (List Int)} (r1 : RV w0 v1 x1) {F : Nat} {r : Bool} (hF : ref10_comes F x0 x1 = some r) :
    Calls Try.prog 57 [v0, v1].toArray w0 (Ret fun v w' => v = .bool r ∧ Ext w0 w') := by
  unfold ref10_comes at hF
  have hz := r0.sl; obtain ⟨a1, c1, rfl, -, -, -⟩ := hz
  have hz := r1.sl; obtain ⟨a2, c2, rfl, -, -, -⟩ := hz
  refine entr (n := 30) Try.func57 rfl rfl rfl <| wp_seq <| rg <| vl rfl rfl xas <| nl <| wp_seq <| wp_seq <| rg <| vl rfl rfl xas <| nl <| ?_
  have hz := bs hF; obtain ⟨o1, hB1, hF⟩ := hz
  refine ct (fun L w => o1 = .inr () ∧ Ext w0 w) ?_ ?_
  ·
    refine wp_block <| lp (I := fun m L w => ∃ y1 : Int, ref10_comes_l1 F x0 x1 m y1  = some o1 ∧ L 5 = .int .i64 y1 ∧ L 0 = .slice a1 x0.length c1 ∧ L 1 = .slice a2 x1.length c2 ∧ Ext w0 w) F ⟨_, hB1, rfl, rfl, rfl, (Ext.refl _)⟩ ?_
    rintro m L w1 ⟨y1, hB1, l5_i1, l0_i1, l1_i1, K0_i1⟩
    rcases m with _ | m
    · rw [ref10_comes_l1] at hB1; cases hB1
    rw [ref10_comes_l1] at hB1
    have r3 := r0.ext K0_i1
    have r4 := r1.ext K0_i1
    refine wp_seq <| wp_seq <| rg <| vl rfl rfl xmv <| vl rfl rfl xmv <| vl rfl rfl (xlen l0_i1 Try.underlying22) <| vl rfl rfl (xlss l5_i1 rfl) <| nl <| cnd rfl (fun h3 => ?_) (fun h3 => ?_)
    ·
      have hB1 := ifp hB1 h3
      refine wp_skip <| wp_seq <| wp_block <| wp_seq <| wpl [] (.pure true 0 (.pure true 1 (.pure true 2 (.pure false 3 (.pure true 4 (.pure true 5 (.pure true 6 (.pure false 7 (.pure true 8 .fin))))))))) mixed (by kernel_rfl) (fun w2 hx1 => ?_)
      have k1 := K0_i1.tr hx1
      have r5 := r3.ext hx1
      have r6 := r4.ext hx1
      refine pv rfl rfl rfl (fun _ _ => xmv) (.inl rfl) <| pv rfl rfl rfl (fun _ _ => xmv) (.inl rfl) <| ?_
      have hz := bs hB1; obtain ⟨x3, Ex3, hB1⟩ := hz
      have hz := (RV.els r0).ix Ex3; obtain ⟨b3, f1, cs3, e1, i2, i3, q3, hc1⟩ := hz
      cases e1
      obtain rfl := q3
      have hc2 := hc1.ext k1
      refine pv rfl rfl rfl (fun _ _ => xixs l0_i1 l5_i1 Try.underlying22 ti3 i2 i3) (.inl rfl) <| pv rfl rfl rfl (fun _ hS => xld rfl ti3 ((hc2.ext (hS.resolve_left nofun)).at 0 rfl)) (.inr (Ext.refl _)) <| pv rfl rfl rfl (fun _ _ => xmv) (.inl rfl) <| pv rfl rfl rfl (fun _ _ => xmv) (.inl rfl) <| ?_
      have hz := bs hB1; obtain ⟨x4, Ex4, hB1⟩ := hz
      have hz := (RV.els r1).ix Ex4; obtain ⟨b4, f2, cs4, e2, i4, i5, q4, hc3⟩ := hz
      cases e2
      obtain rfl := q4
      have hc4 := hc3.ext k1
      refine pv rfl rfl rfl (fun _ _ => xixs l1_i1 l5_i1 Try.underlying22 ti3 i4 i5) (.inl rfl) <| pv rfl rfl rfl (fun _ hS => xld rfl ti3 ((hc4.ext (hS.resolve_left nofun)).at 0 rfl)) (.inr (Ext.refl _)) <| pv rfl rfl rfl (fun _ _ => xneq rfl rfl) (.inl rfl) <| cnd rfl (fun h4 => ?_) (fun h4 => ?_)
      ·
        have hB1 := ifp hB1 h4
        refine wp_seq <| wpl [] (.pure true 0 (.pure true 1 (.pure true 2 (.pure false 3 (.pure true 4 (.pure true 5 (.pure true 6 (.pure false 7 (.pure true 8 (.pure true 9 .fin)))))))))) mixed (by kernel_rfl) (fun w3 hx2 => ?_)
        have k2 := k1.tr hx2
        have r7 := r5.ext hx2
        have r8 := r6.ext hx2
        refine pv rfl rfl rfl (fun _ _ => xmv) (.inl rfl) <| pv rfl rfl rfl (fun _ _ => xmv) (.inl rfl) <| ?_
        have hz := bs hB1; obtain ⟨x5, Ex5, hB1⟩ := hz
        have hz := ix2 r0 Ex5; obtain ⟨cs5, i6, i7, q5, hc5⟩ := hz
        obtain rfl := q5
        have hc6 := hc5.ext k2
        refine pv rfl rfl rfl (fun _ _ => xixs l0_i1 l5_i1 Try.underlying22 ti3 i6 i7) (.inl rfl) <| pv rfl rfl rfl (fun _ hS => xld rfl ti3 ((hc6.ext (hS.resolve_left nofun)).at 0 rfl)) (.inr (Ext.refl _)) <| pv rfl rfl rfl (fun _ _ => xmv) (.inl rfl) <| pv rfl rfl rfl (fun _ _ => xmv) (.inl rfl) <| ?_
        have hz := bs hB1; obtain ⟨x6, Ex6, hB1⟩ := hz
        have hz := ix2 r1 Ex6; obtain ⟨cs6, i8, i9, q6, hc7⟩ := hz
        obtain rfl := q6
        have hc8 := hc7.ext k2
        refine pv rfl rfl rfl (fun _ _ => xixs l1_i1 l5_i1 Try.underlying22 ti3 i8 i9) (.inl rfl) <| pv rfl rfl rfl (fun _ hS => xld rfl ti3 ((hc8.ext (hS.resolve_left nofun)).at 0 rfl)) (.inr (Ext.refl _)) <| pv rfl rfl rfl (fun _ _ => xlss rfl rfl) (.inl rfl) <| pv rfl rfl rfl (fun _ _ => xas) (.inl rfl) <| ?_
        cases hB1
        have hF := (show some _ = some _ from hF); cases hF
        exact wp_ret <| rt rfl (.tmp rfl rfl .nil) ⟨rfl, k2⟩
      ·
        have hB1 := ifn hB1 h4
        refine wp_skip <| rg <| vl rfl rfl xmv <| vl rfl rfl (xadd l5_i1 rfl) <| vl rfl rfl xas <| nl <| ?_
        refine lq m (Nat.lt_succ_self _) <| ?_
        exact ⟨_, hB1, rfl, l0_i1, l1_i1, k1⟩
    ·
      have hB1 := ifn hB1 h3
      refine wp_exit <| ?_
      cases hB1
      refine lf <| ?_
      exact ⟨rfl, K0_i1⟩
  rintro L w4 ⟨rfl, K0_j1⟩
  refine wp_seq <| rg <| vl rfl rfl xas <| nl <| ?_
  cases hF
  exact wp_ret <| rt rfl (.tmp rfl rfl .nil) ⟨rfl, K0_j1⟩

set_option maxHeartbeats 4000000 in
theorem c25 {w0 : World} {v0 : Value} {x0 : (Int × (List Int) × (List ((List Int) × Int)) × (List ((List Int) × Int)) × (List (List Int)))} (r0 : RV w0 v0 x0) {F : Nat} {r : ((List Int) × Int)} (hF : ref10_Fewest F x0 = some r) :
    Calls Try.prog 25 [v0].toArray w0 (Ret fun v w' => ∃ u0 : Value, v = .tuple #[u0, .int .i64 r.2] ∧ RV w' u0 r.1 ∧ Ext w0 w') := by
  unfold ref10_Fewest at hF
  have hz := id r0; obtain ⟨_, rfl, ⟨_, _, rfl, rfl, ⟨_, _, rfl, ⟨a1, c1, rfl, p1, q2, e1⟩, ⟨_, _, rfl, ⟨a2, c2, rfl, p2, q3, e2⟩, ⟨_, _, rfl, ⟨a3, c3, rfl, p3, q4, e3⟩, ⟨a4, c4, rfl, p4, q5, e4⟩⟩⟩⟩⟩⟩ := hz
  have r2 := RV.of1 p1 q2 e1
  have r3 := RV.of1 p2 q3 e2
  have r4 := RV.of1 p3 q4 e3
  have r5 := RV.of1 p4 q5 e4
  refine entr (n := 47) Try.func25 rfl rfl rfl <| wp_seq <| rg <| sbx rfl rfl fun b2 w1 hx1 hg1 hb1 => ?_
  have r6 := r2.ext hx1
  have r7 := r3.ext hx1
  have r8 := r4.ext hx1
  have r9 := r5.ext hx1
  have r10 := r0.ext hx1
  refine vl rfl rfl xas <| vl rfl rfl xas <| nl <| wp_seq <| wp_seq <| rg <| vl rfl rfl (xlda rfl ti26 rfl (Bx.cs hb1)) <| ?_
  have hz := bs hF; obtain ⟨x2, Ex2, hF⟩ := hz
  refine cl rfl rfl (xc cb29 (mc rfl mn)) (c29 (show RV (α := (Int × (List Int) × (List ((List Int) × Int)) × (List ((List Int) × Int)) × (List (List Int)))) _ (.agg [.int .i64 x0.1, .slice a1 x0.2.1.length c1, .slice a2 x0.2.2.1.length c2, .slice a3 x0.2.2.2.1.length c3, .slice a4 x0.2.2.2.2.length c4].toArray) (x0.1, x0.2.1, x0.2.2.1, x0.2.2.2.1, x0.2.2.2.2) from ⟨_, rfl, ⟨[.int .i64 x0.1], [.slice a1 x0.2.1.length c1] ++ ([.slice a2 x0.2.2.1.length c2] ++ ([.slice a3 x0.2.2.2.1.length c3] ++ [.slice a4 x0.2.2.2.2.length c4])), rfl, rfl, ⟨[.slice a1 x0.2.1.length c1], [.slice a2 x0.2.2.1.length c2] ++ ([.slice a3 x0.2.2.2.1.length c3] ++ [.slice a4 x0.2.2.2.2.length c4]), rfl, r6.rep1, ⟨[.slice a2 x0.2.2.1.length c2], [.slice a3 x0.2.2.2.1.length c3] ++ [.slice a4 x0.2.2.2.2.length c4], rfl, r7.rep1, ⟨[.slice a3 x0.2.2.2.1.length c3], [.slice a4 x0.2.2.2.2.length c4], rfl, r8.rep1, r9.rep1⟩⟩⟩⟩⟩) Ex2) ?_
  rintro _ w2 ⟨rfl, hx2⟩
  have k1 := hx1.tr hx2
  have hb2 := hb1.ext hx2
  have r11 := r6.ext hx2
  have r12 := r7.ext hx2
  have r13 := r8.ext hx2
  have r14 := r9.ext hx2
  refine vl rfl rfl (xneq rfl rfl) <| nl <| cnd rfl (fun h2 => ?_) (fun h2 => ?_)
  ·
    have hF := ifp hF h2
    refine wp_seq <| rg <| vl rfl rfl (xlda rfl ti26 rfl (Bx.cs hb2)) <| ?_
    have hz := bs hF; obtain ⟨x3, Ex3, hF⟩ := hz
    refine cl rfl rfl (xc cb29 (mc rfl mn)) (c29 (show RV (α := (Int × (List Int) × (List ((List Int) × Int)) × (List ((List Int) × Int)) × (List (List Int)))) _ (.agg [.int .i64 x0.1, .slice a1 x0.2.1.length c1, .slice a2 x0.2.2.1.length c2, .slice a3 x0.2.2.2.1.length c3, .slice a4 x0.2.2.2.2.length c4].toArray) (x0.1, x0.2.1, x0.2.2.1, x0.2.2.2.1, x0.2.2.2.2) from ⟨_, rfl, ⟨[.int .i64 x0.1], [.slice a1 x0.2.1.length c1] ++ ([.slice a2 x0.2.2.1.length c2] ++ ([.slice a3 x0.2.2.2.1.length c3] ++ [.slice a4 x0.2.2.2.2.length c4])), rfl, rfl, ⟨[.slice a1 x0.2.1.length c1], [.slice a2 x0.2.2.1.length c2] ++ ([.slice a3 x0.2.2.2.1.length c3] ++ [.slice a4 x0.2.2.2.2.length c4]), rfl, r11.rep1, ⟨[.slice a2 x0.2.2.1.length c2], [.slice a3 x0.2.2.2.1.length c3] ++ [.slice a4 x0.2.2.2.2.length c4], rfl, r12.rep1, ⟨[.slice a3 x0.2.2.2.1.length c3], [.slice a4 x0.2.2.2.2.length c4], rfl, r13.rep1, r14.rep1⟩⟩⟩⟩⟩) Ex3) ?_
    rintro _ w3 ⟨rfl, hx3⟩
    have k2 := k1.tr hx3
    refine vl rfl rfl xas <| vl rfl rfl xas <| nl <| ?_
    cases hF
    exact wp_ret <| rt rfl (.tmp rfl rfl (.tmp rfl rfl .nil)) ⟨_, rfl, (RVo.nil (Nat.zero_le _)), k2⟩
  ·
    have hF := ifn hF h2
    refine wp_skip <| wp_seq <| rg <| vl rfl rfl xas <| nl <| wp_seq <| wp_seq <| rg <| vl rfl rfl xas <| nl <| ?_
    have o1 : Row (α := Int) 3 w2.heap.size w2 (.slice none 0 0) [] := Row.nil
    have hz := bs hF; obtain ⟨z1, hB1, hF⟩ := hz
    refine ct (fun L w => ∃ v3 : Value, L 4 = v3 ∧ Row 3 w2.heap.size w v3 z1 ∧ Ext w2 w) ?_ ?_
    ·
      refine wp_block <| lp (I := fun m L w => ∃ y1 : (List Int), ∃ y2 : Int, ∃ v2 : Value, ref10_Fewest_l1 F x0 m y1 y2  = some z1 ∧ L 4 = v2 ∧ Row 3 w2.heap.size w v2 y1 ∧ L 5 = .int .i64 y2 ∧ L 1 = .pointer (some ⟨b2, 0, none⟩) ∧ Ext w2 w) F ⟨_, _, _, hB1, rfl, o1, rfl, rfl, (Ext.refl _)⟩ ?_
      rintro m L w4 ⟨y1, y2, v2, hB1, l4_i1, O4_i1, l5_i1, l1_i1, K0_i1⟩
      rcases m with _ | m
      · rw [ref10_Fewest_l1] at hB1; cases hB1
      rw [ref10_Fewest_l1] at hB1
      have k3 := k1.tr K0_i1
      have r15 := r11.ext K0_i1
      have r16 := r12.ext K0_i1
      have r17 := r13.ext K0_i1
      have r18 := r14.ext K0_i1
      have hb3 := hb2.ext K0_i1
      have hz := RV.sl O4_i1.rv; obtain ⟨a5, c5, rfl, -, -, -⟩ := hz
      refine wp_seq <| wp_seq <| rg <| vl rfl rfl xmv <| vl rfl rfl (xfa l1_i1 fa26_3) <| vl rfl rfl (xld rfl ti23 ((Bx.cs hb3).at 3 rfl)) <| vl rfl rfl (xlen rfl Try.underlying23) <| ?_
      have hz := bs hB1; obtain ⟨x4, Ex4, hB1⟩ := hz
      refine vl rfl rfl (xshl rfl rfl Ex4) <| vl rfl rfl (xlss l5_i1 rfl) <| nl <| cnd rfl (fun h3 => ?_) (fun h3 => ?_)
      ·
        have hB1 := ifp hB1 h3
        refine wp_skip <| wp_seq <| ?_
        have hz := bs hB1; obtain ⟨y3, hB3, hB1⟩ := hz
        refine ct (fun L w => ∃ v4 : Value, L 4 = v4 ∧ Row 3 w2.heap.size w v4 y3 ∧ L 1 = .pointer (some ⟨b2, 0, none⟩) ∧ L 5 = .int .i64 y2 ∧ Ext w2 w) ?_ ?_
        ·
          refine wp_block <| wp_seq <| rg <| vl rfl rfl xmv <| ?_
          have hz := bs hB3; obtain ⟨x5, Ex5, hB3⟩ := hz
          refine cl rfl rfl (xc cb56 (mc l5_i1 mn)) (c56 Ex5) ?_
          rintro _ w5 ⟨u1, rfl, r19, hx4⟩
          have k4 := k3.tr hx4
          have k5 := K0_i1.tr hx4
          have hb4 := hb3.ext hx4
          have r20 := r15.ext hx4
          have r21 := r16.ext hx4
          have r22 := r17.ext hx4
          have r23 := r18.ext hx4
          have O1 := O4_i1.ext hx4
          have hz := RV.sl r19.rv; obtain ⟨a6, c6, rfl, -, -, -⟩ := hz
          refine vl rfl rfl xas <| nl <| wp_seq <| rg <| vl rfl rfl (xlda l1_i1 ti26 rfl (Bx.cs hb4)) <| vl rfl rfl xmv <| ?_
          have hz := bs hB3; obtain ⟨x6, Ex6, hB3⟩ := hz
          refine cl rfl rfl (xc cb20 (mc rfl (mc rfl mn))) (c20 (show RV (α := (Int × (List Int) × (List ((List Int) × Int)) × (List ((List Int) × Int)) × (List (List Int)))) _ (.agg [.int .i64 x0.1, .slice a1 x0.2.1.length c1, .slice a2 x0.2.2.1.length c2, .slice a3 x0.2.2.2.1.length c3, .slice a4 x0.2.2.2.2.length c4].toArray) (x0.1, x0.2.1, x0.2.2.1, x0.2.2.2.1, x0.2.2.2.2) from ⟨_, rfl, ⟨[.int .i64 x0.1], [.slice a1 x0.2.1.length c1] ++ ([.slice a2 x0.2.2.1.length c2] ++ ([.slice a3 x0.2.2.2.1.length c3] ++ [.slice a4 x0.2.2.2.2.length c4])), rfl, rfl, ⟨[.slice a1 x0.2.1.length c1], [.slice a2 x0.2.2.1.length c2] ++ ([.slice a3 x0.2.2.2.1.length c3] ++ [.slice a4 x0.2.2.2.2.length c4]), rfl, r20.rep1, ⟨[.slice a2 x0.2.2.1.length c2], [.slice a3 x0.2.2.2.1.length c3] ++ [.slice a4 x0.2.2.2.2.length c4], rfl, r21.rep1, ⟨[.slice a3 x0.2.2.2.1.length c3], [.slice a4 x0.2.2.2.2.length c4], rfl, r22.rep1, r23.rep1⟩⟩⟩⟩⟩) r19.rv Ex6) ?_
          rintro _ w6 ⟨rfl, hx5⟩
          have k6 := k4.tr hx5
          have k7 := k5.tr hx5
          have k8 := hx4.tr hx5
          have hb5 := hb4.ext hx5
          have r24 := r20.ext hx5
          have r25 := r21.ext hx5
          have r26 := r22.ext hx5
          have r27 := r23.ext hx5
          have O2 := O1.ext hx5
          have r28 := r19.ext hx5
          refine vl rfl rfl (xlss rfl rfl) <| vl rfl rfl xmv <| gv rfl rfl rfl rfl (gw1 rfl) rfl (fun hc => xmva rfl) <| gv rfl rfl rfl rfl (gw1 rfl) rfl (fun hc => xlen (mv hc rfl) Try.underlying22) <| gv rfl rfl rfl rfl (gw1 rfl) rfl (fun hc => xmva l4_i1) <| gv rfl rfl rfl rfl (gw1 rfl) rfl (fun hc => xlen (mv hc rfl) Try.underlying22) <| gv rfl rfl rfl rfl (gw1 rfl) rfl (fun hc => xgtr (mv hc rfl) (mv hc rfl)) <| gv rfl rfl rfl rfl (gw1 rfl) rfl (fun hc => xmva (mv hc rfl)) <| gv rfl rfl rfl rfl (gn0 rfl) rfl (fun hc => xmva rfl) <| gv rfl rfl rfl rfl (gn0 rfl) rfl (fun hc => xlen (mv hc rfl) Try.underlying22) <| gv rfl rfl rfl rfl (gn0 rfl) rfl (fun hc => xmva l4_i1) <| gv rfl rfl rfl rfl (gn0 rfl) rfl (fun hc => xlen (mv hc rfl) Try.underlying22) <| gv rfl rfl rfl rfl (gn0 rfl) rfl (fun hc => xeql (mv hc rfl) (mv hc rfl)) <| gv rfl rfl rfl rfl (gn0 rfl) rfl (fun hc => xmva (mv hc rfl)) <| gv rfl rfl rfl rfl (gn1 rfl) rfl (fun hc => xmva rfl) <| gv rfl rfl rfl rfl (gn1 rfl) rfl (fun hc => xmva l4_i1) <| ?_
          have hz := bs hB3; obtain ⟨x7, Ex7, hB3⟩ := hz
          refine gc rfl rfl rfl rfl (gn1 rfl) rfl (fun hc => xc cb57 (mc (mv hc rfl) (mc (mv hc rfl) mn))) (fun hc => (c57 r28.rv O2.rv (gdp Ex7 hc))) (fun v5 w7 hy1 hn1 => ?_)
          have hx6 : Ext w6 w7 := gx (fun h => (hy1 h).2) (fun h => (hn1 h).2 ▸ Ext.refl _)
          have e5 := mkw (fun h => (hy1 h).1) (fun h => (hn1 h).1)
          have k9 := k6.tr hx6
          have k10 := k7.tr hx6
          have k11 := k8.tr hx6
          have hb6 := hb5.ext hx6
          have r29 := r24.ext hx6
          have r30 := r25.ext hx6
          have r31 := r26.ext hx6
          have r32 := r27.ext hx6
          have O3 := O2.ext hx6
          have r33 := r28.ext hx6
          refine gv rfl rfl rfl rfl (gn0 rfl) rfl (fun hc => xpa (mv hc rfl) (mvn hc e5) rfl) <| gv rfl rfl rfl rfl (gw1 rfl) rfl (fun hc => xpo (mv hc rfl) (mvn hc rfl) rfl) <| vl rfl rfl (xpa rfl rfl rfl) <| nl <| ?_
          have hz := bs hB3; obtain ⟨y4, hB4, hB3⟩ := hz
          refine ct (fun L w => ∃ v6 : Value, L 4 = v6 ∧ Row 3 w2.heap.size w v6 y4 ∧ L 1 = .pointer (some ⟨b2, 0, none⟩) ∧ L 5 = .int .i64 y2 ∧ Ext w2 w) ?_ ?_
          ·
            refine cnd rfl (fun h4 => ?_) (fun h4 => ?_)
            ·
              have hB4 := ifp hB4 h4
              refine rg <| vl rfl rfl xmv <| vl rfl rfl xas <| nl <| ?_
              cases hB4
              refine lf <| ?_
              exact ⟨_, rfl, (Row.bnd r33 K0_i1.size), l1_i1, l5_i1, k10⟩
            ·
              have hB4 := ifn hB4 h4
              refine wp_skip <| ?_
              cases hB4
              refine lf <| ?_
              exact ⟨_, l4_i1, O3, l1_i1, l5_i1, k10⟩
          rintro L w8 ⟨v6, l4_j1, O4_j1, l1_j1, l5_j1, K0_j1⟩
          have k12 := k1.tr K0_j1
          have r34 := r11.ext K0_j1
          have r35 := r12.ext K0_j1
          have r36 := r13.ext K0_j1
          have r37 := r14.ext K0_j1
          have hb7 := hb2.ext K0_j1
          have hz := RV.sl O4_j1.rv; obtain ⟨a7, c7, rfl, -, -, -⟩ := hz
          cases hB3
          refine lf <| ?_
          exact ⟨_, l4_j1, O4_j1, l1_j1, l5_j1, K0_j1⟩
        rintro L w9 ⟨v4, l4_j2, O4_j2, l1_j2, l5_j2, K0_j2⟩
        have k13 := k1.tr K0_j2
        have r38 := r11.ext K0_j2
        have r39 := r12.ext K0_j2
        have r40 := r13.ext K0_j2
        have r41 := r14.ext K0_j2
        have hb8 := hb2.ext K0_j2
        have hz := RV.sl O4_j2.rv; obtain ⟨a8, c8, rfl, -, -, -⟩ := hz
        refine rg <| vl rfl rfl xmv <| vl rfl rfl (xadd l5_j2 rfl) <| vl rfl rfl xas <| nl <| ?_
        refine lq m (Nat.lt_succ_self _) <| ?_
        exact ⟨_, _, _, hB1, l4_j2, O4_j2, rfl, l1_j2, K0_j2⟩
      ·
        have hB1 := ifn hB1 h3
        refine wp_exit <| ?_
        cases hB1
        refine lf <| ?_
        exact ⟨_, l4_i1, O4_i1, K0_i1⟩
    rintro L w10 ⟨v3, l4_j3, O4_j3, K0_j3⟩
    have k14 := k1.tr K0_j3
    have hz := RV.sl O4_j3.rv; obtain ⟨a9, c9, rfl, -, -, -⟩ := hz
    refine wp_seq <| rg <| vl rfl rfl xmv <| vl rfl rfl xas <| vl rfl rfl xas <| nl <| ?_
    cases hF
    exact wp_ret <| rt rfl (.tmp l4_j3 rfl (.tmp rfl rfl .nil)) ⟨_, rfl, O4_j3.rv, k14⟩

set_option maxHeartbeats 4000000 in
theorem c65 {w0 : World} {v0 : Value} {x0 : (List (List Int))} (r0 : RV w0 v0 x0) {x1 : Int} {F : Nat} {r : Int} (hF : ref10_Need F x0 x1 = some r) :
    Calls Try.prog 65 [v0, .int .i64 x1].toArray w0 (Ret fun v w' => v = .int .i64 r ∧ Ext w0 w') := by
  unfold ref10_Need at hF
  have hz := r0.sl; obtain ⟨a1, c1, rfl, -, -, -⟩ := hz
  refine entr (n := 57) Try.func65 rfl rfl rfl <| wp_seq <| rg <| vl rfl rfl xas <| nl <| wp_seq <| rg <| vl rfl rfl xmv <| vl rfl rfl xas <| nl <| wp_seq <| wp_seq <| rg <| vl rfl rfl xas <| nl <| ?_
  have hz := bs hF; obtain ⟨z1, hB1, hF⟩ := hz
  refine ct (fun L w => L 5 = .int .i64 z1 ∧ Ext w0 w) ?_ ?_
  ·
    refine wp_block <| lp (I := fun m L w => ∃ y1 : Int, ∃ y2 : Int, ref10_Need_l1 F x0 x1 m y1 y2  = some z1 ∧ L 5 = .int .i64 y1 ∧ L 6 = .int .i64 y2 ∧ L 0 = .slice a1 x0.length c1 ∧ L 1 = .int .i64 x1 ∧ Ext w0 w) F ⟨_, _, hB1, rfl, rfl, rfl, rfl, (Ext.refl _)⟩ ?_
    rintro m L w1 ⟨y1, y2, hB1, l5_i1, l6_i1, l0_i1, l1_i1, K0_i1⟩
    rcases m with _ | m
    · rw [ref10_Need_l1] at hB1; cases hB1
    rw [ref10_Need_l1] at hB1
    have r3 := r0.ext K0_i1
    refine wp_seq <| wp_seq <| rg <| vl rfl rfl xmv <| vl rfl rfl xmv <| ?_
    have hz := bs hB1; obtain ⟨x3, Ex3, hB1⟩ := hz
    refine vl rfl rfl (xshl rfl l1_i1 Ex3) <| vl rfl rfl (xlss l6_i1 rfl) <| nl <| cnd rfl (fun h3 => ?_) (fun h3 => ?_)
    ·
      have hB1 := ifp hB1 h3
      refine wp_skip <| wp_seq <| ?_
      have hz := bs hB1; obtain ⟨y3, hB3, hB1⟩ := hz
      refine ct (fun L w => L 5 = .int .i64 y3 ∧ L 0 = .slice a1 x0.length c1 ∧ L 1 = .int .i64 x1 ∧ L 6 = .int .i64 y2 ∧ Ext w1 w) ?_ ?_
      ·
        refine wp_block <| wp_seq <| rg <| vl rfl rfl xmv <| ?_
        have hz := bs hB3; obtain ⟨x4, Ex4, hB3⟩ := hz
        refine cl rfl rfl (xc cb56 (mc l6_i1 mn)) (c56 Ex4) ?_
        rintro _ w2 ⟨u1, rfl, r4, hx1⟩
        have k1 := K0_i1.tr hx1
        have r5 := r3.ext hx1
        have hz := RV.sl r4.rv; obtain ⟨a2, c2, rfl, -, -, -⟩ := hz
        refine vl rfl rfl xas <| nl <| wp_seq <| rg <| vl rfl rfl xmv <| vl rfl rfl (xlen rfl Try.underlying22) <| vl rfl rfl xmv <| vl rfl rfl (xleq rfl l5_i1) <| vl rfl rfl xas <| nl <| wp_seq <| wp_seq <| rg <| vl rfl rfl xas <| nl <| ?_
        have hz := bs hB3; obtain ⟨z2, hB4, hB3⟩ := hz
        refine ct (fun L w => L 8 = .bool z2 ∧ L 0 = .slice a1 x0.length c1 ∧ L 1 = .int .i64 x1 ∧ L 5 = .int .i64 y1 ∧ L 6 = .int .i64 y2 ∧ L 7 = .slice a2 x4.length c2 ∧ Ext w2 w) ?_ ?_
        ·
          refine wp_block <| lp (I := fun m L w => ∃ y4 : Bool, ∃ y5 : Int, ref10_Need_l2 F x0 x4 m y4 y5  = some z2 ∧ L 8 = .bool y4 ∧ L 9 = .int .i64 y5 ∧ L 0 = .slice a1 x0.length c1 ∧ L 1 = .int .i64 x1 ∧ L 5 = .int .i64 y1 ∧ L 6 = .int .i64 y2 ∧ L 7 = .slice a2 x4.length c2 ∧ Ext w2 w) F ⟨_, _, hB4, rfl, rfl, l0_i1, l1_i1, l5_i1, l6_i1, rfl, (Ext.refl _)⟩ ?_
          rintro m L w3 ⟨y4, y5, hB4, l8_i2, l9_i2, l0_i2, l1_i2, l5_i2, l6_i2, l7_i2, K0_i2⟩
          rcases m with _ | m
          · rw [ref10_Need_l2] at hB4; cases hB4
          rw [ref10_Need_l2] at hB4
          have k2 := k1.tr K0_i2
          have k3 := hx1.tr K0_i2
          have r6 := r5.ext K0_i2
          have r7 := r4.ext K0_i2
          refine wp_seq <| wp_seq <| rg <| vl rfl rfl xmv <| vl rfl rfl xmv <| vl rfl rfl (xlen l0_i2 Try.underlying24) <| vl rfl rfl (xlss l9_i2 rfl) <| vl rfl rfl xmv <| gv rfl rfl rfl rfl (gw1 rfl) rfl (fun hc => xmva l8_i2) <| vl rfl rfl (xpa rfl rfl rfl) <| nl <| cnd rfl (fun h4 => ?_) (fun h4 => ?_)
          ·
            have hB4 := ifp hB4 h4
            refine wp_skip <| wp_seq <| wp_block <| wp_seq <| rg <| vl rfl rfl xas <| nl <| wp_seq <| wp_seq <| rg <| vl rfl rfl xas <| nl <| ?_
            have hz := bs hB4; obtain ⟨z3, hB6, hB4⟩ := hz
            refine ct (fun L w => L 10 = .bool z3 ∧ L 0 = .slice a1 x0.length c1 ∧ L 1 = .int .i64 x1 ∧ L 5 = .int .i64 y1 ∧ L 6 = .int .i64 y2 ∧ L 7 = .slice a2 x4.length c2 ∧ L 9 = .int .i64 y5 ∧ Ext w3 w) ?_ ?_
            ·
              refine wp_block <| lp (I := fun m L w => ∃ y6 : Bool, ∃ y7 : Int, ref10_Need_l3 F x0 x4 y5 m y6 y7  = some z3 ∧ L 10 = .bool y6 ∧ L 11 = .int .i64 y7 ∧ L 0 = .slice a1 x0.length c1 ∧ L 1 = .int .i64 x1 ∧ L 5 = .int .i64 y1 ∧ L 6 = .int .i64 y2 ∧ L 7 = .slice a2 x4.length c2 ∧ L 9 = .int .i64 y5 ∧ Ext w3 w) F ⟨_, _, hB6, rfl, rfl, l0_i2, l1_i2, l5_i2, l6_i2, l7_i2, l9_i2, (Ext.refl _)⟩ ?_
              rintro m L w4 ⟨y6, y7, hB6, l10_i3, l11_i3, l0_i3, l1_i3, l5_i3, l6_i3, l7_i3, l9_i3, K0_i3⟩
              rcases m with _ | m
              · rw [ref10_Need_l3] at hB6; cases hB6
              rw [ref10_Need_l3] at hB6
              have k4 := k2.tr K0_i3
              have k5 := k3.tr K0_i3
              have k6 := K0_i2.tr K0_i3
              have r8 := r6.ext K0_i3
              have r9 := r7.ext K0_i3
              refine wp_seq <| wp_seq <| rg <| vl rfl rfl xmv <| vl rfl rfl xmv <| vl rfl rfl (xlen l7_i3 Try.underlying22) <| vl rfl rfl (xlss l11_i3 rfl) <| nl <| cnd rfl (fun h5 => ?_) (fun h5 => ?_)
              ·
                have hB6 := ifp hB6 h5
                refine wp_skip <| wp_seq <| wp_block <| ?_
                have hz := bs hB6; obtain ⟨y8, hB8, hB6⟩ := hz
                refine ct (fun L w => L 10 = .bool y8 ∧ L 0 = .slice a1 x0.length c1 ∧ L 1 = .int .i64 x1 ∧ L 5 = .int .i64 y1 ∧ L 6 = .int .i64 y2 ∧ L 7 = .slice a2 x4.length c2 ∧ L 9 = .int .i64 y5 ∧ L 11 = .int .i64 y7 ∧ Ext w4 w) ?_ ?_
                ·
                  refine wpl [] (.pure true 0 (.pure true 1 (.pure true 2 (.pure true 3 (.pure true 4 (.pure false 5 (.pure true 6 (.pure true 7 (.pure true 8 (.pure false 9 (.eff 10 (.pure true 11 (.pure true 12 .fin)) .stop))))))))))) mixed (by kernel_rfl) (fun w6 hx3 => ?_)
                  have k11 := k4.tr hx3
                  have k12 := k5.tr hx3
                  have k13 := k6.tr hx3
                  have k14 := K0_i3.tr hx3
                  have r12 := r8.ext hx3
                  have r13 := r9.ext hx3
                  refine pv rfl rfl rfl (fun _ _ => xmv) (.inl rfl) <| pv rfl rfl rfl (fun _ _ => xmv) (.inl rfl) <| ?_
                  refine Or.elim (Bool.eq_false_or_eq_true y6) (fun h6 => ?_) (fun h6 => ?_)
                  ·
                    have hB8 := ifp hB8 h6
                    refine pvf rfl rfl rfl rfl rfl l10_i3 (btf h6) rfl (.inl rfl) <| pvf rfl rfl rfl rfl rfl l10_i3 (btf h6) rfl (.inl rfl) <| pvf rfl rfl rfl rfl rfl l10_i3 (btf h6) rfl (.inl rfl) <| pvf rfl rfl rfl rfl rfl l10_i3 (btf h6) rfl (.inr (Ext.refl _)) <| pvf rfl rfl rfl rfl rfl l10_i3 (btf h6) rfl (.inl rfl) <| pvf rfl rfl rfl rfl rfl l10_i3 (btf h6) rfl (.inl rfl) <| pvf rfl rfl rfl rfl rfl l10_i3 (btf h6) rfl (.inl rfl) <| pvf rfl rfl rfl rfl rfl l10_i3 (btf h6) rfl (.inr (Ext.refl _)) <| pe1 rfl <| gfk rfl rfl rfl rfl l10_i3 (btf h6) rfl <| nl ⟨fun _ _ => (Ext.refl _), ?_⟩
                    refine pv rfl rfl rfl (fun _ _ => xpt l10_i3 h6 rfl) (.inl rfl) <| pv rfl rfl rfl (fun _ _ => xas) (.inl rfl) <| ?_
                    cases hB8
                    refine lf <| ?_
                    exact ⟨rfl, l0_i3, l1_i3, l5_i3, l6_i3, l7_i3, l9_i3, l11_i3, hx3⟩
                  ·
                    have hB8 := ifn hB8 h6
                    refine pvt rfl rfl rfl rfl rfl l10_i3 (bf h6) rfl (fun _ _ => xmv) (.inl rfl) <| pvt rfl rfl rfl rfl rfl l10_i3 (bf h6) rfl (fun _ _ => xmv) (.inl rfl) <| ?_
                    have hz := bs hB8; obtain ⟨x5, Ex5, hB8⟩ := hz
                    have hz := (RV.els r0).ix Ex5; obtain ⟨b3, f1, cs3, e1, i4, i5, q3, hc1⟩ := hz
                    cases e1
                    obtain ⟨a3, c3, rfl, p1, q4, e2⟩ := q3
                    have r14 := RV.of1 p1 q4 e2
                    have hc2 := hc1.ext k11
                    have r15 := r14.ext k11
                    refine pvt rfl rfl rfl rfl rfl l10_i3 (bf h6) rfl (fun _ _ => xixs l0_i3 l9_i3 Try.underlying24 ti22 i4 i5) (.inl rfl) <| pvt rfl rfl rfl rfl rfl l10_i3 (bf h6) rfl (fun _ hS => xld rfl ti22 ((hc2.ext (hS.resolve_left nofun)).at 0 rfl)) (.inr (Ext.refl _)) <| pvt rfl rfl rfl rfl rfl l10_i3 (bf h6) rfl (fun _ _ => xmv) (.inl rfl) <| pvt rfl rfl rfl rfl rfl l10_i3 (bf h6) rfl (fun _ _ => xmv) (.inl rfl) <| ?_
                    have hz := bs hB8; obtain ⟨x6, Ex6, hB8⟩ := hz
                    have hz := (RV.els r13.rv).ix Ex6; obtain ⟨b4, f2, cs4, e3, i6, i7, q5, hc3⟩ := hz
                    cases e3
                    obtain rfl := q5
                    refine pvt rfl rfl rfl rfl rfl l10_i3 (bf h6) rfl (fun _ _ => xixs l7_i3 l11_i3 Try.underlying22 ti3 i6 i7) (.inl rfl) <| pvt rfl rfl rfl rfl rfl l10_i3 (bf h6) rfl (fun _ hS => xld rfl ti3 ((hc3.ext (hS.resolve_left nofun)).at 0 rfl)) (.inr (Ext.refl _)) <| ?_
                    have hz := bs hB8; obtain ⟨x7, Ex7, hB8⟩ := hz
                    refine pe1 rfl <| gtk rfl rfl rfl rfl l10_i3 (bf h6) <| cl rfl rfl (xc cb36 (mc rfl (mc rfl mn))) (c36 r15 Ex7) ?_
                    rintro _ w7 ⟨rfl, hx4⟩
                    have k15 := k11.tr hx4
                    have k16 := k12.tr hx4
                    have k17 := k13.tr hx4
                    have k18 := k14.tr hx4
                    have k19 := hx3.tr hx4
                    have r16 := r12.ext hx4
                    have r17 := r13.ext hx4
                    refine nl ⟨fun _ _ => hx4, ?_⟩
                    refine pv rfl rfl rfl (fun _ _ => xpf l10_i3 h6 rfl) (.inl rfl) <| pv rfl rfl rfl (fun _ _ => xas) (.inl rfl) <| ?_
                    cases hB8
                    refine lf <| ?_
                    exact ⟨rfl, l0_i3, l1_i3, l5_i3, l6_i3, l7_i3, l9_i3, l11_i3, k19⟩
                rintro L w8 ⟨l10_j1, l0_j1, l1_j1, l5_j1, l6_j1, l7_j1, l9_j1, l11_j1, K0_j1⟩
                have k20 := k4.tr K0_j1
                have k21 := k5.tr K0_j1
                have k22 := k6.tr K0_j1
                have k23 := K0_i3.tr K0_j1
                have r18 := r8.ext K0_j1
                have r19 := r9.ext K0_j1
                refine rg <| vl rfl rfl xmv <| vl rfl rfl (xadd l11_j1 rfl) <| vl rfl rfl xas <| nl <| ?_
                refine lq m (Nat.lt_succ_self _) <| ?_
                exact ⟨_, _, hB6, l10_j1, rfl, l0_j1, l1_j1, l5_j1, l6_j1, l7_j1, l9_j1, k23⟩
              ·
                have hB6 := ifn hB6 h5
                refine wp_exit <| ?_
                cases hB6
                refine lf <| ?_
                exact ⟨l10_i3, l0_i3, l1_i3, l5_i3, l6_i3, l7_i3, l9_i3, K0_i3⟩
            rintro L w9 ⟨l10_j2, l0_j2, l1_j2, l5_j2, l6_j2, l7_j2, l9_j2, K0_j2⟩
            have k24 := k2.tr K0_j2
            have k25 := k3.tr K0_j2
            have k26 := K0_i2.tr K0_j2
            have r20 := r6.ext K0_j2
            have r21 := r7.ext K0_j2
            refine rg <| vl rfl rfl xmv <| vl rfl rfl xas <| nl <| rg <| vl rfl rfl xmv <| vl rfl rfl (xadd l9_j2 rfl) <| vl rfl rfl xas <| nl <| ?_
            refine lq m (Nat.lt_succ_self _) <| ?_
            exact ⟨_, _, hB4, l10_j2, rfl, l0_j2, l1_j2, l5_j2, l6_j2, l7_j2, k26⟩
          ·
            have hB4 := ifn hB4 h4
            refine wp_exit <| ?_
            cases hB4
            refine lf <| ?_
            exact ⟨l8_i2, l0_i2, l1_i2, l5_i2, l6_i2, l7_i2, K0_i2⟩
        rintro L w10 ⟨l8_j3, l0_j3, l1_j3, l5_j3, l6_j3, l7_j3, K0_j3⟩
        have k27 := k1.tr K0_j3
        have k28 := hx1.tr K0_j3
        have r22 := r5.ext K0_j3
        have r23 := r4.ext K0_j3
        refine wp_seq <| rg <| vl rfl rfl xmv <| nl <| ?_
        have hz := bs hB3; obtain ⟨y9, hB11, hB3⟩ := hz
        refine ct (fun L w => L 5 = .int .i64 y9 ∧ L 0 = .slice a1 x0.length c1 ∧ L 1 = .int .i64 x1 ∧ L 6 = .int .i64 y2 ∧ Ext w10 w) ?_ ?_
        ·
          refine cnd l8_j3 (fun h7 => ?_) (fun h7 => ?_)
          ·
            have hB11 := ifp hB11 h7
            refine rg <| vl rfl rfl xmv <| vl rfl rfl (xlen l7_j3 Try.underlying22) <| vl rfl rfl xas <| nl <| ?_
            cases hB11
            refine lf <| ?_
            exact ⟨rfl, l0_j3, l1_j3, l6_j3, (Ext.refl _)⟩
          ·
            have hB11 := ifn hB11 h7
            refine wp_skip <| ?_
            cases hB11
            refine lf <| ?_
            exact ⟨l5_j3, l0_j3, l1_j3, l6_j3, (Ext.refl _)⟩
        rintro L w11 ⟨l5_j4, l0_j4, l1_j4, l6_j4, K0_j4⟩
        have k29 := k27.tr K0_j4
        have k30 := k28.tr K0_j4
        have k31 := K0_j3.tr K0_j4
        have r24 := r22.ext K0_j4
        cases hB3
        refine lf <| ?_
        exact ⟨l5_j4, l0_j4, l1_j4, l6_j4, k30⟩
      rintro L w12 ⟨l5_j5, l0_j5, l1_j5, l6_j5, K0_j5⟩
      have k32 := K0_i1.tr K0_j5
      have r25 := r3.ext K0_j5
      refine rg <| vl rfl rfl xmv <| vl rfl rfl (xadd l6_j5 rfl) <| vl rfl rfl xas <| nl <| ?_
      refine lq m (Nat.lt_succ_self _) <| ?_
      exact ⟨_, _, hB1, l5_j5, rfl, l0_j5, l1_j5, k32⟩
    ·
      have hB1 := ifn hB1 h3
      refine wp_exit <| ?_
      cases hB1
      refine lf <| ?_
      exact ⟨l5_i1, K0_i1⟩
  rintro L w13 ⟨l5_j6, K0_j6⟩
  refine wp_seq <| rg <| vl rfl rfl xmv <| vl rfl rfl xas <| nl <| ?_
  cases hF
  exact wp_ret <| rt rfl (.tmp l5_j6 rfl .nil) ⟨rfl, K0_j6⟩

set_option maxHeartbeats 4000000 in
theorem c27 {w0 : World} {v0 : Value} {x0 : (Int × (List Int) × (List ((List Int) × Int)) × (List ((List Int) × Int)) × (List (List Int)))} (r0 : RV w0 v0 x0) {v1 : Value} {x1 : (List (List Int))} (r1 : RV w0 v1 x1) {F : Nat} {r : (Int × Int)} (hF : ref10_CheckConflicts F x0 x1 = some r) :
    Calls Try.prog 27 [v0, v1].toArray w0 (Ret fun v w' => v = .tuple #[.int .i64 r.1, .int .i64 r.2] ∧ Ext w0 w') := by
  unfold ref10_CheckConflicts at hF
  have hz := id r0; obtain ⟨_, rfl, ⟨_, _, rfl, rfl, ⟨_, _, rfl, ⟨a1, c1, rfl, p1, q3, e1⟩, ⟨_, _, rfl, ⟨a2, c2, rfl, p2, q4, e2⟩, ⟨_, _, rfl, ⟨a3, c3, rfl, p3, q5, e3⟩, ⟨a4, c4, rfl, p4, q6, e4⟩⟩⟩⟩⟩⟩ := hz
  have r3 := RV.of1 p1 q3 e1
  have r4 := RV.of1 p2 q4 e2
  have r5 := RV.of1 p3 q5 e3
  have r6 := RV.of1 p4 q6 e4
  have hz := r1.sl; obtain ⟨a5, c5, rfl, -, -, -⟩ := hz
  refine entr (n := 49) Try.func27 rfl rfl rfl <| wp_seq <| rg <| sbx rfl rfl fun b3 w1 hx1 hg1 hb1 => ?_
  have r7 := r1.ext hx1
  have r8 := r3.ext hx1
  have r9 := r4.ext hx1
  have r10 := r5.ext hx1
  have r11 := r6.ext hx1
  have r12 := r0.ext hx1
  refine vl rfl rfl xas <| vl rfl rfl xas <| nl <| wp_seq <| wp_seq <| rg <| vl rfl rfl (xlda rfl ti26 rfl (Bx.cs hb1)) <| ?_
  have hz := bs hF; obtain ⟨x3, Ex3, hF⟩ := hz
  refine cl rfl rfl (xc cb29 (mc rfl mn)) (c29 (show RV (α := (Int × (List Int) × (List ((List Int) × Int)) × (List ((List Int) × Int)) × (List (List Int)))) _ (.agg [.int .i64 x0.1, .slice a1 x0.2.1.length c1, .slice a2 x0.2.2.1.length c2, .slice a3 x0.2.2.2.1.length c3, .slice a4 x0.2.2.2.2.length c4].toArray) (x0.1, x0.2.1, x0.2.2.1, x0.2.2.2.1, x0.2.2.2.2) from ⟨_, rfl, ⟨[.int .i64 x0.1], [.slice a1 x0.2.1.length c1] ++ ([.slice a2 x0.2.2.1.length c2] ++ ([.slice a3 x0.2.2.2.1.length c3] ++ [.slice a4 x0.2.2.2.2.length c4])), rfl, rfl, ⟨[.slice a1 x0.2.1.length c1], [.slice a2 x0.2.2.1.length c2] ++ ([.slice a3 x0.2.2.2.1.length c3] ++ [.slice a4 x0.2.2.2.2.length c4]), rfl, r8.rep1, ⟨[.slice a2 x0.2.2.1.length c2], [.slice a3 x0.2.2.2.1.length c3] ++ [.slice a4 x0.2.2.2.2.length c4], rfl, r9.rep1, ⟨[.slice a3 x0.2.2.2.1.length c3], [.slice a4 x0.2.2.2.2.length c4], rfl, r10.rep1, r11.rep1⟩⟩⟩⟩⟩) Ex3) ?_
  rintro _ w2 ⟨rfl, hx2⟩
  have k1 := hx1.tr hx2
  have hb2 := hb1.ext hx2
  have r13 := r8.ext hx2
  have r14 := r9.ext hx2
  have r15 := r10.ext hx2
  have r16 := r11.ext hx2
  have r17 := r7.ext hx2
  refine vl rfl rfl (xneq rfl rfl) <| nl <| cnd rfl (fun h3 => ?_) (fun h3 => ?_)
  ·
    have hF := ifp hF h3
    refine wp_seq <| rg <| vl rfl rfl (xlda rfl ti26 rfl (Bx.cs hb2)) <| ?_
    have hz := bs hF; obtain ⟨x4, Ex4, hF⟩ := hz
    refine cl rfl rfl (xc cb29 (mc rfl mn)) (c29 (show RV (α := (Int × (List Int) × (List ((List Int) × Int)) × (List ((List Int) × Int)) × (List (List Int)))) _ (.agg [.int .i64 x0.1, .slice a1 x0.2.1.length c1, .slice a2 x0.2.2.1.length c2, .slice a3 x0.2.2.2.1.length c3, .slice a4 x0.2.2.2.2.length c4].toArray) (x0.1, x0.2.1, x0.2.2.1, x0.2.2.2.1, x0.2.2.2.2) from ⟨_, rfl, ⟨[.int .i64 x0.1], [.slice a1 x0.2.1.length c1] ++ ([.slice a2 x0.2.2.1.length c2] ++ ([.slice a3 x0.2.2.2.1.length c3] ++ [.slice a4 x0.2.2.2.2.length c4])), rfl, rfl, ⟨[.slice a1 x0.2.1.length c1], [.slice a2 x0.2.2.1.length c2] ++ ([.slice a3 x0.2.2.2.1.length c3] ++ [.slice a4 x0.2.2.2.2.length c4]), rfl, r13.rep1, ⟨[.slice a2 x0.2.2.1.length c2], [.slice a3 x0.2.2.2.1.length c3] ++ [.slice a4 x0.2.2.2.2.length c4], rfl, r14.rep1, ⟨[.slice a3 x0.2.2.2.1.length c3], [.slice a4 x0.2.2.2.2.length c4], rfl, r15.rep1, r16.rep1⟩⟩⟩⟩⟩) Ex4) ?_
    rintro _ w3 ⟨rfl, hx3⟩
    have k2 := k1.tr hx3
    refine vl rfl rfl xas <| vl rfl rfl xas <| nl <| ?_
    cases hF
    exact wp_ret <| rt rfl (.tmp rfl rfl (.tmp rfl rfl .nil)) ⟨rfl, k2⟩
  ·
    have hF := ifn hF h3
    refine wp_skip <| wp_seq <| wp_seq <| rg <| vl rfl rfl xmv <| vl rfl rfl (xlen rfl Try.underlying24) <| vl rfl rfl (xgtr rfl rfl) <| nl <| cnd rfl (fun h4 => ?_) (fun h4 => ?_)
    ·
      have hF := ifp hF h4
      refine wp_seq <| rg <| vl rfl rfl xas <| vl rfl rfl xas <| nl <| ?_
      cases hF
      exact wp_ret <| rt rfl (.tmp rfl rfl (.tmp rfl rfl .nil)) ⟨rfl, k1⟩
    ·
      have hF := ifn hF h4
      refine wp_skip <| wp_seq <| wp_seq <| rg <| vl rfl rfl xas <| nl <| ?_
      have hz := bs hF; obtain ⟨o1, hB1, hF⟩ := hz
      refine ct (fun L w => o1 = .inr () ∧ L 1 = .slice a5 x1.length c5 ∧ L 2 = .pointer (some ⟨b3, 0, none⟩) ∧ Ext w2 w) ?_ ?_
      ·
        refine wp_block <| lp (I := fun m L w => ∃ y1 : Int, ref10_CheckConflicts_l1 F x0 x1 m y1  = some o1 ∧ L 6 = .int .i64 y1 ∧ L 1 = .slice a5 x1.length c5 ∧ L 2 = .pointer (some ⟨b3, 0, none⟩) ∧ Ext w2 w) F ⟨_, hB1, rfl, rfl, rfl, (Ext.refl _)⟩ ?_
        rintro m L w4 ⟨y1, hB1, l6_i1, l1_i1, l2_i1, K0_i1⟩
        rcases m with _ | m
        · rw [ref10_CheckConflicts_l1] at hB1; cases hB1
        rw [ref10_CheckConflicts_l1] at hB1
        have k3 := k1.tr K0_i1
        have r18 := r17.ext K0_i1
        have r19 := r13.ext K0_i1
        have r20 := r14.ext K0_i1
        have r21 := r15.ext K0_i1
        have r22 := r16.ext K0_i1
        have hb3 := hb2.ext K0_i1
        refine wp_seq <| wp_seq <| rg <| vl rfl rfl xmv <| vl rfl rfl xmv <| vl rfl rfl (xlen l1_i1 Try.underlying24) <| vl rfl rfl (xlss l6_i1 rfl) <| nl <| cnd rfl (fun h5 => ?_) (fun h5 => ?_)
        ·
          have hB1 := ifp hB1 h5
          refine wp_skip <| wp_seq <| wp_block <| wp_seq <| wpl [] (.pure true 0 (.pure true 1 (.pure true 2 (.pure false 3 (.pure true 4 (.pure false 5 (.pure false 6 (.eff 7 (.pure true 8 .fin) .stop)))))))) mixed (by kernel_rfl) (fun w5 hx4 => ?_)
          have k4 := k3.tr hx4
          have k5 := K0_i1.tr hx4
          have hb4 := hb3.ext hx4
          have r23 := r19.ext hx4
          have r24 := r20.ext hx4
          have r25 := r21.ext hx4
          have r26 := r22.ext hx4
          have r27 := r18.ext hx4
          refine pv rfl rfl rfl (fun _ _ => xmv) (.inl rfl) <| pv rfl rfl rfl (fun _ _ => xmv) (.inl rfl) <| ?_
          have hz := bs hB1; obtain ⟨x5, Ex5, hB1⟩ := hz
          have hz := (RV.els r1).ix Ex5; obtain ⟨b4, f1, cs3, e5, i2, i3, q7, hc1⟩ := hz
          cases e5
          obtain ⟨a6, c6, rfl, p5, q8, e6⟩ := q7
          have r28 := RV.of1 p5 q8 e6
          have hc2 := hc1.ext k4
          have r29 := r28.ext k4
          refine pv rfl rfl rfl (fun _ _ => xixs l1_i1 l6_i1 Try.underlying24 ti22 i2 i3) (.inl rfl) <| pv rfl rfl rfl (fun _ hS => xld rfl ti22 ((hc2.ext (hS.resolve_left nofun)).at 0 rfl)) (.inr (Ext.refl _)) <| pv rfl rfl rfl (fun _ _ => xfa l2_i1 fa26_3) (.inl rfl) <| pv rfl rfl rfl (fun _ hS => xld rfl ti23 ((Bx.cs (hb4.ext (hS.resolve_left nofun))).at 3 rfl)) (.inr (Ext.refl _)) <| pv rfl rfl rfl (fun _ hS => xlen rfl Try.underlying23) (.inr (Ext.refl _)) <| ?_
          have hz := bs hB1; obtain ⟨x6, Ex6, hB1⟩ := hz
          refine pe1 rfl <| cl rfl rfl (xc cb64 (mc rfl (mc rfl mn))) (c64 r29 Ex6) ?_
          rintro _ w6 ⟨rfl, hx5⟩
          have k6 := k4.tr hx5
          have k7 := k5.tr hx5
          have hb5 := hb4.ext hx5
          have r30 := r23.ext hx5
          have r31 := r24.ext hx5
          have r32 := r25.ext hx5
          have r33 := r26.ext hx5
          have r34 := r27.ext hx5
          refine nl ⟨fun _ _ => hx5, ?_⟩
          refine pv rfl rfl rfl (fun _ _ => xnot rfl) (.inl rfl) <| cnd rfl (fun h6 => ?_) (fun h6 => ?_)
          ·
            have hB1 := ifp hB1 h6
            refine wp_seq <| rg <| vl rfl rfl xas <| vl rfl rfl xas <| nl <| ?_
            cases hB1
            have hF := (show some _ = some _ from hF); cases hF
            exact wp_ret <| rt rfl (.tmp rfl rfl (.tmp rfl rfl .nil)) ⟨rfl, k6⟩
          ·
            have hB1 := ifn hB1 h6
            refine wp_skip <| rg <| vl rfl rfl xmv <| vl rfl rfl (xadd l6_i1 rfl) <| vl rfl rfl xas <| nl <| ?_
            refine lq m (Nat.lt_succ_self _) <| ?_
            exact ⟨_, hB1, rfl, l1_i1, l2_i1, k7⟩
        ·
          have hB1 := ifn hB1 h5
          refine wp_exit <| ?_
          cases hB1
          refine lf <| ?_
          exact ⟨rfl, l1_i1, l2_i1, K0_i1⟩
      rintro L w7 ⟨rfl, l1_j1, l2_j1, K0_j1⟩
      have k8 := k1.tr K0_j1
      have r35 := r17.ext K0_j1
      have r36 := r13.ext K0_j1
      have r37 := r14.ext K0_j1
      have r38 := r15.ext K0_j1
      have r39 := r16.ext K0_j1
      have hb6 := hb2.ext K0_j1
      refine wp_seq <| wp_seq <| rg <| vl rfl rfl xas <| nl <| ?_
      have hz := bs hF; obtain ⟨o2, hB6, hF⟩ := hz
      refine ct (fun L w => o2 = .inr () ∧ L 1 = .slice a5 x1.length c5 ∧ L 2 = .pointer (some ⟨b3, 0, none⟩) ∧ Ext w7 w) ?_ ?_
      ·
        refine wp_block <| lp (I := fun m L w => ∃ y2 : Int, ref10_CheckConflicts_l2 F x0 x1 m y2  = some o2 ∧ L 7 = .int .i64 y2 ∧ L 1 = .slice a5 x1.length c5 ∧ L 2 = .pointer (some ⟨b3, 0, none⟩) ∧ Ext w7 w) F ⟨_, hB6, rfl, l1_j1, l2_j1, (Ext.refl _)⟩ ?_
        rintro m L w8 ⟨y2, hB6, l7_i4, l1_i4, l2_i4, K0_i4⟩
        rcases m with _ | m
        · rw [ref10_CheckConflicts_l2] at hB6; cases hB6
        rw [ref10_CheckConflicts_l2] at hB6
        have k9 := k8.tr K0_i4
        have k10 := K0_j1.tr K0_i4
        have r40 := r35.ext K0_i4
        have r41 := r36.ext K0_i4
        have r42 := r37.ext K0_i4
        have r43 := r38.ext K0_i4
        have r44 := r39.ext K0_i4
        have hb7 := hb6.ext K0_i4
        refine wp_seq <| wp_seq <| rg <| vl rfl rfl xmv <| vl rfl rfl xmv <| vl rfl rfl (xlen l1_i4 Try.underlying24) <| vl rfl rfl (xlss l7_i4 rfl) <| nl <| cnd rfl (fun h7 => ?_) (fun h7 => ?_)
        ·
          have hB6 := ifp hB6 h7
          refine wp_skip <| wp_seq <| wp_block <| wp_seq <| wpl [] (.pure false 0 (.pure true 1 (.pure true 2 (.pure true 3 (.pure false 4 (.eff 5 (.pure true 6 .fin) .stop)))))) mixed (by kernel_rfl) (fun w9 hx6 => ?_)
          have k11 := k9.tr hx6
          have k12 := k10.tr hx6
          have k13 := K0_i4.tr hx6
          have hb8 := hb7.ext hx6
          have r45 := r41.ext hx6
          have r46 := r42.ext hx6
          have r47 := r43.ext hx6
          have r48 := r44.ext hx6
          have r49 := r40.ext hx6
          refine pv rfl rfl rfl (fun _ hS => xlda l2_i4 ti26 rfl (Bx.cs (hb8.ext (hS.resolve_left nofun)))) (.inr (Ext.refl _)) <| pv rfl rfl rfl (fun _ _ => xmv) (.inl rfl) <| pv rfl rfl rfl (fun _ _ => xmv) (.inl rfl) <| ?_
          have hz := bs hB6; obtain ⟨x7, Ex7, hB6⟩ := hz
          have hz := (RV.els r1).ix Ex7; obtain ⟨b5, f2, cs4, e7, i5, i6, q9, hc3⟩ := hz
          cases e7
          obtain ⟨a7, c7, rfl, p6, q10, e8⟩ := q9
          have r50 := RV.of1 p6 q10 e8
          have hc4 := hc3.ext k11
          have r51 := r50.ext k11
          refine pv rfl rfl rfl (fun _ _ => xixs l1_i4 l7_i4 Try.underlying24 ti22 i5 i6) (.inl rfl) <| pv rfl rfl rfl (fun _ hS => xld rfl ti22 ((hc4.ext (hS.resolve_left nofun)).at 0 rfl)) (.inr (Ext.refl _)) <| ?_
          have hz := bs hB6; obtain ⟨x8, Ex8, hB6⟩ := hz
          refine pe1 rfl <| cl rfl rfl (xc cb20 (mc rfl (mc rfl mn))) (c20 (show RV (α := (Int × (List Int) × (List ((List Int) × Int)) × (List ((List Int) × Int)) × (List (List Int)))) _ (.agg [.int .i64 x0.1, .slice a1 x0.2.1.length c1, .slice a2 x0.2.2.1.length c2, .slice a3 x0.2.2.2.1.length c3, .slice a4 x0.2.2.2.2.length c4].toArray) (x0.1, x0.2.1, x0.2.2.1, x0.2.2.2.1, x0.2.2.2.2) from ⟨_, rfl, ⟨[.int .i64 x0.1], [.slice a1 x0.2.1.length c1] ++ ([.slice a2 x0.2.2.1.length c2] ++ ([.slice a3 x0.2.2.2.1.length c3] ++ [.slice a4 x0.2.2.2.2.length c4])), rfl, rfl, ⟨[.slice a1 x0.2.1.length c1], [.slice a2 x0.2.2.1.length c2] ++ ([.slice a3 x0.2.2.2.1.length c3] ++ [.slice a4 x0.2.2.2.2.length c4]), rfl, r45.rep1, ⟨[.slice a2 x0.2.2.1.length c2], [.slice a3 x0.2.2.2.1.length c3] ++ [.slice a4 x0.2.2.2.2.length c4], rfl, r46.rep1, ⟨[.slice a3 x0.2.2.2.1.length c3], [.slice a4 x0.2.2.2.2.length c4], rfl, r47.rep1, r48.rep1⟩⟩⟩⟩⟩) r51 Ex8) ?_
          rintro _ w10 ⟨rfl, hx7⟩
          have k14 := k11.tr hx7
          have k15 := k12.tr hx7
          have k16 := k13.tr hx7
          have hb9 := hb8.ext hx7
          have r52 := r45.ext hx7
          have r53 := r46.ext hx7
          have r54 := r47.ext hx7
          have r55 := r48.ext hx7
          have r56 := r49.ext hx7
          refine nl ⟨fun _ _ => hx7, ?_⟩
          refine pv rfl rfl rfl (fun _ _ => xlss rfl rfl) (.inl rfl) <| cnd rfl (fun h8 => ?_) (fun h8 => ?_)
          ·
            have hB6 := ifp hB6 h8
            refine wp_seq <| rg <| vl rfl rfl xas <| vl rfl rfl xas <| nl <| ?_
            cases hB6
            have hF := (show some _ = some _ from hF); cases hF
            exact wp_ret <| rt rfl (.tmp rfl rfl (.tmp rfl rfl .nil)) ⟨rfl, k14⟩
          ·
            have hB6 := ifn hB6 h8
            refine wp_skip <| rg <| vl rfl rfl xmv <| vl rfl rfl (xadd l7_i4 rfl) <| vl rfl rfl xas <| nl <| ?_
            refine lq m (Nat.lt_succ_self _) <| ?_
            exact ⟨_, hB6, rfl, l1_i4, l2_i4, k16⟩
        ·
          have hB6 := ifn hB6 h7
          refine wp_exit <| ?_
          cases hB6
          refine lf <| ?_
          exact ⟨rfl, l1_i4, l2_i4, K0_i4⟩
      rintro L w11 ⟨rfl, l1_j2, l2_j2, K0_j2⟩
      have k17 := k8.tr K0_j2
      have k18 := K0_j1.tr K0_j2
      have r57 := r35.ext K0_j2
      have r58 := r36.ext K0_j2
      have r59 := r37.ext K0_j2
      have r60 := r38.ext K0_j2
      have r61 := r39.ext K0_j2
      have hb10 := hb6.ext K0_j2
      refine wp_seq <| rg <| vl rfl rfl xmv <| vl rfl rfl (xfa l2_j2 fa26_3) <| vl rfl rfl (xld rfl ti23 ((Bx.cs hb10).at 3 rfl)) <| vl rfl rfl (xlen rfl Try.underlying23) <| ?_
      have hz := bs hF; obtain ⟨x9, Ex9, hF⟩ := hz
      refine cl rfl rfl (xc cb65 (mc l1_j2 (mc rfl mn))) (c65 r57 Ex9) ?_
      rintro _ w12 ⟨rfl, hx8⟩
      have k19 := k17.tr hx8
      have k20 := k18.tr hx8
      have k21 := K0_j2.tr hx8
      refine vl rfl rfl xas <| vl rfl rfl xas <| nl <| ?_
      cases hF
      exact wp_ret <| rt rfl (.tmp rfl rfl (.tmp rfl rfl .nil)) ⟨rfl, k19⟩

set_option maxHeartbeats 4000000 in
theorem c30 {w0 : World} {v0 : Value} {x0 : (Int × (List Int) × (List ((List Int) × Int)) × (List ((List Int) × Int)) × (List (List Int)))} (r0 : RV w0 v0 x0) {F : Nat} {r : Bool} (hF : law10_fine F x0 = some r) :
    Calls Try.prog 30 [v0].toArray w0 (Ret fun v w' => v = .bool r ∧ Ext w0 w') := by
  unfold law10_fine at hF
  have hz := id r0; obtain ⟨_, rfl, ⟨_, _, rfl, rfl, ⟨_, _, rfl, ⟨a1, c1, rfl, p1, q2, e1⟩, ⟨_, _, rfl, ⟨a2, c2, rfl, p2, q3, e2⟩, ⟨_, _, rfl, ⟨a3, c3, rfl, p3, q4, e3⟩, ⟨a4, c4, rfl, p4, q5, e4⟩⟩⟩⟩⟩⟩ := hz
  have r2 := RV.of1 p1 q2 e1
  have r3 := RV.of1 p2 q3 e2
  have r4 := RV.of1 p3 q4 e3
  have r5 := RV.of1 p4 q5 e4
  refine entr (n := 11) Try.func30 rfl rfl rfl <| wp_seq <| rg <| sbx rfl rfl fun b2 w1 hx1 hg1 hb1 => ?_
  have r6 := r2.ext hx1
  have r7 := r3.ext hx1
  have r8 := r4.ext hx1
  have r9 := r5.ext hx1
  have r10 := r0.ext hx1
  refine vl rfl rfl xas <| nl <| wp_seq <| rg <| vl rfl rfl (xlda rfl ti26 rfl (Bx.cs hb1)) <| ?_
  have hz := bs hF; obtain ⟨x2, Ex2, hF⟩ := hz
  refine cl rfl rfl (xc cb14 (mc rfl mn)) (c14 (show RV (α := (Int × (List Int) × (List ((List Int) × Int)) × (List ((List Int) × Int)) × (List (List Int)))) _ (.agg [.int .i64 x0.1, .slice a1 x0.2.1.length c1, .slice a2 x0.2.2.1.length c2, .slice a3 x0.2.2.2.1.length c3, .slice a4 x0.2.2.2.2.length c4].toArray) (x0.1, x0.2.1, x0.2.2.1, x0.2.2.2.1, x0.2.2.2.2) from ⟨_, rfl, ⟨[.int .i64 x0.1], [.slice a1 x0.2.1.length c1] ++ ([.slice a2 x0.2.2.1.length c2] ++ ([.slice a3 x0.2.2.2.1.length c3] ++ [.slice a4 x0.2.2.2.2.length c4])), rfl, rfl, ⟨[.slice a1 x0.2.1.length c1], [.slice a2 x0.2.2.1.length c2] ++ ([.slice a3 x0.2.2.2.1.length c3] ++ [.slice a4 x0.2.2.2.2.length c4]), rfl, r6.rep1, ⟨[.slice a2 x0.2.2.1.length c2], [.slice a3 x0.2.2.2.1.length c3] ++ [.slice a4 x0.2.2.2.2.length c4], rfl, r7.rep1, ⟨[.slice a3 x0.2.2.2.1.length c3], [.slice a4 x0.2.2.2.2.length c4], rfl, r8.rep1, r9.rep1⟩⟩⟩⟩⟩) Ex2) ?_
  rintro _ w2 ⟨rfl, hx2⟩
  have k1 := hx1.tr hx2
  have hb2 := hb1.ext hx2
  have r11 := r6.ext hx2
  have r12 := r7.ext hx2
  have r13 := r8.ext hx2
  have r14 := r9.ext hx2
  refine vl rfl rfl (xnot rfl) <| vl rfl rfl xmv <| gv rfl rfl rfl rfl (gw1 rfl) rfl (fun hc => xlda rfl ti26 rfl (Bx.cs hb2)) <| ?_
  have hz := bs hF; obtain ⟨x3, Ex3, hF⟩ := hz
  refine gc rfl rfl rfl rfl (gw1 rfl) rfl (fun hc => xc cb29 (mc (mv hc rfl) mn)) (fun hc => (c29 (show RV (α := (Int × (List Int) × (List ((List Int) × Int)) × (List ((List Int) × Int)) × (List (List Int)))) _ (.agg [.int .i64 x0.1, .slice a1 x0.2.1.length c1, .slice a2 x0.2.2.1.length c2, .slice a3 x0.2.2.2.1.length c3, .slice a4 x0.2.2.2.2.length c4].toArray) (x0.1, x0.2.1, x0.2.2.1, x0.2.2.2.1, x0.2.2.2.2) from ⟨_, rfl, ⟨[.int .i64 x0.1], [.slice a1 x0.2.1.length c1] ++ ([.slice a2 x0.2.2.1.length c2] ++ ([.slice a3 x0.2.2.2.1.length c3] ++ [.slice a4 x0.2.2.2.2.length c4])), rfl, rfl, ⟨[.slice a1 x0.2.1.length c1], [.slice a2 x0.2.2.1.length c2] ++ ([.slice a3 x0.2.2.2.1.length c3] ++ [.slice a4 x0.2.2.2.2.length c4]), rfl, r11.rep1, ⟨[.slice a2 x0.2.2.1.length c2], [.slice a3 x0.2.2.2.1.length c3] ++ [.slice a4 x0.2.2.2.2.length c4], rfl, r12.rep1, ⟨[.slice a3 x0.2.2.2.1.length c3], [.slice a4 x0.2.2.2.2.length c4], rfl, r13.rep1, r14.rep1⟩⟩⟩⟩⟩) (gdp Ex3 hc))) (fun v2 w3 hy1 hn1 => ?_)
  have hx3 : Ext w2 w3 := gx (fun h => (hy1 h).2) (fun h => (hn1 h).2 ▸ Ext.refl _)
  have e5 := mkw (fun h => (hy1 h).1) (fun h => (hn1 h).1)
  have k2 := k1.tr hx3
  refine gv rfl rfl rfl rfl (gw1 rfl) rfl (fun hc => xeql (mv hc e5) rfl) <| vl rfl rfl (xpa rfl rfl rfl) <| vl rfl rfl xas <| nl <| ?_
  cases hF
  exact wp_ret <| rt rfl (.tmp rfl rfl .nil) ⟨rfl, k2⟩

set_option maxHeartbeats 4000000 in
theorem c31 {w0 : World} {v0 : Value} {x0 : (Int × (List Int) × (List ((List Int) × Int)) × (List ((List Int) × Int)) × (List (List Int)))} (r0 : RV w0 v0 x0) {x1 : Int} {F : Nat} {r : (List Int)} (hF : law10_Granted F x0 x1 = some r) :
    Calls Try.prog 31 [v0, .int .u16 x1].toArray w0 (Ret fun v w' => ∃ u0 : Value, v = u0 ∧ Row 3 w0.heap.size w' u0 r ∧ Ext w0 w') := by
  unfold law10_Granted at hF
  have hz := id r0; obtain ⟨_, rfl, ⟨_, _, rfl, rfl, ⟨_, _, rfl, ⟨a1, c1, rfl, p1, q3, e1⟩, ⟨_, _, rfl, ⟨a2, c2, rfl, p2, q4, e2⟩, ⟨_, _, rfl, ⟨a3, c3, rfl, p3, q5, e3⟩, ⟨a4, c4, rfl, p4, q6, e4⟩⟩⟩⟩⟩⟩ := hz
  have r3 := RV.of1 p1 q3 e1
  have r4 := RV.of1 p2 q4 e2
  have r5 := RV.of1 p3 q5 e3
  have r6 := RV.of1 p4 q6 e4
  refine entr (n := 24) Try.func31 rfl rfl rfl <| wp_seq <| rg <| sbx rfl rfl fun b3 w1 hx1 hg1 hb1 => ?_
  have r7 := r3.ext hx1
  have r8 := r4.ext hx1
  have r9 := r5.ext hx1
  have r10 := r6.ext hx1
  have r11 := r0.ext hx1
  refine vl rfl rfl xas <| nl <| wp_seq <| rg <| vl rfl rfl xas <| nl <| wp_seq <| wp_seq <| rg <| vl rfl rfl xas <| nl <| ?_
  have o1 : Row (α := Int) 3 w1.heap.size w1 (.slice none 0 0) [] := Row.nil
  have hz := bs hF; obtain ⟨z1, hB1, hF⟩ := hz
  refine ct (fun L w => ∃ v4 : Value, L 5 = v4 ∧ Row 3 w1.heap.size w v4 z1 ∧ Ext w1 w) ?_ ?_
  ·
    refine wp_block <| lp (I := fun m L w => ∃ y1 : (List Int), ∃ y2 : Int, ∃ v3 : Value, law10_Granted_l1 F x0 x1 m y1 y2  = some z1 ∧ L 5 = v3 ∧ Row 3 w1.heap.size w v3 y1 ∧ L 6 = .int .i64 y2 ∧ L 1 = .int .u16 x1 ∧ L 2 = .pointer (some ⟨b3, 0, none⟩) ∧ Ext w1 w) F ⟨_, _, _, hB1, rfl, o1, rfl, rfl, rfl, (Ext.refl _)⟩ ?_
    rintro m L w2 ⟨y1, y2, v3, hB1, l5_i1, O5_i1, l6_i1, l1_i1, l2_i1, K0_i1⟩
    rcases m with _ | m
    · rw [law10_Granted_l1] at hB1; cases hB1
    rw [law10_Granted_l1] at hB1
    have k1 := hx1.tr K0_i1
    have r12 := r7.ext K0_i1
    have r13 := r8.ext K0_i1
    have r14 := r9.ext K0_i1
    have r15 := r10.ext K0_i1
    have hb2 := hb1.ext K0_i1
    have hz := RV.sl O5_i1.rv; obtain ⟨a5, c5, rfl, -, -, -⟩ := hz
    refine wp_seq <| wp_seq <| rg <| vl rfl rfl xmv <| vl rfl rfl (xfa l2_i1 fa26_3) <| vl rfl rfl (xld rfl ti23 ((Bx.cs hb2).at 3 rfl)) <| vl rfl rfl (xlen rfl Try.underlying23) <| vl rfl rfl (xlss l6_i1 rfl) <| nl <| cnd rfl (fun h3 => ?_) (fun h3 => ?_)
    ·
      have hB1 := ifp hB1 h3
      refine wp_skip <| wp_seq <| ?_
      have hz := bs hB1; obtain ⟨y3, hB3, hB1⟩ := hz
      refine ct (fun L w => ∃ v5 : Value, L 5 = v5 ∧ Row 3 w1.heap.size w v5 y3 ∧ L 1 = .int .u16 x1 ∧ L 2 = .pointer (some ⟨b3, 0, none⟩) ∧ L 6 = .int .i64 y2 ∧ Ext w1 w) ?_ ?_
      ·
        refine wp_block <| wp_seq <| rg <| vl rfl rfl xmv <| vl rfl rfl xmv <| ?_
        have hz := bs hB3; obtain ⟨x3, Ex3, hB3⟩ := hz
        refine vl rfl rfl (xshr l1_i1 l6_i1 Ex3) <| vl rfl rfl (xand rfl rfl) <| vl rfl rfl (xeql rfl rfl) <| nl <| ?_
        have hz := bs hB3; obtain ⟨y4, hB4, hB3⟩ := hz
        refine ct (fun L w => ∃ v6 : Value, L 5 = v6 ∧ Row 3 w1.heap.size w v6 y4 ∧ L 1 = .int .u16 x1 ∧ L 2 = .pointer (some ⟨b3, 0, none⟩) ∧ L 6 = .int .i64 y2 ∧ Ext w1 w) ?_ ?_
        ·
          refine cnd rfl (fun h4 => ?_) (fun h4 => ?_)
          ·
            have hB4 := ifp hB4 h4
            refine rg <| vl rfl rfl xmv <| vl rfl rfl xmv <| sbsv (cs := [.int .i64 y2]) Try.underlying22 ti3 rfl (pc l6_i1 pn) rfl rfl rfl rfl rfl fun b4 w3 hx2 hg2 hb3 => ?_
            have k2 := k1.tr hx2
            have k3 := K0_i1.tr hx2
            have hb4 := hb2.ext hx2
            have r16 := r12.ext hx2
            have r17 := r13.ext hx2
            have r18 := r14.ext hx2
            have r19 := r15.ext hx2
            have O1 := O5_i1.ext hx2
            have o3 : Row (α := Int) 3 w2.heap.size w3 (.slice (some ⟨b4, 0, none⟩) 1 1) [y2] := Row.lit hg2 hb3 rfl (ble rfl)
            have hz := bs hB4; obtain ⟨x4, Ex4, hB4⟩ := hz
            refine sapx (l := y1) (k := ([y2] : List Int)) l5_i1 rfl Try.underlying22 ti3 rfl rfl O1 (RV.els o3.rv) Ex4 k3.size fun v7 w4 o4 hB6 hgr1 how1 => ?_
            have k4 := Ext.grow k2 hx1.size hB6
            have k5 : Ext w1 w4 := k3.trans hB6
            have hb5 := hb1.ext k5
            have r21 := r7.ext k5
            have r22 := r8.ext k5
            have r23 := r9.ext k5
            have r24 := r10.ext k5
            have hz := RV.sl o4.rv; obtain ⟨a6, c6, rfl, -, -, -⟩ := hz
            refine vl rfl rfl xas <| nl <| ?_
            cases hB4
            refine lf <| ?_
            exact ⟨_, rfl, o4, l1_i1, l2_i1, l6_i1, k5⟩
          ·
            have hB4 := ifn hB4 h4
            refine wp_skip <| ?_
            cases hB4
            refine lf <| ?_
            exact ⟨_, l5_i1, O5_i1, l1_i1, l2_i1, l6_i1, K0_i1⟩
        rintro L w5 ⟨v6, l5_j1, O5_j1, l1_j1, l2_j1, l6_j1, K0_j1⟩
        have k6 := hx1.tr K0_j1
        have r25 := r7.ext K0_j1
        have r26 := r8.ext K0_j1
        have r27 := r9.ext K0_j1
        have r28 := r10.ext K0_j1
        have hb6 := hb1.ext K0_j1
        have hz := RV.sl O5_j1.rv; obtain ⟨a7, c7, rfl, -, -, -⟩ := hz
        cases hB3
        refine lf <| ?_
        exact ⟨_, l5_j1, O5_j1, l1_j1, l2_j1, l6_j1, K0_j1⟩
      rintro L w6 ⟨v5, l5_j2, O5_j2, l1_j2, l2_j2, l6_j2, K0_j2⟩
      have k7 := hx1.tr K0_j2
      have r29 := r7.ext K0_j2
      have r30 := r8.ext K0_j2
      have r31 := r9.ext K0_j2
      have r32 := r10.ext K0_j2
      have hb7 := hb1.ext K0_j2
      have hz := RV.sl O5_j2.rv; obtain ⟨a8, c8, rfl, -, -, -⟩ := hz
      refine rg <| vl rfl rfl xmv <| vl rfl rfl (xadd l6_j2 rfl) <| vl rfl rfl xas <| nl <| ?_
      refine lq m (Nat.lt_succ_self _) <| ?_
      exact ⟨_, _, _, hB1, l5_j2, O5_j2, rfl, l1_j2, l2_j2, K0_j2⟩
    ·
      have hB1 := ifn hB1 h3
      refine wp_exit <| ?_
      cases hB1
      refine lf <| ?_
      exact ⟨_, l5_i1, O5_i1, K0_i1⟩
  rintro L w7 ⟨v4, l5_j3, O5_j3, K0_j3⟩
  have k8 := hx1.tr K0_j3
  have hz := RV.sl O5_j3.rv; obtain ⟨a9, c9, rfl, -, -, -⟩ := hz
  refine wp_seq <| rg <| vl rfl rfl xmv <| vl rfl rfl xas <| nl <| ?_
  cases hF
  exact wp_ret <| rt rfl (.tmp l5_j3 rfl .nil) ⟨_, rfl, (Row.bnd O5_j3 hx1.size), k8⟩

set_option maxHeartbeats 4000000 in
theorem c34 {w0 : World} {v0 : Value} {x0 : (List Int)} (r0 : RV w0 v0 x0) {v1 : Value} {x1 : (List Int)} (r1 : RV w0 v1 x1) {F : Nat} {r : Bool} (hF : law10_there F x0 x1 = some r) :
    Calls Try.prog 34 [v0, v1].toArray w0 (Ret fun v w' => v = .bool r ∧ Ext w0 w') := by
  unfold law10_there at hF
  have hz := r0.sl; obtain ⟨a1, c1, rfl, -, -, -⟩ := hz
  have hz := r1.sl; obtain ⟨a2, c2, rfl, -, -, -⟩ := hz
  refine entr (n := 19) Try.func34 rfl rfl rfl <| wp_seq <| rg <| vl rfl rfl xas <| nl <| wp_seq <| wp_seq <| rg <| vl rfl rfl xas <| nl <| ?_
  have hz := bs hF; obtain ⟨o1, hB1, hF⟩ := hz
  refine ct (fun L w => o1 = .inr () ∧ Ext w0 w) ?_ ?_
  ·
    refine wp_block <| lp (I := fun m L w => ∃ y1 : Int, law10_there_l1 F x0 x1 m y1  = some o1 ∧ L 5 = .int .i64 y1 ∧ L 0 = .slice a1 x0.length c1 ∧ L 1 = .slice a2 x1.length c2 ∧ Ext w0 w) F ⟨_, hB1, rfl, rfl, rfl, (Ext.refl _)⟩ ?_
    rintro m L w1 ⟨y1, hB1, l5_i1, l0_i1, l1_i1, K0_i1⟩
    rcases m with _ | m
    · rw [law10_there_l1] at hB1; cases hB1
    rw [law10_there_l1] at hB1
    have r3 := r0.ext K0_i1
    have r4 := r1.ext K0_i1
    refine wp_seq <| wp_seq <| rg <| vl rfl rfl xmv <| vl rfl rfl xmv <| vl rfl rfl (xlen l1_i1 Try.underlying22) <| vl rfl rfl (xlss l5_i1 rfl) <| nl <| cnd rfl (fun h3 => ?_) (fun h3 => ?_)
    ·
      have hB1 := ifp hB1 h3
      refine wp_skip <| wp_seq <| wp_block <| wp_seq <| rg <| vl rfl rfl xmv <| vl rfl rfl xmv <| vl rfl rfl xmv <| ?_
      have hz := bs hB1; obtain ⟨x3, Ex3, hB1⟩ := hz
      have hz := (RV.els r1).ix Ex3; obtain ⟨b3, f1, cs3, e1, i2, i3, q3, hc1⟩ := hz
      cases e1
      obtain rfl := q3
      have hc2 := hc1.ext K0_i1
      refine vl rfl rfl (xixs l1_i1 l5_i1 Try.underlying22 ti3 i2 i3) <| vl rfl rfl (xld rfl ti3 (hc2.at 0 rfl)) <| ?_
      have hz := bs hB1; obtain ⟨x4, Ex4, hB1⟩ := hz
      refine cl rfl rfl (xc cb36 (mc l0_i1 (mc rfl mn))) (c36 r3 Ex4) ?_
      rintro _ w2 ⟨rfl, hx1⟩
      have k1 := K0_i1.tr hx1
      have r5 := r3.ext hx1
      have r6 := r4.ext hx1
      refine vl rfl rfl (xnot rfl) <| nl <| cnd rfl (fun h4 => ?_) (fun h4 => ?_)
      ·
        have hB1 := ifp hB1 h4
        refine wp_seq <| rg <| vl rfl rfl xas <| nl <| ?_
        cases hB1
        have hF := (show some _ = some _ from hF); cases hF
        exact wp_ret <| rt rfl (.tmp rfl rfl .nil) ⟨rfl, k1⟩
      ·
        have hB1 := ifn hB1 h4
        refine wp_skip <| rg <| vl rfl rfl xmv <| vl rfl rfl (xadd l5_i1 rfl) <| vl rfl rfl xas <| nl <| ?_
        refine lq m (Nat.lt_succ_self _) <| ?_
        exact ⟨_, hB1, rfl, l0_i1, l1_i1, k1⟩
    ·
      have hB1 := ifn hB1 h3
      refine wp_exit <| ?_
      cases hB1
      refine lf <| ?_
      exact ⟨rfl, K0_i1⟩
  rintro L w3 ⟨rfl, K0_j1⟩
  refine wp_seq <| rg <| vl rfl rfl xas <| nl <| ?_
  cases hF
  exact wp_ret <| rt rfl (.tmp rfl rfl .nil) ⟨rfl, K0_j1⟩

set_option maxHeartbeats 4000000 in
theorem c38 {w0 : World} {x0 : Int} {v1 : Value} {x1 : (List Int)} (r1 : RV w0 v1 x1) {r : ((List Int) × Int)} (hF : law10_Rule x0 x1 = some r) :
    Calls Try.prog 38 [.int .i64 x0, v1].toArray w0 (Ret fun v w' => ∃ u0 : Value, v = u0 ∧ RV w' u0 r ∧ Ext w0 w') := by
  unfold law10_Rule at hF
  have hz := r1.sl; obtain ⟨a1, c1, rfl, -, -, -⟩ := hz
  refine entr (n := 8) Try.func38 rfl rfl rfl <| wp_seq <| rg <| sal ti54 fun b3 w1 hx1 hg1 hb1 => ?_
  have r3 := r1.ext hx1
  refine nl <| wp_seq <| rg <| vl rfl rfl xmv <| vl rfl rfl xmv <| vl rfl rfl (xbdv (r := [.slice a1 x1.length c1, .int .i64 x0]) ti54 sp54 (pc rfl (pc rfl pn)) rfl) <| sst rfl rfl rfl ti54 hb1 rfl rfl (ble rfl) fun w2 hch1 hb2 => ?_
  have k1 := Ext.chg hx1 hch1 (Nat.le_trans (Nat.le_refl _) hg1)
  have r4 := r1.ext k1
  have hb3 : Bx w2 b3 54 [.slice a1 x1.length c1, .int .i64 x0] := hb2
  refine nl <| ?_
  cases hF
  exact wp_ret <| rt rfl (.cell rfl rfl ti54 rfl (Bx.cs hb3) .nil) ⟨_, rfl, (show RV (α := ((List Int) × Int)) _ (.agg [.slice a1 x1.length c1, .int .i64 x0].toArray) (x1, x0) from ⟨_, rfl, ⟨[.slice a1 x1.length c1], [.int .i64 x0], rfl, r4.rep1, rfl⟩⟩), k1⟩

set_option maxHeartbeats 4000000 in
theorem c40 {w0 : World} {v0 : Value} {x0 : (Int × (List Int) × (List ((List Int) × Int)) × (List ((List Int) × Int)) × (List (List Int)))} (r0 : RV w0 v0 x0) {v1 : Value} {x1 : (List Int)} (r1 : RV w0 v1 x1) {F : Nat} {r : ((List Int) × Int)} (hF : ref10_Holds F x0 x1 = some r) :
    Calls Try.prog 40 [v0, v1].toArray w0 (Ret fun v w' => ∃ u0 : Value, v = .tuple #[u0, .int .i64 r.2] ∧ RV w' u0 r.1 ∧ Ext w0 w') := by
  unfold ref10_Holds at hF
  have hz := id r0; obtain ⟨_, rfl, ⟨_, _, rfl, rfl, ⟨_, _, rfl, ⟨a1, c1, rfl, p1, q3, e1⟩, ⟨_, _, rfl, ⟨a2, c2, rfl, p2, q4, e2⟩, ⟨_, _, rfl, ⟨a3, c3, rfl, p3, q5, e3⟩, ⟨a4, c4, rfl, p4, q6, e4⟩⟩⟩⟩⟩⟩ := hz
  have r3 := RV.of1 p1 q3 e1
  have r4 := RV.of1 p2 q4 e2
  have r5 := RV.of1 p3 q5 e3
  have r6 := RV.of1 p4 q6 e4
  have hz := r1.sl; obtain ⟨a5, c5, rfl, -, -, -⟩ := hz
  refine entr (n := 33) Try.func40 rfl rfl rfl <| wp_seq <| rg <| sbx rfl rfl fun b3 w1 hx1 hg1 hb1 => ?_
  have r7 := r1.ext hx1
  have r8 := r3.ext hx1
  have r9 := r4.ext hx1
  have r10 := r5.ext hx1
  have r11 := r6.ext hx1
  have r12 := r0.ext hx1
  refine vl rfl rfl xas <| vl rfl rfl xas <| nl <| wp_seq <| wp_seq <| rg <| vl rfl rfl (xlda rfl ti26 rfl (Bx.cs hb1)) <| vl rfl rfl xmv <| ?_
  have hz := bs hF; obtain ⟨x3, Ex3, hF⟩ := hz
  refine cl rfl rfl (xc cb49 (mc rfl (mc rfl mn))) (c49 (show RV (α := (Int × (List Int) × (List ((List Int) × Int)) × (List ((List Int) × Int)) × (List (List Int)))) _ (.agg [.int .i64 x0.1, .slice a1 x0.2.1.length c1, .slice a2 x0.2.2.1.length c2, .slice a3 x0.2.2.2.1.length c3, .slice a4 x0.2.2.2.2.length c4].toArray) (x0.1, x0.2.1, x0.2.2.1, x0.2.2.2.1, x0.2.2.2.2) from ⟨_, rfl, ⟨[.int .i64 x0.1], [.slice a1 x0.2.1.length c1] ++ ([.slice a2 x0.2.2.1.length c2] ++ ([.slice a3 x0.2.2.2.1.length c3] ++ [.slice a4 x0.2.2.2.2.length c4])), rfl, rfl, ⟨[.slice a1 x0.2.1.length c1], [.slice a2 x0.2.2.1.length c2] ++ ([.slice a3 x0.2.2.2.1.length c3] ++ [.slice a4 x0.2.2.2.2.length c4]), rfl, r8.rep1, ⟨[.slice a2 x0.2.2.1.length c2], [.slice a3 x0.2.2.2.1.length c3] ++ [.slice a4 x0.2.2.2.2.length c4], rfl, r9.rep1, ⟨[.slice a3 x0.2.2.2.1.length c3], [.slice a4 x0.2.2.2.2.length c4], rfl, r10.rep1, r11.rep1⟩⟩⟩⟩⟩) r7 Ex3) ?_
  rintro _ w2 ⟨rfl, hx2⟩
  have k1 := hx1.tr hx2
  have hb2 := hb1.ext hx2
  have r13 := r8.ext hx2
  have r14 := r9.ext hx2
  have r15 := r10.ext hx2
  have r16 := r11.ext hx2
  have r17 := r7.ext hx2
  refine vl rfl rfl (xneq rfl rfl) <| nl <| cnd rfl (fun h3 => ?_) (fun h3 => ?_)
  ·
    have hF := ifp hF h3
    refine wp_seq <| rg <| vl rfl rfl (xlda rfl ti26 rfl (Bx.cs hb2)) <| vl rfl rfl xmv <| ?_
    have hz := bs hF; obtain ⟨x4, Ex4, hF⟩ := hz
    refine cl rfl rfl (xc cb49 (mc rfl (mc rfl mn))) (c49 (show RV (α := (Int × (List Int) × (List ((List Int) × Int)) × (List ((List Int) × Int)) × (List (List Int)))) _ (.agg [.int .i64 x0.1, .slice a1 x0.2.1.length c1, .slice a2 x0.2.2.1.length c2, .slice a3 x0.2.2.2.1.length c3, .slice a4 x0.2.2.2.2.length c4].toArray) (x0.1, x0.2.1, x0.2.2.1, x0.2.2.2.1, x0.2.2.2.2) from ⟨_, rfl, ⟨[.int .i64 x0.1], [.slice a1 x0.2.1.length c1] ++ ([.slice a2 x0.2.2.1.length c2] ++ ([.slice a3 x0.2.2.2.1.length c3] ++ [.slice a4 x0.2.2.2.2.length c4])), rfl, rfl, ⟨[.slice a1 x0.2.1.length c1], [.slice a2 x0.2.2.1.length c2] ++ ([.slice a3 x0.2.2.2.1.length c3] ++ [.slice a4 x0.2.2.2.2.length c4]), rfl, r13.rep1, ⟨[.slice a2 x0.2.2.1.length c2], [.slice a3 x0.2.2.2.1.length c3] ++ [.slice a4 x0.2.2.2.2.length c4], rfl, r14.rep1, ⟨[.slice a3 x0.2.2.2.1.length c3], [.slice a4 x0.2.2.2.2.length c4], rfl, r15.rep1, r16.rep1⟩⟩⟩⟩⟩) r17 Ex4) ?_
    rintro _ w3 ⟨rfl, hx3⟩
    have k2 := k1.tr hx3
    refine vl rfl rfl xas <| vl rfl rfl xas <| nl <| ?_
    cases hF
    exact wp_ret <| rt rfl (.tmp rfl rfl (.tmp rfl rfl .nil)) ⟨_, rfl, (RVo.nil (Nat.zero_le _)), k2⟩
  ·
    have hF := ifn hF h3
    refine wp_skip <| wp_seq <| rg <| vl rfl rfl (xlda rfl ti26 rfl (Bx.cs hb2)) <| vl rfl rfl xmv <| ?_
    have hz := bs hF; obtain ⟨x5, Ex5, hF⟩ := hz
    refine cl rfl rfl (xc cb51 (mc rfl (mc rfl mn))) (c51 (show RV (α := (Int × (List Int) × (List ((List Int) × Int)) × (List ((List Int) × Int)) × (List (List Int)))) _ (.agg [.int .i64 x0.1, .slice a1 x0.2.1.length c1, .slice a2 x0.2.2.1.length c2, .slice a3 x0.2.2.2.1.length c3, .slice a4 x0.2.2.2.2.length c4].toArray) (x0.1, x0.2.1, x0.2.2.1, x0.2.2.2.1, x0.2.2.2.2) from ⟨_, rfl, ⟨[.int .i64 x0.1], [.slice a1 x0.2.1.length c1] ++ ([.slice a2 x0.2.2.1.length c2] ++ ([.slice a3 x0.2.2.2.1.length c3] ++ [.slice a4 x0.2.2.2.2.length c4])), rfl, rfl, ⟨[.slice a1 x0.2.1.length c1], [.slice a2 x0.2.2.1.length c2] ++ ([.slice a3 x0.2.2.2.1.length c3] ++ [.slice a4 x0.2.2.2.2.length c4]), rfl, r13.rep1, ⟨[.slice a2 x0.2.2.1.length c2], [.slice a3 x0.2.2.2.1.length c3] ++ [.slice a4 x0.2.2.2.2.length c4], rfl, r14.rep1, ⟨[.slice a3 x0.2.2.2.1.length c3], [.slice a4 x0.2.2.2.2.length c4], rfl, r15.rep1, r16.rep1⟩⟩⟩⟩⟩) r17 Ex5) ?_
    rintro _ w4 ⟨u1, rfl, r18, hx4⟩
    have k3 := k1.tr hx4
    have hb3 := hb2.ext hx4
    have r19 := r13.ext hx4
    have r20 := r14.ext hx4
    have r21 := r15.ext hx4
    have r22 := r16.ext hx4
    have hz := RV.sl r18; obtain ⟨a6, c6, rfl, -, -, -⟩ := hz
    refine vl rfl rfl xas <| nl <| wp_seq <| rg <| vl rfl rfl xas <| nl <| wp_seq <| wp_seq <| rg <| vl rfl rfl xas <| nl <| ?_
    have o1 : Row (α := Int) 3 w4.heap.size w4 (.slice none 0 0) [] := Row.nil
    have hz := bs hF; obtain ⟨z1, hB1, hF⟩ := hz
    refine ct (fun L w => ∃ v4 : Value, L 7 = v4 ∧ Row 3 w4.heap.size w v4 z1 ∧ Ext w4 w) ?_ ?_
    ·
      refine wp_block <| lp (I := fun m L w => ∃ y1 : (List Int), ∃ y2 : Int, ∃ v3 : Value, ref10_Holds_l1 F x0 x5 m y1 y2  = some z1 ∧ L 7 = v3 ∧ Row 3 w4.heap.size w v3 y1 ∧ L 8 = .int .i64 y2 ∧ L 2 = .pointer (some ⟨b3, 0, none⟩) ∧ L 6 = .slice a6 x5.length c6 ∧ Ext w4 w) F ⟨_, _, _, hB1, rfl, o1, rfl, rfl, rfl, (Ext.refl _)⟩ ?_
      rintro m L w5 ⟨y1, y2, v3, hB1, l7_i1, O7_i1, l8_i1, l2_i1, l6_i1, K0_i1⟩
      rcases m with _ | m
      · rw [ref10_Holds_l1] at hB1; cases hB1
      rw [ref10_Holds_l1] at hB1
      have k4 := k3.tr K0_i1
      have r23 := r19.ext K0_i1
      have r24 := r20.ext K0_i1
      have r25 := r21.ext K0_i1
      have r26 := r22.ext K0_i1
      have hb4 := hb3.ext K0_i1
      have r27 := r18.ext K0_i1
      have hz := RV.sl O7_i1.rv; obtain ⟨a7, c7, rfl, -, -, -⟩ := hz
      refine wp_seq <| wp_seq <| rg <| vl rfl rfl xmv <| vl rfl rfl (xfa l2_i1 fa26_0) <| vl rfl rfl (xld rfl ti3 ((Bx.cs hb4).at 0 rfl)) <| vl rfl rfl (xlss l8_i1 rfl) <| nl <| cnd rfl (fun h4 => ?_) (fun h4 => ?_)
      ·
        have hB1 := ifp hB1 h4
        refine wp_skip <| wp_seq <| ?_
        have hz := bs hB1; obtain ⟨y3, hB3, hB1⟩ := hz
        refine ct (fun L w => ∃ v5 : Value, L 7 = v5 ∧ Row 3 w4.heap.size w v5 y3 ∧ L 2 = .pointer (some ⟨b3, 0, none⟩) ∧ L 6 = .slice a6 x5.length c6 ∧ L 8 = .int .i64 y2 ∧ Ext w4 w) ?_ ?_
        ·
          refine wp_block <| wp_seq <| rg <| vl rfl rfl xmv <| vl rfl rfl xmv <| ?_
          have hz := bs hB3; obtain ⟨x6, Ex6, hB3⟩ := hz
          refine cl rfl rfl (xc cb36 (mc l6_i1 (mc l8_i1 mn))) (c36 r27 Ex6) ?_
          rintro _ w6 ⟨rfl, hx5⟩
          have k5 := k4.tr hx5
          have k6 := K0_i1.tr hx5
          have hb5 := hb4.ext hx5
          have r28 := r23.ext hx5
          have r29 := r24.ext hx5
          have r30 := r25.ext hx5
          have r31 := r26.ext hx5
          have r32 := r27.ext hx5
          have O1 := O7_i1.ext hx5
          refine nl <| ?_
          have hz := bs hB3; obtain ⟨y4, hB4, hB3⟩ := hz
          refine ct (fun L w => ∃ v6 : Value, L 7 = v6 ∧ Row 3 w4.heap.size w v6 y4 ∧ L 2 = .pointer (some ⟨b3, 0, none⟩) ∧ L 6 = .slice a6 x5.length c6 ∧ L 8 = .int .i64 y2 ∧ Ext w4 w) ?_ ?_
          ·
            refine cnd rfl (fun h5 => ?_) (fun h5 => ?_)
            ·
              have hB4 := ifp hB4 h5
              refine rg <| vl rfl rfl xmv <| vl rfl rfl xmv <| sbsv (cs := [.int .i64 y2]) Try.underlying22 ti3 rfl (pc l8_i1 pn) rfl rfl rfl rfl rfl fun b4 w7 hx6 hg2 hb6 => ?_
              have k7 := k5.tr hx6
              have k8 := k6.tr hx6
              have k9 := hx5.tr hx6
              have hb7 := hb5.ext hx6
              have r33 := r28.ext hx6
              have r34 := r29.ext hx6
              have r35 := r30.ext hx6
              have r36 := r31.ext hx6
              have r37 := r32.ext hx6
              have O2 := O1.ext hx6
              have o3 : Row (α := Int) 3 w6.heap.size w7 (.slice (some ⟨b4, 0, none⟩) 1 1) [y2] := Row.lit hg2 hb6 rfl (ble rfl)
              have hz := bs hB4; obtain ⟨x7, Ex7, hB4⟩ := hz
              refine sapx (l := y1) (k := ([y2] : List Int)) l7_i1 rfl Try.underlying22 ti3 rfl rfl O2 (RV.els o3.rv) Ex7 k8.size fun v7 w8 o4 hB6 hgr1 how1 => ?_
              have k10 := Ext.grow k7 k3.size hB6
              have k11 : Ext w4 w8 := k8.trans hB6
              have hb8 := hb3.ext k11
              have r39 := r19.ext k11
              have r40 := r20.ext k11
              have r41 := r21.ext k11
              have r42 := r22.ext k11
              have r43 := r18.ext k11
              have hz := RV.sl o4.rv; obtain ⟨a8, c8, rfl, -, -, -⟩ := hz
              refine vl rfl rfl xas <| nl <| ?_
              cases hB4
              refine lf <| ?_
              exact ⟨_, rfl, o4, l2_i1, l6_i1, l8_i1, k11⟩
            ·
              have hB4 := ifn hB4 h5
              refine wp_skip <| ?_
              cases hB4
              refine lf <| ?_
              exact ⟨_, l7_i1, O1, l2_i1, l6_i1, l8_i1, k6⟩
          rintro L w9 ⟨v6, l7_j1, O7_j1, l2_j1, l6_j1, l8_j1, K0_j1⟩
          have k12 := k3.tr K0_j1
          have r44 := r19.ext K0_j1
          have r45 := r20.ext K0_j1
          have r46 := r21.ext K0_j1
          have r47 := r22.ext K0_j1
          have hb9 := hb3.ext K0_j1
          have r48 := r18.ext K0_j1
          have hz := RV.sl O7_j1.rv; obtain ⟨a9, c9, rfl, -, -, -⟩ := hz
          cases hB3
          refine lf <| ?_
          exact ⟨_, l7_j1, O7_j1, l2_j1, l6_j1, l8_j1, K0_j1⟩
        rintro L w10 ⟨v5, l7_j2, O7_j2, l2_j2, l6_j2, l8_j2, K0_j2⟩
        have k13 := k3.tr K0_j2
        have r49 := r19.ext K0_j2
        have r50 := r20.ext K0_j2
        have r51 := r21.ext K0_j2
        have r52 := r22.ext K0_j2
        have hb10 := hb3.ext K0_j2
        have r53 := r18.ext K0_j2
        have hz := RV.sl O7_j2.rv; obtain ⟨a10, c10, rfl, -, -, -⟩ := hz
        refine rg <| vl rfl rfl xmv <| vl rfl rfl (xadd l8_j2 rfl) <| vl rfl rfl xas <| nl <| ?_
        refine lq m (Nat.lt_succ_self _) <| ?_
        exact ⟨_, _, _, hB1, l7_j2, O7_j2, rfl, l2_j2, l6_j2, K0_j2⟩
      ·
        have hB1 := ifn hB1 h4
        refine wp_exit <| ?_
        cases hB1
        refine lf <| ?_
        exact ⟨_, l7_i1, O7_i1, K0_i1⟩
    rintro L w11 ⟨v4, l7_j3, O7_j3, K0_j3⟩
    have k14 := k3.tr K0_j3
    have hz := RV.sl O7_j3.rv; obtain ⟨a11, c11, rfl, -, -, -⟩ := hz
    refine wp_seq <| rg <| vl rfl rfl xmv <| vl rfl rfl xas <| vl rfl rfl xas <| nl <| ?_
    cases hF
    exact wp_ret <| rt rfl (.tmp l7_j3 rfl (.tmp rfl rfl .nil)) ⟨_, rfl, O7_j3.rv, k14⟩

set_option maxHeartbeats 4000000 in
theorem c46 {w0 : World} {v0 : Value} {x0 : (List ((Bool × Int) × Int × Int))} (r0 : RV w0 v0 x0) {v1 : Value} {x1 : ((Bool × Int) × Int × Int) → Option Bool} (h1 : FnB Try.prog ((Bool × Int) × Int × Int) w0 v1 x1) {F : Nat} {r : Int} (hF : right_first__right_way F x0 x1 = some r) :
    Calls Try.prog 46 [v0, v1].toArray w0 (Ret fun v w' => v = .int .i64 r ∧ Ext w0 w') := by
  unfold right_first__right_way at hF
  have hz := r0.sl; obtain ⟨a1, c1, rfl, -, -, -⟩ := hz
  refine entr (n := 19) Try.func46 rfl rfl rfl <| wp_seq <| rg <| vl rfl rfl xas <| nl <| wp_seq <| wp_seq <| rg <| vl rfl rfl xmv <| vl rfl rfl (xlen rfl Try.underlying72) <| vl rfl rfl xmv <| nl <| ?_
  have hz := bs hF; obtain ⟨o1, hB1, hF⟩ := hz
  refine ct (fun L w => o1 = .inr () ∧ Ext w0 w) ?_ ?_
  ·
    refine wp_block <| lp (I := fun m L w => ∃ y1 : Int, right_first__right_way_l1 F x0 x1 m y1  = some o1 ∧ L 9 = .int .i64 y1 ∧ L 1 = v1 ∧ L 7 = .slice a1 x0.length c1 ∧ L 8 = .int .i64 (x0.length : Int) ∧ Ext w0 w) F ⟨_, hB1, rfl, rfl, rfl, rfl, (Ext.refl _)⟩ ?_
    rintro m L w1 ⟨y1, hB1, l9_i1, l1_i1, l7_i1, l8_i1, K0_i1⟩
    rcases m with _ | m
    · rw [right_first__right_way_l1] at hB1; cases hB1
    rw [right_first__right_way_l1] at hB1
    have h3 := h1.ext K0_i1
    have r3 := r0.ext K0_i1
    refine wp_seq <| rg <| vl rfl rfl (xlss l9_i1 l8_i1) <| nl <| wp_seq <| cnd rfl (fun h4 => ?_) (fun h4 => ?_)
    ·
      have hB1 := ifp hB1 h4
      refine wp_skip <| wp_seq <| wp_block <| wp_seq <| rg <| vl rfl rfl xmv <| ?_
      have hz := bs hB1; obtain ⟨x3, Ex3, hB1⟩ := hz
      have hz := (RV.els r0).ix Ex3; obtain ⟨b3, f1, cs3, e1, i2, i3, q3, hc1⟩ := hz
      cases e1
      obtain ⟨_, _, rfl, ⟨_, _, rfl, rfl, rfl⟩, ⟨_, _, rfl, rfl, rfl⟩⟩ := q3
      have hc2 := hc1.ext K0_i1
      refine vl rfl rfl (xixs l7_i1 l9_i1 Try.underlying72 ti77 i2 i3) <| vl rfl rfl (xlda rfl ti77 rfl hc2) <| sal ti77 fun b4 w2 hx1 hg1 hb1 => ?_
      have k1 := K0_i1.tr hx1
      have h5 := h3.ext hx1
      have r4 := r3.ext hx1
      refine vl rfl rfl xas <| sst rfl rfl rfl ti77 hb1 rfl rfl (ble rfl) fun w3 hch1 hb2 => ?_
      have k2 := Ext.chg k1 hch1 (Nat.le_trans K0_i1.size hg1)
      have k3 := Ext.chg hx1 hch1 (Nat.le_trans (Nat.le_refl _) hg1)
      have h6 := h3.ext k3
      have r5 := r3.ext k3
      have hb3 : Bx w3 b4 77 [.bool x3.1.1, .int .i64 x3.1.2, .int .i64 x3.2.1, .int .i64 x3.2.2] := hb2
      refine nl <| wp_seq <| rg <| vl rfl rfl xmv <| vl rfl rfl (xlda rfl ti77 rfl (Bx.cs hb3)) <| ?_
      have hz := bs hB1; obtain ⟨x4, Ex4, hB1⟩ := hz
      have hz := id h6; obtain ⟨g1, fs1, cs4, e2, hg2, hu1⟩ := hz
      refine cl rfl rfl (xcv (l1_i1.trans e2) hg2 (mc rfl mn) rfl) (hu1 _ _ _ _ (Ext.refl _) (show RV (α := ((Bool × Int) × Int × Int)) _ (.agg [.bool x3.1.1, .int .i64 x3.1.2, .int .i64 x3.2.1, .int .i64 x3.2.2].toArray) ((x3.1.1, x3.1.2), x3.2.1, x3.2.2) from ⟨_, rfl, ⟨[.bool x3.1.1] ++ [.int .i64 x3.1.2], [.int .i64 x3.2.1] ++ [.int .i64 x3.2.2], rfl, ⟨[.bool x3.1.1], [.int .i64 x3.1.2], rfl, rfl, rfl⟩, ⟨[.int .i64 x3.2.1], [.int .i64 x3.2.2], rfl, rfl, rfl⟩⟩⟩) Ex4) ?_
      rintro _ w4 ⟨rfl, hx2⟩
      have k4 := k2.tr hx2
      have k5 := k3.tr hx2
      have h7 := h6.ext hx2
      have r6 := r5.ext hx2
      refine nl <| cnd rfl (fun h8 => ?_) (fun h8 => ?_)
      ·
        have hB1 := ifp hB1 h8
        refine wp_seq <| rg <| vl rfl rfl xmv <| vl rfl rfl xas <| nl <| ?_
        cases hB1
        have hF := (show some _ = some _ from hF); cases hF
        exact wp_ret <| rt rfl (.tmp l9_i1 rfl .nil) ⟨rfl, k4⟩
      ·
        have hB1 := ifn hB1 h8
        refine wp_skip <| rg <| vl rfl rfl (xadd l9_i1 rfl) <| vl rfl rfl xmv <| nl <| ?_
        refine lq m (Nat.lt_succ_self _) <| ?_
        exact ⟨_, hB1, rfl, l1_i1, l7_i1, l8_i1, k4⟩
    ·
      have hB1 := ifn hB1 h4
      refine wp_exit <| ?_
      cases hB1
      refine lf <| ?_
      exact ⟨rfl, K0_i1⟩
  rintro L w5 ⟨rfl, K0_j1⟩
  refine wp_seq <| rg <| vl rfl rfl xas <| nl <| ?_
  cases hF
  exact wp_ret <| rt rfl (.tmp rfl rfl .nil) ⟨rfl, K0_j1⟩

set_option maxHeartbeats 4000000 in
theorem c47 {w0 : World} {v0 : Value} {x0 : ((Bool × Int) × Int × Int)} (r0 : RV w0 v0 x0) {b1 : Nat} {cs1 : List Value} {x1 : (Bool × Int)} (h1 : Cs w0 b1 0 cs1) (q1 : Enc.rep (fun _ => True) w0 cs1 x1) {r : Bool} (hF : right_CheckChain_1 x0 x1 = some r) :
    Calls Try.prog 47 [v0, .pointer (some ⟨b1, 0, none⟩)].toArray w0 (Ret fun v w' => v = .bool r ∧ Ext w0 w') := by
  unfold right_CheckChain_1 at hF
  have hz := id r0; obtain ⟨_, rfl, ⟨_, _, rfl, ⟨_, _, rfl, rfl, rfl⟩, ⟨_, _, rfl, rfl, rfl⟩⟩⟩ := hz
  obtain ⟨_, _, rfl, rfl, rfl⟩ := q1
  refine entr (n := 8) Try.func47 rfl rfl rfl <| wp_seq <| rg <| sbx rfl rfl fun b3 w1 hx1 hg1 hb1 => ?_
  have h3 := h1.ext hx1
  have r3 := r0.ext hx1
  refine vl rfl rfl xas <| nl <| wp_seq <| rg <| vl rfl rfl (xfa rfl fa77_0) <| vl rfl rfl (xlda rfl ti52 rfl ((Bx.cs hb1).sub 0 2)) <| vl rfl rfl (xlda rfl ti52 rfl h3) <| vl rfl rfl (xage (α := (Bool × Int)) (a := (x0.1.1, x0.1.2)) (b := (x1.1, x1.2)) rfl eg52 eq52 rfl rfl rfl rfl rfl) <| vl rfl rfl xas <| nl <| ?_
  cases hF
  exact wp_ret <| rt rfl (.tmp rfl rfl .nil) ⟨rfl, hx1⟩

set_option maxHeartbeats 4000000 in
theorem c48 {w0 : World} {v0 : Value} {x0 : ((Bool × Int) × Int × Int)} (r0 : RV w0 v0 x0) {x1 : Int} {x2 : Int} {r : Bool} (hF : right_way_may x0 x1 x2 = some r) :
    Calls Try.prog 48 [v0, .int .i64 x1, .int .i64 x2].toArray w0 (Ret fun v w' => v = .bool r ∧ Ext w0 w') := by
  unfold right_way_may at hF
  have hz := id r0; obtain ⟨_, rfl, ⟨_, _, rfl, ⟨_, _, rfl, rfl, rfl⟩, ⟨_, _, rfl, rfl, rfl⟩⟩⟩ := hz
  refine entr (n := 27) Try.func48 rfl rfl rfl <| wp_seq <| rg <| sbx rfl rfl fun b4 w1 hx1 hg1 hb1 => ?_
  have r4 := r0.ext hx1
  refine vl rfl rfl xas <| nl <| wp_seq <| rg <| vl rfl rfl (xfa rfl fa77_0) <| vl rfl rfl (xfa rfl fa52_0) <| vl rfl rfl (xld rfl ti4 ((Bx.cs hb1).at 0 rfl)) <| vl rfl rfl (xnot rfl) <| vl rfl rfl xmv <| gv rfl rfl rfl rfl (gw0 rfl) rfl (fun hc => xmva rfl) <| gv rfl rfl rfl rfl (gw0 rfl) rfl (fun hc => xfa rfl fa77_0) <| gv rfl rfl rfl rfl (gw0 rfl) rfl (fun hc => xfa (mv hc rfl) fa52_1) <| gv rfl rfl rfl rfl (gw0 rfl) rfl (fun hc => xld (mv hc rfl) ti3 ((Bx.cs hb1).at 1 rfl)) <| ?_
  have hz := bs hF; obtain ⟨x4, Ex4, hF⟩ := hz
  refine gv rfl rfl rfl rfl (gw0 rfl) rfl (fun hc => xshr (mv hc rfl) (mv hc rfl) (gdp Ex4 hc)) <| gv rfl rfl rfl rfl (gw0 rfl) rfl (fun hc => xand (mv hc rfl) rfl) <| gv rfl rfl rfl rfl (gw0 rfl) rfl (fun hc => xeql (mv hc rfl) rfl) <| vl rfl rfl (xpo rfl rfl rfl) <| vl rfl rfl xmv <| gv rfl rfl rfl rfl (gw1 rfl) rfl (fun hc => xfa rfl fa77_1) <| gv rfl rfl rfl rfl (gw1 rfl) rfl (fun hc => xld (mv hc rfl) ti3 ((Bx.cs hb1).at 2 rfl)) <| gv rfl rfl rfl rfl (gw1 rfl) rfl (fun hc => xmva rfl) <| gv rfl rfl rfl rfl (gw1 rfl) rfl (fun hc => xandn (mv hc rfl) (mv hc rfl)) <| gv rfl rfl rfl rfl (gw1 rfl) rfl (fun hc => xeql (mv hc rfl) rfl) <| vl rfl rfl (xpa rfl rfl rfl) <| vl rfl rfl xas <| nl <| ?_
  cases hF
  exact wp_ret <| rt rfl (.tmp rfl rfl .nil) ⟨rfl, hx1⟩

set_option maxHeartbeats 4000000 in
theorem c55 {w0 : World} {x0 : Int} {F : Nat} {r : (List Int)} (hF : right_numbers F x0 = some r) :
    Calls Try.prog 55 [.int .i64 x0].toArray w0 (Ret fun v w' => ∃ u0 : Value, v = u0 ∧ Row 3 w0.heap.size w' u0 r ∧ Ext w0 w') := by
  unfold right_numbers at hF
  refine entr (n := 21) Try.func55 rfl rfl rfl <| wp_seq <| rg <| vl rfl rfl xas <| nl <| wp_seq <| rg <| vl rfl rfl xas <| nl <| wp_seq <| wp_seq <| rg <| vl rfl rfl xas <| nl <| ?_
  have o1 : Row (α := Int) 3 w0.heap.size w0 (.slice none 0 0) [] := Row.nil
  have hz := bs hF; obtain ⟨z1, hB1, hF⟩ := hz
  refine ct (fun L w => ∃ v3 : Value, L 3 = v3 ∧ Row 3 w0.heap.size w v3 z1 ∧ Ext w0 w) ?_ ?_
  ·
    refine wp_block <| lp (I := fun m L w => ∃ y1 : (List Int), ∃ y2 : Int, ∃ v2 : Value, right_numbers_l1 F x0 m y1 y2  = some z1 ∧ L 3 = v2 ∧ Row 3 w0.heap.size w v2 y1 ∧ L 4 = .int .i64 y2 ∧ L 0 = .int .i64 x0 ∧ Ext w0 w) F ⟨_, _, _, hB1, rfl, o1, rfl, rfl, (Ext.refl _)⟩ ?_
    rintro m L w1 ⟨y1, y2, v2, hB1, l3_i1, O3_i1, l4_i1, l0_i1, K0_i1⟩
    rcases m with _ | m
    · rw [right_numbers_l1] at hB1; cases hB1
    rw [right_numbers_l1] at hB1
    have hz := RV.sl O3_i1.rv; obtain ⟨a1, c1, rfl, -, -, -⟩ := hz
    refine wp_seq <| wp_seq <| rg <| vl rfl rfl xmv <| vl rfl rfl xmv <| ?_
    have hz := bs hB1; obtain ⟨x2, Ex2, hB1⟩ := hz
    refine vl rfl rfl (xshr l0_i1 l4_i1 Ex2) <| vl rfl rfl (xgtr rfl rfl) <| nl <| cnd rfl (fun h2 => ?_) (fun h2 => ?_)
    ·
      have hB1 := ifp hB1 h2
      refine wp_skip <| wp_seq <| ?_
      have hz := bs hB1; obtain ⟨y3, hB3, hB1⟩ := hz
      refine ct (fun L w => ∃ v4 : Value, L 3 = v4 ∧ Row 3 w0.heap.size w v4 y3 ∧ L 0 = .int .i64 x0 ∧ L 4 = .int .i64 y2 ∧ Ext w0 w) ?_ ?_
      ·
        refine wp_block <| wp_seq <| rg <| vl rfl rfl xmv <| vl rfl rfl xmv <| ?_
        have hz := bs hB3; obtain ⟨x3, Ex3, hB3⟩ := hz
        refine vl rfl rfl (xshr l0_i1 l4_i1 Ex3) <| vl rfl rfl (xand rfl rfl) <| vl rfl rfl (xeql rfl rfl) <| nl <| ?_
        have hz := bs hB3; obtain ⟨y4, hB4, hB3⟩ := hz
        refine ct (fun L w => ∃ v5 : Value, L 3 = v5 ∧ Row 3 w0.heap.size w v5 y4 ∧ L 0 = .int .i64 x0 ∧ L 4 = .int .i64 y2 ∧ Ext w0 w) ?_ ?_
        ·
          refine cnd rfl (fun h3 => ?_) (fun h3 => ?_)
          ·
            have hB4 := ifp hB4 h3
            refine rg <| vl rfl rfl xmv <| vl rfl rfl xmv <| sbsv (cs := [.int .i64 y2]) Try.underlying22 ti3 rfl (pc l4_i1 pn) rfl rfl rfl rfl rfl fun b2 w2 hx1 hg1 hb1 => ?_
            have k1 := K0_i1.tr hx1
            have O1 := O3_i1.ext hx1
            have o3 : Row (α := Int) 3 w1.heap.size w2 (.slice (some ⟨b2, 0, none⟩) 1 1) [y2] := Row.lit hg1 hb1 rfl (ble rfl)
            have hz := bs hB4; obtain ⟨x4, Ex4, hB4⟩ := hz
            refine sapx (l := y1) (k := ([y2] : List Int)) l3_i1 rfl Try.underlying22 ti3 rfl rfl O1 (RV.els o3.rv) Ex4 k1.size fun v6 w3 o4 hB6 hgr1 how1 => ?_
            have k2 : Ext w0 w3 := k1.trans hB6
            have hz := RV.sl o4.rv; obtain ⟨a2, c2, rfl, -, -, -⟩ := hz
            refine vl rfl rfl xas <| nl <| ?_
            cases hB4
            refine lf <| ?_
            exact ⟨_, rfl, o4, l0_i1, l4_i1, k2⟩
          ·
            have hB4 := ifn hB4 h3
            refine wp_skip <| ?_
            cases hB4
            refine lf <| ?_
            exact ⟨_, l3_i1, O3_i1, l0_i1, l4_i1, K0_i1⟩
        rintro L w4 ⟨v5, l3_j1, O3_j1, l0_j1, l4_j1, K0_j1⟩
        have hz := RV.sl O3_j1.rv; obtain ⟨a3, c3, rfl, -, -, -⟩ := hz
        cases hB3
        refine lf <| ?_
        exact ⟨_, l3_j1, O3_j1, l0_j1, l4_j1, K0_j1⟩
      rintro L w5 ⟨v4, l3_j2, O3_j2, l0_j2, l4_j2, K0_j2⟩
      have hz := RV.sl O3_j2.rv; obtain ⟨a4, c4, rfl, -, -, -⟩ := hz
      refine rg <| vl rfl rfl xmv <| vl rfl rfl (xadd l4_j2 rfl) <| vl rfl rfl xas <| nl <| ?_
      refine lq m (Nat.lt_succ_self _) <| ?_
      exact ⟨_, _, _, hB1, l3_j2, O3_j2, rfl, l0_j2, K0_j2⟩
    ·
      have hB1 := ifn hB1 h2
      refine wp_exit <| ?_
      cases hB1
      refine lf <| ?_
      exact ⟨_, l3_i1, O3_i1, K0_i1⟩
  rintro L w6 ⟨v3, l3_j3, O3_j3, K0_j3⟩
  have hz := RV.sl O3_j3.rv; obtain ⟨a5, c5, rfl, -, -, -⟩ := hz
  refine wp_seq <| rg <| vl rfl rfl xmv <| vl rfl rfl xas <| nl <| ?_
  cases hF
  exact wp_ret <| rt rfl (.tmp l3_j3 rfl .nil) ⟨_, rfl, O3_j3, K0_j3⟩

set_option maxHeartbeats 4000000 in
theorem c75 {w0 : World} {v0 : Value} {x0 : (List (List Int))} (r0 : RV w0 v0 x0) {v1 : Value} {x1 : (List Int) → Option Bool} (h1 : FnB Try.prog (List Int) w0 v1 x1) {F : Nat} {r : Int} (hF : slices_IndexFunc__int F x0 x1 = some r) :
    Calls Try.prog 75 [v0, v1].toArray w0 (Ret fun v w' => v = .int .i64 r ∧ Ext w0 w') := by
  unfold slices_IndexFunc__int at hF
  have hz := r0.sl; obtain ⟨a1, c1, rfl, -, -, -⟩ := hz
  refine entr (n := 19) Try.func75 rfl rfl rfl <| wp_seq <| rg <| vl rfl rfl xas <| nl <| wp_seq <| wp_seq <| rg <| vl rfl rfl xmv <| vl rfl rfl (xlen rfl Try.underlying24) <| vl rfl rfl xmv <| nl <| ?_
  have hz := bs hF; obtain ⟨o1, hB1, hF⟩ := hz
  refine ct (fun L w => o1 = .inr () ∧ Ext w0 w) ?_ ?_
  ·
    refine wp_block <| lp (I := fun m L w => ∃ y1 : Int, slices_IndexFunc__int_l1 F x0 x1 m y1  = some o1 ∧ L 8 = .int .i64 y1 ∧ L 0 = .slice a1 x0.length c1 ∧ L 1 = v1 ∧ L 7 = .int .i64 (x0.length : Int) ∧ Ext w0 w) F ⟨_, hB1, rfl, rfl, rfl, rfl, (Ext.refl _)⟩ ?_
    rintro m L w1 ⟨y1, hB1, l8_i1, l0_i1, l1_i1, l7_i1, K0_i1⟩
    rcases m with _ | m
    · rw [slices_IndexFunc__int_l1] at hB1; cases hB1
    rw [slices_IndexFunc__int_l1] at hB1
    have r3 := r0.ext K0_i1
    have h3 := h1.ext K0_i1
    refine wp_seq <| rg <| vl rfl rfl (xlss l8_i1 l7_i1) <| nl <| wp_seq <| cnd rfl (fun h4 => ?_) (fun h4 => ?_)
    ·
      have hB1 := ifp hB1 h4
      refine wp_skip <| wp_seq <| wp_block <| wp_seq <| rg <| vl rfl rfl xmv <| vl rfl rfl xas <| nl <| wp_seq <| rg <| vl rfl rfl xmv <| vl rfl rfl xmv <| vl rfl rfl xmv <| ?_
      have hz := bs hB1; obtain ⟨x3, Ex3, hB1⟩ := hz
      have hz := (RV.els r0).ix Ex3; obtain ⟨b3, f1, cs3, e1, i2, i3, q3, hc1⟩ := hz
      cases e1
      obtain ⟨a2, c2, rfl, p1, q4, e2⟩ := q3
      have r4 := RV.of1 p1 q4 e2
      have hc2 := hc1.ext K0_i1
      have r5 := r4.ext K0_i1
      refine vl rfl rfl (xixs l0_i1 l8_i1 Try.underlying24 ti22 i2 i3) <| vl rfl rfl (xld rfl ti22 (hc2.at 0 rfl)) <| ?_
      have hz := bs hB1; obtain ⟨x4, Ex4, hB1⟩ := hz
      have hz := id h3; obtain ⟨g1, fs1, cs4, e3, hg1, hu1⟩ := hz
      refine cl rfl rfl (xcv (l1_i1.trans e3) hg1 (mc rfl mn) rfl) (hu1 _ _ _ _ (Ext.refl _) r5 Ex4) ?_
      rintro _ w2 ⟨rfl, hx1⟩
      have k1 := K0_i1.tr hx1
      have r6 := r3.ext hx1
      have h5 := h3.ext hx1
      refine nl <| cnd rfl (fun h6 => ?_) (fun h6 => ?_)
      ·
        have hB1 := ifp hB1 h6
        refine wp_seq <| rg <| vl rfl rfl xmv <| vl rfl rfl xas <| nl <| ?_
        cases hB1
        have hF := (show some _ = some _ from hF); cases hF
        exact wp_ret <| rt rfl (.tmp l8_i1 rfl .nil) ⟨rfl, k1⟩
      ·
        have hB1 := ifn hB1 h6
        refine wp_skip <| rg <| vl rfl rfl (xadd l8_i1 rfl) <| vl rfl rfl xmv <| nl <| ?_
        refine lq m (Nat.lt_succ_self _) <| ?_
        exact ⟨_, hB1, rfl, l0_i1, l1_i1, l7_i1, k1⟩
    ·
      have hB1 := ifn hB1 h4
      refine wp_exit <| ?_
      cases hB1
      refine lf <| ?_
      exact ⟨rfl, K0_i1⟩
  rintro L w3 ⟨rfl, K0_j1⟩
  refine wp_seq <| rg <| vl rfl rfl xas <| nl <| ?_
  cases hF
  exact wp_ret <| rt rfl (.tmp rfl rfl .nil) ⟨rfl, K0_j1⟩

set_option maxHeartbeats 4000000 in
theorem c58 {w0 : World} {v0 : Value} {x0 : (List (List Int))} (r0 : RV w0 v0 x0) {v1 : Value} {x1 : (List Int) → Option Bool} (h1 : FnB Try.prog (List Int) w0 v1 x1) {F : Nat} {r : Bool} (hF : slices_ContainsFunc__int F x0 x1 = some r) :
    Calls Try.prog 58 [v0, v1].toArray w0 (Ret fun v w' => v = .bool r ∧ Ext w0 w') := by
  unfold slices_ContainsFunc__int at hF
  have hz := r0.sl; obtain ⟨a1, c1, rfl, -, -, -⟩ := hz
  refine entr (n := 9) Try.func58 rfl rfl rfl <| wp_seq <| rg <| vl rfl rfl xas <| nl <| wp_seq <| rg <| vl rfl rfl xmv <| vl rfl rfl xmv <| ?_
  have hz := bs hF; obtain ⟨x3, Ex3, hF⟩ := hz
  refine cl rfl rfl (xc cb75 (mc rfl (mc rfl mn))) (c75 r0 h1 Ex3) ?_
  rintro _ w1 ⟨rfl, hx1⟩
  refine vl rfl rfl (xgeq rfl rfl) <| vl rfl rfl xas <| nl <| ?_
  cases hF
  exact wp_ret <| rt rfl (.tmp rfl rfl .nil) ⟨rfl, hx1⟩

set_option maxHeartbeats 4000000 in
theorem c60 {w0 : World} {v0 : Value} {x0 : (List Int)} (r0 : RV w0 v0 x0) {x1 : Int} {F : Nat} {r : Bool} (hF : right_rising F x0 x1 = some r) :
    Calls Try.prog 60 [v0, .int .i64 x1].toArray w0 (Ret fun v w' => v = .bool r ∧ Ext w0 w') := by
  unfold right_rising at hF
  have hz := r0.sl; obtain ⟨a1, c1, rfl, -, -, -⟩ := hz
  refine entr (n := 24) Try.func60 rfl rfl rfl <| wp_seq <| rg <| vl rfl rfl xas <| nl <| wp_seq <| rg <| vl rfl rfl xas <| nl <| wp_seq <| wp_seq <| rg <| vl rfl rfl xmv <| vl rfl rfl (xlen rfl Try.underlying22) <| vl rfl rfl xmv <| nl <| ?_
  have hz := bs hF; obtain ⟨o1, hB1, hF⟩ := hz
  refine ct (fun L w => o1 = .inr () ∧ Ext w0 w) ?_ ?_
  ·
    refine wp_block <| lp (I := fun m L w => ∃ y1 : Int, ∃ y2 : Int, right_rising_l1 F x0 x1 m y1 y2  = some o1 ∧ L 5 = .int .i64 y1 ∧ L 10 = .int .i64 y2 ∧ L 1 = .int .i64 x1 ∧ L 8 = .slice a1 x0.length c1 ∧ L 9 = .int .i64 (x0.length : Int) ∧ Ext w0 w) F ⟨_, _, hB1, rfl, rfl, rfl, rfl, rfl, (Ext.refl _)⟩ ?_
    rintro m L w1 ⟨y1, y2, hB1, l5_i1, l10_i1, l1_i1, l8_i1, l9_i1, K0_i1⟩
    rcases m with _ | m
    · rw [right_rising_l1] at hB1; cases hB1
    rw [right_rising_l1] at hB1
    have r3 := r0.ext K0_i1
    refine wp_seq <| rg <| vl rfl rfl (xlss l10_i1 l9_i1) <| nl <| wp_seq <| cnd rfl (fun h3 => ?_) (fun h3 => ?_)
    ·
      have hB1 := ifp hB1 h3
      refine wp_skip <| wp_seq <| wp_block <| wp_seq <| rg <| ?_
      have hz := bs hB1; obtain ⟨x3, Ex3, hB1⟩ := hz
      have hz := (RV.els r0).ix Ex3; obtain ⟨b3, f1, cs3, e1, i2, i3, q3, hc1⟩ := hz
      cases e1
      obtain rfl := q3
      have hc2 := hc1.ext K0_i1
      refine vl rfl rfl (xixs l8_i1 l10_i1 Try.underlying22 ti3 i2 i3) <| vl rfl rfl (xld rfl ti3 (hc2.at 0 rfl)) <| vl rfl rfl xas <| nl <| wp_seq <| wp_seq <| rg <| vl rfl rfl xmv <| vl rfl rfl xmv <| vl rfl rfl (xleq rfl l5_i1) <| vl rfl rfl xmv <| gv rfl rfl rfl rfl (gw0 rfl) rfl (fun hc => xmva rfl) <| gv rfl rfl rfl rfl (gw0 rfl) rfl (fun hc => xmva l1_i1) <| gv rfl rfl rfl rfl (gw0 rfl) rfl (fun hc => xgeq (mv hc rfl) (mv hc rfl)) <| vl rfl rfl (xpo rfl rfl rfl) <| nl <| cnd rfl (fun h4 => ?_) (fun h4 => ?_)
      ·
        have hB1 := ifp hB1 h4
        refine wp_seq <| rg <| vl rfl rfl xas <| nl <| ?_
        cases hB1
        have hF := (show some _ = some _ from hF); cases hF
        exact wp_ret <| rt rfl (.tmp rfl rfl .nil) ⟨rfl, K0_i1⟩
      ·
        have hB1 := ifn hB1 h4
        refine wp_skip <| rg <| vl rfl rfl xmv <| vl rfl rfl xas <| nl <| rg <| vl rfl rfl (xadd l10_i1 rfl) <| vl rfl rfl xmv <| nl <| ?_
        refine lq m (Nat.lt_succ_self _) <| ?_
        exact ⟨_, _, hB1, rfl, rfl, l1_i1, l8_i1, l9_i1, K0_i1⟩
    ·
      have hB1 := ifn hB1 h3
      refine wp_exit <| ?_
      cases hB1
      refine lf <| ?_
      exact ⟨rfl, K0_i1⟩
  rintro L w2 ⟨rfl, K0_j1⟩
  refine wp_seq <| rg <| vl rfl rfl xas <| nl <| ?_
  cases hF
  exact wp_ret <| rt rfl (.tmp rfl rfl .nil) ⟨rfl, K0_j1⟩

set_option maxHeartbeats 4000000 in
theorem c59 {w0 : World} {v0 : Value} {x0 : (List Int)} (r0 : RV w0 v0 x0) {b1 : Nat} {cs1 : List Value} {x1 : (Int × (List Int) × (List ((List Int) × Int)) × (List ((List Int) × Int)) × (List (List Int)))} (h1 : Cs w0 b1 0 cs1) (q1 : Enc.rep (fun _ => True) w0 cs1 x1) {F : Nat} {r : Bool} (hF : right_CheckConflicts_1 F x0 x1 = some r) :
    Calls Try.prog 59 [v0, .pointer (some ⟨b1, 0, none⟩)].toArray w0 (Ret fun v w' => v = .bool r ∧ Ext w0 w') := by
  unfold right_CheckConflicts_1 at hF
  have hz := r0.sl; obtain ⟨a1, c1, rfl, -, -, -⟩ := hz
  obtain ⟨_, _, rfl, rfl, ⟨_, _, rfl, ⟨a2, c2, rfl, p1, q3, e1⟩, ⟨_, _, rfl, ⟨a3, c3, rfl, p2, q4, e2⟩, ⟨_, _, rfl, ⟨a4, c4, rfl, p3, q5, e3⟩, ⟨a5, c5, rfl, p4, q6, e4⟩⟩⟩⟩⟩ := q1
  have r3 := RV.of1 p1 q3 e1
  have r4 := RV.of1 p2 q4 e2
  have r5 := RV.of1 p3 q5 e3
  have r6 := RV.of1 p4 q6 e4
  refine entr (n := 10) Try.func59 rfl rfl rfl <| wp_seq <| rg <| vl rfl rfl xas <| nl <| wp_seq <| rg <| vl rfl rfl xmv <| vl rfl rfl (xfa rfl fa26_3) <| vl rfl rfl (xld rfl ti23 (h1.at 3 rfl)) <| vl rfl rfl (xlen rfl Try.underlying23) <| ?_
  have hz := bs hF; obtain ⟨x3, Ex3, hF⟩ := hz
  refine cl rfl rfl (xc cb60 (mc rfl (mc rfl mn))) (c60 r0 Ex3) ?_
  rintro _ w1 ⟨rfl, hx1⟩
  refine vl rfl rfl (xnot rfl) <| vl rfl rfl xas <| nl <| ?_
  cases hF
  exact wp_ret <| rt rfl (.tmp rfl rfl .nil) ⟨rfl, hx1⟩

set_option maxHeartbeats 4000000 in
theorem c62 {w0 : World} {v0 : Value} {x0 : (List Int)} (r0 : RV w0 v0 x0) {F : Nat} {r : Int} (hF : right_together F x0 = some r) :
    Calls Try.prog 62 [v0].toArray w0 (Ret fun v w' => v = .int .i64 r ∧ Ext w0 w') := by
  unfold right_together at hF
  have hz := r0.sl; obtain ⟨a1, c1, rfl, -, -, -⟩ := hz
  refine entr (n := 18) Try.func62 rfl rfl rfl <| wp_seq <| rg <| vl rfl rfl xas <| nl <| wp_seq <| rg <| vl rfl rfl xas <| nl <| wp_seq <| wp_seq <| rg <| vl rfl rfl xmv <| vl rfl rfl (xlen rfl Try.underlying22) <| vl rfl rfl xmv <| nl <| ?_
  have hz := bs hF; obtain ⟨z1, hB1, hF⟩ := hz
  refine ct (fun L w => L 3 = .int .i64 z1 ∧ Ext w0 w) ?_ ?_
  ·
    refine wp_block <| lp (I := fun m L w => ∃ y1 : Int, ∃ y2 : Int, right_together_l1 F x0 m y1 y2  = some z1 ∧ L 3 = .int .i64 y1 ∧ L 8 = .int .i64 y2 ∧ L 6 = .slice a1 x0.length c1 ∧ L 7 = .int .i64 (x0.length : Int) ∧ Ext w0 w) F ⟨_, _, hB1, rfl, rfl, rfl, rfl, (Ext.refl _)⟩ ?_
    rintro m L w1 ⟨y1, y2, hB1, l3_i1, l8_i1, l6_i1, l7_i1, K0_i1⟩
    rcases m with _ | m
    · rw [right_together_l1] at hB1; cases hB1
    rw [right_together_l1] at hB1
    have r2 := r0.ext K0_i1
    refine wp_seq <| rg <| vl rfl rfl (xlss l8_i1 l7_i1) <| nl <| wp_seq <| cnd rfl (fun h2 => ?_) (fun h2 => ?_)
    ·
      have hB1 := ifp hB1 h2
      refine wp_skip <| wp_seq <| wp_block <| wp_seq <| rg <| ?_
      have hz := bs hB1; obtain ⟨x2, Ex2, hB1⟩ := hz
      have hz := (RV.els r0).ix Ex2; obtain ⟨b2, f1, cs2, e1, i2, i3, q2, hc1⟩ := hz
      cases e1
      obtain rfl := q2
      have hc2 := hc1.ext K0_i1
      refine vl rfl rfl (xixs l6_i1 l8_i1 Try.underlying22 ti3 i2 i3) <| vl rfl rfl (xld rfl ti3 (hc2.at 0 rfl)) <| vl rfl rfl xas <| nl <| rg <| vl rfl rfl xmv <| vl rfl rfl xmv <| ?_
      have hz := bs hB1; obtain ⟨x3, Ex3, hB1⟩ := hz
      refine vl rfl rfl (xshl rfl rfl Ex3) <| vl rfl rfl (xor_ l3_i1 rfl) <| vl rfl rfl xas <| nl <| rg <| vl rfl rfl (xadd l8_i1 rfl) <| vl rfl rfl xmv <| nl <| ?_
      refine lq m (Nat.lt_succ_self _) <| ?_
      exact ⟨_, _, hB1, rfl, rfl, l6_i1, l7_i1, K0_i1⟩
    ·
      have hB1 := ifn hB1 h2
      refine wp_exit <| ?_
      cases hB1
      refine lf <| ?_
      exact ⟨l3_i1, K0_i1⟩
  rintro L w2 ⟨l3_j1, K0_j1⟩
  refine wp_seq <| rg <| vl rfl rfl xmv <| vl rfl rfl xas <| nl <| ?_
  cases hF
  exact wp_ret <| rt rfl (.tmp l3_j1 rfl .nil) ⟨rfl, K0_j1⟩

set_option maxHeartbeats 4000000 in
theorem c69 {w0 : World} {v0 : Value} {x0 : (List Int)} (r0 : RV w0 v0 x0) {v1 : Value} {x1 : Int → Option Bool} (h1 : FnB Try.prog Int w0 v1 x1) {F : Nat} {r : Int} (hF : right_first__int F x0 x1 = some r) :
    Calls Try.prog 69 [v0, v1].toArray w0 (Ret fun v w' => v = .int .i64 r ∧ Ext w0 w') := by
  unfold right_first__int at hF
  have hz := r0.sl; obtain ⟨a1, c1, rfl, -, -, -⟩ := hz
  refine entr (n := 19) Try.func69 rfl rfl rfl <| wp_seq <| rg <| vl rfl rfl xas <| nl <| wp_seq <| wp_seq <| rg <| vl rfl rfl xmv <| vl rfl rfl (xlen rfl Try.underlying22) <| vl rfl rfl xmv <| nl <| ?_
  have hz := bs hF; obtain ⟨o1, hB1, hF⟩ := hz
  refine ct (fun L w => o1 = .inr () ∧ Ext w0 w) ?_ ?_
  ·
    refine wp_block <| lp (I := fun m L w => ∃ y1 : Int, right_first__int_l1 F x0 x1 m y1  = some o1 ∧ L 9 = .int .i64 y1 ∧ L 1 = v1 ∧ L 7 = .slice a1 x0.length c1 ∧ L 8 = .int .i64 (x0.length : Int) ∧ Ext w0 w) F ⟨_, hB1, rfl, rfl, rfl, rfl, (Ext.refl _)⟩ ?_
    rintro m L w1 ⟨y1, hB1, l9_i1, l1_i1, l7_i1, l8_i1, K0_i1⟩
    rcases m with _ | m
    · rw [right_first__int_l1] at hB1; cases hB1
    rw [right_first__int_l1] at hB1
    have h3 := h1.ext K0_i1
    have r3 := r0.ext K0_i1
    refine wp_seq <| rg <| vl rfl rfl (xlss l9_i1 l8_i1) <| nl <| wp_seq <| cnd rfl (fun h4 => ?_) (fun h4 => ?_)
    ·
      have hB1 := ifp hB1 h4
      refine wp_skip <| wp_seq <| wp_block <| wp_seq <| rg <| vl rfl rfl xmv <| ?_
      have hz := bs hB1; obtain ⟨x3, Ex3, hB1⟩ := hz
      have hz := (RV.els r0).ix Ex3; obtain ⟨b3, f1, cs3, e1, i2, i3, q3, hc1⟩ := hz
      cases e1
      obtain rfl := q3
      have hc2 := hc1.ext K0_i1
      refine vl rfl rfl (xixs l7_i1 l9_i1 Try.underlying22 ti3 i2 i3) <| vl rfl rfl (xld rfl ti3 (hc2.at 0 rfl)) <| vl rfl rfl xas <| vl rfl rfl xas <| nl <| wp_seq <| rg <| vl rfl rfl xmv <| vl rfl rfl xmv <| ?_
      have hz := bs hB1; obtain ⟨x4, Ex4, hB1⟩ := hz
      have hz := id h3; obtain ⟨g1, fs1, cs4, e2, hg1, hu1⟩ := hz
      refine cl rfl rfl (xcv (l1_i1.trans e2) hg1 (mc rfl mn) rfl) (hu1 _ _ _ _ (Ext.refl _) (RVo.int.2 rfl) Ex4) ?_
      rintro _ w2 ⟨rfl, hx1⟩
      have k1 := K0_i1.tr hx1
      have h5 := h3.ext hx1
      have r4 := r3.ext hx1
      refine nl <| cnd rfl (fun h6 => ?_) (fun h6 => ?_)
      ·
        have hB1 := ifp hB1 h6
        refine wp_seq <| rg <| vl rfl rfl xmv <| vl rfl rfl xas <| nl <| ?_
        cases hB1
        have hF := (show some _ = some _ from hF); cases hF
        exact wp_ret <| rt rfl (.tmp l9_i1 rfl .nil) ⟨rfl, k1⟩
      ·
        have hB1 := ifn hB1 h6
        refine wp_skip <| rg <| vl rfl rfl (xadd l9_i1 rfl) <| vl rfl rfl xmv <| nl <| ?_
        refine lq m (Nat.lt_succ_self _) <| ?_
        exact ⟨_, hB1, rfl, l1_i1, l7_i1, l8_i1, k1⟩
    ·
      have hB1 := ifn hB1 h4
      refine wp_exit <| ?_
      cases hB1
      refine lf <| ?_
      exact ⟨rfl, K0_i1⟩
  rintro L w3 ⟨rfl, K0_j1⟩
  refine wp_seq <| rg <| vl rfl rfl xas <| nl <| ?_
  cases hF
  exact wp_ret <| rt rfl (.tmp rfl rfl .nil) ⟨rfl, K0_j1⟩

set_option maxHeartbeats 4000000 in
theorem c70 {w0 : World} {x0 : Int} {b1 : Nat} {cs1 : List Value} {x1 : Int} (h1 : Cs w0 b1 0 cs1) (q1 : Enc.rep (fun _ => True) w0 cs1 x1) {r : Bool} (hF : right_treaty_broken_1 x0 x1 = some r) :
    Calls Try.prog 70 [.int .i64 x0, .pointer (some ⟨b1, 0, none⟩)].toArray w0 (Ret fun v w' => v = .bool r ∧ Ext w0 w') := by
  unfold right_treaty_broken_1 at hF
  obtain rfl := q1
  refine entr (n := 8) Try.func70 rfl rfl rfl <| wp_seq <| rg <| vl rfl rfl xas <| nl <| wp_seq <| rg <| vl rfl rfl xmv <| vl rfl rfl (xld rfl ti3 (h1.at 0 rfl)) <| vl rfl rfl (xandn rfl rfl) <| vl rfl rfl (xeql rfl rfl) <| vl rfl rfl xas <| nl <| ?_
  cases hF
  exact wp_ret <| rt rfl (.tmp rfl rfl .nil) ⟨rfl, (Ext.refl _)⟩

set_option maxHeartbeats 4000000 in
theorem c79 {w0 : World} {v0 : Value} {x0 : ((List Int) × Int)} (r0 : RV w0 v0 x0) {r : Bool} (hF : right_valid_1 x0 = some r) :
    Calls Try.prog 79 [v0].toArray w0 (Ret fun v w' => v = .bool r ∧ Ext w0 w') := by
  unfold right_valid_1 at hF
  have hz := id r0; obtain ⟨_, rfl, ⟨_, _, rfl, ⟨a1, c1, rfl, p1, q2, e1⟩, rfl⟩⟩ := hz
  have r2 := RV.of1 p1 q2 e1
  refine entr (n := 7) Try.func79 rfl rfl rfl <| wp_seq <| rg <| sbx rfl rfl fun b2 w1 hx1 hg1 hb1 => ?_
  have r3 := r2.ext hx1
  have r4 := r0.ext hx1
  refine vl rfl rfl xas <| nl <| wp_seq <| rg <| vl rfl rfl (xfa rfl fa54_0) <| vl rfl rfl (xld rfl ti22 ((Bx.cs hb1).at 0 rfl)) <| vl rfl rfl (xlen rfl Try.underlying22) <| vl rfl rfl (xgtr rfl rfl) <| vl rfl rfl xas <| nl <| ?_
  cases hF
  exact wp_ret <| rt rfl (.tmp rfl rfl .nil) ⟨rfl, hx1⟩

set_option maxHeartbeats 4000000 in
theorem c82 {w0 : World} {v0 : Value} {x0 : (List Int)} (r0 : RV w0 v0 x0) {r : Bool} (hF : right_valid_3 x0 = some r) :
    Calls Try.prog 82 [v0].toArray w0 (Ret fun v w' => v = .bool r ∧ Ext w0 w') := by
  unfold right_valid_3 at hF
  have hz := r0.sl; obtain ⟨a1, c1, rfl, -, -, -⟩ := hz
  refine entr (n := 11) Try.func82 rfl rfl rfl <| wp_seq <| rg <| vl rfl rfl xas <| nl <| wp_seq <| rg <| vl rfl rfl xmv <| vl rfl rfl (xlen rfl Try.underlying22) <| vl rfl rfl (xeql rfl rfl) <| vl rfl rfl xmv <| gv rfl rfl rfl rfl (gw0 rfl) rfl (fun hc => xmva rfl) <| gv rfl rfl rfl rfl (gw0 rfl) rfl (fun hc => xlen (mv hc rfl) Try.underlying22) <| gv rfl rfl rfl rfl (gw0 rfl) rfl (fun hc => xgtr (mv hc rfl) rfl) <| vl rfl rfl (xpo rfl rfl rfl) <| vl rfl rfl xas <| nl <| ?_
  cases hF
  exact wp_ret <| rt rfl (.tmp rfl rfl .nil) ⟨rfl, (Ext.refl _)⟩

set_option maxHeartbeats 4000000 in
theorem c80 {w0 : World} {v0 : Value} {x0 : ((List Int) × Int)} (r0 : RV w0 v0 x0) {b1 : Nat} {cs1 : List Value} {x1 : (Int × (List Int) × (List ((List Int) × Int)) × (List ((List Int) × Int)) × (List (List Int)))} (h1 : Cs w0 b1 0 cs1) (q1 : Enc.rep (fun _ => True) w0 cs1 x1) {F : Nat} {r : Bool} (hF : right_valid_2 F x0 x1 = some r) :
    Calls Try.prog 80 [v0, .pointer (some ⟨b1, 0, none⟩)].toArray w0 (Ret fun v w' => v = .bool r ∧ Ext w0 w') := by
  unfold right_valid_2 at hF
  have hz := id r0; obtain ⟨_, rfl, ⟨_, _, rfl, ⟨a1, c1, rfl, p1, q3, e1⟩, rfl⟩⟩ := hz
  have r3 := RV.of1 p1 q3 e1
  obtain ⟨_, _, rfl, rfl, ⟨_, _, rfl, ⟨a2, c2, rfl, p2, q4, e2⟩, ⟨_, _, rfl, ⟨a3, c3, rfl, p3, q5, e3⟩, ⟨_, _, rfl, ⟨a4, c4, rfl, p4, q6, e4⟩, ⟨a5, c5, rfl, p5, q7, e5⟩⟩⟩⟩⟩ := q1
  have r4 := RV.of1 p2 q4 e2
  have r5 := RV.of1 p3 q5 e3
  have r6 := RV.of1 p4 q6 e4
  have r7 := RV.of1 p5 q7 e5
  refine entr (n := 22) Try.func80 rfl rfl rfl <| wp_seq <| rg <| sbx rfl rfl fun b3 w1 hx1 hg1 hb1 => ?_
  have r8 := r4.ext hx1
  have r9 := r5.ext hx1
  have r10 := r6.ext hx1
  have r11 := r7.ext hx1
  have h3 := h1.ext hx1
  have r12 := r3.ext hx1
  have r13 := r0.ext hx1
  refine vl rfl rfl xas <| nl <| wp_seq <| rg <| vl rfl rfl (xfa rfl fa54_0) <| vl rfl rfl (xld rfl ti22 ((Bx.cs hb1).at 0 rfl)) <| vl rfl rfl (xfa rfl fa26_0) <| vl rfl rfl (xld rfl ti3 (h3.at 0 rfl)) <| ?_
  have hz := bs hF; obtain ⟨x3, Ex3, hF⟩ := hz
  refine cl rfl rfl (xc cb60 (mc rfl (mc rfl mn))) (c60 r12 Ex3) ?_
  rintro _ w2 ⟨rfl, hx2⟩
  have k1 := hx1.tr hx2
  have hb2 := hb1.ext hx2
  have r14 := r12.ext hx2
  have r15 := r8.ext hx2
  have r16 := r9.ext hx2
  have r17 := r10.ext hx2
  have r18 := r11.ext hx2
  have h4 := h3.ext hx2
  refine vl rfl rfl (xnot rfl) <| vl rfl rfl xmv <| gv rfl rfl rfl rfl (gw0 rfl) rfl (fun hc => xfa rfl fa54_1) <| gv rfl rfl rfl rfl (gw0 rfl) rfl (fun hc => xld (mv hc rfl) ti3 ((Bx.cs hb2).at 1 rfl)) <| gv rfl rfl rfl rfl (gw0 rfl) rfl (fun hc => xlss (mv hc rfl) rfl) <| vl rfl rfl (xpo rfl rfl rfl) <| vl rfl rfl xmv <| gv rfl rfl rfl rfl (gw0 rfl) rfl (fun hc => xfa rfl fa54_1) <| gv rfl rfl rfl rfl (gw0 rfl) rfl (fun hc => xld (mv hc rfl) ti3 ((Bx.cs hb2).at 1 rfl)) <| gv rfl rfl rfl rfl (gw0 rfl) rfl (fun hc => xfa rfl fa26_0) <| gv rfl rfl rfl rfl (gw0 rfl) rfl (fun hc => xld (mv hc rfl) ti3 (h4.at 0 rfl)) <| gv rfl rfl rfl rfl (gw0 rfl) rfl (fun hc => xgeq (mv hc rfl) (mv hc rfl)) <| vl rfl rfl (xpo rfl rfl rfl) <| vl rfl rfl xas <| nl <| ?_
  cases hF
  exact wp_ret <| rt rfl (.tmp rfl rfl .nil) ⟨rfl, k1⟩

set_option maxHeartbeats 4000000 in
theorem c85 {w0 : World} {v0 : Value} {x0 : (List ((List Int) × Int))} (r0 : RV w0 v0 x0) {v1 : Value} {x1 : ((List Int) × Int) → Option Bool} (h1 : FnB Try.prog ((List Int) × Int) w0 v1 x1) {F : Nat} {r : Int} (hF : slices_IndexFunc_api_RightRule F x0 x1 = some r) :
    Calls Try.prog 85 [v0, v1].toArray w0 (Ret fun v w' => v = .int .i64 r ∧ Ext w0 w') := by
  unfold slices_IndexFunc_api_RightRule at hF
  have hz := r0.sl; obtain ⟨a1, c1, rfl, -, -, -⟩ := hz
  refine entr (n := 19) Try.func85 rfl rfl rfl <| wp_seq <| rg <| vl rfl rfl xas <| nl <| wp_seq <| wp_seq <| rg <| vl rfl rfl xmv <| vl rfl rfl (xlen rfl Try.underlying23) <| vl rfl rfl xmv <| nl <| ?_
  have hz := bs hF; obtain ⟨o1, hB1, hF⟩ := hz
  refine ct (fun L w => o1 = .inr () ∧ Ext w0 w) ?_ ?_
  ·
    refine wp_block <| lp (I := fun m L w => ∃ y1 : Int, slices_IndexFunc_api_RightRule_l1 F x0 x1 m y1  = some o1 ∧ L 8 = .int .i64 y1 ∧ L 0 = .slice a1 x0.length c1 ∧ L 1 = v1 ∧ L 7 = .int .i64 (x0.length : Int) ∧ Ext w0 w) F ⟨_, hB1, rfl, rfl, rfl, rfl, (Ext.refl _)⟩ ?_
    rintro m L w1 ⟨y1, hB1, l8_i1, l0_i1, l1_i1, l7_i1, K0_i1⟩
    rcases m with _ | m
    · rw [slices_IndexFunc_api_RightRule_l1] at hB1; cases hB1
    rw [slices_IndexFunc_api_RightRule_l1] at hB1
    have r3 := r0.ext K0_i1
    have h3 := h1.ext K0_i1
    refine wp_seq <| rg <| vl rfl rfl (xlss l8_i1 l7_i1) <| nl <| wp_seq <| cnd rfl (fun h4 => ?_) (fun h4 => ?_)
    ·
      have hB1 := ifp hB1 h4
      refine wp_skip <| wp_seq <| wp_block <| wp_seq <| rg <| vl rfl rfl xmv <| vl rfl rfl xas <| nl <| wp_seq <| rg <| vl rfl rfl xmv <| vl rfl rfl xmv <| vl rfl rfl xmv <| ?_
      have hz := bs hB1; obtain ⟨x3, Ex3, hB1⟩ := hz
      have hz := (RV.els r0).ix Ex3; obtain ⟨b3, f1, cs3, e1, i2, i3, q3, hc1⟩ := hz
      cases e1
      obtain ⟨_, _, rfl, ⟨a2, c2, rfl, p1, q4, e2⟩, rfl⟩ := q3
      have r4 := RV.of1 p1 q4 e2
      have hc2 := hc1.ext K0_i1
      have r5 := r4.ext K0_i1
      refine vl rfl rfl (xixs l0_i1 l8_i1 Try.underlying23 ti54 i2 i3) <| vl rfl rfl (xlda rfl ti54 rfl hc2) <| ?_
      have hz := bs hB1; obtain ⟨x4, Ex4, hB1⟩ := hz
      have hz := id h3; obtain ⟨g1, fs1, cs4, e3, hg1, hu1⟩ := hz
      refine cl rfl rfl (xcv (l1_i1.trans e3) hg1 (mc rfl mn) rfl) (hu1 _ _ _ _ (Ext.refl _) (show RV (α := ((List Int) × Int)) _ (.agg [.slice a2 x3.1.length c2, .int .i64 x3.2].toArray) (x3.1, x3.2) from ⟨_, rfl, ⟨[.slice a2 x3.1.length c2], [.int .i64 x3.2], rfl, r5.rep1, rfl⟩⟩) Ex4) ?_
      rintro _ w2 ⟨rfl, hx1⟩
      have k1 := K0_i1.tr hx1
      have r6 := r3.ext hx1
      have h5 := h3.ext hx1
      refine nl <| cnd rfl (fun h6 => ?_) (fun h6 => ?_)
      ·
        have hB1 := ifp hB1 h6
        refine wp_seq <| rg <| vl rfl rfl xmv <| vl rfl rfl xas <| nl <| ?_
        cases hB1
        have hF := (show some _ = some _ from hF); cases hF
        exact wp_ret <| rt rfl (.tmp l8_i1 rfl .nil) ⟨rfl, k1⟩
      ·
        have hB1 := ifn hB1 h6
        refine wp_skip <| rg <| vl rfl rfl (xadd l8_i1 rfl) <| vl rfl rfl xmv <| nl <| ?_
        refine lq m (Nat.lt_succ_self _) <| ?_
        exact ⟨_, hB1, rfl, l0_i1, l1_i1, l7_i1, k1⟩
    ·
      have hB1 := ifn hB1 h4
      refine wp_exit <| ?_
      cases hB1
      refine lf <| ?_
      exact ⟨rfl, K0_i1⟩
  rintro L w3 ⟨rfl, K0_j1⟩
  refine wp_seq <| rg <| vl rfl rfl xas <| nl <| ?_
  cases hF
  exact wp_ret <| rt rfl (.tmp rfl rfl .nil) ⟨rfl, K0_j1⟩

set_option maxHeartbeats 4000000 in
theorem c81 {w0 : World} {v0 : Value} {x0 : (List ((List Int) × Int))} (r0 : RV w0 v0 x0) {v1 : Value} {x1 : ((List Int) × Int) → Option Bool} (h1 : FnB Try.prog ((List Int) × Int) w0 v1 x1) {F : Nat} {r : Bool} (hF : slices_ContainsFunc_api_RightRule F x0 x1 = some r) :
    Calls Try.prog 81 [v0, v1].toArray w0 (Ret fun v w' => v = .bool r ∧ Ext w0 w') := by
  unfold slices_ContainsFunc_api_RightRule at hF
  have hz := r0.sl; obtain ⟨a1, c1, rfl, -, -, -⟩ := hz
  refine entr (n := 9) Try.func81 rfl rfl rfl <| wp_seq <| rg <| vl rfl rfl xas <| nl <| wp_seq <| rg <| vl rfl rfl xmv <| vl rfl rfl xmv <| ?_
  have hz := bs hF; obtain ⟨x3, Ex3, hF⟩ := hz
  refine cl rfl rfl (xc cb85 (mc rfl (mc rfl mn))) (c85 r0 h1 Ex3) ?_
  rintro _ w1 ⟨rfl, hx1⟩
  refine vl rfl rfl (xgeq rfl rfl) <| vl rfl rfl xas <| nl <| ?_
  cases hF
  exact wp_ret <| rt rfl (.tmp rfl rfl .nil) ⟨rfl, hx1⟩

set_option maxHeartbeats 4000000 in
theorem c83 {w0 : World} {v0 : Value} {x0 : (List Int)} (r0 : RV w0 v0 x0) {b1 : Nat} {cs1 : List Value} {x1 : (Int × (List Int) × (List ((List Int) × Int)) × (List ((List Int) × Int)) × (List (List Int)))} (h1 : Cs w0 b1 0 cs1) (q1 : Enc.rep (fun _ => True) w0 cs1 x1) {F : Nat} {r : Bool} (hF : right_valid_4 F x0 x1 = some r) :
    Calls Try.prog 83 [v0, .pointer (some ⟨b1, 0, none⟩)].toArray w0 (Ret fun v w' => v = .bool r ∧ Ext w0 w') := by
  unfold right_valid_4 at hF
  have hz := r0.sl; obtain ⟨a1, c1, rfl, -, -, -⟩ := hz
  obtain ⟨_, _, rfl, rfl, ⟨_, _, rfl, ⟨a2, c2, rfl, p1, q3, e1⟩, ⟨_, _, rfl, ⟨a3, c3, rfl, p2, q4, e2⟩, ⟨_, _, rfl, ⟨a4, c4, rfl, p3, q5, e3⟩, ⟨a5, c5, rfl, p4, q6, e4⟩⟩⟩⟩⟩ := q1
  have r3 := RV.of1 p1 q3 e1
  have r4 := RV.of1 p2 q4 e2
  have r5 := RV.of1 p3 q5 e3
  have r6 := RV.of1 p4 q6 e4
  refine entr (n := 9) Try.func83 rfl rfl rfl <| wp_seq <| rg <| vl rfl rfl xas <| nl <| wp_seq <| rg <| vl rfl rfl xmv <| vl rfl rfl (xfa rfl fa26_0) <| vl rfl rfl (xld rfl ti3 (h1.at 0 rfl)) <| ?_
  have hz := bs hF; obtain ⟨x3, Ex3, hF⟩ := hz
  refine cl rfl rfl (xc cb60 (mc rfl (mc rfl mn))) (c60 r0 Ex3) ?_
  rintro _ w1 ⟨rfl, hx1⟩
  refine vl rfl rfl (xnot rfl) <| vl rfl rfl xas <| nl <| ?_
  cases hF
  exact wp_ret <| rt rfl (.tmp rfl rfl .nil) ⟨rfl, hx1⟩

set_option maxHeartbeats 4000000 in
theorem c72 {w0 : World} {v0 : Value} {x0 : (Int × (List Int) × (List ((List Int) × Int)) × (List ((List Int) × Int)) × (List (List Int)))} (r0 : RV w0 v0 x0) {F : Nat} {r : Int} (hF : right_valid F x0 = some r) :
    Calls Try.prog 72 [v0].toArray w0 (Ret fun v w' => v = .int .i64 r ∧ Ext w0 w') := by
  unfold right_valid at hF
  have hz := id r0; obtain ⟨_, rfl, ⟨_, _, rfl, rfl, ⟨_, _, rfl, ⟨a1, c1, rfl, p1, q2, e1⟩, ⟨_, _, rfl, ⟨a2, c2, rfl, p2, q3, e2⟩, ⟨_, _, rfl, ⟨a3, c3, rfl, p3, q4, e3⟩, ⟨a4, c4, rfl, p4, q5, e4⟩⟩⟩⟩⟩⟩ := hz
  have r2 := RV.of1 p1 q2 e1
  have r3 := RV.of1 p2 q3 e2
  have r4 := RV.of1 p3 q4 e3
  have r5 := RV.of1 p4 q5 e4
  refine entr (n := 72) Try.func72 rfl rfl rfl <| wp_seq <| rg <| sbx rfl rfl fun b2 w1 hx1 hg1 hb1 => ?_
  have r6 := r2.ext hx1
  have r7 := r3.ext hx1
  have r8 := r4.ext hx1
  have r9 := r5.ext hx1
  have r10 := r0.ext hx1
  refine vl rfl rfl xas <| nl <| wp_seq <| rg <| vl rfl rfl xas <| nl <| wp_seq <| rg <| vl rfl rfl (xmf mn (mc rfl mn)) <| vl rfl rfl xas <| nl <| wp_seq <| wp_block <| wp_seq <| rg <| vl rfl rfl (xfa rfl fa26_0) <| vl rfl rfl (xld rfl ti3 ((Bx.cs hb1).at 0 rfl)) <| vl rfl rfl (xlss rfl rfl) <| vl rfl rfl xmv <| gv rfl rfl rfl rfl (gw0 rfl) rfl (fun hc => xfa rfl fa26_0) <| gv rfl rfl rfl rfl (gw0 rfl) rfl (fun hc => xld (mv hc rfl) ti3 ((Bx.cs hb1).at 0 rfl)) <| gv rfl rfl rfl rfl (gw0 rfl) rfl (fun hc => xgtr (mv hc rfl) rfl) <| vl rfl rfl (xpo rfl rfl rfl) <| vl rfl rfl xmv <| gv rfl rfl rfl rfl (gw0 rfl) rfl (fun hc => xfa rfl fa26_2) <| gv rfl rfl rfl rfl (gw0 rfl) rfl (fun hc => xld (mv hc rfl) ti23 ((Bx.cs hb1).at 2 rfl)) <| gv rfl rfl rfl rfl (gw0 rfl) rfl (fun hc => xlen (mv hc rfl) Try.underlying23) <| gv rfl rfl rfl rfl (gw0 rfl) rfl (fun hc => xgtr (mv hc rfl) rfl) <| vl rfl rfl (xpo rfl rfl rfl) <| vl rfl rfl xmv <| gv rfl rfl rfl rfl (gw0 rfl) rfl (fun hc => xfa rfl fa26_3) <| gv rfl rfl rfl rfl (gw0 rfl) rfl (fun hc => xld (mv hc rfl) ti23 ((Bx.cs hb1).at 3 rfl)) <| gv rfl rfl rfl rfl (gw0 rfl) rfl (fun hc => xlen (mv hc rfl) Try.underlying23) <| gv rfl rfl rfl rfl (gw0 rfl) rfl (fun hc => xgtr (mv hc rfl) rfl) <| vl rfl rfl (xpo rfl rfl rfl) <| vl rfl rfl xmv <| gv rfl rfl rfl rfl (gw0 rfl) rfl (fun hc => xfa rfl fa26_4) <| gv rfl rfl rfl rfl (gw0 rfl) rfl (fun hc => xld (mv hc rfl) ti24 ((Bx.cs hb1).at 4 rfl)) <| gv rfl rfl rfl rfl (gw0 rfl) rfl (fun hc => xlen (mv hc rfl) Try.underlying24) <| gv rfl rfl rfl rfl (gw0 rfl) rfl (fun hc => xgtr (mv hc rfl) rfl) <| vl rfl rfl (xpo rfl rfl rfl) <| vl rfl rfl xas <| nl <| cnd rfl (fun h2 => ?_) (fun h2 => ?_)
  ·
    have hF := ifp hF h2
    refine wp_seq <| rg <| vl rfl rfl xas <| nl <| ?_
    cases hF
    exact wp_ret <| rt rfl (.tmp rfl rfl .nil) ⟨rfl, hx1⟩
  ·
    have hF := ifn hF h2
    refine wp_seq <| rg <| vl rfl rfl (xfa rfl fa26_2) <| vl rfl rfl (xld rfl ti23 ((Bx.cs hb1).at 2 rfl)) <| vl rfl rfl xmv <| ?_
    have hz := bs hF; obtain ⟨x2, Ex2, hF⟩ := hz
    refine cl rfl rfl (xc cb81 (mc rfl (mc rfl mn))) (c81 r7 ⟨79, [], [], rfl, cb79, fun w' u x b hk hu hp => c79 hu  hp⟩ Ex2) ?_
    rintro _ w2 ⟨rfl, hx2⟩
    have k1 := hx1.tr hx2
    have hb2 := hb1.ext hx2
    have r11 := r6.ext hx2
    have r12 := r7.ext hx2
    have r13 := r8.ext hx2
    have r14 := r9.ext hx2
    refine vl rfl rfl xmv <| gv rfl rfl rfl rfl (gw0 rfl) rfl (fun hc => xfa rfl fa26_3) <| gv rfl rfl rfl rfl (gw0 rfl) rfl (fun hc => xld (mv hc rfl) ti23 ((Bx.cs hb2).at 3 rfl)) <| gv rfl rfl rfl rfl (gw0 rfl) rfl (fun hc => xmva rfl) <| ?_
    have hz := bs hF; obtain ⟨x3, Ex3, hF⟩ := hz
    refine gc rfl rfl rfl rfl (gw0 rfl) rfl (fun hc => xc cb81 (mc (mv hc rfl) (mc (mv hc rfl) mn))) (fun hc => (c81 r13 ⟨79, [], [], rfl, cb79, fun w' u x b hk hu hp => c79 hu  hp⟩ (gdp Ex3 hc))) (fun v2 w3 hy1 hn1 => ?_)
    have hx3 : Ext w2 w3 := gx (fun h => (hy1 h).2) (fun h => (hn1 h).2 ▸ Ext.refl _)
    have e5 := mkw (fun h => (hy1 h).1) (fun h => (hn1 h).1)
    have k2 := k1.tr hx3
    have hb3 := hb2.ext hx3
    have r15 := r11.ext hx3
    have r16 := r12.ext hx3
    have r17 := r13.ext hx3
    have r18 := r14.ext hx3
    refine vl rfl rfl (xpo rfl e5 rfl) <| vl rfl rfl xas <| nl <| cnd rfl (fun h3 => ?_) (fun h3 => ?_)
    ·
      have hF := ifp hF h3
      refine wp_seq <| rg <| vl rfl rfl xas <| nl <| ?_
      cases hF
      exact wp_ret <| rt rfl (.tmp rfl rfl .nil) ⟨rfl, k2⟩
    ·
      have hF := ifn hF h3
      refine wp_seq <| rg <| vl rfl rfl (xfa rfl fa26_4) <| vl rfl rfl (xld rfl ti24 ((Bx.cs hb3).at 4 rfl)) <| ?_
      have hz := bs hF; obtain ⟨x4, Ex4, hF⟩ := hz
      refine cl rfl rfl (xc cb58 (mc rfl (mc rfl mn))) (c58 r18 ⟨82, [], [], rfl, cb82, fun w' u x b hk hu hp => c82 hu  hp⟩ Ex4) ?_
      rintro _ w4 ⟨rfl, hx4⟩
      have k3 := k2.tr hx4
      have hb4 := hb3.ext hx4
      have r19 := r15.ext hx4
      have r20 := r16.ext hx4
      have r21 := r17.ext hx4
      have r22 := r18.ext hx4
      refine vl rfl rfl xas <| nl <| cnd rfl (fun h4 => ?_) (fun h4 => ?_)
      ·
        have hF := ifp hF h4
        refine wp_seq <| rg <| vl rfl rfl xas <| nl <| ?_
        cases hF
        exact wp_ret <| rt rfl (.tmp rfl rfl .nil) ⟨rfl, k3⟩
      ·
        have hF := ifn hF h4
        refine wp_seq <| rg <| vl rfl rfl (xfa rfl fa26_1) <| vl rfl rfl (xld rfl ti22 ((Bx.cs hb4).at 1 rfl)) <| vl rfl rfl (xfa rfl fa26_0) <| vl rfl rfl (xld rfl ti3 ((Bx.cs hb4).at 0 rfl)) <| ?_
        have hz := bs hF; obtain ⟨x5, Ex5, hF⟩ := hz
        refine cl rfl rfl (xc cb60 (mc rfl (mc rfl mn))) (c60 r19 Ex5) ?_
        rintro _ w5 ⟨rfl, hx5⟩
        have k4 := k3.tr hx5
        have hb5 := hb4.ext hx5
        have r23 := r19.ext hx5
        have r24 := r20.ext hx5
        have r25 := r21.ext hx5
        have r26 := r22.ext hx5
        refine vl rfl rfl (xnot rfl) <| vl rfl rfl xmv <| gv rfl rfl rfl rfl (gw0 rfl) rfl (fun hc => xfa rfl fa26_2) <| gv rfl rfl rfl rfl (gw0 rfl) rfl (fun hc => xld (mv hc rfl) ti23 ((Bx.cs hb5).at 2 rfl)) <| gv rfl rfl rfl rfl (gw0 rfl) rfl (fun hc => xmva rfl) <| ?_
        have hz := bs hF; obtain ⟨x6, Ex6, hF⟩ := hz
        refine gc rfl rfl rfl rfl (gw0 rfl) rfl (fun hc => xc cb81 (mc (mv hc rfl) (mc (mv hc rfl) mn))) (fun hc => (c81 r24 ⟨80, [], [.pointer (some ⟨b2, 0, none⟩)], rfl, cb80, fun w' u x b hk hu hp => c80 hu (Bx.cs (hb5.ext hk)) ⟨[.int .i64 x0.1], [.slice a1 x0.2.1.length c1] ++ ([.slice a2 x0.2.2.1.length c2] ++ ([.slice a3 x0.2.2.2.1.length c3] ++ [.slice a4 x0.2.2.2.2.length c4])), rfl, rfl, ⟨[.slice a1 x0.2.1.length c1], [.slice a2 x0.2.2.1.length c2] ++ ([.slice a3 x0.2.2.2.1.length c3] ++ [.slice a4 x0.2.2.2.2.length c4]), rfl, (r23.ext hk).rep1, ⟨[.slice a2 x0.2.2.1.length c2], [.slice a3 x0.2.2.2.1.length c3] ++ [.slice a4 x0.2.2.2.2.length c4], rfl, (r24.ext hk).rep1, ⟨[.slice a3 x0.2.2.2.1.length c3], [.slice a4 x0.2.2.2.2.length c4], rfl, (r25.ext hk).rep1, (r26.ext hk).rep1⟩⟩⟩⟩ hp⟩ (gdp Ex6 hc))) (fun v3 w6 hy2 hn2 => ?_)
        have hx6 : Ext w5 w6 := gx (fun h => (hy2 h).2) (fun h => (hn2 h).2 ▸ Ext.refl _)
        have e6 := mkw (fun h => (hy2 h).1) (fun h => (hn2 h).1)
        have k5 := k4.tr hx6
        have hb6 := hb5.ext hx6
        have r27 := r23.ext hx6
        have r28 := r24.ext hx6
        have r29 := r25.ext hx6
        have r30 := r26.ext hx6
        refine vl rfl rfl (xpo rfl e6 rfl) <| vl rfl rfl xmv <| gv rfl rfl rfl rfl (gw0 rfl) rfl (fun hc => xfa rfl fa26_3) <| gv rfl rfl rfl rfl (gw0 rfl) rfl (fun hc => xld (mv hc rfl) ti23 ((Bx.cs hb6).at 3 rfl)) <| gv rfl rfl rfl rfl (gw0 rfl) rfl (fun hc => xmva rfl) <| ?_
        have hz := bs hF; obtain ⟨x7, Ex7, hF⟩ := hz
        refine gc rfl rfl rfl rfl (gw0 rfl) rfl (fun hc => xc cb81 (mc (mv hc rfl) (mc (mv hc rfl) mn))) (fun hc => (c81 r29 ⟨80, [], [.pointer (some ⟨b2, 0, none⟩)], rfl, cb80, fun w' u x b hk hu hp => c80 hu (Bx.cs (hb6.ext hk)) ⟨[.int .i64 x0.1], [.slice a1 x0.2.1.length c1] ++ ([.slice a2 x0.2.2.1.length c2] ++ ([.slice a3 x0.2.2.2.1.length c3] ++ [.slice a4 x0.2.2.2.2.length c4])), rfl, rfl, ⟨[.slice a1 x0.2.1.length c1], [.slice a2 x0.2.2.1.length c2] ++ ([.slice a3 x0.2.2.2.1.length c3] ++ [.slice a4 x0.2.2.2.2.length c4]), rfl, (r27.ext hk).rep1, ⟨[.slice a2 x0.2.2.1.length c2], [.slice a3 x0.2.2.2.1.length c3] ++ [.slice a4 x0.2.2.2.2.length c4], rfl, (r28.ext hk).rep1, ⟨[.slice a3 x0.2.2.2.1.length c3], [.slice a4 x0.2.2.2.2.length c4], rfl, (r29.ext hk).rep1, (r30.ext hk).rep1⟩⟩⟩⟩ hp⟩ (gdp Ex7 hc))) (fun v4 w7 hy3 hn3 => ?_)
        have hx7 : Ext w6 w7 := gx (fun h => (hy3 h).2) (fun h => (hn3 h).2 ▸ Ext.refl _)
        have e7 := mkw (fun h => (hy3 h).1) (fun h => (hn3 h).1)
        have k6 := k5.tr hx7
        have hb7 := hb6.ext hx7
        have r31 := r27.ext hx7
        have r32 := r28.ext hx7
        have r33 := r29.ext hx7
        have r34 := r30.ext hx7
        refine vl rfl rfl (xpo rfl e7 rfl) <| vl rfl rfl xas <| nl <| cnd rfl (fun h5 => ?_) (fun h5 => ?_)
        ·
          have hF := ifp hF h5
          refine wp_seq <| rg <| vl rfl rfl xas <| nl <| ?_
          cases hF
          exact wp_ret <| rt rfl (.tmp rfl rfl .nil) ⟨rfl, k6⟩
        ·
          have hF := ifn hF h5
          refine wp_seq <| rg <| vl rfl rfl (xfa rfl fa26_4) <| vl rfl rfl (xld rfl ti24 ((Bx.cs hb7).at 4 rfl)) <| vl rfl rfl (xmf mn (mc rfl mn)) <| ?_
          have hz := bs hF; obtain ⟨x8, Ex8, hF⟩ := hz
          refine cl rfl rfl (xc cb58 (mc rfl (mc rfl mn))) (c58 r34 ⟨83, [], [.pointer (some ⟨b2, 0, none⟩)], rfl, cb83, fun w' u x b hk hu hp => c83 hu (Bx.cs (hb7.ext hk)) ⟨[.int .i64 x0.1], [.slice a1 x0.2.1.length c1] ++ ([.slice a2 x0.2.2.1.length c2] ++ ([.slice a3 x0.2.2.2.1.length c3] ++ [.slice a4 x0.2.2.2.2.length c4])), rfl, rfl, ⟨[.slice a1 x0.2.1.length c1], [.slice a2 x0.2.2.1.length c2] ++ ([.slice a3 x0.2.2.2.1.length c3] ++ [.slice a4 x0.2.2.2.2.length c4]), rfl, (r31.ext hk).rep1, ⟨[.slice a2 x0.2.2.1.length c2], [.slice a3 x0.2.2.2.1.length c3] ++ [.slice a4 x0.2.2.2.2.length c4], rfl, (r32.ext hk).rep1, ⟨[.slice a3 x0.2.2.2.1.length c3], [.slice a4 x0.2.2.2.2.length c4], rfl, (r33.ext hk).rep1, (r34.ext hk).rep1⟩⟩⟩⟩ hp⟩ Ex8) ?_
          rintro _ w8 ⟨rfl, hx8⟩
          have k7 := k6.tr hx8
          refine vl rfl rfl xas <| nl <| cnd rfl (fun h6 => ?_) (fun h6 => ?_)
          ·
            have hF := ifp hF h6
            refine wp_seq <| rg <| vl rfl rfl xas <| nl <| ?_
            cases hF
            exact wp_ret <| rt rfl (.tmp rfl rfl .nil) ⟨rfl, k7⟩
          ·
            have hF := ifn hF h6
            refine wp_skip <| wp_seq <| rg <| vl rfl rfl xas <| nl <| ?_
            cases hF
            exact wp_ret <| rt rfl (.tmp rfl rfl .nil) ⟨rfl, k7⟩

set_option maxHeartbeats 4000000 in
theorem c84 {w0 : World} {v0 : Value} {x0 : (List Int)} (r0 : RV w0 v0 x0) {v1 : Value} {x1 : Int → Option Bool} (h1 : FnB Try.prog Int w0 v1 x1) {F : Nat} {r : Int} (hF : slices_IndexFunc_int F x0 x1 = some r) :
    Calls Try.prog 84 [v0, v1].toArray w0 (Ret fun v w' => v = .int .i64 r ∧ Ext w0 w') := by
  unfold slices_IndexFunc_int at hF
  have hz := r0.sl; obtain ⟨a1, c1, rfl, -, -, -⟩ := hz
  refine entr (n := 19) Try.func84 rfl rfl rfl <| wp_seq <| rg <| vl rfl rfl xas <| nl <| wp_seq <| wp_seq <| rg <| vl rfl rfl xmv <| vl rfl rfl (xlen rfl Try.underlying22) <| vl rfl rfl xmv <| nl <| ?_
  have hz := bs hF; obtain ⟨o1, hB1, hF⟩ := hz
  refine ct (fun L w => o1 = .inr () ∧ Ext w0 w) ?_ ?_
  ·
    refine wp_block <| lp (I := fun m L w => ∃ y1 : Int, slices_IndexFunc_int_l1 F x0 x1 m y1  = some o1 ∧ L 8 = .int .i64 y1 ∧ L 0 = .slice a1 x0.length c1 ∧ L 1 = v1 ∧ L 7 = .int .i64 (x0.length : Int) ∧ Ext w0 w) F ⟨_, hB1, rfl, rfl, rfl, rfl, (Ext.refl _)⟩ ?_
    rintro m L w1 ⟨y1, hB1, l8_i1, l0_i1, l1_i1, l7_i1, K0_i1⟩
    rcases m with _ | m
    · rw [slices_IndexFunc_int_l1] at hB1; cases hB1
    rw [slices_IndexFunc_int_l1] at hB1
    have r3 := r0.ext K0_i1
    have h3 := h1.ext K0_i1
    refine wp_seq <| rg <| vl rfl rfl (xlss l8_i1 l7_i1) <| nl <| wp_seq <| cnd rfl (fun h4 => ?_) (fun h4 => ?_)
    ·
      have hB1 := ifp hB1 h4
      refine wp_skip <| wp_seq <| wp_block <| wp_seq <| rg <| vl rfl rfl xmv <| vl rfl rfl xas <| nl <| wp_seq <| rg <| vl rfl rfl xmv <| vl rfl rfl xmv <| vl rfl rfl xmv <| ?_
      have hz := bs hB1; obtain ⟨x3, Ex3, hB1⟩ := hz
      have hz := (RV.els r0).ix Ex3; obtain ⟨b3, f1, cs3, e1, i2, i3, q3, hc1⟩ := hz
      cases e1
      obtain rfl := q3
      have hc2 := hc1.ext K0_i1
      refine vl rfl rfl (xixs l0_i1 l8_i1 Try.underlying22 ti3 i2 i3) <| vl rfl rfl (xld rfl ti3 (hc2.at 0 rfl)) <| ?_
      have hz := bs hB1; obtain ⟨x4, Ex4, hB1⟩ := hz
      have hz := id h3; obtain ⟨g1, fs1, cs4, e2, hg1, hu1⟩ := hz
      refine cl rfl rfl (xcv (l1_i1.trans e2) hg1 (mc rfl mn) rfl) (hu1 _ _ _ _ (Ext.refl _) (RVo.int.2 rfl) Ex4) ?_
      rintro _ w2 ⟨rfl, hx1⟩
      have k1 := K0_i1.tr hx1
      have r4 := r3.ext hx1
      have h5 := h3.ext hx1
      refine nl <| cnd rfl (fun h6 => ?_) (fun h6 => ?_)
      ·
        have hB1 := ifp hB1 h6
        refine wp_seq <| rg <| vl rfl rfl xmv <| vl rfl rfl xas <| nl <| ?_
        cases hB1
        have hF := (show some _ = some _ from hF); cases hF
        exact wp_ret <| rt rfl (.tmp l8_i1 rfl .nil) ⟨rfl, k1⟩
      ·
        have hB1 := ifn hB1 h6
        refine wp_skip <| rg <| vl rfl rfl (xadd l8_i1 rfl) <| vl rfl rfl xmv <| nl <| ?_
        refine lq m (Nat.lt_succ_self _) <| ?_
        exact ⟨_, hB1, rfl, l0_i1, l1_i1, l7_i1, k1⟩
    ·
      have hB1 := ifn hB1 h4
      refine wp_exit <| ?_
      cases hB1
      refine lf <| ?_
      exact ⟨rfl, K0_i1⟩
  rintro L w3 ⟨rfl, K0_j1⟩
  refine wp_seq <| rg <| vl rfl rfl xas <| nl <| ?_
  cases hF
  exact wp_ret <| rt rfl (.tmp rfl rfl .nil) ⟨rfl, K0_j1⟩

set_option maxHeartbeats 4000000 in
theorem c76 {w0 : World} {v0 : Value} {x0 : (List Int)} (r0 : RV w0 v0 x0) {v1 : Value} {x1 : Int → Option Bool} (h1 : FnB Try.prog Int w0 v1 x1) {F : Nat} {r : Bool} (hF : slices_ContainsFunc_int F x0 x1 = some r) :
    Calls Try.prog 76 [v0, v1].toArray w0 (Ret fun v w' => v = .bool r ∧ Ext w0 w') := by
  unfold slices_ContainsFunc_int at hF
  have hz := r0.sl; obtain ⟨a1, c1, rfl, -, -, -⟩ := hz
  refine entr (n := 9) Try.func76 rfl rfl rfl <| wp_seq <| rg <| vl rfl rfl xas <| nl <| wp_seq <| rg <| vl rfl rfl xmv <| vl rfl rfl xmv <| ?_
  have hz := bs hF; obtain ⟨x3, Ex3, hF⟩ := hz
  refine cl rfl rfl (xc cb84 (mc rfl (mc rfl mn))) (c84 r0 h1 Ex3) ?_
  rintro _ w1 ⟨rfl, hx1⟩
  refine vl rfl rfl (xgeq rfl rfl) <| vl rfl rfl xas <| nl <| ?_
  cases hF
  exact wp_ret <| rt rfl (.tmp rfl rfl .nil) ⟨rfl, hx1⟩

set_option maxHeartbeats 4000000 in
theorem c77 {w0 : World} {x0 : Int} {b1 : Nat} {cs1 : List Value} {x1 : Int} (h1 : Cs w0 b1 0 cs1) (q1 : Enc.rep (fun _ => True) w0 cs1 x1) {r : Bool} (hF : right_refused_1 x0 x1 = some r) :
    Calls Try.prog 77 [.int .i64 x0, .pointer (some ⟨b1, 0, none⟩)].toArray w0 (Ret fun v w' => v = .bool r ∧ Ext w0 w') := by
  unfold right_refused_1 at hF
  obtain rfl := q1
  refine entr (n := 8) Try.func77 rfl rfl rfl <| wp_seq <| rg <| vl rfl rfl xas <| nl <| wp_seq <| rg <| vl rfl rfl xmv <| vl rfl rfl (xld rfl ti3 (h1.at 0 rfl)) <| vl rfl rfl (xand rfl rfl) <| vl rfl rfl (xeql rfl rfl) <| vl rfl rfl xas <| nl <| ?_
  cases hF
  exact wp_ret <| rt rfl (.tmp rfl rfl .nil) ⟨rfl, (Ext.refl _)⟩

set_option maxHeartbeats 4000000 in
theorem c18 {w0 : World} {v0 : Value} {x0 : (Int × (List Int) × (List ((List Int) × Int)) × (List ((List Int) × Int)) × (List (List Int)))} (r0 : RV w0 v0 x0) {v1 : Value} {x1 : (List Int)} (r1 : RV w0 v1 x1) {x2 : Int} {v3 : Value} {x3 : (List (Bool × Int))} (r3 : RV w0 v3 x3) {F : Nat} {r : Int} (hF : ref10_CheckChain F x0 x1 x2 x3 = some r) :
    Calls Try.prog 18 [v0, v1, .int .i64 x2, v3].toArray w0 (Ret fun v w' => v = .int .i64 r ∧ Ext w0 w') := by
  unfold ref10_CheckChain at hF
  have hz := id r0; obtain ⟨_, rfl, ⟨_, _, rfl, rfl, ⟨_, _, rfl, ⟨a1, c1, rfl, p1, q5, e1⟩, ⟨_, _, rfl, ⟨a2, c2, rfl, p2, q6, e2⟩, ⟨_, _, rfl, ⟨a3, c3, rfl, p3, q7, e3⟩, ⟨a4, c4, rfl, p4, q8, e4⟩⟩⟩⟩⟩⟩ := hz
  have r5 := RV.of1 p1 q5 e1
  have r6 := RV.of1 p2 q6 e2
  have r7 := RV.of1 p3 q7 e3
  have r8 := RV.of1 p4 q8 e4
  have hz := r1.sl; obtain ⟨a5, c5, rfl, -, -, -⟩ := hz
  have hz := r3.sl; obtain ⟨a6, c6, rfl, -, -, -⟩ := hz
  refine entr (n := 102) Try.func18 rfl rfl rfl <| wp_seq <| rg <| sbx rfl rfl fun b5 w1 hx1 hg1 hb1 => ?_
  have r9 := r1.ext hx1
  have r10 := r3.ext hx1
  have r11 := r5.ext hx1
  have r12 := r6.ext hx1
  have r13 := r7.ext hx1
  have r14 := r8.ext hx1
  have r15 := r0.ext hx1
  refine vl rfl rfl xas <| nl <| wp_seq <| wp_seq <| rg <| vl rfl rfl (xlda rfl ti26 rfl (Bx.cs hb1)) <| vl rfl rfl xmv <| ?_
  have hz := bs hF; obtain ⟨x5, Ex5, hF⟩ := hz
  refine cl rfl rfl (xc cb49 (mc rfl (mc rfl mn))) (c49 (show RV (α := (Int × (List Int) × (List ((List Int) × Int)) × (List ((List Int) × Int)) × (List (List Int)))) _ (.agg [.int .i64 x0.1, .slice a1 x0.2.1.length c1, .slice a2 x0.2.2.1.length c2, .slice a3 x0.2.2.2.1.length c3, .slice a4 x0.2.2.2.2.length c4].toArray) (x0.1, x0.2.1, x0.2.2.1, x0.2.2.2.1, x0.2.2.2.2) from ⟨_, rfl, ⟨[.int .i64 x0.1], [.slice a1 x0.2.1.length c1] ++ ([.slice a2 x0.2.2.1.length c2] ++ ([.slice a3 x0.2.2.2.1.length c3] ++ [.slice a4 x0.2.2.2.2.length c4])), rfl, rfl, ⟨[.slice a1 x0.2.1.length c1], [.slice a2 x0.2.2.1.length c2] ++ ([.slice a3 x0.2.2.2.1.length c3] ++ [.slice a4 x0.2.2.2.2.length c4]), rfl, r11.rep1, ⟨[.slice a2 x0.2.2.1.length c2], [.slice a3 x0.2.2.2.1.length c3] ++ [.slice a4 x0.2.2.2.2.length c4], rfl, r12.rep1, ⟨[.slice a3 x0.2.2.2.1.length c3], [.slice a4 x0.2.2.2.2.length c4], rfl, r13.rep1, r14.rep1⟩⟩⟩⟩⟩) r9 Ex5) ?_
  rintro _ w2 ⟨rfl, hx2⟩
  have k1 := hx1.tr hx2
  have hb2 := hb1.ext hx2
  have r16 := r11.ext hx2
  have r17 := r12.ext hx2
  have r18 := r13.ext hx2
  have r19 := r14.ext hx2
  have r20 := r9.ext hx2
  have r21 := r10.ext hx2
  refine vl rfl rfl (xneq rfl rfl) <| nl <| cnd rfl (fun h5 => ?_) (fun h5 => ?_)
  ·
    have hF := ifp hF h5
    refine wp_seq <| rg <| vl rfl rfl (xlda rfl ti26 rfl (Bx.cs hb2)) <| vl rfl rfl xmv <| ?_
    have hz := bs hF; obtain ⟨x6, Ex6, hF⟩ := hz
    refine cl rfl rfl (xc cb49 (mc rfl (mc rfl mn))) (c49 (show RV (α := (Int × (List Int) × (List ((List Int) × Int)) × (List ((List Int) × Int)) × (List (List Int)))) _ (.agg [.int .i64 x0.1, .slice a1 x0.2.1.length c1, .slice a2 x0.2.2.1.length c2, .slice a3 x0.2.2.2.1.length c3, .slice a4 x0.2.2.2.2.length c4].toArray) (x0.1, x0.2.1, x0.2.2.1, x0.2.2.2.1, x0.2.2.2.2) from ⟨_, rfl, ⟨[.int .i64 x0.1], [.slice a1 x0.2.1.length c1] ++ ([.slice a2 x0.2.2.1.length c2] ++ ([.slice a3 x0.2.2.2.1.length c3] ++ [.slice a4 x0.2.2.2.2.length c4])), rfl, rfl, ⟨[.slice a1 x0.2.1.length c1], [.slice a2 x0.2.2.1.length c2] ++ ([.slice a3 x0.2.2.2.1.length c3] ++ [.slice a4 x0.2.2.2.2.length c4]), rfl, r16.rep1, ⟨[.slice a2 x0.2.2.1.length c2], [.slice a3 x0.2.2.2.1.length c3] ++ [.slice a4 x0.2.2.2.2.length c4], rfl, r17.rep1, ⟨[.slice a3 x0.2.2.2.1.length c3], [.slice a4 x0.2.2.2.2.length c4], rfl, r18.rep1, r19.rep1⟩⟩⟩⟩⟩) r20 Ex6) ?_
    rintro _ w3 ⟨rfl, hx3⟩
    have k2 := k1.tr hx3
    refine vl rfl rfl xas <| nl <| ?_
    cases hF
    exact wp_ret <| rt rfl (.tmp rfl rfl .nil) ⟨rfl, k2⟩
  ·
    have hF := ifn hF h5
    refine wp_skip <| wp_seq <| wp_seq <| rg <| vl rfl rfl xmv <| vl rfl rfl (xlss rfl rfl) <| vl rfl rfl xmv <| gv rfl rfl rfl rfl (gw0 rfl) rfl (fun hc => xmva rfl) <| gv rfl rfl rfl rfl (gw0 rfl) rfl (fun hc => xfa rfl fa26_4) <| gv rfl rfl rfl rfl (gw0 rfl) rfl (fun hc => xld (mv hc rfl) ti24 ((Bx.cs hb2).at 4 rfl)) <| gv rfl rfl rfl rfl (gw0 rfl) rfl (fun hc => xlen (mv hc rfl) Try.underlying24) <| gv rfl rfl rfl rfl (gw0 rfl) rfl (fun hc => xgeq (mv hc rfl) (mv hc rfl)) <| vl rfl rfl (xpo rfl rfl rfl) <| nl <| cnd rfl (fun h6 => ?_) (fun h6 => ?_)
    ·
      have hF := ifp hF h6
      refine wp_seq <| rg <| vl rfl rfl xas <| nl <| ?_
      cases hF
      exact wp_ret <| rt rfl (.tmp rfl rfl .nil) ⟨rfl, k1⟩
    ·
      have hF := ifn hF h6
      refine wp_skip <| wp_seq <| wp_seq <| rg <| vl rfl rfl xmv <| vl rfl rfl (xlen rfl Try.underlying27) <| vl rfl rfl (xgtr rfl rfl) <| nl <| cnd rfl (fun h7 => ?_) (fun h7 => ?_)
      ·
        have hF := ifp hF h7
        refine wp_seq <| rg <| vl rfl rfl xas <| nl <| ?_
        cases hF
        exact wp_ret <| rt rfl (.tmp rfl rfl .nil) ⟨rfl, k1⟩
      ·
        have hF := ifn hF h7
        refine wp_skip <| wp_seq <| rg <| sbsv (cs := []) Try.underlying22 ti3 rfl pn rfl rfl rfl rfl rfl fun b6 w4 hx4 hg2 hb3 => ?_
        have k3 := k1.tr hx4
        have hb4 := hb2.ext hx4
        have r22 := r16.ext hx4
        have r23 := r17.ext hx4
        have r24 := r18.ext hx4
        have r25 := r19.ext hx4
        have r26 := r20.ext hx4
        have r27 := r21.ext hx4
        have o1 : Row (α := Int) 3 w2.heap.size w4 (.slice (some ⟨b6, 0, none⟩) 0 0) [] := Row.lit hg2 hb3 rfl (ble rfl)
        refine vl rfl rfl (xfa rfl fa26_1) <| vl rfl rfl (xld rfl ti22 ((Bx.cs hb4).at 1 rfl)) <| ?_
        have hz := bs hF; obtain ⟨x7, Ex7, hF⟩ := hz
        refine sapx (l := ([] : List Int)) (k := x0.2.1) rfl rfl Try.underlying22 ti3 rfl rfl o1 (RV.els r22) Ex7 hx4.size fun v5 w5 o2 hB1 hgr1 how1 => ?_
        have k4 := Ext.grow k3 k1.size hB1
        have k5 : Ext w2 w5 := hx4.trans hB1
        have hb5 := hb2.ext k5
        have r29 := r16.ext k5
        have r30 := r17.ext k5
        have r31 := r18.ext k5
        have r32 := r19.ext k5
        have r33 := r20.ext k5
        have r34 := r21.ext k5
        have hz := RV.sl o2.rv; obtain ⟨a7, c7, rfl, -, -, -⟩ := hz
        refine vl rfl rfl xas <| nl <| wp_seq <| wp_seq <| rg <| vl rfl rfl xas <| nl <| ?_
        have hz := bs hF; obtain ⟨o3, hB2, hF⟩ := hz
        refine ct (fun L w => ∃ z1 : (List Int), ∃ v7 : Value, o3 = .inr z1 ∧ L 9 = v7 ∧ Row 3 w2.heap.size w v7 z1 ∧ L 2 = .int .i64 x2 ∧ L 4 = .pointer (some ⟨b5, 0, none⟩) ∧ Ext w2 w) ?_ ?_
        ·
          refine wp_block <| lp (I := fun m L w => ∃ y1 : (List Int), ∃ y2 : Int, ∃ v6 : Value, ref10_CheckChain_l1 F x0 x1 x3 m y1 y2  = some o3 ∧ L 9 = v6 ∧ Row 3 w2.heap.size w v6 y1 ∧ L 10 = .int .i64 y2 ∧ L 1 = .slice a5 x1.length c5 ∧ L 2 = .int .i64 x2 ∧ L 3 = .slice a6 x3.length c6 ∧ L 4 = .pointer (some ⟨b5, 0, none⟩) ∧ Ext w2 w) F ⟨_, _, _, hB2, rfl, o2, rfl, rfl, rfl, rfl, rfl, k5⟩ ?_
          rintro m L w6 ⟨y1, y2, v6, hB2, l9_i1, O9_i1, l10_i1, l1_i1, l2_i1, l3_i1, l4_i1, K0_i1⟩
          rcases m with _ | m
          · rw [ref10_CheckChain_l1] at hB2; cases hB2
          rw [ref10_CheckChain_l1] at hB2
          have k6 := k1.tr K0_i1
          have r35 := r20.ext K0_i1
          have r36 := r21.ext K0_i1
          have r37 := r16.ext K0_i1
          have r38 := r17.ext K0_i1
          have r39 := r18.ext K0_i1
          have r40 := r19.ext K0_i1
          have hb6 := hb2.ext K0_i1
          have hz := RV.sl O9_i1.rv; obtain ⟨a8, c8, rfl, -, -, -⟩ := hz
          refine wp_seq <| wp_seq <| rg <| vl rfl rfl xmv <| vl rfl rfl xmv <| vl rfl rfl (xlen l3_i1 Try.underlying27) <| vl rfl rfl (xlss l10_i1 rfl) <| nl <| cnd rfl (fun h8 => ?_) (fun h8 => ?_)
          ·
            have hB2 := ifp hB2 h8
            refine wp_skip <| wp_seq <| wp_block <| wp_seq <| rg <| vl rfl rfl xmv <| vl rfl rfl xmv <| ?_
            have hz := bs hB2; obtain ⟨x8, Ex8, hB2⟩ := hz
            have hz := (RV.els r3).ix Ex8; obtain ⟨b7, f1, cs5, e5, i2, i3, q9, hc1⟩ := hz
            cases e5
            obtain ⟨_, _, rfl, rfl, rfl⟩ := q9
            have hc2 := hc1.ext k6
            refine vl rfl rfl (xixs l3_i1 l10_i1 Try.underlying27 ti52 i2 i3) <| vl rfl rfl (xfa rfl fa52_1) <| vl rfl rfl (xld rfl ti3 (hc2.at 1 rfl)) <| vl rfl rfl xas <| nl <| wp_seq <| rg <| sal ti54 fun b8 w7 hx5 hg3 hb7 => ?_
            have k7 := k6.tr hx5
            have k8 := K0_i1.tr hx5
            have hb8 := hb6.ext hx5
            have r41 := r37.ext hx5
            have r42 := r38.ext hx5
            have r43 := r39.ext hx5
            have r44 := r40.ext hx5
            have r45 := r35.ext hx5
            have r46 := r36.ext hx5
            have O1 := O9_i1.ext hx5
            refine nl <| wp_seq <| wp_seq <| rg <| vl rfl rfl xmv <| vl rfl rfl xmv <| ?_
            have hz := bs hB2; obtain ⟨x9, Ex9, hB2⟩ := hz
            have hz := ix2 r3 Ex9; obtain ⟨cs6, i4, i5, q10, hc3⟩ := hz
            obtain ⟨_, _, rfl, rfl, rfl⟩ := q10
            have hc4 := hc3.ext k7
            refine vl rfl rfl (xixs l3_i1 l10_i1 Try.underlying27 ti52 i4 i5) <| vl rfl rfl (xfa rfl fa52_0) <| vl rfl rfl (xld rfl ti4 (hc4.at 0 rfl)) <| vl rfl rfl xmv <| gv rfl rfl rfl rfl (gw1 rfl) rfl (fun hc => xmva l1_i1) <| gv rfl rfl rfl rfl (gw1 rfl) rfl (fun hc => xmva rfl) <| ?_
            have hz := bs hB2; obtain ⟨x10, Ex10, hB2⟩ := hz
            refine gc rfl rfl rfl rfl (gw1 rfl) rfl (fun hc => xc cb36 (mc (mv hc rfl) (mc (mv hc rfl) mn))) (fun hc => (c36 r45 (gdp Ex10 hc))) (fun v8 w8 hy1 hn1 => ?_)
            have hx6 : Ext w7 w8 := gx (fun h => (hy1 h).2) (fun h => (hn1 h).2 ▸ Ext.refl _)
            have e6 := mkw (fun h => (hy1 h).1) (fun h => (hn1 h).1)
            have k9 := k7.tr hx6
            have k10 := k8.tr hx6
            have k11 := hx5.tr hx6
            have hb9 := hb8.ext hx6
            have r47 := r41.ext hx6
            have r48 := r42.ext hx6
            have r49 := r43.ext hx6
            have r50 := r44.ext hx6
            have hb10 := hb7.ext hx6
            have r51 := r45.ext hx6
            have r52 := r46.ext hx6
            have O2 := O1.ext hx6
            refine vl rfl rfl (xpa rfl e6 rfl) <| nl <| ?_
            have hz := bs hB2; obtain ⟨o4, hB4, hB2⟩ := hz
            refine ct (fun L w => ∃ y3 : ((List Int) × Int), ∃ v9 : Value, o4 = .inr y3 ∧ Bx w b8 54 [v9, .int .i64 y3.2] ∧ RV w v9 y3.1 ∧ L 1 = .slice a5 x1.length c5 ∧ L 2 = .int .i64 x2 ∧ L 3 = .slice (some ⟨b7, f1, none⟩) x3.length c6 ∧ L 4 = .pointer (some ⟨b5, 0, none⟩) ∧ L 9 = .slice a8 y1.length c8 ∧ L 10 = .int .i64 y2 ∧ L 12 = .pointer (some ⟨b8, 0, none⟩) ∧ Ext w6 w) ?_ ?_
            ·
              refine cnd rfl (fun h9 => ?_) (fun h9 => ?_)
              ·
                have hB4 := ifp hB4 h9
                refine rg <| vl rfl rfl (xfa l4_i1 fa26_3) <| vl rfl rfl (xld rfl ti23 ((Bx.cs hb9).at 3 rfl)) <| vl rfl rfl xmv <| ?_
                have hz := bs hB4; obtain ⟨x11, Ex11, hB4⟩ := hz
                have hz := (RV.els r7).ix Ex11; obtain ⟨b9, f2, cs7, e7, i6, i7, q11, hc5⟩ := hz
                cases e7
                obtain ⟨_, _, rfl, ⟨a9, c9, rfl, p5, q12, e8⟩, rfl⟩ := q11
                have r53 := RV.of1 p5 q12 e8
                have hc6 := hc5.ext k9
                have r54 := r53.ext k9
                refine vl rfl rfl (xixs rfl rfl Try.underlying23 ti54 i6 i7) <| vl rfl rfl (xlda rfl ti54 rfl hc6) <| sst rfl rfl rfl ti54 hb10 rfl rfl (ble rfl) fun w9 hch1 hb11 => ?_
                have k12 := Ext.chg k9 hch1 (Nat.le_trans k6.size hg3)
                have k13 := Ext.chg k10 hch1 (Nat.le_trans K0_i1.size hg3)
                have k14 := Ext.chg k11 hch1 (Nat.le_trans (Nat.le_refl _) hg3)
                have hb12 := hb6.ext k14
                have r55 := r37.ext k14
                have r56 := r38.ext k14
                have r57 := r39.ext k14
                have r58 := r40.ext k14
                have r59 := r35.ext k14
                have r60 := r36.ext k14
                have O3 := O9_i1.ext k14
                have r61 := r53.ext k12
                have hb13 : Bx w9 b8 54 [.slice a9 x11.1.length c9, .int .i64 x11.2] := hb11
                refine nl <| ?_
                cases hB4
                refine lf <| ?_
                exact ⟨_, _, rfl, hb13, r61, l1_i1, l2_i1, l3_i1, l4_i1, l9_i1, l10_i1, rfl, k14⟩
              ·
                have hB4 := ifn hB4 h9
                refine wp_seq <| rg <| vl rfl rfl xmv <| vl rfl rfl xmv <| ?_
                have hz := bs hB4; obtain ⟨x12, Ex12, hB4⟩ := hz
                have hz := ix2 r3 Ex12; obtain ⟨cs8, i8, i9, q13, hc7⟩ := hz
                obtain ⟨_, _, rfl, rfl, rfl⟩ := q13
                have hc8 := hc7.ext k9
                refine vl rfl rfl (xixs l3_i1 l10_i1 Try.underlying27 ti52 i8 i9) <| vl rfl rfl (xfa rfl fa52_0) <| vl rfl rfl (xld rfl ti4 (hc8.at 0 rfl)) <| vl rfl rfl (xnot rfl) <| vl rfl rfl xmv <| gv rfl rfl rfl rfl (gw1 rfl) rfl (fun hc => xmva rfl) <| gv rfl rfl rfl rfl (gw1 rfl) rfl (fun hc => xgeq (mv hc rfl) rfl) <| vl rfl rfl (xpa rfl rfl rfl) <| vl rfl rfl xmv <| gv rfl rfl rfl rfl (gw1 rfl) rfl (fun hc => xmva rfl) <| gv rfl rfl rfl rfl (gw1 rfl) rfl (fun hc => xfa l4_i1 fa26_2) <| gv rfl rfl rfl rfl (gw1 rfl) rfl (fun hc => xld (mv hc rfl) ti23 ((Bx.cs hb9).at 2 rfl)) <| gv rfl rfl rfl rfl (gw1 rfl) rfl (fun hc => xlen (mv hc rfl) Try.underlying23) <| gv rfl rfl rfl rfl (gw1 rfl) rfl (fun hc => xlss (mv hc rfl) (mv hc rfl)) <| vl rfl rfl (xpa rfl rfl rfl) <| nl <| cnd rfl (fun h10 => ?_) (fun h10 => ?_)
                ·
                  have hB4 := ifp hB4 h10
                  refine rg <| vl rfl rfl (xfa l4_i1 fa26_2) <| vl rfl rfl (xld rfl ti23 ((Bx.cs hb9).at 2 rfl)) <| vl rfl rfl xmv <| ?_
                  have hz := bs hB4; obtain ⟨x13, Ex13, hB4⟩ := hz
                  have hz := (RV.els r6).ix Ex13; obtain ⟨b10, f3, cs9, e9, i10, i11, q14, hc9⟩ := hz
                  cases e9
                  obtain ⟨_, _, rfl, ⟨a10, c10, rfl, p6, q15, e10⟩, rfl⟩ := q14
                  have r62 := RV.of1 p6 q15 e10
                  have hc10 := hc9.ext k9
                  have r63 := r62.ext k9
                  refine vl rfl rfl (xixs rfl rfl Try.underlying23 ti54 i10 i11) <| vl rfl rfl (xlda rfl ti54 rfl hc10) <| sst rfl rfl rfl ti54 hb10 rfl rfl (ble rfl) fun w10 hch2 hb14 => ?_
                  have k15 := Ext.chg k9 hch2 (Nat.le_trans k6.size hg3)
                  have k16 := Ext.chg k10 hch2 (Nat.le_trans K0_i1.size hg3)
                  have k17 := Ext.chg k11 hch2 (Nat.le_trans (Nat.le_refl _) hg3)
                  have hb15 := hb6.ext k17
                  have r64 := r37.ext k17
                  have r65 := r38.ext k17
                  have r66 := r39.ext k17
                  have r67 := r40.ext k17
                  have r68 := r35.ext k17
                  have r69 := r36.ext k17
                  have O4 := O9_i1.ext k17
                  have r70 := r62.ext k15
                  have hb16 : Bx w10 b8 54 [.slice a10 x13.1.length c10, .int .i64 x13.2] := hb14
                  refine nl <| ?_
                  cases hB4
                  refine lf <| ?_
                  exact ⟨_, _, rfl, hb16, r70, l1_i1, l2_i1, l3_i1, l4_i1, l9_i1, l10_i1, rfl, k17⟩
                ·
                  have hB4 := ifn hB4 h10
                  refine wp_seq <| rg <| vl rfl rfl xas <| nl <| ?_
                  cases hB4
                  have hB2 := (show some _ = some _ from hB2); cases hB2
                  have hF := (show some _ = some _ from hF); cases hF
                  exact wp_ret <| rt rfl (.tmp rfl rfl .nil) ⟨rfl, k9⟩
            rintro L w11 ⟨y3, v9, rfl, B12_j1, R12c1_j1, l1_j1, l2_j1, l3_j1, l4_j1, l9_j1, l10_j1, l12_j1, K0_j1⟩
            have k18 := k6.tr K0_j1
            have k19 := K0_i1.tr K0_j1
            have r71 := r35.ext K0_j1
            have r72 := r36.ext K0_j1
            have r73 := r37.ext K0_j1
            have r74 := r38.ext K0_j1
            have r75 := r39.ext K0_j1
            have r76 := r40.ext K0_j1
            have hb17 := hb6.ext K0_j1
            have O5 := O9_i1.ext K0_j1
            have hz := RV.sl R12c1_j1; obtain ⟨a11, c11, rfl, -, -, -⟩ := hz
            refine wp_seq <| wp_seq <| rg <| vl rfl rfl xmv <| vl rfl rfl (xfa l12_j1 fa54_0) <| vl rfl rfl (xld rfl ti22 ((Bx.cs B12_j1).at 0 rfl)) <| ?_
            have hz := bs hB2; obtain ⟨x14, Ex14, hB2⟩ := hz
            refine cl rfl rfl (xc cb50 (mc l9_j1 (mc rfl mn))) (c50 O5.rv R12c1_j1 Ex14) ?_
            rintro _ w12 ⟨rfl, hx7⟩
            have k20 := k18.tr hx7
            have k21 := k19.tr hx7
            have k22 := K0_j1.tr hx7
            have hb18 := hb17.ext hx7
            have r77 := r73.ext hx7
            have r78 := r74.ext hx7
            have r79 := r75.ext hx7
            have r80 := r76.ext hx7
            have B1 := B12_j1.ext hx7
            have R1 := R12c1_j1.ext hx7
            have r81 := r71.ext hx7
            have r82 := r72.ext hx7
            have O6 := O5.ext hx7
            refine vl rfl rfl (xnot rfl) <| nl <| cnd rfl (fun h11 => ?_) (fun h11 => ?_)
            ·
              have hB2 := ifp hB2 h11
              refine wp_seq <| rg <| vl rfl rfl xas <| nl <| ?_
              cases hB2
              have hF := (show some _ = some _ from hF); cases hF
              exact wp_ret <| rt rfl (.tmp rfl rfl .nil) ⟨rfl, k20⟩
            ·
              have hB2 := ifn hB2 h11
              refine wp_skip <| rg <| vl rfl rfl xmv <| vl rfl rfl (xfa l12_j1 fa54_1) <| vl rfl rfl (xld rfl ti3 ((Bx.cs B1).at 1 rfl)) <| sbsv (cs := [.int .i64 y3.2]) Try.underlying22 ti3 rfl (pc rfl pn) rfl rfl rfl rfl rfl fun b11 w13 hx8 hg4 hb19 => ?_
              have k23 := k20.tr hx8
              have k24 := k21.tr hx8
              have k25 := k22.tr hx8
              have hb20 := hb18.ext hx8
              have r83 := r77.ext hx8
              have r84 := r78.ext hx8
              have r85 := r79.ext hx8
              have r86 := r80.ext hx8
              have r87 := r81.ext hx8
              have r88 := r82.ext hx8
              have O7 := O6.ext hx8
              have o5 : Row (α := Int) 3 w12.heap.size w13 (.slice (some ⟨b11, 0, none⟩) 1 1) [y3.2] := Row.lit hg4 hb19 rfl (ble rfl)
              have hz := bs hB2; obtain ⟨x15, Ex15, hB2⟩ := hz
              refine sapx (l := y1) (k := ([y3.2] : List Int)) l9_j1 rfl Try.underlying22 ti3 rfl rfl O7 (RV.els o5.rv) Ex15 k24.size fun v10 w14 o6 hB11 hgr2 how2 => ?_
              have k26 := Ext.grow k23 k1.size hB11
              have k27 : Ext w2 w14 := k24.trans hB11
              have hb21 := hb2.ext k27
              have r90 := r16.ext k27
              have r91 := r17.ext k27
              have r92 := r18.ext k27
              have r93 := r19.ext k27
              have r94 := r20.ext k27
              have r95 := r21.ext k27
              have hz := RV.sl o6.rv; obtain ⟨a12, c12, rfl, -, -, -⟩ := hz
              refine vl rfl rfl xas <| nl <| rg <| vl rfl rfl xmv <| vl rfl rfl (xadd l10_j1 rfl) <| vl rfl rfl xas <| nl <| ?_
              refine lq m (Nat.lt_succ_self _) <| ?_
              exact ⟨_, _, _, hB2, rfl, o6, rfl, l1_j1, l2_j1, l3_j1, l4_j1, k27⟩
          ·
            have hB2 := ifn hB2 h8
            refine wp_exit <| ?_
            cases hB2
            refine lf <| ?_
            exact ⟨_, _, rfl, l9_i1, O9_i1, l2_i1, l4_i1, K0_i1⟩
        rintro L w15 ⟨z1, v7, rfl, l9_j2, O9_j2, l2_j2, l4_j2, K0_j2⟩
        have k28 := k1.tr K0_j2
        have r96 := r16.ext K0_j2
        have r97 := r17.ext K0_j2
        have r98 := r18.ext K0_j2
        have r99 := r19.ext K0_j2
        have hb22 := hb2.ext K0_j2
        have hz := RV.sl O9_j2.rv; obtain ⟨a13, c13, rfl, -, -, -⟩ := hz
        refine wp_seq <| wp_seq <| rg <| vl rfl rfl xmv <| vl rfl rfl (xfa l4_j2 fa26_4) <| vl rfl rfl (xld rfl ti24 ((Bx.cs hb22).at 4 rfl)) <| vl rfl rfl xmv <| ?_
        have hz := bs hF; obtain ⟨x16, Ex16, hF⟩ := hz
        have hz := (RV.els r8).ix Ex16; obtain ⟨b12, f4, cs10, e11, i12, i13, q16, hc11⟩ := hz
        cases e11
        obtain ⟨a14, c14, rfl, p7, q17, e12⟩ := q16
        have r100 := RV.of1 p7 q17 e12
        have hc12 := hc11.ext k28
        have r101 := r100.ext k28
        refine vl rfl rfl (xixs rfl l2_j2 Try.underlying24 ti22 i12 i13) <| vl rfl rfl (xld rfl ti22 (hc12.at 0 rfl)) <| ?_
        have hz := bs hF; obtain ⟨x17, Ex17, hF⟩ := hz
        refine cl rfl rfl (xc cb50 (mc l9_j2 (mc rfl mn))) (c50 O9_j2.rv r101 Ex17) ?_
        rintro _ w16 ⟨rfl, hx9⟩
        have k29 := k28.tr hx9
        have k30 := K0_j2.tr hx9
        refine vl rfl rfl (xnot rfl) <| nl <| cnd rfl (fun h12 => ?_) (fun h12 => ?_)
        ·
          have hF := ifp hF h12
          refine wp_seq <| rg <| vl rfl rfl xas <| nl <| ?_
          cases hF
          exact wp_ret <| rt rfl (.tmp rfl rfl .nil) ⟨rfl, k29⟩
        ·
          have hF := ifn hF h12
          refine wp_skip <| wp_seq <| rg <| vl rfl rfl xas <| nl <| ?_
          cases hF
          exact wp_ret <| rt rfl (.tmp rfl rfl .nil) ⟨rfl, k29⟩

set_option maxHeartbeats 4000000 in
theorem c22 {w0 : World} {v0 : Value} {x0 : (Int × (List Int) × (List ((List Int) × Int)) × (List ((List Int) × Int)) × (List (List Int)))} (r0 : RV w0 v0 x0) {F : Nat} {r : ((List Int) × Int)} (hF : ref10_Decide F x0 = some r) :
    Calls Try.prog 22 [v0].toArray w0 (Ret fun v w' => ∃ u0 : Value, v = .tuple #[u0, .int .i64 r.2] ∧ RV w' u0 r.1 ∧ Ext w0 w') := by
  unfold ref10_Decide at hF
  have hz := id r0; obtain ⟨_, rfl, ⟨_, _, rfl, rfl, ⟨_, _, rfl, ⟨a1, c1, rfl, p1, q2, e1⟩, ⟨_, _, rfl, ⟨a2, c2, rfl, p2, q3, e2⟩, ⟨_, _, rfl, ⟨a3, c3, rfl, p3, q4, e3⟩, ⟨a4, c4, rfl, p4, q5, e4⟩⟩⟩⟩⟩⟩ := hz
  have r2 := RV.of1 p1 q2 e1
  have r3 := RV.of1 p2 q3 e2
  have r4 := RV.of1 p3 q4 e3
  have r5 := RV.of1 p4 q5 e4
  refine entr (n := 38) Try.func22 rfl rfl rfl <| wp_seq <| rg <| sbx rfl rfl fun b2 w1 hx1 hg1 hb1 => ?_
  have r6 := r2.ext hx1
  have r7 := r3.ext hx1
  have r8 := r4.ext hx1
  have r9 := r5.ext hx1
  have r10 := r0.ext hx1
  refine vl rfl rfl xas <| vl rfl rfl xas <| nl <| wp_seq <| wp_seq <| rg <| vl rfl rfl (xlda rfl ti26 rfl (Bx.cs hb1)) <| ?_
  have hz := bs hF; obtain ⟨x2, Ex2, hF⟩ := hz
  refine cl rfl rfl (xc cb29 (mc rfl mn)) (c29 (show RV (α := (Int × (List Int) × (List ((List Int) × Int)) × (List ((List Int) × Int)) × (List (List Int)))) _ (.agg [.int .i64 x0.1, .slice a1 x0.2.1.length c1, .slice a2 x0.2.2.1.length c2, .slice a3 x0.2.2.2.1.length c3, .slice a4 x0.2.2.2.2.length c4].toArray) (x0.1, x0.2.1, x0.2.2.1, x0.2.2.2.1, x0.2.2.2.2) from ⟨_, rfl, ⟨[.int .i64 x0.1], [.slice a1 x0.2.1.length c1] ++ ([.slice a2 x0.2.2.1.length c2] ++ ([.slice a3 x0.2.2.2.1.length c3] ++ [.slice a4 x0.2.2.2.2.length c4])), rfl, rfl, ⟨[.slice a1 x0.2.1.length c1], [.slice a2 x0.2.2.1.length c2] ++ ([.slice a3 x0.2.2.2.1.length c3] ++ [.slice a4 x0.2.2.2.2.length c4]), rfl, r6.rep1, ⟨[.slice a2 x0.2.2.1.length c2], [.slice a3 x0.2.2.2.1.length c3] ++ [.slice a4 x0.2.2.2.2.length c4], rfl, r7.rep1, ⟨[.slice a3 x0.2.2.2.1.length c3], [.slice a4 x0.2.2.2.2.length c4], rfl, r8.rep1, r9.rep1⟩⟩⟩⟩⟩) Ex2) ?_
  rintro _ w2 ⟨rfl, hx2⟩
  have k1 := hx1.tr hx2
  have hb2 := hb1.ext hx2
  have r11 := r6.ext hx2
  have r12 := r7.ext hx2
  have r13 := r8.ext hx2
  have r14 := r9.ext hx2
  refine vl rfl rfl (xneq rfl rfl) <| nl <| cnd rfl (fun h2 => ?_) (fun h2 => ?_)
  ·
    have hF := ifp hF h2
    refine wp_seq <| rg <| vl rfl rfl (xlda rfl ti26 rfl (Bx.cs hb2)) <| ?_
    have hz := bs hF; obtain ⟨x3, Ex3, hF⟩ := hz
    refine cl rfl rfl (xc cb29 (mc rfl mn)) (c29 (show RV (α := (Int × (List Int) × (List ((List Int) × Int)) × (List ((List Int) × Int)) × (List (List Int)))) _ (.agg [.int .i64 x0.1, .slice a1 x0.2.1.length c1, .slice a2 x0.2.2.1.length c2, .slice a3 x0.2.2.2.1.length c3, .slice a4 x0.2.2.2.2.length c4].toArray) (x0.1, x0.2.1, x0.2.2.1, x0.2.2.2.1, x0.2.2.2.2) from ⟨_, rfl, ⟨[.int .i64 x0.1], [.slice a1 x0.2.1.length c1] ++ ([.slice a2 x0.2.2.1.length c2] ++ ([.slice a3 x0.2.2.2.1.length c3] ++ [.slice a4 x0.2.2.2.2.length c4])), rfl, rfl, ⟨[.slice a1 x0.2.1.length c1], [.slice a2 x0.2.2.1.length c2] ++ ([.slice a3 x0.2.2.2.1.length c3] ++ [.slice a4 x0.2.2.2.2.length c4]), rfl, r11.rep1, ⟨[.slice a2 x0.2.2.1.length c2], [.slice a3 x0.2.2.2.1.length c3] ++ [.slice a4 x0.2.2.2.2.length c4], rfl, r12.rep1, ⟨[.slice a3 x0.2.2.2.1.length c3], [.slice a4 x0.2.2.2.2.length c4], rfl, r13.rep1, r14.rep1⟩⟩⟩⟩⟩) Ex3) ?_
    rintro _ w3 ⟨rfl, hx3⟩
    have k2 := k1.tr hx3
    refine vl rfl rfl xas <| vl rfl rfl xas <| nl <| ?_
    cases hF
    exact wp_ret <| rt rfl (.tmp rfl rfl (.tmp rfl rfl .nil)) ⟨_, rfl, (RVo.nil (Nat.zero_le _)), k2⟩
  ·
    have hF := ifn hF h2
    refine wp_skip <| wp_seq <| rg <| vl rfl rfl xas <| vl rfl rfl xas <| nl <| wp_seq <| wp_seq <| rg <| vl rfl rfl xas <| nl <| ?_
    have o1 : Row (α := Int) 3 w2.heap.size w2 (.slice none 0 0) [] := Row.nil
    have o2 : Row (α := Int) 3 w2.heap.size w2 (.slice none 0 0) [] := Row.nil
    have hz := bs hF; obtain ⟨z1, hB1, hF⟩ := hz
    refine ct (fun L w => ∃ v4 : Value, L 5 = v4 ∧ Row 3 w2.heap.size w v4 z1 ∧ Ext w2 w) ?_ ?_
    ·
      refine wp_block <| lp (I := fun m L w => ∃ y1 : (List Int), ∃ y2 : (List Int), ∃ y3 : Int, ∃ v2 v3 : Value, ref10_Decide_l1 F x0 m y1 y2 y3  = some z1 ∧ L 4 = v2 ∧ Row 3 w2.heap.size w v2 y1 ∧ L 5 = v3 ∧ Row 3 w2.heap.size w v3 y2 ∧ L 6 = .int .i64 y3 ∧ Apart (v2) (v3) ∧ L 1 = .pointer (some ⟨b2, 0, none⟩) ∧ Ext w2 w) F ⟨_, _, _, _, _, hB1, rfl, o1, rfl, o2, rfl, (Apart.old o1 o2), rfl, (Ext.refl _)⟩ ?_
      rintro m L w4 ⟨y1, y2, y3, v2, v3, hB1, l4_i1, O4_i1, l5_i1, O5_i1, l6_i1, X0_i1, l1_i1, K0_i1⟩
      rcases m with _ | m
      · rw [ref10_Decide_l1] at hB1; cases hB1
      rw [ref10_Decide_l1] at hB1
      have k3 := k1.tr K0_i1
      have r15 := r11.ext K0_i1
      have r16 := r12.ext K0_i1
      have r17 := r13.ext K0_i1
      have r18 := r14.ext K0_i1
      have hb3 := hb2.ext K0_i1
      have hz := RV.sl O4_i1.rv; obtain ⟨a5, c5, rfl, -, -, -⟩ := hz
      have hz := RV.sl O5_i1.rv; obtain ⟨a6, c6, rfl, -, -, -⟩ := hz
      refine wp_seq <| wp_seq <| rg <| vl rfl rfl xmv <| vl rfl rfl (xfa l1_i1 fa26_3) <| vl rfl rfl (xld rfl ti23 ((Bx.cs hb3).at 3 rfl)) <| vl rfl rfl (xlen rfl Try.underlying23) <| vl rfl rfl (xlss l6_i1 rfl) <| nl <| cnd rfl (fun h3 => ?_) (fun h3 => ?_)
      ·
        have hB1 := ifp hB1 h3
        refine wp_skip <| wp_seq <| wp_block <| wp_seq <| rg <| sbsv (cs := []) Try.underlying22 ti3 rfl pn rfl rfl rfl rfl rfl fun b3 w5 hx4 hg2 hb4 => ?_
        have k4 := k3.tr hx4
        have k5 := K0_i1.tr hx4
        have hb5 := hb3.ext hx4
        have r19 := r15.ext hx4
        have r20 := r16.ext hx4
        have r21 := r17.ext hx4
        have r22 := r18.ext hx4
        have O1 := O4_i1.ext hx4
        have O2 := O5_i1.ext hx4
        have o4 : Row (α := Int) 3 w4.heap.size w5 (.slice (some ⟨b3, 0, none⟩) 0 0) [] := Row.lit hg2 hb4 rfl (ble rfl)
        refine vl rfl rfl xmv <| ?_
        have hz := bs hB1; obtain ⟨x4, Ex4, hB1⟩ := hz
        refine sapx (l := ([] : List Int)) (k := y1) rfl l4_i1 Try.underlying22 ti3 rfl rfl o4 (RV.els O1.rv) Ex4 hx4.size fun v5 w6 o5 hB3 hgr1 how1 => ?_
        have k6 := Ext.grow k4 k3.size hB3
        have k7 := Ext.grow k5 K0_i1.size hB3
        have k8 : Ext w4 w6 := hx4.trans hB3
        have X1 := Apart.app how1 (Apart.symm (Apart.old O4_i1 o4)) (Row.own_lt O1)
        have X2 := Apart.app how1 (Apart.symm (Apart.old O5_i1 o4)) (Row.own_lt O2)
        have hb6 := hb3.ext k8
        have r24 := r15.ext k8
        have r25 := r16.ext k8
        have r26 := r17.ext k8
        have r27 := r18.ext k8
        have O3 := O4_i1.ext k8
        have O4 := O5_i1.ext k8
        have hz := RV.sl o5.rv; obtain ⟨a7, c7, rfl, -, -, -⟩ := hz
        refine vl rfl rfl xmv <| sbsv (cs := [.int .i64 y3]) Try.underlying22 ti3 rfl (pc l6_i1 pn) rfl rfl rfl rfl rfl fun b4 w7 hx5 hg3 hb7 => ?_
        have k9 := k6.tr hx5
        have k10 := k7.tr hx5
        have k11 := k8.tr hx5
        have hb8 := hb6.ext hx5
        have r28 := r24.ext hx5
        have r29 := r25.ext hx5
        have r30 := r26.ext hx5
        have r31 := r27.ext hx5
        have O5 := O3.ext hx5
        have O6 := O4.ext hx5
        have o6 := o5.ext hx5
        have o7 : Row (α := Int) 3 w6.heap.size w7 (.slice (some ⟨b4, 0, none⟩) 1 1) [y3] := Row.lit hg3 hb7 rfl (ble rfl)
        have hz := bs hB1; obtain ⟨x5, Ex5, hB1⟩ := hz
        refine sapx (l := x4) (k := ([y3] : List Int)) rfl rfl Try.underlying22 ti3 rfl rfl o6 (RV.els o7.rv) Ex5 k11.size fun v6 w8 o8 hB4 hgr2 how2 => ?_
        have k12 := Ext.grow k9 k3.size hB4
        have k13 := Ext.grow k10 K0_i1.size hB4
        have k14 : Ext w4 w8 := k11.trans hB4
        have X3 := Apart.app how2 X1 (Row.own_lt O5)
        have X4 := Apart.app how2 X2 (Row.own_lt O6)
        have hb9 := hb3.ext k14
        have r33 := r15.ext k14
        have r34 := r16.ext k14
        have r35 := r17.ext k14
        have r36 := r18.ext k14
        have O7 := O4_i1.ext k14
        have O8 := O5_i1.ext k14
        have hz := RV.sl o8.rv; obtain ⟨a8, c8, rfl, -, -, -⟩ := hz
        refine vl rfl rfl xas <| nl <| wp_seq <| rg <| vl rfl rfl (xlda l1_i1 ti26 rfl (Bx.cs hb9)) <| vl rfl rfl xmv <| ?_
        have hz := bs hB1; obtain ⟨x6, Ex6, hB1⟩ := hz
        refine cl rfl rfl (xc cb20 (mc rfl (mc rfl mn))) (c20 (show RV (α := (Int × (List Int) × (List ((List Int) × Int)) × (List ((List Int) × Int)) × (List (List Int)))) _ (.agg [.int .i64 x0.1, .slice a1 x0.2.1.length c1, .slice a2 x0.2.2.1.length c2, .slice a3 x0.2.2.2.1.length c3, .slice a4 x0.2.2.2.2.length c4].toArray) (x0.1, x0.2.1, x0.2.2.1, x0.2.2.2.1, x0.2.2.2.2) from ⟨_, rfl, ⟨[.int .i64 x0.1], [.slice a1 x0.2.1.length c1] ++ ([.slice a2 x0.2.2.1.length c2] ++ ([.slice a3 x0.2.2.2.1.length c3] ++ [.slice a4 x0.2.2.2.2.length c4])), rfl, rfl, ⟨[.slice a1 x0.2.1.length c1], [.slice a2 x0.2.2.1.length c2] ++ ([.slice a3 x0.2.2.2.1.length c3] ++ [.slice a4 x0.2.2.2.2.length c4]), rfl, r33.rep1, ⟨[.slice a2 x0.2.2.1.length c2], [.slice a3 x0.2.2.2.1.length c3] ++ [.slice a4 x0.2.2.2.2.length c4], rfl, r34.rep1, ⟨[.slice a3 x0.2.2.2.1.length c3], [.slice a4 x0.2.2.2.2.length c4], rfl, r35.rep1, r36.rep1⟩⟩⟩⟩⟩) o8.rv Ex6) ?_
        rintro _ w9 ⟨rfl, hx6⟩
        have k15 := k12.tr hx6
        have k16 := k13.tr hx6
        have k17 := k14.tr hx6
        have hb10 := hb9.ext hx6
        have r37 := r33.ext hx6
        have r38 := r34.ext hx6
        have r39 := r35.ext hx6
        have r40 := r36.ext hx6
        have O9 := O7.ext hx6
        have O10 := O8.ext hx6
        have o9 := o8.ext hx6
        refine vl rfl rfl xas <| nl <| wp_seq <| wp_seq <| rg <| vl rfl rfl xmv <| vl rfl rfl (xlss rfl rfl) <| nl <| ?_
        have hz := bs hB1; obtain ⟨⟨y4, y5⟩, hB5, hB1⟩ := hz
        refine ct (fun L w => ∃ v7 v8 : Value, L 4 = v7 ∧ Row 3 w2.heap.size w v7 y4 ∧ L 5 = v8 ∧ Row 3 w2.heap.size w v8 y5 ∧ Apart (v7) (v8) ∧ L 1 = .pointer (some ⟨b2, 0, none⟩) ∧ L 6 = .int .i64 y3 ∧ L 8 = .int .i64 x6 ∧ Ext w2 w) ?_ ?_
        ·
          refine cnd rfl (fun h4 => ?_) (fun h4 => ?_)
          ·
            have hB5 := ifp hB5 h4
            refine rg <| vl rfl rfl xmv <| vl rfl rfl xas <| nl <| ?_
            cases hB5
            refine lf <| ?_
            exact ⟨_, _, rfl, (Row.bnd o9 K0_i1.size), l5_i1, O10, X4, l1_i1, l6_i1, rfl, k16⟩
          ·
            have hB5 := ifn hB5 h4
            refine wp_skip <| ?_
            cases hB5
            refine lf <| ?_
            exact ⟨_, _, l4_i1, O9, l5_i1, O10, X0_i1, l1_i1, l6_i1, rfl, k16⟩
        rintro L w10 ⟨v7, v8, l4_j1, O4_j1, l5_j1, O5_j1, X0_j1, l1_j1, l6_j1, l8_j1, K0_j1⟩
        have k18 := k1.tr K0_j1
        have r41 := r11.ext K0_j1
        have r42 := r12.ext K0_j1
        have r43 := r13.ext K0_j1
        have r44 := r14.ext K0_j1
        have hb11 := hb2.ext K0_j1
        have hz := RV.sl O4_j1.rv; obtain ⟨a9, c9, rfl, -, -, -⟩ := hz
        have hz := RV.sl O5_j1.rv; obtain ⟨a10, c10, rfl, -, -, -⟩ := hz
        refine rg <| vl rfl rfl xmv <| vl rfl rfl xmv <| sbsv (cs := [.int .i64 x6]) Try.underlying22 ti3 rfl (pc l8_j1 pn) rfl rfl rfl rfl rfl fun b5 w11 hx7 hg4 hb12 => ?_
        have k19 := k18.tr hx7
        have k20 := K0_j1.tr hx7
        have hb13 := hb11.ext hx7
        have r45 := r41.ext hx7
        have r46 := r42.ext hx7
        have r47 := r43.ext hx7
        have r48 := r44.ext hx7
        have O11 := O4_j1.ext hx7
        have O12 := O5_j1.ext hx7
        have o10 : Row (α := Int) 3 w10.heap.size w11 (.slice (some ⟨b5, 0, none⟩) 1 1) [x6] := Row.lit hg4 hb12 rfl (ble rfl)
        have hz := bs hB1; obtain ⟨x7, Ex7, hB1⟩ := hz
        refine sapx (l := y5) (k := ([x6] : List Int)) l5_j1 rfl Try.underlying22 ti3 rfl rfl O12 (RV.els o10.rv) Ex7 k20.size fun v9 w12 o11 hB8 hgr3 how3 => ?_
        have k21 := Ext.grow k19 k1.size hB8
        have k22 : Ext w2 w12 := k20.trans hB8
        have X5 := Apart.app how3 (Apart.symm X0_j1) (Row.own_lt O11)
        have hb14 := hb2.ext k22
        have r50 := r11.ext k22
        have r51 := r12.ext k22
        have r52 := r13.ext k22
        have r53 := r14.ext k22
        have o12 := Row.gra O11 hgr3 (Apart.symm X0_j1)
        have hz := RV.sl o11.rv; obtain ⟨a11, c11, rfl, -, -, -⟩ := hz
        refine vl rfl rfl xas <| nl <| rg <| vl rfl rfl xmv <| vl rfl rfl (xadd l6_j1 rfl) <| vl rfl rfl xas <| nl <| ?_
        refine lq m (Nat.lt_succ_self _) <| ?_
        exact ⟨_, _, _, _, _, hB1, l4_j1, o12, rfl, o11, rfl, (Apart.symm X5), l1_j1, k22⟩
      ·
        have hB1 := ifn hB1 h3
        refine wp_exit <| ?_
        cases hB1
        refine lf <| ?_
        exact ⟨_, l5_i1, O5_i1, K0_i1⟩
    rintro L w13 ⟨v4, l5_j2, O5_j2, K0_j2⟩
    have k23 := k1.tr K0_j2
    have hz := RV.sl O5_j2.rv; obtain ⟨a12, c12, rfl, -, -, -⟩ := hz
    refine wp_seq <| rg <| vl rfl rfl xmv <| vl rfl rfl xas <| vl rfl rfl xas <| nl <| ?_
    cases hF
    exact wp_ret <| rt rfl (.tmp l5_j2 rfl (.tmp rfl rfl .nil)) ⟨_, rfl, O5_j2.rv, k23⟩
end Go.Proofs.Ytdimoehnkagghaa
