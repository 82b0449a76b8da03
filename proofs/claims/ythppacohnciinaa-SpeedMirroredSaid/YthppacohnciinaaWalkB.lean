/-
  Each function of the program returns what its pure function computes, and leaves all memory that was there as it was. Condition: the pure function computes something.
-/
import Derived.Test.YthppacohnciinaaFacts
import Derived.Test.YthppacohnciinaaPureB
import Derived.Test.YthppacohnciinaaManA
import Derived.Test.YthppacohnciinaaWalkA
namespace Go.Proofs.Ythppacohnciinaa
open Go Go.Md Go.RowKit
attribute [local irreducible] Go.wpList Go.Code.wp Go.Calls Go.Md.Rnd Go.Md.Mt Go.Md.MtM Go.Md.RndM Go.Code.wpIn

set_option maxHeartbeats 4000000 in
theorem c67 {w0 : World} {v0 : Value} {x0 : (Int × (List (Int × Int × Int)))} (r0 : RV w0 v0 x0) {F : Nat} {r : (Ob ((Int × (List (Int × Int × Int))) × (List (Int × Int × Int))))} (hF : speed_newNet F x0 = some r) :
    Calls Try.prog 67 [v0].toArray w0 (Ret fun v w' => ∃ u0 : Value, v = u0 ∧ RV w' u0 r ∧ Ext w0 w') := by
  unfold speed_newNet at hF
  have hz := id r0; obtain ⟨_, rfl, ⟨_, _, rfl, rfl, ⟨a1, cq1, rfl, p1, q2, e1⟩⟩⟩ := hz
  have r2 := RV.of1 p1 q2 e1
  refine entr (n := 36) Try.func67 rfl rfl rfl <| wp_seq <| rg <| sbx rfl rfl fun b2 w1 hx1 hg1 hb1 => ?_
  have r3 := r2.ext hx1
  have r4 := r0.ext hx1
  refine vl rfl rfl xas <| nl <| wp_seq <| wpl [] (.pure false 0 (.pure true 1 (.pure false 2 (.eff 3 (.pure true 4 (.eff 5 (.pure true 6 .fin) .stop)) .stop)))) mixed (by kernel_rfl) (fun w2 hx2 => ?_)
  have k1 := hx1.tr hx2
  have hb2 := hb1.ext hx2
  have r5 := r3.ext hx2
  refine pv rfl rfl rfl (fun _ hS => xlda rfl ti24 rfl (Bx.cs (hb2.ext (hS.resolve_left nofun)))) (.inr (Ext.refl _)) <| pv rfl rfl rfl (fun _ _ => xfa rfl fa24_1) (.inl rfl) <| pv rfl rfl rfl (fun _ hS => xld rfl ti22 ((Bx.cs (hb2.ext (hS.resolve_left nofun))).at 1 rfl)) (.inr (Ext.refl _)) <| ?_
  have hz := bs hF; obtain ⟨x2, Ex2, hF⟩ := hz
  refine pe1 rfl <| cl rfl rfl (xc cb77 (mc rfl mn)) (c77 r5 Ex2) ?_
  rintro _ w3 ⟨u1, rfl, r6, hx3⟩
  have k2 := k1.tr hx3
  have r7 := r5.ext hx3
  have hz := RV.sl r6.rv; obtain ⟨a2, cq2, rfl, -, -, -⟩ := hz
  refine nl ⟨fun _ _ => hx3, ?_⟩
  refine pv rfl rfl rfl (fun _ _ => xbdv (r := [.int .i64 x0.1, .slice a1 x0.2.length cq1, .slice a2 x2.length cq2]) ti91 sp91 (pc rfl (pc rfl pn)) rfl) (.inl rfl) <| pe1 rfl <| sbx rfl rfl fun b3 w4 hx4 hg2 hb3 => ?_
  have k3 := k2.tr hx4
  have k4 := hx3.tr hx4
  have r8 := r7.ext hx4
  have r9 := r6.ext hx4
  refine nl ⟨fun _ _ => k4, ?_⟩
  refine pv rfl rfl rfl (fun _ _ => xas) (.inl rfl) <| wp_seq <| wp_seq <| rg <| vl rfl rfl xmv <| vl rfl rfl (xnil rfl) <| vl rfl rfl (xfa rfl fa91_0) <| vl rfl rfl (xfa rfl fa24_0) <| vl rfl rfl (xld rfl ti3 ((Bx.cs hb3).at 0 rfl)) <| vl rfl rfl xmv <| nl <| ?_
  have hz := bs hF; obtain ⟨z1, hB1, hF⟩ := hz
  refine ct (fun L w => ∃ v3 : Value, Bx w b3 91 [.int .i64 z1.1.1, .slice a1 x0.2.length cq1, v3] ∧ Row 56 w2.heap.size w v3 z1.2 ∧ some b3 ≠ Value.ownBlock v3 ∧ L 3 = .pointer (some ⟨b3, 0, none⟩) ∧ Ext w2 w) ?_ ?_
  ·
    refine wp_block <| lp (I := fun m L w => ∃ y1 : Int, ∃ y2 : ((Int × (List (Int × Int × Int))) × (List (Int × Int × Int))), ∃ v2 : Value, speed_newNet_l1 F x0 m y1 y2  = some z1 ∧ L 16 = .int .i64 y1 ∧ Bx w b3 91 [.int .i64 y2.1.1, .slice a1 x0.2.length cq1, v2] ∧ Row 56 w2.heap.size w v2 y2.2 ∧ some b3 ≠ Value.ownBlock v2 ∧ L 3 = .pointer (some ⟨b3, 0, none⟩) ∧ L 15 = .int .i64 x0.1 ∧ Ext w2 w) F ⟨_, _, _, hB1, rfl, hb3, r9, (r6.ne_new hg2), rfl, rfl, k4⟩ ?_
    rintro m L w5 ⟨y1, y2, v2, hB1, l16_i1, B3_i1, O3c1_i1, N3c1_i1, l3_i1, l15_i1, K0_i1⟩
    rcases m with _ | m
    · rw [speed_newNet_l1] at hB1; cases hB1
    rw [speed_newNet_l1] at hB1
    have k5 := k1.tr K0_i1
    have r10 := r5.ext K0_i1
    have hz := RV.sl O3c1_i1.rv; obtain ⟨a3, cq3, rfl, -, -, -⟩ := hz
    refine wp_seq <| rg <| vl rfl rfl (xlss l16_i1 l15_i1) <| nl <| wp_seq <| cnd rfl (fun h2 => ?_) (fun h2 => ?_)
    ·
      have hB1 := ifp hB1 h2
      refine wp_skip <| wp_seq <| wp_block <| wp_seq <| rg <| vl rfl rfl xmv <| vl rfl rfl xas <| nl <| rg <| vl rfl rfl xmv <| vl rfl rfl xmv <| vl rfl rfl (xnil l3_i1) <| vl rfl rfl (xfa rfl fa91_1) <| vl rfl rfl (xld rfl ti22 ((Bx.cs B3_i1).at 2 rfl)) <| vl rfl rfl xmv <| vl rfl rfl (xadd l16_i1 rfl) <| vl rfl rfl (xbdv (r := [.int .i64 0, .int .i64 (w64 (y1 + 1)), .int .i64 100000]) ti56 sp56 (pc rfl (pc rfl pn)) rfl) <| vl rfl rfl xmv <| vl rfl rfl (xadd l16_i1 rfl) <| vl rfl rfl (xbdv (r := [.int .i64 (w64 (y1 + 1)), .int .i64 0, .int .i64 0]) ti56 sp56 (pc rfl pn) rfl) <| sbsv (cs := [.int .i64 0, .int .i64 (w64 (y1 + 1)), .int .i64 100000, .int .i64 (w64 (y1 + 1)), .int .i64 0, .int .i64 0]) Try.underlying22 ti56 rfl (pc rfl (pc rfl pn)) rfl rfl rfl rfl rfl fun b4 w6 hx5 hg3 hb4 => ?_
      have k6 := k5.tr hx5
      have k7 := K0_i1.tr hx5
      have B1 := B3_i1.ext hx5
      have r11 := r10.ext hx5
      have O1 := O3c1_i1.ext hx5
      have o2 : Row (α := (Int × Int × Int)) 56 w5.heap.size w6 (.slice (some ⟨b4, 0, none⟩) 2 2) [(0, w64 (y1 + 1), 100000), (w64 (y1 + 1), 0, 0)] := Row.lit hg3 hb4 rfl (ble rfl)
      have hz := bs hB1; obtain ⟨x3, Ex3, hB1⟩ := hz
      refine sapx (l := y2.2) (k := ([(0, w64 (y1 + 1), 100000), (w64 (y1 + 1), 0, 0)] : List (Int × Int × Int))) rfl rfl Try.underlying22 ti56 rfl rfl O1 (RV.els o2.rv) Ex3 k7.size fun v4 w7 o3 hB3 hgr1 how1 => ?_
      have k8 := Ext.grow k6 k1.size hB3
      have k9 : Ext w2 w7 := k7.trans hB3
      have ne1 := ne_app how1 N3c1_i1 B1.lt
      have hb5 := Bx.gr B1 hgr1 N3c1_i1
      have r13 := r5.ext k9
      have hz := RV.sl o3.rv; obtain ⟨a4, cq4, rfl, -, -, -⟩ := hz
      refine vl rfl rfl (xnil l3_i1) <| vl rfl rfl (xfa rfl fa91_1) <| sst rfl rfl rfl ti22 hb5 rfl rfl (ble rfl) fun w8 hch1 hb6 => ?_
      have k10 := Ext.chg k8 hch1 (Nat.le_trans k1.size (Nat.le_trans hx3.size hg2))
      have k11 := Ext.chg k9 hch1 (Nat.le_trans (Nat.le_refl _) (Nat.le_trans hx3.size hg2))
      have o4 := Row.chgn o3 hch1 ne1
      have r14 := r5.ext k11
      have hb7 : Bx w8 b3 91 [.int .i64 y2.1.1, .slice a1 x0.2.length cq1, .slice a4 x3.length cq4] := hb6
      refine nl <| rg <| vl rfl rfl (xadd l16_i1 rfl) <| vl rfl rfl xmv <| nl <| ?_
      refine lq m (Nat.lt_succ_self _) <| ?_
      exact ⟨_, _, _, hB1, rfl, hb7, o4, ne1, l3_i1, l15_i1, k11⟩
    ·
      have hB1 := ifn hB1 h2
      refine wp_exit <| ?_
      cases hB1
      refine lf <| ?_
      exact ⟨_, B3_i1, O3c1_i1, N3c1_i1, l3_i1, K0_i1⟩
  rintro L w9 ⟨v3, B3_j1, O3c1_j1, N3c1_j1, l3_j1, K0_j1⟩
  have k12 := k1.tr K0_j1
  have r15 := r5.ext K0_j1
  have hz := RV.sl O3c1_j1.rv; obtain ⟨a5, cq5, rfl, -, -, -⟩ := hz
  refine wp_seq <| rg <| vl rfl rfl xmv <| vl rfl rfl xas <| nl <| ?_
  have r16 : RV w9 (.pointer (some ⟨b3, 0, none⟩)) (⟨some ((z1.1.1, x0.2), z1.2)⟩ : (Ob ((Int × (List (Int × Int × Int))) × (List (Int × Int × Int))))) := obNew (Bx.cs B3_j1) rfl ⟨[.int .i64 z1.1.1] ++ [.slice a1 x0.2.length cq1], [.slice a5 z1.2.length cq5], rfl, ⟨[.int .i64 z1.1.1], [.slice a1 x0.2.length cq1], rfl, rfl, r15.rep1⟩, O3c1_j1.rv.rep1⟩
  cases hF
  exact wp_ret <| rt rfl (.tmp l3_j1 rfl .nil) ⟨_, rfl, r16, k12⟩

set_option maxHeartbeats 4000000 in
theorem c41 {w0 : World} {v0 : Value} {x0 : (Int × (List (Int × Int × Int)))} (r0 : RV w0 v0 x0) {F : Nat} {r : ((List (Int × Int × Int)) × Int)} (hF : speed_Whole F x0 = some r) :
    Calls Try.prog 41 [v0].toArray w0 (Ret fun v w' => ∃ u0 : Value, v = .tuple #[u0, .int .i64 r.2] ∧ RV w' u0 r.1 ∧ Ext w0 w') := by
  unfold speed_Whole at hF
  have hz := id r0; obtain ⟨_, rfl, ⟨_, _, rfl, rfl, ⟨a1, cq1, rfl, p1, q2, e1⟩⟩⟩ := hz
  have r2 := RV.of1 p1 q2 e1
  refine entr (n := 15) Try.func41 rfl rfl rfl <| wp_seq <| rg <| sbx rfl rfl fun b2 w1 hx1 hg1 hb1 => ?_
  have r3 := r2.ext hx1
  have r4 := r0.ext hx1
  refine vl rfl rfl xas <| vl rfl rfl xas <| nl <| wp_seq <| wp_seq <| rg <| vl rfl rfl (xlda rfl ti24 rfl (Bx.cs hb1)) <| ?_
  have hz := bs hF; obtain ⟨x2, Ex2, hF⟩ := hz
  refine cl rfl rfl (xc cb43 (mc rfl mn)) (c43 (show RV (α := (Int × (List (Int × Int × Int)))) _ (.agg [.int .i64 x0.1, .slice a1 x0.2.length cq1].toArray) (x0.1, x0.2) from ⟨_, rfl, ⟨[.int .i64 x0.1], [.slice a1 x0.2.length cq1], rfl, rfl, r3.rep1⟩⟩) Ex2) ?_
  rintro _ w2 ⟨rfl, hx2⟩
  have k1 := hx1.tr hx2
  have hb2 := hb1.ext hx2
  have r5 := r3.ext hx2
  refine vl rfl rfl xas <| nl <| wp_seq <| rg <| vl rfl rfl xmv <| vl rfl rfl (xneq rfl rfl) <| nl <| cnd rfl (fun h2 => ?_) (fun h2 => ?_)
  ·
    have hF := ifp hF h2
    refine wp_seq <| rg <| vl rfl rfl xmv <| vl rfl rfl xas <| vl rfl rfl xas <| nl <| ?_
    cases hF
    exact wp_ret <| rt rfl (.tmp rfl rfl (.tmp rfl rfl .nil)) ⟨_, rfl, (RVo.nil (Nat.zero_le _)), k1⟩
  ·
    have hF := ifn hF h2
    refine wp_skip <| wp_seq <| rg <| vl rfl rfl (xlda rfl ti24 rfl (Bx.cs hb2)) <| ?_
    have hz := bs hF; obtain ⟨x3, Ex3, hF⟩ := hz
    refine cl rfl rfl (xc cb67 (mc rfl mn)) (c67 (show RV (α := (Int × (List (Int × Int × Int)))) _ (.agg [.int .i64 x0.1, .slice a1 x0.2.length cq1].toArray) (x0.1, x0.2) from ⟨_, rfl, ⟨[.int .i64 x0.1], [.slice a1 x0.2.length cq1], rfl, rfl, r5.rep1⟩⟩) Ex3) ?_
    rintro _ w3 ⟨u1, rfl, r6, hx3⟩
    have k2 := k1.tr hx3
    have hz := obPtr r6; obtain ⟨a2, rfl⟩ := hz
    have hz := bs hF; obtain ⟨x4, Ex4, hF⟩ := hz
    have hz := obGet r6 Ex4; obtain ⟨b3, cs2, e2, q3, hc1⟩ := hz
    cases e2
    obtain ⟨_, _, rfl, ⟨_, _, rfl, rfl, ⟨a3, cq2, rfl, p2, q4, e3⟩⟩, ⟨a4, cq3, rfl, p3, q5, e4⟩⟩ := q3
    have r7 := RV.of1 p2 q4 e3
    have r8 := RV.of1 p3 q5 e4
    refine vl rfl rfl (xnil rfl) <| vl rfl rfl (xfa rfl fa91_1) <| vl rfl rfl (xld rfl ti22 (hc1.at 2 rfl)) <| vl rfl rfl xas <| vl rfl rfl xas <| nl <| ?_
    cases hF
    exact wp_ret <| rt rfl (.tmp rfl rfl (.tmp rfl rfl .nil)) ⟨_, rfl, r8, k2⟩

set_option maxHeartbeats 4000000 in
theorem c45 {w0 : World} {v0 : Value} {x0 : (Int × (List (Int × Int × Int)))} (r0 : RV w0 v0 x0) {v1 : Value} {x1 : (List Int)} (r1 : RV w0 v1 x1) {F : Nat} {r : Int} (hF : speed_CheckCircle F x0 x1 = some r) :
    Calls Try.prog 45 [v0, v1].toArray w0 (Ret fun v w' => v = .int .i64 r ∧ Ext w0 w') := by
  unfold speed_CheckCircle at hF
  have hz := id r0; obtain ⟨_, rfl, ⟨_, _, rfl, rfl, ⟨a1, cq1, rfl, p1, q3, e1⟩⟩⟩ := hz
  have r3 := RV.of1 p1 q3 e1
  have hz := r1.sl; obtain ⟨a2, cq2, rfl, -, -, -⟩ := hz
  refine entr (n := 40) Try.func45 rfl rfl rfl <| wp_seq <| rg <| sbx rfl rfl fun b3 w1 hx1 hg1 hb1 => ?_
  have r4 := r1.ext hx1
  have r5 := r3.ext hx1
  have r6 := r0.ext hx1
  refine vl rfl rfl xas <| nl <| wp_seq <| wp_seq <| rg <| vl rfl rfl (xlda rfl ti24 rfl (Bx.cs hb1)) <| ?_
  have hz := bs hF; obtain ⟨x3, Ex3, hF⟩ := hz
  refine cl rfl rfl (xc cb43 (mc rfl mn)) (c43 (show RV (α := (Int × (List (Int × Int × Int)))) _ (.agg [.int .i64 x0.1, .slice a1 x0.2.length cq1].toArray) (x0.1, x0.2) from ⟨_, rfl, ⟨[.int .i64 x0.1], [.slice a1 x0.2.length cq1], rfl, rfl, r5.rep1⟩⟩) Ex3) ?_
  rintro _ w2 ⟨rfl, hx2⟩
  have k1 := hx1.tr hx2
  have hb2 := hb1.ext hx2
  have r7 := r5.ext hx2
  have r8 := r4.ext hx2
  refine vl rfl rfl xas <| nl <| wp_seq <| rg <| vl rfl rfl xmv <| vl rfl rfl (xneq rfl rfl) <| nl <| cnd rfl (fun h3 => ?_) (fun h3 => ?_)
  ·
    have hF := ifp hF h3
    refine wp_seq <| rg <| vl rfl rfl xmv <| vl rfl rfl xas <| nl <| ?_
    cases hF
    exact wp_ret <| rt rfl (.tmp rfl rfl .nil) ⟨rfl, k1⟩
  ·
    have hF := ifn hF h3
    refine wp_skip <| wp_seq <| wp_seq <| rg <| vl rfl rfl xmv <| vl rfl rfl (xlen rfl Try.underlying36) <| sbsv (cs := [.int .i64 (x1.length : Int)]) Try.underlying36 ti3 rfl (pc rfl pn) rfl rfl rfl rfl rfl fun b4 w3 hx3 hg2 hb3 => ?_
    have k2 := k1.tr hx3
    have hb4 := hb2.ext hx3
    have r9 := r7.ext hx3
    have r10 := r8.ext hx3
    have o1 : Row (α := Int) 3 w2.heap.size w3 (.slice (some ⟨b4, 0, none⟩) 1 1) [(x1.length : Int)] := Row.lit hg2 hb3 rfl (ble rfl)
    have hz := bs hF; obtain ⟨x4, Ex4, hF⟩ := hz
    refine cl rfl rfl (xc cb53 (mc rfl (mc rfl (mc rfl mn)))) (c53 o1.rv Ex4) ?_
    rintro _ w4 ⟨rfl, hx4⟩
    have k3 := k2.tr hx4
    have k4 := hx3.tr hx4
    have hb5 := hb4.ext hx4
    have r12 := r9.ext hx4
    have r13 := r10.ext hx4
    refine vl rfl rfl (xnot rfl) <| nl <| cnd rfl (fun h4 => ?_) (fun h4 => ?_)
    ·
      have hF := ifp hF h4
      refine wp_seq <| rg <| vl rfl rfl xas <| nl <| ?_
      cases hF
      exact wp_ret <| rt rfl (.tmp rfl rfl .nil) ⟨rfl, k3⟩
    ·
      have hF := ifn hF h4
      refine wp_skip <| wp_seq <| rg <| vl rfl rfl (xlda rfl ti24 rfl (Bx.cs hb5)) <| ?_
      have hz := bs hF; obtain ⟨x5, Ex5, hF⟩ := hz
      refine cl rfl rfl (xc cb67 (mc rfl mn)) (c67 (show RV (α := (Int × (List (Int × Int × Int)))) _ (.agg [.int .i64 x0.1, .slice a1 x0.2.length cq1].toArray) (x0.1, x0.2) from ⟨_, rfl, ⟨[.int .i64 x0.1], [.slice a1 x0.2.length cq1], rfl, rfl, r12.rep1⟩⟩) Ex5) ?_
      rintro _ w5 ⟨u1, rfl, r14, hx5⟩
      have k5 := k3.tr hx5
      have k6 := k4.tr hx5
      have r15 := r13.ext hx5
      have hz := obPtr r14; obtain ⟨a3, rfl⟩ := hz
      refine vl rfl rfl xmv <| ?_
      have hz := bs hF; obtain ⟨x6, Ex6, hF⟩ := hz
      have hz := obGet r14 Ex6; obtain ⟨b5, cs3, e2, q4, hc1⟩ := hz
      cases e2
      obtain ⟨_, _, rfl, ⟨_, _, rfl, rfl, ⟨a4, cq3, rfl, p2, q5, e3⟩⟩, ⟨a5, cq4, rfl, p3, q6, e4⟩⟩ := q4
      have r16 := RV.of1 p2 q5 e3
      have r17 := RV.of1 p3 q6 e4
      have hz := bs hF; obtain ⟨x7, Ex7, hF⟩ := hz
      refine cl rfl rfl (xc cb71 (mc rfl (mc rfl mn))) (c71 (x0 := ((x6.1.1, x6.1.2), x6.2)) hc1 ⟨[.int .i64 x6.1.1] ++ [.slice a4 x6.1.2.length cq3], [.slice a5 x6.2.length cq4], rfl, ⟨[.int .i64 x6.1.1], [.slice a4 x6.1.2.length cq3], rfl, rfl, r16.rep1⟩, r17.rep1⟩ r15 Ex7) ?_
      rintro _ w6 ⟨rfl, hx6⟩
      have k7 := k5.tr hx6
      have k8 := k6.tr hx6
      refine vl rfl rfl xmv <| vl rfl rfl (xext rfl rfl) <| vl rfl rfl (xext rfl rfl) <| vl rfl rfl (xext rfl rfl) <| vl rfl rfl (xext rfl rfl) <| vl rfl rfl xas <| vl rfl rfl xas <| vl rfl rfl xas <| vl rfl rfl xas <| nl <| wp_seq <| wp_block <| wp_seq <| rg <| vl rfl rfl xmv <| vl rfl rfl (xneq rfl rfl) <| vl rfl rfl xas <| nl <| cnd rfl (fun h5 => ?_) (fun h5 => ?_)
      ·
        have hF := ifp hF h5
        refine wp_seq <| rg <| vl rfl rfl xmv <| vl rfl rfl xas <| nl <| ?_
        cases hF
        exact wp_ret <| rt rfl (.tmp rfl rfl .nil) ⟨rfl, k7⟩
      ·
        have hF := ifn hF h5
        refine wp_seq <| rg <| vl rfl rfl xmv <| vl rfl rfl xmv <| vl rfl rfl (xneq rfl rfl) <| vl rfl rfl xas <| nl <| cnd rfl (fun h6 => ?_) (fun h6 => ?_)
        ·
          have hF := ifp hF h6
          refine wp_seq <| rg <| vl rfl rfl xas <| nl <| ?_
          cases hF
          exact wp_ret <| rt rfl (.tmp rfl rfl .nil) ⟨rfl, k7⟩
        ·
          have hF := ifn hF h6
          refine wp_seq <| rg <| vl rfl rfl xmv <| vl rfl rfl (xgeq rfl rfl) <| vl rfl rfl xas <| nl <| cnd rfl (fun h7 => ?_) (fun h7 => ?_)
          ·
            have hF := ifp hF h7
            refine wp_seq <| rg <| vl rfl rfl xas <| nl <| ?_
            cases hF
            exact wp_ret <| rt rfl (.tmp rfl rfl .nil) ⟨rfl, k7⟩
          ·
            have hF := ifn hF h7
            refine wp_skip <| wp_seq <| rg <| vl rfl rfl xas <| nl <| ?_
            cases hF
            exact wp_ret <| rt rfl (.tmp rfl rfl .nil) ⟨rfl, k7⟩

set_option maxHeartbeats 4000000 in
theorem c50 {w0 : World} {v0 : Value} {x0 : (Int × (List (Int × Int × Int)))} (r0 : RV w0 v0 x0) {x1 : Int} {x2 : Int} {v3 : Value} {x3 : (List Int)} (r3 : RV w0 v3 x3) {F : Nat} {r : (Int × Int)} (hF : speed_CheckWay F x0 x1 x2 x3 = some r) :
    Calls Try.prog 50 [v0, .int .i64 x1, .int .i64 x2, v3].toArray w0 (Ret fun v w' => v = .tuple #[.int .i64 r.1, .int .i64 r.2] ∧ Ext w0 w') := by
  unfold speed_CheckWay at hF
  have hz := id r0; obtain ⟨_, rfl, ⟨_, _, rfl, rfl, ⟨a1, cq1, rfl, p1, q5, e1⟩⟩⟩ := hz
  have r5 := RV.of1 p1 q5 e1
  have hz := r3.sl; obtain ⟨a2, cq2, rfl, -, -, -⟩ := hz
  refine entr (n := 68) Try.func50 rfl rfl rfl <| wp_seq <| rg <| sbx rfl rfl fun b5 w1 hx1 hg1 hb1 => ?_
  have r6 := r3.ext hx1
  have r7 := r5.ext hx1
  have r8 := r0.ext hx1
  refine vl rfl rfl xas <| vl rfl rfl xas <| nl <| wp_seq <| rg <| vl rfl rfl (xlda rfl ti24 rfl (Bx.cs hb1)) <| ?_
  have hz := bs hF; obtain ⟨x5, Ex5, hF⟩ := hz
  refine cl rfl rfl (xc cb43 (mc rfl mn)) (c43 (show RV (α := (Int × (List (Int × Int × Int)))) _ (.agg [.int .i64 x0.1, .slice a1 x0.2.length cq1].toArray) (x0.1, x0.2) from ⟨_, rfl, ⟨[.int .i64 x0.1], [.slice a1 x0.2.length cq1], rfl, rfl, r7.rep1⟩⟩) Ex5) ?_
  rintro _ w2 ⟨rfl, hx2⟩
  have k1 := hx1.tr hx2
  have hb2 := hb1.ext hx2
  have r9 := r7.ext hx2
  have r10 := r6.ext hx2
  refine vl rfl rfl xas <| nl <| wp_seq <| wp_block <| wp_seq <| rg <| vl rfl rfl xmv <| vl rfl rfl (xneq rfl rfl) <| vl rfl rfl xas <| nl <| cnd rfl (fun h5 => ?_) (fun h5 => ?_)
  ·
    have hF := ifp hF h5
    refine wp_seq <| rg <| vl rfl rfl xmv <| vl rfl rfl xas <| vl rfl rfl xas <| nl <| ?_
    cases hF
    exact wp_ret <| rt rfl (.tmp rfl rfl (.tmp rfl rfl .nil)) ⟨rfl, k1⟩
  ·
    have hF := ifn hF h5
    refine wp_seq <| rg <| vl rfl rfl (xfa rfl fa24_0) <| vl rfl rfl (xld rfl ti3 ((Bx.cs hb2).at 0 rfl)) <| vl rfl rfl xmv <| vl rfl rfl xmv <| sbsv (cs := [.int .i64 x1, .int .i64 x2]) Try.underlying36 ti3 rfl (pc rfl (pc rfl pn)) rfl rfl rfl rfl rfl fun b6 w3 hx3 hg2 hb3 => ?_
    have k2 := k1.tr hx3
    have hb4 := hb2.ext hx3
    have r11 := r9.ext hx3
    have r12 := r10.ext hx3
    have o1 : Row (α := Int) 3 w2.heap.size w3 (.slice (some ⟨b6, 0, none⟩) 2 2) [x1, x2] := Row.lit hg2 hb3 rfl (ble rfl)
    have hz := bs hF; obtain ⟨x6, Ex6, hF⟩ := hz
    refine cl rfl rfl (xc cb53 (mc rfl (mc rfl (mc rfl mn)))) (c53 o1.rv Ex6) ?_
    rintro _ w4 ⟨rfl, hx4⟩
    have k3 := k2.tr hx4
    have k4 := hx3.tr hx4
    have hb5 := hb4.ext hx4
    have r14 := r11.ext hx4
    have r15 := r12.ext hx4
    refine vl rfl rfl (xnot rfl) <| vl rfl rfl xas <| nl <| cnd rfl (fun h6 => ?_) (fun h6 => ?_)
    ·
      have hF := ifp hF h6
      refine wp_seq <| rg <| vl rfl rfl xas <| vl rfl rfl xas <| nl <| ?_
      cases hF
      exact wp_ret <| rt rfl (.tmp rfl rfl (.tmp rfl rfl .nil)) ⟨rfl, k3⟩
    ·
      have hF := ifn hF h6
      refine wp_seq <| rg <| vl rfl rfl xmv <| vl rfl rfl (xlen rfl Try.underlying36) <| vl rfl rfl (xgtr rfl rfl) <| vl rfl rfl xas <| nl <| cnd rfl (fun h7 => ?_) (fun h7 => ?_)
      ·
        have hF := ifp hF h7
        refine wp_seq <| rg <| vl rfl rfl xas <| vl rfl rfl xas <| nl <| ?_
        cases hF
        exact wp_ret <| rt rfl (.tmp rfl rfl (.tmp rfl rfl .nil)) ⟨rfl, k3⟩
      ·
        have hF := ifn hF h7
        refine wp_skip <| wp_seq <| rg <| vl rfl rfl (xlda rfl ti24 rfl (Bx.cs hb5)) <| ?_
        have hz := bs hF; obtain ⟨x7, Ex7, hF⟩ := hz
        refine cl rfl rfl (xc cb67 (mc rfl mn)) (c67 (show RV (α := (Int × (List (Int × Int × Int)))) _ (.agg [.int .i64 x0.1, .slice a1 x0.2.length cq1].toArray) (x0.1, x0.2) from ⟨_, rfl, ⟨[.int .i64 x0.1], [.slice a1 x0.2.length cq1], rfl, rfl, r14.rep1⟩⟩) Ex7) ?_
        rintro _ w5 ⟨u1, rfl, r16, hx5⟩
        have k5 := k3.tr hx5
        have k6 := k4.tr hx5
        have r17 := r15.ext hx5
        have hz := obPtr r16; obtain ⟨a3, rfl⟩ := hz
        refine vl rfl rfl xmv <| ?_
        have hz := bs hF; obtain ⟨x8, Ex8, hF⟩ := hz
        have hz := obGet r16 Ex8; obtain ⟨b7, cs5, e2, q6, hc1⟩ := hz
        cases e2
        obtain ⟨_, _, rfl, ⟨_, _, rfl, rfl, ⟨a4, cq3, rfl, p2, q7, e3⟩⟩, ⟨a5, cq4, rfl, p3, q8, e4⟩⟩ := q6
        have r18 := RV.of1 p2 q7 e3
        have r19 := RV.of1 p3 q8 e4
        have hz := bs hF; obtain ⟨x9, Ex9, hF⟩ := hz
        refine cl rfl rfl (xc cb71 (mc rfl (mc rfl mn))) (c71 (x0 := ((x8.1.1, x8.1.2), x8.2)) hc1 ⟨[.int .i64 x8.1.1] ++ [.slice a4 x8.1.2.length cq3], [.slice a5 x8.2.length cq4], rfl, ⟨[.int .i64 x8.1.1], [.slice a4 x8.1.2.length cq3], rfl, rfl, r18.rep1⟩, r19.rep1⟩ r17 Ex9) ?_
        rintro _ w6 ⟨rfl, hx6⟩
        have k7 := k5.tr hx6
        have k8 := k6.tr hx6
        have r20 := r17.ext hx6
        refine vl rfl rfl xmv <| vl rfl rfl (xext rfl rfl) <| vl rfl rfl (xext rfl rfl) <| vl rfl rfl (xext rfl rfl) <| vl rfl rfl (xext rfl rfl) <| vl rfl rfl xas <| vl rfl rfl xas <| vl rfl rfl xas <| vl rfl rfl xas <| nl <| wp_seq <| wp_block <| wp_seq <| rg <| vl rfl rfl xmv <| vl rfl rfl (xneq rfl rfl) <| vl rfl rfl xas <| nl <| cnd rfl (fun h8 => ?_) (fun h8 => ?_)
        ·
          have hF := ifp hF h8
          refine wp_seq <| rg <| vl rfl rfl xmv <| vl rfl rfl xas <| vl rfl rfl xas <| nl <| ?_
          cases hF
          exact wp_ret <| rt rfl (.tmp rfl rfl (.tmp rfl rfl .nil)) ⟨rfl, k7⟩
        ·
          have hF := ifn hF h8
          refine wp_seq <| wp_seq <| rg <| vl rfl rfl xmv <| vl rfl rfl (xlen rfl Try.underlying36) <| vl rfl rfl (xeql rfl rfl) <| vl rfl rfl xmv <| gv rfl rfl rfl rfl (gw1 rfl) rfl (fun hc => xmva rfl) <| gv rfl rfl rfl rfl (gw1 rfl) rfl (fun hc => xmva rfl) <| gv rfl rfl rfl rfl (gw1 rfl) rfl (fun hc => xneq (mv hc rfl) (mv hc rfl)) <| vl rfl rfl (xpa rfl rfl rfl) <| vl rfl rfl xas <| nl <| ?_
          have hz := bs hF; obtain ⟨y1, hB1, hF⟩ := hz
          refine ct (fun L w => L 45 = .bool y1 ∧ L 13 = .int .i64 x9.2.2.1 ∧ Ext w6 w) ?_ ?_
          ·
            refine cnd rfl (fun h9 => ?_) (fun h9 => ?_)
            ·
              have hB1 := ifp hB1 h9
              refine wp_skip <| ?_
              cases hB1
              refine lf <| ?_
              exact ⟨rfl, rfl, (Ext.refl _)⟩
            ·
              have hB1 := ifn hB1 h9
              refine rg <| vl rfl rfl xmv <| vl rfl rfl (xlen rfl Try.underlying36) <| vl rfl rfl (xgtr rfl rfl) <| vl rfl rfl xmv <| gv rfl rfl rfl rfl (gw1 rfl) rfl (fun hc => xmva rfl) <| gv rfl rfl rfl rfl (gw1 rfl) rfl (fun hc => xmva rfl) <| gv rfl rfl rfl rfl (gw1 rfl) rfl (fun hc => xneq (mv hc rfl) (mv hc rfl)) <| gv rfl rfl rfl rfl (gw1 rfl) rfl (fun hc => xmva (mv hc rfl)) <| gv rfl rfl rfl rfl (gn0 rfl) rfl (fun hc => xmva rfl) <| gv rfl rfl rfl rfl (gn0 rfl) rfl (fun hc => xmva rfl) <| gv rfl rfl rfl rfl (gn0 rfl) rfl (fun hc => xneq (mv hc rfl) (mv hc rfl)) <| gv rfl rfl rfl rfl (gw1 rfl) rfl (fun hc => xpo (mv hc rfl) (mvn hc rfl) rfl) <| vl rfl rfl (xpa rfl rfl rfl) <| vl rfl rfl xas <| nl <| ?_
              cases hB1
              refine lf <| ?_
              exact ⟨rfl, rfl, (Ext.refl _)⟩
          rintro L w7 ⟨l45_j1, l13_j1, K0_j1⟩
          have k9 := k7.tr K0_j1
          have k10 := k8.tr K0_j1
          refine cnd l45_j1 (fun h10 => ?_) (fun h10 => ?_)
          ·
            have hF := ifp hF h10
            refine wp_seq <| rg <| vl rfl rfl xas <| vl rfl rfl xas <| nl <| ?_
            cases hF
            exact wp_ret <| rt rfl (.tmp rfl rfl (.tmp rfl rfl .nil)) ⟨rfl, k9⟩
          ·
            have hF := ifn hF h10
            refine wp_skip <| wp_seq <| rg <| vl rfl rfl xmv <| vl rfl rfl xas <| vl rfl rfl xas <| nl <| ?_
            cases hF
            exact wp_ret <| rt rfl (.tmp l13_j1 rfl (.tmp rfl rfl .nil)) ⟨rfl, k9⟩

set_option maxHeartbeats 4000000 in
theorem c47 {w0 : World}  {r : (Int × (List (Int × Int × Int)))} (hF : law01_Sheet = some r) :
    Calls Try.prog 47 [].toArray w0 (Ret fun v w' => ∃ u0 : Value, v = .agg [.int .i64 r.1, u0].toArray ∧ Row 56 w0.heap.size w' u0 r.2 ∧ Ext w0 w') := by
  unfold law01_Sheet at hF
  refine entr (n := 9) Try.func47 rfl rfl rfl <| wp_seq <| rg <| sal ti24 fun b1 w1 hx1 hg1 hb1 => ?_
  refine nl <| wp_seq <| rg <| ?_
  have hz := bs hF; obtain ⟨x1, Ex1, hF⟩ := hz
  refine cl rfl rfl (xc cb39 (mc rfl (mc rfl (mc rfl mn)))) (c39 Ex1) ?_
  rintro _ w2 ⟨u1, rfl, r1, hx2⟩
  have k1 := hx1.tr hx2
  have hb2 := hb1.ext hx2
  have hz := id r1; obtain ⟨_, rfl, ⟨_, _, rfl, rfl, ⟨_, _, rfl, rfl, rfl⟩⟩⟩ := hz
  have hz := bs hF; obtain ⟨x2, Ex2, hF⟩ := hz
  refine cl rfl rfl (xc cb39 (mc rfl (mc rfl (mc rfl mn)))) (c39 Ex2) ?_
  rintro _ w3 ⟨u2, rfl, r2, hx3⟩
  have k2 := k1.tr hx3
  have hb3 := hb2.ext hx3
  have r3 := r1.ext hx3
  have hz := id r2; obtain ⟨_, rfl, ⟨_, _, rfl, rfl, ⟨_, _, rfl, rfl, rfl⟩⟩⟩ := hz
  have hz := bs hF; obtain ⟨x3, Ex3, hF⟩ := hz
  refine cl rfl rfl (xc cb39 (mc rfl (mc rfl (mc rfl mn)))) (c39 Ex3) ?_
  rintro _ w4 ⟨u3, rfl, r4, hx4⟩
  have k3 := k2.tr hx4
  have hb4 := hb3.ext hx4
  have r5 := r3.ext hx4
  have r6 := r2.ext hx4
  have hz := id r4; obtain ⟨_, rfl, ⟨_, _, rfl, rfl, ⟨_, _, rfl, rfl, rfl⟩⟩⟩ := hz
  have hz := bs hF; obtain ⟨x4, Ex4, hF⟩ := hz
  refine cl rfl rfl (xc cb39 (mc rfl (mc rfl (mc rfl mn)))) (c39 Ex4) ?_
  rintro _ w5 ⟨u4, rfl, r7, hx5⟩
  have k4 := k3.tr hx5
  have hb5 := hb4.ext hx5
  have r8 := r5.ext hx5
  have r9 := r6.ext hx5
  have r10 := r4.ext hx5
  have hz := id r7; obtain ⟨_, rfl, ⟨_, _, rfl, rfl, ⟨_, _, rfl, rfl, rfl⟩⟩⟩ := hz
  have hz := bs hF; obtain ⟨x5, Ex5, hF⟩ := hz
  refine cl rfl rfl (xc cb39 (mc rfl (mc rfl (mc rfl mn)))) (c39 Ex5) ?_
  rintro _ w6 ⟨u5, rfl, r11, hx6⟩
  have k5 := k4.tr hx6
  have hb6 := hb5.ext hx6
  have r12 := r8.ext hx6
  have r13 := r9.ext hx6
  have r14 := r10.ext hx6
  have r15 := r7.ext hx6
  have hz := id r11; obtain ⟨_, rfl, ⟨_, _, rfl, rfl, ⟨_, _, rfl, rfl, rfl⟩⟩⟩ := hz
  have hz := bs hF; obtain ⟨x6, Ex6, hF⟩ := hz
  refine cl rfl rfl (xc cb39 (mc rfl (mc rfl (mc rfl mn)))) (c39 Ex6) ?_
  rintro _ w7 ⟨u6, rfl, r16, hx7⟩
  have k6 := k5.tr hx7
  have hb7 := hb6.ext hx7
  have r17 := r12.ext hx7
  have r18 := r13.ext hx7
  have r19 := r14.ext hx7
  have r20 := r15.ext hx7
  have r21 := r11.ext hx7
  have hz := id r16; obtain ⟨_, rfl, ⟨_, _, rfl, rfl, ⟨_, _, rfl, rfl, rfl⟩⟩⟩ := hz
  refine sbsv (cs := [.int .i64 x1.1, .int .i64 x1.2.1, .int .i64 x1.2.2, .int .i64 x2.1, .int .i64 x2.2.1, .int .i64 x2.2.2, .int .i64 x3.1, .int .i64 x3.2.1, .int .i64 x3.2.2, .int .i64 x4.1, .int .i64 x4.2.1, .int .i64 x4.2.2, .int .i64 x5.1, .int .i64 x5.2.1, .int .i64 x5.2.2, .int .i64 x6.1, .int .i64 x6.2.1, .int .i64 x6.2.2]) Try.underlying22 ti56 rfl (pc rfl (pc rfl (pc rfl (pc rfl (pc rfl (pc rfl pn)))))) rfl rfl rfl rfl rfl fun b2 w8 hx8 hg2 hb8 => ?_
  have k7 := k6.tr hx8
  have hb9 := hb7.ext hx8
  have o1 : Row (α := (Int × Int × Int)) 56 w7.heap.size w8 (.slice (some ⟨b2, 0, none⟩) 6 6) [x1, x2, x3, x4, x5, x6] := Row.lit hg2 hb8 rfl (ble rfl)
  refine vl rfl rfl (xbdv (r := [.int .i64 3, .slice (some ⟨b2, 0, none⟩) ([x1, x2, x3, x4, x5, x6] : List (Int × Int × Int)).length 6]) ti24 sp24 (pc rfl (pc rfl pn)) rfl) <| sst rfl rfl rfl ti24 hb9 rfl rfl (ble rfl) fun w9 hch1 hb10 => ?_
  have k8 := Ext.chg k7 hch1 (Nat.le_trans (Nat.le_refl _) hg1)
  have o2 := Row.chg o1 hch1 hb7.lt
  have hb11 : Bx w9 b1 24 [.int .i64 3, .slice (some ⟨b2, 0, none⟩) ([x1, x2, x3, x4, x5, x6] : List (Int × Int × Int)).length 6] := hb10
  refine nl <| ?_
  cases hF
  exact wp_ret <| rt rfl (.cell rfl rfl ti24 rfl (Bx.cs hb11) .nil) ⟨_, rfl, (o2.bnd k6.size), k8⟩

set_option maxHeartbeats 4000000 in
theorem c48 {w0 : World}  {r : (Int × (List (Int × Int × Int)))} (hF : law01_slow = some r) :
    Calls Try.prog 48 [].toArray w0 (Ret fun v w' => ∃ u0 : Value, v = u0 ∧ RV w' u0 r ∧ Ext w0 w') := by
  unfold law01_slow at hF
  refine entr (n := 10) Try.func48 rfl rfl rfl <| wp_seq <| rg <| sal ti24 fun b1 w1 hx1 hg1 hb1 => ?_
  refine nl <| wp_seq <| rg <| ?_
  have hz := bs hF; obtain ⟨x1, Ex1, hF⟩ := hz
  refine cl rfl rfl (xc cb47 mn) (c47 Ex1) ?_
  rintro _ w2 ⟨u1, rfl, r1, hx2⟩
  have k1 := hx1.tr hx2
  have hb2 := hb1.ext hx2
  have hz := RV.sl r1.rv; obtain ⟨a1, cq1, rfl, -, -, -⟩ := hz
  refine sal ti24 fun b2 w3 hx3 hg2 hb3 => ?_
  have k2 := k1.tr hx3
  have k3 := hx2.tr hx3
  have hb4 := hb2.ext hx3
  have r2 := r1.ext hx3
  refine sst rfl rfl rfl ti24 hb3 rfl rfl (ble rfl) fun w4 hch1 hb5 => ?_
  have k4 := Ext.chg k2 hch1 (Nat.le_trans k1.size hg2)
  have k5 := Ext.chg k3 hch1 (Nat.le_trans hx2.size hg2)
  have k6 := Ext.chg hx3 hch1 (Nat.le_trans (Nat.le_refl _) hg2)
  have hb6 := hb2.ext k6
  have r3 := r1.ext k6
  have hb7 : Bx w4 b2 24 [.int .i64 x1.1, .slice a1 x1.2.length cq1] := hb5
  refine nl <| wp_seq <| wpl [4, 6] (.pure true 0 (.pure false 1 (.eff 2 (.eff 3 (.eff 4 (.pure true 5 (.eff 6 .fin .stop)) .stop) .stop) .stop))) mixed (by kernel_rfl) (fun w5 hx4 => ?_)
  have k7 := k4.tr hx4
  have k8 := k5.tr hx4
  have k9 := k6.tr hx4
  have hb8 := hb6.ext hx4
  have hb9 := hb7.ext hx4
  have r4 := r3.ext hx4
  refine pv rfl rfl rfl (fun _ _ => xfa rfl fa24_1) (.inl rfl) <| pv rfl rfl rfl (fun _ hS => xld rfl ti22 ((Bx.cs (hb9.ext (hS.resolve_left nofun))).at 1 rfl)) (.inr (Ext.refl _)) <| ?_
  have hz := bs hF; obtain ⟨x2, Ex2, hF⟩ := hz
  refine pe1 rfl <| cl rfl rfl (xc cb39 (mc rfl (mc rfl (mc rfl mn)))) (c39 Ex2) ?_
  rintro _ w6 ⟨u2, rfl, r5, hx5⟩
  have k10 := k7.tr hx5
  have k11 := k8.tr hx5
  have k12 := k9.tr hx5
  have hb10 := hb8.ext hx5
  have hb11 := hb9.ext hx5
  have r6 := r4.ext hx5
  have hz := id r5; obtain ⟨_, rfl, ⟨_, _, rfl, rfl, ⟨_, _, rfl, rfl, rfl⟩⟩⟩ := hz
  refine nl ⟨fun _ _ => hx5, ?_⟩
  refine pe1 rfl <| sbsv (cs := [.int .i64 x2.1, .int .i64 x2.2.1, .int .i64 x2.2.2]) Try.underlying22 ti56 rfl (pc rfl pn) rfl rfl rfl rfl rfl fun b3 w7 hx6 hg3 hb12 => ?_
  have k13 := k10.tr hx6
  have k14 := k11.tr hx6
  have k15 := k12.tr hx6
  have k16 := hx5.tr hx6
  have hb13 := hb10.ext hx6
  have hb14 := hb11.ext hx6
  have r7 := r6.ext hx6
  have o1 : Row (α := (Int × Int × Int)) 56 w6.heap.size w7 (.slice (some ⟨b3, 0, none⟩) 1 1) [x2] := Row.lit hg3 hb12 rfl (ble rfl)
  refine nl ⟨fun _ _ => k16, ?_⟩
  have hz := bs hF; obtain ⟨x3, Ex3, hF⟩ := hz
  refine pe1 rfl <| sapx (l := x1.2) (k := ([x2] : List (Int × Int × Int))) rfl rfl Try.underlying22 ti56 rfl rfl r7 (RV.els o1.rv) Ex3 k14.size fun v1 w8 o2 hB1 hgr1 how1 => ?_
  have k17 := Ext.grow k13 hx1.size hB1
  have k18 : Ext w1 w8 := k14.trans hB1
  have hb15 := hb1.ext k18
  have ne1 := ne_app how1 (r1.ne_new hg2) hb14.lt
  have hb16 := Bx.gr hb14 hgr1 (r1.ne_new hg2)
  have hz := RV.sl o2.rv; obtain ⟨a2, cq2, rfl, -, -, -⟩ := hz
  refine nl ⟨fun h => (h (by decide)).elim, ?_⟩
  refine pv rfl rfl rfl (fun _ _ => xfa rfl fa24_1) (.inl rfl) <| pe1 rfl <| sst rfl rfl rfl ti22 hb16 rfl rfl (ble rfl) fun w9 hch2 hb17 => ?_
  have k19 := Ext.chg k17 hch2 (Nat.le_trans hx1.size (Nat.le_trans hx2.size hg2))
  have k20 := Ext.chg k18 hch2 (Nat.le_trans (Nat.le_refl _) (Nat.le_trans hx2.size hg2))
  have hb18 := hb1.ext k20
  have o3 := Row.chgn o2 hch2 ne1
  have hb19 : Bx w9 b2 24 [.int .i64 x1.1, .slice a2 x3.length cq2] := hb17
  refine nl ⟨fun h => (h (by decide)).elim, ?_⟩
  refine wp_seq <| rg <| vl rfl rfl (xlda rfl ti24 rfl (Bx.cs hb19)) <| sst rfl rfl rfl ti24 hb18 rfl rfl (ble rfl) fun w10 hch3 hb20 => ?_
  have k21 := Ext.chg k19 hch3 (Nat.le_trans (Nat.le_refl _) hg1)
  have o4 := Row.chg o3 hch3 hb1.lt
  have hb21 : Bx w10 b1 24 [.int .i64 x1.1, .slice a2 x3.length cq2] := hb20
  refine nl <| ?_
  cases hF
  exact wp_ret <| rt rfl (.cell rfl rfl ti24 rfl (Bx.cs hb21) .nil) ⟨_, rfl, (show RV (α := (Int × (List (Int × Int × Int)))) _ (.agg [.int .i64 x1.1, .slice a2 x3.length cq2].toArray) (x1.1, x3) from ⟨_, rfl, ⟨[.int .i64 x1.1], [.slice a2 x3.length cq2], rfl, rfl, o4.rv.rep1⟩⟩), k21⟩

set_option maxHeartbeats 4000000 in
theorem c33 {w0 : World} {v0 : Value} {x0 : (Int × (List (Int × Int × Int)))} (r0 : RV w0 v0 x0) {v1 : Value} {x1 : (List Int)} (r1 : RV w0 v1 x1) {F : Nat} {r : Int} (hF : speed_CheckSpeeds F x0 x1 = some r) :
    Calls Try.prog 33 [v0, v1].toArray w0 (Ret fun v w' => v = .int .i64 r ∧ Ext w0 w') := by
  unfold speed_CheckSpeeds at hF
  have hz := id r0; obtain ⟨_, rfl, ⟨_, _, rfl, rfl, ⟨a1, cq1, rfl, p1, q3, e1⟩⟩⟩ := hz
  have r3 := RV.of1 p1 q3 e1
  have hz := r1.sl; obtain ⟨a2, cq2, rfl, -, -, -⟩ := hz
  refine entr (n := 43) Try.func33 rfl rfl rfl <| wp_seq <| rg <| sbx rfl rfl fun b3 w1 hx1 hg1 hb1 => ?_
  have r4 := r1.ext hx1
  have r5 := r3.ext hx1
  have r6 := r0.ext hx1
  refine vl rfl rfl xas <| nl <| wp_seq <| wp_seq <| rg <| vl rfl rfl (xlda rfl ti24 rfl (Bx.cs hb1)) <| ?_
  have hz := bs hF; obtain ⟨x3, Ex3, hF⟩ := hz
  refine cl rfl rfl (xc cb43 (mc rfl mn)) (c43 (show RV (α := (Int × (List (Int × Int × Int)))) _ (.agg [.int .i64 x0.1, .slice a1 x0.2.length cq1].toArray) (x0.1, x0.2) from ⟨_, rfl, ⟨[.int .i64 x0.1], [.slice a1 x0.2.length cq1], rfl, rfl, r5.rep1⟩⟩) Ex3) ?_
  rintro _ w2 ⟨rfl, hx2⟩
  have k1 := hx1.tr hx2
  have hb2 := hb1.ext hx2
  have r7 := r5.ext hx2
  have r8 := r4.ext hx2
  refine vl rfl rfl xas <| nl <| wp_seq <| rg <| vl rfl rfl xmv <| vl rfl rfl (xneq rfl rfl) <| nl <| cnd rfl (fun h3 => ?_) (fun h3 => ?_)
  ·
    have hF := ifp hF h3
    refine wp_seq <| rg <| vl rfl rfl xmv <| vl rfl rfl xas <| nl <| ?_
    cases hF
    exact wp_ret <| rt rfl (.tmp rfl rfl .nil) ⟨rfl, k1⟩
  ·
    have hF := ifn hF h3
    refine wp_skip <| wp_seq <| wp_block <| wp_seq <| rg <| vl rfl rfl xmv <| vl rfl rfl (xlen rfl Try.underlying32) <| vl rfl rfl (xfa rfl fa24_0) <| vl rfl rfl (xld rfl ti3 ((Bx.cs hb2).at 0 rfl)) <| vl rfl rfl (xneq rfl rfl) <| vl rfl rfl xas <| nl <| cnd rfl (fun h4 => ?_) (fun h4 => ?_)
    ·
      have hF := ifp hF h4
      refine wp_seq <| rg <| vl rfl rfl xas <| nl <| ?_
      cases hF
      exact wp_ret <| rt rfl (.tmp rfl rfl .nil) ⟨rfl, k1⟩
    ·
      have hF := ifn hF h4
      refine wp_seq <| rg <| vl rfl rfl xmv <| ?_
      have hz := bs hF; obtain ⟨x4, Ex4, hF⟩ := hz
      refine cl rfl rfl (xc cb64 (mc rfl (mc rfl (mc rfl mn)))) (c64 r8 Ex4) ?_
      rintro _ w3 ⟨rfl, hx3⟩
      have k2 := k1.tr hx3
      have hb3 := hb2.ext hx3
      have r9 := r7.ext hx3
      have r10 := r8.ext hx3
      refine vl rfl rfl (xnot rfl) <| vl rfl rfl xas <| nl <| cnd rfl (fun h5 => ?_) (fun h5 => ?_)
      ·
        have hF := ifp hF h5
        refine wp_seq <| rg <| vl rfl rfl xas <| nl <| ?_
        cases hF
        exact wp_ret <| rt rfl (.tmp rfl rfl .nil) ⟨rfl, k2⟩
      ·
        have hF := ifn hF h5
        refine wp_skip <| wp_seq <| rg <| vl rfl rfl (xbdav (r := List.flatMap Flat.enc (aset (Ar.fill 21 0 : (Ar 21 Int)) 0 0).l) ti83 Try.underlying83 ti2 (pc rfl pn) rfl) <| sal ti83 fun b4 w4 hx4 hg2 hb4 => ?_
        have k3 := k2.tr hx4
        have hb5 := hb3.ext hx4
        have r11 := r9.ext hx4
        have r12 := r10.ext hx4
        have hb6 : Bx w4 b4 83 (List.flatMap Flat.enc ((Ar.fill 21 0 : (Ar 21 Int))).l) := hb4
        refine sstw rfl rfl ti83 hb6 (arlen _) (arlen _) (flat_one _) fun w5 hch1 hb7 => ?_
        have k4 := Ext.chg k3 hch1 (Nat.le_trans k2.size hg2)
        have k5 := Ext.chg hx4 hch1 (Nat.le_trans (Nat.le_refl _) hg2)
        have hb8 := hb3.ext k5
        have r13 := r9.ext k5
        have r14 := r10.ext k5
        have hb9 : Bx w5 b4 83 (List.flatMap Flat.enc (aset (Ar.fill 21 0 : (Ar 21 Int)) 0 0).l) := hb7
        refine nl <| wp_seq <| rg <| vl rfl rfl (xsla (lo := 1) rfl rfl Try.underlying83 ti2 rfl) <| vl rfl rfl xmv <| scp (X := (aset (Ar.fill 21 0 : (Ar 21 Int)) 0 0)) (lo := 1) rfl rfl rfl Try.underlying32 rfl ti2 hb9 r14 rfl fun w6 cq3 hch2 hb10 => ?_
        have k6 := Ext.chg k4 hch2 (Nat.le_trans k2.size hg2)
        have k7 := Ext.chg k5 hch2 (Nat.le_trans (Nat.le_refl _) hg2)
        have hb11 := hb3.ext k7
        have r15 := r9.ext k7
        refine nl <| wp_seq <| rg <| vl rfl rfl (xlda rfl ti83 (arlen _) (Bx.cs hb10)) <| vl rfl rfl (xmf (mc rfl mn) mn) <| vl rfl rfl xas <| nl <| wp_seq <| wp_seq <| rg <| vl rfl rfl (xfa rfl fa24_1) <| vl rfl rfl (xld rfl ti22 ((Bx.cs hb11).at 1 rfl)) <| vl rfl rfl (xlen rfl Try.underlying22) <| vl rfl rfl xmv <| nl <| ?_
        have hz := bs hF; obtain ⟨o1, hB1, hF⟩ := hz
        refine ct (fun L w => o1 = .inr () ∧ Ext w6 w) ?_ ?_
        ·
          refine wp_block <| lp (I := fun m L w => ∃ y1 : Int, speed_CheckSpeeds_l1 F x0 x1 m y1  = some o1 ∧ L 34 = .int .i64 y1 ∧ L 7 = .func (.func 65) [.agg (List.flatMap Flat.enc (acopy (aset (Ar.fill 21 0 : (Ar 21 Int)) 0 0) 1 x1).l).toArray].toArray [].toArray ∧ L 32 = .slice a1 x0.2.length cq1 ∧ L 33 = .int .i64 (x0.2.length : Int) ∧ Ext w6 w) F ⟨_, hB1, rfl, rfl, rfl, rfl, (Ext.refl _)⟩ ?_
          rintro m L w7 ⟨y1, hB1, l34_i1, l7_i1, l32_i1, l33_i1, K0_i1⟩
          rcases m with _ | m
          · rw [speed_CheckSpeeds_l1] at hB1; cases hB1
          rw [speed_CheckSpeeds_l1] at hB1
          have k8 := k6.tr K0_i1
          have k9 := k7.tr K0_i1
          have r16 := r15.ext K0_i1
          refine wp_seq <| rg <| vl rfl rfl (xlss l34_i1 l33_i1) <| nl <| wp_seq <| cnd rfl (fun h6 => ?_) (fun h6 => ?_)
          ·
            have hB1 := ifp hB1 h6
            refine wp_skip <| wp_seq <| wp_block <| wp_seq <| rg <| ?_
            have hz := bs hB1; obtain ⟨x5, Ex5, hB1⟩ := hz
            have hz := (RV.els r3).ix Ex5; obtain ⟨b5, f1, cs3, e2, i2, i3, q4, hc1⟩ := hz
            cases e2
            obtain ⟨_, _, rfl, rfl, ⟨_, _, rfl, rfl, rfl⟩⟩ := q4
            have hc2 := hc1.ext k8
            refine vl rfl rfl (xixs l32_i1 l34_i1 Try.underlying22 ti56 i2 i3) <| vl rfl rfl (xlda rfl ti56 rfl hc2) <| sal ti56 fun b6 w8 hx5 hg3 hb12 => ?_
            have k10 := k8.tr hx5
            have k11 := k9.tr hx5
            have k12 := K0_i1.tr hx5
            have r17 := r16.ext hx5
            refine sst rfl rfl rfl ti56 hb12 rfl rfl (ble rfl) fun w9 hch3 hb13 => ?_
            have k13 := Ext.chg k10 hch3 (Nat.le_trans k8.size hg3)
            have k14 := Ext.chg k11 hch3 (Nat.le_trans k9.size hg3)
            have k15 := Ext.chg k12 hch3 (Nat.le_trans K0_i1.size hg3)
            have k16 := Ext.chg hx5 hch3 (Nat.le_trans (Nat.le_refl _) hg3)
            have r18 := r16.ext k16
            have hb14 : Bx w9 b6 56 [.int .i64 x5.1, .int .i64 x5.2.1, .int .i64 x5.2.2] := hb13
            refine nl <| wp_seq <| rg <| vl rfl rfl xmv <| vl rfl rfl (xlda rfl ti56 rfl (Bx.cs hb14)) <| ?_
            have hz := bs hB1; obtain ⟨x6, Ex6, hB1⟩ := hz
            refine cl rfl rfl (xcv l7_i1 cb65 (mc rfl mn) rfl) (c65 (show RV (α := (Ar 21 Int)) _ (.agg (List.flatMap Flat.enc (acopy (aset (Ar.fill 21 0 : (Ar 21 Int)) 0 0) 1 x1).l).toArray) (acopy (aset (Ar.fill 21 0 : (Ar 21 Int)) 0 0) 1 x1) from ⟨_, rfl, rfl⟩) (show RV (α := (Int × Int × Int)) _ (.agg [.int .i64 x5.1, .int .i64 x5.2.1, .int .i64 x5.2.2].toArray) (x5.1, x5.2.1, x5.2.2) from ⟨_, rfl, ⟨[.int .i64 x5.1], [.int .i64 x5.2.1] ++ [.int .i64 x5.2.2], rfl, rfl, ⟨[.int .i64 x5.2.1], [.int .i64 x5.2.2], rfl, rfl, rfl⟩⟩⟩) Ex6) ?_
            rintro _ w10 ⟨rfl, hx6⟩
            have k17 := k13.tr hx6
            have k18 := k14.tr hx6
            have k19 := k15.tr hx6
            have k20 := k16.tr hx6
            have r19 := r18.ext hx6
            refine vl rfl rfl (xnot rfl) <| nl <| cnd rfl (fun h7 => ?_) (fun h7 => ?_)
            ·
              have hB1 := ifp hB1 h7
              refine wp_seq <| rg <| vl rfl rfl xas <| nl <| ?_
              cases hB1
              have hF := (show some _ = some _ from hF); cases hF
              exact wp_ret <| rt rfl (.tmp rfl rfl .nil) ⟨rfl, k17⟩
            ·
              have hB1 := ifn hB1 h7
              refine wp_skip <| rg <| vl rfl rfl (xadd l34_i1 rfl) <| vl rfl rfl xmv <| nl <| ?_
              refine lq m (Nat.lt_succ_self _) <| ?_
              exact ⟨_, hB1, rfl, l7_i1, l32_i1, l33_i1, k19⟩
          ·
            have hB1 := ifn hB1 h6
            refine wp_exit <| ?_
            cases hB1
            refine lf <| ?_
            exact ⟨rfl, K0_i1⟩
        rintro L w11 ⟨rfl, K0_j1⟩
        have k21 := k6.tr K0_j1
        have k22 := k7.tr K0_j1
        refine wp_seq <| rg <| vl rfl rfl xas <| nl <| ?_
        cases hF
        exact wp_ret <| rt rfl (.tmp rfl rfl .nil) ⟨rfl, k21⟩
end Go.Proofs.Ythppacohnciinaa
