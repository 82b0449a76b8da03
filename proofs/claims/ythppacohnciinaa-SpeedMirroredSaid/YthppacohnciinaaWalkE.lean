/-
  Each function of the program returns what its pure function computes, and leaves all memory that was there as it was. Condition: the pure function computes something.
-/
import Derived.Test.YthppacohnciinaaFacts
import Derived.Test.YthppacohnciinaaPureE
import Derived.Test.YthppacohnciinaaWalkD
namespace Go.Proofs.Ythppacohnciinaa
open Go Go.Md Go.RowKit
attribute [local irreducible] Go.wpList Go.Code.wp Go.Calls Go.Md.Rnd Go.Md.Mt Go.Md.MtM Go.Md.RndM Go.Code.wpIn

set_option maxHeartbeats 4000000 in
theorem c4 {w0 : World} {x0 : Int} {x1 : Int} {v2 : Value} {x2 : (Int × Int)} (r2 : RV w0 v2 x2) {x3 : Int} {x4 : Int} {F : Nat} {r : Bool} (hF : law01_SpeedPipes F x0 x1 x2 x3 x4 = some r) :
    Calls Try.prog 4 [.int .i64 x0, .int .i64 x1, v2, .int .i64 x3, .int .i64 x4].toArray w0 (Ret fun v w' => v = .bool r ∧ Ext w0 w') := by
  unfold law01_SpeedPipes at hF
  have hz := id r2; obtain ⟨_, rfl, ⟨_, _, rfl, rfl, rfl⟩⟩ := hz
  refine entr (n := 68) Try.func4 rfl rfl rfl <| wp_seq <| rg <| sbx rfl rfl fun b6 w1 hx1 hg1 hb1 => ?_
  have r6 := r2.ext hx1
  refine vl rfl rfl xas <| nl <| wp_seq <| rg <| vl rfl rfl xmv <| vl rfl rfl xmv <| vl rfl rfl (xlda rfl ti28 rfl (Bx.cs hb1)) <| ?_
  have hz := bs hF; obtain ⟨x6, Ex6, hF⟩ := hz
  refine cl rfl rfl (xc cb26 (mc rfl (mc rfl (mc rfl mn)))) (c26 (show RV (α := (Int × Int)) _ (.agg [.int .i64 x2.1, .int .i64 x2.2].toArray) (x2.1, x2.2) from ⟨_, rfl, ⟨[.int .i64 x2.1], [.int .i64 x2.2], rfl, rfl, rfl⟩⟩) Ex6) ?_
  rintro _ w2 ⟨u1, rfl, r7, hx2⟩
  have k1 := hx1.tr hx2
  have hb2 := hb1.ext hx2
  have hz := RV.sl r7; obtain ⟨a1, cq1, rfl, -, -, -⟩ := hz
  refine vl rfl rfl xmv <| vl rfl rfl (xext rfl rfl) <| vl rfl rfl (xext rfl rfl) <| vl rfl rfl xas <| vl rfl rfl xas <| nl <| wp_seq <| rg <| vl rfl rfl xmv <| vl rfl rfl xmv <| vl rfl rfl (xlda rfl ti28 rfl (Bx.cs hb2)) <| ?_
  have hz := bs hF; obtain ⟨x7, Ex7, hF⟩ := hz
  refine cl rfl rfl (xc cb27 (mc rfl (mc rfl (mc rfl mn)))) (c27 (show RV (α := (Int × Int)) _ (.agg [.int .i64 x2.1, .int .i64 x2.2].toArray) (x2.1, x2.2) from ⟨_, rfl, ⟨[.int .i64 x2.1], [.int .i64 x2.2], rfl, rfl, rfl⟩⟩) Ex7) ?_
  rintro _ w3 ⟨u2, rfl, r8, hx3⟩
  have k2 := k1.tr hx3
  have r9 := r7.ext hx3
  have hz := RV.sl r8; obtain ⟨a2, cq2, rfl, -, -, -⟩ := hz
  refine vl rfl rfl xmv <| vl rfl rfl (xext rfl rfl) <| vl rfl rfl (xext rfl rfl) <| vl rfl rfl xas <| vl rfl rfl xas <| nl <| wp_seq <| rg <| vl rfl rfl xmv <| vl rfl rfl xmv <| vl rfl rfl xmv <| ?_
  have hz := bs hF; obtain ⟨x8, Ex8, hF⟩ := hz
  refine cl rfl rfl (xc cb28 (mc rfl (mc rfl (mc rfl mn)))) (c28 Ex8) ?_
  rintro _ w4 ⟨u3, rfl, r10, hx4⟩
  have k3 := k2.tr hx4
  have r11 := r9.ext hx4
  have r12 := r8.ext hx4
  have hz := RV.sl r10; obtain ⟨a3, cq3, rfl, -, -, -⟩ := hz
  refine vl rfl rfl xmv <| vl rfl rfl (xext rfl rfl) <| vl rfl rfl (xext rfl rfl) <| vl rfl rfl xas <| vl rfl rfl xas <| nl <| wp_seq <| rg <| vl rfl rfl xmv <| vl rfl rfl xmv <| vl rfl rfl xmv <| ?_
  have hz := bs hF; obtain ⟨x9, Ex9, hF⟩ := hz
  refine cl rfl rfl (xc cb29 (mc rfl (mc rfl (mc rfl mn)))) (c29 Ex9) ?_
  rintro _ w5 ⟨u4, rfl, r13, hx5⟩
  have k4 := k3.tr hx5
  have r14 := r11.ext hx5
  have r15 := r12.ext hx5
  have r16 := r10.ext hx5
  have hz := RV.sl r13; obtain ⟨a4, cq4, rfl, -, -, -⟩ := hz
  refine vl rfl rfl xmv <| vl rfl rfl (xext rfl rfl) <| vl rfl rfl (xext rfl rfl) <| vl rfl rfl xas <| vl rfl rfl xas <| nl <| wp_seq <| ?_
  have hz := bs hF; obtain ⟨y1, hB1, hF⟩ := hz
  refine ct (fun L w => L 10 = .bool y1 ∧ Ext w5 w) ?_ ?_
  ·
    refine rg <| vl rfl rfl xmv <| vl rfl rfl xmv <| ?_
    have hz := bs hB1; obtain ⟨x10, Ex10, hB1⟩ := hz
    refine cl rfl rfl (xc cb30 (mc rfl (mc rfl mn))) (c30 r14 r15 Ex10) ?_
    rintro _ w6 ⟨rfl, hx6⟩
    have k5 := k4.tr hx6
    have r17 := r16.ext hx6
    have r18 := r13.ext hx6
    refine vl rfl rfl xmv <| ?_
    have hz := ifs hB1; obtain ⟨h6, hB1⟩ := hz
    refine gtk rfl rfl rfl rfl rfl (bt h6) <| vl rfl rfl xmv <| gtk rfl rfl rfl rfl rfl (bt h6) <| vl rfl rfl xmv <| gtk rfl rfl rfl rfl rfl (bt h6) <| vl rfl rfl (xeql rfl rfl) <| vl rfl rfl (xpt rfl h6 rfl) <| vl rfl rfl xmv <| ?_
    have hz := ifs hB1; obtain ⟨h7, hB1⟩ := hz
    refine gtk rfl rfl rfl rfl rfl (bt h7) <| vl rfl rfl xmv <| gtk rfl rfl rfl rfl rfl (bt h7) <| vl rfl rfl xmv <| ?_
    have hz := bs hB1; obtain ⟨x11, Ex11, hB1⟩ := hz
    refine gtk rfl rfl rfl rfl rfl (bt h7) <| cl rfl rfl (xc cb30 (mc rfl (mc rfl mn))) (c30 r17 r18 Ex11) ?_
    rintro _ w7 ⟨rfl, hx7⟩
    have k6 := k5.tr hx7
    have k7 := hx6.tr hx7
    refine vl rfl rfl (xpt rfl h7 rfl) <| vl rfl rfl xmv <| ?_
    have hz := ifs hB1; obtain ⟨h8, hB1⟩ := hz
    refine gtk rfl rfl rfl rfl rfl (bt h8) <| vl rfl rfl xmv <| gtk rfl rfl rfl rfl rfl (bt h8) <| vl rfl rfl xmv <| gtk rfl rfl rfl rfl rfl (bt h8) <| vl rfl rfl (xeql rfl rfl) <| vl rfl rfl (xpt rfl h8 rfl) <| vl rfl rfl xmv <| ?_
    have hz := ifs hB1; obtain ⟨h9, hB1⟩ := hz
    have hz := bs hB1; obtain ⟨x12, Ex12, hB1⟩ := hz
    refine gtk rfl rfl rfl rfl rfl (bt h9) <| cl rfl rfl (xc cb15 mn) (c15 Ex12) ?_
    rintro _ w8 ⟨rfl, hx8⟩
    have k8 := k6.tr hx8
    have k9 := k7.tr hx8
    refine vl rfl rfl (xpt rfl h9 rfl) <| vl rfl rfl xas <| nl <| ?_
    cases hB1
    refine lf <| ?_
    exact ⟨rfl, k9⟩
  rintro L w9 ⟨l10_j1, K0_j1⟩
  have k10 := k4.tr K0_j1
  cases hF
  exact wp_ret <| rt rfl (.tmp l10_j1 rfl .nil) ⟨rfl, k10⟩

set_option maxHeartbeats 4000000 in
theorem c9 {w0 : World} {v0 : Value} {x0 : (Int × (List (Int × Int × Int)))} (r0 : RV w0 v0 x0) {v1 : Value} {x1 : (List Int)} (r1 : RV w0 v1 x1) {F : Nat} {r : Bool} (hF : law01_SpeedSheets F x0 x1 = some r) :
    Calls Try.prog 9 [v0, v1].toArray w0 (Ret fun v w' => v = .bool r ∧ Ext w0 w') := by
  unfold law01_SpeedSheets at hF
  have hz := id r0; obtain ⟨_, rfl, ⟨_, _, rfl, rfl, ⟨a1, cq1, rfl, p1, q3, e1⟩⟩⟩ := hz
  have r3 := RV.of1 p1 q3 e1
  have hz := r1.sl; obtain ⟨a2, cq2, rfl, -, -, -⟩ := hz
  refine entr (n := 54) Try.func9 rfl rfl rfl <| wp_seq <| rg <| sbx rfl rfl fun b3 w1 hx1 hg1 hb1 => ?_
  have r4 := r1.ext hx1
  have r5 := r3.ext hx1
  have r6 := r0.ext hx1
  refine vl rfl rfl xas <| nl <| wp_seq <| wp_seq <| rg <| vl rfl rfl (xlda rfl ti24 rfl (Bx.cs hb1)) <| ?_
  have hz := bs hF; obtain ⟨x3, Ex3, hF⟩ := hz
  refine cl rfl rfl (xc cb14 (mc rfl mn)) (c14 (show RV (α := (Int × (List (Int × Int × Int)))) _ (.agg [.int .i64 x0.1, .slice a1 x0.2.length cq1].toArray) (x0.1, x0.2) from ⟨_, rfl, ⟨[.int .i64 x0.1], [.slice a1 x0.2.length cq1], rfl, rfl, r5.rep1⟩⟩) Ex3) ?_
  rintro _ w2 ⟨rfl, hx2⟩
  have k1 := hx1.tr hx2
  have hb2 := hb1.ext hx2
  have r7 := r5.ext hx2
  have r8 := r4.ext hx2
  refine vl rfl rfl xmv <| gv rfl rfl rfl rfl (gw0 rfl) rfl (fun hc => xmva rfl) <| gv rfl rfl rfl rfl (gw0 rfl) rfl (fun hc => xlen (mv hc rfl) Try.underlying32) <| gv rfl rfl rfl rfl (gw0 rfl) rfl (fun hc => xgtr (mv hc rfl) rfl) <| vl rfl rfl (xpo rfl rfl rfl) <| nl <| cnd rfl (fun h3 => ?_) (fun h3 => ?_)
  ·
    have hF := ifp hF h3
    refine wp_seq <| rg <| ?_
    have hz := bs hF; obtain ⟨x4, Ex4, hF⟩ := hz
    refine cl rfl rfl (xc cb15 mn) (c15 Ex4) ?_
    rintro _ w3 ⟨rfl, hx3⟩
    have k2 := k1.tr hx3
    refine vl rfl rfl xas <| nl <| ?_
    cases hF
    exact wp_ret <| rt rfl (.tmp rfl rfl .nil) ⟨rfl, k2⟩
  ·
    have hF := ifn hF h3
    refine wp_skip <| wp_seq <| rg <| vl rfl rfl (xlda rfl ti24 rfl (Bx.cs hb2)) <| ?_
    have hz := bs hF; obtain ⟨x5, Ex5, hF⟩ := hz
    refine cl rfl rfl (xc cb41 (mc rfl mn)) (c41 (show RV (α := (Int × (List (Int × Int × Int)))) _ (.agg [.int .i64 x0.1, .slice a1 x0.2.length cq1].toArray) (x0.1, x0.2) from ⟨_, rfl, ⟨[.int .i64 x0.1], [.slice a1 x0.2.length cq1], rfl, rfl, r7.rep1⟩⟩) Ex5) ?_
    rintro _ w4 ⟨u1, rfl, r9, hx4⟩
    have k3 := k1.tr hx4
    have hb3 := hb2.ext hx4
    have r10 := r7.ext hx4
    have r11 := r8.ext hx4
    have hz := RV.sl r9; obtain ⟨a3, cq3, rfl, -, -, -⟩ := hz
    refine vl rfl rfl xmv <| vl rfl rfl (xext rfl rfl) <| vl rfl rfl (xext rfl rfl) <| vl rfl rfl xas <| vl rfl rfl xas <| nl <| wp_seq <| rg <| vl rfl rfl (xlda rfl ti24 rfl (Bx.cs hb3)) <| ?_
    have hz := bs hF; obtain ⟨x6, Ex6, hF⟩ := hz
    refine cl rfl rfl (xc cb42 (mc rfl mn)) (c42 (show RV (α := (Int × (List (Int × Int × Int)))) _ (.agg [.int .i64 x0.1, .slice a1 x0.2.length cq1].toArray) (x0.1, x0.2) from ⟨_, rfl, ⟨[.int .i64 x0.1], [.slice a1 x0.2.length cq1], rfl, rfl, r10.rep1⟩⟩) Ex6) ?_
    rintro _ w5 ⟨u2, rfl, r12, hx5⟩
    have k4 := k3.tr hx5
    have hb4 := hb3.ext hx5
    have r13 := r10.ext hx5
    have r14 := r11.ext hx5
    have r15 := r9.ext hx5
    have hz := RV.sl r12; obtain ⟨a4, cq4, rfl, -, -, -⟩ := hz
    refine vl rfl rfl xmv <| vl rfl rfl (xext rfl rfl) <| vl rfl rfl (xext rfl rfl) <| vl rfl rfl xas <| vl rfl rfl xas <| nl <| wp_seq <| ?_
    have hz := bs hF; obtain ⟨y1, hB1, hF⟩ := hz
    refine ct (fun L w => L 4 = .bool y1 ∧ Ext w5 w) ?_ ?_
    ·
      refine wpl [] (.pure false 0 (.pure false 2 (.eff 1 (.eff 3 (.pure true 4 (.pure true 5 (.pure true 6 (.pure true 7 (.eff 8 (.pure true 9 (.pure true 10 (.pure true 11 (.pure true 12 (.pure true 13 (.pure true 14 (.pure true 15 (.pure false 16 (.pure true 17 (.pure false 19 (.pure true 20 (.eff 18 (.eff 21 (.pure true 22 (.pure true 23 (.pure true 24 (.eff 25 (.pure true 26 (.pure true 27 .fin)) .stop)))) .stop) .stop)))))))))))) .stop))))) .stop) .stop))) mixed (by kernel_rfl) (fun w6 hx6 => ?_)
      have k5 := k4.tr hx6
      have hb5 := hb4.ext hx6
      have r16 := r13.ext hx6
      have r17 := r14.ext hx6
      have r18 := r15.ext hx6
      have r19 := r12.ext hx6
      refine pv rfl rfl rfl (fun _ hS => xlda rfl ti24 rfl (Bx.cs (hb5.ext (hS.resolve_left nofun)))) (.inr (Ext.refl _)) <| pv rfl rfl rfl (fun _ hS => xlda rfl ti24 rfl (Bx.cs (hb5.ext (hS.resolve_left nofun)))) (.inr (Ext.refl _)) <| ?_
      have hz := bs hB1; obtain ⟨x7, Ex7, hB1⟩ := hz
      refine pe1 rfl <| cl rfl rfl (xc cb43 (mc rfl mn)) (c43 (show RV (α := (Int × (List (Int × Int × Int)))) _ (.agg [.int .i64 x0.1, .slice a1 x0.2.length cq1].toArray) (x0.1, x0.2) from ⟨_, rfl, ⟨[.int .i64 x0.1], [.slice a1 x0.2.length cq1], rfl, rfl, r16.rep1⟩⟩) Ex7) ?_
      rintro _ w7 ⟨rfl, hx7⟩
      have k6 := k5.tr hx7
      have k7 := hx6.tr hx7
      have hb6 := hb5.ext hx7
      have r20 := r16.ext hx7
      have r21 := r17.ext hx7
      have r22 := r18.ext hx7
      have r23 := r19.ext hx7
      refine nl ⟨fun _ _ => hx7, ?_⟩
      have hz := bs hB1; obtain ⟨x8, Ex8, hB1⟩ := hz
      refine pe1 rfl <| cl rfl rfl (xc cb36 (mc rfl mn)) (c36 (show RV (α := (Int × (List (Int × Int × Int)))) _ (.agg [.int .i64 x0.1, .slice a1 x0.2.length cq1].toArray) (x0.1, x0.2) from ⟨_, rfl, ⟨[.int .i64 x0.1], [.slice a1 x0.2.length cq1], rfl, rfl, r20.rep1⟩⟩) Ex8) ?_
      rintro _ w8 ⟨rfl, hx8⟩
      have k8 := k6.tr hx8
      have k9 := k7.tr hx8
      have k10 := hx7.tr hx8
      have hb7 := hb6.ext hx8
      have r24 := r20.ext hx8
      have r25 := r21.ext hx8
      have r26 := r22.ext hx8
      have r27 := r23.ext hx8
      refine nl ⟨fun _ _ => k10, ?_⟩
      refine pv rfl rfl rfl (fun _ _ => xeql rfl rfl) (.inl rfl) <| pv rfl rfl rfl (fun _ _ => xmv) (.inl rfl) <| ?_
      have hz := ifs hB1; obtain ⟨h4, hB1⟩ := hz
      refine pvt rfl rfl rfl rfl rfl rfl (bt h4) rfl (fun _ _ => xmv) (.inl rfl) <| pvt rfl rfl rfl rfl rfl rfl (bt h4) rfl (fun _ _ => xmv) (.inl rfl) <| ?_
      have hz := bs hB1; obtain ⟨x9, Ex9, hB1⟩ := hz
      refine pe1 rfl <| gtk rfl rfl rfl rfl rfl (bt h4) <| cl rfl rfl (xc cb30 (mc rfl (mc rfl mn))) (c30 r26 r27 Ex9) ?_
      rintro _ w9 ⟨rfl, hx9⟩
      have k11 := k8.tr hx9
      have k12 := k9.tr hx9
      have k13 := k10.tr hx9
      have hb8 := hb7.ext hx9
      have r28 := r24.ext hx9
      have r29 := r25.ext hx9
      refine nl ⟨fun _ _ => k13, ?_⟩
      refine pv rfl rfl rfl (fun _ _ => xpt rfl h4 rfl) (.inl rfl) <| pv rfl rfl rfl (fun _ _ => xmv) (.inl rfl) <| ?_
      have hz := ifs hB1; obtain ⟨h5, hB1⟩ := hz
      refine pvt rfl rfl rfl rfl rfl rfl (bt h5) rfl (fun _ _ => xmv) (.inl rfl) <| pvt rfl rfl rfl rfl rfl rfl (bt h5) rfl (fun _ _ => xmv) (.inl rfl) <| pvt rfl rfl rfl rfl rfl rfl (bt h5) rfl (fun _ _ => xeql rfl rfl) (.inl rfl) <| pv rfl rfl rfl (fun _ _ => xpt rfl h5 rfl) (.inl rfl) <| pv rfl rfl rfl (fun _ _ => xmv) (.inl rfl) <| ?_
      have hz := ifs hB1; obtain ⟨h6, hB1⟩ := hz
      refine pvt rfl rfl rfl rfl rfl rfl (bt h6) rfl (fun _ hS => xlda rfl ti24 rfl (Bx.cs (hb5.ext (hS.resolve_left nofun)))) (.inr k13) <| pvt rfl rfl rfl rfl rfl rfl (bt h6) rfl (fun _ _ => xmv) (.inl rfl) <| pvt rfl rfl rfl rfl rfl rfl (bt h6) rfl (fun _ hS => xlda rfl ti24 rfl (Bx.cs (hb5.ext (hS.resolve_left nofun)))) (.inr k13) <| pvt rfl rfl rfl rfl rfl rfl (bt h6) rfl (fun _ _ => xmv) (.inl rfl) <| ?_
      have hz := bs hB1; obtain ⟨x10, Ex10, hB1⟩ := hz
      refine pe1 rfl <| gtk rfl rfl rfl rfl rfl (bt h6) <| cl rfl rfl (xc cb33 (mc rfl (mc rfl mn))) (c33 (show RV (α := (Int × (List (Int × Int × Int)))) _ (.agg [.int .i64 x0.1, .slice a1 x0.2.length cq1].toArray) (x0.1, x0.2) from ⟨_, rfl, ⟨[.int .i64 x0.1], [.slice a1 x0.2.length cq1], rfl, rfl, r28.rep1⟩⟩) r29 Ex10) ?_
      rintro _ w10 ⟨rfl, hx10⟩
      have k14 := k11.tr hx10
      have k15 := k12.tr hx10
      have k16 := k13.tr hx10
      have r30 := r28.ext hx10
      have r31 := r29.ext hx10
      refine nl ⟨fun _ _ => k16, ?_⟩
      have hz := bs hB1; obtain ⟨x11, Ex11, hB1⟩ := hz
      refine pe1 rfl <| gtk rfl rfl rfl rfl rfl (bt h6) <| cl rfl rfl (xc cb32 (mc rfl (mc rfl mn))) (c32 (show RV (α := (Int × (List (Int × Int × Int)))) _ (.agg [.int .i64 x0.1, .slice a1 x0.2.length cq1].toArray) (x0.1, x0.2) from ⟨_, rfl, ⟨[.int .i64 x0.1], [.slice a1 x0.2.length cq1], rfl, rfl, r30.rep1⟩⟩) r31 Ex11) ?_
      rintro _ w11 ⟨rfl, hx11⟩
      have k17 := k14.tr hx11
      have k18 := k15.tr hx11
      have k19 := k16.tr hx11
      refine nl ⟨fun _ _ => k19, ?_⟩
      refine pvt rfl rfl rfl rfl rfl rfl (bt h6) rfl (fun _ _ => xeql rfl rfl) (.inl rfl) <| pv rfl rfl rfl (fun _ _ => xpt rfl h6 rfl) (.inl rfl) <| pv rfl rfl rfl (fun _ _ => xmv) (.inl rfl) <| ?_
      have hz := ifs hB1; obtain ⟨h7, hB1⟩ := hz
      have hz := bs hB1; obtain ⟨x12, Ex12, hB1⟩ := hz
      refine pe1 rfl <| gtk rfl rfl rfl rfl rfl (bt h7) <| cl rfl rfl (xc cb15 mn) (c15 Ex12) ?_
      rintro _ w12 ⟨rfl, hx12⟩
      have k20 := k17.tr hx12
      have k21 := k18.tr hx12
      have k22 := k19.tr hx12
      refine nl ⟨fun _ _ => k22, ?_⟩
      refine pv rfl rfl rfl (fun _ _ => xpt rfl h7 rfl) (.inl rfl) <| pv rfl rfl rfl (fun _ _ => xas) (.inl rfl) <| ?_
      cases hB1
      refine lf <| ?_
      exact ⟨rfl, k21⟩
    rintro L w13 ⟨l4_j1, K0_j1⟩
    have k23 := k4.tr K0_j1
    cases hF
    exact wp_ret <| rt rfl (.tmp l4_j1 rfl .nil) ⟨rfl, k23⟩

set_option maxHeartbeats 4000000 in
theorem c11 {w0 : World}  {F : Nat} {r : Bool} (hF : law01_SpeedKnown F = some r) :
    Calls Try.prog 11 [].toArray w0 (Ret fun v w' => v = .bool r ∧ Ext w0 w') := by
  unfold law01_SpeedKnown at hF
  refine entr (n := 79) Try.func11 rfl rfl rfl <| wp_seq <| rg <| vl rfl rfl xas <| nl <| wp_seq <| rg <| ?_
  have hz := bs hF; obtain ⟨x1, Ex1, hF⟩ := hz
  refine cl rfl rfl (xc cb47 mn) (c47 Ex1) ?_
  rintro _ w1 ⟨u1, rfl, r1, hx1⟩
  have hz := RV.sl r1.rv; obtain ⟨a1, cq1, rfl, -, -, -⟩ := hz
  refine sal ti24 fun b1 w2 hx2 hg1 hb1 => ?_
  have k1 := hx1.tr hx2
  have r2 := r1.ext hx2
  refine sst rfl rfl rfl ti24 hb1 rfl rfl (ble rfl) fun w3 hch1 hb2 => ?_
  have k2 := Ext.chg k1 hch1 (Nat.le_trans hx1.size hg1)
  have k3 := Ext.chg hx2 hch1 (Nat.le_trans (Nat.le_refl _) hg1)
  have r3 := r1.ext k3
  have hb3 : Bx w3 b1 24 [.int .i64 x1.1, .slice a1 x1.2.length cq1] := hb2
  refine nl <| wp_seq <| rg <| vl rfl rfl (xlda rfl ti24 rfl (Bx.cs hb3)) <| sbsv (cs := [.int .i64 16200, .int .i64 16300, .int .i64 15900]) Try.underlying32 ti2 rfl (pc rfl (pc rfl (pc rfl pn))) rfl rfl rfl rfl rfl fun b2 w4 hx3 hg2 hb4 => ?_
  have k4 := k2.tr hx3
  have k5 := k3.tr hx3
  have hb5 := hb3.ext hx3
  have r4 := r3.ext hx3
  have o1 : Row (α := Int) 2 w3.heap.size w4 (.slice (some ⟨b2, 0, none⟩) 3 3) [16200, 16300, 15900] := Row.lit hg2 hb4 rfl (ble rfl)
  have hz := bs hF; obtain ⟨x2, Ex2, hF⟩ := hz
  refine cl rfl rfl (xc cb33 (mc rfl (mc rfl mn))) (c33 (show RV (α := (Int × (List (Int × Int × Int)))) _ (.agg [.int .i64 x1.1, .slice a1 x1.2.length cq1].toArray) (x1.1, x1.2) from ⟨_, rfl, ⟨[.int .i64 x1.1], [.slice a1 x1.2.length cq1], rfl, rfl, r4.rv.rep1⟩⟩) o1.rv Ex2) ?_
  rintro _ w5 ⟨rfl, hx4⟩
  have k6 := k4.tr hx4
  have k7 := k5.tr hx4
  have k8 := hx3.tr hx4
  have hb6 := hb5.ext hx4
  have r6 := r4.ext hx4
  refine vl rfl rfl xas <| nl <| wp_seq <| rg <| vl rfl rfl (xlda rfl ti24 rfl (Bx.cs hb6)) <| ?_
  have hz := bs hF; obtain ⟨x3, Ex3, hF⟩ := hz
  refine cl rfl rfl (xc cb16 (mc rfl (mc rfl mn))) (c16 (show RV (α := (Int × (List (Int × Int × Int)))) _ (.agg [.int .i64 x1.1, .slice a1 x1.2.length cq1].toArray) (x1.1, x1.2) from ⟨_, rfl, ⟨[.int .i64 x1.1], [.slice a1 x1.2.length cq1], rfl, rfl, r6.rv.rep1⟩⟩) Ex3) ?_
  rintro _ w6 ⟨u2, rfl, r7, hx5⟩
  have k9 := k6.tr hx5
  have k10 := k7.tr hx5
  have k11 := k8.tr hx5
  have hb7 := hb6.ext hx5
  have r8 := r6.ext hx5
  have hz := id r7; obtain ⟨_, rfl, ⟨_, _, rfl, rfl, rfl⟩⟩ := hz
  refine vl rfl rfl xmv <| vl rfl rfl (xext rfl rfl) <| vl rfl rfl (xext rfl rfl) <| sal ti28 fun b3 w7 hx6 hg3 hb8 => ?_
  have k12 := k9.tr hx6
  have k13 := k10.tr hx6
  have k14 := k11.tr hx6
  have hb9 := hb7.ext hx6
  have r9 := r8.ext hx6
  have r10 := r7.ext hx6
  refine sst rfl rfl rfl ti28 hb8 rfl rfl (ble rfl) fun w8 hch2 hb10 => ?_
  have k15 := Ext.chg k12 hch2 (Nat.le_trans k9.size hg3)
  have k16 := Ext.chg k13 hch2 (Nat.le_trans k10.size hg3)
  have k17 := Ext.chg k14 hch2 (Nat.le_trans k11.size hg3)
  have k18 := Ext.chg hx6 hch2 (Nat.le_trans (Nat.le_refl _) hg3)
  have hb11 := hb7.ext k18
  have r11 := r8.ext k18
  have hb12 : Bx w8 b3 28 [.int .i64 x3.1.1, .int .i64 x3.1.2] := hb10
  refine vl rfl rfl xas <| nl <| wp_seq <| rg <| vl rfl rfl (xlda rfl ti24 rfl (Bx.cs hb11)) <| ?_
  have hz := bs hF; obtain ⟨x4, Ex4, hF⟩ := hz
  refine cl rfl rfl (xc cb16 (mc rfl (mc rfl mn))) (c16 (show RV (α := (Int × (List (Int × Int × Int)))) _ (.agg [.int .i64 x1.1, .slice a1 x1.2.length cq1].toArray) (x1.1, x1.2) from ⟨_, rfl, ⟨[.int .i64 x1.1], [.slice a1 x1.2.length cq1], rfl, rfl, r11.rv.rep1⟩⟩) Ex4) ?_
  rintro _ w9 ⟨u3, rfl, r12, hx7⟩
  have k19 := k15.tr hx7
  have k20 := k16.tr hx7
  have k21 := k17.tr hx7
  have k22 := k18.tr hx7
  have hb13 := hb11.ext hx7
  have r13 := r11.ext hx7
  have hb14 := hb12.ext hx7
  have hz := id r12; obtain ⟨_, rfl, ⟨_, _, rfl, rfl, rfl⟩⟩ := hz
  refine vl rfl rfl xmv <| vl rfl rfl (xext rfl rfl) <| vl rfl rfl (xext rfl rfl) <| sal ti28 fun b4 w10 hx8 hg4 hb15 => ?_
  have k23 := k19.tr hx8
  have k24 := k20.tr hx8
  have k25 := k21.tr hx8
  have k26 := k22.tr hx8
  have hb16 := hb13.ext hx8
  have r14 := r13.ext hx8
  have hb17 := hb14.ext hx8
  have r15 := r12.ext hx8
  refine sst rfl rfl rfl ti28 hb15 rfl rfl (ble rfl) fun w11 hch3 hb18 => ?_
  have k27 := Ext.chg k23 hch3 (Nat.le_trans k19.size hg4)
  have k28 := Ext.chg k24 hch3 (Nat.le_trans k20.size hg4)
  have k29 := Ext.chg k25 hch3 (Nat.le_trans k21.size hg4)
  have k30 := Ext.chg k26 hch3 (Nat.le_trans k22.size hg4)
  have k31 := Ext.chg hx8 hch3 (Nat.le_trans (Nat.le_refl _) hg4)
  have hb19 := hb13.ext k31
  have r16 := r13.ext k31
  have hb20 := hb14.ext k31
  have hb21 : Bx w11 b4 28 [.int .i64 x4.1.1, .int .i64 x4.1.2] := hb18
  refine vl rfl rfl xas <| nl <| wp_seq <| rg <| ?_
  have hz := bs hF; obtain ⟨x5, Ex5, hF⟩ := hz
  refine cl rfl rfl (xc cb48 mn) (c48 Ex5) ?_
  rintro _ w12 ⟨u4, rfl, r17, hx9⟩
  have k32 := k27.tr hx9
  have k33 := k28.tr hx9
  have k34 := k29.tr hx9
  have k35 := k30.tr hx9
  have k36 := k31.tr hx9
  have hb22 := hb19.ext hx9
  have r18 := r16.ext hx9
  have hb23 := hb20.ext hx9
  have hb24 := hb21.ext hx9
  have hz := id r17; obtain ⟨_, rfl, ⟨_, _, rfl, rfl, ⟨a2, cq2, rfl, p1, q1, e1⟩⟩⟩ := hz
  have r19 := RV.of1 p1 q1 e1
  refine sbsv (cs := [.int .i64 6, .int .i64 5, .int .i64 3, .int .i64 1]) Try.underlying36 ti3 rfl (pc rfl (pc rfl (pc rfl (pc rfl pn)))) rfl rfl rfl rfl rfl fun b5 w13 hx10 hg5 hb25 => ?_
  have k37 := k32.tr hx10
  have k38 := k33.tr hx10
  have k39 := k34.tr hx10
  have k40 := k35.tr hx10
  have k41 := k36.tr hx10
  have hb26 := hb22.ext hx10
  have r20 := r18.ext hx10
  have hb27 := hb23.ext hx10
  have hb28 := hb24.ext hx10
  have r21 := r19.ext hx10
  have r22 := r17.ext hx10
  have o2 : Row (α := Int) 3 w12.heap.size w13 (.slice (some ⟨b5, 0, none⟩) 4 4) [6, 5, 3, 1] := Row.lit hg5 hb25 rfl (ble rfl)
  have hz := bs hF; obtain ⟨x6, Ex6, hF⟩ := hz
  refine cl rfl rfl (xc cb45 (mc rfl (mc rfl mn))) (c45 r22 o2.rv Ex6) ?_
  rintro _ w14 ⟨rfl, hx11⟩
  have k42 := k37.tr hx11
  have k43 := k38.tr hx11
  have k44 := k39.tr hx11
  have k45 := k40.tr hx11
  have k46 := k41.tr hx11
  have k47 := hx10.tr hx11
  have hb29 := hb26.ext hx11
  have r24 := r20.ext hx11
  have hb30 := hb27.ext hx11
  have hb31 := hb28.ext hx11
  refine vl rfl rfl xas <| nl <| wp_seq <| rg <| ?_
  have hz := bs hF; obtain ⟨x7, Ex7, hF⟩ := hz
  refine cl rfl rfl (xc cb48 mn) (c48 Ex7) ?_
  rintro _ w15 ⟨u5, rfl, r25, hx12⟩
  have k48 := k42.tr hx12
  have k49 := k43.tr hx12
  have k50 := k44.tr hx12
  have k51 := k45.tr hx12
  have k52 := k46.tr hx12
  have k53 := k47.tr hx12
  have hb32 := hb29.ext hx12
  have r26 := r24.ext hx12
  have hb33 := hb30.ext hx12
  have hb34 := hb31.ext hx12
  have hz := id r25; obtain ⟨_, rfl, ⟨_, _, rfl, rfl, ⟨a3, cq3, rfl, p2, q2, e2⟩⟩⟩ := hz
  have r27 := RV.of1 p2 q2 e2
  have hz := bs hF; obtain ⟨x8, Ex8, hF⟩ := hz
  refine cl rfl rfl (xc cb16 (mc rfl (mc rfl mn))) (c16 r25 Ex8) ?_
  rintro _ w16 ⟨u6, rfl, r28, hx13⟩
  have k54 := k48.tr hx13
  have k55 := k49.tr hx13
  have k56 := k50.tr hx13
  have k57 := k51.tr hx13
  have k58 := k52.tr hx13
  have k59 := k53.tr hx13
  have hb35 := hb32.ext hx13
  have r29 := r26.ext hx13
  have hb36 := hb33.ext hx13
  have hb37 := hb34.ext hx13
  have hz := id r28; obtain ⟨_, rfl, ⟨_, _, rfl, rfl, rfl⟩⟩ := hz
  refine vl rfl rfl xmv <| vl rfl rfl (xext rfl rfl) <| vl rfl rfl (xext rfl rfl) <| sal ti28 fun b6 w17 hx14 hg6 hb38 => ?_
  have k60 := k54.tr hx14
  have k61 := k55.tr hx14
  have k62 := k56.tr hx14
  have k63 := k57.tr hx14
  have k64 := k58.tr hx14
  have k65 := k59.tr hx14
  have hb39 := hb35.ext hx14
  have r30 := r29.ext hx14
  have hb40 := hb36.ext hx14
  have hb41 := hb37.ext hx14
  have r31 := r28.ext hx14
  refine sst rfl rfl rfl ti28 hb38 rfl rfl (ble rfl) fun w18 hch4 hb42 => ?_
  have k66 := Ext.chg k60 hch4 (Nat.le_trans k54.size hg6)
  have k67 := Ext.chg k61 hch4 (Nat.le_trans k55.size hg6)
  have k68 := Ext.chg k62 hch4 (Nat.le_trans k56.size hg6)
  have k69 := Ext.chg k63 hch4 (Nat.le_trans k57.size hg6)
  have k70 := Ext.chg k64 hch4 (Nat.le_trans k58.size hg6)
  have k71 := Ext.chg k65 hch4 (Nat.le_trans k59.size hg6)
  have k72 := Ext.chg hx14 hch4 (Nat.le_trans (Nat.le_refl _) hg6)
  have hb43 := hb35.ext k72
  have r32 := r29.ext k72
  have hb44 := hb36.ext k72
  have hb45 := hb37.ext k72
  have hb46 : Bx w18 b6 28 [.int .i64 x8.1.1, .int .i64 x8.1.2] := hb42
  refine vl rfl rfl xas <| nl <| wp_seq <| rg <| vl rfl rfl (xlda rfl ti24 rfl (Bx.cs hb43)) <| ?_
  have hz := bs hF; obtain ⟨x9, Ex9, hF⟩ := hz
  refine cl rfl rfl (xc cb18 (mc rfl (mc rfl mn))) (c18 (show RV (α := (Int × (List (Int × Int × Int)))) _ (.agg [.int .i64 x1.1, .slice a1 x1.2.length cq1].toArray) (x1.1, x1.2) from ⟨_, rfl, ⟨[.int .i64 x1.1], [.slice a1 x1.2.length cq1], rfl, rfl, r32.rv.rep1⟩⟩) Ex9) ?_
  rintro _ w19 ⟨u7, rfl, r33, hx15⟩
  have k73 := k66.tr hx15
  have k74 := k67.tr hx15
  have k75 := k68.tr hx15
  have k76 := k69.tr hx15
  have k77 := k70.tr hx15
  have k78 := k71.tr hx15
  have k79 := k72.tr hx15
  have hb47 := hb44.ext hx15
  have hb48 := hb45.ext hx15
  have hz := RV.sl r33; obtain ⟨a4, cq4, rfl, -, -, -⟩ := hz
  refine vl rfl rfl xmv <| vl rfl rfl (xext rfl rfl) <| vl rfl rfl (xext rfl rfl) <| vl rfl rfl xas <| vl rfl rfl xas <| nl <| wp_seq <| ?_
  have hz := bs hF; obtain ⟨y1, hB1, hF⟩ := hz
  refine ct (fun L w => L 0 = .bool y1 ∧ Ext w19 w) ?_ ?_
  ·
    refine wpl [] (.pure true 0 (.pure true 1 (.pure true 2 (.pure true 3 (.pure true 4 (.pure true 5 (.pure true 6 (.pure true 7 (.pure true 8 (.pure true 9 (.pure true 10 (.pure true 11 (.pure true 12 (.pure true 13 (.pure true 14 (.pure true 15 (.pure true 16 (.pure true 17 (.pure true 18 (.pure true 19 (.pure true 20 (.pure true 21 (.pure true 22 (.pure false 23 (.eff 24 (.pure true 25 (.pure true 26 (.pure true 27 (.pure false 28 (.eff 29 (.pure true 30 (.pure true 31 (.pure true 32 (.pure true 33 (.eff 34 (.eff 35 (.pure true 36 (.pure true 37 (.eff 38 (.pure true 39 (.pure true 40 .fin)) .stop))) .stop) .stop))))) .stop))))) .stop))))))))))))))))))))))))) mixed (by kernel_rfl) (fun w20 hx16 => ?_)
    have k80 := k73.tr hx16
    have k81 := k74.tr hx16
    have k82 := k75.tr hx16
    have k83 := k76.tr hx16
    have k84 := k77.tr hx16
    have k85 := k78.tr hx16
    have k86 := k79.tr hx16
    have hb49 := hb47.ext hx16
    have hb50 := hb48.ext hx16
    have r34 := r33.ext hx16
    refine pv rfl rfl rfl (fun _ _ => xmv) (.inl rfl) <| pv rfl rfl rfl (fun _ _ => xeql rfl rfl) (.inl rfl) <| pv rfl rfl rfl (fun _ _ => xmv) (.inl rfl) <| ?_
    have hz := ifs hB1; obtain ⟨h1, hB1⟩ := hz
    refine pvt rfl rfl rfl rfl rfl rfl (bt h1) rfl (fun _ _ => xmv) (.inl rfl) <| pvt rfl rfl rfl rfl rfl rfl (bt h1) rfl (fun _ _ => xeql rfl rfl) (.inl rfl) <| pv rfl rfl rfl (fun _ _ => xpt rfl h1 rfl) (.inl rfl) <| pv rfl rfl rfl (fun _ _ => xmv) (.inl rfl) <| ?_
    have hz := ifs hB1; obtain ⟨h2, hB1⟩ := hz
    refine pvt rfl rfl rfl rfl rfl rfl (bt h2) rfl (fun _ _ => xmv) (.inl rfl) <| pvt rfl rfl rfl rfl rfl rfl (bt h2) rfl (fun _ _ => xeql rfl rfl) (.inl rfl) <| pv rfl rfl rfl (fun _ _ => xpt rfl h2 rfl) (.inl rfl) <| pv rfl rfl rfl (fun _ _ => xmv) (.inl rfl) <| ?_
    have hz := ifs hB1; obtain ⟨h3, hB1⟩ := hz
    refine pvt rfl rfl rfl rfl rfl rfl (bt h3) rfl (fun _ _ => xmv) (.inl rfl) <| pvt rfl rfl rfl rfl rfl rfl (bt h3) rfl (fun _ _ => xeql rfl rfl) (.inl rfl) <| pv rfl rfl rfl (fun _ _ => xpt rfl h3 rfl) (.inl rfl) <| pv rfl rfl rfl (fun _ _ => xmv) (.inl rfl) <| ?_
    have hz := ifs hB1; obtain ⟨h4, hB1⟩ := hz
    refine pvt rfl rfl rfl rfl rfl rfl (bt h4) rfl (fun _ _ => xmv) (.inl rfl) <| pvt rfl rfl rfl rfl rfl rfl (bt h4) rfl (fun _ _ => xeql rfl rfl) (.inl rfl) <| pv rfl rfl rfl (fun _ _ => xpt rfl h4 rfl) (.inl rfl) <| pv rfl rfl rfl (fun _ _ => xmv) (.inl rfl) <| ?_
    have hz := ifs hB1; obtain ⟨h5, hB1⟩ := hz
    refine pvt rfl rfl rfl rfl rfl rfl (bt h5) rfl (fun _ _ => xmv) (.inl rfl) <| pvt rfl rfl rfl rfl rfl rfl (bt h5) rfl (fun _ _ => xeql rfl rfl) (.inl rfl) <| pv rfl rfl rfl (fun _ _ => xpt rfl h5 rfl) (.inl rfl) <| pv rfl rfl rfl (fun _ _ => xmv) (.inl rfl) <| ?_
    have hz := ifs hB1; obtain ⟨h6, hB1⟩ := hz
    refine pvt rfl rfl rfl rfl rfl rfl (bt h6) rfl (fun _ hS => xlda rfl ti28 rfl (Bx.cs (hb49.ext (hS.resolve_left nofun)))) (.inr (Ext.refl _)) <| ?_
    have hz := bs hB1; obtain ⟨x10, Ex10, hB1⟩ := hz
    refine pe1 rfl <| gtk rfl rfl rfl rfl rfl (bt h6) <| cl rfl rfl (xc cb34 (mc rfl (mc rfl mn))) (c34 Ex10) ?_
    rintro _ w21 ⟨u8, rfl, r35, hx17⟩
    have k87 := k80.tr hx17
    have k88 := k81.tr hx17
    have k89 := k82.tr hx17
    have k90 := k83.tr hx17
    have k91 := k84.tr hx17
    have k92 := k85.tr hx17
    have k93 := k86.tr hx17
    have k94 := hx16.tr hx17
    have hb51 := hb50.ext hx17
    have r36 := r34.ext hx17
    have hz := id r35; obtain ⟨_, rfl, ⟨_, _, rfl, rfl, rfl⟩⟩ := hz
    refine nl ⟨fun _ _ => hx17, ?_⟩
    refine pvt rfl rfl rfl rfl rfl rfl (bt h6) rfl (fun _ _ => xage (α := (Int × Int)) (a := (x3.1.1, x3.1.2)) (b := x10) rfl eg28 eq28 rfl rfl rfl rfl rfl) (.inl rfl) <| pv rfl rfl rfl (fun _ _ => xpt rfl h6 rfl) (.inl rfl) <| pv rfl rfl rfl (fun _ _ => xmv) (.inl rfl) <| ?_
    have hz := ifs hB1; obtain ⟨h7, hB1⟩ := hz
    refine pvt rfl rfl rfl rfl rfl rfl (bt h7) rfl (fun _ hS => xlda rfl ti28 rfl (Bx.cs (hb50.ext (hS.resolve_left nofun)))) (.inr hx17) <| ?_
    have hz := bs hB1; obtain ⟨x11, Ex11, hB1⟩ := hz
    refine pe1 rfl <| gtk rfl rfl rfl rfl rfl (bt h7) <| cl rfl rfl (xc cb34 (mc rfl (mc rfl mn))) (c34 Ex11) ?_
    rintro _ w22 ⟨u9, rfl, r37, hx18⟩
    have k95 := k87.tr hx18
    have k96 := k88.tr hx18
    have k97 := k89.tr hx18
    have k98 := k90.tr hx18
    have k99 := k91.tr hx18
    have k100 := k92.tr hx18
    have k101 := k93.tr hx18
    have k102 := k94.tr hx18
    have k103 := hx17.tr hx18
    have r38 := r36.ext hx18
    have hz := id r37; obtain ⟨_, rfl, ⟨_, _, rfl, rfl, rfl⟩⟩ := hz
    refine nl ⟨fun _ _ => k103, ?_⟩
    refine pvt rfl rfl rfl rfl rfl rfl (bt h7) rfl (fun _ _ => xage (α := (Int × Int)) (a := (x4.1.1, x4.1.2)) (b := x11) rfl eg28 eq28 rfl rfl rfl rfl rfl) (.inl rfl) <| pv rfl rfl rfl (fun _ _ => xpt rfl h7 rfl) (.inl rfl) <| pv rfl rfl rfl (fun _ _ => xmv) (.inl rfl) <| ?_
    have hz := ifs hB1; obtain ⟨h8, hB1⟩ := hz
    refine pvt rfl rfl rfl rfl rfl rfl (bt h8) rfl (fun _ _ => xmv) (.inl rfl) <| pe1 rfl <| gtk rfl rfl rfl rfl rfl (bt h8) <| sbsv (cs := [.int .i64 16000, .int .i64 15700, .int .i64 15400]) Try.underlying32 ti2 rfl (pc rfl (pc rfl (pc rfl pn))) rfl rfl rfl rfl rfl fun b7 w23 hx19 hg7 hb52 => ?_
    have k104 := k95.tr hx19
    have k105 := k96.tr hx19
    have k106 := k97.tr hx19
    have k107 := k98.tr hx19
    have k108 := k99.tr hx19
    have k109 := k100.tr hx19
    have k110 := k101.tr hx19
    have k111 := k102.tr hx19
    have k112 := k103.tr hx19
    have r39 := r38.ext hx19
    have o3 : Row (α := Int) 2 w22.heap.size w23 (.slice (some ⟨b7, 0, none⟩) 3 3) [16000, 15700, 15400] := Row.lit hg7 hb52 rfl (ble rfl)
    refine nl ⟨fun _ _ => k112, ?_⟩
    have hz := bs hB1; obtain ⟨x12, Ex12, hB1⟩ := hz
    refine pe1 rfl <| gtk rfl rfl rfl rfl rfl (bt h8) <| cl rfl rfl (xc cb24 (mc rfl (mc rfl mn))) (c24 r39 o3.rv Ex12) ?_
    rintro _ w24 ⟨rfl, hx20⟩
    have k113 := k104.tr hx20
    have k114 := k105.tr hx20
    have k115 := k106.tr hx20
    have k116 := k107.tr hx20
    have k117 := k108.tr hx20
    have k118 := k109.tr hx20
    have k119 := k110.tr hx20
    have k120 := k111.tr hx20
    have k121 := k112.tr hx20
    have k122 := hx19.tr hx20
    refine nl ⟨fun _ _ => k121, ?_⟩
    refine pv rfl rfl rfl (fun _ _ => xpt rfl h8 rfl) (.inl rfl) <| pv rfl rfl rfl (fun _ _ => xmv) (.inl rfl) <| ?_
    have hz := ifs hB1; obtain ⟨h9, hB1⟩ := hz
    have hz := bs hB1; obtain ⟨x13, Ex13, hB1⟩ := hz
    refine pe1 rfl <| gtk rfl rfl rfl rfl rfl (bt h9) <| cl rfl rfl (xc cb15 mn) (c15 Ex13) ?_
    rintro _ w25 ⟨rfl, hx21⟩
    have k123 := k113.tr hx21
    have k124 := k114.tr hx21
    have k125 := k115.tr hx21
    have k126 := k116.tr hx21
    have k127 := k117.tr hx21
    have k128 := k118.tr hx21
    have k129 := k119.tr hx21
    have k130 := k120.tr hx21
    have k131 := k121.tr hx21
    have k132 := k122.tr hx21
    refine nl ⟨fun _ _ => k131, ?_⟩
    refine pv rfl rfl rfl (fun _ _ => xpt rfl h9 rfl) (.inl rfl) <| pv rfl rfl rfl (fun _ _ => xas) (.inl rfl) <| ?_
    cases hB1
    refine lf <| ?_
    exact ⟨rfl, k130⟩
  rintro L w26 ⟨l0_j1, K0_j1⟩
  have k133 := k73.tr K0_j1
  have k134 := k74.tr K0_j1
  have k135 := k75.tr K0_j1
  have k136 := k76.tr K0_j1
  have k137 := k77.tr K0_j1
  have k138 := k78.tr K0_j1
  have k139 := k79.tr K0_j1
  cases hF
  exact wp_ret <| rt rfl (.tmp l0_j1 rfl .nil) ⟨rfl, k133⟩

set_option maxHeartbeats 4000000 in
theorem c8 {w0 : World} {x0 : Int} {x1 : Int} {x2 : Int} {x3 : Int} {F : Nat} {r : Bool} (hF : law01_SpeedHeard F x0 x1 x2 x3 = some r) :
    Calls Try.prog 8 [.int .u32 x0, .int .u32 x1, .int .u32 x2, .int .u32 x3].toArray w0 (Ret fun v w' => v = .bool r ∧ Ext w0 w') := by
  unfold law01_SpeedHeard at hF
  refine entr (n := 119) Try.func8 rfl rfl rfl <| wp_seq <| rg <| vl rfl rfl xas <| nl <| wp_seq <| rg <| vl rfl rfl xmv <| vl rfl rfl (xcvt rfl Try.underlying62 Try.underlying2) <| vl rfl rfl (xrem rfl rfl (by decide)) <| vl rfl rfl (xadd rfl rfl) <| vl rfl rfl xmv <| vl rfl rfl (xcvt rfl Try.underlying62 Try.underlying2) <| vl rfl rfl (xrem rfl rfl (by decide)) <| vl rfl rfl (xadd rfl rfl) <| vl rfl rfl xas <| vl rfl rfl xas <| nl <| wp_seq <| rg <| vl rfl rfl xmv <| vl rfl rfl xmv <| vl rfl rfl (xcvt rfl Try.underlying62 Try.underlying2) <| vl rfl rfl (xadd rfl rfl) <| vl rfl rfl (xmin rfl rfl) <| vl rfl rfl xas <| nl <| wp_seq <| rg <| vl rfl rfl xmv <| vl rfl rfl (xcvt rfl Try.underlying62 Try.underlying2) <| vl rfl rfl (xrem rfl rfl (by decide)) <| vl rfl rfl xas <| nl <| wp_seq <| rg <| vl rfl rfl xmv <| vl rfl rfl xmv <| vl rfl rfl xmv <| ?_
  have hz := bs hF; obtain ⟨x5, Ex5, hF⟩ := hz
  refine cl rfl rfl (xc cb34 (mc rfl (mc rfl mn))) (c34 Ex5) ?_
  rintro _ w1 ⟨u1, rfl, r5, hx1⟩
  have hz := id r5; obtain ⟨_, rfl, ⟨_, _, rfl, rfl, rfl⟩⟩ := hz
  have hz := bs hF; obtain ⟨x6, Ex6, hF⟩ := hz
  refine cl rfl rfl (xc cb26 (mc rfl (mc rfl (mc rfl mn)))) (c26 r5 Ex6) ?_
  rintro _ w2 ⟨u2, rfl, r6, hx2⟩
  have k1 := hx1.tr hx2
  have hz := RV.sl r6; obtain ⟨a1, cq1, rfl, -, -, -⟩ := hz
  refine vl rfl rfl xmv <| vl rfl rfl (xext rfl rfl) <| vl rfl rfl (xext rfl rfl) <| vl rfl rfl xas <| vl rfl rfl xas <| nl <| wp_seq <| rg <| vl rfl rfl xmv <| vl rfl rfl xmv <| vl rfl rfl xmv <| vl rfl rfl xmv <| ?_
  have hz := bs hF; obtain ⟨x7, Ex7, hF⟩ := hz
  refine cl rfl rfl (xc cb34 (mc rfl (mc rfl mn))) (c34 Ex7) ?_
  rintro _ w3 ⟨u3, rfl, r7, hx3⟩
  have k2 := k1.tr hx3
  have r8 := r6.ext hx3
  have hz := id r7; obtain ⟨_, rfl, ⟨_, _, rfl, rfl, rfl⟩⟩ := hz
  have hz := bs hF; obtain ⟨x8, Ex8, hF⟩ := hz
  refine cl rfl rfl (xc cb40 (mc rfl (mc rfl (mc rfl mn)))) (c40 r7 Ex8) ?_
  rintro _ w4 ⟨rfl, hx4⟩
  have k3 := k2.tr hx4
  have r9 := r8.ext hx4
  refine vl rfl rfl xas <| nl <| wp_seq <| wp_seq <| rg <| vl rfl rfl xmv <| vl rfl rfl (xeql rfl rfl) <| nl <| cnd rfl (fun h5 => ?_) (fun h5 => ?_)
  ·
    have hF := ifp hF h5
    refine wp_seq <| ?_
    have hz := bs hF; obtain ⟨y1, hB1, hF⟩ := hz
    refine ct (fun L w => L 8 = .bool y1 ∧ Ext w4 w) ?_ ?_
    ·
      refine rg <| vl rfl rfl xmv <| vl rfl rfl (xnot rfl) <| vl rfl rfl xmv <| ?_
      have hz := ifs hB1; obtain ⟨h6, hB1⟩ := hz
      have hz := bs hB1; obtain ⟨x9, Ex9, hB1⟩ := hz
      refine gtk rfl rfl rfl rfl rfl (bt h6) <| cl rfl rfl (xc cb15 mn) (c15 Ex9) ?_
      rintro _ w5 ⟨rfl, hx5⟩
      have k4 := k3.tr hx5
      refine vl rfl rfl (xpt rfl h6 rfl) <| vl rfl rfl xas <| nl <| ?_
      cases hB1
      refine lf <| ?_
      exact ⟨rfl, hx5⟩
    rintro L w6 ⟨l8_j1, K0_j1⟩
    have k5 := k3.tr K0_j1
    cases hF
    exact wp_ret <| rt rfl (.tmp l8_j1 rfl .nil) ⟨rfl, k5⟩
  ·
    have hF := ifn hF h5
    refine wp_skip <| wp_seq <| wp_seq <| ?_
    have hz := bs hF; obtain ⟨y2, hB2, hF⟩ := hz
    refine ct (fun L w => L 62 = .bool y2 ∧ L 9 = .int .i64 (w64 (1 + (Int.tmod (w64 x0) 1000000))) ∧ L 10 = .int .i64 (w64 (1 + (Int.tmod (w64 x1) 1000000))) ∧ L 11 = .int .i64 (if (w64 ((w64 (1 + (Int.tmod (w64 x1) 1000000))) + (w64 x2))) < 1000000 then (w64 ((w64 (1 + (Int.tmod (w64 x1) 1000000))) + (w64 x2))) else 1000000) ∧ L 12 = .int .i64 (Int.tmod (w64 x3) 100001) ∧ L 13 = .slice a1 x6.1.length cq1 ∧ L 15 = .bool x8 ∧ Ext w4 w) ?_ ?_
    ·
      refine rg <| vl rfl rfl xmv <| vl rfl rfl (xneq rfl rfl) <| vl rfl rfl xmv <| ?_
      have hz := ifsn hB2; obtain ⟨h7, hB2⟩ := hz
      refine gtk rfl rfl rfl rfl rfl (bf h7) <| vl rfl rfl xmv <| gtk rfl rfl rfl rfl rfl (bf h7) <| vl rfl rfl (xlen rfl Try.underlying22) <| gtk rfl rfl rfl rfl rfl (bf h7) <| vl rfl rfl (xneq rfl rfl) <| vl rfl rfl (xpf rfl h7 rfl) <| nl <| ?_
      cases hB2
      refine lf <| ?_
      exact ⟨rfl, rfl, rfl, rfl, rfl, rfl, rfl, (Ext.refl _)⟩
    rintro L w7 ⟨l62_j2, l9_j2, l10_j2, l11_j2, l12_j2, l13_j2, l15_j2, K0_j2⟩
    have k6 := k3.tr K0_j2
    have r10 := r9.ext K0_j2
    refine cnd l62_j2 (fun h8 => ?_) (fun h8 => ?_)
    ·
      have hF := ifp hF h8
      refine wp_seq <| rg <| vl rfl rfl xas <| nl <| ?_
      cases hF
      exact wp_ret <| rt rfl (.tmp rfl rfl .nil) ⟨rfl, k6⟩
    ·
      have hF := ifn hF h8
      refine wp_skip <| wp_seq <| rg <| vl rfl rfl xmv <| vl rfl rfl (xbdv (r := [.int .i64 1, .slice a1 x6.1.length cq1]) ti24 sp24 (pc rfl (pc l13_j2 pn)) rfl) <| sal ti24 fun b5 w8 hx6 hg1 hb1 => ?_
      have k7 := k6.tr hx6
      have k8 := K0_j2.tr hx6
      have r11 := r10.ext hx6
      refine sst rfl rfl rfl ti24 hb1 rfl rfl (ble rfl) fun w9 hch1 hb2 => ?_
      have k9 := Ext.chg k7 hch1 (Nat.le_trans k6.size hg1)
      have k10 := Ext.chg k8 hch1 (Nat.le_trans K0_j2.size hg1)
      have k11 := Ext.chg hx6 hch1 (Nat.le_trans (Nat.le_refl _) hg1)
      have r12 := r10.ext k11
      have hb3 : Bx w9 b5 24 [.int .i64 1, .slice a1 x6.1.length cq1] := hb2
      refine nl <| wp_seq <| wp_seq <| rg <| vl rfl rfl (xlda rfl ti24 rfl (Bx.cs hb3)) <| ?_
      have hz := bs hF; obtain ⟨x10, Ex10, hF⟩ := hz
      refine cl rfl rfl (xc cb36 (mc rfl mn)) (c36 (show RV (α := (Int × (List (Int × Int × Int)))) _ (.agg [.int .i64 1, .slice a1 x6.1.length cq1].toArray) (1, x6.1) from ⟨_, rfl, ⟨[.int .i64 1], [.slice a1 x6.1.length cq1], rfl, rfl, r12.rep1⟩⟩) Ex10) ?_
      rintro _ w10 ⟨rfl, hx7⟩
      have k12 := k9.tr hx7
      have k13 := k10.tr hx7
      have k14 := k11.tr hx7
      have hb4 := hb3.ext hx7
      have r13 := r12.ext hx7
      refine vl rfl rfl (xneq rfl rfl) <| nl <| cnd rfl (fun h9 => ?_) (fun h9 => ?_)
      ·
        have hF := ifp hF h9
        refine wp_seq <| rg <| vl rfl rfl xas <| nl <| ?_
        cases hF
        exact wp_ret <| rt rfl (.tmp rfl rfl .nil) ⟨rfl, k12⟩
      ·
        have hF := ifn hF h9
        refine wp_skip <| wp_seq <| rg <| vl rfl rfl (xlda rfl ti24 rfl (Bx.cs hb4)) <| ?_
        have hz := bs hF; obtain ⟨x11, Ex11, hF⟩ := hz
        refine cl rfl rfl (xc cb16 (mc rfl (mc rfl mn))) (c16 (show RV (α := (Int × (List (Int × Int × Int)))) _ (.agg [.int .i64 1, .slice a1 x6.1.length cq1].toArray) (1, x6.1) from ⟨_, rfl, ⟨[.int .i64 1], [.slice a1 x6.1.length cq1], rfl, rfl, r13.rep1⟩⟩) Ex11) ?_
        rintro _ w11 ⟨u4, rfl, r14, hx8⟩
        have k15 := k12.tr hx8
        have k16 := k13.tr hx8
        have k17 := k14.tr hx8
        have hb5 := hb4.ext hx8
        have r15 := r13.ext hx8
        have hz := id r14; obtain ⟨_, rfl, ⟨_, _, rfl, rfl, rfl⟩⟩ := hz
        refine vl rfl rfl xmv <| vl rfl rfl (xext rfl rfl) <| vl rfl rfl (xext rfl rfl) <| sal ti28 fun b6 w12 hx9 hg2 hb6 => ?_
        have k18 := k15.tr hx9
        have k19 := k16.tr hx9
        have k20 := k17.tr hx9
        have hb7 := hb5.ext hx9
        have r16 := r15.ext hx9
        have r17 := r14.ext hx9
        refine sst rfl rfl rfl ti28 hb6 rfl rfl (ble rfl) fun w13 hch2 hb8 => ?_
        have k21 := Ext.chg k18 hch2 (Nat.le_trans k15.size hg2)
        have k22 := Ext.chg k19 hch2 (Nat.le_trans k16.size hg2)
        have k23 := Ext.chg k20 hch2 (Nat.le_trans k17.size hg2)
        have k24 := Ext.chg hx9 hch2 (Nat.le_trans (Nat.le_refl _) hg2)
        have hb9 := hb5.ext k24
        have r18 := r15.ext k24
        have hb10 : Bx w13 b6 28 [.int .i64 x11.1.1, .int .i64 x11.1.2] := hb8
        refine vl rfl rfl xas <| nl <| wp_seq <| ?_
        have hz := bs hF; obtain ⟨y3, hB3, hF⟩ := hz
        refine ct (fun L w => L 8 = .bool y3 ∧ Ext w13 w) ?_ ?_
        ·
          refine wpl [] (.pure true 0 (.pure true 1 (.pure true 2 (.pure false 3 (.pure true 4 (.pure true 8 (.eff 5 (.eff 6 (.pure true 7 (.pure true 9 (.pure true 10 (.pure true 11 (.pure true 12 (.pure true 13 (.pure false 14 (.pure true 15 (.pure true 16 (.eff 17 (.eff 18 (.pure true 19 (.pure true 20 (.pure true 21 (.pure true 22 (.pure false 23 (.pure true 24 (.pure true 25 (.eff 26 (.eff 27 (.pure true 28 (.pure true 29 (.pure true 30 (.pure true 31 (.pure false 32 (.pure true 33 (.pure true 34 (.pure true 35 (.pure true 36 (.pure false 37 (.pure true 38 (.pure true 39 (.pure true 40 (.pure true 41 (.pure true 42 (.pure true 43 (.eff 44 (.pure true 45 (.pure true 46 .fin)) .stop))))))))))))))))) .stop) .stop)))))))) .stop) .stop)))))))))) .stop) .stop))))))) mixed (by kernel_rfl) (fun w14 hx10 => ?_)
          have k25 := k21.tr hx10
          have k26 := k22.tr hx10
          have k27 := k23.tr hx10
          have k28 := k24.tr hx10
          have hb11 := hb9.ext hx10
          have r19 := r18.ext hx10
          have hb12 := hb10.ext hx10
          refine pv rfl rfl rfl (fun _ _ => xmv) (.inl rfl) <| pv rfl rfl rfl (fun _ _ => xeql rfl rfl) (.inl rfl) <| pv rfl rfl rfl (fun _ _ => xmv) (.inl rfl) <| ?_
          have hz := ifs hB3; obtain ⟨h10, hB3⟩ := hz
          refine pvt rfl rfl rfl rfl rfl rfl (bt h10) rfl (fun _ hS => xlda rfl ti24 rfl (Bx.cs (hb11.ext (hS.resolve_left nofun)))) (.inr (Ext.refl _)) <| pvt rfl rfl rfl rfl rfl rfl (bt h10) rfl (fun _ _ => xmv) (.inl rfl) <| pvt rfl rfl rfl rfl rfl rfl (bt h10) rfl (fun _ _ => xmv) (.inl rfl) <| pe1 rfl <| gtk rfl rfl rfl rfl rfl (bt h10) <| sbsv (cs := [.int .i64 (Int.tmod (w64 x3) 100001)]) Try.underlying32 ti2 rfl (pc l12_j2 pn) rfl rfl rfl rfl rfl fun b7 w15 hx11 hg3 hb13 => ?_
          have k29 := k25.tr hx11
          have k30 := k26.tr hx11
          have k31 := k27.tr hx11
          have k32 := k28.tr hx11
          have k33 := hx10.tr hx11
          have hb14 := hb12.ext hx11
          have r20 := r19.ext hx11
          have o1 : Row (α := Int) 2 w14.heap.size w15 (.slice (some ⟨b7, 0, none⟩) 1 1) [Int.tmod (w64 x3) 100001] := Row.lit hg3 hb13 rfl (ble rfl)
          refine nl ⟨fun _ _ => hx11, ?_⟩
          have hz := bs hB3; obtain ⟨x12, Ex12, hB3⟩ := hz
          refine pe1 rfl <| gtk rfl rfl rfl rfl rfl (bt h10) <| cl rfl rfl (xc cb33 (mc rfl (mc rfl mn))) (c33 (show RV (α := (Int × (List (Int × Int × Int)))) _ (.agg [.int .i64 1, .slice a1 x6.1.length cq1].toArray) (1, x6.1) from ⟨_, rfl, ⟨[.int .i64 1], [.slice a1 x6.1.length cq1], rfl, rfl, r20.rep1⟩⟩) o1.rv Ex12) ?_
          rintro _ w16 ⟨rfl, hx12⟩
          have k34 := k29.tr hx12
          have k35 := k30.tr hx12
          have k36 := k31.tr hx12
          have k37 := k32.tr hx12
          have k38 := k33.tr hx12
          have k39 := hx11.tr hx12
          have hb15 := hb14.ext hx12
          refine nl ⟨fun _ _ => k39, ?_⟩
          refine pvt rfl rfl rfl rfl rfl rfl (bt h10) rfl (fun _ _ => xeql rfl rfl) (.inl rfl) <| pvt rfl rfl rfl rfl rfl rfl (bt h10) rfl (fun _ _ => xeqb Try.underlying4 rfl l15_j2) (.inl rfl) <| pv rfl rfl rfl (fun _ _ => xpt rfl h10 rfl) (.inl rfl) <| pv rfl rfl rfl (fun _ _ => xmv) (.inl rfl) <| ?_
          have hz := ifs hB3; obtain ⟨h11, hB3⟩ := hz
          refine pvt rfl rfl rfl rfl rfl rfl (bt h11) rfl (fun _ _ => xmv) (.inl rfl) <| pvt rfl rfl rfl rfl rfl rfl (bt h11) rfl (fun _ _ => xfa rfl fa28_0) (.inl rfl) <| pvt rfl rfl rfl rfl rfl rfl (bt h11) rfl (fun _ hS => xld rfl ti2 ((Bx.cs (hb12.ext (hS.resolve_left nofun))).at 0 rfl)) (.inr k39) <| pvt rfl rfl rfl rfl rfl rfl (bt h11) rfl (fun _ _ => xmv) (.inl rfl) <| pvt rfl rfl rfl rfl rfl rfl (bt h11) rfl (fun _ _ => xmv) (.inl rfl) <| ?_
          have hz := bs hB3; obtain ⟨x13, Ex13, hB3⟩ := hz
          refine pe1 rfl <| gtk rfl rfl rfl rfl rfl (bt h11) <| cl rfl rfl (xc cb34 (mc l10_j2 (mc l11_j2 mn))) (c34 Ex13) ?_
          rintro _ w17 ⟨u5, rfl, r22, hx13⟩
          have k40 := k34.tr hx13
          have k41 := k35.tr hx13
          have k42 := k36.tr hx13
          have k43 := k37.tr hx13
          have k44 := k38.tr hx13
          have k45 := k39.tr hx13
          have hb16 := hb15.ext hx13
          have hz := id r22; obtain ⟨_, rfl, ⟨_, _, rfl, rfl, rfl⟩⟩ := hz
          refine nl ⟨fun _ _ => k45, ?_⟩
          have hz := bs hB3; obtain ⟨x14, Ex14, hB3⟩ := hz
          refine pe1 rfl <| gtk rfl rfl rfl rfl rfl (bt h11) <| cl rfl rfl (xc cb40 (mc l9_j2 (mc rfl (mc rfl mn)))) (c40 r22 Ex14) ?_
          rintro _ w18 ⟨rfl, hx14⟩
          have k46 := k40.tr hx14
          have k47 := k41.tr hx14
          have k48 := k42.tr hx14
          have k49 := k43.tr hx14
          have k50 := k44.tr hx14
          have k51 := k45.tr hx14
          have hb17 := hb16.ext hx14
          refine nl ⟨fun _ _ => k51, ?_⟩
          refine pv rfl rfl rfl (fun _ _ => xpt rfl h11 rfl) (.inl rfl) <| pv rfl rfl rfl (fun _ _ => xmv) (.inl rfl) <| ?_
          have hz := ifs hB3; obtain ⟨h12, hB3⟩ := hz
          refine pvt rfl rfl rfl rfl rfl rfl (bt h12) rfl (fun _ _ => xmv) (.inl rfl) <| pvt rfl rfl rfl rfl rfl rfl (bt h12) rfl (fun _ _ => xfa rfl fa28_1) (.inl rfl) <| pvt rfl rfl rfl rfl rfl rfl (bt h12) rfl (fun _ hS => xld rfl ti2 ((Bx.cs (hb12.ext (hS.resolve_left nofun))).at 1 rfl)) (.inr k51) <| pvt rfl rfl rfl rfl rfl rfl (bt h12) rfl (fun _ _ => xmv) (.inl rfl) <| pvt rfl rfl rfl rfl rfl rfl (bt h12) rfl (fun _ _ => xmv) (.inl rfl) <| ?_
          have hz := bs hB3; obtain ⟨x15, Ex15, hB3⟩ := hz
          refine pe1 rfl <| gtk rfl rfl rfl rfl rfl (bt h12) <| cl rfl rfl (xc cb34 (mc l10_j2 (mc l11_j2 mn))) (c34 Ex15) ?_
          rintro _ w19 ⟨u6, rfl, r23, hx15⟩
          have k52 := k46.tr hx15
          have k53 := k47.tr hx15
          have k54 := k48.tr hx15
          have k55 := k49.tr hx15
          have k56 := k50.tr hx15
          have k57 := k51.tr hx15
          have hb18 := hb17.ext hx15
          have hz := id r23; obtain ⟨_, rfl, ⟨_, _, rfl, rfl, rfl⟩⟩ := hz
          refine nl ⟨fun _ _ => k57, ?_⟩
          have hz := bs hB3; obtain ⟨x16, Ex16, hB3⟩ := hz
          refine pe1 rfl <| gtk rfl rfl rfl rfl rfl (bt h12) <| cl rfl rfl (xc cb40 (mc l9_j2 (mc rfl (mc rfl mn)))) (c40 r23 Ex16) ?_
          rintro _ w20 ⟨rfl, hx16⟩
          have k58 := k52.tr hx16
          have k59 := k53.tr hx16
          have k60 := k54.tr hx16
          have k61 := k55.tr hx16
          have k62 := k56.tr hx16
          have k63 := k57.tr hx16
          have hb19 := hb18.ext hx16
          refine nl ⟨fun _ _ => k63, ?_⟩
          refine pv rfl rfl rfl (fun _ _ => xpt rfl h12 rfl) (.inl rfl) <| pv rfl rfl rfl (fun _ _ => xmv) (.inl rfl) <| ?_
          have hz := ifs hB3; obtain ⟨h13, hB3⟩ := hz
          refine pvt rfl rfl rfl rfl rfl rfl (bt h13) rfl (fun _ _ => xmv) (.inl rfl) <| pvt rfl rfl rfl rfl rfl rfl (bt h13) rfl (fun _ _ => xfa rfl fa28_0) (.inl rfl) <| pvt rfl rfl rfl rfl rfl rfl (bt h13) rfl (fun _ hS => xld rfl ti2 ((Bx.cs (hb12.ext (hS.resolve_left nofun))).at 0 rfl)) (.inr k63) <| pvt rfl rfl rfl rfl rfl rfl (bt h13) rfl (fun _ _ => xgeq l12_j2 rfl) (.inl rfl) <| pvt rfl rfl rfl rfl rfl rfl (bt h13) rfl (fun _ _ => xmv) (.inl rfl) <| ?_
          refine Or.elim (Bool.eq_false_or_eq_true (decide (x11.1.1 ≤ (Int.tmod (w64 x3) 100001)))) (fun h14 => ?_) (fun h14 => ?_)
          ·
            have hB3 := ifp hB3 h14
            refine pvt rfl rfl rfl rfl rfl rfl (bt h14) rfl (fun _ _ => xmv) (.inl rfl) <| pvt rfl rfl rfl rfl rfl rfl (bt h14) rfl (fun _ _ => xfa rfl fa28_1) (.inl rfl) <| pvt rfl rfl rfl rfl rfl rfl (bt h14) rfl (fun _ hS => xld rfl ti2 ((Bx.cs (hb12.ext (hS.resolve_left nofun))).at 1 rfl)) (.inr k63) <| pvt rfl rfl rfl rfl rfl rfl (bt h14) rfl (fun _ _ => xleq l12_j2 rfl) (.inl rfl) <| pvt rfl rfl rfl rfl rfl rfl (bt h13) rfl (fun _ _ => xpt rfl h14 rfl) (.inl rfl) <| pvt rfl rfl rfl rfl rfl rfl (bt h13) rfl (fun _ _ => xmv) (.inl rfl) <| pvt rfl rfl rfl rfl rfl rfl (bt h13) rfl (fun _ _ => xeqb Try.underlying4 rfl l15_j2) (.inl rfl) <| pv rfl rfl rfl (fun _ _ => xpt rfl h13 rfl) (.inl rfl) <| pv rfl rfl rfl (fun _ _ => xmv) (.inl rfl) <| ?_
            have hz := ifs hB3; obtain ⟨h15, hB3⟩ := hz
            have hz := bs hB3; obtain ⟨x17, Ex17, hB3⟩ := hz
            refine pe1 rfl <| gtk rfl rfl rfl rfl rfl (bt h15) <| cl rfl rfl (xc cb15 mn) (c15 Ex17) ?_
            rintro _ w21 ⟨rfl, hx17⟩
            have k64 := k58.tr hx17
            have k65 := k59.tr hx17
            have k66 := k60.tr hx17
            have k67 := k61.tr hx17
            have k68 := k62.tr hx17
            have k69 := k63.tr hx17
            refine nl ⟨fun _ _ => k69, ?_⟩
            refine pv rfl rfl rfl (fun _ _ => xpt rfl h15 rfl) (.inl rfl) <| pv rfl rfl rfl (fun _ _ => xas) (.inl rfl) <| ?_
            cases hB3
            refine lf <| ?_
            exact ⟨rfl, k68⟩
          ·
            have hB3 := ifn hB3 h14
            refine pvf rfl rfl rfl rfl rfl rfl (bft h14) rfl (.inl rfl) <| pvf rfl rfl rfl rfl rfl rfl (bft h14) rfl (.inl rfl) <| pvf rfl rfl rfl rfl rfl rfl (bft h14) rfl (.inr k63) <| pvf rfl rfl rfl rfl rfl rfl (bft h14) rfl (.inl rfl) <| pvt rfl rfl rfl rfl rfl rfl (bt h13) rfl (fun _ _ => xpf rfl h14 rfl) (.inl rfl) <| pvt rfl rfl rfl rfl rfl rfl (bt h13) rfl (fun _ _ => xmv) (.inl rfl) <| pvt rfl rfl rfl rfl rfl rfl (bt h13) rfl (fun _ _ => xeqb Try.underlying4 rfl l15_j2) (.inl rfl) <| pv rfl rfl rfl (fun _ _ => xpt rfl h13 rfl) (.inl rfl) <| pv rfl rfl rfl (fun _ _ => xmv) (.inl rfl) <| ?_
            have hz := ifs hB3; obtain ⟨h16, hB3⟩ := hz
            have hz := bs hB3; obtain ⟨x18, Ex18, hB3⟩ := hz
            refine pe1 rfl <| gtk rfl rfl rfl rfl rfl (bt h16) <| cl rfl rfl (xc cb15 mn) (c15 Ex18) ?_
            rintro _ w22 ⟨rfl, hx18⟩
            have k70 := k58.tr hx18
            have k71 := k59.tr hx18
            have k72 := k60.tr hx18
            have k73 := k61.tr hx18
            have k74 := k62.tr hx18
            have k75 := k63.tr hx18
            refine nl ⟨fun _ _ => k75, ?_⟩
            refine pv rfl rfl rfl (fun _ _ => xpt rfl h16 rfl) (.inl rfl) <| pv rfl rfl rfl (fun _ _ => xas) (.inl rfl) <| ?_
            cases hB3
            refine lf <| ?_
            exact ⟨rfl, k74⟩
        rintro L w23 ⟨l8_j3, K0_j3⟩
        have k76 := k21.tr K0_j3
        have k77 := k22.tr K0_j3
        have k78 := k23.tr K0_j3
        have k79 := k24.tr K0_j3
        cases hF
        exact wp_ret <| rt rfl (.tmp l8_j3 rfl .nil) ⟨rfl, k76⟩

set_option maxHeartbeats 4000000 in
theorem c10 {w0 : World} {v0 : Value} {x0 : (Int × (List (Int × Int × Int)))} (r0 : RV w0 v0 x0) {v1 : Value} {x1 : (List Int)} (r1 : RV w0 v1 x1) {v2 : Value} {x2 : (List Int)} (r2 : RV w0 v2 x2) {F : Nat} {r : Bool} (hF : law01_SpeedEither F x0 x1 x2 = some r) :
    Calls Try.prog 10 [v0, v1, v2].toArray w0 (Ret fun v w' => v = .bool r ∧ Ext w0 w') := by
  unfold law01_SpeedEither at hF
  have hz := id r0; obtain ⟨_, rfl, ⟨_, _, rfl, rfl, ⟨a1, cq1, rfl, p1, q4, e1⟩⟩⟩ := hz
  have r4 := RV.of1 p1 q4 e1
  have hz := r1.sl; obtain ⟨a2, cq2, rfl, -, -, -⟩ := hz
  have hz := r2.sl; obtain ⟨a3, cq3, rfl, -, -, -⟩ := hz
  refine entr (n := 90) Try.func10 rfl rfl rfl <| wp_seq <| rg <| sbx rfl rfl fun b4 w1 hx1 hg1 hb1 => ?_
  have r5 := r1.ext hx1
  have r6 := r2.ext hx1
  have r7 := r4.ext hx1
  have r8 := r0.ext hx1
  refine vl rfl rfl xas <| nl <| wp_seq <| wp_seq <| rg <| vl rfl rfl (xlda rfl ti24 rfl (Bx.cs hb1)) <| ?_
  have hz := bs hF; obtain ⟨x4, Ex4, hF⟩ := hz
  refine cl rfl rfl (xc cb14 (mc rfl mn)) (c14 (show RV (α := (Int × (List (Int × Int × Int)))) _ (.agg [.int .i64 x0.1, .slice a1 x0.2.length cq1].toArray) (x0.1, x0.2) from ⟨_, rfl, ⟨[.int .i64 x0.1], [.slice a1 x0.2.length cq1], rfl, rfl, r7.rep1⟩⟩) Ex4) ?_
  rintro _ w2 ⟨rfl, hx2⟩
  have k1 := hx1.tr hx2
  have hb2 := hb1.ext hx2
  have r9 := r7.ext hx2
  have r10 := r5.ext hx2
  have r11 := r6.ext hx2
  refine vl rfl rfl xmv <| gv rfl rfl rfl rfl (gw0 rfl) rfl (fun hc => xlda rfl ti24 rfl (Bx.cs hb2)) <| ?_
  have hz := bs hF; obtain ⟨x5, Ex5, hF⟩ := hz
  refine gc rfl rfl rfl rfl (gw0 rfl) rfl (fun hc => xc cb36 (mc (mv hc rfl) mn)) (fun hc => (c36 (show RV (α := (Int × (List (Int × Int × Int)))) _ (.agg [.int .i64 x0.1, .slice a1 x0.2.length cq1].toArray) (x0.1, x0.2) from ⟨_, rfl, ⟨[.int .i64 x0.1], [.slice a1 x0.2.length cq1], rfl, rfl, r9.rep1⟩⟩) (gdp Ex5 hc))) (fun v4 w3 hy1 hn1 => ?_)
  have hx3 : Ext w2 w3 := gx (fun h => (hy1 h).2) (fun h => (hn1 h).2 ▸ Ext.refl _)
  have e2 := mkw (fun h => (hy1 h).1) (fun h => (hn1 h).1)
  have k2 := k1.tr hx3
  have hb3 := hb2.ext hx3
  have r12 := r9.ext hx3
  have r13 := r10.ext hx3
  have r14 := r11.ext hx3
  refine gv rfl rfl rfl rfl (gw0 rfl) rfl (fun hc => xneq (mv hc e2) rfl) <| vl rfl rfl (xpo rfl rfl rfl) <| vl rfl rfl xmv <| gv rfl rfl rfl rfl (gw0 rfl) rfl (fun hc => xmva rfl) <| gv rfl rfl rfl rfl (gw0 rfl) rfl (fun hc => xlen (mv hc rfl) Try.underlying32) <| gv rfl rfl rfl rfl (gw0 rfl) rfl (fun hc => xgtr (mv hc rfl) rfl) <| vl rfl rfl (xpo rfl rfl rfl) <| vl rfl rfl xmv <| gv rfl rfl rfl rfl (gw0 rfl) rfl (fun hc => xmva rfl) <| gv rfl rfl rfl rfl (gw0 rfl) rfl (fun hc => xlen (mv hc rfl) Try.underlying36) <| gv rfl rfl rfl rfl (gw0 rfl) rfl (fun hc => xgtr (mv hc rfl) rfl) <| vl rfl rfl (xpo rfl rfl rfl) <| nl <| cnd rfl (fun h4 => ?_) (fun h4 => ?_)
  ·
    have hF := ifp hF h4
    refine wp_seq <| rg <| ?_
    have hz := bs hF; obtain ⟨x6, Ex6, hF⟩ := hz
    refine cl rfl rfl (xc cb15 mn) (c15 Ex6) ?_
    rintro _ w4 ⟨rfl, hx4⟩
    have k3 := k2.tr hx4
    refine vl rfl rfl xas <| nl <| ?_
    cases hF
    exact wp_ret <| rt rfl (.tmp rfl rfl .nil) ⟨rfl, k3⟩
  ·
    have hF := ifn hF h4
    refine wp_skip <| wp_seq <| rg <| vl rfl rfl (xlda rfl ti24 rfl (Bx.cs hb3)) <| ?_
    have hz := bs hF; obtain ⟨x7, Ex7, hF⟩ := hz
    refine cl rfl rfl (xc cb44 (mc rfl mn)) (c44 (show RV (α := (Int × (List (Int × Int × Int)))) _ (.agg [.int .i64 x0.1, .slice a1 x0.2.length cq1].toArray) (x0.1, x0.2) from ⟨_, rfl, ⟨[.int .i64 x0.1], [.slice a1 x0.2.length cq1], rfl, rfl, r12.rep1⟩⟩) Ex7) ?_
    rintro _ w5 ⟨u1, rfl, r15, hx5⟩
    have k4 := k2.tr hx5
    have hb4 := hb3.ext hx5
    have r16 := r12.ext hx5
    have r17 := r13.ext hx5
    have r18 := r14.ext hx5
    have hz := RV.sl r15; obtain ⟨a4, cq4, rfl, -, -, -⟩ := hz
    refine vl rfl rfl xmv <| vl rfl rfl (xext rfl rfl) <| vl rfl rfl (xext rfl rfl) <| vl rfl rfl xas <| vl rfl rfl xas <| nl <| wp_seq <| rg <| vl rfl rfl (xlda rfl ti24 rfl (Bx.cs hb4)) <| ?_
    have hz := bs hF; obtain ⟨x8, Ex8, hF⟩ := hz
    refine cl rfl rfl (xc cb18 (mc rfl (mc rfl mn))) (c18 (show RV (α := (Int × (List (Int × Int × Int)))) _ (.agg [.int .i64 x0.1, .slice a1 x0.2.length cq1].toArray) (x0.1, x0.2) from ⟨_, rfl, ⟨[.int .i64 x0.1], [.slice a1 x0.2.length cq1], rfl, rfl, r16.rep1⟩⟩) Ex8) ?_
    rintro _ w6 ⟨u2, rfl, r19, hx6⟩
    have k5 := k4.tr hx6
    have hb5 := hb4.ext hx6
    have r20 := r16.ext hx6
    have r21 := r17.ext hx6
    have r22 := r18.ext hx6
    have r23 := r15.ext hx6
    have hz := RV.sl r19; obtain ⟨a5, cq5, rfl, -, -, -⟩ := hz
    refine vl rfl rfl xmv <| vl rfl rfl (xext rfl rfl) <| vl rfl rfl (xext rfl rfl) <| vl rfl rfl xas <| vl rfl rfl xas <| nl <| wp_seq <| wp_seq <| rg <| vl rfl rfl xmv <| vl rfl rfl (xeql rfl rfl) <| nl <| cnd rfl (fun h5 => ?_) (fun h5 => ?_)
    ·
      have hF := ifp hF h5
      refine wp_seq <| ?_
      have hz := bs hF; obtain ⟨y1, hB1, hF⟩ := hz
      refine ct (fun L w => L 6 = .bool y1 ∧ Ext w6 w) ?_ ?_
      ·
        refine rg <| vl rfl rfl xmv <| vl rfl rfl (xeql rfl rfl) <| vl rfl rfl xmv <| ?_
        have hz := ifs hB1; obtain ⟨h6, hB1⟩ := hz
        refine gtk rfl rfl rfl rfl rfl (bt h6) <| vl rfl rfl xmv <| gtk rfl rfl rfl rfl rfl (bt h6) <| vl rfl rfl (xlen rfl Try.underlying32) <| gtk rfl rfl rfl rfl rfl (bt h6) <| vl rfl rfl (xeql rfl rfl) <| vl rfl rfl (xpt rfl h6 rfl) <| vl rfl rfl xmv <| ?_
        have hz := ifs hB1; obtain ⟨h7, hB1⟩ := hz
        refine gtk rfl rfl rfl rfl rfl (bt h7) <| vl rfl rfl (xlda rfl ti24 rfl (Bx.cs hb5)) <| gtk rfl rfl rfl rfl rfl (bt h7) <| vl rfl rfl xmv <| ?_
        have hz := bs hB1; obtain ⟨x9, Ex9, hB1⟩ := hz
        refine gtk rfl rfl rfl rfl rfl (bt h7) <| cl rfl rfl (xc cb45 (mc rfl (mc rfl mn))) (c45 (show RV (α := (Int × (List (Int × Int × Int)))) _ (.agg [.int .i64 x0.1, .slice a1 x0.2.length cq1].toArray) (x0.1, x0.2) from ⟨_, rfl, ⟨[.int .i64 x0.1], [.slice a1 x0.2.length cq1], rfl, rfl, r20.rep1⟩⟩) r23 Ex9) ?_
        rintro _ w7 ⟨rfl, hx7⟩
        have k6 := k5.tr hx7
        have hb6 := hb5.ext hx7
        have r24 := r20.ext hx7
        have r25 := r21.ext hx7
        have r26 := r23.ext hx7
        refine gtk rfl rfl rfl rfl rfl (bt h7) <| vl rfl rfl (xeql rfl rfl) <| vl rfl rfl (xpt rfl h7 rfl) <| vl rfl rfl xmv <| ?_
        have hz := ifs hB1; obtain ⟨h8, hB1⟩ := hz
        refine gtk rfl rfl rfl rfl rfl (bt h8) <| vl rfl rfl (xlda rfl ti24 rfl (Bx.cs hb6)) <| gtk rfl rfl rfl rfl rfl (bt h8) <| vl rfl rfl xmv <| ?_
        have hz := bs hB1; obtain ⟨x10, Ex10, hB1⟩ := hz
        refine gtk rfl rfl rfl rfl rfl (bt h8) <| cl rfl rfl (xc cb46 (mc rfl (mc rfl mn))) (c46 (show RV (α := (Int × (List (Int × Int × Int)))) _ (.agg [.int .i64 x0.1, .slice a1 x0.2.length cq1].toArray) (x0.1, x0.2) from ⟨_, rfl, ⟨[.int .i64 x0.1], [.slice a1 x0.2.length cq1], rfl, rfl, r24.rep1⟩⟩) r26 Ex10) ?_
        rintro _ w8 ⟨rfl, hx8⟩
        have k7 := k6.tr hx8
        have k8 := hx7.tr hx8
        have hb7 := hb6.ext hx8
        have r27 := r24.ext hx8
        have r28 := r25.ext hx8
        refine gtk rfl rfl rfl rfl rfl (bt h8) <| vl rfl rfl (xeql rfl rfl) <| vl rfl rfl (xpt rfl h8 rfl) <| vl rfl rfl xmv <| ?_
        have hz := ifs hB1; obtain ⟨h9, hB1⟩ := hz
        refine gtk rfl rfl rfl rfl rfl (bt h9) <| vl rfl rfl (xlda rfl ti24 rfl (Bx.cs hb7)) <| gtk rfl rfl rfl rfl rfl (bt h9) <| vl rfl rfl xmv <| ?_
        have hz := bs hB1; obtain ⟨x11, Ex11, hB1⟩ := hz
        refine gtk rfl rfl rfl rfl rfl (bt h9) <| cl rfl rfl (xc cb33 (mc rfl (mc rfl mn))) (c33 (show RV (α := (Int × (List (Int × Int × Int)))) _ (.agg [.int .i64 x0.1, .slice a1 x0.2.length cq1].toArray) (x0.1, x0.2) from ⟨_, rfl, ⟨[.int .i64 x0.1], [.slice a1 x0.2.length cq1], rfl, rfl, r27.rep1⟩⟩) r28 Ex11) ?_
        rintro _ w9 ⟨rfl, hx9⟩
        have k9 := k7.tr hx9
        have k10 := k8.tr hx9
        refine gtk rfl rfl rfl rfl rfl (bt h9) <| vl rfl rfl (xneq rfl rfl) <| vl rfl rfl (xpt rfl h9 rfl) <| vl rfl rfl xmv <| ?_
        have hz := ifs hB1; obtain ⟨h10, hB1⟩ := hz
        have hz := bs hB1; obtain ⟨x12, Ex12, hB1⟩ := hz
        refine gtk rfl rfl rfl rfl rfl (bt h10) <| cl rfl rfl (xc cb15 mn) (c15 Ex12) ?_
        rintro _ w10 ⟨rfl, hx10⟩
        have k11 := k9.tr hx10
        have k12 := k10.tr hx10
        refine vl rfl rfl (xpt rfl h10 rfl) <| vl rfl rfl xas <| nl <| ?_
        cases hB1
        refine lf <| ?_
        exact ⟨rfl, k12⟩
      rintro L w11 ⟨l6_j1, K0_j1⟩
      have k13 := k5.tr K0_j1
      cases hF
      exact wp_ret <| rt rfl (.tmp l6_j1 rfl .nil) ⟨rfl, k13⟩
    ·
      have hF := ifn hF h5
      refine wp_skip <| wp_seq <| ?_
      have hz := bs hF; obtain ⟨y2, hB2, hF⟩ := hz
      refine ct (fun L w => L 6 = .bool y2 ∧ Ext w6 w) ?_ ?_
      ·
        refine rg <| vl rfl rfl xmv <| vl rfl rfl (xeql rfl rfl) <| vl rfl rfl xmv <| ?_
        have hz := ifs hB2; obtain ⟨h11, hB2⟩ := hz
        refine gtk rfl rfl rfl rfl rfl (bt h11) <| vl rfl rfl xmv <| gtk rfl rfl rfl rfl rfl (bt h11) <| vl rfl rfl (xeql rfl rfl) <| vl rfl rfl (xpt rfl h11 rfl) <| vl rfl rfl xmv <| ?_
        have hz := ifs hB2; obtain ⟨h12, hB2⟩ := hz
        refine gtk rfl rfl rfl rfl rfl (bt h12) <| vl rfl rfl (xlda rfl ti24 rfl (Bx.cs hb5)) <| gtk rfl rfl rfl rfl rfl (bt h12) <| vl rfl rfl xmv <| ?_
        have hz := bs hB2; obtain ⟨x13, Ex13, hB2⟩ := hz
        refine gtk rfl rfl rfl rfl rfl (bt h12) <| cl rfl rfl (xc cb32 (mc rfl (mc rfl mn))) (c32 (show RV (α := (Int × (List (Int × Int × Int)))) _ (.agg [.int .i64 x0.1, .slice a1 x0.2.length cq1].toArray) (x0.1, x0.2) from ⟨_, rfl, ⟨[.int .i64 x0.1], [.slice a1 x0.2.length cq1], rfl, rfl, r20.rep1⟩⟩) r19 Ex13) ?_
        rintro _ w12 ⟨rfl, hx11⟩
        have k14 := k5.tr hx11
        have hb8 := hb5.ext hx11
        have r29 := r20.ext hx11
        have r30 := r22.ext hx11
        refine gtk rfl rfl rfl rfl rfl (bt h12) <| vl rfl rfl (xeql rfl rfl) <| vl rfl rfl (xpt rfl h12 rfl) <| vl rfl rfl xmv <| ?_
        have hz := ifs hB2; obtain ⟨h13, hB2⟩ := hz
        refine gtk rfl rfl rfl rfl rfl (bt h13) <| vl rfl rfl (xlda rfl ti24 rfl (Bx.cs hb8)) <| gtk rfl rfl rfl rfl rfl (bt h13) <| vl rfl rfl xmv <| ?_
        have hz := bs hB2; obtain ⟨x14, Ex14, hB2⟩ := hz
        refine gtk rfl rfl rfl rfl rfl (bt h13) <| cl rfl rfl (xc cb45 (mc rfl (mc rfl mn))) (c45 (show RV (α := (Int × (List (Int × Int × Int)))) _ (.agg [.int .i64 x0.1, .slice a1 x0.2.length cq1].toArray) (x0.1, x0.2) from ⟨_, rfl, ⟨[.int .i64 x0.1], [.slice a1 x0.2.length cq1], rfl, rfl, r29.rep1⟩⟩) r30 Ex14) ?_
        rintro _ w13 ⟨rfl, hx12⟩
        have k15 := k14.tr hx12
        have k16 := hx11.tr hx12
        refine gtk rfl rfl rfl rfl rfl (bt h13) <| vl rfl rfl (xneq rfl rfl) <| vl rfl rfl (xpt rfl h13 rfl) <| vl rfl rfl xmv <| ?_
        have hz := ifs hB2; obtain ⟨h14, hB2⟩ := hz
        have hz := bs hB2; obtain ⟨x15, Ex15, hB2⟩ := hz
        refine gtk rfl rfl rfl rfl rfl (bt h14) <| cl rfl rfl (xc cb15 mn) (c15 Ex15) ?_
        rintro _ w14 ⟨rfl, hx13⟩
        have k17 := k15.tr hx13
        have k18 := k16.tr hx13
        refine vl rfl rfl (xpt rfl h14 rfl) <| vl rfl rfl xas <| nl <| ?_
        cases hB2
        refine lf <| ?_
        exact ⟨rfl, k18⟩
      rintro L w15 ⟨l6_j2, K0_j2⟩
      have k19 := k5.tr K0_j2
      cases hF
      exact wp_ret <| rt rfl (.tmp l6_j2 rfl .nil) ⟨rfl, k19⟩
end Go.Proofs.Ythppacohnciinaa
