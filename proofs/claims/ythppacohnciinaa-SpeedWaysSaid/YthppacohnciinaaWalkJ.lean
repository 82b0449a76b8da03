/-
  Each function of the program returns what its pure function computes, and leaves all memory that was there as it was. Condition: the pure function computes something.
-/
import Derived.Test.YthppacohnciinaaFacts
import Derived.Test.YthppacohnciinaaPureJ
import Derived.Test.YthppacohnciinaaWalkH
namespace Go.Proofs.Ythppacohnciinaa
open Go Go.Md Go.RowKit
attribute [local irreducible] Go.wpList Go.Code.wp Go.Calls Go.Md.Rnd Go.Md.Mt

set_option maxHeartbeats 4000000 in
theorem c12 {w0 : World} {v0 : Value} {x0 : (Int × (List (Int × Int × Int)))} (r0 : RV w0 v0 x0) {v1 : Value} {x1 : (Ar 3 (KI .u8))} (r1 : RV w0 v1 x1) {v2 : Value} {x2 : (List (KI .u16))} (r2 : RV w0 v2 x2) {v3 : Value} {x3 : (List Int)} (r3 : RV w0 v3 x3) {F : Nat} {r : Bool} (hF : law01_SpeedWays F x0 x1 x2 x3 = some r) :
    Calls Try.prog 12 [v0, v1, v2, v3].toArray w0 (Ret fun v w' => v = .bool r ∧ Ext w0 w') := by
  unfold law01_SpeedWays at hF
  have hz := id r0; obtain ⟨_, rfl, ⟨_, _, rfl, rfl, ⟨a1, c1, rfl, p1, q5, e1⟩⟩⟩ := hz
  have r5 := RV.of1 p1 q5 e1
  have hz := id r1; obtain ⟨_, rfl, rfl⟩ := hz
  have hz := r2.sl; obtain ⟨a2, c2, rfl, -, -, -⟩ := hz
  have hz := r3.sl; obtain ⟨a3, c3, rfl, -, -, -⟩ := hz
  refine entr (n := 191) Try.func12 rfl rfl rfl <| wp_seq <| rg <| sbx rfl rfl fun b5 w1 hx1 hg1 hb1 => ?_
  have r6 := r1.ext hx1
  have r7 := r2.ext hx1
  have r8 := r3.ext hx1
  have r9 := r5.ext hx1
  have r10 := r0.ext hx1
  refine sbx rfl rfl fun b6 w2 hx2 hg2 hb2 => ?_
  have k1 := hx1.tr hx2
  have hb3 := hb1.ext hx2
  have r11 := r9.ext hx2
  have r12 := r7.ext hx2
  have r13 := r8.ext hx2
  have r14 := r6.ext hx2
  refine vl rfl rfl xas <| nl <| wp_seq <| wp_seq <| rg <| vl rfl rfl (xlda rfl ti24 rfl (Bx.cs hb3)) <| ?_
  have hz := bs hF; obtain ⟨x5, Ex5, hF⟩ := hz
  refine cl rfl rfl (xc cb31 (mc rfl mn)) (c31 (show RV (α := (Int × (List (Int × Int × Int)))) _ (.agg [.int .i64 x0.1, .slice a1 x0.2.length c1].toArray) (x0.1, x0.2) from ⟨_, rfl, ⟨[.int .i64 x0.1], [.slice a1 x0.2.length c1], rfl, rfl, r11.rep1⟩⟩) Ex5) ?_
  rintro _ w3 ⟨rfl, hx3⟩
  have k2 := k1.tr hx3
  have k3 := hx2.tr hx3
  have hb4 := hb3.ext hx3
  have r15 := r11.ext hx3
  have hb5 := hb2.ext hx3
  have r16 := r12.ext hx3
  have r17 := r13.ext hx3
  refine vl rfl rfl (xnot rfl) <| vl rfl rfl xmv <| gv rfl rfl rfl rfl (gw0 rfl) rfl (fun hc => xmva rfl) <| gv rfl rfl rfl rfl (gw0 rfl) rfl (fun hc => xlen (mv hc rfl) Try.underlying49) <| gv rfl rfl rfl rfl (gw0 rfl) rfl (fun hc => xgtr (mv hc rfl) rfl) <| vl rfl rfl (xpo rfl rfl rfl) <| vl rfl rfl xmv <| gv rfl rfl rfl rfl (gw0 rfl) rfl (fun hc => xmva rfl) <| gv rfl rfl rfl rfl (gw0 rfl) rfl (fun hc => xlen (mv hc rfl) Try.underlying36) <| gv rfl rfl rfl rfl (gw0 rfl) rfl (fun hc => xgtr (mv hc rfl) rfl) <| vl rfl rfl (xpo rfl rfl rfl) <| nl <| cnd rfl (fun h5 => ?_) (fun h5 => ?_)
  ·
    have hF := ifp hF h5
    refine wp_seq <| rg <| ?_
    have hz := bs hF; obtain ⟨x6, Ex6, hF⟩ := hz
    refine cl rfl rfl (xc cb15 mn) (c15 Ex6) ?_
    rintro _ w4 ⟨rfl, hx4⟩
    have k4 := k2.tr hx4
    have k5 := k3.tr hx4
    refine vl rfl rfl xas <| nl <| ?_
    cases hF
    exact wp_ret <| rt rfl (.tmp rfl rfl .nil) ⟨rfl, k4⟩
  ·
    have hF := ifn hF h5
    refine wp_skip <| wp_seq <| rg <| vl rfl rfl (xfa rfl fa24_0) <| vl rfl rfl (xld rfl ti3 ((Bx.cs hb4).at 0 rfl)) <| vl rfl rfl (xadd rfl rfl) <| vl rfl rfl xas <| nl <| wp_seq <| wpl [] (.pure true 0 (.pure false 1 (.pure true 2 (.pure true 3 (.pure true 4 (.pure true 5 (.pure false 6 (.pure true 7 (.pure true 8 (.pure true 9 (.pure true 10 (.pure false 11 (.pure true 12 (.pure true 13 (.pure true 14 (.pure true 15 (.pure true 16 (.pure true 17 .fin)))))))))))))))))) mixed (by kernel_rfl) (fun w5 hx5 => ?_)
    have k6 := k2.tr hx5
    have k7 := k3.tr hx5
    have hb6 := hb4.ext hx5
    have r18 := r15.ext hx5
    have hb7 := hb5.ext hx5
    have r19 := r16.ext hx5
    have r20 := r17.ext hx5
    have hz := bs hF; obtain ⟨x7, Ex7, hF⟩ := hz
    have hz := ixar (Bx.cs hb7) Ex7; obtain ⟨i1, i2, hc1⟩ := hz
    refine pv rfl rfl rfl (fun _ _ => xixa rfl rfl Try.underlying72 ti5 i1 i2) (.inl rfl) <| pv rfl rfl rfl (fun _ hS => xld rfl ti5 ((hc1.ext (hS.resolve_left nofun)).at 0 rfl)) (.inr (Ext.refl _)) <| pv rfl rfl rfl (fun _ _ => xcvt rfl Try.underlying5 Try.underlying3) (.inl rfl) <| pv rfl rfl rfl (fun _ _ => xmv) (.inl rfl) <| ?_
    have hz := bs hF; obtain ⟨x8, Ex8, hF⟩ := hz
    refine pv rfl rfl rfl (fun _ _ => xremv rfl rfl Ex8) (.inl rfl) <| ?_
    have hz := bs hF; obtain ⟨x9, Ex9, hF⟩ := hz
    have hz := ixar (Bx.cs hb7) Ex9; obtain ⟨i3, i4, hc2⟩ := hz
    refine pv rfl rfl rfl (fun _ _ => xixa rfl rfl Try.underlying72 ti5 i3 i4) (.inl rfl) <| pv rfl rfl rfl (fun _ hS => xld rfl ti5 ((hc2.ext (hS.resolve_left nofun)).at 0 rfl)) (.inr (Ext.refl _)) <| pv rfl rfl rfl (fun _ _ => xcvt rfl Try.underlying5 Try.underlying3) (.inl rfl) <| pv rfl rfl rfl (fun _ _ => xmv) (.inl rfl) <| ?_
    have hz := bs hF; obtain ⟨x10, Ex10, hF⟩ := hz
    refine pv rfl rfl rfl (fun _ _ => xremv rfl rfl Ex10) (.inl rfl) <| ?_
    have hz := bs hF; obtain ⟨x11, Ex11, hF⟩ := hz
    have hz := ixar (Bx.cs hb7) Ex11; obtain ⟨i5, i6, hc3⟩ := hz
    refine pv rfl rfl rfl (fun _ _ => xixa rfl rfl Try.underlying72 ti5 i5 i6) (.inl rfl) <| pv rfl rfl rfl (fun _ hS => xld rfl ti5 ((hc3.ext (hS.resolve_left nofun)).at 0 rfl)) (.inr (Ext.refl _)) <| pv rfl rfl rfl (fun _ _ => xcvt rfl Try.underlying5 Try.underlying3) (.inl rfl) <| pv rfl rfl rfl (fun _ _ => xmv) (.inl rfl) <| ?_
    have hz := bs hF; obtain ⟨x12, Ex12, hF⟩ := hz
    refine pv rfl rfl rfl (fun _ _ => xremv rfl rfl Ex12) (.inl rfl) <| pv rfl rfl rfl (fun _ _ => xas) (.inl rfl) <| pv rfl rfl rfl (fun _ _ => xas) (.inl rfl) <| pv rfl rfl rfl (fun _ _ => xas) (.inl rfl) <| wp_seq <| rg <| vl rfl rfl (xlda rfl ti24 rfl (Bx.cs hb6)) <| vl rfl rfl xmv <| vl rfl rfl xmv <| ?_
    have hz := bs hF; obtain ⟨x13, Ex13, hF⟩ := hz
    refine cl rfl rfl (xc cb22 (mc rfl (mc rfl (mc rfl mn)))) (c22 (show RV (α := (Int × (List (Int × Int × Int)))) _ (.agg [.int .i64 x0.1, .slice a1 x0.2.length c1].toArray) (x0.1, x0.2) from ⟨_, rfl, ⟨[.int .i64 x0.1], [.slice a1 x0.2.length c1], rfl, rfl, r18.rep1⟩⟩) Ex13) ?_
    rintro _ w6 ⟨u1, rfl, r21, hx6⟩
    have k8 := k6.tr hx6
    have k9 := k7.tr hx6
    have hb8 := hb6.ext hx6
    have r22 := r18.ext hx6
    have r23 := r19.ext hx6
    have r24 := r20.ext hx6
    have hz := RV.sl r21; obtain ⟨a4, c4, rfl, -, -, -⟩ := hz
    refine vl rfl rfl xmv <| vl rfl rfl (xext rfl rfl) <| vl rfl rfl (xext rfl rfl) <| vl rfl rfl (xext rfl rfl) <| vl rfl rfl xas <| vl rfl rfl xas <| vl rfl rfl xas <| nl <| wp_seq <| rg <| vl rfl rfl (xlda rfl ti24 rfl (Bx.cs hb8)) <| vl rfl rfl xmv <| vl rfl rfl xmv <| ?_
    have hz := bs hF; obtain ⟨x14, Ex14, hF⟩ := hz
    refine cl rfl rfl (xc cb22 (mc rfl (mc rfl (mc rfl mn)))) (c22 (show RV (α := (Int × (List (Int × Int × Int)))) _ (.agg [.int .i64 x0.1, .slice a1 x0.2.length c1].toArray) (x0.1, x0.2) from ⟨_, rfl, ⟨[.int .i64 x0.1], [.slice a1 x0.2.length c1], rfl, rfl, r22.rep1⟩⟩) Ex14) ?_
    rintro _ w7 ⟨u2, rfl, r25, hx7⟩
    have k10 := k8.tr hx7
    have k11 := k9.tr hx7
    have k12 := hx6.tr hx7
    have hb9 := hb8.ext hx7
    have r26 := r22.ext hx7
    have r27 := r23.ext hx7
    have r28 := r24.ext hx7
    have hz := RV.sl r25; obtain ⟨a5, c5, rfl, -, -, -⟩ := hz
    refine vl rfl rfl xmv <| vl rfl rfl (xext rfl rfl) <| vl rfl rfl (xext rfl rfl) <| vl rfl rfl (xext rfl rfl) <| vl rfl rfl xas <| vl rfl rfl xas <| vl rfl rfl xas <| nl <| wp_seq <| rg <| vl rfl rfl (xlda rfl ti24 rfl (Bx.cs hb9)) <| vl rfl rfl xmv <| vl rfl rfl xmv <| ?_
    have hz := bs hF; obtain ⟨x15, Ex15, hF⟩ := hz
    refine cl rfl rfl (xc cb22 (mc rfl (mc rfl (mc rfl mn)))) (c22 (show RV (α := (Int × (List (Int × Int × Int)))) _ (.agg [.int .i64 x0.1, .slice a1 x0.2.length c1].toArray) (x0.1, x0.2) from ⟨_, rfl, ⟨[.int .i64 x0.1], [.slice a1 x0.2.length c1], rfl, rfl, r26.rep1⟩⟩) Ex15) ?_
    rintro _ w8 ⟨u3, rfl, r29, hx8⟩
    have k13 := k10.tr hx8
    have k14 := k11.tr hx8
    have k15 := k12.tr hx8
    have hb10 := hb9.ext hx8
    have r30 := r26.ext hx8
    have r31 := r27.ext hx8
    have r32 := r28.ext hx8
    have hz := RV.sl r29; obtain ⟨a6, c6, rfl, -, -, -⟩ := hz
    refine vl rfl rfl xmv <| vl rfl rfl (xext rfl rfl) <| vl rfl rfl (xext rfl rfl) <| vl rfl rfl (xext rfl rfl) <| vl rfl rfl xas <| vl rfl rfl xas <| vl rfl rfl xas <| nl <| wp_seq <| wp_seq <| ?_
    have hz := bs hF; obtain ⟨y1, hB1, hF⟩ := hz
    refine ct (fun L w => L 103 = .bool y1 ∧ L 2 = .slice a2 x2.length c2 ∧ L 3 = .slice a3 x3.length c3 ∧ L 4 = .pointer (some ⟨b5, 0, none⟩) ∧ L 9 = .int .i64 (w64 (x0.1 + 1)) ∧ L 10 = .int .i64 x8 ∧ L 12 = .int .i64 x12 ∧ L 19 = .slice a6 x15.1.length c6 ∧ L 20 = .int .i64 x15.2.1 ∧ Ext w8 w) ?_ ?_
    ·
      refine rg <| vl rfl rfl xmv <| vl rfl rfl (xneq rfl rfl) <| vl rfl rfl xmv <| ?_
      have hz := ifsn hB1; obtain ⟨h6, hB1⟩ := hz
      refine gtk rfl rfl rfl rfl rfl (bf h6) <| vl rfl rfl xmv <| gtk rfl rfl rfl rfl rfl (bf h6) <| vl rfl rfl (xneq rfl rfl) <| vl rfl rfl (xpf rfl h6 rfl) <| vl rfl rfl xmv <| ?_
      have hz := ifsn hB1; obtain ⟨h7, hB1⟩ := hz
      refine gtk rfl rfl rfl rfl rfl (bf h7) <| vl rfl rfl xmv <| gtk rfl rfl rfl rfl rfl (bf h7) <| vl rfl rfl (xneq rfl rfl) <| vl rfl rfl (xpf rfl h7 rfl) <| vl rfl rfl xmv <| ?_
      have hz := ifsn hB1; obtain ⟨h8, hB1⟩ := hz
      refine gtk rfl rfl rfl rfl rfl (bf h8) <| vl rfl rfl xmv <| gtk rfl rfl rfl rfl rfl (bf h8) <| vl rfl rfl xmv <| gtk rfl rfl rfl rfl rfl (bf h8) <| vl rfl rfl xmv <| gtk rfl rfl rfl rfl rfl (bf h8) <| vl rfl rfl (xadd rfl rfl) <| gtk rfl rfl rfl rfl rfl (bf h8) <| vl rfl rfl (xgtr rfl rfl) <| vl rfl rfl (xpf rfl h8 rfl) <| nl <| ?_
      cases hB1
      refine lf <| ?_
      exact ⟨rfl, rfl, rfl, rfl, rfl, rfl, rfl, rfl, rfl, (Ext.refl _)⟩
    rintro L w9 ⟨l103_j1, l2_j1, l3_j1, l4_j1, l9_j1, l10_j1, l12_j1, l19_j1, l20_j1, K0_j1⟩
    have k16 := k13.tr K0_j1
    have k17 := k14.tr K0_j1
    have k18 := k15.tr K0_j1
    have r33 := r31.ext K0_j1
    have r34 := r32.ext K0_j1
    have r35 := r30.ext K0_j1
    have hb11 := hb10.ext K0_j1
    have r36 := r29.ext K0_j1
    refine cnd l103_j1 (fun h9 => ?_) (fun h9 => ?_)
    ·
      have hF := ifp hF h9
      refine wp_seq <| rg <| vl rfl rfl xas <| nl <| ?_
      cases hF
      exact wp_ret <| rt rfl (.tmp rfl rfl .nil) ⟨rfl, k16⟩
    ·
      have hF := ifn hF h9
      refine wp_skip <| wp_seq <| rg <| vl rfl rfl (xlda l4_j1 ti24 rfl (Bx.cs hb11)) <| vl rfl rfl xmv <| vl rfl rfl xmv <| vl rfl rfl xmv <| ?_
      have hz := bs hF; obtain ⟨x16, Ex16, hF⟩ := hz
      refine cl rfl rfl (xc cb25 (mc rfl (mc l10_j1 (mc l12_j1 (mc l19_j1 mn))))) (c25 (show RV (α := (Int × (List (Int × Int × Int)))) _ (.agg [.int .i64 x0.1, .slice a1 x0.2.length c1].toArray) (x0.1, x0.2) from ⟨_, rfl, ⟨[.int .i64 x0.1], [.slice a1 x0.2.length c1], rfl, rfl, r35.rep1⟩⟩) r36 Ex16) ?_
      rintro _ w10 ⟨rfl, hx9⟩
      have k19 := k16.tr hx9
      have k20 := k17.tr hx9
      have k21 := k18.tr hx9
      have k22 := K0_j1.tr hx9
      have hb12 := hb11.ext hx9
      have r37 := r35.ext hx9
      have r38 := r33.ext hx9
      have r39 := r34.ext hx9
      refine vl rfl rfl xmv <| vl rfl rfl (xext rfl rfl) <| vl rfl rfl (xext rfl rfl) <| vl rfl rfl xas <| vl rfl rfl xas <| nl <| wp_seq <| rg <| vl rfl rfl (xlda l4_j1 ti24 rfl (Bx.cs hb12)) <| vl rfl rfl xmv <| ?_
      have hz := bs hF; obtain ⟨x17, Ex17, hF⟩ := hz
      refine cl rfl rfl (xc cb35 (mc rfl (mc l2_j1 mn))) (c35 (show RV (α := (Int × (List (Int × Int × Int)))) _ (.agg [.int .i64 x0.1, .slice a1 x0.2.length c1].toArray) (x0.1, x0.2) from ⟨_, rfl, ⟨[.int .i64 x0.1], [.slice a1 x0.2.length c1], rfl, rfl, r37.rep1⟩⟩) r38 Ex17) ?_
      rintro _ w11 ⟨u4, rfl, r40, hx10⟩
      have k23 := k19.tr hx10
      have k24 := k20.tr hx10
      have k25 := k21.tr hx10
      have k26 := k22.tr hx10
      have hb13 := hb12.ext hx10
      have r41 := r37.ext hx10
      have r42 := r39.ext hx10
      have hz := RV.sl r40; obtain ⟨a7, c7, rfl, -, -, -⟩ := hz
      refine vl rfl rfl xas <| nl <| wp_seq <| rg <| vl rfl rfl xmv <| vl rfl rfl xmv <| ?_
      have hz := bs hF; obtain ⟨x18, Ex18, hF⟩ := hz
      refine cl rfl rfl (xc cb49 (mc rfl (mc l12_j1 mn))) (c49 r40 Ex18) ?_
      rintro _ w12 ⟨rfl, hx11⟩
      have k27 := k23.tr hx11
      have k28 := k24.tr hx11
      have k29 := k25.tr hx11
      have k30 := k26.tr hx11
      have hb14 := hb13.ext hx11
      have r43 := r41.ext hx11
      have r44 := r42.ext hx11
      have r45 := r40.ext hx11
      refine vl rfl rfl xmv <| vl rfl rfl xmv <| ?_
      have hz := bs hF; obtain ⟨x19, Ex19, hF⟩ := hz
      refine cl rfl rfl (xc cb49 (mc rfl (mc l10_j1 mn))) (c49 r45 Ex19) ?_
      rintro _ w13 ⟨rfl, hx12⟩
      have k31 := k27.tr hx12
      have k32 := k28.tr hx12
      have k33 := k29.tr hx12
      have k34 := k30.tr hx12
      have hb15 := hb14.ext hx12
      have r46 := r43.ext hx12
      have r47 := r44.ext hx12
      refine vl rfl rfl (xsub rfl rfl) <| vl rfl rfl xas <| nl <| wp_seq <| wp_seq <| ?_
      have hz := bs hF; obtain ⟨y2, hB2, hF⟩ := hz
      refine ct (fun L w => L 133 = .bool y2 ∧ L 3 = .slice a3 x3.length c3 ∧ L 4 = .pointer (some ⟨b5, 0, none⟩) ∧ L 9 = .int .i64 (w64 (x0.1 + 1)) ∧ L 10 = .int .i64 x8 ∧ L 12 = .int .i64 x12 ∧ L 20 = .int .i64 x15.2.1 ∧ Ext w13 w) ?_ ?_
      ·
        refine rg <| vl rfl rfl xmv <| vl rfl rfl (xneq rfl rfl) <| vl rfl rfl xmv <| ?_
        have hz := ifsn hB2; obtain ⟨h10, hB2⟩ := hz
        refine gtk rfl rfl rfl rfl rfl (bf h10) <| vl rfl rfl xmv <| gtk rfl rfl rfl rfl rfl (bf h10) <| vl rfl rfl xmv <| gtk rfl rfl rfl rfl rfl (bf h10) <| vl rfl rfl (xneq rfl l20_j1) <| vl rfl rfl (xpf rfl h10 rfl) <| vl rfl rfl xmv <| ?_
        have hz := ifsn hB2; obtain ⟨h11, hB2⟩ := hz
        refine gtk rfl rfl rfl rfl rfl (bf h11) <| vl rfl rfl xmv <| gtk rfl rfl rfl rfl rfl (bf h11) <| vl rfl rfl xmv <| gtk rfl rfl rfl rfl rfl (bf h11) <| vl rfl rfl (xgtr rfl l20_j1) <| vl rfl rfl (xpf rfl h11 rfl) <| nl <| ?_
        cases hB2
        refine lf <| ?_
        exact ⟨rfl, l3_j1, l4_j1, l9_j1, l10_j1, l12_j1, l20_j1, (Ext.refl _)⟩
      rintro L w14 ⟨l133_j2, l3_j2, l4_j2, l9_j2, l10_j2, l12_j2, l20_j2, K0_j2⟩
      have k35 := k31.tr K0_j2
      have k36 := k32.tr K0_j2
      have k37 := k33.tr K0_j2
      have k38 := k34.tr K0_j2
      have r48 := r47.ext K0_j2
      have r49 := r46.ext K0_j2
      have hb16 := hb15.ext K0_j2
      refine cnd l133_j2 (fun h12 => ?_) (fun h12 => ?_)
      ·
        have hF := ifp hF h12
        refine wp_seq <| rg <| vl rfl rfl xas <| nl <| ?_
        cases hF
        exact wp_ret <| rt rfl (.tmp rfl rfl .nil) ⟨rfl, k35⟩
      ·
        have hF := ifn hF h12
        refine wp_skip <| wp_seq <| rg <| vl rfl rfl (xlda l4_j2 ti24 rfl (Bx.cs hb16)) <| vl rfl rfl xmv <| vl rfl rfl xmv <| vl rfl rfl xmv <| ?_
        have hz := bs hF; obtain ⟨x20, Ex20, hF⟩ := hz
        refine cl rfl rfl (xc cb50 (mc rfl (mc l10_j2 (mc l12_j2 (mc l3_j2 mn))))) (c50 (show RV (α := (Int × (List (Int × Int × Int)))) _ (.agg [.int .i64 x0.1, .slice a1 x0.2.length c1].toArray) (x0.1, x0.2) from ⟨_, rfl, ⟨[.int .i64 x0.1], [.slice a1 x0.2.length c1], rfl, rfl, r49.rep1⟩⟩) r48 Ex20) ?_
        rintro _ w15 ⟨rfl, hx13⟩
        have k39 := k35.tr hx13
        have k40 := k36.tr hx13
        have k41 := k37.tr hx13
        have k42 := k38.tr hx13
        have k43 := K0_j2.tr hx13
        have hb17 := hb16.ext hx13
        have r50 := r49.ext hx13
        refine vl rfl rfl xmv <| vl rfl rfl (xext rfl rfl) <| vl rfl rfl (xext rfl rfl) <| vl rfl rfl xas <| vl rfl rfl xas <| nl <| wp_seq <| wp_seq <| rg <| vl rfl rfl xmv <| vl rfl rfl (xeql rfl rfl) <| vl rfl rfl xmv <| gv rfl rfl rfl rfl (gw1 rfl) rfl (fun hc => xmva rfl) <| gv rfl rfl rfl rfl (gw1 rfl) rfl (fun hc => xmva l20_j2) <| gv rfl rfl rfl rfl (gw1 rfl) rfl (fun hc => xlss (mv hc rfl) (mv hc rfl)) <| vl rfl rfl (xpa rfl rfl rfl) <| nl <| cnd rfl (fun h13 => ?_) (fun h13 => ?_)
        ·
          have hF := ifp hF h13
          refine wp_seq <| rg <| vl rfl rfl xas <| nl <| ?_
          cases hF
          exact wp_ret <| rt rfl (.tmp rfl rfl .nil) ⟨rfl, k39⟩
        ·
          have hF := ifn hF h13
          refine wp_skip <| wp_seq <| rg <| vl rfl rfl (xlda l4_j2 ti24 rfl (Bx.cs hb17)) <| ?_
          have hz := bs hF; obtain ⟨x21, Ex21, hF⟩ := hz
          refine cl rfl rfl (xc cb51 (mc rfl mn)) (c51 (show RV (α := (Int × (List (Int × Int × Int)))) _ (.agg [.int .i64 x0.1, .slice a1 x0.2.length c1].toArray) (x0.1, x0.2) from ⟨_, rfl, ⟨[.int .i64 x0.1], [.slice a1 x0.2.length c1], rfl, rfl, r50.rep1⟩⟩) Ex21) ?_
          rintro _ w16 ⟨u5, rfl, r51, hx14⟩
          have k44 := k39.tr hx14
          have k45 := k40.tr hx14
          have k46 := k41.tr hx14
          have k47 := k42.tr hx14
          have k48 := k43.tr hx14
          have hb18 := hb17.ext hx14
          have r52 := r50.ext hx14
          have hz := RV.sl r51; obtain ⟨a8, c8, rfl, -, -, -⟩ := hz
          refine vl rfl rfl xas <| nl <| wp_seq <| rg <| vl rfl rfl xas <| nl <| wp_seq <| wp_seq <| rg <| vl rfl rfl xas <| nl <| ?_
          have o1 : Row (α := Int) 2 w16.heap.size w16 (.slice none 0 0) [] := Row.nil
          have hz := bs hF; obtain ⟨z1, hB3, hF⟩ := hz
          refine ct (fun L w => ∃ v6 : Value, L 29 = v6 ∧ Row 2 w16.heap.size w v6 z1 ∧ L 4 = .pointer (some ⟨b5, 0, none⟩) ∧ L 10 = .int .i64 x8 ∧ L 12 = .int .i64 x12 ∧ L 20 = .int .i64 x15.2.1 ∧ Ext w16 w) ?_ ?_
          ·
            refine wp_block <| lp (I := fun m L w => ∃ y3 : (List Int), ∃ y4 : Int, ∃ v5 : Value, law01_SpeedWays_l1 F x0 x8 x21 m y3 y4  = some z1 ∧ L 29 = v5 ∧ Row 2 w16.heap.size w v5 y3 ∧ L 30 = .int .i64 y4 ∧ L 4 = .pointer (some ⟨b5, 0, none⟩) ∧ L 9 = .int .i64 (w64 (x0.1 + 1)) ∧ L 10 = .int .i64 x8 ∧ L 12 = .int .i64 x12 ∧ L 20 = .int .i64 x15.2.1 ∧ L 28 = .slice a8 x21.length c8 ∧ Ext w16 w) F ⟨_, _, _, hB3, rfl, o1, rfl, l4_j2, l9_j2, l10_j2, l12_j2, l20_j2, rfl, (Ext.refl _)⟩ ?_
            rintro m L w17 ⟨y3, y4, v5, hB3, l29_i7, O29_i7, l30_i7, l4_i7, l9_i7, l10_i7, l12_i7, l20_i7, l28_i7, K0_i7⟩
            rcases m with _ | m
            · rw [law01_SpeedWays_l1] at hB3; cases hB3
            rw [law01_SpeedWays_l1] at hB3
            have k49 := k44.tr K0_i7
            have k50 := k45.tr K0_i7
            have k51 := k46.tr K0_i7
            have k52 := k47.tr K0_i7
            have k53 := k48.tr K0_i7
            have r53 := r52.ext K0_i7
            have hb19 := hb18.ext K0_i7
            have r54 := r51.ext K0_i7
            have hz := RV.sl O29_i7.rv; obtain ⟨a9, c9, rfl, -, -, -⟩ := hz
            refine wp_seq <| wp_seq <| rg <| vl rfl rfl xmv <| vl rfl rfl xmv <| vl rfl rfl (xlss l30_i7 l9_i7) <| nl <| cnd rfl (fun h14 => ?_) (fun h14 => ?_)
            ·
              have hB3 := ifp hB3 h14
              refine wp_skip <| wp_seq <| wp_block <| wplB (B := w16.heap.size) [] (.pure true 0 (.pure true 1 (.pure true 2 (.pure true 3 (.pure false 4 (.pure true 5 (.pure true 6 (.pure false 7 (.pure true 8 (.pure true 9 (.pure true 10 (.pure false 11 (.pure true 12 (.pure false 13 (.pure true 14 (.eff 15 (.eff 16 (.pure true 17 .fin) .stop) .stop)))))))))))))))) mixed (by kernel_rfl) (fun w18 hx15 => ?_)
              have k54 := k49.tr hx15
              have k55 := k50.tr hx15
              have k56 := k51.tr hx15
              have k57 := k52.tr hx15
              have k58 := k53.tr hx15
              have k59 := K0_i7.tr hx15
              have hb20 := hb19.ext hx15
              have r55 := r53.ext hx15
              have r56 := r51
              have O1 := O29_i7.ext hx15
              refine pv rfl rfl rfl (fun _ _ => xmv) (.inl rfl) <| pv rfl rfl rfl (fun _ _ => xmv) (.inl rfl) <| pv rfl rfl rfl (fun _ _ => xmv) (.inl rfl) <| ?_
              have hz := bs hB3; obtain ⟨x22, Ex22, hB3⟩ := hz
              have hz := (RV.els r56).ix Ex22; obtain ⟨b7, f1, cs5, e2, i8, i9, q6, hc4⟩ := hz
              cases e2
              obtain ⟨a10, c10, rfl, p2, q7, e3⟩ := q6
              have r57 := RV.of1 p2 q7 e3
              refine pv rfl rfl rfl (fun _ _ => xixs l28_i7 l10_i7 Try.underlying53 ti32 i8 i9) (.inl rfl) <| pv rfl rfl rfl (fun _ hS => xld rfl ti32 ((hc4.ext (k59.trans (hS.resolve_left nofun))).at 0 rfl)) (.inr (Below.refl _ _)) <| pv rfl rfl rfl (fun _ _ => xmv) (.inl rfl) <| ?_
              have hz := bs hB3; obtain ⟨x23, Ex23, hB3⟩ := hz
              have hz := (RV.els r57).ix Ex23; obtain ⟨b8, f2, cs6, e4, i10, i11, q8, hc5⟩ := hz
              cases e4
              obtain rfl := q8
              refine pv rfl rfl rfl (fun _ _ => xixs rfl l30_i7 Try.underlying32 ti2 i10 i11) (.inl rfl) <| pv rfl rfl rfl (fun _ hS => xld rfl ti2 ((hc5.ext (k59.trans (hS.resolve_left nofun))).at 0 rfl)) (.inr (Below.refl _ _)) <| pv rfl rfl rfl (fun _ _ => xmv) (.inl rfl) <| pv rfl rfl rfl (fun _ _ => xmv) (.inl rfl) <| ?_
              have hz := bs hB3; obtain ⟨x24, Ex24, hB3⟩ := hz
              have hz := ix2 r56 Ex24; obtain ⟨cs7, i12, i13, q9, hc6⟩ := hz
              obtain ⟨a11, c11, rfl, p3, q10, e5⟩ := q9
              have r58 := RV.of1 p3 q10 e5
              refine pv rfl rfl rfl (fun _ _ => xixs l28_i7 l10_i7 Try.underlying53 ti32 i12 i13) (.inl rfl) <| pv rfl rfl rfl (fun _ hS => xld rfl ti32 ((hc6.ext (k59.trans (hS.resolve_left nofun))).at 0 rfl)) (.inr (Below.refl _ _)) <| ?_
              have hz := bs hB3; obtain ⟨x25, Ex25, hB3⟩ := hz
              have hz := (RV.els r58).ix Ex25; obtain ⟨b9, f3, cs8, e6, i14, i15, q11, hc7⟩ := hz
              cases e6
              obtain rfl := q11
              refine pv rfl rfl rfl (fun _ _ => xixs rfl rfl Try.underlying32 ti2 i14 i15) (.inl rfl) <| pv rfl rfl rfl (fun _ hS => xld rfl ti2 ((hc7.ext (k59.trans (hS.resolve_left nofun))).at 0 rfl)) (.inr (Below.refl _ _)) <| pv rfl rfl rfl (fun _ _ => xsub rfl rfl) (.inl rfl) <| pe1 rfl <| sbsv (cs := [.int .i64 (w64 (x23 - x25))]) Try.underlying32 ti2 rfl (pc rfl pn) rfl rfl rfl rfl rfl fun b10 w19 hx16 hg3 hb21 => ?_
              have k60 := k54.tr hx16
              have k61 := k55.tr hx16
              have k62 := k56.tr hx16
              have k63 := k57.tr hx16
              have k64 := k58.tr hx16
              have k65 := k59.tr hx16
              have hb22 := hb20.ext hx16
              have r59 := r55.ext hx16
              skip
              have O2 := O1.ext hx16
              have o3 : Row (α := Int) 2 w18.heap.size w19 (.slice (some ⟨b10, 0, none⟩) 1 1) [w64 (x23 - x25)] := Row.lit hg3 hb21 rfl (ble rfl)
              refine nl ⟨fun _ h => h.trans (hx16.mono k59.size), ?_⟩
              have hz := bs hB3; obtain ⟨x26, Ex26, hB3⟩ := hz
              refine pe1 rfl <| sapx (l := y3) (k := ([w64 (x23 - x25)] : List Int)) l29_i7 rfl Try.underlying32 ti2 rfl rfl O2 (RV.els o3.rv) Ex26 k65.size fun v7 w20 o4 hB5 hgr1 how1 => ?_
              have k66 := Ext.grow k60 k44.size hB5
              have k67 := Ext.grow k61 k45.size hB5
              have k68 := Ext.grow k62 k46.size hB5
              have k69 := Ext.grow k63 k47.size hB5
              have k70 := Ext.grow k64 k48.size hB5
              have k71 : Ext w16 w20 := k65.trans hB5
              have hb23 := hb18.ext k71
              have r62 := r52.ext k71
              have r63 := r51.ext k71
              have hz := RV.sl o4.rv; obtain ⟨a12, c12, rfl, -, -, -⟩ := hz
              refine nl ⟨fun _ h => h.trans hB5, ?_⟩
              refine pv rfl rfl rfl (fun _ _ => xas) (.inl rfl) <| rg <| vl rfl rfl xmv <| vl rfl rfl (xadd l30_i7 rfl) <| vl rfl rfl xas <| nl <| ?_
              refine lq m (Nat.lt_succ_self _) <| ?_
              exact ⟨_, _, _, hB3, rfl, o4, rfl, l4_i7, l9_i7, l10_i7, l12_i7, l20_i7, l28_i7, k71⟩
            ·
              have hB3 := ifn hB3 h14
              refine wp_exit <| ?_
              cases hB3
              refine lf <| ?_
              exact ⟨_, l29_i7, O29_i7, l4_i7, l10_i7, l12_i7, l20_i7, K0_i7⟩
          rintro L w21 ⟨v6, l29_j3, O29_j3, l4_j3, l10_j3, l12_j3, l20_j3, K0_j3⟩
          have k72 := k44.tr K0_j3
          have k73 := k45.tr K0_j3
          have k74 := k46.tr K0_j3
          have k75 := k47.tr K0_j3
          have k76 := k48.tr K0_j3
          have r64 := r52.ext K0_j3
          have hb24 := hb18.ext K0_j3
          have hz := RV.sl O29_j3.rv; obtain ⟨a13, c13, rfl, -, -, -⟩ := hz
          refine wp_seq <| ?_
          have hz := bs hF; obtain ⟨y5, hB7, hF⟩ := hz
          refine ct (fun L w => L 8 = .bool y5 ∧ Ext w21 w) ?_ ?_
          ·
            refine rg <| vl rfl rfl (xlda l4_j3 ti24 rfl (Bx.cs hb24)) <| vl rfl rfl xmv <| ?_
            have hz := bs hB7; obtain ⟨x27, Ex27, hB7⟩ := hz
            refine cl rfl rfl (xc cb33 (mc rfl (mc l29_j3 mn))) (c33 (show RV (α := (Int × (List (Int × Int × Int)))) _ (.agg [.int .i64 x0.1, .slice a1 x0.2.length c1].toArray) (x0.1, x0.2) from ⟨_, rfl, ⟨[.int .i64 x0.1], [.slice a1 x0.2.length c1], rfl, rfl, r64.rep1⟩⟩) O29_j3.rv Ex27) ?_
            rintro _ w22 ⟨rfl, hx17⟩
            have k77 := k72.tr hx17
            have k78 := k73.tr hx17
            have k79 := k74.tr hx17
            have k80 := k75.tr hx17
            have k81 := k76.tr hx17
            have k82 := K0_j3.tr hx17
            have O3 := O29_j3.ext hx17
            refine vl rfl rfl (xeql rfl rfl) <| vl rfl rfl xmv <| ?_
            have hz := ifs hB7; obtain ⟨h15, hB7⟩ := hz
            refine gtk rfl rfl rfl rfl rfl (bt h15) <| vl rfl rfl xmv <| gtk rfl rfl rfl rfl rfl (bt h15) <| vl rfl rfl xmv <| ?_
            have hz := bs hB7; obtain ⟨x28, Ex28, hB7⟩ := hz
            refine gtk rfl rfl rfl rfl rfl (bt h15) <| cl rfl rfl (xc cb49 (mc l29_j3 (mc l12_j3 mn))) (c49 O3.rv Ex28) ?_
            rintro _ w23 ⟨rfl, hx18⟩
            have k83 := k77.tr hx18
            have k84 := k78.tr hx18
            have k85 := k79.tr hx18
            have k86 := k80.tr hx18
            have k87 := k81.tr hx18
            have k88 := k82.tr hx18
            have k89 := hx17.tr hx18
            have O4 := O3.ext hx18
            refine gtk rfl rfl rfl rfl rfl (bt h15) <| vl rfl rfl xmv <| gtk rfl rfl rfl rfl rfl (bt h15) <| vl rfl rfl xmv <| ?_
            have hz := bs hB7; obtain ⟨x29, Ex29, hB7⟩ := hz
            refine gtk rfl rfl rfl rfl rfl (bt h15) <| cl rfl rfl (xc cb49 (mc l29_j3 (mc l10_j3 mn))) (c49 O4.rv Ex29) ?_
            rintro _ w24 ⟨rfl, hx19⟩
            have k90 := k83.tr hx19
            have k91 := k84.tr hx19
            have k92 := k85.tr hx19
            have k93 := k86.tr hx19
            have k94 := k87.tr hx19
            have k95 := k88.tr hx19
            have k96 := k89.tr hx19
            refine gtk rfl rfl rfl rfl rfl (bt h15) <| vl rfl rfl (xsub rfl rfl) <| gtk rfl rfl rfl rfl rfl (bt h15) <| vl rfl rfl xmv <| gtk rfl rfl rfl rfl rfl (bt h15) <| vl rfl rfl (xeql rfl l20_j3) <| vl rfl rfl (xpt rfl h15 rfl) <| vl rfl rfl xmv <| ?_
            have hz := ifs hB7; obtain ⟨h16, hB7⟩ := hz
            have hz := bs hB7; obtain ⟨x30, Ex30, hB7⟩ := hz
            refine gtk rfl rfl rfl rfl rfl (bt h16) <| cl rfl rfl (xc cb15 mn) (c15 Ex30) ?_
            rintro _ w25 ⟨rfl, hx20⟩
            have k97 := k90.tr hx20
            have k98 := k91.tr hx20
            have k99 := k92.tr hx20
            have k100 := k93.tr hx20
            have k101 := k94.tr hx20
            have k102 := k95.tr hx20
            have k103 := k96.tr hx20
            refine vl rfl rfl (xpt rfl h16 rfl) <| vl rfl rfl xas <| nl <| ?_
            cases hB7
            refine lf <| ?_
            exact ⟨rfl, k103⟩
          rintro L w26 ⟨l8_j4, K0_j4⟩
          have k104 := k72.tr K0_j4
          have k105 := k73.tr K0_j4
          have k106 := k74.tr K0_j4
          have k107 := k75.tr K0_j4
          have k108 := k76.tr K0_j4
          have k109 := K0_j3.tr K0_j4
          cases hF
          exact wp_ret <| rt rfl (.tmp l8_j4 rfl .nil) ⟨rfl, k104⟩
end Go.Proofs.Ythppacohnciinaa
