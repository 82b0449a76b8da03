/-
  Each function of the program returns what its pure function computes, and leaves all memory that was there as it was. Condition: the pure function computes something.
-/
import Derived.Test.YthppacohnciinaaFacts
import Derived.Test.YthppacohnciinaaPureH
import Derived.Test.YthppacohnciinaaWalkG
namespace Go.Proofs.Ythppacohnciinaa
open Go Go.Md Go.RowKit
attribute [local irreducible] Go.wpList Go.Code.wp Go.Calls Go.Md.Rnd Go.Md.Mt Go.Md.MtM Go.Md.RndM Go.Code.wpIn

set_option maxHeartbeats 4000000 in
theorem c3 {w0 : World} {v0 : Value} {x0 : (Int × (List (Int × Int × Int)))} (r0 : RV w0 v0 x0) {x1 : Int} {x2 : Int} {x3 : Bool} {x4 : Int} {F : Nat} {r : Bool} (hF : law01_SpeedSpans F x0 x1 x2 x3 x4 = some r) :
    Calls Try.prog 3 [v0, .int .i64 x1, .int .i64 x2, .bool x3, .int .i64 x4].toArray w0 (Ret fun v w' => v = .bool r ∧ Ext w0 w') := by
  unfold law01_SpeedSpans at hF
  have hz := id r0; obtain ⟨_, rfl, ⟨_, _, rfl, rfl, ⟨a1, cq1, rfl, p1, q6, e1⟩⟩⟩ := hz
  have r6 := RV.of1 p1 q6 e1
  refine entr (n := 151) Try.func3 rfl rfl rfl <| wp_seq <| rg <| sbx rfl rfl fun b6 w1 hx1 hg1 hb1 => ?_
  have r7 := r6.ext hx1
  have r8 := r0.ext hx1
  refine vl rfl rfl xas <| nl <| wp_seq <| wp_seq <| rg <| vl rfl rfl (xlda rfl ti24 rfl (Bx.cs hb1)) <| ?_
  have hz := bs hF; obtain ⟨x6, Ex6, hF⟩ := hz
  refine cl rfl rfl (xc cb14 (mc rfl mn)) (c14 (show RV (α := (Int × (List (Int × Int × Int)))) _ (.agg [.int .i64 x0.1, .slice a1 x0.2.length cq1].toArray) (x0.1, x0.2) from ⟨_, rfl, ⟨[.int .i64 x0.1], [.slice a1 x0.2.length cq1], rfl, rfl, r7.rep1⟩⟩) Ex6) ?_
  rintro _ w2 ⟨rfl, hx2⟩
  have k1 := hx1.tr hx2
  have hb2 := hb1.ext hx2
  have r9 := r7.ext hx2
  refine nl <| cnd rfl (fun h6 => ?_) (fun h6 => ?_)
  ·
    have hF := ifp hF h6
    refine wp_seq <| rg <| ?_
    have hz := bs hF; obtain ⟨x7, Ex7, hF⟩ := hz
    refine cl rfl rfl (xc cb15 mn) (c15 Ex7) ?_
    rintro _ w3 ⟨rfl, hx3⟩
    have k2 := k1.tr hx3
    refine vl rfl rfl xas <| nl <| ?_
    cases hF
    exact wp_ret <| rt rfl (.tmp rfl rfl .nil) ⟨rfl, k2⟩
  ·
    have hF := ifn hF h6
    refine wp_skip <| wp_seq <| rg <| vl rfl rfl (xlda rfl ti24 rfl (Bx.cs hb2)) <| vl rfl rfl xmv <| ?_
    have hz := bs hF; obtain ⟨x8, Ex8, hF⟩ := hz
    refine cl rfl rfl (xc cb16 (mc rfl (mc rfl mn))) (c16 (show RV (α := (Int × (List (Int × Int × Int)))) _ (.agg [.int .i64 x0.1, .slice a1 x0.2.length cq1].toArray) (x0.1, x0.2) from ⟨_, rfl, ⟨[.int .i64 x0.1], [.slice a1 x0.2.length cq1], rfl, rfl, r9.rep1⟩⟩) Ex8) ?_
    rintro _ w4 ⟨u1, rfl, r10, hx4⟩
    have k3 := k1.tr hx4
    have hb3 := hb2.ext hx4
    have r11 := r9.ext hx4
    have hz := id r10; obtain ⟨_, rfl, ⟨_, _, rfl, rfl, rfl⟩⟩ := hz
    refine vl rfl rfl xmv <| vl rfl rfl (xext rfl rfl) <| vl rfl rfl (xext rfl rfl) <| sal ti28 fun b7 w5 hx5 hg2 hb4 => ?_
    have k4 := k3.tr hx5
    have hb5 := hb3.ext hx5
    have r12 := r11.ext hx5
    have r13 := r10.ext hx5
    refine sst rfl rfl rfl ti28 hb4 rfl rfl (ble rfl) fun w6 hch1 hb6 => ?_
    have k5 := Ext.chg k4 hch1 (Nat.le_trans k3.size hg2)
    have k6 := Ext.chg hx5 hch1 (Nat.le_trans (Nat.le_refl _) hg2)
    have hb7 := hb3.ext k6
    have r14 := r11.ext k6
    have hb8 : Bx w6 b7 28 [.int .i64 x8.1.1, .int .i64 x8.1.2] := hb6
    refine vl rfl rfl xas <| nl <| wp_seq <| rg <| vl rfl rfl (xlda rfl ti24 rfl (Bx.cs hb7)) <| vl rfl rfl xmv <| ?_
    have hz := bs hF; obtain ⟨x9, Ex9, hF⟩ := hz
    refine cl rfl rfl (xc cb17 (mc rfl (mc rfl mn))) (c17 (show RV (α := (Int × (List (Int × Int × Int)))) _ (.agg [.int .i64 x0.1, .slice a1 x0.2.length cq1].toArray) (x0.1, x0.2) from ⟨_, rfl, ⟨[.int .i64 x0.1], [.slice a1 x0.2.length cq1], rfl, rfl, r14.rep1⟩⟩) Ex9) ?_
    rintro _ w7 ⟨u2, rfl, r15, hx6⟩
    have k7 := k5.tr hx6
    have k8 := k6.tr hx6
    have hb9 := hb7.ext hx6
    have r16 := r14.ext hx6
    have hb10 := hb8.ext hx6
    have hz := id r15; obtain ⟨_, rfl, ⟨_, _, rfl, rfl, rfl⟩⟩ := hz
    refine vl rfl rfl xmv <| vl rfl rfl (xext rfl rfl) <| vl rfl rfl (xext rfl rfl) <| sal ti28 fun b8 w8 hx7 hg3 hb11 => ?_
    have k9 := k7.tr hx7
    have k10 := k8.tr hx7
    have hb12 := hb9.ext hx7
    have r17 := r16.ext hx7
    have hb13 := hb10.ext hx7
    have r18 := r15.ext hx7
    refine sst rfl rfl rfl ti28 hb11 rfl rfl (ble rfl) fun w9 hch2 hb14 => ?_
    have k11 := Ext.chg k9 hch2 (Nat.le_trans k7.size hg3)
    have k12 := Ext.chg k10 hch2 (Nat.le_trans k8.size hg3)
    have k13 := Ext.chg hx7 hch2 (Nat.le_trans (Nat.le_refl _) hg3)
    have hb15 := hb9.ext k13
    have r19 := r16.ext k13
    have hb16 := hb10.ext k13
    have hb17 : Bx w9 b8 28 [.int .i64 x9.1.1, .int .i64 x9.1.2] := hb14
    refine vl rfl rfl xas <| nl <| wp_seq <| rg <| vl rfl rfl (xlda rfl ti24 rfl (Bx.cs hb15)) <| vl rfl rfl xmv <| ?_
    have hz := bs hF; obtain ⟨x10, Ex10, hF⟩ := hz
    refine cl rfl rfl (xc cb18 (mc rfl (mc rfl mn))) (c18 (show RV (α := (Int × (List (Int × Int × Int)))) _ (.agg [.int .i64 x0.1, .slice a1 x0.2.length cq1].toArray) (x0.1, x0.2) from ⟨_, rfl, ⟨[.int .i64 x0.1], [.slice a1 x0.2.length cq1], rfl, rfl, r19.rep1⟩⟩) Ex10) ?_
    rintro _ w10 ⟨u3, rfl, r20, hx8⟩
    have k14 := k11.tr hx8
    have k15 := k12.tr hx8
    have k16 := k13.tr hx8
    have hb18 := hb15.ext hx8
    have r21 := r19.ext hx8
    have hb19 := hb16.ext hx8
    have hb20 := hb17.ext hx8
    have hz := RV.sl r20; obtain ⟨a2, cq2, rfl, -, -, -⟩ := hz
    refine vl rfl rfl xmv <| vl rfl rfl (xext rfl rfl) <| vl rfl rfl (xext rfl rfl) <| vl rfl rfl xas <| vl rfl rfl xas <| nl <| wp_seq <| rg <| vl rfl rfl (xlda rfl ti24 rfl (Bx.cs hb18)) <| vl rfl rfl xmv <| ?_
    have hz := bs hF; obtain ⟨x11, Ex11, hF⟩ := hz
    refine cl rfl rfl (xc cb19 (mc rfl (mc rfl mn))) (c19 (show RV (α := (Int × (List (Int × Int × Int)))) _ (.agg [.int .i64 x0.1, .slice a1 x0.2.length cq1].toArray) (x0.1, x0.2) from ⟨_, rfl, ⟨[.int .i64 x0.1], [.slice a1 x0.2.length cq1], rfl, rfl, r21.rep1⟩⟩) Ex11) ?_
    rintro _ w11 ⟨u4, rfl, r22, hx9⟩
    have k17 := k14.tr hx9
    have k18 := k15.tr hx9
    have k19 := k16.tr hx9
    have hb21 := hb18.ext hx9
    have r23 := r21.ext hx9
    have hb22 := hb19.ext hx9
    have hb23 := hb20.ext hx9
    have r24 := r20.ext hx9
    have hz := RV.sl r22; obtain ⟨a3, cq3, rfl, -, -, -⟩ := hz
    refine vl rfl rfl xmv <| vl rfl rfl (xext rfl rfl) <| vl rfl rfl (xext rfl rfl) <| vl rfl rfl xas <| vl rfl rfl xas <| nl <| wp_seq <| rg <| vl rfl rfl (xlda rfl ti24 rfl (Bx.cs hb21)) <| vl rfl rfl xmv <| vl rfl rfl xmv <| ?_
    have hz := bs hF; obtain ⟨x12, Ex12, hF⟩ := hz
    refine cl rfl rfl (xc cb20 (mc rfl (mc rfl (mc rfl mn)))) (c20 (show RV (α := (Int × (List (Int × Int × Int)))) _ (.agg [.int .i64 x0.1, .slice a1 x0.2.length cq1].toArray) (x0.1, x0.2) from ⟨_, rfl, ⟨[.int .i64 x0.1], [.slice a1 x0.2.length cq1], rfl, rfl, r23.rep1⟩⟩) Ex12) ?_
    rintro _ w12 ⟨u5, rfl, r25, hx10⟩
    have k20 := k17.tr hx10
    have k21 := k18.tr hx10
    have k22 := k19.tr hx10
    have hb24 := hb21.ext hx10
    have r26 := r23.ext hx10
    have hb25 := hb22.ext hx10
    have hb26 := hb23.ext hx10
    have r27 := r24.ext hx10
    have r28 := r22.ext hx10
    have hz := id r25; obtain ⟨_, rfl, ⟨_, _, rfl, rfl, rfl⟩⟩ := hz
    refine vl rfl rfl xmv <| vl rfl rfl (xext rfl rfl) <| vl rfl rfl (xext rfl rfl) <| sal ti28 fun b9 w13 hx11 hg4 hb27 => ?_
    have k23 := k20.tr hx11
    have k24 := k21.tr hx11
    have k25 := k22.tr hx11
    have hb28 := hb24.ext hx11
    have r29 := r26.ext hx11
    have hb29 := hb25.ext hx11
    have hb30 := hb26.ext hx11
    have r30 := r27.ext hx11
    have r31 := r28.ext hx11
    have r32 := r25.ext hx11
    refine sst rfl rfl rfl ti28 hb27 rfl rfl (ble rfl) fun w14 hch3 hb31 => ?_
    have k26 := Ext.chg k23 hch3 (Nat.le_trans k20.size hg4)
    have k27 := Ext.chg k24 hch3 (Nat.le_trans k21.size hg4)
    have k28 := Ext.chg k25 hch3 (Nat.le_trans k22.size hg4)
    have k29 := Ext.chg hx11 hch3 (Nat.le_trans (Nat.le_refl _) hg4)
    have hb32 := hb24.ext k29
    have r33 := r26.ext k29
    have hb33 := hb25.ext k29
    have hb34 := hb26.ext k29
    have r34 := r27.ext k29
    have r35 := r28.ext k29
    have hb35 : Bx w14 b9 28 [.int .i64 x12.1.1, .int .i64 x12.1.2] := hb31
    refine vl rfl rfl xas <| nl <| wp_seq <| rg <| vl rfl rfl (xlda rfl ti24 rfl (Bx.cs hb32)) <| vl rfl rfl xmv <| vl rfl rfl xmv <| ?_
    have hz := bs hF; obtain ⟨x13, Ex13, hF⟩ := hz
    refine cl rfl rfl (xc cb21 (mc rfl (mc rfl (mc rfl mn)))) (c21 (show RV (α := (Int × (List (Int × Int × Int)))) _ (.agg [.int .i64 x0.1, .slice a1 x0.2.length cq1].toArray) (x0.1, x0.2) from ⟨_, rfl, ⟨[.int .i64 x0.1], [.slice a1 x0.2.length cq1], rfl, rfl, r33.rep1⟩⟩) Ex13) ?_
    rintro _ w15 ⟨u6, rfl, r36, hx12⟩
    have k30 := k26.tr hx12
    have k31 := k27.tr hx12
    have k32 := k28.tr hx12
    have k33 := k29.tr hx12
    have hb36 := hb32.ext hx12
    have r37 := r33.ext hx12
    have hb37 := hb33.ext hx12
    have hb38 := hb34.ext hx12
    have hb39 := hb35.ext hx12
    have r38 := r34.ext hx12
    have r39 := r35.ext hx12
    have hz := id r36; obtain ⟨_, rfl, ⟨_, _, rfl, rfl, rfl⟩⟩ := hz
    refine vl rfl rfl xmv <| vl rfl rfl (xext rfl rfl) <| vl rfl rfl (xext rfl rfl) <| sal ti28 fun b10 w16 hx13 hg5 hb40 => ?_
    have k34 := k30.tr hx13
    have k35 := k31.tr hx13
    have k36 := k32.tr hx13
    have k37 := k33.tr hx13
    have hb41 := hb36.ext hx13
    have r40 := r37.ext hx13
    have hb42 := hb37.ext hx13
    have hb43 := hb38.ext hx13
    have hb44 := hb39.ext hx13
    have r41 := r38.ext hx13
    have r42 := r39.ext hx13
    have r43 := r36.ext hx13
    refine sst rfl rfl rfl ti28 hb40 rfl rfl (ble rfl) fun w17 hch4 hb45 => ?_
    have k38 := Ext.chg k34 hch4 (Nat.le_trans k30.size hg5)
    have k39 := Ext.chg k35 hch4 (Nat.le_trans k31.size hg5)
    have k40 := Ext.chg k36 hch4 (Nat.le_trans k32.size hg5)
    have k41 := Ext.chg k37 hch4 (Nat.le_trans k33.size hg5)
    have k42 := Ext.chg hx13 hch4 (Nat.le_trans (Nat.le_refl _) hg5)
    have hb46 := hb36.ext k42
    have r44 := r37.ext k42
    have hb47 := hb37.ext k42
    have hb48 := hb38.ext k42
    have hb49 := hb39.ext k42
    have r45 := r38.ext k42
    have r46 := r39.ext k42
    have hb50 : Bx w17 b10 28 [.int .i64 x13.1.1, .int .i64 x13.1.2] := hb45
    refine vl rfl rfl xas <| nl <| wp_seq <| rg <| vl rfl rfl (xlda rfl ti24 rfl (Bx.cs hb46)) <| vl rfl rfl xmv <| vl rfl rfl xmv <| ?_
    have hz := bs hF; obtain ⟨x14, Ex14, hF⟩ := hz
    refine cl rfl rfl (xc cb22 (mc rfl (mc rfl (mc rfl mn)))) (c22 (show RV (α := (Int × (List (Int × Int × Int)))) _ (.agg [.int .i64 x0.1, .slice a1 x0.2.length cq1].toArray) (x0.1, x0.2) from ⟨_, rfl, ⟨[.int .i64 x0.1], [.slice a1 x0.2.length cq1], rfl, rfl, r44.rep1⟩⟩) Ex14) ?_
    rintro _ w18 ⟨u7, rfl, r47, hx14⟩
    have k43 := k38.tr hx14
    have k44 := k39.tr hx14
    have k45 := k40.tr hx14
    have k46 := k41.tr hx14
    have k47 := k42.tr hx14
    have hb51 := hb46.ext hx14
    have r48 := r44.ext hx14
    have hb52 := hb47.ext hx14
    have hb53 := hb48.ext hx14
    have hb54 := hb49.ext hx14
    have hb55 := hb50.ext hx14
    have r49 := r45.ext hx14
    have r50 := r46.ext hx14
    have hz := RV.sl r47; obtain ⟨a4, cq4, rfl, -, -, -⟩ := hz
    refine vl rfl rfl xmv <| vl rfl rfl (xext rfl rfl) <| vl rfl rfl (xext rfl rfl) <| vl rfl rfl (xext rfl rfl) <| vl rfl rfl xas <| vl rfl rfl xas <| vl rfl rfl xas <| nl <| wp_seq <| rg <| vl rfl rfl (xlda rfl ti24 rfl (Bx.cs hb51)) <| vl rfl rfl xmv <| vl rfl rfl xmv <| ?_
    have hz := bs hF; obtain ⟨x15, Ex15, hF⟩ := hz
    refine cl rfl rfl (xc cb23 (mc rfl (mc rfl (mc rfl mn)))) (c23 (show RV (α := (Int × (List (Int × Int × Int)))) _ (.agg [.int .i64 x0.1, .slice a1 x0.2.length cq1].toArray) (x0.1, x0.2) from ⟨_, rfl, ⟨[.int .i64 x0.1], [.slice a1 x0.2.length cq1], rfl, rfl, r48.rep1⟩⟩) Ex15) ?_
    rintro _ w19 ⟨rfl, hx15⟩
    have k48 := k43.tr hx15
    have k49 := k44.tr hx15
    have k50 := k45.tr hx15
    have k51 := k46.tr hx15
    have k52 := k47.tr hx15
    have hb56 := hb51.ext hx15
    have r51 := r48.ext hx15
    have hb57 := hb52.ext hx15
    have hb58 := hb53.ext hx15
    have hb59 := hb54.ext hx15
    have hb60 := hb55.ext hx15
    have r52 := r49.ext hx15
    have r53 := r50.ext hx15
    have r54 := r47.ext hx15
    refine vl rfl rfl xmv <| vl rfl rfl (xext rfl rfl) <| vl rfl rfl (xext rfl rfl) <| vl rfl rfl xas <| vl rfl rfl xas <| nl <| wp_seq <| wp_seq <| ?_
    have hz := bs hF; obtain ⟨y1, hB1, hF⟩ := hz
    refine ct (fun L w => L 124 = .bool y1 ∧ L 1 = .int .i64 x1 ∧ L 2 = .int .i64 x2 ∧ L 5 = .pointer (some ⟨b6, 0, none⟩) ∧ L 23 = .slice a4 x14.1.length cq4 ∧ L 24 = .int .i64 x14.2.1 ∧ L 25 = .int .i64 x14.2.2 ∧ Ext w19 w) ?_ ?_
    ·
      refine rg <| vl rfl rfl (xlda rfl ti28 rfl (Bx.cs hb57)) <| vl rfl rfl (xlda rfl ti28 rfl (Bx.cs hb58)) <| vl rfl rfl (xagn (α := (Int × Int)) (a := (x8.1.1, x8.1.2)) (b := (x9.1.1, x9.1.2)) rfl eg28 eq28 rfl rfl rfl rfl rfl) <| vl rfl rfl xmv <| ?_
      have hz := ifsn hB1; obtain ⟨h7, hB1⟩ := hz
      refine gtk rfl rfl rfl rfl rfl (bf h7) <| vl rfl rfl xmv <| gtk rfl rfl rfl rfl rfl (bf h7) <| vl rfl rfl xmv <| gtk rfl rfl rfl rfl rfl (bf h7) <| vl rfl rfl (xneq rfl rfl) <| vl rfl rfl (xpf rfl h7 rfl) <| vl rfl rfl xmv <| ?_
      have hz := ifsn hB1; obtain ⟨h8, hB1⟩ := hz
      refine gtk rfl rfl rfl rfl rfl (bf h8) <| vl rfl rfl xmv <| gtk rfl rfl rfl rfl rfl (bf h8) <| vl rfl rfl xmv <| ?_
      have hz := bs hB1; obtain ⟨x16, Ex16, hB1⟩ := hz
      refine gtk rfl rfl rfl rfl rfl (bf h8) <| cl rfl rfl (xc cb24 (mc rfl (mc rfl mn))) (c24 r52 r53 Ex16) ?_
      rintro _ w20 ⟨rfl, hx16⟩
      have k53 := k48.tr hx16
      have k54 := k49.tr hx16
      have k55 := k50.tr hx16
      have k56 := k51.tr hx16
      have k57 := k52.tr hx16
      have hb61 := hb56.ext hx16
      have r55 := r51.ext hx16
      have hb62 := hb59.ext hx16
      have hb63 := hb60.ext hx16
      have r56 := r54.ext hx16
      refine gtk rfl rfl rfl rfl rfl (bf h8) <| vl rfl rfl (xnot rfl) <| vl rfl rfl (xpf rfl h8 rfl) <| vl rfl rfl xmv <| ?_
      have hz := ifsn hB1; obtain ⟨h9, hB1⟩ := hz
      refine gtk rfl rfl rfl rfl rfl (bf h9) <| vl rfl rfl xmv <| gtk rfl rfl rfl rfl rfl (bf h9) <| vl rfl rfl xmv <| gtk rfl rfl rfl rfl rfl (bf h9) <| vl rfl rfl (xneq rfl rfl) <| vl rfl rfl (xpf rfl h9 rfl) <| vl rfl rfl xmv <| ?_
      have hz := ifsn hB1; obtain ⟨h10, hB1⟩ := hz
      refine gtk rfl rfl rfl rfl rfl (bf h10) <| vl rfl rfl (xlda rfl ti28 rfl (Bx.cs hb62)) <| gtk rfl rfl rfl rfl rfl (bf h10) <| vl rfl rfl (xlda rfl ti28 rfl (Bx.cs hb63)) <| gtk rfl rfl rfl rfl rfl (bf h10) <| vl rfl rfl (xagn (α := (Int × Int)) (a := (x12.1.1, x12.1.2)) (b := (x13.1.1, x13.1.2)) rfl eg28 eq28 rfl rfl rfl rfl rfl) <| vl rfl rfl (xpf rfl h10 rfl) <| vl rfl rfl xmv <| ?_
      have hz := ifsn hB1; obtain ⟨h11, hB1⟩ := hz
      refine gtk rfl rfl rfl rfl rfl (bf h11) <| vl rfl rfl xmv <| gtk rfl rfl rfl rfl rfl (bf h11) <| vl rfl rfl xmv <| gtk rfl rfl rfl rfl rfl (bf h11) <| vl rfl rfl (xneq rfl rfl) <| vl rfl rfl (xpf rfl h11 rfl) <| vl rfl rfl xmv <| ?_
      have hz := ifsn hB1; obtain ⟨h12, hB1⟩ := hz
      refine gtk rfl rfl rfl rfl rfl (bf h12) <| vl rfl rfl xmv <| gtk rfl rfl rfl rfl rfl (bf h12) <| vl rfl rfl xmv <| gtk rfl rfl rfl rfl rfl (bf h12) <| vl rfl rfl (xneq rfl rfl) <| vl rfl rfl (xpf rfl h12 rfl) <| vl rfl rfl xmv <| ?_
      have hz := ifsn hB1; obtain ⟨h13, hB1⟩ := hz
      refine gtk rfl rfl rfl rfl rfl (bf h13) <| vl rfl rfl xmv <| gtk rfl rfl rfl rfl rfl (bf h13) <| vl rfl rfl xmv <| gtk rfl rfl rfl rfl rfl (bf h13) <| vl rfl rfl (xneq rfl rfl) <| vl rfl rfl (xpf rfl h13 rfl) <| nl <| ?_
      cases hB1
      refine lf <| ?_
      exact ⟨rfl, rfl, rfl, rfl, rfl, rfl, rfl, hx16⟩
    rintro L w21 ⟨l124_j1, l1_j1, l2_j1, l5_j1, l23_j1, l24_j1, l25_j1, K0_j1⟩
    have k58 := k48.tr K0_j1
    have k59 := k49.tr K0_j1
    have k60 := k50.tr K0_j1
    have k61 := k51.tr K0_j1
    have k62 := k52.tr K0_j1
    have r57 := r51.ext K0_j1
    have hb64 := hb56.ext K0_j1
    have r58 := r54.ext K0_j1
    refine cnd l124_j1 (fun h14 => ?_) (fun h14 => ?_)
    ·
      have hF := ifp hF h14
      refine wp_seq <| rg <| vl rfl rfl xas <| nl <| ?_
      cases hF
      exact wp_ret <| rt rfl (.tmp rfl rfl .nil) ⟨rfl, k58⟩
    ·
      have hF := ifn hF h14
      refine wp_skip <| wp_seq <| wp_seq <| rg <| vl rfl rfl xmv <| vl rfl rfl (xneq l25_j1 rfl) <| nl <| cnd rfl (fun h15 => ?_) (fun h15 => ?_)
      ·
        have hF := ifp hF h15
        refine wp_seq <| ?_
        have hz := bs hF; obtain ⟨y2, hB2, hF⟩ := hz
        refine ct (fun L w => L 10 = .bool y2 ∧ Ext w21 w) ?_ ?_
        ·
          refine rg <| vl rfl rfl xmv <| vl rfl rfl (xlen l23_j1 Try.underlying36) <| vl rfl rfl (xeql rfl rfl) <| vl rfl rfl xmv <| ?_
          have hz := ifs hB2; obtain ⟨h16, hB2⟩ := hz
          have hz := bs hB2; obtain ⟨x17, Ex17, hB2⟩ := hz
          refine gtk rfl rfl rfl rfl rfl (bt h16) <| cl rfl rfl (xc cb15 mn) (c15 Ex17) ?_
          rintro _ w22 ⟨rfl, hx17⟩
          have k63 := k58.tr hx17
          have k64 := k59.tr hx17
          have k65 := k60.tr hx17
          have k66 := k61.tr hx17
          have k67 := k62.tr hx17
          have k68 := K0_j1.tr hx17
          refine vl rfl rfl (xpt rfl h16 rfl) <| vl rfl rfl xas <| nl <| ?_
          cases hB2
          refine lf <| ?_
          exact ⟨rfl, hx17⟩
        rintro L w23 ⟨l10_j2, K0_j2⟩
        have k69 := k58.tr K0_j2
        have k70 := k59.tr K0_j2
        have k71 := k60.tr K0_j2
        have k72 := k61.tr K0_j2
        have k73 := k62.tr K0_j2
        have k74 := K0_j1.tr K0_j2
        cases hF
        exact wp_ret <| rt rfl (.tmp l10_j2 rfl .nil) ⟨rfl, k69⟩
      ·
        have hF := ifn hF h15
        refine wp_skip <| wp_seq <| rg <| vl rfl rfl (xlda l5_j1 ti24 rfl (Bx.cs hb64)) <| vl rfl rfl xmv <| vl rfl rfl xmv <| vl rfl rfl xmv <| ?_
        have hz := bs hF; obtain ⟨x18, Ex18, hF⟩ := hz
        refine cl rfl rfl (xc cb25 (mc rfl (mc l1_j1 (mc l2_j1 (mc l23_j1 mn))))) (c25 (show RV (α := (Int × (List (Int × Int × Int)))) _ (.agg [.int .i64 x0.1, .slice a1 x0.2.length cq1].toArray) (x0.1, x0.2) from ⟨_, rfl, ⟨[.int .i64 x0.1], [.slice a1 x0.2.length cq1], rfl, rfl, r57.rep1⟩⟩) r58 Ex18) ?_
        rintro _ w24 ⟨rfl, hx18⟩
        have k75 := k58.tr hx18
        have k76 := k59.tr hx18
        have k77 := k60.tr hx18
        have k78 := k61.tr hx18
        have k79 := k62.tr hx18
        have k80 := K0_j1.tr hx18
        refine vl rfl rfl xmv <| vl rfl rfl (xext rfl rfl) <| vl rfl rfl (xext rfl rfl) <| vl rfl rfl xas <| vl rfl rfl xas <| nl <| wp_seq <| ?_
        have hz := bs hF; obtain ⟨y3, hB3, hF⟩ := hz
        refine ct (fun L w => L 10 = .bool y3 ∧ Ext w24 w) ?_ ?_
        ·
          refine rg <| vl rfl rfl xmv <| vl rfl rfl (xeql rfl rfl) <| vl rfl rfl xmv <| ?_
          have hz := ifs hB3; obtain ⟨h17, hB3⟩ := hz
          refine gtk rfl rfl rfl rfl rfl (bt h17) <| vl rfl rfl xmv <| gtk rfl rfl rfl rfl rfl (bt h17) <| vl rfl rfl xmv <| gtk rfl rfl rfl rfl rfl (bt h17) <| vl rfl rfl (xeql rfl l24_j1) <| vl rfl rfl (xpt rfl h17 rfl) <| vl rfl rfl xmv <| ?_
          have hz := ifs hB3; obtain ⟨h18, hB3⟩ := hz
          have hz := bs hB3; obtain ⟨x19, Ex19, hB3⟩ := hz
          refine gtk rfl rfl rfl rfl rfl (bt h18) <| cl rfl rfl (xc cb15 mn) (c15 Ex19) ?_
          rintro _ w25 ⟨rfl, hx19⟩
          have k81 := k75.tr hx19
          have k82 := k76.tr hx19
          have k83 := k77.tr hx19
          have k84 := k78.tr hx19
          have k85 := k79.tr hx19
          have k86 := k80.tr hx19
          refine vl rfl rfl (xpt rfl h18 rfl) <| vl rfl rfl xas <| nl <| ?_
          cases hB3
          refine lf <| ?_
          exact ⟨rfl, hx19⟩
        rintro L w26 ⟨l10_j3, K0_j3⟩
        have k87 := k75.tr K0_j3
        have k88 := k76.tr K0_j3
        have k89 := k77.tr K0_j3
        have k90 := k78.tr K0_j3
        have k91 := k79.tr K0_j3
        have k92 := k80.tr K0_j3
        cases hF
        exact wp_ret <| rt rfl (.tmp l10_j3 rfl .nil) ⟨rfl, k87⟩

set_option maxHeartbeats 4000000 in
theorem c13 {w0 : World} {v0 : Value} {x0 : (Int × (List (Int × Int × Int)))} (r0 : RV w0 v0 x0) {x1 : Int} {x2 : Int} {v3 : Value} {x3 : (List Int)} (r3 : RV w0 v3 x3) {F : Nat} {r : Bool} (hF : law01_SpeedProofs F x0 x1 x2 x3 = some r) :
    Calls Try.prog 13 [v0, .int .i64 x1, .int .i64 x2, v3].toArray w0 (Ret fun v w' => v = .bool r ∧ Ext w0 w') := by
  unfold law01_SpeedProofs at hF
  have hz := id r0; obtain ⟨_, rfl, ⟨_, _, rfl, rfl, ⟨a1, cq1, rfl, p1, q5, e1⟩⟩⟩ := hz
  have r5 := RV.of1 p1 q5 e1
  have hz := r3.sl; obtain ⟨a2, cq2, rfl, -, -, -⟩ := hz
  refine entr (n := 99) Try.func13 rfl rfl rfl <| wp_seq <| rg <| sbx rfl rfl fun b5 w1 hx1 hg1 hb1 => ?_
  have r6 := r3.ext hx1
  have r7 := r5.ext hx1
  have r8 := r0.ext hx1
  refine vl rfl rfl xas <| nl <| wp_seq <| wp_seq <| rg <| vl rfl rfl (xlda rfl ti24 rfl (Bx.cs hb1)) <| ?_
  have hz := bs hF; obtain ⟨x5, Ex5, hF⟩ := hz
  refine cl rfl rfl (xc cb14 (mc rfl mn)) (c14 (show RV (α := (Int × (List (Int × Int × Int)))) _ (.agg [.int .i64 x0.1, .slice a1 x0.2.length cq1].toArray) (x0.1, x0.2) from ⟨_, rfl, ⟨[.int .i64 x0.1], [.slice a1 x0.2.length cq1], rfl, rfl, r7.rep1⟩⟩) Ex5) ?_
  rintro _ w2 ⟨rfl, hx2⟩
  have k1 := hx1.tr hx2
  have hb2 := hb1.ext hx2
  have r9 := r7.ext hx2
  have r10 := r6.ext hx2
  refine vl rfl rfl xmv <| gv rfl rfl rfl rfl (gw0 rfl) rfl (fun hc => xmva rfl) <| gv rfl rfl rfl rfl (gw0 rfl) rfl (fun hc => xlen (mv hc rfl) Try.underlying36) <| gv rfl rfl rfl rfl (gw0 rfl) rfl (fun hc => xgtr (mv hc rfl) rfl) <| vl rfl rfl (xpo rfl rfl rfl) <| nl <| cnd rfl (fun h5 => ?_) (fun h5 => ?_)
  ·
    have hF := ifp hF h5
    refine wp_seq <| rg <| ?_
    have hz := bs hF; obtain ⟨x6, Ex6, hF⟩ := hz
    refine cl rfl rfl (xc cb15 mn) (c15 Ex6) ?_
    rintro _ w3 ⟨rfl, hx3⟩
    have k2 := k1.tr hx3
    refine vl rfl rfl xas <| nl <| ?_
    cases hF
    exact wp_ret <| rt rfl (.tmp rfl rfl .nil) ⟨rfl, k2⟩
  ·
    have hF := ifn hF h5
    refine wp_skip <| wp_seq <| rg <| vl rfl rfl (xlda rfl ti24 rfl (Bx.cs hb2)) <| vl rfl rfl xmv <| vl rfl rfl xmv <| vl rfl rfl xmv <| ?_
    have hz := bs hF; obtain ⟨x7, Ex7, hF⟩ := hz
    refine cl rfl rfl (xc cb50 (mc rfl (mc rfl (mc rfl (mc rfl mn))))) (c50 (show RV (α := (Int × (List (Int × Int × Int)))) _ (.agg [.int .i64 x0.1, .slice a1 x0.2.length cq1].toArray) (x0.1, x0.2) from ⟨_, rfl, ⟨[.int .i64 x0.1], [.slice a1 x0.2.length cq1], rfl, rfl, r9.rep1⟩⟩) r10 Ex7) ?_
    rintro _ w4 ⟨rfl, hx4⟩
    have k3 := k1.tr hx4
    have hb3 := hb2.ext hx4
    have r11 := r9.ext hx4
    have r12 := r10.ext hx4
    refine vl rfl rfl xmv <| vl rfl rfl (xext rfl rfl) <| vl rfl rfl (xext rfl rfl) <| vl rfl rfl xas <| vl rfl rfl xas <| nl <| wp_seq <| rg <| vl rfl rfl (xlda rfl ti24 rfl (Bx.cs hb3)) <| vl rfl rfl xmv <| vl rfl rfl xmv <| vl rfl rfl xmv <| ?_
    have hz := bs hF; obtain ⟨x8, Ex8, hF⟩ := hz
    refine cl rfl rfl (xc cb25 (mc rfl (mc rfl (mc rfl (mc rfl mn))))) (c25 (show RV (α := (Int × (List (Int × Int × Int)))) _ (.agg [.int .i64 x0.1, .slice a1 x0.2.length cq1].toArray) (x0.1, x0.2) from ⟨_, rfl, ⟨[.int .i64 x0.1], [.slice a1 x0.2.length cq1], rfl, rfl, r11.rep1⟩⟩) r12 Ex8) ?_
    rintro _ w5 ⟨rfl, hx5⟩
    have k4 := k3.tr hx5
    have hb4 := hb3.ext hx5
    have r13 := r11.ext hx5
    have r14 := r12.ext hx5
    refine vl rfl rfl xmv <| vl rfl rfl (xext rfl rfl) <| vl rfl rfl (xext rfl rfl) <| vl rfl rfl xas <| vl rfl rfl xas <| nl <| wp_seq <| wp_seq <| ?_
    have hz := bs hF; obtain ⟨y1, hB1, hF⟩ := hz
    refine ct (fun L w => L 54 = .bool y1 ∧ L 4 = .pointer (some ⟨b5, 0, none⟩) ∧ Ext w5 w) ?_ ?_
    ·
      refine wpl [] (.pure true 0 (.pure true 1 (.pure true 2 (.pure true 3 (.pure true 4 (.pure true 5 (.pure true 6 (.pure true 7 (.pure true 8 (.pure false 9 (.pure true 10 (.pure false 12 (.pure true 13 (.eff 11 (.eff 14 (.pure true 15 (.pure true 16 .fin)) .stop) .stop)))))))))))))) mixed (by kernel_rfl) (fun w6 hx6 => ?_)
      have k5 := k4.tr hx6
      have hb5 := hb4.ext hx6
      have r15 := r13.ext hx6
      have r16 := r14.ext hx6
      refine pv rfl rfl rfl (fun _ _ => xmv) (.inl rfl) <| pv rfl rfl rfl (fun _ _ => xmv) (.inl rfl) <| pv rfl rfl rfl (fun _ _ => xneq rfl rfl) (.inl rfl) <| pv rfl rfl rfl (fun _ _ => xmv) (.inl rfl) <| ?_
      have hz := ifsn hB1; obtain ⟨h6, hB1⟩ := hz
      refine pvt rfl rfl rfl rfl rfl rfl (bf h6) rfl (fun _ _ => xmv) (.inl rfl) <| pvt rfl rfl rfl rfl rfl rfl (bf h6) rfl (fun _ _ => xmv) (.inl rfl) <| pvt rfl rfl rfl rfl rfl rfl (bf h6) rfl (fun _ _ => xneq rfl rfl) (.inl rfl) <| pv rfl rfl rfl (fun _ _ => xpf rfl h6 rfl) (.inl rfl) <| pv rfl rfl rfl (fun _ _ => xmv) (.inl rfl) <| ?_
      have hz := ifsn hB1; obtain ⟨h7, hB1⟩ := hz
      refine pvt rfl rfl rfl rfl rfl rfl (bf h7) rfl (fun _ hS => xlda rfl ti24 rfl (Bx.cs (hb5.ext (hS.resolve_left nofun)))) (.inr (Ext.refl _)) <| pvt rfl rfl rfl rfl rfl rfl (bf h7) rfl (fun _ _ => xmv) (.inl rfl) <| pvt rfl rfl rfl rfl rfl rfl (bf h7) rfl (fun _ hS => xlda rfl ti24 rfl (Bx.cs (hb5.ext (hS.resolve_left nofun)))) (.inr (Ext.refl _)) <| pvt rfl rfl rfl rfl rfl rfl (bf h7) rfl (fun _ _ => xmv) (.inl rfl) <| ?_
      have hz := bs hB1; obtain ⟨x9, Ex9, hB1⟩ := hz
      refine pe1 rfl <| gtk rfl rfl rfl rfl rfl (bf h7) <| cl rfl rfl (xc cb45 (mc rfl (mc rfl mn))) (c45 (show RV (α := (Int × (List (Int × Int × Int)))) _ (.agg [.int .i64 x0.1, .slice a1 x0.2.length cq1].toArray) (x0.1, x0.2) from ⟨_, rfl, ⟨[.int .i64 x0.1], [.slice a1 x0.2.length cq1], rfl, rfl, r15.rep1⟩⟩) r16 Ex9) ?_
      rintro _ w7 ⟨rfl, hx7⟩
      have k6 := k5.tr hx7
      have k7 := hx6.tr hx7
      have hb6 := hb5.ext hx7
      have r17 := r15.ext hx7
      have r18 := r16.ext hx7
      refine nl ⟨fun _ _ => hx7, ?_⟩
      have hz := bs hB1; obtain ⟨x10, Ex10, hB1⟩ := hz
      refine pe1 rfl <| gtk rfl rfl rfl rfl rfl (bf h7) <| cl rfl rfl (xc cb46 (mc rfl (mc rfl mn))) (c46 (show RV (α := (Int × (List (Int × Int × Int)))) _ (.agg [.int .i64 x0.1, .slice a1 x0.2.length cq1].toArray) (x0.1, x0.2) from ⟨_, rfl, ⟨[.int .i64 x0.1], [.slice a1 x0.2.length cq1], rfl, rfl, r17.rep1⟩⟩) r18 Ex10) ?_
      rintro _ w8 ⟨rfl, hx8⟩
      have k8 := k6.tr hx8
      have k9 := k7.tr hx8
      have k10 := hx7.tr hx8
      have hb7 := hb6.ext hx8
      have r19 := r17.ext hx8
      refine nl ⟨fun _ _ => k10, ?_⟩
      refine pvt rfl rfl rfl rfl rfl rfl (bf h7) rfl (fun _ _ => xneq rfl rfl) (.inl rfl) <| pv rfl rfl rfl (fun _ _ => xpf rfl h7 rfl) (.inl rfl) <| ?_
      cases hB1
      refine lf <| ?_
      exact ⟨rfl, rfl, k9⟩
    rintro L w9 ⟨l54_j1, l4_j1, K0_j1⟩
    have k11 := k4.tr K0_j1
    have r20 := r13.ext K0_j1
    have hb8 := hb4.ext K0_j1
    refine cnd l54_j1 (fun h8 => ?_) (fun h8 => ?_)
    ·
      have hF := ifp hF h8
      refine wp_seq <| rg <| vl rfl rfl xas <| nl <| ?_
      cases hF
      exact wp_ret <| rt rfl (.tmp rfl rfl .nil) ⟨rfl, k11⟩
    ·
      have hF := ifn hF h8
      refine wp_skip <| wp_seq <| rg <| vl rfl rfl (xlda l4_j1 ti24 rfl (Bx.cs hb8)) <| ?_
      have hz := bs hF; obtain ⟨x11, Ex11, hF⟩ := hz
      refine cl rfl rfl (xc cb44 (mc rfl mn)) (c44 (show RV (α := (Int × (List (Int × Int × Int)))) _ (.agg [.int .i64 x0.1, .slice a1 x0.2.length cq1].toArray) (x0.1, x0.2) from ⟨_, rfl, ⟨[.int .i64 x0.1], [.slice a1 x0.2.length cq1], rfl, rfl, r20.rep1⟩⟩) Ex11) ?_
      rintro _ w10 ⟨u1, rfl, r21, hx9⟩
      have k12 := k11.tr hx9
      have k13 := K0_j1.tr hx9
      have hb9 := hb8.ext hx9
      have r22 := r20.ext hx9
      have hz := RV.sl r21; obtain ⟨a3, cq3, rfl, -, -, -⟩ := hz
      refine vl rfl rfl xmv <| vl rfl rfl (xext rfl rfl) <| vl rfl rfl (xext rfl rfl) <| vl rfl rfl xas <| vl rfl rfl xas <| nl <| wp_seq <| wp_seq <| rg <| vl rfl rfl (xlda l4_j1 ti24 rfl (Bx.cs hb9)) <| ?_
      have hz := bs hF; obtain ⟨x12, Ex12, hF⟩ := hz
      refine cl rfl rfl (xc cb36 (mc rfl mn)) (c36 (show RV (α := (Int × (List (Int × Int × Int)))) _ (.agg [.int .i64 x0.1, .slice a1 x0.2.length cq1].toArray) (x0.1, x0.2) from ⟨_, rfl, ⟨[.int .i64 x0.1], [.slice a1 x0.2.length cq1], rfl, rfl, r22.rep1⟩⟩) Ex12) ?_
      rintro _ w11 ⟨rfl, hx10⟩
      have k14 := k12.tr hx10
      have k15 := k13.tr hx10
      have hb10 := hb9.ext hx10
      have r23 := r22.ext hx10
      have r24 := r21.ext hx10
      refine vl rfl rfl (xneq rfl rfl) <| nl <| cnd rfl (fun h9 => ?_) (fun h9 => ?_)
      ·
        have hF := ifp hF h9
        refine wp_seq <| ?_
        have hz := bs hF; obtain ⟨y2, hB2, hF⟩ := hz
        refine ct (fun L w => L 8 = .bool y2 ∧ Ext w11 w) ?_ ?_
        ·
          refine rg <| vl rfl rfl xmv <| vl rfl rfl (xlda l4_j1 ti24 rfl (Bx.cs hb10)) <| ?_
          have hz := bs hB2; obtain ⟨x13, Ex13, hB2⟩ := hz
          refine cl rfl rfl (xc cb36 (mc rfl mn)) (c36 (show RV (α := (Int × (List (Int × Int × Int)))) _ (.agg [.int .i64 x0.1, .slice a1 x0.2.length cq1].toArray) (x0.1, x0.2) from ⟨_, rfl, ⟨[.int .i64 x0.1], [.slice a1 x0.2.length cq1], rfl, rfl, r23.rep1⟩⟩) Ex13) ?_
          rintro _ w12 ⟨rfl, hx11⟩
          have k16 := k14.tr hx11
          have k17 := k15.tr hx11
          have r25 := r24.ext hx11
          refine vl rfl rfl (xeql rfl rfl) <| vl rfl rfl xmv <| ?_
          have hz := ifs hB2; obtain ⟨h10, hB2⟩ := hz
          refine gtk rfl rfl rfl rfl rfl (bt h10) <| vl rfl rfl xmv <| gtk rfl rfl rfl rfl rfl (bt h10) <| vl rfl rfl (xlen rfl Try.underlying36) <| gtk rfl rfl rfl rfl rfl (bt h10) <| vl rfl rfl (xeql rfl rfl) <| vl rfl rfl (xpt rfl h10 rfl) <| vl rfl rfl xmv <| ?_
          have hz := ifs hB2; obtain ⟨h11, hB2⟩ := hz
          have hz := bs hB2; obtain ⟨x14, Ex14, hB2⟩ := hz
          refine gtk rfl rfl rfl rfl rfl (bt h11) <| cl rfl rfl (xc cb15 mn) (c15 Ex14) ?_
          rintro _ w13 ⟨rfl, hx12⟩
          have k18 := k16.tr hx12
          have k19 := k17.tr hx12
          have k20 := hx11.tr hx12
          refine vl rfl rfl (xpt rfl h11 rfl) <| vl rfl rfl xas <| nl <| ?_
          cases hB2
          refine lf <| ?_
          exact ⟨rfl, k20⟩
        rintro L w14 ⟨l8_j2, K0_j2⟩
        have k21 := k14.tr K0_j2
        have k22 := k15.tr K0_j2
        cases hF
        exact wp_ret <| rt rfl (.tmp l8_j2 rfl .nil) ⟨rfl, k21⟩
      ·
        have hF := ifn hF h9
        refine wp_skip <| wp_seq <| wp_seq <| rg <| vl rfl rfl (xlda l4_j1 ti24 rfl (Bx.cs hb10)) <| ?_
        have hz := bs hF; obtain ⟨x15, Ex15, hF⟩ := hz
        refine cl rfl rfl (xc cb37 (mc rfl mn)) (c37 (show RV (α := (Int × (List (Int × Int × Int)))) _ (.agg [.int .i64 x0.1, .slice a1 x0.2.length cq1].toArray) (x0.1, x0.2) from ⟨_, rfl, ⟨[.int .i64 x0.1], [.slice a1 x0.2.length cq1], rfl, rfl, r23.rep1⟩⟩) Ex15) ?_
        rintro _ w15 ⟨rfl, hx13⟩
        have k23 := k14.tr hx13
        have k24 := k15.tr hx13
        have hb11 := hb10.ext hx13
        have r26 := r23.ext hx13
        have r27 := r24.ext hx13
        refine vl rfl rfl (xnot rfl) <| nl <| cnd rfl (fun h12 => ?_) (fun h12 => ?_)
        ·
          have hF := ifp hF h12
          refine wp_seq <| ?_
          have hz := bs hF; obtain ⟨y3, hB3, hF⟩ := hz
          refine ct (fun L w => L 8 = .bool y3 ∧ Ext w15 w) ?_ ?_
          ·
            refine rg <| vl rfl rfl xmv <| vl rfl rfl (xeql rfl rfl) <| vl rfl rfl xmv <| ?_
            have hz := ifs hB3; obtain ⟨h13, hB3⟩ := hz
            refine gtk rfl rfl rfl rfl rfl (bt h13) <| vl rfl rfl xmv <| gtk rfl rfl rfl rfl rfl (bt h13) <| vl rfl rfl (xlen rfl Try.underlying36) <| gtk rfl rfl rfl rfl rfl (bt h13) <| vl rfl rfl (xeql rfl rfl) <| vl rfl rfl (xpt rfl h13 rfl) <| vl rfl rfl xmv <| ?_
            have hz := ifs hB3; obtain ⟨h14, hB3⟩ := hz
            have hz := bs hB3; obtain ⟨x16, Ex16, hB3⟩ := hz
            refine gtk rfl rfl rfl rfl rfl (bt h14) <| cl rfl rfl (xc cb15 mn) (c15 Ex16) ?_
            rintro _ w16 ⟨rfl, hx14⟩
            have k25 := k23.tr hx14
            have k26 := k24.tr hx14
            refine vl rfl rfl (xpt rfl h14 rfl) <| vl rfl rfl xas <| nl <| ?_
            cases hB3
            refine lf <| ?_
            exact ⟨rfl, hx14⟩
          rintro L w17 ⟨l8_j3, K0_j3⟩
          have k27 := k23.tr K0_j3
          have k28 := k24.tr K0_j3
          cases hF
          exact wp_ret <| rt rfl (.tmp l8_j3 rfl .nil) ⟨rfl, k27⟩
        ·
          have hF := ifn hF h12
          refine wp_skip <| wp_seq <| ?_
          have hz := bs hF; obtain ⟨y4, hB4, hF⟩ := hz
          refine ct (fun L w => L 8 = .bool y4 ∧ Ext w15 w) ?_ ?_
          ·
            refine rg <| vl rfl rfl xmv <| vl rfl rfl (xeql rfl rfl) <| vl rfl rfl xmv <| ?_
            have hz := ifs hB4; obtain ⟨h15, hB4⟩ := hz
            refine gtk rfl rfl rfl rfl rfl (bt h15) <| vl rfl rfl (xlda l4_j1 ti24 rfl (Bx.cs hb11)) <| gtk rfl rfl rfl rfl rfl (bt h15) <| vl rfl rfl xmv <| ?_
            have hz := bs hB4; obtain ⟨x17, Ex17, hB4⟩ := hz
            refine gtk rfl rfl rfl rfl rfl (bt h15) <| cl rfl rfl (xc cb46 (mc rfl (mc rfl mn))) (c46 (show RV (α := (Int × (List (Int × Int × Int)))) _ (.agg [.int .i64 x0.1, .slice a1 x0.2.length cq1].toArray) (x0.1, x0.2) from ⟨_, rfl, ⟨[.int .i64 x0.1], [.slice a1 x0.2.length cq1], rfl, rfl, r26.rep1⟩⟩) r27 Ex17) ?_
            rintro _ w18 ⟨rfl, hx15⟩
            have k29 := k23.tr hx15
            have k30 := k24.tr hx15
            refine gtk rfl rfl rfl rfl rfl (bt h15) <| vl rfl rfl (xeql rfl rfl) <| vl rfl rfl (xpt rfl h15 rfl) <| vl rfl rfl xmv <| ?_
            have hz := ifs hB4; obtain ⟨h16, hB4⟩ := hz
            have hz := bs hB4; obtain ⟨x18, Ex18, hB4⟩ := hz
            refine gtk rfl rfl rfl rfl rfl (bt h16) <| cl rfl rfl (xc cb15 mn) (c15 Ex18) ?_
            rintro _ w19 ⟨rfl, hx16⟩
            have k31 := k29.tr hx16
            have k32 := k30.tr hx16
            have k33 := hx15.tr hx16
            refine vl rfl rfl (xpt rfl h16 rfl) <| vl rfl rfl xas <| nl <| ?_
            cases hB4
            refine lf <| ?_
            exact ⟨rfl, k33⟩
          rintro L w20 ⟨l8_j4, K0_j4⟩
          have k34 := k23.tr K0_j4
          have k35 := k24.tr K0_j4
          cases hF
          exact wp_ret <| rt rfl (.tmp l8_j4 rfl .nil) ⟨rfl, k34⟩
end Go.Proofs.Ythppacohnciinaa
