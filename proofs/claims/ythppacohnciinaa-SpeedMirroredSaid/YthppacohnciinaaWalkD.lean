/-
  Each function of the program returns what its pure function computes, and leaves all memory that was there as it was. Condition: the pure function computes something.
-/
import Derived.Test.YthppacohnciinaaFacts
import Derived.Test.YthppacohnciinaaPureD
import Derived.Test.YthppacohnciinaaWalkC
import Derived.Test.YthppacohnciinaaManE
namespace Go.Proofs.Ythppacohnciinaa
open Go Go.Md Go.RowKit
attribute [local irreducible] Go.wpList Go.Code.wp Go.Calls Go.Md.Rnd Go.Md.Mt Go.Md.MtM Go.Md.RndM Go.Code.wpIn

set_option maxHeartbeats 4000000 in
theorem c15 {w0 : World}  {F : Nat} {r : Bool} (hF : law01_Works F = some r) :
    Calls Try.prog 15 [].toArray w0 (Ret fun v w' => v = .bool r ∧ Ext w0 w') := by
  unfold law01_Works at hF
  refine entr (n := 142) Try.func15 rfl rfl rfl <| wp_seq <| rg <| vl rfl rfl xas <| nl <| wp_seq <| rg <| ?_
  have hz := bs hF; obtain ⟨x1, Ex1, hF⟩ := hz
  refine cl rfl rfl (xc cb47 mn) (c47 Ex1) ?_
  rintro _ w1 ⟨u1, rfl, r1, hx1⟩
  have hz := RV.sl r1.rv; obtain ⟨a1, cq1, rfl, -, -, -⟩ := hz
  refine sal ti24 fun b1 w2 hx2 hg1 hb1 => ?_
  have k1 := hx1.tr hx2
  have r2 := r1.ext hx2
  refine sst rfl rfl rfl ti24 hb1 rfl rfl (ble rfl) fun w3 hch1 hb2 => ?_
  have k2 := Ext.chg k1 hch1 (Nat.le_trans hx1.size hg1)
  have k3 := Ext.chg hx2 hch1 (Nat.le_trans (Nat.le_refl _) hg1)
  have r3 := r1.ext k3
  have hb3 : Bx w3 b1 24 [.int .i64 x1.1, .slice a1 x1.2.length cq1] := hb2
  refine nl <| wp_seq <| rg <| vl rfl rfl (xlda rfl ti24 rfl (Bx.cs hb3)) <| sbsv (cs := [.int .i64 16200, .int .i64 16000, .int .i64 15900]) Try.underlying32 ti2 rfl (pc rfl (pc rfl (pc rfl pn))) rfl rfl rfl rfl rfl fun b2 w4 hx3 hg2 hb4 => ?_
  have k4 := k2.tr hx3
  have k5 := k3.tr hx3
  have hb5 := hb3.ext hx3
  have r4 := r3.ext hx3
  have o1 : Row (α := Int) 2 w3.heap.size w4 (.slice (some ⟨b2, 0, none⟩) 3 3) [16200, 16000, 15900] := Row.lit hg2 hb4 rfl (ble rfl)
  have hz := bs hF; obtain ⟨x2, Ex2, hF⟩ := hz
  refine cl rfl rfl (xc cb33 (mc rfl (mc rfl mn))) (c33 (show RV (α := (Int × (List (Int × Int × Int)))) _ (.agg [.int .i64 x1.1, .slice a1 x1.2.length cq1].toArray) (x1.1, x1.2) from ⟨_, rfl, ⟨[.int .i64 x1.1], [.slice a1 x1.2.length cq1], rfl, rfl, r4.rv.rep1⟩⟩) o1.rv Ex2) ?_
  rintro _ w5 ⟨rfl, hx4⟩
  have k6 := k4.tr hx4
  have k7 := k5.tr hx4
  have k8 := hx3.tr hx4
  have hb6 := hb5.ext hx4
  have r6 := r4.ext hx4
  refine vl rfl rfl xas <| nl <| wp_seq <| rg <| vl rfl rfl (xlda rfl ti24 rfl (Bx.cs hb6)) <| ?_
  have hz := bs hF; obtain ⟨x3, Ex3, hF⟩ := hz
  refine cl rfl rfl (xc cb16 (mc rfl (mc rfl mn))) (c16 (show RV (α := (Int × (List (Int × Int × Int)))) _ (.agg [.int .i64 x1.1, .slice a1 x1.2.length cq1].toArray) (x1.1, x1.2) from ⟨_, rfl, ⟨[.int .i64 x1.1], [.slice a1 x1.2.length cq1], rfl, rfl, r6.rv.rep1⟩⟩) Ex3) ?_
  rintro _ w6 ⟨u2, rfl, r7, hx5⟩
  have k9 := k6.tr hx5
  have k10 := k7.tr hx5
  have k11 := k8.tr hx5
  have hb7 := hb6.ext hx5
  have r8 := r6.ext hx5
  have hz := id r7; obtain ⟨_, rfl, ⟨_, _, rfl, rfl, rfl⟩⟩ := hz
  refine vl rfl rfl xmv <| vl rfl rfl (xext rfl rfl) <| vl rfl rfl (xext rfl rfl) <| sal ti28 fun b3 w7 hx6 hg3 hb8 => ?_
  have k12 := k9.tr hx6
  have k13 := k10.tr hx6
  have k14 := k11.tr hx6
  have hb9 := hb7.ext hx6
  have r9 := r8.ext hx6
  have r10 := r7.ext hx6
  refine sst rfl rfl rfl ti28 hb8 rfl rfl (ble rfl) fun w8 hch2 hb10 => ?_
  have k15 := Ext.chg k12 hch2 (Nat.le_trans k9.size hg3)
  have k16 := Ext.chg k13 hch2 (Nat.le_trans k10.size hg3)
  have k17 := Ext.chg k14 hch2 (Nat.le_trans k11.size hg3)
  have k18 := Ext.chg hx6 hch2 (Nat.le_trans (Nat.le_refl _) hg3)
  have hb11 := hb7.ext k18
  have r11 := r8.ext k18
  have hb12 : Bx w8 b3 28 [.int .i64 x3.1.1, .int .i64 x3.1.2] := hb10
  refine vl rfl rfl xas <| nl <| wp_seq <| rg <| vl rfl rfl (xlda rfl ti24 rfl (Bx.cs hb11)) <| ?_
  have hz := bs hF; obtain ⟨x4, Ex4, hF⟩ := hz
  refine cl rfl rfl (xc cb22 (mc rfl (mc rfl (mc rfl mn)))) (c22 (show RV (α := (Int × (List (Int × Int × Int)))) _ (.agg [.int .i64 x1.1, .slice a1 x1.2.length cq1].toArray) (x1.1, x1.2) from ⟨_, rfl, ⟨[.int .i64 x1.1], [.slice a1 x1.2.length cq1], rfl, rfl, r11.rv.rep1⟩⟩) Ex4) ?_
  rintro _ w9 ⟨u3, rfl, r12, hx7⟩
  have k19 := k15.tr hx7
  have k20 := k16.tr hx7
  have k21 := k17.tr hx7
  have k22 := k18.tr hx7
  have hb13 := hb11.ext hx7
  have r13 := r11.ext hx7
  have hb14 := hb12.ext hx7
  have hz := RV.sl r12; obtain ⟨a2, cq2, rfl, -, -, -⟩ := hz
  refine vl rfl rfl xmv <| vl rfl rfl (xext rfl rfl) <| vl rfl rfl (xext rfl rfl) <| vl rfl rfl (xext rfl rfl) <| vl rfl rfl xas <| vl rfl rfl xas <| vl rfl rfl xas <| nl <| wp_seq <| rg <| vl rfl rfl (xlda rfl ti24 rfl (Bx.cs hb13)) <| ?_
  have hz := bs hF; obtain ⟨x5, Ex5, hF⟩ := hz
  refine cl rfl rfl (xc cb44 (mc rfl mn)) (c44 (show RV (α := (Int × (List (Int × Int × Int)))) _ (.agg [.int .i64 x1.1, .slice a1 x1.2.length cq1].toArray) (x1.1, x1.2) from ⟨_, rfl, ⟨[.int .i64 x1.1], [.slice a1 x1.2.length cq1], rfl, rfl, r13.rv.rep1⟩⟩) Ex5) ?_
  rintro _ w10 ⟨u4, rfl, r14, hx8⟩
  have k23 := k19.tr hx8
  have k24 := k20.tr hx8
  have k25 := k21.tr hx8
  have k26 := k22.tr hx8
  have hb15 := hb13.ext hx8
  have r15 := r13.ext hx8
  have hb16 := hb14.ext hx8
  have r16 := r12.ext hx8
  have hz := RV.sl r14; obtain ⟨a3, cq3, rfl, -, -, -⟩ := hz
  refine vl rfl rfl xmv <| vl rfl rfl (xext rfl rfl) <| vl rfl rfl (xext rfl rfl) <| vl rfl rfl xas <| vl rfl rfl xas <| nl <| wp_seq <| rg <| ?_
  have hz := bs hF; obtain ⟨x6, Ex6, hF⟩ := hz
  refine cl rfl rfl (xc cb48 mn) (c48 Ex6) ?_
  rintro _ w11 ⟨u5, rfl, r17, hx9⟩
  have k27 := k23.tr hx9
  have k28 := k24.tr hx9
  have k29 := k25.tr hx9
  have k30 := k26.tr hx9
  have hb17 := hb15.ext hx9
  have r18 := r15.ext hx9
  have hb18 := hb16.ext hx9
  have r19 := r16.ext hx9
  have hz := id r17; obtain ⟨_, rfl, ⟨_, _, rfl, rfl, ⟨a4, cq4, rfl, p1, q1, e1⟩⟩⟩ := hz
  have r20 := RV.of1 p1 q1 e1
  have hz := bs hF; obtain ⟨x7, Ex7, hF⟩ := hz
  refine cl rfl rfl (xc cb44 (mc rfl mn)) (c44 r17 Ex7) ?_
  rintro _ w12 ⟨u6, rfl, r21, hx10⟩
  have k31 := k27.tr hx10
  have k32 := k28.tr hx10
  have k33 := k29.tr hx10
  have k34 := k30.tr hx10
  have hb19 := hb17.ext hx10
  have r22 := r18.ext hx10
  have hb20 := hb18.ext hx10
  have r23 := r19.ext hx10
  have hz := RV.sl r21; obtain ⟨a5, cq5, rfl, -, -, -⟩ := hz
  refine vl rfl rfl xmv <| vl rfl rfl (xext rfl rfl) <| vl rfl rfl (xext rfl rfl) <| vl rfl rfl xas <| vl rfl rfl xas <| nl <| wp_seq <| rg <| ?_
  have hz := bs hF; obtain ⟨x8, Ex8, hF⟩ := hz
  refine cl rfl rfl (xc cb34 (mc rfl (mc rfl mn))) (c34 Ex8) ?_
  rintro _ w13 ⟨u7, rfl, r24, hx11⟩
  have k35 := k31.tr hx11
  have k36 := k32.tr hx11
  have k37 := k33.tr hx11
  have k38 := k34.tr hx11
  have hb21 := hb19.ext hx11
  have r25 := r22.ext hx11
  have hb22 := hb20.ext hx11
  have r26 := r23.ext hx11
  have r27 := r21.ext hx11
  have hz := id r24; obtain ⟨_, rfl, ⟨_, _, rfl, rfl, rfl⟩⟩ := hz
  have hz := bs hF; obtain ⟨x9, Ex9, hF⟩ := hz
  refine cl rfl rfl (xc cb26 (mc rfl (mc rfl (mc rfl mn)))) (c26 r24 Ex9) ?_
  rintro _ w14 ⟨u8, rfl, r28, hx12⟩
  have k39 := k35.tr hx12
  have k40 := k36.tr hx12
  have k41 := k37.tr hx12
  have k42 := k38.tr hx12
  have hb23 := hb21.ext hx12
  have r29 := r25.ext hx12
  have hb24 := hb22.ext hx12
  have r30 := r26.ext hx12
  have r31 := r27.ext hx12
  have hz := RV.sl r28; obtain ⟨a6, cq6, rfl, -, -, -⟩ := hz
  refine vl rfl rfl xmv <| vl rfl rfl (xext rfl rfl) <| vl rfl rfl (xext rfl rfl) <| vl rfl rfl xas <| vl rfl rfl xas <| nl <| wp_seq <| rg <| ?_
  have hz := bs hF; obtain ⟨x10, Ex10, hF⟩ := hz
  refine cl rfl rfl (xc cb28 (mc rfl (mc rfl (mc rfl mn)))) (c28 Ex10) ?_
  rintro _ w15 ⟨u9, rfl, r32, hx13⟩
  have k43 := k39.tr hx13
  have k44 := k40.tr hx13
  have k45 := k41.tr hx13
  have k46 := k42.tr hx13
  have hb25 := hb23.ext hx13
  have r33 := r29.ext hx13
  have hb26 := hb24.ext hx13
  have r34 := r30.ext hx13
  have r35 := r31.ext hx13
  have r36 := r28.ext hx13
  have hz := RV.sl r32; obtain ⟨a7, cq7, rfl, -, -, -⟩ := hz
  refine vl rfl rfl xmv <| vl rfl rfl (xext rfl rfl) <| vl rfl rfl (xext rfl rfl) <| vl rfl rfl xas <| vl rfl rfl xas <| nl <| wp_seq <| rg <| vl rfl rfl (xlda rfl ti24 rfl (Bx.cs hb25)) <| ?_
  have hz := bs hF; obtain ⟨x11, Ex11, hF⟩ := hz
  refine cl rfl rfl (xc cb20 (mc rfl (mc rfl (mc rfl mn)))) (c20 (show RV (α := (Int × (List (Int × Int × Int)))) _ (.agg [.int .i64 x1.1, .slice a1 x1.2.length cq1].toArray) (x1.1, x1.2) from ⟨_, rfl, ⟨[.int .i64 x1.1], [.slice a1 x1.2.length cq1], rfl, rfl, r33.rv.rep1⟩⟩) Ex11) ?_
  rintro _ w16 ⟨u10, rfl, r37, hx14⟩
  have k47 := k43.tr hx14
  have k48 := k44.tr hx14
  have k49 := k45.tr hx14
  have k50 := k46.tr hx14
  have hb27 := hb25.ext hx14
  have r38 := r33.ext hx14
  have hb28 := hb26.ext hx14
  have r39 := r34.ext hx14
  have r40 := r35.ext hx14
  have r41 := r36.ext hx14
  have r42 := r32.ext hx14
  have hz := id r37; obtain ⟨_, rfl, ⟨_, _, rfl, rfl, rfl⟩⟩ := hz
  refine vl rfl rfl xmv <| vl rfl rfl (xext rfl rfl) <| vl rfl rfl (xext rfl rfl) <| sal ti28 fun b4 w17 hx15 hg4 hb29 => ?_
  have k51 := k47.tr hx15
  have k52 := k48.tr hx15
  have k53 := k49.tr hx15
  have k54 := k50.tr hx15
  have hb30 := hb27.ext hx15
  have r43 := r38.ext hx15
  have hb31 := hb28.ext hx15
  have r44 := r39.ext hx15
  have r45 := r40.ext hx15
  have r46 := r41.ext hx15
  have r47 := r42.ext hx15
  have r48 := r37.ext hx15
  refine sst rfl rfl rfl ti28 hb29 rfl rfl (ble rfl) fun w18 hch3 hb32 => ?_
  have k55 := Ext.chg k51 hch3 (Nat.le_trans k47.size hg4)
  have k56 := Ext.chg k52 hch3 (Nat.le_trans k48.size hg4)
  have k57 := Ext.chg k53 hch3 (Nat.le_trans k49.size hg4)
  have k58 := Ext.chg k54 hch3 (Nat.le_trans k50.size hg4)
  have k59 := Ext.chg hx15 hch3 (Nat.le_trans (Nat.le_refl _) hg4)
  have hb33 := hb27.ext k59
  have r49 := r38.ext k59
  have hb34 := hb28.ext k59
  have r50 := r39.ext k59
  have r51 := r40.ext k59
  have r52 := r41.ext k59
  have r53 := r42.ext k59
  have hb35 : Bx w18 b4 28 [.int .i64 x11.1.1, .int .i64 x11.1.2] := hb32
  refine vl rfl rfl xas <| nl <| wp_seq <| rg <| vl rfl rfl (xlda rfl ti24 rfl (Bx.cs hb33)) <| ?_
  have hz := bs hF; obtain ⟨x12, Ex12, hF⟩ := hz
  refine cl rfl rfl (xc cb18 (mc rfl (mc rfl mn))) (c18 (show RV (α := (Int × (List (Int × Int × Int)))) _ (.agg [.int .i64 x1.1, .slice a1 x1.2.length cq1].toArray) (x1.1, x1.2) from ⟨_, rfl, ⟨[.int .i64 x1.1], [.slice a1 x1.2.length cq1], rfl, rfl, r49.rv.rep1⟩⟩) Ex12) ?_
  rintro _ w19 ⟨u11, rfl, r54, hx16⟩
  have k60 := k55.tr hx16
  have k61 := k56.tr hx16
  have k62 := k57.tr hx16
  have k63 := k58.tr hx16
  have k64 := k59.tr hx16
  have hb36 := hb33.ext hx16
  have r55 := r49.ext hx16
  have hb37 := hb34.ext hx16
  have hb38 := hb35.ext hx16
  have r56 := r50.ext hx16
  have r57 := r51.ext hx16
  have r58 := r52.ext hx16
  have r59 := r53.ext hx16
  have hz := RV.sl r54; obtain ⟨a8, cq8, rfl, -, -, -⟩ := hz
  refine vl rfl rfl xmv <| vl rfl rfl (xext rfl rfl) <| vl rfl rfl (xext rfl rfl) <| vl rfl rfl xas <| vl rfl rfl xas <| nl <| wp_seq <| ?_
  have hz := bs hF; obtain ⟨y1, hB1, hF⟩ := hz
  refine ct (fun L w => L 0 = .bool y1 ∧ Ext w19 w) ?_ ?_
  ·
    refine wpl [] (.pure true 0 (.pure true 1 (.pure true 2 (.pure true 3 (.pure true 4 (.pure true 5 (.pure true 6 (.pure true 7 (.pure true 8 (.pure true 9 (.pure true 10 (.pure true 11 (.pure true 12 (.pure true 13 (.pure true 14 (.pure true 15 (.pure true 16 (.pure true 17 (.pure true 18 (.pure true 19 (.pure true 20 (.pure true 21 (.pure true 22 (.pure true 23 (.pure true 24 (.pure true 25 (.pure true 26 (.pure true 27 (.pure true 28 (.pure true 29 (.pure true 30 (.pure true 31 (.pure true 32 (.pure true 33 (.pure true 34 (.pure false 35 (.eff 36 (.pure true 37 (.pure true 38 (.pure true 39 (.pure true 40 (.pure true 41 (.pure true 42 (.pure true 43 (.pure true 44 (.eff 45 (.eff 46 (.pure true 47 (.pure true 48 (.pure true 50 (.eff 49 (.eff 51 (.pure true 52 (.pure true 53 (.pure true 54 (.pure true 55 (.eff 56 (.eff 57 (.eff 58 (.eff 59 (.pure true 60 (.pure true 61 (.pure true 62 (.pure true 63 (.pure false 64 (.pure true 65 (.eff 66 (.pure true 67 (.pure true 68 (.pure false 69 (.eff 70 (.pure true 71 (.pure true 72 (.pure true 73 (.pure true 74 (.eff 75 (.eff 76 (.pure true 77 (.pure true 78 .fin)) .stop) .stop))))) .stop)))) .stop))))))) .stop) .stop) .stop) .stop))))) .stop) .stop)))) .stop) .stop))))))))) .stop))))))))))))))))))))))))))))))))))))) mixed (by kernel_rfl) (fun w20 hx17 => ?_)
    have k65 := k60.tr hx17
    have k66 := k61.tr hx17
    have k67 := k62.tr hx17
    have k68 := k63.tr hx17
    have k69 := k64.tr hx17
    have hb39 := hb36.ext hx17
    have r60 := r55.ext hx17
    have hb40 := hb37.ext hx17
    have hb41 := hb38.ext hx17
    have r61 := r56.ext hx17
    have r62 := r57.ext hx17
    have r63 := r58.ext hx17
    have r64 := r59.ext hx17
    have r65 := r54.ext hx17
    refine pv rfl rfl rfl (fun _ _ => xmv) (.inl rfl) <| pv rfl rfl rfl (fun _ _ => xeql rfl rfl) (.inl rfl) <| pv rfl rfl rfl (fun _ _ => xmv) (.inl rfl) <| ?_
    have hz := ifs hB1; obtain ⟨h1, hB1⟩ := hz
    refine pvt rfl rfl rfl rfl rfl rfl (bt h1) rfl (fun _ _ => xmv) (.inl rfl) <| pvt rfl rfl rfl rfl rfl rfl (bt h1) rfl (fun _ _ => xeql rfl rfl) (.inl rfl) <| pv rfl rfl rfl (fun _ _ => xpt rfl h1 rfl) (.inl rfl) <| pv rfl rfl rfl (fun _ _ => xmv) (.inl rfl) <| ?_
    have hz := ifs hB1; obtain ⟨h2, hB1⟩ := hz
    refine pvt rfl rfl rfl rfl rfl rfl (bt h2) rfl (fun _ _ => xmv) (.inl rfl) <| pvt rfl rfl rfl rfl rfl rfl (bt h2) rfl (fun _ _ => xeql rfl rfl) (.inl rfl) <| pv rfl rfl rfl (fun _ _ => xpt rfl h2 rfl) (.inl rfl) <| pv rfl rfl rfl (fun _ _ => xmv) (.inl rfl) <| ?_
    have hz := ifs hB1; obtain ⟨h3, hB1⟩ := hz
    refine pvt rfl rfl rfl rfl rfl rfl (bt h3) rfl (fun _ _ => xmv) (.inl rfl) <| pvt rfl rfl rfl rfl rfl rfl (bt h3) rfl (fun _ _ => xeql rfl rfl) (.inl rfl) <| pv rfl rfl rfl (fun _ _ => xpt rfl h3 rfl) (.inl rfl) <| pv rfl rfl rfl (fun _ _ => xmv) (.inl rfl) <| ?_
    have hz := ifs hB1; obtain ⟨h4, hB1⟩ := hz
    refine pvt rfl rfl rfl rfl rfl rfl (bt h4) rfl (fun _ _ => xmv) (.inl rfl) <| pvt rfl rfl rfl rfl rfl rfl (bt h4) rfl (fun _ _ => xeql rfl rfl) (.inl rfl) <| pv rfl rfl rfl (fun _ _ => xpt rfl h4 rfl) (.inl rfl) <| pv rfl rfl rfl (fun _ _ => xmv) (.inl rfl) <| ?_
    have hz := ifs hB1; obtain ⟨h5, hB1⟩ := hz
    refine pvt rfl rfl rfl rfl rfl rfl (bt h5) rfl (fun _ _ => xmv) (.inl rfl) <| pvt rfl rfl rfl rfl rfl rfl (bt h5) rfl (fun _ _ => xeql rfl rfl) (.inl rfl) <| pv rfl rfl rfl (fun _ _ => xpt rfl h5 rfl) (.inl rfl) <| pv rfl rfl rfl (fun _ _ => xmv) (.inl rfl) <| ?_
    have hz := ifs hB1; obtain ⟨h6, hB1⟩ := hz
    refine pvt rfl rfl rfl rfl rfl rfl (bt h6) rfl (fun _ _ => xmv) (.inl rfl) <| pvt rfl rfl rfl rfl rfl rfl (bt h6) rfl (fun _ _ => xeql rfl rfl) (.inl rfl) <| pv rfl rfl rfl (fun _ _ => xpt rfl h6 rfl) (.inl rfl) <| pv rfl rfl rfl (fun _ _ => xmv) (.inl rfl) <| ?_
    have hz := ifs hB1; obtain ⟨h7, hB1⟩ := hz
    refine pvt rfl rfl rfl rfl rfl rfl (bt h7) rfl (fun _ _ => xmv) (.inl rfl) <| pvt rfl rfl rfl rfl rfl rfl (bt h7) rfl (fun _ _ => xeql rfl rfl) (.inl rfl) <| pv rfl rfl rfl (fun _ _ => xpt rfl h7 rfl) (.inl rfl) <| pv rfl rfl rfl (fun _ _ => xmv) (.inl rfl) <| ?_
    have hz := ifs hB1; obtain ⟨h8, hB1⟩ := hz
    refine pvt rfl rfl rfl rfl rfl rfl (bt h8) rfl (fun _ _ => xmv) (.inl rfl) <| pvt rfl rfl rfl rfl rfl rfl (bt h8) rfl (fun _ _ => xeql rfl rfl) (.inl rfl) <| pv rfl rfl rfl (fun _ _ => xpt rfl h8 rfl) (.inl rfl) <| pv rfl rfl rfl (fun _ _ => xmv) (.inl rfl) <| ?_
    have hz := ifs hB1; obtain ⟨h9, hB1⟩ := hz
    refine pvt rfl rfl rfl rfl rfl rfl (bt h9) rfl (fun _ hS => xlda rfl ti28 rfl (Bx.cs (hb40.ext (hS.resolve_left nofun)))) (.inr (Ext.refl _)) <| ?_
    have hz := bs hB1; obtain ⟨x13, Ex13, hB1⟩ := hz
    refine pe1 rfl <| gtk rfl rfl rfl rfl rfl (bt h9) <| cl rfl rfl (xc cb34 (mc rfl (mc rfl mn))) (c34 Ex13) ?_
    rintro _ w21 ⟨u12, rfl, r66, hx18⟩
    have k70 := k65.tr hx18
    have k71 := k66.tr hx18
    have k72 := k67.tr hx18
    have k73 := k68.tr hx18
    have k74 := k69.tr hx18
    have k75 := hx17.tr hx18
    have hb42 := hb39.ext hx18
    have r67 := r60.ext hx18
    have hb43 := hb41.ext hx18
    have r68 := r61.ext hx18
    have r69 := r62.ext hx18
    have r70 := r63.ext hx18
    have r71 := r64.ext hx18
    have r72 := r65.ext hx18
    have hz := id r66; obtain ⟨_, rfl, ⟨_, _, rfl, rfl, rfl⟩⟩ := hz
    refine nl ⟨fun _ _ => hx18, ?_⟩
    refine pvt rfl rfl rfl rfl rfl rfl (bt h9) rfl (fun _ _ => xage (α := (Int × Int)) (a := (x3.1.1, x3.1.2)) (b := x13) rfl eg28 eq28 rfl rfl rfl rfl rfl) (.inl rfl) <| pv rfl rfl rfl (fun _ _ => xpt rfl h9 rfl) (.inl rfl) <| pv rfl rfl rfl (fun _ _ => xmv) (.inl rfl) <| ?_
    have hz := ifs hB1; obtain ⟨h10, hB1⟩ := hz
    refine pvt rfl rfl rfl rfl rfl rfl (bt h10) rfl (fun _ _ => xmv) (.inl rfl) <| pvt rfl rfl rfl rfl rfl rfl (bt h10) rfl (fun _ _ => xeql rfl rfl) (.inl rfl) <| pv rfl rfl rfl (fun _ _ => xpt rfl h10 rfl) (.inl rfl) <| pv rfl rfl rfl (fun _ _ => xmv) (.inl rfl) <| ?_
    have hz := ifs hB1; obtain ⟨h11, hB1⟩ := hz
    refine pvt rfl rfl rfl rfl rfl rfl (bt h11) rfl (fun _ _ => xmv) (.inl rfl) <| pe1 rfl <| gtk rfl rfl rfl rfl rfl (bt h11) <| sbsv (cs := [.int .i64 5, .int .i64 3]) Try.underlying36 ti3 rfl (pc rfl (pc rfl pn)) rfl rfl rfl rfl rfl fun b5 w22 hx19 hg5 hb44 => ?_
    have k76 := k70.tr hx19
    have k77 := k71.tr hx19
    have k78 := k72.tr hx19
    have k79 := k73.tr hx19
    have k80 := k74.tr hx19
    have k81 := k75.tr hx19
    have k82 := hx18.tr hx19
    have hb45 := hb42.ext hx19
    have r73 := r67.ext hx19
    have hb46 := hb43.ext hx19
    have r74 := r69.ext hx19
    have r75 := r70.ext hx19
    have r76 := r71.ext hx19
    have r77 := r72.ext hx19
    have r78 := r68.ext hx19
    have o2 : Row (α := Int) 3 w21.heap.size w22 (.slice (some ⟨b5, 0, none⟩) 2 2) [5, 3] := Row.lit hg5 hb44 rfl (ble rfl)
    refine nl ⟨fun _ _ => k82, ?_⟩
    have hz := bs hB1; obtain ⟨x14, Ex14, hB1⟩ := hz
    refine pe1 rfl <| gtk rfl rfl rfl rfl rfl (bt h11) <| cl rfl rfl (xc cb52 (mc rfl (mc rfl mn))) (c52 r78 o2.rv Ex14) ?_
    rintro _ w23 ⟨rfl, hx20⟩
    have k83 := k76.tr hx20
    have k84 := k77.tr hx20
    have k85 := k78.tr hx20
    have k86 := k79.tr hx20
    have k87 := k80.tr hx20
    have k88 := k81.tr hx20
    have k89 := k82.tr hx20
    have k90 := hx19.tr hx20
    have hb47 := hb45.ext hx20
    have r80 := r73.ext hx20
    have hb48 := hb46.ext hx20
    have r81 := r74.ext hx20
    have r82 := r75.ext hx20
    have r83 := r76.ext hx20
    have r84 := r77.ext hx20
    refine nl ⟨fun _ _ => k89, ?_⟩
    refine pv rfl rfl rfl (fun _ _ => xpt rfl h11 rfl) (.inl rfl) <| pv rfl rfl rfl (fun _ _ => xmv) (.inl rfl) <| ?_
    have hz := ifs hB1; obtain ⟨h12, hB1⟩ := hz
    refine pvt rfl rfl rfl rfl rfl rfl (bt h12) rfl (fun _ _ => xmv) (.inl rfl) <| ?_
    have hz := bs hB1; obtain ⟨x15, Ex15, hB1⟩ := hz
    refine pe1 rfl <| gtk rfl rfl rfl rfl rfl (bt h12) <| cl rfl rfl (xc cb48 mn) (c48 Ex15) ?_
    rintro _ w24 ⟨u13, rfl, r85, hx21⟩
    have k91 := k83.tr hx21
    have k92 := k84.tr hx21
    have k93 := k85.tr hx21
    have k94 := k86.tr hx21
    have k95 := k87.tr hx21
    have k96 := k88.tr hx21
    have k97 := k89.tr hx21
    have k98 := k90.tr hx21
    have hb49 := hb47.ext hx21
    have r86 := r80.ext hx21
    have hb50 := hb48.ext hx21
    have r87 := r82.ext hx21
    have r88 := r83.ext hx21
    have r89 := r84.ext hx21
    have r90 := r81.ext hx21
    have hz := id r85; obtain ⟨_, rfl, ⟨_, _, rfl, rfl, ⟨a9, cq9, rfl, p2, q2, e2⟩⟩⟩ := hz
    have r91 := RV.of1 p2 q2 e2
    refine nl ⟨fun _ _ => k97, ?_⟩
    have hz := bs hB1; obtain ⟨x16, Ex16, hB1⟩ := hz
    refine pe1 rfl <| gtk rfl rfl rfl rfl rfl (bt h12) <| cl rfl rfl (xc cb46 (mc rfl (mc rfl mn))) (c46 r85 r90 Ex16) ?_
    rintro _ w25 ⟨rfl, hx22⟩
    have k99 := k91.tr hx22
    have k100 := k92.tr hx22
    have k101 := k93.tr hx22
    have k102 := k94.tr hx22
    have k103 := k95.tr hx22
    have k104 := k96.tr hx22
    have k105 := k97.tr hx22
    have k106 := k98.tr hx22
    have hb51 := hb49.ext hx22
    have r92 := r86.ext hx22
    have hb52 := hb50.ext hx22
    have r93 := r87.ext hx22
    have r94 := r88.ext hx22
    have r95 := r89.ext hx22
    refine nl ⟨fun _ _ => k105, ?_⟩
    refine pvt rfl rfl rfl rfl rfl rfl (bt h12) rfl (fun _ _ => xeql rfl rfl) (.inl rfl) <| pv rfl rfl rfl (fun _ _ => xpt rfl h12 rfl) (.inl rfl) <| pv rfl rfl rfl (fun _ _ => xmv) (.inl rfl) <| ?_
    have hz := ifs hB1; obtain ⟨h13, hB1⟩ := hz
    refine pvt rfl rfl rfl rfl rfl rfl (bt h13) rfl (fun _ _ => xmv) (.inl rfl) <| ?_
    have hz := bs hB1; obtain ⟨x17, Ex17, hB1⟩ := hz
    refine pe1 rfl <| gtk rfl rfl rfl rfl rfl (bt h13) <| cl rfl rfl (xc cb39 (mc rfl (mc rfl (mc rfl mn)))) (c39 Ex17) ?_
    rintro _ w26 ⟨u14, rfl, r96, hx23⟩
    have k107 := k99.tr hx23
    have k108 := k100.tr hx23
    have k109 := k101.tr hx23
    have k110 := k102.tr hx23
    have k111 := k103.tr hx23
    have k112 := k104.tr hx23
    have k113 := k105.tr hx23
    have k114 := k106.tr hx23
    have hb53 := hb51.ext hx23
    have r97 := r92.ext hx23
    have hb54 := hb52.ext hx23
    have r98 := r94.ext hx23
    have r99 := r95.ext hx23
    have r100 := r93.ext hx23
    have hz := id r96; obtain ⟨_, rfl, ⟨_, _, rfl, rfl, ⟨_, _, rfl, rfl, rfl⟩⟩⟩ := hz
    refine nl ⟨fun _ _ => k113, ?_⟩
    have hz := bs hB1; obtain ⟨x18, Ex18, hB1⟩ := hz
    refine pe1 rfl <| gtk rfl rfl rfl rfl rfl (bt h13) <| cl rfl rfl (xc cb39 (mc rfl (mc rfl (mc rfl mn)))) (c39 Ex18) ?_
    rintro _ w27 ⟨u15, rfl, r101, hx24⟩
    have k115 := k107.tr hx24
    have k116 := k108.tr hx24
    have k117 := k109.tr hx24
    have k118 := k110.tr hx24
    have k119 := k111.tr hx24
    have k120 := k112.tr hx24
    have k121 := k113.tr hx24
    have k122 := k114.tr hx24
    have hb55 := hb53.ext hx24
    have r102 := r97.ext hx24
    have hb56 := hb54.ext hx24
    have r103 := r98.ext hx24
    have r104 := r99.ext hx24
    have r105 := r100.ext hx24
    have r106 := r96.ext hx24
    have hz := id r101; obtain ⟨_, rfl, ⟨_, _, rfl, rfl, ⟨_, _, rfl, rfl, rfl⟩⟩⟩ := hz
    refine nl ⟨fun _ _ => k121, ?_⟩
    refine pe1 rfl <| gtk rfl rfl rfl rfl rfl (bt h13) <| sbsv (cs := [.int .i64 x17.1, .int .i64 x17.2.1, .int .i64 x17.2.2, .int .i64 x18.1, .int .i64 x18.2.1, .int .i64 x18.2.2]) Try.underlying22 ti56 rfl (pc rfl (pc rfl pn)) rfl rfl rfl rfl rfl fun b6 w28 hx25 hg6 hb57 => ?_
    have k123 := k115.tr hx25
    have k124 := k116.tr hx25
    have k125 := k117.tr hx25
    have k126 := k118.tr hx25
    have k127 := k119.tr hx25
    have k128 := k120.tr hx25
    have k129 := k121.tr hx25
    have k130 := k122.tr hx25
    have hb58 := hb55.ext hx25
    have r107 := r102.ext hx25
    have hb59 := hb56.ext hx25
    have r108 := r103.ext hx25
    have r109 := r104.ext hx25
    have r110 := r105.ext hx25
    have o3 : Row (α := (Int × Int × Int)) 56 w27.heap.size w28 (.slice (some ⟨b6, 0, none⟩) 2 2) [x17, x18] := Row.lit hg6 hb57 rfl (ble rfl)
    refine nl ⟨fun _ _ => k129, ?_⟩
    have hz := bs hB1; obtain ⟨x19, Ex19, hB1⟩ := hz
    refine pe1 rfl <| gtk rfl rfl rfl rfl rfl (bt h13) <| cl rfl rfl (xc cb30 (mc rfl (mc rfl mn))) (c30 r110 o3.rv Ex19) ?_
    rintro _ w29 ⟨rfl, hx26⟩
    have k131 := k123.tr hx26
    have k132 := k124.tr hx26
    have k133 := k125.tr hx26
    have k134 := k126.tr hx26
    have k135 := k127.tr hx26
    have k136 := k128.tr hx26
    have k137 := k129.tr hx26
    have k138 := k130.tr hx26
    have k139 := hx25.tr hx26
    have hb60 := hb58.ext hx26
    have r112 := r107.ext hx26
    have hb61 := hb59.ext hx26
    have r113 := r108.ext hx26
    have r114 := r109.ext hx26
    refine nl ⟨fun _ _ => k137, ?_⟩
    refine pv rfl rfl rfl (fun _ _ => xpt rfl h13 rfl) (.inl rfl) <| pv rfl rfl rfl (fun _ _ => xmv) (.inl rfl) <| ?_
    have hz := ifs hB1; obtain ⟨h14, hB1⟩ := hz
    refine pvt rfl rfl rfl rfl rfl rfl (bt h14) rfl (fun _ _ => xmv) (.inl rfl) <| pvt rfl rfl rfl rfl rfl rfl (bt h14) rfl (fun _ _ => xfa rfl fa24_1) (.inl rfl) <| pvt rfl rfl rfl rfl rfl rfl (bt h14) rfl (fun _ hS => xld rfl ti22 ((Bx.cs (hb39.ext (hS.resolve_left nofun))).at 1 rfl)) (.inr k137) <| ?_
    have hz := bs hB1; obtain ⟨x20, Ex20, hB1⟩ := hz
    have hz := slo r112.rv Ex20 Try.underlying22 ti56; obtain ⟨a10, cq10, r115, hr1⟩ := hz
    refine pvt rfl rfl rfl rfl rfl rfl (bt h14) rfl (fun _ _ => hr1 _ _ _ _ _ _ _ _ _ _ rfl rfl) (.inl rfl) <| ?_
    have hz := bs hB1; obtain ⟨x21, Ex21, hB1⟩ := hz
    refine pe1 rfl <| gtk rfl rfl rfl rfl rfl (bt h14) <| cl rfl rfl (xc cb30 (mc rfl (mc rfl mn))) (c30 r113 r115 Ex21) ?_
    rintro _ w30 ⟨rfl, hx27⟩
    have k140 := k131.tr hx27
    have k141 := k132.tr hx27
    have k142 := k133.tr hx27
    have k143 := k134.tr hx27
    have k144 := k135.tr hx27
    have k145 := k136.tr hx27
    have k146 := k137.tr hx27
    have k147 := k138.tr hx27
    have k148 := k139.tr hx27
    have hb62 := hb61.ext hx27
    have r116 := r114.ext hx27
    refine nl ⟨fun _ _ => k146, ?_⟩
    refine pv rfl rfl rfl (fun _ _ => xpt rfl h14 rfl) (.inl rfl) <| pv rfl rfl rfl (fun _ _ => xmv) (.inl rfl) <| ?_
    have hz := ifs hB1; obtain ⟨h15, hB1⟩ := hz
    refine pvt rfl rfl rfl rfl rfl rfl (bt h15) rfl (fun _ hS => xlda rfl ti28 rfl (Bx.cs (hb41.ext (hS.resolve_left nofun)))) (.inr k146) <| ?_
    have hz := bs hB1; obtain ⟨x22, Ex22, hB1⟩ := hz
    refine pe1 rfl <| gtk rfl rfl rfl rfl rfl (bt h15) <| cl rfl rfl (xc cb34 (mc rfl (mc rfl mn))) (c34 Ex22) ?_
    rintro _ w31 ⟨u16, rfl, r117, hx28⟩
    have k149 := k140.tr hx28
    have k150 := k141.tr hx28
    have k151 := k142.tr hx28
    have k152 := k143.tr hx28
    have k153 := k144.tr hx28
    have k154 := k145.tr hx28
    have k155 := k146.tr hx28
    have k156 := k147.tr hx28
    have k157 := k148.tr hx28
    have r118 := r116.ext hx28
    have hz := id r117; obtain ⟨_, rfl, ⟨_, _, rfl, rfl, rfl⟩⟩ := hz
    refine nl ⟨fun _ _ => k155, ?_⟩
    refine pvt rfl rfl rfl rfl rfl rfl (bt h15) rfl (fun _ _ => xage (α := (Int × Int)) (a := (x11.1.1, x11.1.2)) (b := x22) rfl eg28 eq28 rfl rfl rfl rfl rfl) (.inl rfl) <| pv rfl rfl rfl (fun _ _ => xpt rfl h15 rfl) (.inl rfl) <| pv rfl rfl rfl (fun _ _ => xmv) (.inl rfl) <| ?_
    have hz := ifs hB1; obtain ⟨h16, hB1⟩ := hz
    refine pvt rfl rfl rfl rfl rfl rfl (bt h16) rfl (fun _ _ => xmv) (.inl rfl) <| pe1 rfl <| gtk rfl rfl rfl rfl rfl (bt h16) <| sbsv (cs := [.int .i64 16500, .int .i64 16500, .int .i64 16500]) Try.underlying32 ti2 rfl (pc rfl (pc rfl (pc rfl pn))) rfl rfl rfl rfl rfl fun b7 w32 hx29 hg7 hb63 => ?_
    have k158 := k149.tr hx29
    have k159 := k150.tr hx29
    have k160 := k151.tr hx29
    have k161 := k152.tr hx29
    have k162 := k153.tr hx29
    have k163 := k154.tr hx29
    have k164 := k155.tr hx29
    have k165 := k156.tr hx29
    have k166 := k157.tr hx29
    have r119 := r118.ext hx29
    have o4 : Row (α := Int) 2 w31.heap.size w32 (.slice (some ⟨b7, 0, none⟩) 3 3) [16500, 16500, 16500] := Row.lit hg7 hb63 rfl (ble rfl)
    refine nl ⟨fun _ _ => k164, ?_⟩
    have hz := bs hB1; obtain ⟨x23, Ex23, hB1⟩ := hz
    refine pe1 rfl <| gtk rfl rfl rfl rfl rfl (bt h16) <| cl rfl rfl (xc cb24 (mc rfl (mc rfl mn))) (c24 r119 o4.rv Ex23) ?_
    rintro _ w33 ⟨rfl, hx30⟩
    have k167 := k158.tr hx30
    have k168 := k159.tr hx30
    have k169 := k160.tr hx30
    have k170 := k161.tr hx30
    have k171 := k162.tr hx30
    have k172 := k163.tr hx30
    have k173 := k164.tr hx30
    have k174 := k165.tr hx30
    have k175 := k166.tr hx30
    have k176 := hx29.tr hx30
    refine nl ⟨fun _ _ => k173, ?_⟩
    refine pv rfl rfl rfl (fun _ _ => xpt rfl h16 rfl) (.inl rfl) <| pv rfl rfl rfl (fun _ _ => xas) (.inl rfl) <| ?_
    cases hB1
    refine lf <| ?_
    exact ⟨rfl, k172⟩
  rintro L w34 ⟨l0_j1, K0_j1⟩
  have k177 := k60.tr K0_j1
  have k178 := k61.tr K0_j1
  have k179 := k62.tr K0_j1
  have k180 := k63.tr K0_j1
  have k181 := k64.tr K0_j1
  cases hF
  exact wp_ret <| rt rfl (.tmp l0_j1 rfl .nil) ⟨rfl, k177⟩
end Go.Proofs.Ythppacohnciinaa
