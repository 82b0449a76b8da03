/-
  Each function of the program returns what its pure function computes, and leaves all memory that was there as it was. Condition: the pure function computes something.
-/
import Derived.Test.YtdimoehnkagghaaFacts
import Derived.Test.YtdimoehnkagghaaPureB
import Derived.Test.YtdimoehnkagghaaWalkA
namespace Go.Proofs.Ytdimoehnkagghaa
open Go Go.Md Go.RowKit
attribute [local irreducible] Go.wpList Go.Code.wp Go.Calls Go.Md.Rnd Go.Md.Mt Go.Md.MtM Go.Md.RndM Go.Code.wpIn

set_option maxHeartbeats 4000000 in
theorem c68 {w0 : World} {b0 : Nat} {cs0 : List Value} {x0 : ((Int × (List Int) × (List ((List Int) × Int)) × (List ((List Int) × Int)) × (List (List Int))) × Int × (List ((Bool × Int) × Int × Int)) × (List Int))} (h0 : Cs w0 b0 0 cs0) (q0 : Enc.rep (fun _ => True) w0 cs0 x0) {x1 : Int} {F : Nat} {r : Int} (hF : right_treaty_holds F x0 x1 = some r) :
    Calls Try.prog 68 [.pointer (some ⟨b0, 0, none⟩), .int .i64 x1].toArray w0 (Ret fun v w' => v = .int .i64 r ∧ Ext w0 w') := by
  unfold right_treaty_holds at hF
  obtain ⟨_, _, rfl, ⟨_, _, rfl, rfl, ⟨_, _, rfl, ⟨a1, cq1, rfl, p1, q3, e1⟩, ⟨_, _, rfl, ⟨a2, cq2, rfl, p2, q4, e2⟩, ⟨_, _, rfl, ⟨a3, cq3, rfl, p3, q5, e3⟩, ⟨a4, cq4, rfl, p4, q6, e4⟩⟩⟩⟩⟩, ⟨_, _, rfl, rfl, ⟨_, _, rfl, ⟨a5, cq5, rfl, p5, q7, e5⟩, ⟨a6, cq6, rfl, p6, q8, e6⟩⟩⟩⟩ := q0
  have r3 := RV.of1 p1 q3 e1
  have r4 := RV.of1 p2 q4 e2
  have r5 := RV.of1 p3 q5 e3
  have r6 := RV.of1 p4 q6 e4
  have r7 := RV.of1 p5 q7 e5
  have r8 := RV.of1 p6 q8 e6
  have M1 : Mks w0.heap.size [] w0 := Mks.nil
  refine entrM (m := 12) (n := 35) Try.func68 rfl rfl rfl <| wp_seq <| rg <| vl rfl rfl xas <| nl <| wp_seq <| rg <| vl rfl rfl xmv <| vl rfl rfl (xnil rfl) <| vl rfl rfl (xfa rfl fa74_1) <| vl rfl rfl (xld rfl ti3 (h0.at 5 rfl)) <| vl rfl rfl (xbdav (r := List.flatMap Flat.enc (aset (aset (Ar.fill 2 0 : (Ar 2 Int)) 0 x0.2.1) 1 0).l) ti104 Try.underlying104 ti3 (pc rfl (pc rfl pn)) rfl) <| sal ti104 fun b3 w1 hx1 hg1 hb1 => ?_
  have M2 := M1.ext hx1
  have r9 := r3.ext hx1
  have r10 := r4.ext hx1
  have r11 := r5.ext hx1
  have r12 := r6.ext hx1
  have r13 := r7.ext hx1
  have r14 := r8.ext hx1
  have h3 := h0.ext hx1
  have hb2 : Bx w1 b3 104 (List.flatMap Flat.enc ((Ar.fill 2 0 : (Ar 2 Int))).l) := hb1
  refine sstw rfl rfl ti104 hb2 (arlen _) (arlen _) (flat_one _) fun w2 hch1 hb3 => ?_
  have k1 := Ext.chg hx1 hch1 (Nat.le_trans (Nat.le_refl _) hg1)
  have M3 := M2.chg hch1 hb2.nd
  have r15 := r3.ext k1
  have r16 := r4.ext k1
  have r17 := r5.ext k1
  have r18 := r6.ext k1
  have r19 := r7.ext k1
  have r20 := r8.ext k1
  have h4 := h0.ext k1
  have hb4 : Bx w2 b3 104 (List.flatMap Flat.enc (aset (aset (Ar.fill 2 0 : (Ar 2 Int)) 0 x0.2.1) 1 0).l) := hb3
  refine nl <| ?_
  have hz := bs hF; obtain ⟨o1, hB1, hF⟩ := hz
  refine ctM w0.heap.size (fun L w => False) ?_ ?_
  ·
    refine wp_block <| lpM w0.heap.size (I := fun m L w => ∃ y1 : (Ar 2 Int), right_treaty_holds_l1 F x0 x1 m y1  = some o1 ∧ Bx w b3 104 (List.flatMap Flat.enc y1.l) ∧ L 0 = .pointer (some ⟨b0, 0, none⟩) ∧ L 1 = .int .i64 x1 ∧ L 5 = .pointer (some ⟨b3, 0, none⟩) ∧ Ext w0 w) F M3 ⟨_, hB1, hb4, rfl, rfl, rfl, k1⟩ ?_
    rintro m L D1 w3 M4 ⟨y1, hB1, B5_i1, l0_i1, l1_i1, l5_i1, K0_i1⟩
    rcases m with _ | m
    · rw [right_treaty_holds_l1] at hB1; cases hB1
    rw [right_treaty_holds_l1] at hB1
    have r21 := r3.ext K0_i1
    have r22 := r4.ext K0_i1
    have r23 := r5.ext K0_i1
    have r24 := r6.ext K0_i1
    have r25 := r7.ext K0_i1
    have r26 := r8.ext K0_i1
    have h5 := h0.ext K0_i1
    refine wp_block <| wp_seq <| rg <| vl rfl rfl (xlda l5_i1 ti104 (arlen _) (Bx.cs B5_i1)) <| sal ti104 fun b4 w4 hx2 hg2 hb5 => ?_
    have k2 := K0_i1.tr hx2
    have M5 := M4.ext hx2
    have B1 := B5_i1.ext hx2
    have r27 := r21.ext hx2
    have r28 := r22.ext hx2
    have r29 := r23.ext hx2
    have r30 := r24.ext hx2
    have r31 := r25.ext hx2
    have r32 := r26.ext hx2
    have h6 := h5.ext hx2
    have hb6 : Bx w4 b4 104 (List.flatMap Flat.enc ((Ar.fill 2 0 : (Ar 2 Int))).l) := hb5
    refine sstw rfl rfl ti104 hb6 (arlen _) (arlen _) (flat_one _) fun w5 hch2 hb7 => ?_
    have k3 := Ext.chg k2 hch2 (Nat.le_trans K0_i1.size hg2)
    have k4 := Ext.chg hx2 hch2 (Nat.le_trans (Nat.le_refl _) hg2)
    have M6 := M5.chg hch2 hb6.nd
    have B2 := B5_i1.ext k4
    have r33 := r21.ext k4
    have r34 := r22.ext k4
    have r35 := r23.ext k4
    have r36 := r24.ext k4
    have r37 := r25.ext k4
    have r38 := r26.ext k4
    have h7 := h5.ext k4
    have hb8 : Bx w5 b4 104 (List.flatMap Flat.enc y1.l) := hb7
    refine nl <| wp_seq <| wp_seq <| rg <| vl rfl rfl xmv <| vl rfl rfl xmv <| ?_
    have hz := bs hB1; obtain ⟨x3, Ex3, hB1⟩ := hz
    have hz := ixar (Bx.cs hb8) Ex3; obtain ⟨i2, i3, hc1⟩ := hz
    refine vl rfl rfl (xixa rfl rfl Try.underlying104 ti3 i2 i3) <| vl rfl rfl (xld rfl ti3 (hc1.at 0 rfl)) <| ?_
    have q9 : RVo (· < w0.heap.size) w5 (.pointer (some ⟨b0, 0, none⟩)) (⟨some ((x0.1.1, x0.1.2.1, x0.1.2.2.1, x0.1.2.2.2.1, x0.1.2.2.2.2), x0.2.1, x0.2.2.1, x0.2.2.2)⟩ : Ob ((Int × (List Int) × (List ((List Int) × Int)) × (List ((List Int) × Int)) × (List (List Int))) × Int × (List ((Bool × Int) × Int × Int)) × (List Int))) := RVo.ext (RV.old (w := w0) (obNew h0 rfl ⟨[.int .i64 x0.1.1] ++ ([.slice a1 x0.1.2.1.length cq1] ++ ([.slice a2 x0.1.2.2.1.length cq2] ++ ([.slice a3 x0.1.2.2.2.1.length cq3] ++ [.slice a4 x0.1.2.2.2.2.length cq4]))), [.int .i64 x0.2.1] ++ ([.slice a5 x0.2.2.1.length cq5] ++ [.slice a6 x0.2.2.2.length cq6]), rfl, ⟨[.int .i64 x0.1.1], [.slice a1 x0.1.2.1.length cq1] ++ ([.slice a2 x0.1.2.2.1.length cq2] ++ ([.slice a3 x0.1.2.2.2.1.length cq3] ++ [.slice a4 x0.1.2.2.2.2.length cq4])), rfl, rfl, ⟨[.slice a1 x0.1.2.1.length cq1], [.slice a2 x0.1.2.2.1.length cq2] ++ ([.slice a3 x0.1.2.2.2.1.length cq3] ++ [.slice a4 x0.1.2.2.2.2.length cq4]), rfl, r3.rep1, ⟨[.slice a2 x0.1.2.2.1.length cq2], [.slice a3 x0.1.2.2.2.1.length cq3] ++ [.slice a4 x0.1.2.2.2.2.length cq4], rfl, r4.rep1, ⟨[.slice a3 x0.1.2.2.2.1.length cq3], [.slice a4 x0.1.2.2.2.2.length cq4], rfl, r5.rep1, r6.rep1⟩⟩⟩⟩, ⟨[.int .i64 x0.2.1], [.slice a5 x0.2.2.1.length cq5] ++ [.slice a6 x0.2.2.2.length cq6], rfl, rfl, ⟨[.slice a5 x0.2.2.1.length cq5], [.slice a6 x0.2.2.2.length cq6], rfl, r7.rep1, r8.rep1⟩⟩⟩)) k3
    have hz := bs hB1; obtain ⟨x4, Ex4, hB1⟩ := hz
    refine cl rfl rfl (xc cb71 (mc l0_i1 (mc l1_i1 (mc rfl mn)))) (c71 (a := w0.heap.size) q9 (Below.size k3) Ex4) ?_
    rintro v3 w6 ⟨sq1, hx3⟩
    have k5 := k3.tr hx3
    have k6 := k4.tr hx3
    have M7 := M6.ext hx3
    have B3 := B2.ext hx3
    have hb9 := hb8.ext hx3
    have r39 := r33.ext hx3
    have r40 := r34.ext hx3
    have r41 := r35.ext hx3
    have r42 := r36.ext hx3
    have r43 := r37.ext hx3
    have r44 := r38.ext hx3
    have h8 := h7.ext hx3
    refine nl <| wp_block <| ?_
    have hin1 : w0.heap.size ≤ b3 ∧ b3 < w5.heap.size := ⟨(Nat.le_trans (Nat.le_refl _) hg1), B2.lt⟩
    have hz := bs hB1; obtain ⟨z1, hB2, hB1⟩ := hz
    refine ctM w0.heap.size (fun L w => Bx w b3 104 (List.flatMap Flat.enc z1.l) ∧ Bx w b4 104 (List.flatMap Flat.enc (y1).l) ∧ Ext w0 w ∧ L 0 = .pointer (some ⟨b0, 0, none⟩) ∧ L 1 = .int .i64 x1 ∧ L 5 = .pointer (some ⟨b3, 0, none⟩) ∧ L 6 = .pointer (some ⟨b4, 0, none⟩)) ?_ ?_
    ·
      refine rangeB (α := ((Bool × Int) × Int × Int)) (xs := x4) (m := 12) (by decide) rfl KpOk.beli (SeqV.go (by decide) sq1) rfl rfl rfl ti77 rfl (fun k w => ∃ y2 : (Ar 2 Int), right_treaty_holds_l2 F (List.drop k x4) y2 = some z1 ∧ Bx w b3 104 (List.flatMap Flat.enc y2.l) ∧ Bx w b4 104 (List.flatMap Flat.enc (y1).l) ∧ Ext w0 w ∧ Mks w0.heap.size D1 w ∧ w6.heap.size ≤ w.heap.size) (fun _ _ => False) (fun k => Okb.ex fun _ => (Okb.and Okb.pure (Okb.and Okb.bx (Okb.and Okb.bx (Okb.and (Okb.extw k5.size) (Okb.and (Okb.mks M7 rfl) Okb.size)))))) (fun _ => Okb.pure) ⟨_, hB2, B3, hb9, k5, M7, (Nat.le_refl _)⟩ ?round (fun k A h => by obtain ⟨_, _, _, _, _, _, _⟩ := h; assumption) ?done ?stop
      case round =>
        rintro _ k x5 w7 w8 b5 hx4 ⟨y2, hB2, B5_i4a, B6_i4a, K0_i4a, M8a, sz1a⟩ ha1 hA1 hg3 hb10
        rw [drop_at hx4] at hB2
        rw [right_treaty_holds_l2] at hB2
        have B5_i4 := B5_i4a.asg ha1
        have B6_i4 := B6_i4a.asg ha1
        have K0_i4 := Below.asg K0_i4a ha1 k5.size
        have M8 := M8a.asg ha1
        have sz1 := Nat.le_trans sz1a ha1.size
        have r45 := r3.ext K0_i4
        have r46 := r4.ext K0_i4
        have r47 := r5.ext K0_i4
        have r48 := r6.ext K0_i4
        have r49 := r7.ext K0_i4
        have r50 := r8.ext K0_i4
        have h9 := h0.ext K0_i4
        have kf1 : KeepsFrom w6.heap.size w8 w8 := KeepsFrom.refl _ _
        have bi1 : BelI w0.heap.size w5.heap.size w6.heap.size w8 w8 := BelI.refl
        refine wpIn_block <| wpIn_seq <| rgR rfl <| ?_
        have hz := bs hB2; obtain ⟨x6, Ex6, hB2⟩ := hz
        have hz := ixar (Bx.cs B5_i4) Ex6; obtain ⟨i5, i6, hc2⟩ := hz
        refine vl rfl rfl (xixa l5_i1 rfl Try.underlying104 ti3 i5 i6) <| vl rfl rfl (xld rfl ti3 (hc2.at 0 rfl)) <| vl rfl rfl (xfa rfl fa77_2) <| vl rfl rfl (xld rfl ti3 ((Bx.cs hb10).at 3 rfl)) <| vl rfl rfl (xor_ rfl rfl) <| ?_
        have hz := bs hB2; obtain ⟨x7, Ex7, hB2⟩ := hz
        have hz := ixar (Bx.cs B5_i4) Ex7; obtain ⟨i7, i8, hc3⟩ := hz
        refine vl rfl rfl (xixa l5_i1 rfl Try.underlying104 ti3 i7 i8) <| ssta (X := y2) (v := bor .i64 x6 x5.2.2) rfl rfl rfl ti3 B5_i4 Ex7 fun w9 hch3 hb11 => ?_
        have k7 := Ext.chg K0_i4 hch3 (Nat.le_trans (Nat.le_refl _) hg1)
        have M9 := M8.chg hch3 B5_i4.nd
        have kf2 := kf1.chgc hch3 (.inr B5_i4.isc)
        have bi2 := bi1.chg hch3 (.inl hin1)
        have hb12 := Bx.chg B6_i4 hch3 (Ne.symm (Nat.ne_of_lt (Nat.lt_of_lt_of_le B5_i1.lt hg2)))
        have r51 := r3.ext k7
        have r52 := r4.ext k7
        have r53 := r5.ext k7
        have r54 := r6.ext k7
        have r55 := r7.ext k7
        have r56 := r8.ext k7
        have h10 := h0.ext k7
        refine nl <| rgR rfl <| ?_
        have hz := bs hB2; obtain ⟨x8, Ex8, hB2⟩ := hz
        have hz := ixar (Bx.cs hb11) Ex8; obtain ⟨i9, i10, hc4⟩ := hz
        refine vl rfl rfl (xixa l5_i1 rfl Try.underlying104 ti3 i9 i10) <| vl rfl rfl (xld rfl ti3 (hc4.at 0 rfl)) <| vl rfl rfl (xadd rfl rfl) <| ?_
        have hz := bs hB2; obtain ⟨x9, Ex9, hB2⟩ := hz
        have hz := ixar (Bx.cs hb11) Ex9; obtain ⟨i11, i12, hc5⟩ := hz
        refine vl rfl rfl (xixa l5_i1 rfl Try.underlying104 ti3 i11 i12) <| ssta (X := (aset y2 0 (bor .i64 x6 x5.2.2))) (v := w64 (x8 + 1)) rfl rfl rfl ti3 hb11 Ex9 fun w10 hch4 hb13 => ?_
        have k8 := Ext.chg k7 hch4 (Nat.le_trans (Nat.le_refl _) hg1)
        have M10 := M9.chg hch4 hb11.nd
        have kf3 := kf2.chgc hch4 (.inr hb11.isc)
        have bi3 := bi2.chg hch4 (.inl hin1)
        have hb14 := Bx.chg hb12 hch4 (Ne.symm (Nat.ne_of_lt (Nat.lt_of_lt_of_le B5_i1.lt hg2)))
        have r57 := r3.ext k8
        have r58 := r4.ext k8
        have r59 := r5.ext k8
        have r60 := r6.ext k8
        have r61 := r7.ext k8
        have r62 := r8.ext k8
        have h11 := h0.ext k8
        refine nl <| ?_
        exact ⟨kf3, bi3, ⟨_, hB2, hb13, hb14, k8, M10, (Nat.le_trans sz1 kf3.size)⟩⟩
      case done =>
        rintro D2 w11 hD1 ⟨y2, hB2, B5_j1, B6_j1, K0_j1, M8, _⟩ hk1
        rw [List.drop_length, right_treaty_holds_l2] at hB2
        cases hB2
        exact lfM (Mks.cons M7 M8 (Below.size k5) hD1 hk1) ⟨B5_j1, B6_j1, K0_j1, l0_i1, l1_i1, l5_i1, rfl⟩
      case stop =>
        rintro _ _ _ _ h _
        exact h.elim
    rintro L D3 w12 M11 ⟨B5_j2, B6_j2, K0_j2, l0_j2, l1_j2, l5_j2, l6_j2⟩
    have r63 := r3.ext K0_j2
    have r64 := r4.ext K0_j2
    have r65 := r5.ext K0_j2
    have r66 := r6.ext K0_j2
    have r67 := r7.ext K0_j2
    have r68 := r8.ext K0_j2
    have h12 := h0.ext K0_j2
    refine wp_seq <| rg <| vl rfl rfl (xlda l5_j2 ti104 (arlen _) (Bx.cs B5_j2)) <| vl rfl rfl (xlda l6_j2 ti104 (arlen _) (Bx.cs B6_j2)) <| vl rfl rfl (xage (α := (Ar 2 Int)) (a := z1) (b := y1) rfl eg104 eq104 rfl rfl rfl rfl rfl) <| nl <| cnd rfl (fun h13 => ?_) (fun h13 => ?_)
    ·
      have hB1 := ifp hB1 h13
      refine wp_seq <| rg <| ?_
      have hz := bs hB1; obtain ⟨x10, Ex10, hB1⟩ := hz
      have hz := ixar (Bx.cs B5_j2) Ex10; obtain ⟨i13, i14, hc6⟩ := hz
      refine vl rfl rfl (xixa l5_j2 rfl Try.underlying104 ti3 i13 i14) <| vl rfl rfl (xld rfl ti3 (hc6.at 0 rfl)) <| vl rfl rfl xas <| nl <| ?_
      refine wp_ret <| rtMs rfl M11 fun w13 hT1 => ?_
      have k9 : Ext w0 w13 := Below.tak K0_j2 hT1 (Nat.le_refl _)
      cases hB1
      have hF := (show some _ = some _ from hF); cases hF
      exact ⟨_, (.tmp rfl rfl .nil), ⟨rfl, k9⟩⟩
    ·
      have hB1 := ifn hB1 h13
      refine wp_skip <| ?_
      refine lqM m (Nat.lt_succ_self _) M11 <| ?_
      exact ⟨_, hB1, B5_j2, l0_j2, l1_j2, l5_j2, K0_j2⟩
  rintro L D w hM hdead
  exact hdead.elim

set_option maxHeartbeats 4000000 in
theorem c44 {w0 : World} {b0 : Nat} {cs0 : List Value} {x0 : ((Int × (List Int) × (List ((List Int) × Int)) × (List ((List Int) × Int)) × (List (List Int))) × Int × (List ((Bool × Int) × Int × Int)) × (List Int))} (h0 : Cs w0 b0 0 cs0) (q0 : Enc.rep (fun _ => True) w0 cs0 x0) {x1 : Int} {F : Nat} {r : Int} (hF : right_treaty_broken F x0 x1 = some r) :
    Calls Try.prog 44 [.pointer (some ⟨b0, 0, none⟩), .int .i64 x1].toArray w0 (Ret fun v w' => v = .int .i64 r ∧ Ext w0 w') := by
  unfold right_treaty_broken at hF
  obtain ⟨_, _, rfl, ⟨_, _, rfl, rfl, ⟨_, _, rfl, ⟨a1, cq1, rfl, p1, q3, e1⟩, ⟨_, _, rfl, ⟨a2, cq2, rfl, p2, q4, e2⟩, ⟨_, _, rfl, ⟨a3, cq3, rfl, p3, q5, e3⟩, ⟨a4, cq4, rfl, p4, q6, e4⟩⟩⟩⟩⟩, ⟨_, _, rfl, rfl, ⟨_, _, rfl, ⟨a5, cq5, rfl, p5, q7, e5⟩, ⟨a6, cq6, rfl, p6, q8, e6⟩⟩⟩⟩ := q0
  have r3 := RV.of1 p1 q3 e1
  have r4 := RV.of1 p2 q4 e2
  have r5 := RV.of1 p3 q5 e3
  have r6 := RV.of1 p4 q6 e4
  have r7 := RV.of1 p5 q7 e5
  have r8 := RV.of1 p6 q8 e6
  refine entr (n := 15) Try.func44 rfl rfl rfl <| wp_seq <| rg <| vl rfl rfl xas <| nl <| wp_seq <| rg <| vl rfl rfl xmv <| vl rfl rfl xmv <| ?_
  have hz := bs hF; obtain ⟨x3, Ex3, hF⟩ := hz
  refine cl rfl rfl (xc cb68 (mc rfl (mc rfl mn))) (c68 (x0 := ((x0.1.1, x0.1.2.1, x0.1.2.2.1, x0.1.2.2.2.1, x0.1.2.2.2.2), x0.2.1, x0.2.2.1, x0.2.2.2)) h0 ⟨[.int .i64 x0.1.1] ++ ([.slice a1 x0.1.2.1.length cq1] ++ ([.slice a2 x0.1.2.2.1.length cq2] ++ ([.slice a3 x0.1.2.2.2.1.length cq3] ++ [.slice a4 x0.1.2.2.2.2.length cq4]))), [.int .i64 x0.2.1] ++ ([.slice a5 x0.2.2.1.length cq5] ++ [.slice a6 x0.2.2.2.length cq6]), rfl, ⟨[.int .i64 x0.1.1], [.slice a1 x0.1.2.1.length cq1] ++ ([.slice a2 x0.1.2.2.1.length cq2] ++ ([.slice a3 x0.1.2.2.2.1.length cq3] ++ [.slice a4 x0.1.2.2.2.2.length cq4])), rfl, rfl, ⟨[.slice a1 x0.1.2.1.length cq1], [.slice a2 x0.1.2.2.1.length cq2] ++ ([.slice a3 x0.1.2.2.2.1.length cq3] ++ [.slice a4 x0.1.2.2.2.2.length cq4]), rfl, r3.rep1, ⟨[.slice a2 x0.1.2.2.1.length cq2], [.slice a3 x0.1.2.2.2.1.length cq3] ++ [.slice a4 x0.1.2.2.2.2.length cq4], rfl, r4.rep1, ⟨[.slice a3 x0.1.2.2.2.1.length cq3], [.slice a4 x0.1.2.2.2.2.length cq4], rfl, r5.rep1, r6.rep1⟩⟩⟩⟩, ⟨[.int .i64 x0.2.1], [.slice a5 x0.2.2.1.length cq5] ++ [.slice a6 x0.2.2.2.length cq6], rfl, rfl, ⟨[.slice a5 x0.2.2.1.length cq5], [.slice a6 x0.2.2.2.length cq6], rfl, r7.rep1, r8.rep1⟩⟩⟩ Ex3) ?_
  rintro _ w1 ⟨rfl, hx1⟩
  have r9 := r3.ext hx1
  have r10 := r4.ext hx1
  have r11 := r5.ext hx1
  have r12 := r6.ext hx1
  have r13 := r7.ext hx1
  have r14 := r8.ext hx1
  have h3 := h0.ext hx1
  refine sal ti3 fun b3 w2 hx2 hg1 hb1 => ?_
  have k1 := hx1.tr hx2
  have r15 := r9.ext hx2
  have r16 := r10.ext hx2
  have r17 := r11.ext hx2
  have r18 := r12.ext hx2
  have r19 := r13.ext hx2
  have r20 := r14.ext hx2
  have h4 := h3.ext hx2
  refine sst rfl rfl rfl ti3 hb1 rfl rfl (ble rfl) fun w3 hch1 hb2 => ?_
  have k2 := Ext.chg k1 hch1 (Nat.le_trans hx1.size hg1)
  have k3 := Ext.chg hx2 hch1 (Nat.le_trans (Nat.le_refl _) hg1)
  have r21 := r9.ext k3
  have r22 := r10.ext k3
  have r23 := r11.ext k3
  have r24 := r12.ext k3
  have r25 := r13.ext k3
  have r26 := r14.ext k3
  have h5 := h3.ext k3
  have hb3 : Bx w3 b3 3 [.int .i64 x3] := hb2
  refine nl <| wp_seq <| rg <| vl rfl rfl xmv <| vl rfl rfl (xnil rfl) <| vl rfl rfl (xfa rfl fa74_3) <| vl rfl rfl (xld rfl ti22 (h5.at 7 rfl)) <| vl rfl rfl (xmf mn (mc rfl mn)) <| ?_
  have hz := bs hF; obtain ⟨x4, Ex4, hF⟩ := hz
  refine cl rfl rfl (xc cb69 (mc rfl (mc rfl mn))) (c69 r26 ⟨70, [], [.pointer (some ⟨b3, 0, none⟩)], rfl, cb70, fun w' u x b hk hu hp => by cases RVo.int.1 hu; exact c70 (Bx.cs (hb3.ext hk)) rfl hp⟩ Ex4) ?_
  rintro _ w4 ⟨rfl, hx3⟩
  have k4 := k2.tr hx3
  have k5 := k3.tr hx3
  refine vl rfl rfl xas <| nl <| ?_
  cases hF
  exact wp_ret <| rt rfl (.tmp rfl rfl .nil) ⟨rfl, k4⟩

set_option maxHeartbeats 4000000 in
theorem c53 {w0 : World} {b0 : Nat} {cs0 : List Value} {x0 : ((Int × (List Int) × (List ((List Int) × Int)) × (List ((List Int) × Int)) × (List (List Int))) × Int × (List ((Bool × Int) × Int × Int)) × (List Int))} (h0 : Cs w0 b0 0 cs0) (q0 : Enc.rep (fun _ => True) w0 cs0 x0) {x1 : Int} {F : Nat} {r : Bool} (hF : right_treaty_safe F x0 x1 = some r) :
    Calls Try.prog 53 [.pointer (some ⟨b0, 0, none⟩), .int .i64 x1].toArray w0 (Ret fun v w' => v = .bool r ∧ Ext w0 w') := by
  unfold right_treaty_safe at hF
  obtain ⟨_, _, rfl, ⟨_, _, rfl, rfl, ⟨_, _, rfl, ⟨a1, cq1, rfl, p1, q3, e1⟩, ⟨_, _, rfl, ⟨a2, cq2, rfl, p2, q4, e2⟩, ⟨_, _, rfl, ⟨a3, cq3, rfl, p3, q5, e3⟩, ⟨a4, cq4, rfl, p4, q6, e4⟩⟩⟩⟩⟩, ⟨_, _, rfl, rfl, ⟨_, _, rfl, ⟨a5, cq5, rfl, p5, q7, e5⟩, ⟨a6, cq6, rfl, p6, q8, e6⟩⟩⟩⟩ := q0
  have r3 := RV.of1 p1 q3 e1
  have r4 := RV.of1 p2 q4 e2
  have r5 := RV.of1 p3 q5 e3
  have r6 := RV.of1 p4 q6 e4
  have r7 := RV.of1 p5 q7 e5
  have r8 := RV.of1 p6 q8 e6
  refine entr (n := 9) Try.func53 rfl rfl rfl <| wp_seq <| rg <| vl rfl rfl xas <| nl <| wp_seq <| rg <| vl rfl rfl xmv <| vl rfl rfl xmv <| ?_
  have hz := bs hF; obtain ⟨x3, Ex3, hF⟩ := hz
  refine cl rfl rfl (xc cb44 (mc rfl (mc rfl mn))) (c44 (x0 := ((x0.1.1, x0.1.2.1, x0.1.2.2.1, x0.1.2.2.2.1, x0.1.2.2.2.2), x0.2.1, x0.2.2.1, x0.2.2.2)) h0 ⟨[.int .i64 x0.1.1] ++ ([.slice a1 x0.1.2.1.length cq1] ++ ([.slice a2 x0.1.2.2.1.length cq2] ++ ([.slice a3 x0.1.2.2.2.1.length cq3] ++ [.slice a4 x0.1.2.2.2.2.length cq4]))), [.int .i64 x0.2.1] ++ ([.slice a5 x0.2.2.1.length cq5] ++ [.slice a6 x0.2.2.2.length cq6]), rfl, ⟨[.int .i64 x0.1.1], [.slice a1 x0.1.2.1.length cq1] ++ ([.slice a2 x0.1.2.2.1.length cq2] ++ ([.slice a3 x0.1.2.2.2.1.length cq3] ++ [.slice a4 x0.1.2.2.2.2.length cq4])), rfl, rfl, ⟨[.slice a1 x0.1.2.1.length cq1], [.slice a2 x0.1.2.2.1.length cq2] ++ ([.slice a3 x0.1.2.2.2.1.length cq3] ++ [.slice a4 x0.1.2.2.2.2.length cq4]), rfl, r3.rep1, ⟨[.slice a2 x0.1.2.2.1.length cq2], [.slice a3 x0.1.2.2.2.1.length cq3] ++ [.slice a4 x0.1.2.2.2.2.length cq4], rfl, r4.rep1, ⟨[.slice a3 x0.1.2.2.2.1.length cq3], [.slice a4 x0.1.2.2.2.2.length cq4], rfl, r5.rep1, r6.rep1⟩⟩⟩⟩, ⟨[.int .i64 x0.2.1], [.slice a5 x0.2.2.1.length cq5] ++ [.slice a6 x0.2.2.2.length cq6], rfl, rfl, ⟨[.slice a5 x0.2.2.1.length cq5], [.slice a6 x0.2.2.2.length cq6], rfl, r7.rep1, r8.rep1⟩⟩⟩ Ex3) ?_
  rintro _ w1 ⟨rfl, hx1⟩
  refine vl rfl rfl (xlss rfl rfl) <| vl rfl rfl xas <| nl <| ?_
  cases hF
  exact wp_ret <| rt rfl (.tmp rfl rfl .nil) ⟨rfl, hx1⟩

set_option maxHeartbeats 4000000 in
theorem c61 {w0 : World} {v0 : Value} {x0 : (List Int)} (r0 : RV w0 v0 x0) {b1 : Nat} {cs1 : List Value} {x1 : (Ob ((Int × (List Int) × (List ((List Int) × Int)) × (List ((List Int) × Int)) × (List (List Int))) × Int × (List ((Bool × Int) × Int × Int)) × (List Int)))} (h1 : Cs w0 b1 0 cs1) (q1 : Enc.rep (fun _ => True) w0 cs1 x1) {F : Nat} {r : Bool} (hF : right_CheckConflicts_2 F x0 x1 = some r) :
    Calls Try.prog 61 [v0, .pointer (some ⟨b1, 0, none⟩)].toArray w0 (Ret fun v w' => v = .bool r ∧ Ext w0 w') := by
  unfold right_CheckConflicts_2 at hF
  have hz := r0.sl; obtain ⟨a1, cq1, rfl, -, -, -⟩ := hz
  have q3 := q1
  have hz := obRep q3; obtain ⟨a2, rfl, r3⟩ := hz
  refine entr (n := 8) Try.func61 rfl rfl rfl <| wp_seq <| rg <| vl rfl rfl xas <| nl <| wp_seq <| wpl [] (.pure false 0 (.pure true 1 (.eff 2 (.eff 3 (.pure true 4 .fin) .stop) .stop))) mixed (by kernel_rfl) (fun w1 hx1 => ?_)
  have r4 := r0.ext hx1
  have r5 := r3.ext hx1
  have h3 := h1.ext hx1
  refine pv rfl rfl rfl (fun _ hS => xld rfl ti67 ((h3.ext (hS.resolve_left nofun)).at 0 rfl)) (.inr (Ext.refl _)) <| pv rfl rfl rfl (fun _ _ => xmv) (.inl rfl) <| ?_
  have hz := bs hF; obtain ⟨x3, Ex3, hF⟩ := hz
  refine pe1 rfl <| cl rfl rfl (xc cb62 (mc rfl mn)) (c62 r4 Ex3) ?_
  rintro _ w2 ⟨rfl, hx2⟩
  have k1 := hx1.tr hx2
  have r6 := r5.ext hx2
  refine nl ⟨fun _ _ => hx2, ?_⟩
  have hz := bs hF; obtain ⟨x4, Ex4, hF⟩ := hz
  have hz := obGet r3 Ex4; obtain ⟨b3, cs3, e1, q4, hc1⟩ := hz
  cases e1
  obtain ⟨_, _, rfl, ⟨_, _, rfl, rfl, ⟨_, _, rfl, ⟨a3, cq2, rfl, p1, q5, e2⟩, ⟨_, _, rfl, ⟨a4, cq3, rfl, p2, q6, e3⟩, ⟨_, _, rfl, ⟨a5, cq4, rfl, p3, q7, e4⟩, ⟨a6, cq5, rfl, p4, q8, e5⟩⟩⟩⟩⟩, ⟨_, _, rfl, rfl, ⟨_, _, rfl, ⟨a7, cq6, rfl, p5, q9, e6⟩, ⟨a8, cq7, rfl, p6, q10, e7⟩⟩⟩⟩ := q4
  have r7 := RV.of1 p1 q5 e2
  have r8 := RV.of1 p2 q6 e3
  have r9 := RV.of1 p3 q7 e4
  have r10 := RV.of1 p4 q8 e5
  have r11 := RV.of1 p5 q9 e6
  have r12 := RV.of1 p6 q10 e7
  have hc2 := hc1.ext k1
  have r13 := r7.ext k1
  have r14 := r8.ext k1
  have r15 := r9.ext k1
  have r16 := r10.ext k1
  have r17 := r11.ext k1
  have r18 := r12.ext k1
  have hz := bs hF; obtain ⟨x5, Ex5, hF⟩ := hz
  refine pe1 rfl <| cl rfl rfl (xc cb53 (mc rfl (mc rfl mn))) (c53 (x0 := ((x4.1.1, x4.1.2.1, x4.1.2.2.1, x4.1.2.2.2.1, x4.1.2.2.2.2), x4.2.1, x4.2.2.1, x4.2.2.2)) hc2 ⟨[.int .i64 x4.1.1] ++ ([.slice a3 x4.1.2.1.length cq2] ++ ([.slice a4 x4.1.2.2.1.length cq3] ++ ([.slice a5 x4.1.2.2.2.1.length cq4] ++ [.slice a6 x4.1.2.2.2.2.length cq5]))), [.int .i64 x4.2.1] ++ ([.slice a7 x4.2.2.1.length cq6] ++ [.slice a8 x4.2.2.2.length cq7]), rfl, ⟨[.int .i64 x4.1.1], [.slice a3 x4.1.2.1.length cq2] ++ ([.slice a4 x4.1.2.2.1.length cq3] ++ ([.slice a5 x4.1.2.2.2.1.length cq4] ++ [.slice a6 x4.1.2.2.2.2.length cq5])), rfl, rfl, ⟨[.slice a3 x4.1.2.1.length cq2], [.slice a4 x4.1.2.2.1.length cq3] ++ ([.slice a5 x4.1.2.2.2.1.length cq4] ++ [.slice a6 x4.1.2.2.2.2.length cq5]), rfl, r13.rep1, ⟨[.slice a4 x4.1.2.2.1.length cq3], [.slice a5 x4.1.2.2.2.1.length cq4] ++ [.slice a6 x4.1.2.2.2.2.length cq5], rfl, r14.rep1, ⟨[.slice a5 x4.1.2.2.2.1.length cq4], [.slice a6 x4.1.2.2.2.2.length cq5], rfl, r15.rep1, r16.rep1⟩⟩⟩⟩, ⟨[.int .i64 x4.2.1], [.slice a7 x4.2.2.1.length cq6] ++ [.slice a8 x4.2.2.2.length cq7], rfl, rfl, ⟨[.slice a7 x4.2.2.1.length cq6], [.slice a8 x4.2.2.2.length cq7], rfl, r17.rep1, r18.rep1⟩⟩⟩ Ex5) ?_
  rintro _ w3 ⟨rfl, hx3⟩
  have k2 := k1.tr hx3
  have k3 := hx2.tr hx3
  refine nl ⟨fun _ _ => k3, ?_⟩
  refine pv rfl rfl rfl (fun _ _ => xas) (.inl rfl) <| ?_
  cases hF
  exact wp_ret <| rt rfl (.tmp rfl rfl .nil) ⟨rfl, k2⟩

set_option maxHeartbeats 4000000 in
theorem c52 {w0 : World} {v0 : Value} {x0 : (Int × (List Int) × (List ((List Int) × Int)) × (List ((List Int) × Int)) × (List (List Int)))} (r0 : RV w0 v0 x0) {F : Nat} {r : ((Ob ((Int × (List Int) × (List ((List Int) × Int)) × (List ((List Int) × Int)) × (List (List Int))) × Int × (List ((Bool × Int) × Int × Int)) × (List Int))) × Int)} (hF : right_newTreaty F x0 = some r) :
    Calls Try.prog 52 [v0].toArray w0 (Ret fun v w' => ∃ u0 : Value, v = .tuple #[u0, .int .i64 r.2] ∧ RV w' u0 r.1 ∧ Ext w0 w') := by
  unfold right_newTreaty at hF
  have hz := id r0; obtain ⟨_, rfl, ⟨_, _, rfl, rfl, ⟨_, _, rfl, ⟨a1, cq1, rfl, p1, q2, e1⟩, ⟨_, _, rfl, ⟨a2, cq2, rfl, p2, q3, e2⟩, ⟨_, _, rfl, ⟨a3, cq3, rfl, p3, q4, e3⟩, ⟨a4, cq4, rfl, p4, q5, e4⟩⟩⟩⟩⟩⟩ := hz
  have r2 := RV.of1 p1 q2 e1
  have r3 := RV.of1 p2 q3 e2
  have r4 := RV.of1 p3 q4 e3
  have r5 := RV.of1 p4 q5 e4
  refine entr (n := 109) Try.func52 rfl rfl rfl <| wp_seq <| rg <| sbx rfl rfl fun b2 w1 hx1 hg1 hb1 => ?_
  have r6 := r2.ext hx1
  have r7 := r3.ext hx1
  have r8 := r4.ext hx1
  have r9 := r5.ext hx1
  have r10 := r0.ext hx1
  refine vl rfl rfl xas <| vl rfl rfl xas <| nl <| wp_seq <| wp_seq <| rg <| vl rfl rfl (xlda rfl ti26 rfl (Bx.cs hb1)) <| ?_
  have hz := bs hF; obtain ⟨x2, Ex2, hF⟩ := hz
  refine cl rfl rfl (xc cb72 (mc rfl mn)) (c72 (show RV (α := (Int × (List Int) × (List ((List Int) × Int)) × (List ((List Int) × Int)) × (List (List Int)))) _ (.agg [.int .i64 x0.1, .slice a1 x0.2.1.length cq1, .slice a2 x0.2.2.1.length cq2, .slice a3 x0.2.2.2.1.length cq3, .slice a4 x0.2.2.2.2.length cq4].toArray) (x0.1, x0.2.1, x0.2.2.1, x0.2.2.2.1, x0.2.2.2.2) from ⟨_, rfl, ⟨[.int .i64 x0.1], [.slice a1 x0.2.1.length cq1] ++ ([.slice a2 x0.2.2.1.length cq2] ++ ([.slice a3 x0.2.2.2.1.length cq3] ++ [.slice a4 x0.2.2.2.2.length cq4])), rfl, rfl, ⟨[.slice a1 x0.2.1.length cq1], [.slice a2 x0.2.2.1.length cq2] ++ ([.slice a3 x0.2.2.2.1.length cq3] ++ [.slice a4 x0.2.2.2.2.length cq4]), rfl, r6.rep1, ⟨[.slice a2 x0.2.2.1.length cq2], [.slice a3 x0.2.2.2.1.length cq3] ++ [.slice a4 x0.2.2.2.2.length cq4], rfl, r7.rep1, ⟨[.slice a3 x0.2.2.2.1.length cq3], [.slice a4 x0.2.2.2.2.length cq4], rfl, r8.rep1, r9.rep1⟩⟩⟩⟩⟩) Ex2) ?_
  rintro _ w2 ⟨rfl, hx2⟩
  have k1 := hx1.tr hx2
  have hb2 := hb1.ext hx2
  have r11 := r6.ext hx2
  have r12 := r7.ext hx2
  have r13 := r8.ext hx2
  have r14 := r9.ext hx2
  refine vl rfl rfl xas <| nl <| wp_seq <| rg <| vl rfl rfl xmv <| vl rfl rfl (xneq rfl rfl) <| nl <| cnd rfl (fun h2 => ?_) (fun h2 => ?_)
  ·
    have hF := ifp hF h2
    refine wp_seq <| rg <| vl rfl rfl xmv <| vl rfl rfl xas <| vl rfl rfl xas <| nl <| ?_
    cases hF
    exact wp_ret <| rt rfl (.tmp rfl rfl (.tmp rfl rfl .nil)) ⟨_, rfl, obNil, k1⟩
  ·
    have hF := ifn hF h2
    refine wp_skip <| wp_seq <| wpl [] (.pure false 0 (.pure true 1 (.pure false 2 (.eff 3 (.pure true 4 (.eff 5 (.pure true 6 .fin) .stop)) .stop)))) mixed (by kernel_rfl) (fun w3 hx3 => ?_)
    have k2 := k1.tr hx3
    have hb3 := hb2.ext hx3
    have r15 := r11.ext hx3
    have r16 := r12.ext hx3
    have r17 := r13.ext hx3
    have r18 := r14.ext hx3
    refine pv rfl rfl rfl (fun _ hS => xlda rfl ti26 rfl (Bx.cs (hb3.ext (hS.resolve_left nofun)))) (.inr (Ext.refl _)) <| pv rfl rfl rfl (fun _ _ => xfa rfl fa26_1) (.inl rfl) <| pv rfl rfl rfl (fun _ hS => xld rfl ti22 ((Bx.cs (hb3.ext (hS.resolve_left nofun))).at 1 rfl)) (.inr (Ext.refl _)) <| ?_
    have hz := bs hF; obtain ⟨x3, Ex3, hF⟩ := hz
    refine pe1 rfl <| cl rfl rfl (xc cb62 (mc rfl mn)) (c62 r15 Ex3) ?_
    rintro _ w4 ⟨rfl, hx4⟩
    have k3 := k2.tr hx4
    have r19 := r15.ext hx4
    have r20 := r16.ext hx4
    have r21 := r17.ext hx4
    have r22 := r18.ext hx4
    refine nl ⟨fun _ _ => hx4, ?_⟩
    refine pv rfl rfl rfl (fun _ _ => xbdv (r := [.int .i64 x0.1, .slice a1 x0.2.1.length cq1, .slice a2 x0.2.2.1.length cq2, .slice a3 x0.2.2.2.1.length cq3, .slice a4 x0.2.2.2.2.length cq4, .int .i64 x3, .slice none 0 0, .slice none 0 0]) ti74 sp74 (pc rfl (pc rfl pn)) rfl) (.inl rfl) <| pe1 rfl <| sbx rfl rfl fun b3 w5 hx5 hg2 hb4 => ?_
    have k4 := k3.tr hx5
    have k5 := hx4.tr hx5
    have r23 := r19.ext hx5
    have r24 := r20.ext hx5
    have r25 := r21.ext hx5
    have r26 := r22.ext hx5
    refine nl ⟨fun _ _ => k5, ?_⟩
    refine pv rfl rfl rfl (fun _ _ => xas) (.inl rfl) <| wp_seq <| wp_seq <| rg <| vl rfl rfl xmv <| vl rfl rfl (xnil rfl) <| vl rfl rfl (xfa rfl fa74_0) <| vl rfl rfl (xfa rfl fa26_2) <| vl rfl rfl (xld rfl ti23 ((Bx.cs hb4).at 2 rfl)) <| vl rfl rfl (xlen rfl Try.underlying23) <| vl rfl rfl xmv <| nl <| ?_
    have hz := bs hF; obtain ⟨z1, hB1, hF⟩ := hz
    refine ct (fun L w => ∃ v3 : Value, Bx w b3 74 [.int .i64 z1.1.1, .slice a1 x0.2.1.length cq1, .slice a2 x0.2.2.1.length cq2, .slice a3 x0.2.2.2.1.length cq3, .slice a4 x0.2.2.2.2.length cq4, .int .i64 z1.2.1, v3, .slice none 0 0] ∧ Row 77 w5.heap.size w v3 z1.2.2.1 ∧ some b3 ≠ Value.ownBlock v3 ∧ L 5 = .pointer (some ⟨b3, 0, none⟩) ∧ w5.heap.size ≤ w.heap.size ∧ Ext w4 w) ?_ ?_
    ·
      refine wp_block <| lp (I := fun m L w => ∃ y1 : Int, ∃ y2 : ((Int × (List Int) × (List ((List Int) × Int)) × (List ((List Int) × Int)) × (List (List Int))) × Int × (List ((Bool × Int) × Int × Int)) × (List Int)), ∃ v2 : Value, right_newTreaty_l1 F x0 m y1 y2  = some z1 ∧ L 29 = .int .i64 y1 ∧ Bx w b3 74 [.int .i64 y2.1.1, .slice a1 x0.2.1.length cq1, .slice a2 x0.2.2.1.length cq2, .slice a3 x0.2.2.2.1.length cq3, .slice a4 x0.2.2.2.2.length cq4, .int .i64 y2.2.1, v2, .slice none 0 0] ∧ Row 77 w5.heap.size w v2 y2.2.2.1 ∧ some b3 ≠ Value.ownBlock v2 ∧ L 5 = .pointer (some ⟨b3, 0, none⟩) ∧ L 27 = .slice a2 x0.2.2.1.length cq2 ∧ L 28 = .int .i64 (x0.2.2.1.length : Int) ∧ w5.heap.size ≤ w.heap.size ∧ Ext w4 w) F ⟨_, _, _, hB1, rfl, hb4, Row.nil, (fun e => by cases e), rfl, rfl, rfl, (Nat.le_refl _), hx5⟩ ?_
      rintro m L w6 ⟨y1, y2, v2, hB1, l29_i1, B5_i1, O5c1_i1, N5c1_i1, l5_i1, l27_i1, l28_i1, Z0_i1, K0_i1⟩
      rcases m with _ | m
      · rw [right_newTreaty_l1] at hB1; cases hB1
      rw [right_newTreaty_l1] at hB1
      have k6 := k3.tr K0_i1
      have k7 := hx4.tr K0_i1
      have r27 := r19.ext K0_i1
      have r28 := r20.ext K0_i1
      have r29 := r21.ext K0_i1
      have r30 := r22.ext K0_i1
      have hz := RV.sl O5c1_i1.rv; obtain ⟨a5, cq5, rfl, -, -, -⟩ := hz
      refine wp_seq <| rg <| vl rfl rfl (xlss l29_i1 l28_i1) <| nl <| wp_seq <| cnd rfl (fun h3 => ?_) (fun h3 => ?_)
      ·
        have hB1 := ifp hB1 h3
        refine wp_skip <| wp_seq <| wp_block <| wp_seq <| rg <| vl rfl rfl xmv <| ?_
        have hz := bs hB1; obtain ⟨x4, Ex4, hB1⟩ := hz
        have hz := (RV.els r3).ix Ex4; obtain ⟨b4, f1, cs2, e5, i2, i3, q6, hc1⟩ := hz
        cases e5
        obtain ⟨_, _, rfl, ⟨a6, cq6, rfl, p5, q7, e6⟩, rfl⟩ := q6
        have r31 := RV.of1 p5 q7 e6
        have hc2 := hc1.ext k6
        have r32 := r31.ext k6
        refine vl rfl rfl (xixs l27_i1 l29_i1 Try.underlying23 ti54 i2 i3) <| vl rfl rfl (xlda rfl ti54 rfl hc2) <| sal ti54 fun b5 w7 hx6 hg3 hb5 => ?_
        have k8 := k6.tr hx6
        have k9 := k7.tr hx6
        have k10 := K0_i1.tr hx6
        have zs1 := Nat.le_trans Z0_i1 hx6.size
        have B1 := B5_i1.ext hx6
        have r33 := r27.ext hx6
        have r34 := r28.ext hx6
        have r35 := r29.ext hx6
        have r36 := r30.ext hx6
        have O1 := O5c1_i1.ext hx6
        have r37 := r32.ext hx6
        refine vl rfl rfl xas <| sst rfl rfl rfl ti54 hb5 rfl rfl (ble rfl) fun w8 hch1 hb6 => ?_
        have k11 := Ext.chg k8 hch1 (Nat.le_trans k6.size hg3)
        have k12 := Ext.chg k9 hch1 (Nat.le_trans k7.size hg3)
        have k13 := Ext.chg k10 hch1 (Nat.le_trans K0_i1.size hg3)
        have k14 := Ext.chg hx6 hch1 (Nat.le_trans (Nat.le_refl _) hg3)
        have zs2 := Nat.le_trans zs1 (Nat.le_of_eq hch1.size.symm)
        have B2 := B5_i1.ext k14
        have r38 := r27.ext k14
        have r39 := r28.ext k14
        have r40 := r29.ext k14
        have r41 := r30.ext k14
        have O2 := O5c1_i1.ext k14
        have r42 := r32.ext k14
        have hb7 : Bx w8 b5 54 [.slice a6 x4.1.length cq6, .int .i64 x4.2] := hb6
        refine nl <| wplG (row := (Value.ownBlock (.slice a5 y2.2.2.1.length cq5))) [18] (.pure true 0 (.pure true 1 (.pure true 2 (.pure true 3 (.pure false 4 (.pure true 5 (.pure true 6 (.pure true 7 (.pure false 8 (.pure true 10 (.pure false 11 (.pure true 12 (.eff 9 (.pure true 13 (.eff 14 (.eff 15 (.pure true 16 (.pure true 17 (.eff 18 .fin .stop))) .stop) .stop)) .stop))))))))))))) mixed (by kernel_rfl) (fun w9 hx7 => ?_)
        have k15 := k11.tr hx7
        have k16 := k12.tr hx7
        have k17 := k13.tr hx7
        have k18 := k14.tr hx7
        have zs3 := Nat.le_trans zs2 hx7.size
        have B3 := B2.ext hx7
        have r43 := r38.ext hx7
        have r44 := r39.ext hx7
        have r45 := r40.ext hx7
        have r46 := r41.ext hx7
        have O3 := O2.ext hx7
        have hb8 := hb7.ext hx7
        have r47 := r42.ext hx7
        refine pv rfl rfl rfl (fun _ _ => xmv) (.inl rfl) <| pv rfl rfl rfl (fun _ _ => xmv) (.inl rfl) <| pv rfl rfl rfl (fun _ _ => xnil l5_i1) (.inl rfl) <| pv rfl rfl rfl (fun _ _ => xfa rfl fa74_2) (.inl rfl) <| pv rfl rfl rfl (fun _ hS => xld rfl ti72 ((Bx.cs (Bx.gr B3 (hS.resolve_left nofun) N5c1_i1)).at 6 rfl)) (.inr (Ext.gro (Ext.refl _))) <| pv rfl rfl rfl (fun _ _ => xmv) (.inl rfl) <| pv rfl rfl rfl (fun _ _ => xbdv (r := [.bool false, .int .i64 y1]) ti52 sp52 (pc l29_i1 pn) rfl) (.inl rfl) <| pv rfl rfl rfl (fun _ _ => xfa rfl fa54_0) (.inl rfl) <| pv rfl rfl rfl (fun _ hS => xld rfl ti22 ((Bx.cs (Bx.gr hb8 (hS.resolve_left nofun) (O5c1_i1.ne_new hg3))).at 0 rfl)) (.inr (Ext.gro (Ext.refl _))) <| pv rfl rfl rfl (fun _ _ => xfa rfl fa54_1) (.inl rfl) <| pv rfl rfl rfl (fun _ hS => xld rfl ti3 ((Bx.cs (Bx.gr hb8 (hS.resolve_left nofun) (O5c1_i1.ne_new hg3))).at 1 rfl)) (.inr (Ext.gro (Ext.refl _))) <| ?_
        have hz := bs hB1; obtain ⟨x5, Ex5, hB1⟩ := hz
        refine pv rfl rfl rfl (fun _ _ => xshl rfl rfl Ex5) (.inl rfl) <| ?_
        have hz := bs hB1; obtain ⟨x6, Ex6, hB1⟩ := hz
        refine pe1 rfl <| cl rfl rfl (xc cb62 (mc rfl mn)) (c62 r47 Ex6) ?_
        rintro _ w10 ⟨rfl, hx8⟩
        have k19 := k15.tr hx8
        have k20 := k16.tr hx8
        have k21 := k17.tr hx8
        have k22 := k18.tr hx8
        have zs4 := Nat.le_trans zs3 hx8.size
        have B4 := B3.ext hx8
        have r48 := r43.ext hx8
        have r49 := r44.ext hx8
        have r50 := r45.ext hx8
        have r51 := r46.ext hx8
        have O4 := O3.ext hx8
        refine nl ⟨fun _ _ => (Ext.gro hx8), ?_⟩
        refine pv rfl rfl rfl (fun _ _ => xbdv (r := [.bool false, .int .i64 y1, .int .i64 x6, .int .i64 x5]) ti77 sp77 (pc rfl (pc rfl (pc rfl pn))) rfl) (.inl rfl) <| pe1 rfl <| sbsv (cs := [.bool false, .int .i64 y1, .int .i64 x6, .int .i64 x5]) Try.underlying72 ti77 rfl (pc rfl pn) rfl rfl rfl rfl rfl fun b6 w11 hx9 hg4 hb9 => ?_
        have k23 := k19.tr hx9
        have k24 := k20.tr hx9
        have k25 := k21.tr hx9
        have k26 := k22.tr hx9
        have k27 := hx8.tr hx9
        have zs5 := Nat.le_trans zs4 hx9.size
        have B5 := B4.ext hx9
        have r52 := r48.ext hx9
        have r53 := r49.ext hx9
        have r54 := r50.ext hx9
        have r55 := r51.ext hx9
        have O5 := O4.ext hx9
        have o2 : Row (α := ((Bool × Int) × Int × Int)) 77 w10.heap.size w11 (.slice (some ⟨b6, 0, none⟩) 1 1) [((false, y1), x6, x5)] := Row.lit hg4 hb9 rfl (ble rfl)
        refine nl ⟨fun _ _ => (Ext.gro k27), ?_⟩
        have hz := bs hB1; obtain ⟨x7, Ex7, hB1⟩ := hz
        refine pe1 rfl <| sapx (l := y2.2.2.1) (k := ([((false, y1), x6, x5)] : List ((Bool × Int) × Int × Int))) rfl rfl Try.underlying72 ti77 rfl rfl O5 (RV.els o2.rv) Ex7 zs5 fun v4 w12 o3 hB3 hgr1 how1 => ?_
        have k28 := Ext.grow k23 k4.size hB3
        have k29 := Ext.grow k24 k5.size hB3
        have k30 := Ext.grow k25 hx5.size hB3
        have zs6 := Nat.le_trans zs5 hgr1.size
        have gS1 := World.grownBy.tr (Ext.gro k27) hgr1
        have ne1 := ne_app how1 N5c1_i1 B5.lt
        have hb10 := Bx.gr B5 hgr1 N5c1_i1
        have r57 := r19.ext k30
        have r58 := r20.ext k30
        have r59 := r21.ext k30
        have r60 := r22.ext k30
        have o4 := Row.chgn O1 hch1 (O5c1_i1.ne_new hg3)
        have hz := RV.sl o3.rv; obtain ⟨a7, cq7, rfl, -, -, -⟩ := hz
        refine nl ⟨fun _ _ => gS1, ?_⟩
        refine pv rfl rfl rfl (fun _ _ => xnil l5_i1) (.inl rfl) <| pv rfl rfl rfl (fun _ _ => xfa rfl fa74_2) (.inl rfl) <| pe1 rfl <| sst rfl rfl rfl ti72 hb10 rfl rfl (ble rfl) fun w13 hch2 hb11 => ?_
        have k31 := Ext.chg k28 hch2 (Nat.le_trans k3.size hg2)
        have k32 := Ext.chg k29 hch2 (Nat.le_trans hx4.size hg2)
        have k33 := Ext.chg k30 hch2 (Nat.le_trans (Nat.le_refl _) hg2)
        have zs7 := Nat.le_trans zs6 (Nat.le_of_eq hch2.size.symm)
        have r61 := r20.ext k33
        have o5 := Row.chgn o3 hch2 ne1
        have r62 := r19.ext k33
        have r63 := r21.ext k33
        have r64 := r22.ext k33
        have hb12 : Bx w13 b3 74 [.int .i64 y2.1.1, .slice a1 x0.2.1.length cq1, .slice (some ⟨b4, f1, none⟩) x0.2.2.1.length cq2, .slice a3 x0.2.2.2.1.length cq3, .slice a4 x0.2.2.2.2.length cq4, .int .i64 y2.2.1, .slice a7 x7.length cq7, .slice none 0 0] := hb11
        refine nl ⟨fun h => (h (by decide)).elim, ?_⟩
        refine rg <| vl rfl rfl (xadd l29_i1 rfl) <| vl rfl rfl xmv <| nl <| ?_
        refine lq m (Nat.lt_succ_self _) <| ?_
        exact ⟨_, _, _, hB1, rfl, hb12, o5, ne1, l5_i1, l27_i1, l28_i1, zs7, k33⟩
      ·
        have hB1 := ifn hB1 h3
        refine wp_exit <| ?_
        cases hB1
        refine lf <| ?_
        exact ⟨_, B5_i1, O5c1_i1, N5c1_i1, l5_i1, Z0_i1, K0_i1⟩
    rintro L w14 ⟨v3, B5_j1, O5c1_j1, N5c1_j1, l5_j1, Z0_j1, K0_j1⟩
    have k34 := k3.tr K0_j1
    have k35 := hx4.tr K0_j1
    have r65 := r19.ext K0_j1
    have r66 := r20.ext K0_j1
    have r67 := r21.ext K0_j1
    have r68 := r22.ext K0_j1
    have hz := RV.sl O5c1_j1.rv; obtain ⟨a8, cq8, rfl, -, -, -⟩ := hz
    refine wp_seq <| wp_seq <| rg <| vl rfl rfl xmv <| vl rfl rfl (xnil l5_j1) <| vl rfl rfl (xfa rfl fa74_0) <| vl rfl rfl (xfa rfl fa26_3) <| vl rfl rfl (xld rfl ti23 ((Bx.cs B5_j1).at 3 rfl)) <| vl rfl rfl (xlen rfl Try.underlying23) <| vl rfl rfl xmv <| nl <| ?_
    have hz := bs hF; obtain ⟨z2, hB5, hF⟩ := hz
    refine ct (fun L w => ∃ v6 : Value, Bx w b3 74 [.int .i64 z2.1.1, .slice a1 x0.2.1.length cq1, .slice a2 x0.2.2.1.length cq2, .slice a3 x0.2.2.2.1.length cq3, .slice a4 x0.2.2.2.2.length cq4, .int .i64 z2.2.1, v6, .slice none 0 0] ∧ Row 77 w5.heap.size w v6 z2.2.2.1 ∧ some b3 ≠ Value.ownBlock v6 ∧ L 5 = .pointer (some ⟨b3, 0, none⟩) ∧ w5.heap.size ≤ w.heap.size ∧ Ext w4 w) ?_ ?_
    ·
      refine wp_block <| lp (I := fun m L w => ∃ y3 : Int, ∃ y4 : ((Int × (List Int) × (List ((List Int) × Int)) × (List ((List Int) × Int)) × (List (List Int))) × Int × (List ((Bool × Int) × Int × Int)) × (List Int)), ∃ v5 : Value, right_newTreaty_l2 F x0 m y3 y4  = some z2 ∧ L 59 = .int .i64 y3 ∧ Bx w b3 74 [.int .i64 y4.1.1, .slice a1 x0.2.1.length cq1, .slice a2 x0.2.2.1.length cq2, .slice a3 x0.2.2.2.1.length cq3, .slice a4 x0.2.2.2.2.length cq4, .int .i64 y4.2.1, v5, .slice none 0 0] ∧ Row 77 w5.heap.size w v5 y4.2.2.1 ∧ some b3 ≠ Value.ownBlock v5 ∧ L 5 = .pointer (some ⟨b3, 0, none⟩) ∧ L 57 = .slice a3 x0.2.2.2.1.length cq3 ∧ L 58 = .int .i64 (x0.2.2.2.1.length : Int) ∧ w5.heap.size ≤ w.heap.size ∧ Ext w4 w) F ⟨_, _, _, hB5, rfl, B5_j1, O5c1_j1, N5c1_j1, l5_j1, rfl, rfl, Z0_j1, K0_j1⟩ ?_
      rintro m L w15 ⟨y3, y4, v5, hB5, l59_i4, B5_i4, O5c1_i4, N5c1_i4, l5_i4, l57_i4, l58_i4, Z0_i4, K0_i4⟩
      rcases m with _ | m
      · rw [right_newTreaty_l2] at hB5; cases hB5
      rw [right_newTreaty_l2] at hB5
      have k36 := k3.tr K0_i4
      have k37 := hx4.tr K0_i4
      have r69 := r19.ext K0_i4
      have r70 := r20.ext K0_i4
      have r71 := r21.ext K0_i4
      have r72 := r22.ext K0_i4
      have hz := RV.sl O5c1_i4.rv; obtain ⟨a9, cq9, rfl, -, -, -⟩ := hz
      refine wp_seq <| rg <| vl rfl rfl (xlss l59_i4 l58_i4) <| nl <| wp_seq <| cnd rfl (fun h4 => ?_) (fun h4 => ?_)
      ·
        have hB5 := ifp hB5 h4
        refine wp_skip <| wp_seq <| wp_block <| wp_seq <| rg <| vl rfl rfl xmv <| ?_
        have hz := bs hB5; obtain ⟨x8, Ex8, hB5⟩ := hz
        have hz := (RV.els r4).ix Ex8; obtain ⟨b7, f2, cs3, e7, i5, i6, q8, hc3⟩ := hz
        cases e7
        obtain ⟨_, _, rfl, ⟨a10, cq10, rfl, p6, q9, e8⟩, rfl⟩ := q8
        have r73 := RV.of1 p6 q9 e8
        have hc4 := hc3.ext k36
        have r74 := r73.ext k36
        refine vl rfl rfl (xixs l57_i4 l59_i4 Try.underlying23 ti54 i5 i6) <| vl rfl rfl (xlda rfl ti54 rfl hc4) <| sal ti54 fun b8 w16 hx10 hg5 hb13 => ?_
        have k38 := k36.tr hx10
        have k39 := k37.tr hx10
        have k40 := K0_i4.tr hx10
        have zs8 := Nat.le_trans Z0_i4 hx10.size
        have B6 := B5_i4.ext hx10
        have r75 := r69.ext hx10
        have r76 := r70.ext hx10
        have r77 := r71.ext hx10
        have r78 := r72.ext hx10
        have O6 := O5c1_i4.ext hx10
        have r79 := r74.ext hx10
        refine vl rfl rfl xas <| sst rfl rfl rfl ti54 hb13 rfl rfl (ble rfl) fun w17 hch3 hb14 => ?_
        have k41 := Ext.chg k38 hch3 (Nat.le_trans k36.size hg5)
        have k42 := Ext.chg k39 hch3 (Nat.le_trans k37.size hg5)
        have k43 := Ext.chg k40 hch3 (Nat.le_trans K0_i4.size hg5)
        have k44 := Ext.chg hx10 hch3 (Nat.le_trans (Nat.le_refl _) hg5)
        have zs9 := Nat.le_trans zs8 (Nat.le_of_eq hch3.size.symm)
        have B7 := B5_i4.ext k44
        have r80 := r69.ext k44
        have r81 := r70.ext k44
        have r82 := r71.ext k44
        have r83 := r72.ext k44
        have O7 := O5c1_i4.ext k44
        have r84 := r74.ext k44
        have hb15 : Bx w17 b8 54 [.slice a10 x8.1.length cq10, .int .i64 x8.2] := hb14
        refine nl <| wplG (row := (Value.ownBlock (.slice a9 y4.2.2.1.length cq9))) [18] (.pure true 0 (.pure true 1 (.pure true 2 (.pure true 3 (.pure false 4 (.pure true 5 (.pure true 6 (.pure true 7 (.pure false 8 (.pure true 10 (.pure false 11 (.pure true 12 (.eff 9 (.pure true 13 (.eff 14 (.eff 15 (.pure true 16 (.pure true 17 (.eff 18 .fin .stop))) .stop) .stop)) .stop))))))))))))) mixed (by kernel_rfl) (fun w18 hx11 => ?_)
        have k45 := k41.tr hx11
        have k46 := k42.tr hx11
        have k47 := k43.tr hx11
        have k48 := k44.tr hx11
        have zs10 := Nat.le_trans zs9 hx11.size
        have B8 := B7.ext hx11
        have r85 := r80.ext hx11
        have r86 := r81.ext hx11
        have r87 := r82.ext hx11
        have r88 := r83.ext hx11
        have O8 := O7.ext hx11
        have hb16 := hb15.ext hx11
        have r89 := r84.ext hx11
        refine pv rfl rfl rfl (fun _ _ => xmv) (.inl rfl) <| pv rfl rfl rfl (fun _ _ => xmv) (.inl rfl) <| pv rfl rfl rfl (fun _ _ => xnil l5_i4) (.inl rfl) <| pv rfl rfl rfl (fun _ _ => xfa rfl fa74_2) (.inl rfl) <| pv rfl rfl rfl (fun _ hS => xld rfl ti72 ((Bx.cs (Bx.gr B8 (hS.resolve_left nofun) N5c1_i4)).at 6 rfl)) (.inr (Ext.gro (Ext.refl _))) <| pv rfl rfl rfl (fun _ _ => xmv) (.inl rfl) <| pv rfl rfl rfl (fun _ _ => xbdv (r := [.bool true, .int .i64 y3]) ti52 sp52 (pc rfl (pc l59_i4 pn)) rfl) (.inl rfl) <| pv rfl rfl rfl (fun _ _ => xfa rfl fa54_0) (.inl rfl) <| pv rfl rfl rfl (fun _ hS => xld rfl ti22 ((Bx.cs (Bx.gr hb16 (hS.resolve_left nofun) (O5c1_i4.ne_new hg5))).at 0 rfl)) (.inr (Ext.gro (Ext.refl _))) <| pv rfl rfl rfl (fun _ _ => xfa rfl fa54_1) (.inl rfl) <| pv rfl rfl rfl (fun _ hS => xld rfl ti3 ((Bx.cs (Bx.gr hb16 (hS.resolve_left nofun) (O5c1_i4.ne_new hg5))).at 1 rfl)) (.inr (Ext.gro (Ext.refl _))) <| ?_
        have hz := bs hB5; obtain ⟨x9, Ex9, hB5⟩ := hz
        refine pv rfl rfl rfl (fun _ _ => xshl rfl rfl Ex9) (.inl rfl) <| ?_
        have hz := bs hB5; obtain ⟨x10, Ex10, hB5⟩ := hz
        refine pe1 rfl <| cl rfl rfl (xc cb62 (mc rfl mn)) (c62 r89 Ex10) ?_
        rintro _ w19 ⟨rfl, hx12⟩
        have k49 := k45.tr hx12
        have k50 := k46.tr hx12
        have k51 := k47.tr hx12
        have k52 := k48.tr hx12
        have zs11 := Nat.le_trans zs10 hx12.size
        have B9 := B8.ext hx12
        have r90 := r85.ext hx12
        have r91 := r86.ext hx12
        have r92 := r87.ext hx12
        have r93 := r88.ext hx12
        have O9 := O8.ext hx12
        refine nl ⟨fun _ _ => (Ext.gro hx12), ?_⟩
        refine pv rfl rfl rfl (fun _ _ => xbdv (r := [.bool true, .int .i64 y3, .int .i64 x10, .int .i64 x9]) ti77 sp77 (pc rfl (pc rfl (pc rfl pn))) rfl) (.inl rfl) <| pe1 rfl <| sbsv (cs := [.bool true, .int .i64 y3, .int .i64 x10, .int .i64 x9]) Try.underlying72 ti77 rfl (pc rfl pn) rfl rfl rfl rfl rfl fun b9 w20 hx13 hg6 hb17 => ?_
        have k53 := k49.tr hx13
        have k54 := k50.tr hx13
        have k55 := k51.tr hx13
        have k56 := k52.tr hx13
        have k57 := hx12.tr hx13
        have zs12 := Nat.le_trans zs11 hx13.size
        have B10 := B9.ext hx13
        have r94 := r90.ext hx13
        have r95 := r91.ext hx13
        have r96 := r92.ext hx13
        have r97 := r93.ext hx13
        have O10 := O9.ext hx13
        have o7 : Row (α := ((Bool × Int) × Int × Int)) 77 w19.heap.size w20 (.slice (some ⟨b9, 0, none⟩) 1 1) [((true, y3), x10, x9)] := Row.lit hg6 hb17 rfl (ble rfl)
        refine nl ⟨fun _ _ => (Ext.gro k57), ?_⟩
        have hz := bs hB5; obtain ⟨x11, Ex11, hB5⟩ := hz
        refine pe1 rfl <| sapx (l := y4.2.2.1) (k := ([((true, y3), x10, x9)] : List ((Bool × Int) × Int × Int))) rfl rfl Try.underlying72 ti77 rfl rfl O10 (RV.els o7.rv) Ex11 zs12 fun v7 w21 o8 hB7 hgr2 how2 => ?_
        have k58 := Ext.grow k53 k4.size hB7
        have k59 := Ext.grow k54 k5.size hB7
        have k60 := Ext.grow k55 hx5.size hB7
        have zs13 := Nat.le_trans zs12 hgr2.size
        have gS2 := World.grownBy.tr (Ext.gro k57) hgr2
        have ne2 := ne_app how2 N5c1_i4 B10.lt
        have hb18 := Bx.gr B10 hgr2 N5c1_i4
        have r99 := r19.ext k60
        have r100 := r20.ext k60
        have r101 := r21.ext k60
        have r102 := r22.ext k60
        have o9 := Row.chgn O6 hch3 (O5c1_i4.ne_new hg5)
        have hz := RV.sl o8.rv; obtain ⟨a11, cq11, rfl, -, -, -⟩ := hz
        refine nl ⟨fun _ _ => gS2, ?_⟩
        refine pv rfl rfl rfl (fun _ _ => xnil l5_i4) (.inl rfl) <| pv rfl rfl rfl (fun _ _ => xfa rfl fa74_2) (.inl rfl) <| pe1 rfl <| sst rfl rfl rfl ti72 hb18 rfl rfl (ble rfl) fun w22 hch4 hb19 => ?_
        have k61 := Ext.chg k58 hch4 (Nat.le_trans k3.size hg2)
        have k62 := Ext.chg k59 hch4 (Nat.le_trans hx4.size hg2)
        have k63 := Ext.chg k60 hch4 (Nat.le_trans (Nat.le_refl _) hg2)
        have zs14 := Nat.le_trans zs13 (Nat.le_of_eq hch4.size.symm)
        have r103 := r21.ext k63
        have o10 := Row.chgn o8 hch4 ne2
        have r104 := r19.ext k63
        have r105 := r20.ext k63
        have r106 := r22.ext k63
        have hb20 : Bx w22 b3 74 [.int .i64 y4.1.1, .slice a1 x0.2.1.length cq1, .slice a2 x0.2.2.1.length cq2, .slice (some ⟨b7, f2, none⟩) x0.2.2.2.1.length cq3, .slice a4 x0.2.2.2.2.length cq4, .int .i64 y4.2.1, .slice a11 x11.length cq11, .slice none 0 0] := hb19
        refine nl ⟨fun h => (h (by decide)).elim, ?_⟩
        refine rg <| vl rfl rfl (xadd l59_i4 rfl) <| vl rfl rfl xmv <| nl <| ?_
        refine lq m (Nat.lt_succ_self _) <| ?_
        exact ⟨_, _, _, hB5, rfl, hb20, o10, ne2, l5_i4, l57_i4, l58_i4, zs14, k63⟩
      ·
        have hB5 := ifn hB5 h4
        refine wp_exit <| ?_
        cases hB5
        refine lf <| ?_
        exact ⟨_, B5_i4, O5c1_i4, N5c1_i4, l5_i4, Z0_i4, K0_i4⟩
    rintro L w23 ⟨v6, B5_j2, O5c1_j2, N5c1_j2, l5_j2, Z0_j2, K0_j2⟩
    have k64 := k3.tr K0_j2
    have k65 := hx4.tr K0_j2
    have r107 := r19.ext K0_j2
    have r108 := r20.ext K0_j2
    have r109 := r21.ext K0_j2
    have r110 := r22.ext K0_j2
    have hz := RV.sl O5c1_j2.rv; obtain ⟨a12, cq12, rfl, -, -, -⟩ := hz
    refine wp_seq <| wp_seq <| rg <| vl rfl rfl xmv <| vl rfl rfl (xnil l5_j2) <| vl rfl rfl (xfa rfl fa74_0) <| vl rfl rfl (xfa rfl fa26_4) <| vl rfl rfl (xld rfl ti24 ((Bx.cs B5_j2).at 4 rfl)) <| vl rfl rfl (xlen rfl Try.underlying24) <| vl rfl rfl xmv <| nl <| ?_
    have hz := bs hF; obtain ⟨z3, hB9, hF⟩ := hz
    refine ct (fun L w => ∃ v9 : Value, Bx w b3 74 [.int .i64 z3.1.1, .slice a1 x0.2.1.length cq1, .slice a2 x0.2.2.1.length cq2, .slice a3 x0.2.2.2.1.length cq3, .slice a4 x0.2.2.2.2.length cq4, .int .i64 z3.2.1, .slice a12 z2.2.2.1.length cq12, v9] ∧ Row 77 w5.heap.size w (.slice a12 z2.2.2.1.length cq12) z2.2.2.1 ∧ Row 3 w23.heap.size w v9 z3.2.2.2 ∧ some b3 ≠ Value.ownBlock v9 ∧ Apart (v9) (.slice a12 z2.2.2.1.length cq12) ∧ L 5 = .pointer (some ⟨b3, 0, none⟩) ∧ w23.heap.size ≤ w.heap.size ∧ w5.heap.size ≤ w.heap.size ∧ Ext w4 w) ?_ ?_
    ·
      refine wp_block <| lp (I := fun m L w => ∃ y5 : Int, ∃ y6 : ((Int × (List Int) × (List ((List Int) × Int)) × (List ((List Int) × Int)) × (List (List Int))) × Int × (List ((Bool × Int) × Int × Int)) × (List Int)), ∃ v8 : Value, right_newTreaty_l3 F x0 z2 m y5 y6  = some z3 ∧ L 89 = .int .i64 y5 ∧ Bx w b3 74 [.int .i64 y6.1.1, .slice a1 x0.2.1.length cq1, .slice a2 x0.2.2.1.length cq2, .slice a3 x0.2.2.2.1.length cq3, .slice a4 x0.2.2.2.2.length cq4, .int .i64 y6.2.1, .slice a12 z2.2.2.1.length cq12, v8] ∧ Row 77 w5.heap.size w (.slice a12 z2.2.2.1.length cq12) z2.2.2.1 ∧ Row 3 w23.heap.size w v8 y6.2.2.2 ∧ some b3 ≠ Value.ownBlock v8 ∧ Apart (v8) (.slice a12 z2.2.2.1.length cq12) ∧ L 5 = .pointer (some ⟨b3, 0, none⟩) ∧ L 87 = .slice a4 x0.2.2.2.2.length cq4 ∧ L 88 = .int .i64 (x0.2.2.2.2.length : Int) ∧ w23.heap.size ≤ w.heap.size ∧ w5.heap.size ≤ w.heap.size ∧ Ext w4 w) F ⟨_, _, _, hB9, rfl, B5_j2, O5c1_j2, Row.nil, (fun e => by cases e), Apart.nil1, l5_j2, rfl, rfl, (Nat.le_refl _), Z0_j2, K0_j2⟩ ?_
      rintro m L w24 ⟨y5, y6, v8, hB9, l89_i7, B5_i7, F5c6_i7, O5c1_i7, N5c1_i7, X0_i7, l5_i7, l87_i7, l88_i7, Z0_i7, Z1_i7, K0_i7⟩
      rcases m with _ | m
      · rw [right_newTreaty_l3] at hB9; cases hB9
      rw [right_newTreaty_l3] at hB9
      have k66 := k3.tr K0_i7
      have k67 := hx4.tr K0_i7
      have r111 := r19.ext K0_i7
      have r112 := r20.ext K0_i7
      have r113 := r21.ext K0_i7
      have r114 := r22.ext K0_i7
      have hz := RV.sl O5c1_i7.rv; obtain ⟨a13, cq13, rfl, -, -, -⟩ := hz
      refine wp_seq <| rg <| vl rfl rfl (xlss l89_i7 l88_i7) <| nl <| wp_seq <| cnd rfl (fun h5 => ?_) (fun h5 => ?_)
      ·
        have hB9 := ifp hB9 h5
        refine wp_skip <| wp_seq <| wp_block <| wp_seq <| rg <| ?_
        have hz := bs hB9; obtain ⟨x12, Ex12, hB9⟩ := hz
        have hz := (RV.els r5).ix Ex12; obtain ⟨b10, f3, cs4, e9, i8, i9, q10, hc5⟩ := hz
        cases e9
        obtain ⟨a14, cq14, rfl, p7, q11, e10⟩ := q10
        have r115 := RV.of1 p7 q11 e10
        have hc6 := hc5.ext k66
        have r116 := r115.ext k66
        refine vl rfl rfl (xixs l87_i7 l89_i7 Try.underlying24 ti22 i8 i9) <| vl rfl rfl (xld rfl ti22 (hc6.at 0 rfl)) <| vl rfl rfl xas <| nl <| wpl [8, 11] (.pure true 0 (.pure true 1 (.pure true 2 (.pure true 3 (.pure false 4 (.pure true 5 (.eff 6 (.eff 7 (.eff 8 (.pure true 9 (.pure true 10 (.eff 11 .fin .stop))) .stop) .stop) .stop))))))) mixed (by kernel_rfl) (fun w25 hx14 => ?_)
        have k68 := k66.tr hx14
        have k69 := k67.tr hx14
        have k70 := K0_i7.tr hx14
        have zs15 := Nat.le_trans Z0_i7 hx14.size
        have zs16 := Nat.le_trans Z1_i7 hx14.size
        have B11 := B5_i7.ext hx14
        have r117 := r111.ext hx14
        have r118 := r112.ext hx14
        have r119 := r113.ext hx14
        have r120 := r114.ext hx14
        have O11 := F5c6_i7.ext hx14
        have O12 := O5c1_i7.ext hx14
        have r121 := r116.ext hx14
        refine pv rfl rfl rfl (fun _ _ => xmv) (.inl rfl) <| pv rfl rfl rfl (fun _ _ => xmv) (.inl rfl) <| pv rfl rfl rfl (fun _ _ => xnil l5_i7) (.inl rfl) <| pv rfl rfl rfl (fun _ _ => xfa rfl fa74_3) (.inl rfl) <| pv rfl rfl rfl (fun _ hS => xld rfl ti22 ((Bx.cs (B11.ext (hS.resolve_left nofun))).at 7 rfl)) (.inr (Ext.refl _)) <| pv rfl rfl rfl (fun _ _ => xmv) (.inl rfl) <| ?_
        have hz := bs hB9; obtain ⟨x13, Ex13, hB9⟩ := hz
        refine pe1 rfl <| cl rfl rfl (xc cb62 (mc rfl mn)) (c62 r121 Ex13) ?_
        rintro _ w26 ⟨rfl, hx15⟩
        have k71 := k68.tr hx15
        have k72 := k69.tr hx15
        have k73 := k70.tr hx15
        have zs17 := Nat.le_trans zs15 hx15.size
        have zs18 := Nat.le_trans zs16 hx15.size
        have B12 := B11.ext hx15
        have r122 := r117.ext hx15
        have r123 := r118.ext hx15
        have r124 := r119.ext hx15
        have r125 := r120.ext hx15
        have O13 := O11.ext hx15
        have O14 := O12.ext hx15
        refine nl ⟨fun _ _ => hx15, ?_⟩
        refine pe1 rfl <| sbsv (cs := [.int .i64 x13]) Try.underlying22 ti3 rfl (pc rfl pn) rfl rfl rfl rfl rfl fun b11 w27 hx16 hg7 hb21 => ?_
        have k74 := k71.tr hx16
        have k75 := k72.tr hx16
        have k76 := k73.tr hx16
        have k77 := hx15.tr hx16
        have zs19 := Nat.le_trans zs17 hx16.size
        have zs20 := Nat.le_trans zs18 hx16.size
        have B13 := B12.ext hx16
        have r126 := r122.ext hx16
        have r127 := r123.ext hx16
        have r128 := r124.ext hx16
        have r129 := r125.ext hx16
        have O15 := O13.ext hx16
        have O16 := O14.ext hx16
        have o12 : Row (α := Int) 3 w26.heap.size w27 (.slice (some ⟨b11, 0, none⟩) 1 1) [x13] := Row.lit hg7 hb21 rfl (ble rfl)
        refine nl ⟨fun _ _ => k77, ?_⟩
        have hz := bs hB9; obtain ⟨x14, Ex14, hB9⟩ := hz
        refine pe1 rfl <| sapx (l := y6.2.2.2) (k := ([x13] : List Int)) rfl rfl Try.underlying22 ti3 rfl rfl O16 (RV.els o12.rv) Ex14 zs19 fun v10 w28 o13 hB11 hgr3 how3 => ?_
        have k78 := Ext.grow k74 k64.size hB11
        have k79 := Ext.grow k75 k65.size hB11
        have k80 := Ext.grow k76 K0_j2.size hB11
        have X1 := Apart.app how3 X0_i7 O15.own_lt
        have zs21 := Nat.le_trans zs19 hgr3.size
        have zs22 := Nat.le_trans zs20 hgr3.size
        have ne3 := ne_app how3 N5c1_i7 B13.lt
        have hb22 := Bx.gr B13 hgr3 N5c1_i7
        have r131 := r19.ext k80
        have r132 := r20.ext k80
        have r133 := r21.ext k80
        have r134 := r22.ext k80
        have o14 := Row.gra O15 hgr3 X0_i7
        have hz := RV.sl o13.rv; obtain ⟨a15, cq15, rfl, -, -, -⟩ := hz
        refine nl ⟨fun h => (h (by decide)).elim, ?_⟩
        refine pv rfl rfl rfl (fun _ _ => xnil l5_i7) (.inl rfl) <| pv rfl rfl rfl (fun _ _ => xfa rfl fa74_3) (.inl rfl) <| pe1 rfl <| sst rfl rfl rfl ti22 hb22 rfl rfl (ble rfl) fun w29 hch5 hb23 => ?_
        have k81 := Ext.chg k78 hch5 (Nat.le_trans k3.size hg2)
        have k82 := Ext.chg k79 hch5 (Nat.le_trans hx4.size hg2)
        have k83 := Ext.chg k80 hch5 (Nat.le_trans (Nat.le_refl _) hg2)
        have zs23 := Nat.le_trans zs21 (Nat.le_of_eq hch5.size.symm)
        have zs24 := Nat.le_trans zs22 (Nat.le_of_eq hch5.size.symm)
        have r135 := r22.ext k83
        have o15 := Row.chgn o13 hch5 ne3
        have r136 := r19.ext k83
        have r137 := r20.ext k83
        have r138 := r21.ext k83
        have o16 := Row.chgn o14 hch5 N5c1_j2
        have hb24 : Bx w29 b3 74 [.int .i64 y6.1.1, .slice a1 x0.2.1.length cq1, .slice a2 x0.2.2.1.length cq2, .slice a3 x0.2.2.2.1.length cq3, .slice (some ⟨b10, f3, none⟩) x0.2.2.2.2.length cq4, .int .i64 y6.2.1, .slice a12 z2.2.2.1.length cq12, .slice a15 x14.length cq15] := hb23
        refine nl ⟨fun h => (h (by decide)).elim, ?_⟩
        refine rg <| vl rfl rfl (xadd l89_i7 rfl) <| vl rfl rfl xmv <| nl <| ?_
        refine lq m (Nat.lt_succ_self _) <| ?_
        exact ⟨_, _, _, hB9, rfl, hb24, o16, o15, ne3, X1, l5_i7, l87_i7, l88_i7, zs23, zs24, k83⟩
      ·
        have hB9 := ifn hB9 h5
        refine wp_exit <| ?_
        cases hB9
        refine lf <| ?_
        exact ⟨_, B5_i7, F5c6_i7, O5c1_i7, N5c1_i7, X0_i7, l5_i7, Z0_i7, Z1_i7, K0_i7⟩
    rintro L w30 ⟨v9, B5_j3, F5c6_j3, O5c1_j3, N5c1_j3, X0_j3, l5_j3, Z0_j3, Z1_j3, K0_j3⟩
    have k84 := k3.tr K0_j3
    have k85 := hx4.tr K0_j3
    have r139 := r19.ext K0_j3
    have r140 := r20.ext K0_j3
    have r141 := r21.ext K0_j3
    have r142 := r22.ext K0_j3
    have hz := RV.sl O5c1_j3.rv; obtain ⟨a16, cq16, rfl, -, -, -⟩ := hz
    refine wp_seq <| wp_seq <| rg <| vl rfl rfl xmv <| ?_
    have hz := bs hF; obtain ⟨x15, Ex15, hF⟩ := hz
    refine cl rfl rfl (xc cb53 (mc l5_j3 (mc rfl mn))) (c53 (x0 := ((z3.1.1, x0.2.1, x0.2.2.1, x0.2.2.2.1, x0.2.2.2.2), z3.2.1, z2.2.2.1, z3.2.2.2)) (Bx.cs B5_j3) ⟨[.int .i64 z3.1.1] ++ ([.slice a1 x0.2.1.length cq1] ++ ([.slice a2 x0.2.2.1.length cq2] ++ ([.slice a3 x0.2.2.2.1.length cq3] ++ [.slice a4 x0.2.2.2.2.length cq4]))), [.int .i64 z3.2.1] ++ ([.slice a12 z2.2.2.1.length cq12] ++ [.slice a16 z3.2.2.2.length cq16]), rfl, ⟨[.int .i64 z3.1.1], [.slice a1 x0.2.1.length cq1] ++ ([.slice a2 x0.2.2.1.length cq2] ++ ([.slice a3 x0.2.2.2.1.length cq3] ++ [.slice a4 x0.2.2.2.2.length cq4])), rfl, rfl, ⟨[.slice a1 x0.2.1.length cq1], [.slice a2 x0.2.2.1.length cq2] ++ ([.slice a3 x0.2.2.2.1.length cq3] ++ [.slice a4 x0.2.2.2.2.length cq4]), rfl, r139.rep1, ⟨[.slice a2 x0.2.2.1.length cq2], [.slice a3 x0.2.2.2.1.length cq3] ++ [.slice a4 x0.2.2.2.2.length cq4], rfl, r140.rep1, ⟨[.slice a3 x0.2.2.2.1.length cq3], [.slice a4 x0.2.2.2.2.length cq4], rfl, r141.rep1, r142.rep1⟩⟩⟩⟩, ⟨[.int .i64 z3.2.1], [.slice a12 z2.2.2.1.length cq12] ++ [.slice a16 z3.2.2.2.length cq16], rfl, rfl, ⟨[.slice a12 z2.2.2.1.length cq12], [.slice a16 z3.2.2.2.length cq16], rfl, F5c6_j3.rv.rep1, O5c1_j3.rv.rep1⟩⟩⟩ Ex15) ?_
    rintro _ w31 ⟨rfl, hx17⟩
    have k86 := k84.tr hx17
    have k87 := k85.tr hx17
    have k88 := K0_j3.tr hx17
    have zs25 := Nat.le_trans Z0_j3 hx17.size
    have zs26 := Nat.le_trans Z1_j3 hx17.size
    have B14 := B5_j3.ext hx17
    have r143 := r139.ext hx17
    have r144 := r140.ext hx17
    have r145 := r141.ext hx17
    have r146 := r142.ext hx17
    have O17 := F5c6_j3.ext hx17
    have O18 := O5c1_j3.ext hx17
    refine vl rfl rfl (xnot rfl) <| nl <| cnd rfl (fun h6 => ?_) (fun h6 => ?_)
    ·
      have hF := ifp hF h6
      refine wp_seq <| rg <| vl rfl rfl xas <| vl rfl rfl xas <| nl <| ?_
      cases hF
      exact wp_ret <| rt rfl (.tmp rfl rfl (.tmp rfl rfl .nil)) ⟨_, rfl, obNil, k86⟩
    ·
      have hF := ifn hF h6
      refine wp_skip <| wp_seq <| rg <| vl rfl rfl xmv <| vl rfl rfl xas <| vl rfl rfl xas <| nl <| ?_
      have r147 : RV w31 (.pointer (some ⟨b3, 0, none⟩)) (⟨some ((z3.1.1, x0.2.1, x0.2.2.1, x0.2.2.2.1, x0.2.2.2.2), z3.2.1, z2.2.2.1, z3.2.2.2)⟩ : (Ob ((Int × (List Int) × (List ((List Int) × Int)) × (List ((List Int) × Int)) × (List (List Int))) × Int × (List ((Bool × Int) × Int × Int)) × (List Int)))) := obNew (Bx.cs B14) rfl ⟨[.int .i64 z3.1.1] ++ ([.slice a1 x0.2.1.length cq1] ++ ([.slice a2 x0.2.2.1.length cq2] ++ ([.slice a3 x0.2.2.2.1.length cq3] ++ [.slice a4 x0.2.2.2.2.length cq4]))), [.int .i64 z3.2.1] ++ ([.slice a12 z2.2.2.1.length cq12] ++ [.slice a16 z3.2.2.2.length cq16]), rfl, ⟨[.int .i64 z3.1.1], [.slice a1 x0.2.1.length cq1] ++ ([.slice a2 x0.2.2.1.length cq2] ++ ([.slice a3 x0.2.2.2.1.length cq3] ++ [.slice a4 x0.2.2.2.2.length cq4])), rfl, rfl, ⟨[.slice a1 x0.2.1.length cq1], [.slice a2 x0.2.2.1.length cq2] ++ ([.slice a3 x0.2.2.2.1.length cq3] ++ [.slice a4 x0.2.2.2.2.length cq4]), rfl, r143.rep1, ⟨[.slice a2 x0.2.2.1.length cq2], [.slice a3 x0.2.2.2.1.length cq3] ++ [.slice a4 x0.2.2.2.2.length cq4], rfl, r144.rep1, ⟨[.slice a3 x0.2.2.2.1.length cq3], [.slice a4 x0.2.2.2.2.length cq4], rfl, r145.rep1, r146.rep1⟩⟩⟩⟩, ⟨[.int .i64 z3.2.1], [.slice a12 z2.2.2.1.length cq12] ++ [.slice a16 z3.2.2.2.length cq16], rfl, rfl, ⟨[.slice a12 z2.2.2.1.length cq12], [.slice a16 z3.2.2.2.length cq16], rfl, O17.rv.rep1, O18.rv.rep1⟩⟩⟩
      cases hF
      exact wp_ret <| rt rfl (.tmp l5_j3 rfl (.tmp rfl rfl .nil)) ⟨_, rfl, r147, k86⟩

set_option maxHeartbeats 4000000 in
theorem c43 {w0 : World} {v0 : Value} {x0 : (Int × (List Int) × (List ((List Int) × Int)) × (List ((List Int) × Int)) × (List (List Int)))} (r0 : RV w0 v0 x0) {v1 : Value} {x1 : (List Int)} (r1 : RV w0 v1 x1) {F : Nat} {r : ((Ob ((Int × (List Int) × (List ((List Int) × Int)) × (List ((List Int) × Int)) × (List (List Int))) × Int × (List ((Bool × Int) × Int × Int)) × (List Int))) × Int × Int)} (hF : right_open F x0 x1 = some r) :
    Calls Try.prog 43 [v0, v1].toArray w0 (Ret fun v w' => ∃ u0 : Value, v = .tuple #[u0, .int .i64 r.2.1, .int .i64 r.2.2] ∧ RV w' u0 r.1 ∧ Ext w0 w') := by
  unfold right_open at hF
  have hz := id r0; obtain ⟨_, rfl, ⟨_, _, rfl, rfl, ⟨_, _, rfl, ⟨a1, cq1, rfl, p1, q3, e1⟩, ⟨_, _, rfl, ⟨a2, cq2, rfl, p2, q4, e2⟩, ⟨_, _, rfl, ⟨a3, cq3, rfl, p3, q5, e3⟩, ⟨a4, cq4, rfl, p4, q6, e4⟩⟩⟩⟩⟩⟩ := hz
  have r3 := RV.of1 p1 q3 e1
  have r4 := RV.of1 p2 q4 e2
  have r5 := RV.of1 p3 q5 e3
  have r6 := RV.of1 p4 q6 e4
  have hz := r1.sl; obtain ⟨a5, cq5, rfl, -, -, -⟩ := hz
  refine entr (n := 26) Try.func43 rfl rfl rfl <| wp_seq <| rg <| sbx rfl rfl fun b3 w1 hx1 hg1 hb1 => ?_
  have r7 := r1.ext hx1
  have r8 := r3.ext hx1
  have r9 := r4.ext hx1
  have r10 := r5.ext hx1
  have r11 := r6.ext hx1
  have r12 := r0.ext hx1
  refine vl rfl rfl xas <| vl rfl rfl xas <| vl rfl rfl xas <| nl <| wp_seq <| rg <| vl rfl rfl (xlda rfl ti26 rfl (Bx.cs hb1)) <| ?_
  have hz := bs hF; obtain ⟨x3, Ex3, hF⟩ := hz
  refine cl rfl rfl (xc cb52 (mc rfl mn)) (c52 (show RV (α := (Int × (List Int) × (List ((List Int) × Int)) × (List ((List Int) × Int)) × (List (List Int)))) _ (.agg [.int .i64 x0.1, .slice a1 x0.2.1.length cq1, .slice a2 x0.2.2.1.length cq2, .slice a3 x0.2.2.2.1.length cq3, .slice a4 x0.2.2.2.2.length cq4].toArray) (x0.1, x0.2.1, x0.2.2.1, x0.2.2.2.1, x0.2.2.2.2) from ⟨_, rfl, ⟨[.int .i64 x0.1], [.slice a1 x0.2.1.length cq1] ++ ([.slice a2 x0.2.2.1.length cq2] ++ ([.slice a3 x0.2.2.2.1.length cq3] ++ [.slice a4 x0.2.2.2.2.length cq4])), rfl, rfl, ⟨[.slice a1 x0.2.1.length cq1], [.slice a2 x0.2.2.1.length cq2] ++ ([.slice a3 x0.2.2.2.1.length cq3] ++ [.slice a4 x0.2.2.2.2.length cq4]), rfl, r8.rep1, ⟨[.slice a2 x0.2.2.1.length cq2], [.slice a3 x0.2.2.2.1.length cq3] ++ [.slice a4 x0.2.2.2.2.length cq4], rfl, r9.rep1, ⟨[.slice a3 x0.2.2.2.1.length cq3], [.slice a4 x0.2.2.2.2.length cq4], rfl, r10.rep1, r11.rep1⟩⟩⟩⟩⟩) Ex3) ?_
  rintro _ w2 ⟨u1, rfl, r13, hx2⟩
  have k1 := hx1.tr hx2
  have hb2 := hb1.ext hx2
  have r14 := r8.ext hx2
  have r15 := r9.ext hx2
  have r16 := r10.ext hx2
  have r17 := r11.ext hx2
  have r18 := r7.ext hx2
  have hz := obPtr r13; obtain ⟨a6, rfl⟩ := hz
  refine vl rfl rfl xmv <| vl rfl rfl (xext rfl rfl) <| vl rfl rfl (xext rfl rfl) <| vl rfl rfl xas <| vl rfl rfl xas <| nl <| wp_seq <| wp_seq <| rg <| vl rfl rfl xmv <| vl rfl rfl (xneq rfl rfl) <| nl <| cnd rfl (fun h3 => ?_) (fun h3 => ?_)
  ·
    have hF := ifp hF h3
    refine wp_seq <| rg <| vl rfl rfl xmv <| vl rfl rfl xas <| vl rfl rfl xas <| vl rfl rfl xas <| nl <| ?_
    cases hF
    exact wp_ret <| rt rfl (.tmp rfl rfl (.tmp rfl rfl (.tmp rfl rfl .nil))) ⟨_, rfl, obNil, k1⟩
  ·
    have hF := ifn hF h3
    refine wp_skip <| wp_seq <| wp_seq <| rg <| vl rfl rfl xmv <| vl rfl rfl (xfa rfl fa26_3) <| vl rfl rfl (xld rfl ti23 ((Bx.cs hb2).at 3 rfl)) <| vl rfl rfl (xlen rfl Try.underlying23) <| ?_
    have hz := bs hF; obtain ⟨x4, Ex4, hF⟩ := hz
    refine cl rfl rfl (xc cb60 (mc rfl (mc rfl mn))) (c60 r18 Ex4) ?_
    rintro _ w3 ⟨rfl, hx3⟩
    have k2 := k1.tr hx3
    have r19 := r18.ext hx3
    have r20 := r13.ext hx3
    refine vl rfl rfl (xnot rfl) <| nl <| cnd rfl (fun h4 => ?_) (fun h4 => ?_)
    ·
      have hF := ifp hF h4
      refine wp_seq <| rg <| vl rfl rfl xas <| vl rfl rfl xas <| vl rfl rfl xas <| nl <| ?_
      cases hF
      exact wp_ret <| rt rfl (.tmp rfl rfl (.tmp rfl rfl (.tmp rfl rfl .nil))) ⟨_, rfl, obNil, k2⟩
    ·
      have hF := ifn hF h4
      refine wp_skip <| wp_seq <| rg <| vl rfl rfl xmv <| vl rfl rfl xmv <| ?_
      have hz := bs hF; obtain ⟨x5, Ex5, hF⟩ := hz
      refine cl rfl rfl (xc cb62 (mc rfl mn)) (c62 r19 Ex5) ?_
      rintro _ w4 ⟨rfl, hx4⟩
      have k3 := k2.tr hx4
      have r21 := r20.ext hx4
      refine vl rfl rfl xas <| vl rfl rfl xas <| vl rfl rfl xas <| nl <| ?_
      cases hF
      exact wp_ret <| rt rfl (.tmp rfl rfl (.tmp rfl rfl (.tmp rfl rfl .nil))) ⟨_, rfl, r21, k3⟩

set_option maxHeartbeats 4000000 in
theorem c17 {w0 : World} {v0 : Value} {x0 : (Int × (List Int) × (List ((List Int) × Int)) × (List ((List Int) × Int)) × (List (List Int)))} (r0 : RV w0 v0 x0) {v1 : Value} {x1 : (List Int)} (r1 : RV w0 v1 x1) {x2 : Int} {v3 : Value} {x3 : (List (Bool × Int))} (r3 : RV w0 v3 x3) {F : Nat} {r : Int} (hF : right_CheckChain F x0 x1 x2 x3 = some r) :
    Calls Try.prog 17 [v0, v1, .int .i64 x2, v3].toArray w0 (Ret fun v w' => v = .int .i64 r ∧ Ext w0 w') := by
  unfold right_CheckChain at hF
  have hz := id r0; obtain ⟨_, rfl, ⟨_, _, rfl, rfl, ⟨_, _, rfl, ⟨a1, cq1, rfl, p1, q5, e1⟩, ⟨_, _, rfl, ⟨a2, cq2, rfl, p2, q6, e2⟩, ⟨_, _, rfl, ⟨a3, cq3, rfl, p3, q7, e3⟩, ⟨a4, cq4, rfl, p4, q8, e4⟩⟩⟩⟩⟩⟩ := hz
  have r5 := RV.of1 p1 q5 e1
  have r6 := RV.of1 p2 q6 e2
  have r7 := RV.of1 p3 q7 e3
  have r8 := RV.of1 p4 q8 e4
  have hz := r1.sl; obtain ⟨a5, cq5, rfl, -, -, -⟩ := hz
  have hz := r3.sl; obtain ⟨a6, cq6, rfl, -, -, -⟩ := hz
  refine entr (n := 93) Try.func17 rfl rfl rfl <| wp_seq <| rg <| sbx rfl rfl fun b5 w1 hx1 hg1 hb1 => ?_
  have r9 := r1.ext hx1
  have r10 := r3.ext hx1
  have r11 := r5.ext hx1
  have r12 := r6.ext hx1
  have r13 := r7.ext hx1
  have r14 := r8.ext hx1
  have r15 := r0.ext hx1
  refine vl rfl rfl xas <| nl <| wp_seq <| rg <| vl rfl rfl (xlda rfl ti26 rfl (Bx.cs hb1)) <| vl rfl rfl xmv <| ?_
  have hz := bs hF; obtain ⟨x5, Ex5, hF⟩ := hz
  refine cl rfl rfl (xc cb43 (mc rfl (mc rfl mn))) (c43 (show RV (α := (Int × (List Int) × (List ((List Int) × Int)) × (List ((List Int) × Int)) × (List (List Int)))) _ (.agg [.int .i64 x0.1, .slice a1 x0.2.1.length cq1, .slice a2 x0.2.2.1.length cq2, .slice a3 x0.2.2.2.1.length cq3, .slice a4 x0.2.2.2.2.length cq4].toArray) (x0.1, x0.2.1, x0.2.2.1, x0.2.2.2.1, x0.2.2.2.2) from ⟨_, rfl, ⟨[.int .i64 x0.1], [.slice a1 x0.2.1.length cq1] ++ ([.slice a2 x0.2.2.1.length cq2] ++ ([.slice a3 x0.2.2.2.1.length cq3] ++ [.slice a4 x0.2.2.2.2.length cq4])), rfl, rfl, ⟨[.slice a1 x0.2.1.length cq1], [.slice a2 x0.2.2.1.length cq2] ++ ([.slice a3 x0.2.2.2.1.length cq3] ++ [.slice a4 x0.2.2.2.2.length cq4]), rfl, r11.rep1, ⟨[.slice a2 x0.2.2.1.length cq2], [.slice a3 x0.2.2.2.1.length cq3] ++ [.slice a4 x0.2.2.2.2.length cq4], rfl, r12.rep1, ⟨[.slice a3 x0.2.2.2.1.length cq3], [.slice a4 x0.2.2.2.2.length cq4], rfl, r13.rep1, r14.rep1⟩⟩⟩⟩⟩) r9 Ex5) ?_
  rintro _ w2 ⟨u1, rfl, r16, hx2⟩
  have k1 := hx1.tr hx2
  have hb2 := hb1.ext hx2
  have r17 := r11.ext hx2
  have r18 := r12.ext hx2
  have r19 := r13.ext hx2
  have r20 := r14.ext hx2
  have r21 := r10.ext hx2
  have hz := obPtr r16; obtain ⟨a7, rfl⟩ := hz
  refine vl rfl rfl xmv <| vl rfl rfl (xext rfl rfl) <| vl rfl rfl (xext rfl rfl) <| vl rfl rfl (xext rfl rfl) <| vl rfl rfl xas <| vl rfl rfl xas <| vl rfl rfl xas <| nl <| wp_seq <| wp_block <| wp_seq <| rg <| vl rfl rfl xmv <| vl rfl rfl (xneq rfl rfl) <| vl rfl rfl xas <| nl <| cnd rfl (fun h5 => ?_) (fun h5 => ?_)
  ·
    have hF := ifp hF h5
    refine wp_seq <| rg <| vl rfl rfl xmv <| vl rfl rfl xas <| nl <| ?_
    cases hF
    exact wp_ret <| rt rfl (.tmp rfl rfl .nil) ⟨rfl, k1⟩
  ·
    have hF := ifn hF h5
    refine wp_seq <| rg <| vl rfl rfl xmv <| vl rfl rfl (xlss rfl rfl) <| vl rfl rfl xmv <| gv rfl rfl rfl rfl (gw0 rfl) rfl (fun hc => xmva rfl) <| gv rfl rfl rfl rfl (gw0 rfl) rfl (fun hc => xfa rfl fa26_4) <| gv rfl rfl rfl rfl (gw0 rfl) rfl (fun hc => xld (mv hc rfl) ti24 ((Bx.cs hb2).at 4 rfl)) <| gv rfl rfl rfl rfl (gw0 rfl) rfl (fun hc => xlen (mv hc rfl) Try.underlying24) <| gv rfl rfl rfl rfl (gw0 rfl) rfl (fun hc => xgeq (mv hc rfl) (mv hc rfl)) <| vl rfl rfl (xpo rfl rfl rfl) <| vl rfl rfl xas <| nl <| cnd rfl (fun h6 => ?_) (fun h6 => ?_)
    ·
      have hF := ifp hF h6
      refine wp_seq <| rg <| vl rfl rfl xas <| nl <| ?_
      cases hF
      exact wp_ret <| rt rfl (.tmp rfl rfl .nil) ⟨rfl, k1⟩
    ·
      have hF := ifn hF h6
      refine wp_seq <| rg <| vl rfl rfl xmv <| vl rfl rfl (xlen rfl Try.underlying27) <| vl rfl rfl (xgtr rfl rfl) <| vl rfl rfl xas <| nl <| cnd rfl (fun h7 => ?_) (fun h7 => ?_)
      ·
        have hF := ifp hF h7
        refine wp_seq <| rg <| vl rfl rfl xas <| nl <| ?_
        cases hF
        exact wp_ret <| rt rfl (.tmp rfl rfl .nil) ⟨rfl, k1⟩
      ·
        have hF := ifn hF h7
        refine wp_skip <| wp_seq <| rg <| vl rfl rfl xmv <| ?_
        have hz := bs hF; obtain ⟨x6, Ex6, hF⟩ := hz
        have hz := obGet r16 Ex6; obtain ⟨b6, cs5, e5, q9, hc1⟩ := hz
        cases e5
        obtain ⟨_, _, rfl, ⟨_, _, rfl, rfl, ⟨_, _, rfl, ⟨a8, cq7, rfl, p5, q10, e6⟩, ⟨_, _, rfl, ⟨a9, cq8, rfl, p6, q11, e7⟩, ⟨_, _, rfl, ⟨a10, cq9, rfl, p7, q12, e8⟩, ⟨a11, cq10, rfl, p8, q13, e9⟩⟩⟩⟩⟩, ⟨_, _, rfl, rfl, ⟨_, _, rfl, ⟨a12, cq11, rfl, p9, q14, e10⟩, ⟨a13, cq12, rfl, p10, q15, e11⟩⟩⟩⟩ := q9
        have r22 := RV.of1 p5 q10 e6
        have r23 := RV.of1 p6 q11 e7
        have r24 := RV.of1 p7 q12 e8
        have r25 := RV.of1 p8 q13 e9
        have r26 := RV.of1 p9 q14 e10
        have r27 := RV.of1 p10 q15 e11
        refine vl rfl rfl (xnil rfl) <| vl rfl rfl (xfa rfl fa74_1) <| vl rfl rfl (xld rfl ti3 (hc1.at 5 rfl)) <| vl rfl rfl xas <| nl <| wp_seq <| wp_seq <| rg <| vl rfl rfl xmv <| vl rfl rfl (xlen rfl Try.underlying27) <| vl rfl rfl xmv <| nl <| ?_
        have hz := bs hF; obtain ⟨o1, hB1, hF⟩ := hz
        refine ct (fun L w => ∃ z1 : Int, o1 = .inr z1 ∧ L 12 = .int .i64 z1 ∧ L 2 = .int .i64 x2 ∧ L 9 = .pointer (some ⟨b6, 0, none⟩) ∧ Ext w2 w) ?_ ?_
        ·
          refine wp_block <| lp (I := fun m L w => ∃ y1 : Int, ∃ y2 : Int, right_CheckChain_l1 F x3 x5 x6 m y1 y2  = some o1 ∧ L 12 = .int .i64 y1 ∧ L 47 = .int .i64 y2 ∧ L 2 = .int .i64 x2 ∧ L 9 = .pointer (some ⟨b6, 0, none⟩) ∧ L 10 = .int .i64 x5.2.1 ∧ L 45 = .slice a6 x3.length cq6 ∧ L 46 = .int .i64 (x3.length : Int) ∧ Ext w2 w) F ⟨_, _, hB1, rfl, rfl, rfl, rfl, rfl, rfl, rfl, (Ext.refl _)⟩ ?_
          rintro m L w3 ⟨y1, y2, hB1, l12_i1, l47_i1, l2_i1, l9_i1, l10_i1, l45_i1, l46_i1, K0_i1⟩
          rcases m with _ | m
          · rw [right_CheckChain_l1] at hB1; cases hB1
          rw [right_CheckChain_l1] at hB1
          have k2 := k1.tr K0_i1
          have r28 := r22.ext K0_i1
          have r29 := r23.ext K0_i1
          have r30 := r24.ext K0_i1
          have r31 := r25.ext K0_i1
          have r32 := r26.ext K0_i1
          have r33 := r27.ext K0_i1
          have hc2 := hc1.ext K0_i1
          have r34 := r21.ext K0_i1
          refine wp_seq <| rg <| vl rfl rfl (xlss l47_i1 l46_i1) <| nl <| wp_seq <| cnd rfl (fun h8 => ?_) (fun h8 => ?_)
          ·
            have hB1 := ifp hB1 h8
            refine wp_skip <| wp_seq <| wp_block <| wp_seq <| rg <| ?_
            have hz := bs hB1; obtain ⟨x7, Ex7, hB1⟩ := hz
            have hz := (RV.els r3).ix Ex7; obtain ⟨b7, f1, cs6, e12, i2, i3, q16, hc3⟩ := hz
            cases e12
            obtain ⟨_, _, rfl, rfl, rfl⟩ := q16
            have hc4 := hc3.ext k2
            refine vl rfl rfl (xixs l45_i1 l47_i1 Try.underlying27 ti52 i2 i3) <| vl rfl rfl (xlda rfl ti52 rfl hc4) <| sal ti52 fun b8 w4 hx3 hg2 hb3 => ?_
            have k3 := k2.tr hx3
            have k4 := K0_i1.tr hx3
            have r35 := r28.ext hx3
            have r36 := r29.ext hx3
            have r37 := r30.ext hx3
            have r38 := r31.ext hx3
            have r39 := r32.ext hx3
            have r40 := r33.ext hx3
            have hc5 := hc2.ext hx3
            have r41 := r34.ext hx3
            refine sst rfl rfl rfl ti52 hb3 rfl rfl (ble rfl) fun w5 hch1 hb4 => ?_
            have k5 := Ext.chg k3 hch1 (Nat.le_trans k2.size hg2)
            have k6 := Ext.chg k4 hch1 (Nat.le_trans K0_i1.size hg2)
            have k7 := Ext.chg hx3 hch1 (Nat.le_trans (Nat.le_refl _) hg2)
            have r42 := r28.ext k7
            have r43 := r29.ext k7
            have r44 := r30.ext k7
            have r45 := r31.ext k7
            have r46 := r32.ext k7
            have r47 := r33.ext k7
            have hc6 := hc2.ext k7
            have r48 := r34.ext k7
            have hb5 : Bx w5 b8 52 [.bool x7.1, .int .i64 x7.2] := hb4
            refine nl <| wp_seq <| rg <| vl rfl rfl xmv <| vl rfl rfl (xnil l9_i1) <| vl rfl rfl (xfa rfl fa74_2) <| vl rfl rfl (xld rfl ti72 (hc6.at 6 rfl)) <| vl rfl rfl (xmf mn (mc rfl mn)) <| ?_
            have hz := bs hB1; obtain ⟨x8, Ex8, hB1⟩ := hz
            refine cl rfl rfl (xc cb46 (mc rfl (mc rfl mn))) (c46 r46 ⟨47, [], [.pointer (some ⟨b8, 0, none⟩)], rfl, cb47, fun w' u x b hk hu hp => c47 hu (Bx.cs (hb5.ext hk)) ⟨[.bool x7.1], [.int .i64 x7.2], rfl, rfl, rfl⟩ hp⟩ Ex8) ?_
            rintro _ w6 ⟨rfl, hx4⟩
            have k8 := k5.tr hx4
            have k9 := k6.tr hx4
            have k10 := k7.tr hx4
            have r49 := r42.ext hx4
            have r50 := r43.ext hx4
            have r51 := r44.ext hx4
            have r52 := r45.ext hx4
            have r53 := r46.ext hx4
            have r54 := r47.ext hx4
            have hc7 := hc6.ext hx4
            have r55 := r48.ext hx4
            refine vl rfl rfl xas <| nl <| wp_seq <| wp_seq <| ?_
            have hz := bs hB1; obtain ⟨y3, hB3, hB1⟩ := hz
            refine ct (fun L w => L 71 = .bool y3 ∧ L 2 = .int .i64 x2 ∧ L 9 = .pointer (some ⟨b6, 0, none⟩) ∧ L 10 = .int .i64 x5.2.1 ∧ L 12 = .int .i64 y1 ∧ L 15 = .int .i64 x8 ∧ L 45 = .slice (some ⟨b7, f1, none⟩) x3.length cq6 ∧ L 46 = .int .i64 (x3.length : Int) ∧ L 47 = .int .i64 y2 ∧ Ext w6 w) ?_ ?_
            ·
              refine rg <| vl rfl rfl xmv <| vl rfl rfl (xlss rfl rfl) <| vl rfl rfl xmv <| ?_
              refine Or.elim (Bool.eq_false_or_eq_true (decide (x8 < 0))) (fun h9 => ?_) (fun h9 => ?_)
              ·
                have hB3 := ifp hB3 h9
                refine gfk rfl rfl rfl rfl rfl (btf h9) rfl <| gfk rfl rfl rfl rfl rfl (btf h9) rfl <| gfk rfl rfl rfl rfl rfl (btf h9) rfl <| gfk rfl rfl rfl rfl rfl (btf h9) rfl <| gfk rfl rfl rfl rfl rfl (btf h9) rfl <| gfk rfl rfl rfl rfl rfl (btf h9) rfl <| gfk rfl rfl rfl rfl rfl (btf h9) rfl <| gfk rfl rfl rfl rfl rfl (btf h9) rfl <| gfk rfl rfl rfl rfl rfl (btf h9) rfl <| gfk rfl rfl rfl rfl rfl (btf h9) rfl <| gfk rfl rfl rfl rfl rfl (btf h9) rfl <| vl rfl rfl (xpt rfl h9 rfl) <| nl <| ?_
                cases hB3
                refine lf <| ?_
                exact ⟨rfl, l2_i1, l9_i1, l10_i1, l12_i1, rfl, l45_i1, l46_i1, l47_i1, (Ext.refl _)⟩
              ·
                have hB3 := ifn hB3 h9
                refine gtk rfl rfl rfl rfl rfl (bf h9) <| vl rfl rfl xmv <| gtk rfl rfl rfl rfl rfl (bf h9) <| vl rfl rfl (xnil l9_i1) <| gtk rfl rfl rfl rfl rfl (bf h9) <| vl rfl rfl (xfa rfl fa74_2) <| gtk rfl rfl rfl rfl rfl (bf h9) <| vl rfl rfl (xld rfl ti72 (hc7.at 6 rfl)) <| gtk rfl rfl rfl rfl rfl (bf h9) <| vl rfl rfl xmv <| ?_
                have hz := bs hB3; obtain ⟨x9, Ex9, hB3⟩ := hz
                have hz := (RV.els r26).ix Ex9; obtain ⟨b9, f2, cs7, e13, i4, i5, q17, hc8⟩ := hz
                cases e13
                obtain ⟨_, _, rfl, ⟨_, _, rfl, rfl, rfl⟩, ⟨_, _, rfl, rfl, rfl⟩⟩ := q17
                have hc9 := hc8.ext k9
                refine gtk rfl rfl rfl rfl rfl (bf h9) <| vl rfl rfl (xixs rfl rfl Try.underlying72 ti77 i4 i5) <| gtk rfl rfl rfl rfl rfl (bf h9) <| vl rfl rfl (xlda rfl ti77 rfl hc9) <| gtk rfl rfl rfl rfl rfl (bf h9) <| vl rfl rfl xmv <| gtk rfl rfl rfl rfl rfl (bf h9) <| vl rfl rfl xmv <| ?_
                have hz := bs hB3; obtain ⟨x10, Ex10, hB3⟩ := hz
                refine gtk rfl rfl rfl rfl rfl (bf h9) <| cl rfl rfl (xc cb48 (mc rfl (mc l10_i1 (mc l12_i1 mn)))) (c48 (show RV (α := ((Bool × Int) × Int × Int)) _ (.agg [.bool x9.1.1, .int .i64 x9.1.2, .int .i64 x9.2.1, .int .i64 x9.2.2].toArray) ((x9.1.1, x9.1.2), x9.2.1, x9.2.2) from ⟨_, rfl, ⟨[.bool x9.1.1] ++ [.int .i64 x9.1.2], [.int .i64 x9.2.1] ++ [.int .i64 x9.2.2], rfl, ⟨[.bool x9.1.1], [.int .i64 x9.1.2], rfl, rfl, rfl⟩, ⟨[.int .i64 x9.2.1], [.int .i64 x9.2.2], rfl, rfl, rfl⟩⟩⟩) Ex10) ?_
                rintro _ w7 ⟨rfl, hx5⟩
                have k11 := k8.tr hx5
                have k12 := k9.tr hx5
                have k13 := k10.tr hx5
                have r56 := r49.ext hx5
                have r57 := r50.ext hx5
                have r58 := r51.ext hx5
                have r59 := r52.ext hx5
                have r60 := r53.ext hx5
                have r61 := r54.ext hx5
                have hc10 := hc7.ext hx5
                have r62 := r55.ext hx5
                refine gtk rfl rfl rfl rfl rfl (bf h9) <| vl rfl rfl (xnot rfl) <| vl rfl rfl (xpf rfl h9 rfl) <| nl <| ?_
                cases hB3
                refine lf <| ?_
                exact ⟨rfl, l2_i1, l9_i1, l10_i1, l12_i1, rfl, l45_i1, l46_i1, l47_i1, hx5⟩
            rintro L w8 ⟨l71_j1, l2_j1, l9_j1, l10_j1, l12_j1, l15_j1, l45_j1, l46_j1, l47_j1, K0_j1⟩
            have k14 := k8.tr K0_j1
            have k15 := k9.tr K0_j1
            have k16 := k10.tr K0_j1
            have r63 := r49.ext K0_j1
            have r64 := r50.ext K0_j1
            have r65 := r51.ext K0_j1
            have r66 := r52.ext K0_j1
            have r67 := r53.ext K0_j1
            have r68 := r54.ext K0_j1
            have hc11 := hc7.ext K0_j1
            have r69 := r55.ext K0_j1
            refine cnd l71_j1 (fun h10 => ?_) (fun h10 => ?_)
            ·
              have hB1 := ifp hB1 h10
              refine wp_seq <| rg <| vl rfl rfl xas <| nl <| ?_
              cases hB1
              have hF := (show some _ = some _ from hF); cases hF
              exact wp_ret <| rt rfl (.tmp rfl rfl .nil) ⟨rfl, k14⟩
            ·
              have hB1 := ifn hB1 h10
              refine wp_skip <| rg <| vl rfl rfl xmv <| vl rfl rfl xmv <| vl rfl rfl (xnil l9_j1) <| vl rfl rfl (xfa rfl fa74_2) <| vl rfl rfl (xld rfl ti72 (hc11.at 6 rfl)) <| vl rfl rfl xmv <| ?_
              have hz := bs hB1; obtain ⟨x11, Ex11, hB1⟩ := hz
              have hz := (RV.els r26).ix Ex11; obtain ⟨b10, f3, cs8, e14, i6, i7, q18, hc12⟩ := hz
              cases e14
              obtain ⟨_, _, rfl, ⟨_, _, rfl, rfl, rfl⟩, ⟨_, _, rfl, rfl, rfl⟩⟩ := q18
              have hc13 := hc12.ext k15
              refine vl rfl rfl (xixs rfl l15_j1 Try.underlying72 ti77 i6 i7) <| vl rfl rfl (xfa rfl fa77_2) <| vl rfl rfl (xld rfl ti3 (hc13.at 3 rfl)) <| vl rfl rfl (xor_ l12_j1 rfl) <| vl rfl rfl xas <| nl <| rg <| vl rfl rfl (xadd l47_j1 rfl) <| vl rfl rfl xmv <| nl <| ?_
              refine lq m (Nat.lt_succ_self _) <| ?_
              exact ⟨_, _, hB1, rfl, rfl, l2_j1, l9_j1, l10_j1, l45_j1, l46_j1, k15⟩
          ·
            have hB1 := ifn hB1 h8
            refine wp_exit <| ?_
            cases hB1
            refine lf <| ?_
            exact ⟨_, rfl, l12_i1, l2_i1, l9_i1, K0_i1⟩
        rintro L w9 ⟨z1, rfl, l12_j2, l2_j2, l9_j2, K0_j2⟩
        have k17 := k1.tr K0_j2
        have r70 := r22.ext K0_j2
        have r71 := r23.ext K0_j2
        have r72 := r24.ext K0_j2
        have r73 := r25.ext K0_j2
        have r74 := r26.ext K0_j2
        have r75 := r27.ext K0_j2
        have hc14 := hc1.ext K0_j2
        refine wp_seq <| wp_seq <| rg <| vl rfl rfl xmv <| vl rfl rfl (xnil l9_j2) <| vl rfl rfl (xfa rfl fa74_3) <| vl rfl rfl (xld rfl ti22 (hc14.at 7 rfl)) <| vl rfl rfl xmv <| ?_
        have hz := bs hF; obtain ⟨x12, Ex12, hF⟩ := hz
        have hz := (RV.els r27).ix Ex12; obtain ⟨b11, f4, cs9, e15, i8, i9, q19, hc15⟩ := hz
        cases e15
        obtain rfl := q19
        have hc16 := hc15.ext K0_j2
        refine vl rfl rfl (xixs rfl l2_j2 Try.underlying22 ti3 i8 i9) <| vl rfl rfl (xld rfl ti3 (hc16.at 0 rfl)) <| vl rfl rfl xmv <| vl rfl rfl (xandn rfl l12_j2) <| vl rfl rfl (xneq rfl rfl) <| nl <| cnd rfl (fun h11 => ?_) (fun h11 => ?_)
        ·
          have hF := ifp hF h11
          refine wp_seq <| rg <| vl rfl rfl xas <| nl <| ?_
          cases hF
          exact wp_ret <| rt rfl (.tmp rfl rfl .nil) ⟨rfl, k17⟩
        ·
          have hF := ifn hF h11
          refine wp_skip <| wp_seq <| rg <| vl rfl rfl xas <| nl <| ?_
          cases hF
          exact wp_ret <| rt rfl (.tmp rfl rfl .nil) ⟨rfl, k17⟩

set_option maxHeartbeats 4000000 in
theorem c63 {w0 : World} {v0 : Value} {x0 : (List Int)} (r0 : RV w0 v0 x0) {x1 : Int} {F : Nat} {r : Int} (hF : right_refused F x0 x1 = some r) :
    Calls Try.prog 63 [v0, .int .i64 x1].toArray w0 (Ret fun v w' => v = .int .i64 r ∧ Ext w0 w') := by
  unfold right_refused at hF
  have hz := r0.sl; obtain ⟨a1, cq1, rfl, -, -, -⟩ := hz
  have M1 : Mks w0.heap.size [] w0 := Mks.nil
  refine entrM (m := 12) (n := 24) Try.func63 rfl rfl rfl <| wp_seq <| rg <| sbx rfl rfl fun b3 w1 hx1 hg1 hb1 => ?_
  have M2 := M1.ext hx1
  have r3 := r0.ext hx1
  refine sal ti3 fun b4 w2 hx2 hg2 hb2 => ?_
  have k1 := hx1.tr hx2
  have M3 := M2.ext hx2
  have hb3 := hb1.ext hx2
  have r4 := r3.ext hx2
  refine nl <| wp_seq <| wp_seq <| rg <| vl rfl rfl xmv <| vl rfl rfl xmv <| nl <| ?_
  have hz := bs hF; obtain ⟨o1, hB1, hF⟩ := hz
  refine ctM w0.heap.size (fun L w => o1 = .inr () ∧ L 1 = .int .i64 x1 ∧ L 4 = .pointer (some ⟨b4, 0, none⟩) ∧ Ext w2 w) ?_ ?_
  ·
    refine wp_block <| lpM w0.heap.size (I := fun m L w => ∃ y1 : Int, right_refused_l1 F x0 x1 m y1  = some o1 ∧ L 8 = .int .i64 y1 ∧ L 1 = .int .i64 x1 ∧ L 2 = .pointer (some ⟨b3, 0, none⟩) ∧ L 4 = .pointer (some ⟨b4, 0, none⟩) ∧ L 7 = .int .i64 x1 ∧ Ext w2 w) F M3 ⟨_, hB1, rfl, rfl, rfl, rfl, rfl, (Ext.refl _)⟩ ?_
    rintro m L D1 w3 M4 ⟨y1, hB1, l8_i1, l1_i1, l2_i1, l4_i1, l7_i1, K0_i1⟩
    rcases m with _ | m
    · rw [right_refused_l1] at hB1; cases hB1
    rw [right_refused_l1] at hB1
    have k2 := k1.tr K0_i1
    have k3 := hx2.tr K0_i1
    have r5 := r4.ext K0_i1
    have hb4 := hb3.ext K0_i1
    have hb5 := hb2.ext K0_i1
    refine wp_seq <| rg <| vl rfl rfl (xlss l8_i1 l7_i1) <| nl <| wp_seq <| cnd rfl (fun h3 => ?_) (fun h3 => ?_)
    ·
      have hB1 := ifp hB1 h3
      refine wp_skip <| wp_seq <| wp_block <| wp_seq <| rg <| vl rfl rfl xmv <| vl rfl rfl xas <| nl <| wp_seq <| rg <| vl rfl rfl xmv <| vl rfl rfl xmv <| ?_
      have hz := bs hB1; obtain ⟨x3, Ex3, hB1⟩ := hz
      refine cl rfl rfl (xc cb54 (mc l1_i1 (mc l8_i1 mn))) (c54 (a := w0.heap.size) Ex3) ?_
      rintro v3 w4 ⟨sq1, hx3⟩
      have k4 := k2.tr hx3
      have k5 := k3.tr hx3
      have k6 := K0_i1.tr hx3
      have M5 := M4.ext hx3
      have hb6 := hb4.ext hx3
      have r6 := r5.ext hx3
      have hb7 := hb5.ext hx3
      refine nl <| wp_block <| ?_
      have hz := bs hB1; obtain ⟨o2, hB3, hB1⟩ := hz
      refine ctM w0.heap.size (fun L w => o2 = .inr () ∧ Ext w4 w ∧ L 1 = .int .i64 x1 ∧ L 2 = .pointer (some ⟨b3, 0, none⟩) ∧ L 4 = .pointer (some ⟨b4, 0, none⟩) ∧ L 7 = .int .i64 x1 ∧ L 8 = .int .i64 y1) ?_ ?_
      ·
        refine rangeB (α := Int) (xs := x3) (m := 12) (by decide) rfl KpOk.keepc (SeqS.go (by decide) sq1) rfl rfl rfl ti3 rfl (fun k w => right_refused_l2 F x0 (List.drop k x3)  = some o2 ∧ Ext w4 w ∧ Mks w0.heap.size D1 w ∧ w4.heap.size ≤ w.heap.size) (fun c w => ∃ z1 : Int, c = .ret ∧ o2 = .inl z1 ∧ Bx w b4 3 [.int .i64 z1] ∧ Mks w0.heap.size D1 w ∧ Ext w0 w) (fun k => (Okb.and Okb.pure (Okb.and (Okb.extw (Nat.le_refl _)) (Okb.and (Okb.mks M5 rfl) Okb.size)))) (fun c => Okb.ex fun _ => (Okb.and Okb.pure (Okb.and Okb.pure (Okb.and Okb.bx (Okb.and (Okb.mks M5 rfl) (Okb.extw k4.size)))))) ⟨hB3, (Ext.refl _), M5, (Nat.le_refl _)⟩ ?round (fun k A h => by obtain ⟨_, _, _, _⟩ := h; assumption) ?done ?stop
        case round =>
          rintro _ k x4 w5 w6 b5 hx4 ⟨hB3, K0_i2a, M6a, sz1a⟩ ha1 hA1 hg3 hb8
          rw [drop_at hx4] at hB3
          rw [right_refused_l2] at hB3
          have K0_i2 := Below.asg K0_i2a ha1 (Nat.le_refl _)
          have M6 := M6a.asg ha1
          have sz1 := Nat.le_trans sz1a ha1.size
          have k7 := k4.tr K0_i2
          have k8 := k5.tr K0_i2
          have k9 := k6.tr K0_i2
          have k10 := hx3.tr K0_i2
          have r7 := r6.ext K0_i2
          have hb9 := hb6.ext K0_i2
          have hb10 := hb7.ext K0_i2
          have kf1 : KeepsFrom w4.heap.size w6 w6 := KeepsFrom.refl _ _
          have bi1 : KeepC w0.heap.size w3.heap.size w6 w6 := KeepC.refl
          refine wpIn_block <| wpIn_seq <| rgR rfl <| vl rfl rfl (xld l2_i1 ti22 ((Bx.cs hb9).at 0 rfl)) <| vl rfl rfl (xmf mn (mc rfl mn)) <| ?_
          have hz := bs hB3; obtain ⟨x5, Ex5, hB3⟩ := hz
          refine cl rfl rfl (xc cb76 (mc rfl (mc rfl mn))) (c76 r7 ⟨77, [], [.pointer (some ⟨b5, 0, none⟩)], rfl, cb77, fun w' u x b hk hu hp => by cases RVo.int.1 hu; exact c77 (Bx.cs (hb8.ext hk)) rfl hp⟩ Ex5) ?_
          rintro _ w7 ⟨rfl, hx5⟩
          have k11 := k7.tr hx5
          have k12 := k8.tr hx5
          have k13 := k9.tr hx5
          have k14 := k10.tr hx5
          have k15 := K0_i2.tr hx5
          have M7 := M6.ext hx5
          have kf2 := kf1.ext hx5
          have bi2 := bi1.ext hx5
          have hb11 := hb9.ext hx5
          have r8 := r7.ext hx5
          have hb12 := hb10.ext hx5
          have hb13 := hb8.ext hx5
          refine vl rfl rfl (xnot rfl) <| nl <| cndR rfl (fun h4 => ?_) (fun h4 => ?_)
          ·
            have hB3 := ifp hB3 h4
            refine wpIn_seq <| rgR rfl <| vl rfl rfl (xld rfl ti3 ((Bx.cs hb13).at 0 rfl)) <| sst l4_i1 rfl rfl ti3 hb12 rfl rfl (ble rfl) fun w8 hch1 hb14 => ?_
            have k16 := Ext.chg k11 hch1 (Nat.le_trans hx1.size hg2)
            have k17 := Ext.chg k12 hch1 (Nat.le_trans (Nat.le_refl _) hg2)
            have M8 := M7.chg hch1 hb12.nd
            have kf3 := kf2.chgc hch1 (.inr hb12.isc)
            have hb15 : Bx w8 b4 3 [.int .i64 x4] := hb14
            refine nl <| ?_
            cases hB3
            exact wpIn_ret ⟨kf3, ⟨_, rfl, rfl, hb15, M8, k16⟩⟩
          ·
            have hB3 := ifn hB3 h4
            refine wpIn_skip <| ?_
            exact ⟨kf2, bi2, ⟨hB3, k15, M7, (Nat.le_trans sz1 kf2.size)⟩⟩
        case done =>
          rintro D2 w9 hD1 ⟨hB3, K0_j1, M6, _⟩ hk1
          rw [List.drop_length, right_refused_l2] at hB3
          cases hB3
          exact lfM (Mks.cons M5 M6 (Below.size k4) hD1 hk1) ⟨rfl, K0_j1, l1_i1, l2_i1, l4_i1, l7_i1, l8_i1⟩
        case stop =>
          rintro D3 c w10 hD2 ⟨z1, rfl, rfl, Br1, M9, k18⟩ hk2
          refine wp_ret <| rtMs rfl (Mks.cons M5 M9 (Below.size k4) hD2 hk2) fun w11 hT1 => ?_
          have k19 : Ext w0 w11 := Below.tak k18 hT1 (Nat.le_refl _)
          have Br2 := Br1.tak hT1
          have hB1 := (show some _ = some _ from hB1); cases hB1
          have hF := (show some _ = some _ from hF); cases hF
          exact ⟨_, (.cell1 l4_i1 rfl ti3 ((Bx.cs Br2).at 0 rfl) .nil), ⟨rfl, k19⟩⟩
      rintro L D4 w12 M10 ⟨rfl, K0_j2, l1_j2, l2_j2, l4_j2, l7_j2, l8_j2⟩
      have k20 := k4.tr K0_j2
      have k21 := k5.tr K0_j2
      have k22 := k6.tr K0_j2
      have k23 := hx3.tr K0_j2
      have r9 := r6.ext K0_j2
      have hb16 := hb6.ext K0_j2
      have hb17 := hb7.ext K0_j2
      refine rg <| vl rfl rfl (xadd l8_j2 rfl) <| vl rfl rfl xmv <| nl <| ?_
      refine lqM m (Nat.lt_succ_self _) M10 <| ?_
      exact ⟨_, hB1, rfl, l1_j2, l2_j2, l4_j2, l7_j2, k22⟩
    ·
      have hB1 := ifn hB1 h3
      refine wp_exit <| ?_
      cases hB1
      refine lfM M4 <| ?_
      exact ⟨rfl, l1_i1, l4_i1, K0_i1⟩
  rintro L D5 w13 M11 ⟨rfl, l1_j3, l4_j3, K0_j3⟩
  have k24 := k1.tr K0_j3
  have k25 := hx2.tr K0_j3
  have hb18 := hb2.ext K0_j3
  refine wp_seq <| rg <| vl rfl rfl xmv <| ?_
  have hz := bs hF; obtain ⟨x6, Ex6, hF⟩ := hz
  refine vl rfl rfl (xshl rfl l1_j3 Ex6) <| vl rfl rfl (xsub rfl rfl) <| sst l4_j3 rfl rfl ti3 hb18 rfl rfl (ble rfl) fun w14 hch2 hb19 => ?_
  have k26 := Ext.chg k24 hch2 (Nat.le_trans hx1.size hg2)
  have k27 := Ext.chg k25 hch2 (Nat.le_trans (Nat.le_refl _) hg2)
  have M12 := M11.chg hch2 hb18.nd
  have hb20 : Bx w14 b4 3 [.int .i64 (w64 (x6 - 1))] := hb19
  refine nl <| wp_ret <| rtMs rfl M12 fun w15 hT2 => ?_
  have k28 : Ext w0 w15 := Below.tak k26 hT2 (Nat.le_refl _)
  have hb21 := hb20.tak hT2
  cases hF
  exact ⟨_, (.cell1 l4_j3 rfl ti3 ((Bx.cs hb21).at 0 rfl) .nil), ⟨rfl, k28⟩⟩

set_option maxHeartbeats 4000000 in
theorem c26 {w0 : World} {v0 : Value} {x0 : (Int × (List Int) × (List ((List Int) × Int)) × (List ((List Int) × Int)) × (List (List Int)))} (r0 : RV w0 v0 x0) {v1 : Value} {x1 : (List (List Int))} (r1 : RV w0 v1 x1) {F : Nat} {r : (Int × Int)} (hF : right_CheckConflicts F x0 x1 = some r) :
    Calls Try.prog 26 [v0, v1].toArray w0 (Ret fun v w' => v = .tuple #[.int .i64 r.1, .int .i64 r.2] ∧ Ext w0 w') := by
  unfold right_CheckConflicts at hF
  have hz := id r0; obtain ⟨_, rfl, ⟨_, _, rfl, rfl, ⟨_, _, rfl, ⟨a1, cq1, rfl, p1, q3, e1⟩, ⟨_, _, rfl, ⟨a2, cq2, rfl, p2, q4, e2⟩, ⟨_, _, rfl, ⟨a3, cq3, rfl, p3, q5, e3⟩, ⟨a4, cq4, rfl, p4, q6, e4⟩⟩⟩⟩⟩⟩ := hz
  have r3 := RV.of1 p1 q3 e1
  have r4 := RV.of1 p2 q4 e2
  have r5 := RV.of1 p3 q5 e3
  have r6 := RV.of1 p4 q6 e4
  have hz := r1.sl; obtain ⟨a5, cq5, rfl, -, -, -⟩ := hz
  refine entr (n := 51) Try.func26 rfl rfl rfl <| wp_seq <| rg <| sbx rfl rfl fun b3 w1 hx1 hg1 hb1 => ?_
  have r7 := r1.ext hx1
  have r8 := r3.ext hx1
  have r9 := r4.ext hx1
  have r10 := r5.ext hx1
  have r11 := r6.ext hx1
  have r12 := r0.ext hx1
  refine vl rfl rfl xas <| vl rfl rfl xas <| nl <| wp_seq <| rg <| vl rfl rfl (xlda rfl ti26 rfl (Bx.cs hb1)) <| ?_
  have hz := bs hF; obtain ⟨x3, Ex3, hF⟩ := hz
  refine cl rfl rfl (xc cb52 (mc rfl mn)) (c52 (show RV (α := (Int × (List Int) × (List ((List Int) × Int)) × (List ((List Int) × Int)) × (List (List Int)))) _ (.agg [.int .i64 x0.1, .slice a1 x0.2.1.length cq1, .slice a2 x0.2.2.1.length cq2, .slice a3 x0.2.2.2.1.length cq3, .slice a4 x0.2.2.2.2.length cq4].toArray) (x0.1, x0.2.1, x0.2.2.1, x0.2.2.2.1, x0.2.2.2.2) from ⟨_, rfl, ⟨[.int .i64 x0.1], [.slice a1 x0.2.1.length cq1] ++ ([.slice a2 x0.2.2.1.length cq2] ++ ([.slice a3 x0.2.2.2.1.length cq3] ++ [.slice a4 x0.2.2.2.2.length cq4])), rfl, rfl, ⟨[.slice a1 x0.2.1.length cq1], [.slice a2 x0.2.2.1.length cq2] ++ ([.slice a3 x0.2.2.2.1.length cq3] ++ [.slice a4 x0.2.2.2.2.length cq4]), rfl, r8.rep1, ⟨[.slice a2 x0.2.2.1.length cq2], [.slice a3 x0.2.2.2.1.length cq3] ++ [.slice a4 x0.2.2.2.2.length cq4], rfl, r9.rep1, ⟨[.slice a3 x0.2.2.2.1.length cq3], [.slice a4 x0.2.2.2.2.length cq4], rfl, r10.rep1, r11.rep1⟩⟩⟩⟩⟩) Ex3) ?_
  rintro _ w2 ⟨u1, rfl, r13, hx2⟩
  have k1 := hx1.tr hx2
  have hb2 := hb1.ext hx2
  have r14 := r8.ext hx2
  have r15 := r9.ext hx2
  have r16 := r10.ext hx2
  have r17 := r11.ext hx2
  have r18 := r7.ext hx2
  have hz := obPtr r13; obtain ⟨a6, rfl⟩ := hz
  refine vl rfl rfl xmv <| vl rfl rfl (xext rfl rfl) <| vl rfl rfl (xext rfl rfl) <| sal ti67 fun b4 w3 hx3 hg2 hb3 => ?_
  have k2 := k1.tr hx3
  have hb4 := hb2.ext hx3
  have r19 := r14.ext hx3
  have r20 := r15.ext hx3
  have r21 := r16.ext hx3
  have r22 := r17.ext hx3
  have r23 := r18.ext hx3
  have r24 := r13.ext hx3
  refine sst rfl rfl rfl ti67 hb3 rfl rfl (ble rfl) fun w4 hch1 hb5 => ?_
  have k3 := Ext.chg k2 hch1 (Nat.le_trans k1.size hg2)
  have k4 := Ext.chg hx3 hch1 (Nat.le_trans (Nat.le_refl _) hg2)
  have hb6 := hb2.ext k4
  have r25 := r14.ext k4
  have r26 := r15.ext k4
  have r27 := r16.ext k4
  have r28 := r17.ext k4
  have r29 := r18.ext k4
  have r30 := r13.ext k4
  have hb7 : Bx w4 b4 67 [.pointer a6] := hb5
  refine vl rfl rfl xas <| nl <| wp_seq <| wp_block <| wp_seq <| rg <| vl rfl rfl xmv <| vl rfl rfl (xneq rfl rfl) <| vl rfl rfl xas <| nl <| cnd rfl (fun h3 => ?_) (fun h3 => ?_)
  ·
    have hF := ifp hF h3
    refine wp_seq <| rg <| vl rfl rfl xmv <| vl rfl rfl xas <| vl rfl rfl xas <| nl <| ?_
    cases hF
    exact wp_ret <| rt rfl (.tmp rfl rfl (.tmp rfl rfl .nil)) ⟨rfl, k3⟩
  ·
    have hF := ifn hF h3
    refine wp_seq <| rg <| vl rfl rfl xmv <| vl rfl rfl (xlen rfl Try.underlying24) <| vl rfl rfl (xgtr rfl rfl) <| vl rfl rfl xas <| nl <| cnd rfl (fun h4 => ?_) (fun h4 => ?_)
    ·
      have hF := ifp hF h4
      refine wp_seq <| rg <| vl rfl rfl xas <| vl rfl rfl xas <| nl <| ?_
      cases hF
      exact wp_ret <| rt rfl (.tmp rfl rfl (.tmp rfl rfl .nil)) ⟨rfl, k3⟩
    ·
      have hF := ifn hF h4
      refine wp_seq <| rg <| vl rfl rfl xmv <| vl rfl rfl (xmf mn (mc rfl mn)) <| ?_
      have hz := bs hF; obtain ⟨x4, Ex4, hF⟩ := hz
      refine cl rfl rfl (xc cb58 (mc rfl (mc rfl mn))) (c58 r29 ⟨59, [], [.pointer (some ⟨b3, 0, none⟩)], rfl, cb59, fun w' u x b hk hu hp => c59 hu (Bx.cs (hb6.ext hk)) ⟨[.int .i64 x0.1], [.slice a1 x0.2.1.length cq1] ++ ([.slice a2 x0.2.2.1.length cq2] ++ ([.slice a3 x0.2.2.2.1.length cq3] ++ [.slice a4 x0.2.2.2.2.length cq4])), rfl, rfl, ⟨[.slice a1 x0.2.1.length cq1], [.slice a2 x0.2.2.1.length cq2] ++ ([.slice a3 x0.2.2.2.1.length cq3] ++ [.slice a4 x0.2.2.2.2.length cq4]), rfl, (r25.ext hk).rep1, ⟨[.slice a2 x0.2.2.1.length cq2], [.slice a3 x0.2.2.2.1.length cq3] ++ [.slice a4 x0.2.2.2.2.length cq4], rfl, (r26.ext hk).rep1, ⟨[.slice a3 x0.2.2.2.1.length cq3], [.slice a4 x0.2.2.2.2.length cq4], rfl, (r27.ext hk).rep1, (r28.ext hk).rep1⟩⟩⟩⟩ hp⟩ Ex4) ?_
      rintro _ w5 ⟨rfl, hx4⟩
      have k5 := k3.tr hx4
      have k6 := k4.tr hx4
      have hb8 := hb6.ext hx4
      have r31 := r25.ext hx4
      have r32 := r26.ext hx4
      have r33 := r27.ext hx4
      have r34 := r28.ext hx4
      have hb9 := hb7.ext hx4
      have r35 := r30.ext hx4
      have r36 := r29.ext hx4
      refine vl rfl rfl xas <| nl <| cnd rfl (fun h5 => ?_) (fun h5 => ?_)
      ·
        have hF := ifp hF h5
        refine wp_seq <| rg <| vl rfl rfl xas <| vl rfl rfl xas <| nl <| ?_
        cases hF
        exact wp_ret <| rt rfl (.tmp rfl rfl (.tmp rfl rfl .nil)) ⟨rfl, k5⟩
      ·
        have hF := ifn hF h5
        refine wp_seq <| rg <| vl rfl rfl xmv <| vl rfl rfl (xmf mn (mc rfl mn)) <| ?_
        have hz := bs hF; obtain ⟨x5, Ex5, hF⟩ := hz
        refine cl rfl rfl (xc cb58 (mc rfl (mc rfl mn))) (c58 r36 ⟨61, [], [.pointer (some ⟨b4, 0, none⟩)], rfl, cb61, fun w' u x b hk hu hp => c61 hu (Bx.cs (hb9.ext hk)) (obRep1 (r35.ext hk)) hp⟩ Ex5) ?_
        rintro _ w6 ⟨rfl, hx5⟩
        have k7 := k5.tr hx5
        have k8 := k6.tr hx5
        have hb10 := hb8.ext hx5
        have r37 := r31.ext hx5
        have r38 := r32.ext hx5
        have r39 := r33.ext hx5
        have r40 := r34.ext hx5
        have r41 := r36.ext hx5
        refine vl rfl rfl xas <| nl <| cnd rfl (fun h6 => ?_) (fun h6 => ?_)
        ·
          have hF := ifp hF h6
          refine wp_seq <| rg <| vl rfl rfl xas <| vl rfl rfl xas <| nl <| ?_
          cases hF
          exact wp_ret <| rt rfl (.tmp rfl rfl (.tmp rfl rfl .nil)) ⟨rfl, k7⟩
        ·
          have hF := ifn hF h6
          refine wp_skip <| wp_seq <| rg <| vl rfl rfl xas <| nl <| wp_seq <| wp_seq <| rg <| vl rfl rfl xmv <| vl rfl rfl (xlen rfl Try.underlying24) <| vl rfl rfl xmv <| nl <| ?_
          have o1 : Row (α := Int) 3 w6.heap.size w6 (.slice none 0 0) [] := Row.nil
          have hz := bs hF; obtain ⟨z1, hB1, hF⟩ := hz
          refine ct (fun L w => ∃ v4 : Value, L 8 = v4 ∧ Row 3 w6.heap.size w v4 z1 ∧ L 2 = .pointer (some ⟨b3, 0, none⟩) ∧ Ext w6 w) ?_ ?_
          ·
            refine wp_block <| lp (I := fun m L w => ∃ y1 : (List Int), ∃ y2 : Int, ∃ v3 : Value, right_CheckConflicts_l1 F x1 m y1 y2  = some z1 ∧ L 8 = v3 ∧ Row 3 w6.heap.size w v3 y1 ∧ L 34 = .int .i64 y2 ∧ L 2 = .pointer (some ⟨b3, 0, none⟩) ∧ L 32 = .slice a5 x1.length cq5 ∧ L 33 = .int .i64 (x1.length : Int) ∧ Ext w6 w) F ⟨_, _, _, hB1, rfl, o1, rfl, rfl, rfl, rfl, (Ext.refl _)⟩ ?_
            rintro m L w7 ⟨y1, y2, v3, hB1, l8_i1, O8_i1, l34_i1, l2_i1, l32_i1, l33_i1, K0_i1⟩
            rcases m with _ | m
            · rw [right_CheckConflicts_l1] at hB1; cases hB1
            rw [right_CheckConflicts_l1] at hB1
            have k9 := k7.tr K0_i1
            have k10 := k8.tr K0_i1
            have r42 := r37.ext K0_i1
            have r43 := r38.ext K0_i1
            have r44 := r39.ext K0_i1
            have r45 := r40.ext K0_i1
            have hb11 := hb10.ext K0_i1
            have r46 := r41.ext K0_i1
            have hz := RV.sl O8_i1.rv; obtain ⟨a7, cq6, rfl, -, -, -⟩ := hz
            refine wp_seq <| rg <| vl rfl rfl (xlss l34_i1 l33_i1) <| nl <| wp_seq <| cnd rfl (fun h7 => ?_) (fun h7 => ?_)
            ·
              have hB1 := ifp hB1 h7
              refine wp_skip <| wp_seq <| wp_block <| wp_seq <| rg <| ?_
              have hz := bs hB1; obtain ⟨x6, Ex6, hB1⟩ := hz
              have hz := (RV.els r1).ix Ex6; obtain ⟨b5, f1, cs3, e5, i2, i3, q7, hc1⟩ := hz
              cases e5
              obtain ⟨a8, cq7, rfl, p5, q8, e6⟩ := q7
              have r47 := RV.of1 p5 q8 e6
              have hc2 := hc1.ext k9
              have r48 := r47.ext k9
              refine vl rfl rfl (xixs l32_i1 l34_i1 Try.underlying24 ti22 i2 i3) <| vl rfl rfl (xld rfl ti22 (hc2.at 0 rfl)) <| vl rfl rfl xas <| nl <| rg <| vl rfl rfl xmv <| vl rfl rfl xmv <| ?_
              have hz := bs hB1; obtain ⟨x7, Ex7, hB1⟩ := hz
              refine cl rfl rfl (xc cb62 (mc rfl mn)) (c62 r48 Ex7) ?_
              rintro _ w8 ⟨rfl, hx6⟩
              have k11 := k9.tr hx6
              have k12 := k10.tr hx6
              have k13 := K0_i1.tr hx6
              have hb12 := hb11.ext hx6
              have r49 := r42.ext hx6
              have r50 := r43.ext hx6
              have r51 := r44.ext hx6
              have r52 := r45.ext hx6
              have r53 := r46.ext hx6
              have O1 := O8_i1.ext hx6
              refine sbsv (cs := [.int .i64 x7]) Try.underlying22 ti3 rfl (pc rfl pn) rfl rfl rfl rfl rfl fun b6 w9 hx7 hg3 hb13 => ?_
              have k14 := k11.tr hx7
              have k15 := k12.tr hx7
              have k16 := k13.tr hx7
              have hb14 := hb12.ext hx7
              have r54 := r49.ext hx7
              have r55 := r50.ext hx7
              have r56 := r51.ext hx7
              have r57 := r52.ext hx7
              have r58 := r53.ext hx7
              have O2 := O1.ext hx7
              have o3 : Row (α := Int) 3 w8.heap.size w9 (.slice (some ⟨b6, 0, none⟩) 1 1) [x7] := Row.lit hg3 hb13 rfl (ble rfl)
              have hz := bs hB1; obtain ⟨x8, Ex8, hB1⟩ := hz
              refine sapx (l := y1) (k := ([x7] : List Int)) l8_i1 rfl Try.underlying22 ti3 rfl rfl O2 (RV.els o3.rv) Ex8 k16.size fun v5 w10 o4 hB3 hgr1 how1 => ?_
              have k17 := Ext.grow k14 k7.size hB3
              have k18 := Ext.grow k15 k8.size hB3
              have k19 : Ext w6 w10 := k16.trans hB3
              have hb15 := hb10.ext k19
              have r60 := r37.ext k19
              have r61 := r38.ext k19
              have r62 := r39.ext k19
              have r63 := r40.ext k19
              have r64 := r41.ext k19
              have hz := RV.sl o4.rv; obtain ⟨a9, cq8, rfl, -, -, -⟩ := hz
              refine vl rfl rfl xas <| nl <| rg <| vl rfl rfl (xadd l34_i1 rfl) <| vl rfl rfl xmv <| nl <| ?_
              refine lq m (Nat.lt_succ_self _) <| ?_
              exact ⟨_, _, _, hB1, rfl, o4, rfl, l2_i1, l32_i1, l33_i1, k19⟩
            ·
              have hB1 := ifn hB1 h7
              refine wp_exit <| ?_
              cases hB1
              refine lf <| ?_
              exact ⟨_, l8_i1, O8_i1, l2_i1, K0_i1⟩
          rintro L w11 ⟨v4, l8_j1, O8_j1, l2_j1, K0_j1⟩
          have k20 := k7.tr K0_j1
          have k21 := k8.tr K0_j1
          have r65 := r37.ext K0_j1
          have r66 := r38.ext K0_j1
          have r67 := r39.ext K0_j1
          have r68 := r40.ext K0_j1
          have hb16 := hb10.ext K0_j1
          have hz := RV.sl O8_j1.rv; obtain ⟨a10, cq9, rfl, -, -, -⟩ := hz
          refine wp_seq <| rg <| vl rfl rfl xmv <| vl rfl rfl (xfa l2_j1 fa26_3) <| vl rfl rfl (xld rfl ti23 ((Bx.cs hb16).at 3 rfl)) <| vl rfl rfl (xlen rfl Try.underlying23) <| ?_
          have hz := bs hF; obtain ⟨x9, Ex9, hF⟩ := hz
          refine cl rfl rfl (xc cb63 (mc l8_j1 (mc rfl mn))) (c63 O8_j1.rv Ex9) ?_
          rintro _ w12 ⟨rfl, hx8⟩
          have k22 := k20.tr hx8
          have k23 := k21.tr hx8
          have k24 := K0_j1.tr hx8
          have hz := bs hF; obtain ⟨x10, Ex10, hF⟩ := hz
          refine cl rfl rfl (xc cb55 (mc rfl mn)) (c55 Ex10) ?_
          rintro _ w13 ⟨u2, rfl, r69, hx9⟩
          have k25 := k22.tr hx9
          have k26 := k23.tr hx9
          have k27 := k24.tr hx9
          have hz := RV.sl r69.rv; obtain ⟨a11, cq10, rfl, -, -, -⟩ := hz
          refine vl rfl rfl (xlen rfl Try.underlying22) <| vl rfl rfl xas <| vl rfl rfl xas <| nl <| ?_
          cases hF
          exact wp_ret <| rt rfl (.tmp rfl rfl (.tmp rfl rfl .nil)) ⟨rfl, k25⟩

set_option maxHeartbeats 4000000 in
theorem c32 {w0 : World} {v0 : Value} {x0 : (Int × (List Int) × (List ((List Int) × Int)) × (List ((List Int) × Int)) × (List (List Int)))} (r0 : RV w0 v0 x0) {v1 : Value} {x1 : (List Int)} (r1 : RV w0 v1 x1) {F : Nat} {r : Int} (hF : right_Check F x0 x1 = some r) :
    Calls Try.prog 32 [v0, v1].toArray w0 (Ret fun v w' => v = .int .i64 r ∧ Ext w0 w') := by
  unfold right_Check at hF
  have hz := id r0; obtain ⟨_, rfl, ⟨_, _, rfl, rfl, ⟨_, _, rfl, ⟨a1, cq1, rfl, p1, q3, e1⟩, ⟨_, _, rfl, ⟨a2, cq2, rfl, p2, q4, e2⟩, ⟨_, _, rfl, ⟨a3, cq3, rfl, p3, q5, e3⟩, ⟨a4, cq4, rfl, p4, q6, e4⟩⟩⟩⟩⟩⟩ := hz
  have r3 := RV.of1 p1 q3 e1
  have r4 := RV.of1 p2 q4 e2
  have r5 := RV.of1 p3 q5 e3
  have r6 := RV.of1 p4 q6 e4
  have hz := r1.sl; obtain ⟨a5, cq5, rfl, -, -, -⟩ := hz
  refine entr (n := 24) Try.func32 rfl rfl rfl <| wp_seq <| rg <| sbx rfl rfl fun b3 w1 hx1 hg1 hb1 => ?_
  have r7 := r1.ext hx1
  have r8 := r3.ext hx1
  have r9 := r4.ext hx1
  have r10 := r5.ext hx1
  have r11 := r6.ext hx1
  have r12 := r0.ext hx1
  refine vl rfl rfl xas <| nl <| wp_seq <| rg <| vl rfl rfl (xlda rfl ti26 rfl (Bx.cs hb1)) <| vl rfl rfl xmv <| ?_
  have hz := bs hF; obtain ⟨x3, Ex3, hF⟩ := hz
  refine cl rfl rfl (xc cb43 (mc rfl (mc rfl mn))) (c43 (show RV (α := (Int × (List Int) × (List ((List Int) × Int)) × (List ((List Int) × Int)) × (List (List Int)))) _ (.agg [.int .i64 x0.1, .slice a1 x0.2.1.length cq1, .slice a2 x0.2.2.1.length cq2, .slice a3 x0.2.2.2.1.length cq3, .slice a4 x0.2.2.2.2.length cq4].toArray) (x0.1, x0.2.1, x0.2.2.1, x0.2.2.2.1, x0.2.2.2.2) from ⟨_, rfl, ⟨[.int .i64 x0.1], [.slice a1 x0.2.1.length cq1] ++ ([.slice a2 x0.2.2.1.length cq2] ++ ([.slice a3 x0.2.2.2.1.length cq3] ++ [.slice a4 x0.2.2.2.2.length cq4])), rfl, rfl, ⟨[.slice a1 x0.2.1.length cq1], [.slice a2 x0.2.2.1.length cq2] ++ ([.slice a3 x0.2.2.2.1.length cq3] ++ [.slice a4 x0.2.2.2.2.length cq4]), rfl, r8.rep1, ⟨[.slice a2 x0.2.2.1.length cq2], [.slice a3 x0.2.2.2.1.length cq3] ++ [.slice a4 x0.2.2.2.2.length cq4], rfl, r9.rep1, ⟨[.slice a3 x0.2.2.2.1.length cq3], [.slice a4 x0.2.2.2.2.length cq4], rfl, r10.rep1, r11.rep1⟩⟩⟩⟩⟩) r7 Ex3) ?_
  rintro _ w2 ⟨u1, rfl, r13, hx2⟩
  have k1 := hx1.tr hx2
  have hz := obPtr r13; obtain ⟨a6, rfl⟩ := hz
  refine vl rfl rfl xmv <| vl rfl rfl (xext rfl rfl) <| vl rfl rfl (xext rfl rfl) <| vl rfl rfl (xext rfl rfl) <| vl rfl rfl xas <| vl rfl rfl xas <| vl rfl rfl xas <| nl <| wp_seq <| wp_block <| wp_seq <| rg <| vl rfl rfl xmv <| vl rfl rfl (xneq rfl rfl) <| vl rfl rfl xas <| nl <| cnd rfl (fun h3 => ?_) (fun h3 => ?_)
  ·
    have hF := ifp hF h3
    refine wp_seq <| rg <| vl rfl rfl xmv <| vl rfl rfl xas <| nl <| ?_
    cases hF
    exact wp_ret <| rt rfl (.tmp rfl rfl .nil) ⟨rfl, k1⟩
  ·
    have hF := ifn hF h3
    refine wp_seq <| rg <| vl rfl rfl xmv <| vl rfl rfl xmv <| ?_
    have hz := bs hF; obtain ⟨x4, Ex4, hF⟩ := hz
    have hz := obGet r13 Ex4; obtain ⟨b4, cs3, e5, q7, hc1⟩ := hz
    cases e5
    obtain ⟨_, _, rfl, ⟨_, _, rfl, rfl, ⟨_, _, rfl, ⟨a7, cq6, rfl, p5, q8, e6⟩, ⟨_, _, rfl, ⟨a8, cq7, rfl, p6, q9, e7⟩, ⟨_, _, rfl, ⟨a9, cq8, rfl, p7, q10, e8⟩, ⟨a10, cq9, rfl, p8, q11, e9⟩⟩⟩⟩⟩, ⟨_, _, rfl, rfl, ⟨_, _, rfl, ⟨a11, cq10, rfl, p9, q12, e10⟩, ⟨a12, cq11, rfl, p10, q13, e11⟩⟩⟩⟩ := q7
    have r14 := RV.of1 p5 q8 e6
    have r15 := RV.of1 p6 q9 e7
    have r16 := RV.of1 p7 q10 e8
    have r17 := RV.of1 p8 q11 e9
    have r18 := RV.of1 p9 q12 e10
    have r19 := RV.of1 p10 q13 e11
    have hz := bs hF; obtain ⟨x5, Ex5, hF⟩ := hz
    refine cl rfl rfl (xc cb53 (mc rfl (mc rfl mn))) (c53 (x0 := ((x4.1.1, x4.1.2.1, x4.1.2.2.1, x4.1.2.2.2.1, x4.1.2.2.2.2), x4.2.1, x4.2.2.1, x4.2.2.2)) hc1 ⟨[.int .i64 x4.1.1] ++ ([.slice a7 x4.1.2.1.length cq6] ++ ([.slice a8 x4.1.2.2.1.length cq7] ++ ([.slice a9 x4.1.2.2.2.1.length cq8] ++ [.slice a10 x4.1.2.2.2.2.length cq9]))), [.int .i64 x4.2.1] ++ ([.slice a11 x4.2.2.1.length cq10] ++ [.slice a12 x4.2.2.2.length cq11]), rfl, ⟨[.int .i64 x4.1.1], [.slice a7 x4.1.2.1.length cq6] ++ ([.slice a8 x4.1.2.2.1.length cq7] ++ ([.slice a9 x4.1.2.2.2.1.length cq8] ++ [.slice a10 x4.1.2.2.2.2.length cq9])), rfl, rfl, ⟨[.slice a7 x4.1.2.1.length cq6], [.slice a8 x4.1.2.2.1.length cq7] ++ ([.slice a9 x4.1.2.2.2.1.length cq8] ++ [.slice a10 x4.1.2.2.2.2.length cq9]), rfl, r14.rep1, ⟨[.slice a8 x4.1.2.2.1.length cq7], [.slice a9 x4.1.2.2.2.1.length cq8] ++ [.slice a10 x4.1.2.2.2.2.length cq9], rfl, r15.rep1, ⟨[.slice a9 x4.1.2.2.2.1.length cq8], [.slice a10 x4.1.2.2.2.2.length cq9], rfl, r16.rep1, r17.rep1⟩⟩⟩⟩, ⟨[.int .i64 x4.2.1], [.slice a11 x4.2.2.1.length cq10] ++ [.slice a12 x4.2.2.2.length cq11], rfl, rfl, ⟨[.slice a11 x4.2.2.1.length cq10], [.slice a12 x4.2.2.2.length cq11], rfl, r18.rep1, r19.rep1⟩⟩⟩ Ex5) ?_
    rintro _ w3 ⟨rfl, hx3⟩
    have k2 := k1.tr hx3
    refine vl rfl rfl (xnot rfl) <| vl rfl rfl xas <| nl <| cnd rfl (fun h4 => ?_) (fun h4 => ?_)
    ·
      have hF := ifp hF h4
      refine wp_seq <| rg <| vl rfl rfl xas <| nl <| ?_
      cases hF
      exact wp_ret <| rt rfl (.tmp rfl rfl .nil) ⟨rfl, k2⟩
    ·
      have hF := ifn hF h4
      refine wp_skip <| wp_seq <| rg <| vl rfl rfl xas <| nl <| ?_
      cases hF
      exact wp_ret <| rt rfl (.tmp rfl rfl .nil) ⟨rfl, k2⟩

set_option maxHeartbeats 4000000 in
theorem c33 {w0 : World} {v0 : Value} {x0 : (Int × (List Int) × (List ((List Int) × Int)) × (List ((List Int) × Int)) × (List (List Int)))} (r0 : RV w0 v0 x0) {v1 : Value} {x1 : (List Int)} (r1 : RV w0 v1 x1) {F : Nat} {r : ((List Int) × Int)} (hF : right_Holds F x0 x1 = some r) :
    Calls Try.prog 33 [v0, v1].toArray w0 (Ret fun v w' => ∃ u0 : Value, v = .tuple #[u0, .int .i64 r.2] ∧ RV w' u0 r.1 ∧ Ext w0 w') := by
  unfold right_Holds at hF
  have hz := id r0; obtain ⟨_, rfl, ⟨_, _, rfl, rfl, ⟨_, _, rfl, ⟨a1, cq1, rfl, p1, q3, e1⟩, ⟨_, _, rfl, ⟨a2, cq2, rfl, p2, q4, e2⟩, ⟨_, _, rfl, ⟨a3, cq3, rfl, p3, q5, e3⟩, ⟨a4, cq4, rfl, p4, q6, e4⟩⟩⟩⟩⟩⟩ := hz
  have r3 := RV.of1 p1 q3 e1
  have r4 := RV.of1 p2 q4 e2
  have r5 := RV.of1 p3 q5 e3
  have r6 := RV.of1 p4 q6 e4
  have hz := r1.sl; obtain ⟨a5, cq5, rfl, -, -, -⟩ := hz
  refine entr (n := 23) Try.func33 rfl rfl rfl <| wp_seq <| rg <| sbx rfl rfl fun b3 w1 hx1 hg1 hb1 => ?_
  have r7 := r1.ext hx1
  have r8 := r3.ext hx1
  have r9 := r4.ext hx1
  have r10 := r5.ext hx1
  have r11 := r6.ext hx1
  have r12 := r0.ext hx1
  refine vl rfl rfl xas <| vl rfl rfl xas <| nl <| wp_seq <| rg <| vl rfl rfl (xlda rfl ti26 rfl (Bx.cs hb1)) <| vl rfl rfl xmv <| ?_
  have hz := bs hF; obtain ⟨x3, Ex3, hF⟩ := hz
  refine cl rfl rfl (xc cb43 (mc rfl (mc rfl mn))) (c43 (show RV (α := (Int × (List Int) × (List ((List Int) × Int)) × (List ((List Int) × Int)) × (List (List Int)))) _ (.agg [.int .i64 x0.1, .slice a1 x0.2.1.length cq1, .slice a2 x0.2.2.1.length cq2, .slice a3 x0.2.2.2.1.length cq3, .slice a4 x0.2.2.2.2.length cq4].toArray) (x0.1, x0.2.1, x0.2.2.1, x0.2.2.2.1, x0.2.2.2.2) from ⟨_, rfl, ⟨[.int .i64 x0.1], [.slice a1 x0.2.1.length cq1] ++ ([.slice a2 x0.2.2.1.length cq2] ++ ([.slice a3 x0.2.2.2.1.length cq3] ++ [.slice a4 x0.2.2.2.2.length cq4])), rfl, rfl, ⟨[.slice a1 x0.2.1.length cq1], [.slice a2 x0.2.2.1.length cq2] ++ ([.slice a3 x0.2.2.2.1.length cq3] ++ [.slice a4 x0.2.2.2.2.length cq4]), rfl, r8.rep1, ⟨[.slice a2 x0.2.2.1.length cq2], [.slice a3 x0.2.2.2.1.length cq3] ++ [.slice a4 x0.2.2.2.2.length cq4], rfl, r9.rep1, ⟨[.slice a3 x0.2.2.2.1.length cq3], [.slice a4 x0.2.2.2.2.length cq4], rfl, r10.rep1, r11.rep1⟩⟩⟩⟩⟩) r7 Ex3) ?_
  rintro _ w2 ⟨u1, rfl, r13, hx2⟩
  have k1 := hx1.tr hx2
  have hz := obPtr r13; obtain ⟨a6, rfl⟩ := hz
  refine vl rfl rfl xmv <| vl rfl rfl (xext rfl rfl) <| vl rfl rfl (xext rfl rfl) <| vl rfl rfl (xext rfl rfl) <| vl rfl rfl xas <| vl rfl rfl xas <| vl rfl rfl xas <| nl <| wp_seq <| wp_seq <| rg <| vl rfl rfl xmv <| vl rfl rfl (xneq rfl rfl) <| nl <| cnd rfl (fun h3 => ?_) (fun h3 => ?_)
  ·
    have hF := ifp hF h3
    refine wp_seq <| rg <| vl rfl rfl xmv <| vl rfl rfl xas <| vl rfl rfl xas <| nl <| ?_
    cases hF
    exact wp_ret <| rt rfl (.tmp rfl rfl (.tmp rfl rfl .nil)) ⟨_, rfl, (RVo.nil (Nat.zero_le _)), k1⟩
  ·
    have hF := ifn hF h3
    refine wp_skip <| wp_seq <| rg <| vl rfl rfl xmv <| vl rfl rfl xmv <| ?_
    have hz := bs hF; obtain ⟨x4, Ex4, hF⟩ := hz
    have hz := obGet r13 Ex4; obtain ⟨b4, cs3, e5, q7, hc1⟩ := hz
    cases e5
    obtain ⟨_, _, rfl, ⟨_, _, rfl, rfl, ⟨_, _, rfl, ⟨a7, cq6, rfl, p5, q8, e6⟩, ⟨_, _, rfl, ⟨a8, cq7, rfl, p6, q9, e7⟩, ⟨_, _, rfl, ⟨a9, cq8, rfl, p7, q10, e8⟩, ⟨a10, cq9, rfl, p8, q11, e9⟩⟩⟩⟩⟩, ⟨_, _, rfl, rfl, ⟨_, _, rfl, ⟨a11, cq10, rfl, p9, q12, e10⟩, ⟨a12, cq11, rfl, p10, q13, e11⟩⟩⟩⟩ := q7
    have r14 := RV.of1 p5 q8 e6
    have r15 := RV.of1 p6 q9 e7
    have r16 := RV.of1 p7 q10 e8
    have r17 := RV.of1 p8 q11 e9
    have r18 := RV.of1 p9 q12 e10
    have r19 := RV.of1 p10 q13 e11
    have hz := bs hF; obtain ⟨x5, Ex5, hF⟩ := hz
    refine cl rfl rfl (xc cb68 (mc rfl (mc rfl mn))) (c68 (x0 := ((x4.1.1, x4.1.2.1, x4.1.2.2.1, x4.1.2.2.2.1, x4.1.2.2.2.2), x4.2.1, x4.2.2.1, x4.2.2.2)) hc1 ⟨[.int .i64 x4.1.1] ++ ([.slice a7 x4.1.2.1.length cq6] ++ ([.slice a8 x4.1.2.2.1.length cq7] ++ ([.slice a9 x4.1.2.2.2.1.length cq8] ++ [.slice a10 x4.1.2.2.2.2.length cq9]))), [.int .i64 x4.2.1] ++ ([.slice a11 x4.2.2.1.length cq10] ++ [.slice a12 x4.2.2.2.length cq11]), rfl, ⟨[.int .i64 x4.1.1], [.slice a7 x4.1.2.1.length cq6] ++ ([.slice a8 x4.1.2.2.1.length cq7] ++ ([.slice a9 x4.1.2.2.2.1.length cq8] ++ [.slice a10 x4.1.2.2.2.2.length cq9])), rfl, rfl, ⟨[.slice a7 x4.1.2.1.length cq6], [.slice a8 x4.1.2.2.1.length cq7] ++ ([.slice a9 x4.1.2.2.2.1.length cq8] ++ [.slice a10 x4.1.2.2.2.2.length cq9]), rfl, r14.rep1, ⟨[.slice a8 x4.1.2.2.1.length cq7], [.slice a9 x4.1.2.2.2.1.length cq8] ++ [.slice a10 x4.1.2.2.2.2.length cq9], rfl, r15.rep1, ⟨[.slice a9 x4.1.2.2.2.1.length cq8], [.slice a10 x4.1.2.2.2.2.length cq9], rfl, r16.rep1, r17.rep1⟩⟩⟩⟩, ⟨[.int .i64 x4.2.1], [.slice a11 x4.2.2.1.length cq10] ++ [.slice a12 x4.2.2.2.length cq11], rfl, rfl, ⟨[.slice a11 x4.2.2.1.length cq10], [.slice a12 x4.2.2.2.length cq11], rfl, r18.rep1, r19.rep1⟩⟩⟩ Ex5) ?_
    rintro _ w3 ⟨rfl, hx3⟩
    have k2 := k1.tr hx3
    have hz := bs hF; obtain ⟨x6, Ex6, hF⟩ := hz
    refine cl rfl rfl (xc cb55 (mc rfl mn)) (c55 Ex6) ?_
    rintro _ w4 ⟨u2, rfl, r20, hx4⟩
    have k3 := k2.tr hx4
    have hz := RV.sl r20.rv; obtain ⟨a13, cq12, rfl, -, -, -⟩ := hz
    refine vl rfl rfl xas <| vl rfl rfl xas <| nl <| ?_
    cases hF
    exact wp_ret <| rt rfl (.tmp rfl rfl (.tmp rfl rfl .nil)) ⟨_, rfl, r20.rv, k3⟩

set_option maxHeartbeats 4000000 in
theorem c41 {w0 : World} {v0 : Value} {x0 : (Int × (List Int) × (List ((List Int) × Int)) × (List ((List Int) × Int)) × (List (List Int)))} (r0 : RV w0 v0 x0) {F : Nat} {r : Int} (hF : right_CheckBook F x0 = some r) :
    Calls Try.prog 41 [v0].toArray w0 (Ret fun v w' => v = .int .i64 r ∧ Ext w0 w') := by
  unfold right_CheckBook at hF
  have hz := id r0; obtain ⟨_, rfl, ⟨_, _, rfl, rfl, ⟨_, _, rfl, ⟨a1, cq1, rfl, p1, q2, e1⟩, ⟨_, _, rfl, ⟨a2, cq2, rfl, p2, q3, e2⟩, ⟨_, _, rfl, ⟨a3, cq3, rfl, p3, q4, e3⟩, ⟨a4, cq4, rfl, p4, q5, e4⟩⟩⟩⟩⟩⟩ := hz
  have r2 := RV.of1 p1 q2 e1
  have r3 := RV.of1 p2 q3 e2
  have r4 := RV.of1 p3 q4 e3
  have r5 := RV.of1 p4 q5 e4
  refine entr (n := 11) Try.func41 rfl rfl rfl <| wp_seq <| rg <| sbx rfl rfl fun b2 w1 hx1 hg1 hb1 => ?_
  have r6 := r2.ext hx1
  have r7 := r3.ext hx1
  have r8 := r4.ext hx1
  have r9 := r5.ext hx1
  have r10 := r0.ext hx1
  refine vl rfl rfl xas <| nl <| wp_seq <| rg <| vl rfl rfl (xlda rfl ti26 rfl (Bx.cs hb1)) <| ?_
  have hz := bs hF; obtain ⟨x2, Ex2, hF⟩ := hz
  refine cl rfl rfl (xc cb52 (mc rfl mn)) (c52 (show RV (α := (Int × (List Int) × (List ((List Int) × Int)) × (List ((List Int) × Int)) × (List (List Int)))) _ (.agg [.int .i64 x0.1, .slice a1 x0.2.1.length cq1, .slice a2 x0.2.2.1.length cq2, .slice a3 x0.2.2.2.1.length cq3, .slice a4 x0.2.2.2.2.length cq4].toArray) (x0.1, x0.2.1, x0.2.2.1, x0.2.2.2.1, x0.2.2.2.2) from ⟨_, rfl, ⟨[.int .i64 x0.1], [.slice a1 x0.2.1.length cq1] ++ ([.slice a2 x0.2.2.1.length cq2] ++ ([.slice a3 x0.2.2.2.1.length cq3] ++ [.slice a4 x0.2.2.2.2.length cq4])), rfl, rfl, ⟨[.slice a1 x0.2.1.length cq1], [.slice a2 x0.2.2.1.length cq2] ++ ([.slice a3 x0.2.2.2.1.length cq3] ++ [.slice a4 x0.2.2.2.2.length cq4]), rfl, r6.rep1, ⟨[.slice a2 x0.2.2.1.length cq2], [.slice a3 x0.2.2.2.1.length cq3] ++ [.slice a4 x0.2.2.2.2.length cq4], rfl, r7.rep1, ⟨[.slice a3 x0.2.2.2.1.length cq3], [.slice a4 x0.2.2.2.2.length cq4], rfl, r8.rep1, r9.rep1⟩⟩⟩⟩⟩) Ex2) ?_
  rintro _ w2 ⟨u1, rfl, r11, hx2⟩
  have k1 := hx1.tr hx2
  have hz := obPtr r11; obtain ⟨a5, rfl⟩ := hz
  refine vl rfl rfl xmv <| vl rfl rfl (xext rfl rfl) <| vl rfl rfl (xext rfl rfl) <| vl rfl rfl xas <| vl rfl rfl xas <| nl <| wp_seq <| rg <| vl rfl rfl xmv <| vl rfl rfl xas <| nl <| ?_
  cases hF
  exact wp_ret <| rt rfl (.tmp rfl rfl .nil) ⟨rfl, k1⟩

set_option maxHeartbeats 4000000 in
theorem c21 {w0 : World} {v0 : Value} {x0 : (Int × (List Int) × (List ((List Int) × Int)) × (List ((List Int) × Int)) × (List (List Int)))} (r0 : RV w0 v0 x0) {F : Nat} {r : ((List Int) × Int)} (hF : right_Decide F x0 = some r) :
    Calls Try.prog 21 [v0].toArray w0 (Ret fun v w' => ∃ u0 : Value, v = .tuple #[u0, .int .i64 r.2] ∧ RV w' u0 r.1 ∧ Ext w0 w') := by
  unfold right_Decide at hF
  have hz := id r0; obtain ⟨_, rfl, ⟨_, _, rfl, rfl, ⟨_, _, rfl, ⟨a1, cq1, rfl, p1, q2, e1⟩, ⟨_, _, rfl, ⟨a2, cq2, rfl, p2, q3, e2⟩, ⟨_, _, rfl, ⟨a3, cq3, rfl, p3, q4, e3⟩, ⟨a4, cq4, rfl, p4, q5, e4⟩⟩⟩⟩⟩⟩ := hz
  have r2 := RV.of1 p1 q2 e1
  have r3 := RV.of1 p2 q3 e2
  have r4 := RV.of1 p3 q4 e3
  have r5 := RV.of1 p4 q5 e4
  refine entr (n := 41) Try.func21 rfl rfl rfl <| wp_seq <| rg <| sbx rfl rfl fun b2 w1 hx1 hg1 hb1 => ?_
  have r6 := r2.ext hx1
  have r7 := r3.ext hx1
  have r8 := r4.ext hx1
  have r9 := r5.ext hx1
  have r10 := r0.ext hx1
  refine vl rfl rfl xas <| vl rfl rfl xas <| nl <| wp_seq <| rg <| vl rfl rfl (xlda rfl ti26 rfl (Bx.cs hb1)) <| ?_
  have hz := bs hF; obtain ⟨x2, Ex2, hF⟩ := hz
  refine cl rfl rfl (xc cb52 (mc rfl mn)) (c52 (show RV (α := (Int × (List Int) × (List ((List Int) × Int)) × (List ((List Int) × Int)) × (List (List Int)))) _ (.agg [.int .i64 x0.1, .slice a1 x0.2.1.length cq1, .slice a2 x0.2.2.1.length cq2, .slice a3 x0.2.2.2.1.length cq3, .slice a4 x0.2.2.2.2.length cq4].toArray) (x0.1, x0.2.1, x0.2.2.1, x0.2.2.2.1, x0.2.2.2.2) from ⟨_, rfl, ⟨[.int .i64 x0.1], [.slice a1 x0.2.1.length cq1] ++ ([.slice a2 x0.2.2.1.length cq2] ++ ([.slice a3 x0.2.2.2.1.length cq3] ++ [.slice a4 x0.2.2.2.2.length cq4])), rfl, rfl, ⟨[.slice a1 x0.2.1.length cq1], [.slice a2 x0.2.2.1.length cq2] ++ ([.slice a3 x0.2.2.2.1.length cq3] ++ [.slice a4 x0.2.2.2.2.length cq4]), rfl, r6.rep1, ⟨[.slice a2 x0.2.2.1.length cq2], [.slice a3 x0.2.2.2.1.length cq3] ++ [.slice a4 x0.2.2.2.2.length cq4], rfl, r7.rep1, ⟨[.slice a3 x0.2.2.2.1.length cq3], [.slice a4 x0.2.2.2.2.length cq4], rfl, r8.rep1, r9.rep1⟩⟩⟩⟩⟩) Ex2) ?_
  rintro _ w2 ⟨u1, rfl, r11, hx2⟩
  have k1 := hx1.tr hx2
  have hb2 := hb1.ext hx2
  have r12 := r6.ext hx2
  have r13 := r7.ext hx2
  have r14 := r8.ext hx2
  have r15 := r9.ext hx2
  have hz := obPtr r11; obtain ⟨a5, rfl⟩ := hz
  refine vl rfl rfl xmv <| vl rfl rfl (xext rfl rfl) <| vl rfl rfl (xext rfl rfl) <| vl rfl rfl xas <| vl rfl rfl xas <| nl <| wp_seq <| wp_seq <| rg <| vl rfl rfl xmv <| vl rfl rfl (xneq rfl rfl) <| nl <| cnd rfl (fun h2 => ?_) (fun h2 => ?_)
  ·
    have hF := ifp hF h2
    refine wp_seq <| rg <| vl rfl rfl xmv <| vl rfl rfl xas <| vl rfl rfl xas <| nl <| ?_
    cases hF
    exact wp_ret <| rt rfl (.tmp rfl rfl (.tmp rfl rfl .nil)) ⟨_, rfl, (RVo.nil (Nat.zero_le _)), k1⟩
  ·
    have hF := ifn hF h2
    refine wp_skip <| wp_seq <| rg <| vl rfl rfl xas <| nl <| wp_seq <| rg <| vl rfl rfl xas <| nl <| wp_seq <| wp_seq <| rg <| vl rfl rfl (xfa rfl fa26_3) <| vl rfl rfl (xld rfl ti23 ((Bx.cs hb2).at 3 rfl)) <| vl rfl rfl (xlen rfl Try.underlying23) <| vl rfl rfl xmv <| nl <| ?_
    have o1 : Row (α := Int) 3 w2.heap.size w2 (.slice none 0 0) [] := Row.nil
    have hz := bs hF; obtain ⟨z1, hB1, hF⟩ := hz
    refine ct (fun L w => ∃ v3 : Value, L 7 = v3 ∧ Row 3 w2.heap.size w v3 z1 ∧ Ext w2 w) ?_ ?_
    ·
      refine wp_block <| lp (I := fun m L w => ∃ y1 : Int, ∃ y2 : (List Int), ∃ y3 : Int, ∃ v2 : Value, right_Decide_l1 F x0 x2 m y1 y2 y3  = some z1 ∧ L 6 = .int .i64 y1 ∧ L 7 = v2 ∧ Row 3 w2.heap.size w v2 y2 ∧ L 22 = .int .i64 y3 ∧ L 4 = .pointer a5 ∧ L 21 = .int .i64 (x0.2.2.2.1.length : Int) ∧ Ext w2 w) F ⟨_, _, _, _, hB1, rfl, rfl, o1, rfl, rfl, rfl, (Ext.refl _)⟩ ?_
      rintro m L w3 ⟨y1, y2, y3, v2, hB1, l6_i1, l7_i1, O7_i1, l22_i1, l4_i1, l21_i1, K0_i1⟩
      rcases m with _ | m
      · rw [right_Decide_l1] at hB1; cases hB1
      rw [right_Decide_l1] at hB1
      have k2 := k1.tr K0_i1
      have r16 := r11.ext K0_i1
      have hz := RV.sl O7_i1.rv; obtain ⟨a6, cq5, rfl, -, -, -⟩ := hz
      refine wp_seq <| rg <| vl rfl rfl (xlss l22_i1 l21_i1) <| nl <| wp_seq <| cnd rfl (fun h3 => ?_) (fun h3 => ?_)
      ·
        have hB1 := ifp hB1 h3
        refine wp_skip <| wp_seq <| wp_block <| wp_seq <| rg <| vl rfl rfl xmv <| vl rfl rfl xas <| nl <| wp_seq <| rg <| vl rfl rfl xmv <| vl rfl rfl xmv <| ?_
        have hz := bs hB1; obtain ⟨x3, Ex3, hB1⟩ := hz
        refine vl rfl rfl (xshl rfl l22_i1 Ex3) <| vl rfl rfl (xor_ l6_i1 rfl) <| vl rfl rfl xas <| nl <| wp_seq <| rg <| vl rfl rfl xmv <| vl rfl rfl xmv <| ?_
        have hz := bs hB1; obtain ⟨x4, Ex4, hB1⟩ := hz
        have hz := obGet r11 Ex4; obtain ⟨b3, cs2, e5, q6, hc1⟩ := hz
        cases e5
        obtain ⟨_, _, rfl, ⟨_, _, rfl, rfl, ⟨_, _, rfl, ⟨a7, cq6, rfl, p5, q7, e6⟩, ⟨_, _, rfl, ⟨a8, cq7, rfl, p6, q8, e7⟩, ⟨_, _, rfl, ⟨a9, cq8, rfl, p7, q9, e8⟩, ⟨a10, cq9, rfl, p8, q10, e9⟩⟩⟩⟩⟩, ⟨_, _, rfl, rfl, ⟨_, _, rfl, ⟨a11, cq10, rfl, p9, q11, e10⟩, ⟨a12, cq11, rfl, p10, q12, e11⟩⟩⟩⟩ := q6
        have r17 := RV.of1 p5 q7 e6
        have r18 := RV.of1 p6 q8 e7
        have r19 := RV.of1 p7 q9 e8
        have r20 := RV.of1 p8 q10 e9
        have r21 := RV.of1 p9 q11 e10
        have r22 := RV.of1 p10 q12 e11
        have hc2 := hc1.ext K0_i1
        have r23 := r17.ext K0_i1
        have r24 := r18.ext K0_i1
        have r25 := r19.ext K0_i1
        have r26 := r20.ext K0_i1
        have r27 := r21.ext K0_i1
        have r28 := r22.ext K0_i1
        have hz := bs hB1; obtain ⟨x5, Ex5, hB1⟩ := hz
        refine cl rfl rfl (xc cb44 (mc l4_i1 (mc rfl mn))) (c44 (x0 := ((x4.1.1, x4.1.2.1, x4.1.2.2.1, x4.1.2.2.2.1, x4.1.2.2.2.2), x4.2.1, x4.2.2.1, x4.2.2.2)) hc2 ⟨[.int .i64 x4.1.1] ++ ([.slice a7 x4.1.2.1.length cq6] ++ ([.slice a8 x4.1.2.2.1.length cq7] ++ ([.slice a9 x4.1.2.2.2.1.length cq8] ++ [.slice a10 x4.1.2.2.2.2.length cq9]))), [.int .i64 x4.2.1] ++ ([.slice a11 x4.2.2.1.length cq10] ++ [.slice a12 x4.2.2.2.length cq11]), rfl, ⟨[.int .i64 x4.1.1], [.slice a7 x4.1.2.1.length cq6] ++ ([.slice a8 x4.1.2.2.1.length cq7] ++ ([.slice a9 x4.1.2.2.2.1.length cq8] ++ [.slice a10 x4.1.2.2.2.2.length cq9])), rfl, rfl, ⟨[.slice a7 x4.1.2.1.length cq6], [.slice a8 x4.1.2.2.1.length cq7] ++ ([.slice a9 x4.1.2.2.2.1.length cq8] ++ [.slice a10 x4.1.2.2.2.2.length cq9]), rfl, r23.rep1, ⟨[.slice a8 x4.1.2.2.1.length cq7], [.slice a9 x4.1.2.2.2.1.length cq8] ++ [.slice a10 x4.1.2.2.2.2.length cq9], rfl, r24.rep1, ⟨[.slice a9 x4.1.2.2.2.1.length cq8], [.slice a10 x4.1.2.2.2.2.length cq9], rfl, r25.rep1, r26.rep1⟩⟩⟩⟩, ⟨[.int .i64 x4.2.1], [.slice a11 x4.2.2.1.length cq10] ++ [.slice a12 x4.2.2.2.length cq11], rfl, rfl, ⟨[.slice a11 x4.2.2.1.length cq10], [.slice a12 x4.2.2.2.length cq11], rfl, r27.rep1, r28.rep1⟩⟩⟩ Ex5) ?_
        rintro _ w4 ⟨rfl, hx3⟩
        have k3 := k2.tr hx3
        have k4 := K0_i1.tr hx3
        have r29 := r23.ext hx3
        have r30 := r24.ext hx3
        have r31 := r25.ext hx3
        have r32 := r26.ext hx3
        have r33 := r27.ext hx3
        have r34 := r28.ext hx3
        have hc3 := hc2.ext hx3
        have O1 := O7_i1.ext hx3
        refine vl rfl rfl xas <| nl <| wp_seq <| wp_seq <| rg <| vl rfl rfl xmv <| vl rfl rfl (xlss rfl rfl) <| nl <| ?_
        have hz := bs hB1; obtain ⟨y4, hB3, hB1⟩ := hz
        refine ct (fun L w => L 6 = .int .i64 y4 ∧ L 4 = .pointer (some ⟨b3, 0, none⟩) ∧ L 7 = .slice a6 y2.length cq5 ∧ L 10 = .int .i64 x5 ∧ L 21 = .int .i64 (x0.2.2.2.1.length : Int) ∧ L 22 = .int .i64 y3 ∧ w2.heap.size ≤ w.heap.size ∧ Ext w4 w) ?_ ?_
        ·
          refine cnd rfl (fun h4 => ?_) (fun h4 => ?_)
          ·
            have hB3 := ifp hB3 h4
            refine rg <| vl rfl rfl xmv <| vl rfl rfl xas <| nl <| ?_
            cases hB3
            refine lf <| ?_
            exact ⟨rfl, l4_i1, l7_i1, rfl, l21_i1, l22_i1, k4.size, (Ext.refl _)⟩
          ·
            have hB3 := ifn hB3 h4
            refine wp_skip <| ?_
            cases hB3
            refine lf <| ?_
            exact ⟨l6_i1, l4_i1, l7_i1, rfl, l21_i1, l22_i1, k4.size, (Ext.refl _)⟩
        rintro L w5 ⟨l6_j1, l4_j1, l7_j1, l10_j1, l21_j1, l22_j1, Z0_j1, K0_j1⟩
        have k5 := k3.tr K0_j1
        have k6 := k4.tr K0_j1
        have r35 := r29.ext K0_j1
        have r36 := r30.ext K0_j1
        have r37 := r31.ext K0_j1
        have r38 := r32.ext K0_j1
        have r39 := r33.ext K0_j1
        have r40 := r34.ext K0_j1
        have hc4 := hc3.ext K0_j1
        have O2 := O1.ext K0_j1
        refine rg <| vl rfl rfl xmv <| vl rfl rfl xmv <| sbsv (cs := [.int .i64 x5]) Try.underlying22 ti3 rfl (pc l10_j1 pn) rfl rfl rfl rfl rfl fun b4 w6 hx4 hg2 hb3 => ?_
        have k7 := k5.tr hx4
        have k8 := k6.tr hx4
        have k9 := K0_j1.tr hx4
        have zs1 := Nat.le_trans Z0_j1 hx4.size
        have r41 := r35.ext hx4
        have r42 := r36.ext hx4
        have r43 := r37.ext hx4
        have r44 := r38.ext hx4
        have r45 := r39.ext hx4
        have r46 := r40.ext hx4
        have hc5 := hc4.ext hx4
        have O3 := O2.ext hx4
        have o3 : Row (α := Int) 3 w5.heap.size w6 (.slice (some ⟨b4, 0, none⟩) 1 1) [x5] := Row.lit hg2 hb3 rfl (ble rfl)
        have hz := bs hB1; obtain ⟨x6, Ex6, hB1⟩ := hz
        refine sapx (l := y2) (k := ([x5] : List Int)) l7_j1 rfl Try.underlying22 ti3 rfl rfl O3 (RV.els o3.rv) Ex6 k8.size fun v4 w7 o4 hB6 hgr1 how1 => ?_
        have k10 := Ext.grow k7 k1.size hB6
        have k11 : Ext w2 w7 := k8.trans hB6
        have zs2 := Nat.le_trans zs1 hgr1.size
        have r48 := r17.ext k11
        have r49 := r18.ext k11
        have r50 := r19.ext k11
        have r51 := r20.ext k11
        have r52 := r21.ext k11
        have r53 := r22.ext k11
        have hc6 := hc1.ext k11
        have hz := RV.sl o4.rv; obtain ⟨a13, cq12, rfl, -, -, -⟩ := hz
        refine vl rfl rfl xas <| nl <| rg <| vl rfl rfl (xadd l22_j1 rfl) <| vl rfl rfl xmv <| nl <| ?_
        refine lq m (Nat.lt_succ_self _) <| ?_
        exact ⟨_, _, _, _, hB1, l6_j1, rfl, o4, rfl, l4_j1, l21_j1, k11⟩
      ·
        have hB1 := ifn hB1 h3
        refine wp_exit <| ?_
        cases hB1
        refine lf <| ?_
        exact ⟨_, l7_i1, O7_i1, K0_i1⟩
    rintro L w8 ⟨v3, l7_j2, O7_j2, K0_j2⟩
    have k12 := k1.tr K0_j2
    have hz := RV.sl O7_j2.rv; obtain ⟨a14, cq13, rfl, -, -, -⟩ := hz
    refine wp_seq <| rg <| vl rfl rfl xmv <| vl rfl rfl xas <| vl rfl rfl xas <| nl <| ?_
    cases hF
    exact wp_ret <| rt rfl (.tmp l7_j2 rfl (.tmp rfl rfl .nil)) ⟨_, rfl, O7_j2.rv, k12⟩

set_option maxHeartbeats 4000000 in
theorem c24 {w0 : World} {v0 : Value} {x0 : (Int × (List Int) × (List ((List Int) × Int)) × (List ((List Int) × Int)) × (List (List Int)))} (r0 : RV w0 v0 x0) {F : Nat} {r : ((List Int) × Int)} (hF : right_Fewest F x0 = some r) :
    Calls Try.prog 24 [v0].toArray w0 (Ret fun v w' => ∃ u0 : Value, v = .tuple #[u0, .int .i64 r.2] ∧ RV w' u0 r.1 ∧ Ext w0 w') := by
  unfold right_Fewest at hF
  have hz := id r0; obtain ⟨_, rfl, ⟨_, _, rfl, rfl, ⟨_, _, rfl, ⟨a1, cq1, rfl, p1, q2, e1⟩, ⟨_, _, rfl, ⟨a2, cq2, rfl, p2, q3, e2⟩, ⟨_, _, rfl, ⟨a3, cq3, rfl, p3, q4, e3⟩, ⟨a4, cq4, rfl, p4, q5, e4⟩⟩⟩⟩⟩⟩ := hz
  have r2 := RV.of1 p1 q2 e1
  have r3 := RV.of1 p2 q3 e2
  have r4 := RV.of1 p3 q4 e3
  have r5 := RV.of1 p4 q5 e4
  have M1 : Mks w0.heap.size [] w0 := Mks.nil
  refine entrM (m := 12) (n := 37) Try.func24 rfl rfl rfl <| wp_seq <| rg <| sbx rfl rfl fun b2 w1 hx1 hg1 hb1 => ?_
  have M2 := M1.ext hx1
  have r6 := r2.ext hx1
  have r7 := r3.ext hx1
  have r8 := r4.ext hx1
  have r9 := r5.ext hx1
  have r10 := r0.ext hx1
  refine sal ti22 fun b3 w2 hx2 hg2 hb2 => ?_
  have k1 := hx1.tr hx2
  have M3 := M2.ext hx2
  have hb3 := hb1.ext hx2
  have r11 := r6.ext hx2
  have r12 := r7.ext hx2
  have r13 := r8.ext hx2
  have r14 := r9.ext hx2
  refine sal ti30 fun b4 w3 hx3 hg3 hb4 => ?_
  have k2 := k1.tr hx3
  have k3 := hx2.tr hx3
  have M4 := M3.ext hx3
  have hb5 := hb3.ext hx3
  have r15 := r11.ext hx3
  have r16 := r12.ext hx3
  have r17 := r13.ext hx3
  have r18 := r14.ext hx3
  have hb6 := hb2.ext hx3
  refine nl <| wp_seq <| rg <| vl rfl rfl (xlda rfl ti26 rfl (Bx.cs hb5)) <| ?_
  have hz := bs hF; obtain ⟨x2, Ex2, hF⟩ := hz
  refine cl rfl rfl (xc cb52 (mc rfl mn)) (c52 (show RV (α := (Int × (List Int) × (List ((List Int) × Int)) × (List ((List Int) × Int)) × (List (List Int)))) _ (.agg [.int .i64 x0.1, .slice a1 x0.2.1.length cq1, .slice a2 x0.2.2.1.length cq2, .slice a3 x0.2.2.2.1.length cq3, .slice a4 x0.2.2.2.2.length cq4].toArray) (x0.1, x0.2.1, x0.2.2.1, x0.2.2.2.1, x0.2.2.2.2) from ⟨_, rfl, ⟨[.int .i64 x0.1], [.slice a1 x0.2.1.length cq1] ++ ([.slice a2 x0.2.2.1.length cq2] ++ ([.slice a3 x0.2.2.2.1.length cq3] ++ [.slice a4 x0.2.2.2.2.length cq4])), rfl, rfl, ⟨[.slice a1 x0.2.1.length cq1], [.slice a2 x0.2.2.1.length cq2] ++ ([.slice a3 x0.2.2.2.1.length cq3] ++ [.slice a4 x0.2.2.2.2.length cq4]), rfl, r15.rep1, ⟨[.slice a2 x0.2.2.1.length cq2], [.slice a3 x0.2.2.2.1.length cq3] ++ [.slice a4 x0.2.2.2.2.length cq4], rfl, r16.rep1, ⟨[.slice a3 x0.2.2.2.1.length cq3], [.slice a4 x0.2.2.2.2.length cq4], rfl, r17.rep1, r18.rep1⟩⟩⟩⟩⟩) Ex2) ?_
  rintro _ w4 ⟨u1, rfl, r19, hx4⟩
  have k4 := k2.tr hx4
  have k5 := k3.tr hx4
  have k6 := hx3.tr hx4
  have M5 := M4.ext hx4
  have hb7 := hb5.ext hx4
  have r20 := r15.ext hx4
  have r21 := r16.ext hx4
  have r22 := r17.ext hx4
  have r23 := r18.ext hx4
  have hb8 := hb6.ext hx4
  have hb9 := hb4.ext hx4
  have hz := obPtr r19; obtain ⟨a5, rfl⟩ := hz
  refine vl rfl rfl xmv <| vl rfl rfl (xext rfl rfl) <| vl rfl rfl (xext rfl rfl) <| vl rfl rfl xas <| vl rfl rfl xas <| nl <| wp_seq <| wp_seq <| rg <| vl rfl rfl xmv <| vl rfl rfl (xneq rfl rfl) <| nl <| cnd rfl (fun h2 => ?_) (fun h2 => ?_)
  ·
    have hF := ifp hF h2
    refine wp_seq <| rg <| vl rfl rfl xmv <| sst rfl rfl rfl ti22 hb8 rfl rfl (ble rfl) fun w5 hch1 hb10 => ?_
    have k7 := Ext.chg k4 hch1 (Nat.le_trans hx1.size hg2)
    have k8 := Ext.chg k5 hch1 (Nat.le_trans (Nat.le_refl _) hg2)
    have M6 := M5.chg hch1 hb8.nd
    have hb11 := Bx.chg hb9 hch1 (Ne.symm (Nat.ne_of_lt (Nat.lt_of_lt_of_le hb2.lt hg3)))
    have hb12 : Bx w5 b3 22 [.slice none 0 0] := hb10
    refine sst rfl rfl rfl ti30 hb11 rfl rfl (ble rfl) fun w6 hch2 hb13 => ?_
    have k9 := Ext.chg k7 hch2 (Nat.le_trans hx1.size (Nat.le_trans hx2.size hg3))
    have k10 := Ext.chg k8 hch2 (Nat.le_trans (Nat.le_refl _) (Nat.le_trans hx2.size hg3))
    have M7 := M6.chg hch2 hb11.nd
    have hb14 := Bx.chg hb12 hch2 (Nat.ne_of_lt (Nat.lt_of_lt_of_le hb2.lt hg3))
    have hb15 : Bx w6 b4 30 [.int .i64 x2.2] := hb13
    refine nl <| wp_ret <| rtMs rfl M7 fun w7 hT1 => ?_
    have k11 : Ext w0 w7 := Below.tak k9 hT1 (Nat.le_refl _)
    have hb16 := hb15.tak hT1
    have hb17 := hb14.tak hT1
    cases hF
    exact ⟨_, (.cell1 rfl rfl ti22 ((Bx.cs hb17).at 0 rfl) (.cell1 rfl rfl ti30 ((Bx.cs hb16).at 0 rfl) .nil)), ⟨_, rfl, (RVo.nil (Nat.zero_le _)), k11⟩⟩
  ·
    have hF := ifn hF h2
    refine wp_skip <| wp_seq <| rg <| vl rfl rfl xmv <| vl rfl rfl (xmf (mc rfl mn) mn) <| sal ti83 fun b5 w8 hx5 hg4 hb18 => ?_
    have k12 := k4.tr hx5
    have k13 := k5.tr hx5
    have k14 := k6.tr hx5
    have M8 := M5.ext hx5
    have hb19 := hb7.ext hx5
    have r24 := r20.ext hx5
    have r25 := r21.ext hx5
    have r26 := r22.ext hx5
    have r27 := r23.ext hx5
    have hb20 := hb8.ext hx5
    have hb21 := hb9.ext hx5
    have r28 := r19.ext hx5
    refine sst rfl rfl rfl ti83 hb18 rfl rfl (ble rfl) fun w9 hch3 hb22 => ?_
    have k15 := Ext.chg k12 hch3 (Nat.le_trans k4.size hg4)
    have k16 := Ext.chg k13 hch3 (Nat.le_trans k5.size hg4)
    have k17 := Ext.chg k14 hch3 (Nat.le_trans k6.size hg4)
    have k18 := Ext.chg hx5 hch3 (Nat.le_trans (Nat.le_refl _) hg4)
    have M9 := M8.chg hch3 hb18.nd
    have hb23 := hb7.ext k18
    have r29 := r20.ext k18
    have r30 := r21.ext k18
    have r31 := r22.ext k18
    have r32 := r23.ext k18
    have hb24 := hb8.ext k18
    have hb25 := hb9.ext k18
    have r33 := r19.ext k18
    have hb26 : Bx w9 b5 83 [.func (.func 53) [.pointer a5].toArray [].toArray] := hb22
    refine nl <| wp_seq <| wp_seq <| rg <| vl rfl rfl (xfa rfl fa26_3) <| vl rfl rfl (xld rfl ti23 ((Bx.cs hb23).at 3 rfl)) <| vl rfl rfl (xlen rfl Try.underlying23) <| vl rfl rfl xas <| nl <| ?_
    have hz := bs hF; obtain ⟨o1, hB1, hF⟩ := hz
    refine ctM w0.heap.size (fun L w => o1 = .inr () ∧ L 2 = .pointer (some ⟨b3, 0, none⟩) ∧ L 3 = .pointer (some ⟨b4, 0, none⟩) ∧ Ext w9 w) ?_ ?_
    ·
      refine wp_block <| lpM w0.heap.size (I := fun m L w => ∃ y1 : Int, right_Fewest_l1 F x0 x2 m y1  = some o1 ∧ L 7 = .int .i64 y1 ∧ L 1 = .pointer (some ⟨b2, 0, none⟩) ∧ L 2 = .pointer (some ⟨b3, 0, none⟩) ∧ L 3 = .pointer (some ⟨b4, 0, none⟩) ∧ L 6 = .pointer (some ⟨b5, 0, none⟩) ∧ Ext w9 w) F M9 ⟨_, hB1, rfl, rfl, rfl, rfl, rfl, (Ext.refl _)⟩ ?_
      rintro m L D1 w10 M10 ⟨y1, hB1, l7_i1, l1_i1, l2_i1, l3_i1, l6_i1, K0_i1⟩
      rcases m with _ | m
      · rw [right_Fewest_l1] at hB1; cases hB1
      rw [right_Fewest_l1] at hB1
      have k19 := k15.tr K0_i1
      have k20 := k16.tr K0_i1
      have k21 := k17.tr K0_i1
      have k22 := k18.tr K0_i1
      have r34 := r29.ext K0_i1
      have r35 := r30.ext K0_i1
      have r36 := r31.ext K0_i1
      have r37 := r32.ext K0_i1
      have hb27 := hb23.ext K0_i1
      have hb28 := hb24.ext K0_i1
      have hb29 := hb25.ext K0_i1
      have r38 := r33.ext K0_i1
      have hb30 := hb26.ext K0_i1
      refine wp_seq <| wp_seq <| rg <| vl rfl rfl xmv <| vl rfl rfl (xgtr l7_i1 rfl) <| nl <| cnd rfl (fun h3 => ?_) (fun h3 => ?_)
      ·
        have hB1 := ifp hB1 h3
        refine wp_skip <| wp_seq <| wp_block <| wp_seq <| rg <| vl rfl rfl (xfa l1_i1 fa26_3) <| vl rfl rfl (xld rfl ti23 ((Bx.cs hb27).at 3 rfl)) <| vl rfl rfl (xlen rfl Try.underlying23) <| vl rfl rfl xmv <| ?_
        have hz := bs hB1; obtain ⟨x3, Ex3, hB1⟩ := hz
        refine cl rfl rfl (xc cb54 (mc rfl (mc l7_i1 mn))) (c54 (a := w0.heap.size) Ex3) ?_
        rintro v2 w11 ⟨sq1, hx6⟩
        have k23 := k19.tr hx6
        have k24 := k20.tr hx6
        have k25 := k21.tr hx6
        have k26 := k22.tr hx6
        have k27 := K0_i1.tr hx6
        have M11 := M10.ext hx6
        have hb31 := hb27.ext hx6
        have r39 := r34.ext hx6
        have r40 := r35.ext hx6
        have r41 := r36.ext hx6
        have r42 := r37.ext hx6
        have hb32 := hb28.ext hx6
        have hb33 := hb29.ext hx6
        have hb34 := hb30.ext hx6
        have r43 := r38.ext hx6
        refine nl <| wp_block <| ?_
        have hz := bs hB1; obtain ⟨o2, hB3, hB1⟩ := hz
        refine ctM w0.heap.size (fun L w => o2 = .inr () ∧ Ext w11 w ∧ L 1 = .pointer (some ⟨b2, 0, none⟩) ∧ L 2 = .pointer (some ⟨b3, 0, none⟩) ∧ L 3 = .pointer (some ⟨b4, 0, none⟩) ∧ L 6 = .pointer (some ⟨b5, 0, none⟩) ∧ L 7 = .int .i64 y1) ?_ ?_
        ·
          refine rangeA (α := Int) (xs := x3) (m := 12) (by decide) rfl KpOk.keepc (SeqS.go (by decide) sq1) rfl (fun k w => right_Fewest_l2 F x2 (List.drop k x3)  = some o2 ∧ Ext w11 w ∧ Mks w0.heap.size D1 w ∧ w11.heap.size ≤ w.heap.size) (fun c w => ∃ z1 : (List Int), ∃ z2 : Int, ∃ v3 : Value, c = .ret ∧ o2 = .inl (z1, z2) ∧ Bx w b3 22 [v3] ∧ Row 3 w0.heap.size w v3 z1 ∧ Bx w b4 30 [.int .i64 z2] ∧ Mks w0.heap.size D1 w ∧ Ext w0 w) (fun k => (Okb.and Okb.pure (Okb.and (Okb.extw (Nat.le_refl _)) (Okb.and (Okb.mks M11 rfl) Okb.size)))) (fun c => Okb.ex fun _ => Okb.ex fun _ => Okb.ex fun _ => (Okb.and Okb.pure (Okb.and Okb.pure (Okb.and Okb.bx (Okb.and Okb.row (Okb.and Okb.bx (Okb.and (Okb.mks M11 rfl) (Okb.extw k23.size)))))))) ⟨hB3, (Ext.refl _), M11, (Nat.le_refl _)⟩ ?round ?done ?stop
          case round =>
            rintro _ k x4 w12 w13 hx7 ⟨hB3, K0_i2a, M12a, sz1a⟩ ha1
            rw [drop_at hx7] at hB3
            rw [right_Fewest_l2] at hB3
            have K0_i2 := Below.asg K0_i2a ha1 (Nat.le_refl _)
            have M12 := M12a.asg ha1
            have sz1 := Nat.le_trans sz1a ha1.size
            have k28 := k23.tr K0_i2
            have k29 := k24.tr K0_i2
            have k30 := k25.tr K0_i2
            have k31 := k26.tr K0_i2
            have k32 := k27.tr K0_i2
            have k33 := hx6.tr K0_i2
            have r44 := r39.ext K0_i2
            have r45 := r40.ext K0_i2
            have r46 := r41.ext K0_i2
            have r47 := r42.ext K0_i2
            have hb36 := hb31.ext K0_i2
            have hb37 := hb32.ext K0_i2
            have hb38 := hb33.ext K0_i2
            have r48 := r43.ext K0_i2
            have hb39 := hb34.ext K0_i2
            have kf1 : KeepsFrom w11.heap.size w13 w13 := KeepsFrom.refl _ _
            have bi1 : KeepC w0.heap.size w10.heap.size w13 w13 := KeepC.refl
            refine wpIn_block <| wpIn_seq <| rgR rfl <| vl rfl rfl (xld l6_i1 ti83 ((Bx.cs hb39).at 0 rfl)) <| vl rfl rfl xmv <| ?_
            have hz := bs hB3; obtain ⟨x5, Ex5, hB3⟩ := hz
            have hz := obGet r19 Ex5; obtain ⟨b7, cs2, e5, q6, hc1⟩ := hz
            cases e5
            obtain ⟨_, _, rfl, ⟨_, _, rfl, rfl, ⟨_, _, rfl, ⟨a6, cq5, rfl, p5, q7, e6⟩, ⟨_, _, rfl, ⟨a7, cq6, rfl, p6, q8, e7⟩, ⟨_, _, rfl, ⟨a8, cq7, rfl, p7, q9, e8⟩, ⟨a9, cq8, rfl, p8, q10, e9⟩⟩⟩⟩⟩, ⟨_, _, rfl, rfl, ⟨_, _, rfl, ⟨a10, cq9, rfl, p9, q11, e10⟩, ⟨a11, cq10, rfl, p10, q12, e11⟩⟩⟩⟩ := q6
            have r49 := RV.of1 p5 q7 e6
            have r50 := RV.of1 p6 q8 e7
            have r51 := RV.of1 p7 q9 e8
            have r52 := RV.of1 p8 q10 e9
            have r53 := RV.of1 p9 q11 e10
            have r54 := RV.of1 p10 q12 e11
            have hc2 := hc1.ext k31
            have r55 := r49.ext k31
            have r56 := r50.ext k31
            have r57 := r51.ext k31
            have r58 := r52.ext k31
            have r59 := r53.ext k31
            have r60 := r54.ext k31
            have hz := bs hB3; obtain ⟨x6, Ex6, hB3⟩ := hz
            refine cl rfl rfl (xcv rfl cb53 (mc rfl mn) rfl) (c53 (x0 := ((x5.1.1, x5.1.2.1, x5.1.2.2.1, x5.1.2.2.2.1, x5.1.2.2.2.2), x5.2.1, x5.2.2.1, x5.2.2.2)) hc2 ⟨[.int .i64 x5.1.1] ++ ([.slice a6 x5.1.2.1.length cq5] ++ ([.slice a7 x5.1.2.2.1.length cq6] ++ ([.slice a8 x5.1.2.2.2.1.length cq7] ++ [.slice a9 x5.1.2.2.2.2.length cq8]))), [.int .i64 x5.2.1] ++ ([.slice a10 x5.2.2.1.length cq9] ++ [.slice a11 x5.2.2.2.length cq10]), rfl, ⟨[.int .i64 x5.1.1], [.slice a6 x5.1.2.1.length cq5] ++ ([.slice a7 x5.1.2.2.1.length cq6] ++ ([.slice a8 x5.1.2.2.2.1.length cq7] ++ [.slice a9 x5.1.2.2.2.2.length cq8])), rfl, rfl, ⟨[.slice a6 x5.1.2.1.length cq5], [.slice a7 x5.1.2.2.1.length cq6] ++ ([.slice a8 x5.1.2.2.2.1.length cq7] ++ [.slice a9 x5.1.2.2.2.2.length cq8]), rfl, r55.rep1, ⟨[.slice a7 x5.1.2.2.1.length cq6], [.slice a8 x5.1.2.2.2.1.length cq7] ++ [.slice a9 x5.1.2.2.2.2.length cq8], rfl, r56.rep1, ⟨[.slice a8 x5.1.2.2.2.1.length cq7], [.slice a9 x5.1.2.2.2.2.length cq8], rfl, r57.rep1, r58.rep1⟩⟩⟩⟩, ⟨[.int .i64 x5.2.1], [.slice a10 x5.2.2.1.length cq9] ++ [.slice a11 x5.2.2.2.length cq10], rfl, rfl, ⟨[.slice a10 x5.2.2.1.length cq9], [.slice a11 x5.2.2.2.length cq10], rfl, r59.rep1, r60.rep1⟩⟩⟩ Ex6) ?_
            rintro _ w14 ⟨rfl, hx8⟩
            have k34 := k28.tr hx8
            have k35 := k29.tr hx8
            have k36 := k30.tr hx8
            have k37 := k31.tr hx8
            have k38 := k32.tr hx8
            have k39 := k33.tr hx8
            have k40 := K0_i2.tr hx8
            have M13 := M12.ext hx8
            have kf2 := kf1.ext hx8
            have bi2 := bi1.ext hx8
            have hb40 := hb36.ext hx8
            have r61 := r44.ext hx8
            have r62 := r45.ext hx8
            have r63 := r46.ext hx8
            have r64 := r47.ext hx8
            have hb41 := hb37.ext hx8
            have hb42 := hb38.ext hx8
            have hb43 := hb39.ext hx8
            have r65 := r55.ext hx8
            have r66 := r56.ext hx8
            have r67 := r57.ext hx8
            have r68 := r58.ext hx8
            have r69 := r59.ext hx8
            have r70 := r60.ext hx8
            have hc3 := hc2.ext hx8
            refine nl <| cndR rfl (fun h4 => ?_) (fun h4 => ?_)
            ·
              have hB3 := ifp hB3 h4
              refine wpIn_seq <| rgR rfl <| vl rfl rfl xmv <| ?_
              have hz := bs hB3; obtain ⟨x7, Ex7, hB3⟩ := hz
              refine cl rfl rfl (xc cb55 (mc rfl mn)) (c55 Ex7) ?_
              rintro _ w15 ⟨u2, rfl, r71, hx9⟩
              have k41 := k34.tr hx9
              have k42 := k35.tr hx9
              have k43 := k36.tr hx9
              have k44 := k37.tr hx9
              have k45 := k38.tr hx9
              have k46 := k39.tr hx9
              have k47 := k40.tr hx9
              have k48 := hx8.tr hx9
              have M14 := M13.ext hx9
              have kf3 := kf2.ext hx9
              have bi3 := bi2.ext hx9
              have hb44 := hb41.ext hx9
              have hb45 := hb42.ext hx9
              have hz := RV.sl r71.rv; obtain ⟨a12, cq11, rfl, -, -, -⟩ := hz
              refine sst l2_i1 rfl rfl ti22 hb44 rfl rfl (ble rfl) fun w16 hch4 hb46 => ?_
              have k49 := Ext.chg k41 hch4 (Nat.le_trans hx1.size hg2)
              have k50 := Ext.chg k42 hch4 (Nat.le_trans (Nat.le_refl _) hg2)
              have M15 := M14.chg hch4 hb44.nd
              have kf4 := kf3.chgc hch4 (.inr hb44.isc)
              have hb47 := Bx.chg hb45 hch4 (Ne.symm (Nat.ne_of_lt (Nat.lt_of_lt_of_le hb2.lt hg3)))
              have o3 := Row.chg r71 hch4 (Nat.lt_of_lt_of_le hb2.lt k36.size)
              have hb48 : Bx w16 b3 22 [.slice a12 x7.length cq11] := hb46
              refine sst l3_i1 rfl rfl ti30 hb47 rfl rfl (ble rfl) fun w17 hch5 hb49 => ?_
              have k51 := Ext.chg k49 hch5 (Nat.le_trans hx1.size (Nat.le_trans hx2.size hg3))
              have k52 := Ext.chg k50 hch5 (Nat.le_trans (Nat.le_refl _) (Nat.le_trans hx2.size hg3))
              have M16 := M15.chg hch5 hb47.nd
              have kf5 := kf4.chgc hch5 (.inr hb47.isc)
              have hb50 := Bx.chg hb48 hch5 (Nat.ne_of_lt (Nat.lt_of_lt_of_le hb2.lt hg3))
              have o4 := Row.chg o3 hch5 (Nat.lt_of_lt_of_le hb9.lt k37.size)
              have hb51 : Bx w17 b4 30 [.int .i64 0] := hb49
              refine nl <| ?_
              cases hB3
              exact wpIn_ret ⟨kf5, ⟨_, _, _, rfl, rfl, hb50, (o4.bnd k34.size), hb51, M16, k51⟩⟩
            ·
              have hB3 := ifn hB3 h4
              refine wpIn_skip <| ?_
              exact ⟨kf2, bi2, ⟨hB3, k40, M13, (Nat.le_trans sz1 kf2.size)⟩⟩
          case done =>
            rintro D2 w18 hD1 ⟨hB3, K0_j1, M12, _⟩ hk1
            rw [List.drop_length, right_Fewest_l2] at hB3
            cases hB3
            exact lfM (Mks.cons M11 M12 (Below.size k23) hD1 hk1) ⟨rfl, K0_j1, l1_i1, l2_i1, l3_i1, l6_i1, l7_i1⟩
          case stop =>
            rintro D3 c w19 hD2 ⟨z1, z2, v3, rfl, rfl, Br1, Or1, Br2, M17, k53⟩ hk2
            have hz := RV.sl Or1.rv; obtain ⟨a13, cq12, rfl, -, -, -⟩ := hz
            refine wp_ret <| rtMs rfl (Mks.cons M11 M17 (Below.size k23) hD2 hk2) fun w20 hT2 => ?_
            have k54 : Ext w0 w20 := Below.tak k53 hT2 (Nat.le_refl _)
            have Br3 := Br2.tak hT2
            have Br4 := Br1.tak hT2
            have Or2 := Or1.tak hT2
            have hB1 := (show some _ = some _ from hB1); cases hB1
            have hF := (show some _ = some _ from hF); cases hF
            exact ⟨_, (.cell1 l2_i1 rfl ti22 ((Bx.cs Br4).at 0 rfl) (.cell1 l3_i1 rfl ti30 ((Bx.cs Br3).at 0 rfl) .nil)), ⟨_, rfl, Or2.rv, k54⟩⟩
        rintro L D4 w21 M18 ⟨rfl, K0_j2, l1_j2, l2_j2, l3_j2, l6_j2, l7_j2⟩
        have k55 := k23.tr K0_j2
        have k56 := k24.tr K0_j2
        have k57 := k25.tr K0_j2
        have k58 := k26.tr K0_j2
        have k59 := k27.tr K0_j2
        have k60 := hx6.tr K0_j2
        have r72 := r39.ext K0_j2
        have r73 := r40.ext K0_j2
        have r74 := r41.ext K0_j2
        have r75 := r42.ext K0_j2
        have hb52 := hb31.ext K0_j2
        have hb53 := hb32.ext K0_j2
        have hb54 := hb33.ext K0_j2
        have r76 := r43.ext K0_j2
        have hb55 := hb34.ext K0_j2
        refine rg <| vl rfl rfl xmv <| vl rfl rfl (xsub l7_j2 rfl) <| vl rfl rfl xas <| nl <| ?_
        refine lqM m (Nat.lt_succ_self _) M18 <| ?_
        exact ⟨_, hB1, rfl, l1_j2, l2_j2, l3_j2, l6_j2, k59⟩
      ·
        have hB1 := ifn hB1 h3
        refine wp_exit <| ?_
        cases hB1
        refine lfM M10 <| ?_
        exact ⟨rfl, l2_i1, l3_i1, K0_i1⟩
    rintro L D5 w22 M19 ⟨rfl, l2_j3, l3_j3, K0_j3⟩
    have k61 := k15.tr K0_j3
    have k62 := k16.tr K0_j3
    have k63 := k17.tr K0_j3
    have k64 := k18.tr K0_j3
    have hb56 := hb24.ext K0_j3
    have hb57 := hb25.ext K0_j3
    refine wp_seq <| rg <| sst l2_j3 rfl rfl ti22 hb56 rfl rfl (ble rfl) fun w23 hch6 hb58 => ?_
    have k65 := Ext.chg k61 hch6 (Nat.le_trans hx1.size hg2)
    have k66 := Ext.chg k62 hch6 (Nat.le_trans (Nat.le_refl _) hg2)
    have M20 := M19.chg hch6 hb56.nd
    have hb59 := Bx.chg hb57 hch6 (Ne.symm (Nat.ne_of_lt (Nat.lt_of_lt_of_le hb2.lt hg3)))
    have hb60 : Bx w23 b3 22 [.slice none 0 0] := hb58
    refine sst l3_j3 rfl rfl ti30 hb59 rfl rfl (ble rfl) fun w24 hch7 hb61 => ?_
    have k67 := Ext.chg k65 hch7 (Nat.le_trans hx1.size (Nat.le_trans hx2.size hg3))
    have k68 := Ext.chg k66 hch7 (Nat.le_trans (Nat.le_refl _) (Nat.le_trans hx2.size hg3))
    have M21 := M20.chg hch7 hb59.nd
    have hb62 := Bx.chg hb60 hch7 (Nat.ne_of_lt (Nat.lt_of_lt_of_le hb2.lt hg3))
    have hb63 : Bx w24 b4 30 [.int .i64 0] := hb61
    refine nl <| wp_ret <| rtMs rfl M21 fun w25 hT3 => ?_
    have k69 : Ext w0 w25 := Below.tak k67 hT3 (Nat.le_refl _)
    have hb64 := hb63.tak hT3
    have hb65 := hb62.tak hT3
    cases hF
    exact ⟨_, (.cell1 l2_j3 rfl ti22 ((Bx.cs hb65).at 0 rfl) (.cell1 l3_j3 rfl ti30 ((Bx.cs hb64).at 0 rfl) .nil)), ⟨_, rfl, (RVo.nil (Nat.zero_le _)), k69⟩⟩

set_option maxHeartbeats 4000000 in
theorem c28 {w0 : World} {v0 : Value} {x0 : (Int × (List Int) × (List ((List Int) × Int)) × (List ((List Int) × Int)) × (List (List Int)))} (r0 : RV w0 v0 x0) {F : Nat} {r : ((List (List Int)) × Int)} (hF : right_Conflicts F x0 = some r) :
    Calls Try.prog 28 [v0].toArray w0 (Ret fun v w' => ∃ u0 : Value, v = .tuple #[u0, .int .i64 r.2] ∧ RV w' u0 r.1 ∧ Ext w0 w') := by
  unfold right_Conflicts at hF
  have hz := id r0; obtain ⟨_, rfl, ⟨_, _, rfl, rfl, ⟨_, _, rfl, ⟨a1, cq1, rfl, p1, q2, e1⟩, ⟨_, _, rfl, ⟨a2, cq2, rfl, p2, q3, e2⟩, ⟨_, _, rfl, ⟨a3, cq3, rfl, p3, q4, e3⟩, ⟨a4, cq4, rfl, p4, q5, e4⟩⟩⟩⟩⟩⟩ := hz
  have r2 := RV.of1 p1 q2 e1
  have r3 := RV.of1 p2 q3 e2
  have r4 := RV.of1 p3 q4 e3
  have r5 := RV.of1 p4 q5 e4
  refine entr (n := 73) Try.func28 rfl rfl rfl <| wp_seq <| rg <| sbx rfl rfl fun b2 w1 hx1 hg1 hb1 => ?_
  have r6 := r2.ext hx1
  have r7 := r3.ext hx1
  have r8 := r4.ext hx1
  have r9 := r5.ext hx1
  have r10 := r0.ext hx1
  refine vl rfl rfl xas <| vl rfl rfl xas <| nl <| wp_seq <| rg <| vl rfl rfl (xlda rfl ti26 rfl (Bx.cs hb1)) <| ?_
  have hz := bs hF; obtain ⟨x2, Ex2, hF⟩ := hz
  refine cl rfl rfl (xc cb52 (mc rfl mn)) (c52 (show RV (α := (Int × (List Int) × (List ((List Int) × Int)) × (List ((List Int) × Int)) × (List (List Int)))) _ (.agg [.int .i64 x0.1, .slice a1 x0.2.1.length cq1, .slice a2 x0.2.2.1.length cq2, .slice a3 x0.2.2.2.1.length cq3, .slice a4 x0.2.2.2.2.length cq4].toArray) (x0.1, x0.2.1, x0.2.2.1, x0.2.2.2.1, x0.2.2.2.2) from ⟨_, rfl, ⟨[.int .i64 x0.1], [.slice a1 x0.2.1.length cq1] ++ ([.slice a2 x0.2.2.1.length cq2] ++ ([.slice a3 x0.2.2.2.1.length cq3] ++ [.slice a4 x0.2.2.2.2.length cq4])), rfl, rfl, ⟨[.slice a1 x0.2.1.length cq1], [.slice a2 x0.2.2.1.length cq2] ++ ([.slice a3 x0.2.2.2.1.length cq3] ++ [.slice a4 x0.2.2.2.2.length cq4]), rfl, r6.rep1, ⟨[.slice a2 x0.2.2.1.length cq2], [.slice a3 x0.2.2.2.1.length cq3] ++ [.slice a4 x0.2.2.2.2.length cq4], rfl, r7.rep1, ⟨[.slice a3 x0.2.2.2.1.length cq3], [.slice a4 x0.2.2.2.2.length cq4], rfl, r8.rep1, r9.rep1⟩⟩⟩⟩⟩) Ex2) ?_
  rintro _ w2 ⟨u1, rfl, r11, hx2⟩
  have k1 := hx1.tr hx2
  have hb2 := hb1.ext hx2
  have r12 := r6.ext hx2
  have r13 := r7.ext hx2
  have r14 := r8.ext hx2
  have r15 := r9.ext hx2
  have hz := obPtr r11; obtain ⟨a5, rfl⟩ := hz
  refine vl rfl rfl xmv <| vl rfl rfl (xext rfl rfl) <| vl rfl rfl (xext rfl rfl) <| vl rfl rfl xas <| vl rfl rfl xas <| nl <| wp_seq <| wp_seq <| rg <| vl rfl rfl xmv <| vl rfl rfl (xneq rfl rfl) <| nl <| cnd rfl (fun h2 => ?_) (fun h2 => ?_)
  ·
    have hF := ifp hF h2
    refine wp_seq <| rg <| vl rfl rfl xmv <| vl rfl rfl xas <| vl rfl rfl xas <| nl <| ?_
    cases hF
    exact wp_ret <| rt rfl (.tmp rfl rfl (.tmp rfl rfl .nil)) ⟨_, rfl, (RVo.nil (Nat.zero_le _)), k1⟩
  ·
    have hF := ifn hF h2
    refine wp_skip <| wp_seq <| rg <| vl rfl rfl xas <| nl <| wp_seq <| ?_
    have o1 : Row (α := Int) 3 w2.heap.size w2 (.slice none 0 0) [] := Row.nil
    have hz := bs hF; obtain ⟨z1, hB1, hF⟩ := hz
    refine ct (fun L w => ∃ v3 : Value, L 6 = v3 ∧ Row 3 w2.heap.size w v3 z1 ∧ Ext w2 w) ?_ ?_
    ·
      refine wp_block <| lp (I := fun m L w => ∃ y1 : (List Int), ∃ v2 : Value, right_Conflicts_l1 F x0 x2 m y1  = some z1 ∧ L 6 = v2 ∧ Row 3 w2.heap.size w v2 y1 ∧ L 1 = .pointer (some ⟨b2, 0, none⟩) ∧ L 4 = .pointer a5 ∧ Ext w2 w) F ⟨_, _, hB1, rfl, o1, rfl, rfl, (Ext.refl _)⟩ ?_
      rintro m L w3 ⟨y1, v2, hB1, l6_i1, O6_i1, l1_i1, l4_i1, K0_i1⟩
      rcases m with _ | m
      · rw [right_Conflicts_l1] at hB1; cases hB1
      rw [right_Conflicts_l1] at hB1
      have k2 := k1.tr K0_i1
      have r16 := r12.ext K0_i1
      have r17 := r13.ext K0_i1
      have r18 := r14.ext K0_i1
      have r19 := r15.ext K0_i1
      have hb3 := hb2.ext K0_i1
      have r20 := r11.ext K0_i1
      have hz := RV.sl O6_i1.rv; obtain ⟨a6, cq5, rfl, -, -, -⟩ := hz
      refine wp_block <| wp_seq <| wpl [] (.pure true 0 (.pure false 1 (.pure false 2 (.pure true 3 (.pure true 4 (.pure true 5 (.pure true 6 (.pure false 7 (.pure false 8 (.eff 9 (.pure true 10 (.pure true 11 .fin)) .stop)))))))))) mixed (by kernel_rfl) (fun w4 hx3 => ?_)
      have k3 := k2.tr hx3
      have k4 := K0_i1.tr hx3
      have hb4 := hb3.ext hx3
      have r21 := r16.ext hx3
      have r22 := r17.ext hx3
      have r23 := r18.ext hx3
      have r24 := r19.ext hx3
      have r25 := r20.ext hx3
      have O1 := O6_i1.ext hx3
      refine pv rfl rfl rfl (fun _ _ => xfa l1_i1 fa26_3) (.inl rfl) <| pv rfl rfl rfl (fun _ hS => xld rfl ti23 ((Bx.cs (hb4.ext (hS.resolve_left nofun))).at 3 rfl)) (.inr (Ext.refl _)) <| pv rfl rfl rfl (fun _ hS => xlen rfl Try.underlying23) (.inr (Ext.refl _)) <| ?_
      have hz := bs hB1; obtain ⟨x3, Ex3, hB1⟩ := hz
      refine pv rfl rfl rfl (fun _ _ => xshl rfl rfl Ex3) (.inl rfl) <| pv rfl rfl rfl (fun _ _ => xsub rfl rfl) (.inl rfl) <| pv rfl rfl rfl (fun _ _ => xmv) (.inl rfl) <| pv rfl rfl rfl (fun _ _ => xfa l1_i1 fa26_3) (.inl rfl) <| pv rfl rfl rfl (fun _ hS => xld rfl ti23 ((Bx.cs (hb4.ext (hS.resolve_left nofun))).at 3 rfl)) (.inr (Ext.refl _)) <| pv rfl rfl rfl (fun _ hS => xlen rfl Try.underlying23) (.inr (Ext.refl _)) <| ?_
      have hz := bs hB1; obtain ⟨x4, Ex4, hB1⟩ := hz
      refine pe1 rfl <| cl rfl rfl (xc cb63 (mc l6_i1 (mc rfl mn))) (c63 O1.rv Ex4) ?_
      rintro _ w5 ⟨rfl, hx4⟩
      have k5 := k3.tr hx4
      have k6 := k4.tr hx4
      have hb5 := hb4.ext hx4
      have r26 := r21.ext hx4
      have r27 := r22.ext hx4
      have r28 := r23.ext hx4
      have r29 := r24.ext hx4
      have r30 := r25.ext hx4
      have O2 := O1.ext hx4
      refine nl ⟨fun _ _ => hx4, ?_⟩
      refine pv rfl rfl rfl (fun _ _ => xandn rfl rfl) (.inl rfl) <| pv rfl rfl rfl (fun _ _ => xas) (.inl rfl) <| wp_seq <| wp_seq <| rg <| vl rfl rfl xmv <| vl rfl rfl xmv <| ?_
      have hz := bs hB1; obtain ⟨x5, Ex5, hB1⟩ := hz
      have hz := obGet r11 Ex5; obtain ⟨b3, cs2, e5, q6, hc1⟩ := hz
      cases e5
      obtain ⟨_, _, rfl, ⟨_, _, rfl, rfl, ⟨_, _, rfl, ⟨a7, cq6, rfl, p5, q7, e6⟩, ⟨_, _, rfl, ⟨a8, cq7, rfl, p6, q8, e7⟩, ⟨_, _, rfl, ⟨a9, cq8, rfl, p7, q9, e8⟩, ⟨a10, cq9, rfl, p8, q10, e9⟩⟩⟩⟩⟩, ⟨_, _, rfl, rfl, ⟨_, _, rfl, ⟨a11, cq10, rfl, p9, q11, e10⟩, ⟨a12, cq11, rfl, p10, q12, e11⟩⟩⟩⟩ := q6
      have r31 := RV.of1 p5 q7 e6
      have r32 := RV.of1 p6 q8 e7
      have r33 := RV.of1 p7 q9 e8
      have r34 := RV.of1 p8 q10 e9
      have r35 := RV.of1 p9 q11 e10
      have r36 := RV.of1 p10 q12 e11
      have hc2 := hc1.ext k6
      have r37 := r31.ext k6
      have r38 := r32.ext k6
      have r39 := r33.ext k6
      have r40 := r34.ext k6
      have r41 := r35.ext k6
      have r42 := r36.ext k6
      have hz := bs hB1; obtain ⟨x6, Ex6, hB1⟩ := hz
      refine cl rfl rfl (xc cb53 (mc l4_i1 (mc rfl mn))) (c53 (x0 := ((x5.1.1, x5.1.2.1, x5.1.2.2.1, x5.1.2.2.2.1, x5.1.2.2.2.2), x5.2.1, x5.2.2.1, x5.2.2.2)) hc2 ⟨[.int .i64 x5.1.1] ++ ([.slice a7 x5.1.2.1.length cq6] ++ ([.slice a8 x5.1.2.2.1.length cq7] ++ ([.slice a9 x5.1.2.2.2.1.length cq8] ++ [.slice a10 x5.1.2.2.2.2.length cq9]))), [.int .i64 x5.2.1] ++ ([.slice a11 x5.2.2.1.length cq10] ++ [.slice a12 x5.2.2.2.length cq11]), rfl, ⟨[.int .i64 x5.1.1], [.slice a7 x5.1.2.1.length cq6] ++ ([.slice a8 x5.1.2.2.1.length cq7] ++ ([.slice a9 x5.1.2.2.2.1.length cq8] ++ [.slice a10 x5.1.2.2.2.2.length cq9])), rfl, rfl, ⟨[.slice a7 x5.1.2.1.length cq6], [.slice a8 x5.1.2.2.1.length cq7] ++ ([.slice a9 x5.1.2.2.2.1.length cq8] ++ [.slice a10 x5.1.2.2.2.2.length cq9]), rfl, r37.rep1, ⟨[.slice a8 x5.1.2.2.1.length cq7], [.slice a9 x5.1.2.2.2.1.length cq8] ++ [.slice a10 x5.1.2.2.2.2.length cq9], rfl, r38.rep1, ⟨[.slice a9 x5.1.2.2.2.1.length cq8], [.slice a10 x5.1.2.2.2.2.length cq9], rfl, r39.rep1, r40.rep1⟩⟩⟩⟩, ⟨[.int .i64 x5.2.1], [.slice a11 x5.2.2.1.length cq10] ++ [.slice a12 x5.2.2.2.length cq11], rfl, rfl, ⟨[.slice a11 x5.2.2.1.length cq10], [.slice a12 x5.2.2.2.length cq11], rfl, r41.rep1, r42.rep1⟩⟩⟩ Ex6) ?_
      rintro _ w6 ⟨rfl, hx5⟩
      have k7 := k5.tr hx5
      have k8 := k6.tr hx5
      have k9 := hx4.tr hx5
      have hb6 := hb5.ext hx5
      have r43 := r26.ext hx5
      have r44 := r27.ext hx5
      have r45 := r28.ext hx5
      have r46 := r29.ext hx5
      have r47 := r37.ext hx5
      have r48 := r38.ext hx5
      have r49 := r39.ext hx5
      have r50 := r40.ext hx5
      have r51 := r41.ext hx5
      have r52 := r42.ext hx5
      have hc3 := hc2.ext hx5
      have O3 := O2.ext hx5
      refine nl <| cnd rfl (fun h3 => ?_) (fun h3 => ?_)
      ·
        have hB1 := ifp hB1 h3
        refine wp_exit <| ?_
        cases hB1
        refine lf <| ?_
        exact ⟨_, l6_i1, O3, k8⟩
      ·
        have hB1 := ifn hB1 h3
        refine wp_skip <| wp_seq <| wp_seq <| rg <| vl rfl rfl (xfa l1_i1 fa26_3) <| vl rfl rfl (xld rfl ti23 ((Bx.cs hb6).at 3 rfl)) <| vl rfl rfl (xlen rfl Try.underlying23) <| vl rfl rfl xmv <| nl <| ?_
        have hz := bs hB1; obtain ⟨z2, hB4, hB1⟩ := hz
        refine ct (fun L w => L 7 = .int .i64 z2 ∧ L 1 = .pointer (some ⟨b2, 0, none⟩) ∧ L 4 = .pointer (some ⟨b3, 0, none⟩) ∧ L 6 = .slice a6 y1.length cq5 ∧ w2.heap.size ≤ w.heap.size ∧ Ext w6 w) ?_ ?_
        ·
          refine wp_block <| lp (I := fun m L w => ∃ y2 : Int, ∃ y3 : Int, right_Conflicts_l2 F x0 x5 m y2 y3  = some z2 ∧ L 7 = .int .i64 y2 ∧ L 38 = .int .i64 y3 ∧ L 1 = .pointer (some ⟨b2, 0, none⟩) ∧ L 4 = .pointer (some ⟨b3, 0, none⟩) ∧ L 6 = .slice a6 y1.length cq5 ∧ L 37 = .int .i64 (x0.2.2.2.1.length : Int) ∧ w2.heap.size ≤ w.heap.size ∧ Ext w6 w) F ⟨_, _, hB4, rfl, rfl, l1_i1, l4_i1, l6_i1, rfl, k8.size, (Ext.refl _)⟩ ?_
          rintro m L w7 ⟨y2, y3, hB4, l7_i2, l38_i2, l1_i2, l4_i2, l6_i2, l37_i2, Z0_i2, K0_i2⟩
          rcases m with _ | m
          · rw [right_Conflicts_l2] at hB4; cases hB4
          rw [right_Conflicts_l2] at hB4
          have k10 := k7.tr K0_i2
          have k11 := k8.tr K0_i2
          have k12 := k9.tr K0_i2
          have r53 := r43.ext K0_i2
          have r54 := r44.ext K0_i2
          have r55 := r45.ext K0_i2
          have r56 := r46.ext K0_i2
          have hb7 := hb6.ext K0_i2
          have r57 := r47.ext K0_i2
          have r58 := r48.ext K0_i2
          have r59 := r49.ext K0_i2
          have r60 := r50.ext K0_i2
          have r61 := r51.ext K0_i2
          have r62 := r52.ext K0_i2
          have hc4 := hc3.ext K0_i2
          have O4 := O3.ext K0_i2
          refine wp_seq <| rg <| vl rfl rfl (xlss l38_i2 l37_i2) <| nl <| wp_seq <| cnd rfl (fun h4 => ?_) (fun h4 => ?_)
          ·
            have hB4 := ifp hB4 h4
            refine wp_skip <| wp_seq <| ?_
            have hz := bs hB4; obtain ⟨y4, hB6, hB4⟩ := hz
            refine ct (fun L w => L 7 = .int .i64 y4 ∧ L 1 = .pointer (some ⟨b2, 0, none⟩) ∧ L 4 = .pointer (some ⟨b3, 0, none⟩) ∧ L 6 = .slice a6 y1.length cq5 ∧ L 37 = .int .i64 (x0.2.2.2.1.length : Int) ∧ L 38 = .int .i64 y3 ∧ w2.heap.size ≤ w.heap.size ∧ Ext w7 w) ?_ ?_
            ·
              refine wp_block <| wp_seq <| rg <| vl rfl rfl xmv <| vl rfl rfl xas <| nl <| wp_seq <| rg <| vl rfl rfl xmv <| vl rfl rfl xmv <| ?_
              have hz := bs hB6; obtain ⟨x7, Ex7, hB6⟩ := hz
              refine vl rfl rfl (xshl rfl l38_i2 Ex7) <| vl rfl rfl (xandn l7_i2 rfl) <| vl rfl rfl xas <| nl <| wp_seq <| rg <| vl rfl rfl xmv <| vl rfl rfl xmv <| ?_
              have hz := bs hB6; obtain ⟨x8, Ex8, hB6⟩ := hz
              refine cl rfl rfl (xc cb53 (mc l4_i2 (mc rfl mn))) (c53 (x0 := ((x5.1.1, x5.1.2.1, x5.1.2.2.1, x5.1.2.2.2.1, x5.1.2.2.2.2), x5.2.1, x5.2.2.1, x5.2.2.2)) hc4 ⟨[.int .i64 x5.1.1] ++ ([.slice a7 x5.1.2.1.length cq6] ++ ([.slice a8 x5.1.2.2.1.length cq7] ++ ([.slice a9 x5.1.2.2.2.1.length cq8] ++ [.slice a10 x5.1.2.2.2.2.length cq9]))), [.int .i64 x5.2.1] ++ ([.slice a11 x5.2.2.1.length cq10] ++ [.slice a12 x5.2.2.2.length cq11]), rfl, ⟨[.int .i64 x5.1.1], [.slice a7 x5.1.2.1.length cq6] ++ ([.slice a8 x5.1.2.2.1.length cq7] ++ ([.slice a9 x5.1.2.2.2.1.length cq8] ++ [.slice a10 x5.1.2.2.2.2.length cq9])), rfl, rfl, ⟨[.slice a7 x5.1.2.1.length cq6], [.slice a8 x5.1.2.2.1.length cq7] ++ ([.slice a9 x5.1.2.2.2.1.length cq8] ++ [.slice a10 x5.1.2.2.2.2.length cq9]), rfl, r57.rep1, ⟨[.slice a8 x5.1.2.2.1.length cq7], [.slice a9 x5.1.2.2.2.1.length cq8] ++ [.slice a10 x5.1.2.2.2.2.length cq9], rfl, r58.rep1, ⟨[.slice a9 x5.1.2.2.2.1.length cq8], [.slice a10 x5.1.2.2.2.2.length cq9], rfl, r59.rep1, r60.rep1⟩⟩⟩⟩, ⟨[.int .i64 x5.2.1], [.slice a11 x5.2.2.1.length cq10] ++ [.slice a12 x5.2.2.2.length cq11], rfl, rfl, ⟨[.slice a11 x5.2.2.1.length cq10], [.slice a12 x5.2.2.2.length cq11], rfl, r61.rep1, r62.rep1⟩⟩⟩ Ex8) ?_
              rintro _ w8 ⟨rfl, hx6⟩
              have k13 := k10.tr hx6
              have k14 := k11.tr hx6
              have k15 := k12.tr hx6
              have k16 := K0_i2.tr hx6
              have zs1 := Nat.le_trans Z0_i2 hx6.size
              have hb8 := hb7.ext hx6
              have r63 := r53.ext hx6
              have r64 := r54.ext hx6
              have r65 := r55.ext hx6
              have r66 := r56.ext hx6
              have r67 := r57.ext hx6
              have r68 := r58.ext hx6
              have r69 := r59.ext hx6
              have r70 := r60.ext hx6
              have r71 := r61.ext hx6
              have r72 := r62.ext hx6
              have hc5 := hc4.ext hx6
              have O5 := O4.ext hx6
              refine vl rfl rfl (xnot rfl) <| nl <| ?_
              have hz := bs hB6; obtain ⟨y5, hB7, hB6⟩ := hz
              refine ct (fun L w => L 7 = .int .i64 y5 ∧ L 1 = .pointer (some ⟨b2, 0, none⟩) ∧ L 4 = .pointer (some ⟨b3, 0, none⟩) ∧ L 6 = .slice a6 y1.length cq5 ∧ L 37 = .int .i64 (x0.2.2.2.1.length : Int) ∧ L 38 = .int .i64 y3 ∧ w2.heap.size ≤ w.heap.size ∧ Ext w8 w) ?_ ?_
              ·
                refine cnd rfl (fun h5 => ?_) (fun h5 => ?_)
                ·
                  have hB7 := ifp hB7 h5
                  refine rg <| vl rfl rfl xmv <| vl rfl rfl xas <| nl <| ?_
                  cases hB7
                  refine lf <| ?_
                  exact ⟨rfl, l1_i2, l4_i2, l6_i2, l37_i2, l38_i2, zs1, (Ext.refl _)⟩
                ·
                  have hB7 := ifn hB7 h5
                  refine wp_skip <| ?_
                  cases hB7
                  refine lf <| ?_
                  exact ⟨l7_i2, l1_i2, l4_i2, l6_i2, l37_i2, l38_i2, zs1, (Ext.refl _)⟩
              rintro L w9 ⟨l7_j1, l1_j1, l4_j1, l6_j1, l37_j1, l38_j1, Z0_j1, K0_j1⟩
              have k17 := k13.tr K0_j1
              have k18 := k14.tr K0_j1
              have k19 := k15.tr K0_j1
              have k20 := k16.tr K0_j1
              have k21 := hx6.tr K0_j1
              have r73 := r63.ext K0_j1
              have r74 := r64.ext K0_j1
              have r75 := r65.ext K0_j1
              have r76 := r66.ext K0_j1
              have hb9 := hb8.ext K0_j1
              have r77 := r67.ext K0_j1
              have r78 := r68.ext K0_j1
              have r79 := r69.ext K0_j1
              have r80 := r70.ext K0_j1
              have r81 := r71.ext K0_j1
              have r82 := r72.ext K0_j1
              have hc6 := hc5.ext K0_j1
              have O6 := O5.ext K0_j1
              cases hB6
              refine lf <| ?_
              exact ⟨l7_j1, l1_j1, l4_j1, l6_j1, l37_j1, l38_j1, Z0_j1, k21⟩
            rintro L w10 ⟨l7_j2, l1_j2, l4_j2, l6_j2, l37_j2, l38_j2, Z0_j2, K0_j2⟩
            have k22 := k10.tr K0_j2
            have k23 := k11.tr K0_j2
            have k24 := k12.tr K0_j2
            have k25 := K0_i2.tr K0_j2
            have r83 := r53.ext K0_j2
            have r84 := r54.ext K0_j2
            have r85 := r55.ext K0_j2
            have r86 := r56.ext K0_j2
            have hb10 := hb7.ext K0_j2
            have r87 := r57.ext K0_j2
            have r88 := r58.ext K0_j2
            have r89 := r59.ext K0_j2
            have r90 := r60.ext K0_j2
            have r91 := r61.ext K0_j2
            have r92 := r62.ext K0_j2
            have hc7 := hc4.ext K0_j2
            have O7 := O4.ext K0_j2
            refine rg <| vl rfl rfl (xadd l38_j2 rfl) <| vl rfl rfl xmv <| nl <| ?_
            refine lq m (Nat.lt_succ_self _) <| ?_
            exact ⟨_, _, hB4, l7_j2, rfl, l1_j2, l4_j2, l6_j2, l37_j2, Z0_j2, k25⟩
          ·
            have hB4 := ifn hB4 h4
            refine wp_exit <| ?_
            cases hB4
            refine lf <| ?_
            exact ⟨l7_i2, l1_i2, l4_i2, l6_i2, Z0_i2, K0_i2⟩
        rintro L w11 ⟨l7_j3, l1_j3, l4_j3, l6_j3, Z0_j3, K0_j3⟩
        have k26 := k7.tr K0_j3
        have k27 := k8.tr K0_j3
        have k28 := k9.tr K0_j3
        have r93 := r43.ext K0_j3
        have r94 := r44.ext K0_j3
        have r95 := r45.ext K0_j3
        have r96 := r46.ext K0_j3
        have hb11 := hb6.ext K0_j3
        have r97 := r47.ext K0_j3
        have r98 := r48.ext K0_j3
        have r99 := r49.ext K0_j3
        have r100 := r50.ext K0_j3
        have r101 := r51.ext K0_j3
        have r102 := r52.ext K0_j3
        have hc8 := hc3.ext K0_j3
        have O8 := O3.ext K0_j3
        refine rg <| vl rfl rfl xmv <| vl rfl rfl xmv <| vl rfl rfl (xlen l6_j3 Try.underlying22) <| vl rfl rfl xmv <| vl rfl rfl (xlen l6_j3 Try.underlying22) <| ?_
        have r103 := RV.full O8.rv
        refine vl rfl rfl (xslf l6_j3 (RV.cap O8.rv).2.1 Try.underlying22 ti3 rfl rfl) <| vl rfl rfl xmv <| sbsv (cs := [.int .i64 z2]) Try.underlying22 ti3 rfl (pc l7_j3 pn) rfl rfl rfl rfl rfl fun b4 w12 hx7 hg2 hb12 => ?_
        have k29 := k26.tr hx7
        have k30 := k27.tr hx7
        have k31 := k28.tr hx7
        have k32 := K0_j3.tr hx7
        have zs2 := Nat.le_trans Z0_j3 hx7.size
        have hb13 := hb11.ext hx7
        have r104 := r93.ext hx7
        have r105 := r94.ext hx7
        have r106 := r95.ext hx7
        have r107 := r96.ext hx7
        have r108 := r97.ext hx7
        have r109 := r98.ext hx7
        have r110 := r99.ext hx7
        have r111 := r100.ext hx7
        have r112 := r101.ext hx7
        have r113 := r102.ext hx7
        have hc9 := hc8.ext hx7
        have r114 := r103.ext hx7
        have o4 : Row (α := Int) 3 w11.heap.size w12 (.slice (some ⟨b4, 0, none⟩) 1 1) [z2] := Row.lit hg2 hb12 rfl (ble rfl)
        have hz := bs hB1; obtain ⟨x9, Ex9, hB1⟩ := hz
        refine sapf (l := y1) (k := ([z2] : List Int)) rfl rfl Try.underlying22 ti3 rfl rfl r114 o4.rv rfl Ex9 fun v4 w13 o5 hx8 => ?_
        have k33 := k29.tr hx8
        have k34 := k30.tr hx8
        have k35 := k31.tr hx8
        have k36 := k32.tr hx8
        have k37 := hx7.tr hx8
        have zs3 := Nat.le_trans zs2 hx8.size
        have hb14 := hb13.ext hx8
        have r116 := r104.ext hx8
        have r117 := r105.ext hx8
        have r118 := r106.ext hx8
        have r119 := r107.ext hx8
        have r120 := r108.ext hx8
        have r121 := r109.ext hx8
        have r122 := r110.ext hx8
        have r123 := r111.ext hx8
        have r124 := r112.ext hx8
        have r125 := r113.ext hx8
        have hc10 := hc9.ext hx8
        have hz := RV.sl o5.rv; obtain ⟨a13, cq12, rfl, -, -, -⟩ := hz
        refine vl rfl rfl xas <| nl <| ?_
        refine lq m (Nat.lt_succ_self _) <| ?_
        exact ⟨_, _, hB1, rfl, (o5.bnd k30.size), l1_j3, l4_j3, k34⟩
    rintro L w14 ⟨v3, l6_j4, O6_j4, K0_j4⟩
    have k38 := k1.tr K0_j4
    have hz := RV.sl O6_j4.rv; obtain ⟨a14, cq13, rfl, -, -, -⟩ := hz
    refine wp_seq <| rg <| vl rfl rfl xas <| nl <| wp_seq <| wp_seq <| rg <| vl rfl rfl xmv <| vl rfl rfl (xlen l6_j4 Try.underlying22) <| vl rfl rfl xmv <| nl <| ?_
    have o6 : DRow (α := (List Int)) w0.heap.size 22 w14.heap.size w14 (.slice none 0 0) [] := DRow.nil
    have hz := bs hF; obtain ⟨z3, hB11, hF⟩ := hz
    refine ct (fun L w => ∃ v6 : Value, L 10 = v6 ∧ DRow w0.heap.size 22 w14.heap.size w v6 z3 ∧ Apart (v6) (.slice a14 z1.length cq13) ∧ w2.heap.size ≤ w.heap.size ∧ Ext w14 w) ?_ ?_
    ·
      refine wp_block <| lp (I := fun m L w => ∃ y6 : (List (List Int)), ∃ y7 : Int, ∃ v5 : Value, right_Conflicts_l3 F z1 m y6 y7  = some z3 ∧ L 10 = v5 ∧ DRow w0.heap.size 22 w14.heap.size w v5 y6 ∧ L 62 = .int .i64 y7 ∧ Apart (v5) (.slice a14 z1.length cq13) ∧ L 60 = .slice a14 z1.length cq13 ∧ L 61 = .int .i64 (z1.length : Int) ∧ w2.heap.size ≤ w.heap.size ∧ Ext w14 w) F ⟨_, _, _, hB11, rfl, o6, rfl, (Apart.symm (Apart.old' O6_j4.own_lt (fun q e => (o6.lt q e).1))), l6_j4, rfl, K0_j4.size, (Ext.refl _)⟩ ?_
      rintro m L w15 ⟨y6, y7, v5, hB11, l10_i3, O10_i3, l62_i3, X0_i3, l60_i3, l61_i3, Z0_i3, K0_i3⟩
      rcases m with _ | m
      · rw [right_Conflicts_l3] at hB11; cases hB11
      rw [right_Conflicts_l3] at hB11
      have k39 := k38.tr K0_i3
      have k40 := K0_j4.tr K0_i3
      have O9 := O6_j4.ext K0_i3
      have hz := RV.sl O10_i3.rv; obtain ⟨a15, cq14, rfl, -, -, -⟩ := hz
      refine wp_seq <| rg <| vl rfl rfl (xlss l62_i3 l61_i3) <| nl <| wp_seq <| cnd rfl (fun h6 => ?_) (fun h6 => ?_)
      ·
        have hB11 := ifp hB11 h6
        refine wp_skip <| wp_seq <| wp_block <| wp_seq <| rg <| ?_
        have hz := bs hB11; obtain ⟨x10, Ex10, hB11⟩ := hz
        have hz := (RV.els O9.rv).ix Ex10; obtain ⟨b5, f1, cs3, e12, i4, i5, q13, hc11⟩ := hz
        cases e12
        obtain rfl := q13
        refine vl rfl rfl (xixs l60_i3 l62_i3 Try.underlying22 ti3 i4 i5) <| vl rfl rfl (xld rfl ti3 (hc11.at 0 rfl)) <| vl rfl rfl xas <| nl <| rg <| vl rfl rfl xmv <| vl rfl rfl xmv <| ?_
        have hz := bs hB11; obtain ⟨x11, Ex11, hB11⟩ := hz
        refine cl rfl rfl (xc cb55 (mc rfl mn)) (c55 Ex11) ?_
        rintro _ w16 ⟨u2, rfl, r126, hx9⟩
        have k41 := k39.tr hx9
        have k42 := k40.tr hx9
        have k43 := K0_i3.tr hx9
        have zs4 := Nat.le_trans Z0_i3 hx9.size
        have O10 := O9.ext hx9
        have O11 := O10_i3.ext hx9
        have hz := RV.sl r126.rv; obtain ⟨a16, cq15, rfl, -, -, -⟩ := hz
        refine sbsv (cs := [.slice a16 x11.length cq15]) Try.underlying24 ti22 rfl (pc rfl pn) rfl rfl rfl rfl rfl fun b6 w17 hx10 hg3 hb15 => ?_
        have k44 := k41.tr hx10
        have k45 := k42.tr hx10
        have k46 := k43.tr hx10
        have k47 := hx9.tr hx10
        have zs5 := Nat.le_trans zs4 hx10.size
        have O12 := O10.ext hx10
        have O13 := O11.ext hx10
        have r128 := r126.ext hx10
        have r127 : RV w17 (.slice (some ⟨b6, 0, none⟩) 1 1) ([x11] : List (List Int)) := RV.lit hb15 (css := [[.slice a16 x11.length cq15]]) rfl ⟨r128.rv.rep1, trivial⟩ rfl (ble rfl)
        have hz := bs hB11; obtain ⟨x12, Ex12, hB11⟩ := hz
        refine sapd (l := y6) (k := ([x11] : List (List Int))) l10_i3 rfl Try.underlying24 ti22 rfl rfl O13 (ElsD.lit1 hb15 (RVo.rep1 (RVo.okn (Row.rvob r128) K0_i3.size O10_i3.own_lt))) Ex12 k46.size fun v7 w18 o8 hB13 hgr1 how1 => ?_
        have k48 := Ext.grow k44 k38.size hB13
        have k49 := Ext.grow k45 K0_j4.size hB13
        have k50 : Ext w14 w18 := k46.trans hB13
        have X1 := Apart.app how1 X0_i3 O12.own_lt
        have zs6 := Nat.le_trans zs5 hgr1.size
        have O14 := O6_j4.ext k50
        have hz := RV.sl o8.rv; obtain ⟨a17, cq16, rfl, -, -, -⟩ := hz
        refine vl rfl rfl xas <| nl <| rg <| vl rfl rfl (xadd l62_i3 rfl) <| vl rfl rfl xmv <| nl <| ?_
        refine lq m (Nat.lt_succ_self _) <| ?_
        exact ⟨_, _, _, hB11, rfl, o8, rfl, X1, l60_i3, l61_i3, zs6, k50⟩
      ·
        have hB11 := ifn hB11 h6
        refine wp_exit <| ?_
        cases hB11
        refine lf <| ?_
        exact ⟨_, l10_i3, O10_i3, X0_i3, Z0_i3, K0_i3⟩
    rintro L w19 ⟨v6, l10_j5, O10_j5, X0_j5, Z0_j5, K0_j5⟩
    have k51 := k38.tr K0_j5
    have k52 := K0_j4.tr K0_j5
    have hz := RV.sl O10_j5.rv; obtain ⟨a18, cq17, rfl, -, -, -⟩ := hz
    refine wp_seq <| rg <| vl rfl rfl xmv <| vl rfl rfl xas <| vl rfl rfl xas <| nl <| ?_
    cases hF
    exact wp_ret <| rt rfl (.tmp l10_j5 rfl (.tmp rfl rfl .nil)) ⟨_, rfl, O10_j5.rv, k51⟩
end Go.Proofs.Ytdimoehnkagghaa
