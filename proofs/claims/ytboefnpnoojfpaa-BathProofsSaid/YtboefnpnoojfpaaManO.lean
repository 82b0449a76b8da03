/-
  A shop, opened: a new variable whose map is nil, and its stocks, in memory of their own. Condition: the pure function computes something.
-/
import Derived.Test.YtboefnpnoojfpaaWalkZ
import Derived.Test.YtboefnpnoojfpaaMore
namespace Go.Proofs.Ytboefnpnoojfpaa
open Go Go.Md Go.RowKit
attribute [local irreducible] Go.wpList Go.Code.wp Go.Calls Go.Md.Rnd Go.Md.Mt Go.Md.MtM Go.Md.RndM Go.Code.wpIn

set_option maxHeartbeats 4000000 in
theorem c45o {w0 : World} {v0 : Value} {x0 : ((List Int) × (List ((List Int) × (List Int))))} (r0 : RV w0 v0 x0) {v1 : Value} {x1 : (List (List Int))} (r1 : RV w0 v1 x1) {F : Nat} {r : ((Ob (((List Int) × (List ((List Int) × (List Int)))) × Opq)) × (List (Ar 5 Int)) × Int)} (hF : bath_open F x0 x1 = some r) :
    Calls Try.prog 45 [v0, v1].toArray w0 (Ret fun v w' => ∃ u0 u1 : Value, v = .tuple #[u0, u1, .int .i64 r.2.2] ∧ FBm 105 w0.heap.size w' u0 v0.cells.toList r.1 ∧ Row 79 w0.heap.size w' u1 r.2.1 ∧ Ext w0 w') := by
  unfold bath_open at hF
  have hz := id r0; obtain ⟨_, rfl, ⟨_, _, rfl, ⟨a1, cq1, rfl, p1, q3, e1⟩, ⟨a2, cq2, rfl, p2, q4, e2⟩⟩⟩ := hz
  have r3 := RV.of1 p1 q3 e1
  have r4 := RV.of1 p2 q4 e2
  have hz := r1.sl; obtain ⟨a3, cq3, rfl, -, -, -⟩ := hz
  refine entr (n := 60) Try.func45 rfl rfl rfl <| wp_seq <| rg <| sbx rfl rfl fun b3 w1 hx1 hg1 hb1 => ?_
  have r5 := r1.ext hx1
  have r6 := r3.ext hx1
  have r7 := r4.ext hx1
  have r8 := r0.ext hx1
  refine vl rfl rfl xas <| vl rfl rfl xas <| vl rfl rfl xas <| nl <| wp_seq <| wp_seq <| rg <| vl rfl rfl (xlda rfl ti25 rfl (Bx.cs hb1)) <| ?_
  have hz := bs hF; obtain ⟨x3, Ex3, hF⟩ := hz
  refine cl rfl rfl (xc cb16 (mc rfl mn)) (c16 (show RV (α := ((List Int) × (List ((List Int) × (List Int))))) _ (.agg [.slice a1 x0.1.length cq1, .slice a2 x0.2.length cq2].toArray) (x0.1, x0.2) from ⟨_, rfl, ⟨[.slice a1 x0.1.length cq1], [.slice a2 x0.2.length cq2], rfl, r6.rep1, r7.rep1⟩⟩) Ex3) ?_
  rintro _ w2 ⟨rfl, hx2⟩
  have k1 := hx1.tr hx2
  have hb2 := hb1.ext hx2
  have r9 := r6.ext hx2
  have r10 := r7.ext hx2
  have r11 := r5.ext hx2
  refine vl rfl rfl xas <| nl <| wp_seq <| rg <| vl rfl rfl xmv <| vl rfl rfl (xneq rfl rfl) <| nl <| cnd rfl (fun h3 => ?_) (fun h3 => ?_)
  ·
    have hF := ifp hF h3
    refine wp_seq <| rg <| vl rfl rfl xmv <| vl rfl rfl xas <| vl rfl rfl xas <| vl rfl rfl xas <| nl <| ?_
    cases hF
    exact wp_ret <| rt rfl (.tmp rfl rfl (.tmp rfl rfl (.tmp rfl rfl .nil))) ⟨_, _, rfl, FBm.nil, Row.nil, k1⟩
  ·
    have hF := ifn hF h3
    refine wp_skip <| wp_seq <| rg <| vl rfl rfl xas <| nl <| wp_seq <| wp_seq <| rg <| vl rfl rfl xmv <| vl rfl rfl (xlen rfl Try.underlying101) <| vl rfl rfl xmv <| nl <| ?_
    have o1 : Row (α := (Ar 5 Int)) 79 w2.heap.size w2 (.slice none 0 0) [] := Row.nil
    have hz := bs hF; obtain ⟨o2, hB1, hF⟩ := hz
    refine ct (fun L w => ∃ z1 : (List (Ar 5 Int)), ∃ v4 : Value, o2 = .inr z1 ∧ L 8 = v4 ∧ Row 79 w2.heap.size w v4 z1 ∧ L 2 = .pointer (some ⟨b3, 0, none⟩) ∧ Ext w2 w) ?_ ?_
    ·
      refine wp_block <| lp (I := fun m L w => ∃ y1 : (List (Ar 5 Int)), ∃ y2 : Int, ∃ v3 : Value, bath_open_l1 F x0 x1 m y1 y2  = some o2 ∧ L 8 = v3 ∧ Row 79 w2.heap.size w v3 y1 ∧ L 21 = .int .i64 y2 ∧ L 2 = .pointer (some ⟨b3, 0, none⟩) ∧ L 19 = .slice a3 x1.length cq3 ∧ L 20 = .int .i64 (x1.length : Int) ∧ Ext w2 w) F ⟨_, _, _, hB1, rfl, o1, rfl, rfl, rfl, rfl, (Ext.refl _)⟩ ?_
      rintro m L w3 ⟨y1, y2, v3, hB1, l8_i1, O8_i1, l21_i1, l2_i1, l19_i1, l20_i1, K0_i1⟩
      rcases m with _ | m
      · rw [bath_open_l1] at hB1; cases hB1
      rw [bath_open_l1] at hB1
      have k2 := k1.tr K0_i1
      have r12 := r9.ext K0_i1
      have r13 := r10.ext K0_i1
      have hb3 := hb2.ext K0_i1
      have r14 := r11.ext K0_i1
      have hz := RV.sl O8_i1.rv; obtain ⟨a4, cq4, rfl, -, -, -⟩ := hz
      refine wp_seq <| rg <| vl rfl rfl (xlss l21_i1 l20_i1) <| nl <| wp_seq <| cnd rfl (fun h4 => ?_) (fun h4 => ?_)
      ·
        have hB1 := ifp hB1 h4
        refine wp_skip <| wp_seq <| wp_block <| wp_seq <| rg <| ?_
        have hz := bs hB1; obtain ⟨x4, Ex4, hB1⟩ := hz
        have hz := (RV.els r1).ix Ex4; obtain ⟨b4, f1, cs3, e3, i2, i3, q5, hc1⟩ := hz
        cases e3
        obtain ⟨a5, cq5, rfl, p3, q6, e4⟩ := q5
        have r15 := RV.of1 p3 q6 e4
        have hc2 := hc1.ext k2
        have r16 := r15.ext k2
        refine vl rfl rfl (xixs l19_i1 l21_i1 Try.underlying101 ti22 i2 i3) <| vl rfl rfl (xld rfl ti22 (hc2.at 0 rfl)) <| vl rfl rfl xas <| nl <| wp_seq <| wp_seq <| rg <| vl rfl rfl xmv <| vl rfl rfl (xlen rfl Try.underlying22) <| vl rfl rfl (xfa l2_i1 fa25_0) <| vl rfl rfl (xld rfl ti22 ((Bx.cs hb3).at 0 rfl)) <| vl rfl rfl (xlen rfl Try.underlying22) <| vl rfl rfl (xneq rfl rfl) <| nl <| cnd rfl (fun h5 => ?_) (fun h5 => ?_)
        ·
          have hB1 := ifp hB1 h5
          refine wp_seq <| rg <| vl rfl rfl xas <| vl rfl rfl xas <| vl rfl rfl xas <| nl <| ?_
          cases hB1
          have hF := (show some _ = some _ from hF); cases hF
          exact wp_ret <| rt rfl (.tmp rfl rfl (.tmp rfl rfl (.tmp rfl rfl .nil))) ⟨_, _, rfl, FBm.nil, Row.nil, k2⟩
        ·
          have hB1 := ifn hB1 h5
          refine wp_skip <| wp_seq <| rg <| sal ti79 fun b5 w4 hx3 hg2 hb4 => ?_
          have k3 := k2.tr hx3
          have k4 := K0_i1.tr hx3
          have hb5 := hb3.ext hx3
          have r17 := r12.ext hx3
          have r18 := r13.ext hx3
          have r19 := r14.ext hx3
          have O1 := O8_i1.ext hx3
          have r20 := r16.ext hx3
          have hb6 : Bx w4 b5 79 (List.flatMap Flat.enc ((Ar.fill 5 0 : (Ar 5 Int))).l) := hb4
          refine nl <| wp_seq <| wp_seq <| rg <| vl rfl rfl xmv <| vl rfl rfl (xlen rfl Try.underlying22) <| vl rfl rfl xmv <| nl <| ?_
          have hz := bs hB1; obtain ⟨o3, hB5, hB1⟩ := hz
          refine ct (fun L w => ∃ z2 : (Ar 5 Int), o3 = .inr z2 ∧ Bx w b5 79 (List.flatMap Flat.enc z2.l) ∧ L 2 = .pointer (some ⟨b3, 0, none⟩) ∧ L 8 = .slice a4 y1.length cq4 ∧ L 11 = .pointer (some ⟨b5, 0, none⟩) ∧ L 19 = .slice (some ⟨b4, f1, none⟩) x1.length cq3 ∧ L 20 = .int .i64 (x1.length : Int) ∧ L 21 = .int .i64 y2 ∧ w2.heap.size ≤ w.heap.size ∧ Ext w3 w) ?_ ?_
          ·
            refine wp_block <| lp (I := fun m L w => ∃ y3 : Int, ∃ y4 : (Ar 5 Int), bath_open_l2 F x0 x4 m y3 y4  = some o3 ∧ L 33 = .int .i64 y3 ∧ Bx w b5 79 (List.flatMap Flat.enc y4.l) ∧ L 2 = .pointer (some ⟨b3, 0, none⟩) ∧ L 8 = .slice a4 y1.length cq4 ∧ L 11 = .pointer (some ⟨b5, 0, none⟩) ∧ L 19 = .slice (some ⟨b4, f1, none⟩) x1.length cq3 ∧ L 20 = .int .i64 (x1.length : Int) ∧ L 21 = .int .i64 y2 ∧ L 31 = .slice a5 x4.length cq5 ∧ L 32 = .int .i64 (x4.length : Int) ∧ w2.heap.size ≤ w.heap.size ∧ Ext w3 w) F ⟨_, _, hB5, rfl, hb6, l2_i1, l8_i1, rfl, l19_i1, l20_i1, l21_i1, rfl, rfl, k4.size, hx3⟩ ?_
            rintro m L w5 ⟨y3, y4, hB5, l33_i4, B11_i4, l2_i4, l8_i4, l11_i4, l19_i4, l20_i4, l21_i4, l31_i4, l32_i4, Z0_i4, K0_i4⟩
            rcases m with _ | m
            · rw [bath_open_l2] at hB5; cases hB5
            rw [bath_open_l2] at hB5
            have k5 := k2.tr K0_i4
            have k6 := K0_i1.tr K0_i4
            have r21 := r12.ext K0_i4
            have r22 := r13.ext K0_i4
            have hb7 := hb3.ext K0_i4
            have O2 := O8_i1.ext K0_i4
            have r23 := r14.ext K0_i4
            have r24 := r16.ext K0_i4
            refine wp_seq <| rg <| vl rfl rfl (xlss l33_i4 l32_i4) <| nl <| wp_seq <| cnd rfl (fun h6 => ?_) (fun h6 => ?_)
            ·
              have hB5 := ifp hB5 h6
              refine wp_skip <| wp_seq <| wp_block <| wp_seq <| rg <| vl rfl rfl xmv <| ?_
              have hz := bs hB5; obtain ⟨x5, Ex5, hB5⟩ := hz
              have hz := (RV.els r15).ix Ex5; obtain ⟨b6, f2, cs4, e5, i5, i6, q7, hc3⟩ := hz
              cases e5
              obtain rfl := q7
              have hc4 := hc3.ext k5
              refine vl rfl rfl (xixs l31_i4 l33_i4 Try.underlying22 ti2 i5 i6) <| vl rfl rfl (xld rfl ti2 (hc4.at 0 rfl)) <| vl rfl rfl xas <| vl rfl rfl xas <| nl <| wp_seq <| wp_seq <| rg <| vl rfl rfl (xfa l2_i4 fa25_0) <| vl rfl rfl (xld rfl ti22 ((Bx.cs hb7).at 0 rfl)) <| vl rfl rfl xmv <| ?_
              have hz := bs hB5; obtain ⟨x6, Ex6, hB5⟩ := hz
              have hz := (RV.els r3).ix Ex6; obtain ⟨b7, f3, cs5, e6, i7, i8, q8, hc5⟩ := hz
              cases e6
              obtain rfl := q8
              have hc6 := hc5.ext k5
              refine vl rfl rfl (xixs rfl l33_i4 Try.underlying22 ti2 i7 i8) <| vl rfl rfl (xld rfl ti2 (hc6.at 0 rfl)) <| vl rfl rfl xmv <| sbsv (cs := [.int .i64 x5]) Try.underlying22 ti2 rfl (pc rfl pn) rfl rfl rfl rfl rfl fun b8 w6 hx4 hg3 hb8 => ?_
              have k7 := k5.tr hx4
              have k8 := k6.tr hx4
              have k9 := K0_i4.tr hx4
              have zs1 := Nat.le_trans Z0_i4 hx4.size
              have hb9 := hb7.ext hx4
              have r25 := r21.ext hx4
              have r26 := r22.ext hx4
              have B1 := B11_i4.ext hx4
              have O3 := O2.ext hx4
              have r27 := r23.ext hx4
              have r28 := r24.ext hx4
              have o4 : Row (α := Int) 2 w5.heap.size w6 (.slice (some ⟨b8, 0, none⟩) 1 1) [x5] := Row.lit hg3 hb8 rfl (ble rfl)
              have hz := bs hB5; obtain ⟨x7, Ex7, hB5⟩ := hz
              refine cl rfl rfl (xc cb51 (mc rfl (mc rfl (mc rfl mn)))) (c51 o4.rv Ex7) ?_
              rintro _ w7 ⟨rfl, hx5⟩
              have k10 := k7.tr hx5
              have k11 := k8.tr hx5
              have k12 := k9.tr hx5
              have k13 := hx4.tr hx5
              have zs2 := Nat.le_trans zs1 hx5.size
              have hb10 := hb9.ext hx5
              have r30 := r25.ext hx5
              have r31 := r26.ext hx5
              have B2 := B1.ext hx5
              have O4 := O3.ext hx5
              have r32 := r27.ext hx5
              have r33 := r28.ext hx5
              refine vl rfl rfl (xnot rfl) <| nl <| cnd rfl (fun h7 => ?_) (fun h7 => ?_)
              ·
                have hB5 := ifp hB5 h7
                refine wp_seq <| rg <| vl rfl rfl xas <| vl rfl rfl xas <| vl rfl rfl xas <| nl <| ?_
                cases hB5
                have hB1 := (show some _ = some _ from hB1); cases hB1
                have hF := (show some _ = some _ from hF); cases hF
                exact wp_ret <| rt rfl (.tmp rfl rfl (.tmp rfl rfl (.tmp rfl rfl .nil))) ⟨_, _, rfl, FBm.nil, Row.nil, k10⟩
              ·
                have hB5 := ifn hB5 h7
                refine wp_skip <| rg <| vl rfl rfl xmv <| vl rfl rfl xmv <| ?_
                have hz := bs hB5; obtain ⟨x8, Ex8, hB5⟩ := hz
                have hz := ixar (Bx.cs B2) Ex8; obtain ⟨i9, i10, hc7⟩ := hz
                refine vl rfl rfl (xixa l11_i4 l33_i4 Try.underlying79 ti2 i9 i10) <| ssta (X := y4) (v := x5) rfl rfl rfl ti2 B2 Ex8 fun w8 hch1 hb11 => ?_
                have k14 := Ext.chg k10 hch1 (Nat.le_trans k2.size hg2)
                have k15 := Ext.chg k11 hch1 (Nat.le_trans K0_i1.size hg2)
                have k16 := Ext.chg k12 hch1 (Nat.le_trans (Nat.le_refl _) hg2)
                have zs3 := Nat.le_trans zs2 (Nat.le_of_eq hch1.size.symm)
                have hb12 := hb3.ext k16
                have r34 := r12.ext k16
                have r35 := r13.ext k16
                have O5 := O8_i1.ext k16
                have r36 := r14.ext k16
                have r37 := r16.ext k16
                refine nl <| rg <| vl rfl rfl (xadd l33_i4 rfl) <| vl rfl rfl xmv <| nl <| ?_
                refine lq m (Nat.lt_succ_self _) <| ?_
                exact ⟨_, _, hB5, rfl, hb11, l2_i4, l8_i4, l11_i4, l19_i4, l20_i4, l21_i4, l31_i4, l32_i4, zs3, k16⟩
            ·
              have hB5 := ifn hB5 h6
              refine wp_exit <| ?_
              cases hB5
              refine lf <| ?_
              exact ⟨_, rfl, B11_i4, l2_i4, l8_i4, l11_i4, l19_i4, l20_i4, l21_i4, Z0_i4, K0_i4⟩
          rintro L w9 ⟨z2, rfl, B11_j1, l2_j1, l8_j1, l11_j1, l19_j1, l20_j1, l21_j1, Z0_j1, K0_j1⟩
          have k17 := k2.tr K0_j1
          have k18 := K0_i1.tr K0_j1
          have r38 := r12.ext K0_j1
          have r39 := r13.ext K0_j1
          have hb13 := hb3.ext K0_j1
          have O6 := O8_i1.ext K0_j1
          have r40 := r14.ext K0_j1
          refine rg <| vl rfl rfl xmv <| vl rfl rfl (xlda l11_j1 ti79 (arlen _) (Bx.cs B11_j1)) <| sbsv (r := [(0, .agg (List.flatMap Flat.enc z2.l).toArray)]) (cs := (List.flatMap Flat.enc z2.l ++ [])) Try.underlying73 ti79 rfl (pc rfl pn) rfl rfl rfl (arall1 z2 rfl) rfl fun b9 w10 hx6 hg4 hb14 => ?_
          have k19 := k17.tr hx6
          have k20 := k18.tr hx6
          have k21 := K0_j1.tr hx6
          have zs4 := Nat.le_trans Z0_j1 hx6.size
          have hb15 := hb13.ext hx6
          have r41 := r38.ext hx6
          have r42 := r39.ext hx6
          have r43 := r40.ext hx6
          have O7 := O6.ext hx6
          have o5 : Row (α := (Ar 5 Int)) 79 w9.heap.size w10 (.slice (some ⟨b9, 0, none⟩) 1 1) [z2] := Row.lit hg4 hb14 rfl (ble rfl)
          have hz := bs hB1; obtain ⟨x9, Ex9, hB1⟩ := hz
          refine sapx (l := y1) (k := ([z2] : List (Ar 5 Int))) l8_j1 rfl Try.underlying73 ti79 rfl rfl O7 (RV.els o5.rv) Ex9 k20.size fun v5 w11 o6 hB10 hgr1 how1 => ?_
          have k22 := Ext.grow k19 k1.size hB10
          have k23 : Ext w2 w11 := k20.trans hB10
          have zs5 := Nat.le_trans zs4 hgr1.size
          have hb16 := hb2.ext k23
          have r45 := r9.ext k23
          have r46 := r10.ext k23
          have r47 := r11.ext k23
          have hz := RV.sl o6.rv; obtain ⟨a6, cq6, rfl, -, -, -⟩ := hz
          refine vl rfl rfl xas <| nl <| rg <| vl rfl rfl (xadd l21_j1 rfl) <| vl rfl rfl xmv <| nl <| ?_
          refine lq m (Nat.lt_succ_self _) <| ?_
          exact ⟨_, _, _, hB1, rfl, o6, rfl, l2_j1, l19_j1, l20_j1, k23⟩
      ·
        have hB1 := ifn hB1 h4
        refine wp_exit <| ?_
        cases hB1
        refine lf <| ?_
        exact ⟨_, _, rfl, l8_i1, O8_i1, l2_i1, K0_i1⟩
    rintro L w12 ⟨z1, v4, rfl, l8_j2, O8_j2, l2_j2, K0_j2⟩
    have k24 := k1.tr K0_j2
    have r48 := r9.ext K0_j2
    have r49 := r10.ext K0_j2
    have hb17 := hb2.ext K0_j2
    have hz := RV.sl O8_j2.rv; obtain ⟨a7, cq7, rfl, -, -, -⟩ := hz
    refine wp_seq <| rg <| vl rfl rfl (xlda l2_j2 ti25 rfl (Bx.cs hb17)) <| vl rfl rfl (xbdv (r := [.slice a1 x0.1.length cq1, .slice a2 x0.2.length cq2, .map none]) ti105 sp105 (pc rfl pn) rfl) <| sbx rfl rfl fun b10 w13 hx7 hg5 hb18 => ?_
    have k25 := k24.tr hx7
    have k26 := K0_j2.tr hx7
    have O8 := O8_j2.ext hx7
    have r50 := r48.ext hx7
    have r51 := r49.ext hx7
    refine vl rfl rfl xmv <| vl rfl rfl xas <| vl rfl rfl xas <| vl rfl rfl xas <| nl <| ?_
    have r52 : RV w13 (.pointer (some ⟨b10, 0, none⟩)) (⟨some ((x0.1, x0.2), Opq.mk)⟩ : (Ob (((List Int) × (List ((List Int) × (List Int)))) × Opq))) := obNew (Bx.cs hb18) rfl ⟨[.slice a1 x0.1.length cq1] ++ [.slice a2 x0.2.length cq2], [.map none], rfl, ⟨[.slice a1 x0.1.length cq1], [.slice a2 x0.2.length cq2], rfl, r50.rep1, r51.rep1⟩, ⟨_, rfl, rfl⟩⟩
    cases hF
    exact wp_ret <| rt rfl (.tmp rfl rfl (.tmp l8_j2 rfl (.tmp rfl rfl .nil))) ⟨_, _, rfl, (FBm.mk (Nat.le_trans k24.size hg5) hb18), (O8.bnd k1.size), k25⟩
end Go.Proofs.Ytboefnpnoojfpaa
