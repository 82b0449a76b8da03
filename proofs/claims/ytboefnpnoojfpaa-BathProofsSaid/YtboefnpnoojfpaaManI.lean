/-
  Whether a mixture gives the way, by the reference. Condition: the pure function computes something.
-/
import Derived.Test.YtboefnpnoojfpaaWalkZ
namespace Go.Proofs.Ytboefnpnoojfpaa
open Go Go.Md Go.RowKit
attribute [local irreducible] Go.wpList Go.Code.wp Go.Calls Go.Md.Rnd Go.Md.Mt

def ref11_Mixed_l2 (F : Nat) (x0 : ((List Int) × (List ((List Int) × (List Int))))) (x1 : (List Int)) (y2 : Int) : Nat → (List Int) → Int → Option ((List Int))
  | 0, _, _ => none
  | m + 1, y3, y4 =>
    if (decide (y4 < (x1.length : Int))) = true then
      (ix x0.2 y2) >>= fun x4 =>
      (ix x4.2 y4) >>= fun x5 =>
      (ix x0.2 y2) >>= fun x6 =>
      (ix x6.1 y4) >>= fun x7 =>
      (app 8 y3 ([w64 (x5 - x7)] : List Int)) >>= fun x8 =>
      ref11_Mixed_l2 F x0 x1 y2 m x8 (w64 (y4 + 1))
    else
      some y3

def ref11_Mixed_l1 (F : Nat) (x0 : ((List Int) × (List ((List Int) × (List Int))))) (x1 : (List Int)) : Nat → (List (List Int)) → Int → Option ((List (List Int)))
  | 0, _, _ => none
  | m + 1, y1, y2 =>
    if (decide (y2 < (x0.2.length : Int))) = true then
      ((ref11_Mixed_l2 F x0 x1 y2 F ([]) 0) >>= fun z2 =>
      (app 24 y1 ([z2] : List (List Int))) >>= fun x9 =>
      ref11_Mixed_l1 F x0 x1 m x9 (w64 (y2 + 1)))
    else
      some y1

def ref11_Mixed_l3 (F : Nat) (x1 : (List Int)) (x2 : (List Int)) : Nat → (List Int) → Int → Option ((List Int))
  | 0, _, _ => none
  | m + 1, y5, y6 =>
    if (decide (y6 < (x1.length : Int))) = true then
      (ix x2 y6) >>= fun x10 =>
      (ix x1 y6) >>= fun x11 =>
      (app 8 y5 ([w64 (x10 - x11)] : List Int)) >>= fun x12 =>
      ref11_Mixed_l3 F x1 x2 m x12 (w64 (y6 + 1))
    else
      some y5

def ref11_Mixed (F : Nat) (x0 : ((List Int) × (List ((List Int) × (List Int))))) (x1 : (List Int)) (x2 : (List Int)) : Option Bool :=
  (ref11_Mixed_l1 F x0 x1 F ([]) 0) >>= fun z1 =>
  (ref11_Mixed_l3 F x1 x2 F ([]) 0) >>= fun z3 =>
  (ref11_rank F z1) >>= fun x13 =>
  (app 24 ([] : List (List Int)) z1) >>= fun x14 =>
  (app 24 x14 ([z3] : List (List Int))) >>= fun x15 =>
  (ref11_rank F x15) >>= fun x16 =>
  some (decide (x16 = x13))

set_option maxHeartbeats 4000000 in
theorem c42 {w0 : World} {v0 : Value} {x0 : ((List Int) × (List ((List Int) × (List Int))))} (r0 : RV w0 v0 x0) {v1 : Value} {x1 : (List Int)} (r1 : RV w0 v1 x1) {v2 : Value} {x2 : (List Int)} (r2 : RV w0 v2 x2) {F : Nat} {r : Bool} (hF : ref11_Mixed F x0 x1 x2 = some r) :
    Calls Try.prog 42 [v0, v1, v2].toArray w0 (Ret fun v w' => v = .bool r ∧ Ext w0 w') := by
  unfold ref11_Mixed at hF
  have hz := id r0; obtain ⟨_, rfl, ⟨_, _, rfl, ⟨a1, cq1, rfl, p1, q4, e1⟩, ⟨a2, cq2, rfl, p2, q5, e2⟩⟩⟩ := hz
  have r4 := RV.of1 p1 q4 e1
  have r5 := RV.of1 p2 q5 e2
  have hz := r1.sl; obtain ⟨a3, cq3, rfl, -, -, -⟩ := hz
  have hz := r2.sl; obtain ⟨a4, cq4, rfl, -, -, -⟩ := hz
  refine entr (n := 82) Try.func42 rfl rfl rfl <| wp_seq <| rg <| sbx rfl rfl fun b4 w1 hx1 hg1 hb1 => ?_
  have r6 := r1.ext hx1
  have r7 := r2.ext hx1
  have r8 := r4.ext hx1
  have r9 := r5.ext hx1
  have r10 := r0.ext hx1
  refine vl rfl rfl xas <| nl <| wp_seq <| rg <| vl rfl rfl xas <| nl <| wp_seq <| wp_seq <| rg <| vl rfl rfl xas <| nl <| ?_
  have o1 : DRow (α := (List Int)) w0.heap.size 22 w1.heap.size w1 (.slice none 0 0) [] := DRow.nil
  have hz := bs hF; obtain ⟨z1, hB1, hF⟩ := hz
  refine ct (fun L w => ∃ v5 : Value, L 7 = v5 ∧ DRow w0.heap.size 22 w1.heap.size w v5 z1 ∧ L 1 = .slice a3 x1.length cq3 ∧ L 2 = .slice a4 x2.length cq4 ∧ Ext w1 w) ?_ ?_
  ·
    refine wp_block <| lp (I := fun m L w => ∃ y1 : (List (List Int)), ∃ y2 : Int, ∃ v4 : Value, ref11_Mixed_l1 F x0 x1 m y1 y2  = some z1 ∧ L 7 = v4 ∧ DRow w0.heap.size 22 w1.heap.size w v4 y1 ∧ L 8 = .int .i64 y2 ∧ L 1 = .slice a3 x1.length cq3 ∧ L 2 = .slice a4 x2.length cq4 ∧ L 3 = .pointer (some ⟨b4, 0, none⟩) ∧ Ext w1 w) F ⟨_, _, _, hB1, rfl, o1, rfl, rfl, rfl, rfl, (Ext.refl _)⟩ ?_
    rintro m L w2 ⟨y1, y2, v4, hB1, l7_i1, O7_i1, l8_i1, l1_i1, l2_i1, l3_i1, K0_i1⟩
    rcases m with _ | m
    · rw [ref11_Mixed_l1] at hB1; cases hB1
    rw [ref11_Mixed_l1] at hB1
    have k1 := hx1.tr K0_i1
    have r11 := r6.ext K0_i1
    have r12 := r7.ext K0_i1
    have r13 := r8.ext K0_i1
    have r14 := r9.ext K0_i1
    have hb2 := hb1.ext K0_i1
    have hz := RV.sl O7_i1.rv; obtain ⟨a5, cq5, rfl, -, -, -⟩ := hz
    refine wp_seq <| wp_seq <| rg <| vl rfl rfl xmv <| vl rfl rfl (xfa l3_i1 fa25_1) <| vl rfl rfl (xld rfl ti23 ((Bx.cs hb2).at 1 rfl)) <| vl rfl rfl (xlen rfl Try.underlying23) <| vl rfl rfl (xlss l8_i1 rfl) <| nl <| cnd rfl (fun h4 => ?_) (fun h4 => ?_)
    ·
      have hB1 := ifp hB1 h4
      refine wp_skip <| wp_seq <| wp_block <| wp_seq <| rg <| vl rfl rfl xas <| nl <| wp_seq <| wp_seq <| rg <| vl rfl rfl xas <| nl <| ?_
      have o3 : Row (α := Int) 2 w2.heap.size w2 (.slice none 0 0) [] := Row.nil
      have hz := bs hB1; obtain ⟨z2, hB3, hB1⟩ := hz
      refine ct (fun L w => ∃ v7 : Value, L 9 = v7 ∧ Row 2 w2.heap.size w v7 z2 ∧ Apart (v7) (.slice a5 y1.length cq5) ∧ L 1 = .slice a3 x1.length cq3 ∧ L 2 = .slice a4 x2.length cq4 ∧ L 3 = .pointer (some ⟨b4, 0, none⟩) ∧ L 7 = .slice a5 y1.length cq5 ∧ L 8 = .int .i64 y2 ∧ w1.heap.size ≤ w.heap.size ∧ Ext w2 w) ?_ ?_
      ·
        refine wp_block <| lp (I := fun m L w => ∃ y3 : (List Int), ∃ y4 : Int, ∃ v6 : Value, ref11_Mixed_l2 F x0 x1 y2 m y3 y4  = some z2 ∧ L 9 = v6 ∧ Row 2 w2.heap.size w v6 y3 ∧ L 10 = .int .i64 y4 ∧ Apart (v6) (.slice a5 y1.length cq5) ∧ L 1 = .slice a3 x1.length cq3 ∧ L 2 = .slice a4 x2.length cq4 ∧ L 3 = .pointer (some ⟨b4, 0, none⟩) ∧ L 7 = .slice a5 y1.length cq5 ∧ L 8 = .int .i64 y2 ∧ w1.heap.size ≤ w.heap.size ∧ Ext w2 w) F ⟨_, _, _, hB3, rfl, o3, rfl, (Apart.symm (Apart.old' O7_i1.own_lt (fun q e => (o3.lt q e).1))), l1_i1, l2_i1, l3_i1, l7_i1, l8_i1, K0_i1.size, (Ext.refl _)⟩ ?_
        rintro m L w3 ⟨y3, y4, v6, hB3, l9_i2, O9_i2, l10_i2, X0_i2, l1_i2, l2_i2, l3_i2, l7_i2, l8_i2, Z0_i2, K0_i2⟩
        rcases m with _ | m
        · rw [ref11_Mixed_l2] at hB3; cases hB3
        rw [ref11_Mixed_l2] at hB3
        have k2 := k1.tr K0_i2
        have k3 := K0_i1.tr K0_i2
        have r15 := r11.ext K0_i2
        have r16 := r12.ext K0_i2
        have r17 := r13.ext K0_i2
        have r18 := r14.ext K0_i2
        have hb3 := hb2.ext K0_i2
        have O1 := O7_i1.ext K0_i2
        have hz := RV.sl O9_i2.rv; obtain ⟨a6, cq6, rfl, -, -, -⟩ := hz
        refine wp_seq <| wp_seq <| rg <| vl rfl rfl xmv <| vl rfl rfl xmv <| vl rfl rfl (xlen l1_i2 Try.underlying22) <| vl rfl rfl (xlss l10_i2 rfl) <| nl <| cnd rfl (fun h5 => ?_) (fun h5 => ?_)
        ·
          have hB3 := ifp hB3 h5
          refine wp_skip <| wp_seq <| wp_block <| wplG (row := (Value.ownBlock (.slice a6 y3.length cq6))) [] (.pure true 0 (.pure true 1 (.pure false 2 (.pure true 3 (.pure true 4 (.pure true 5 (.pure false 6 (.pure true 7 (.pure true 8 (.pure false 9 (.pure true 10 (.pure false 11 (.pure true 12 (.pure true 13 (.pure true 14 (.pure false 15 (.pure true 16 (.pure true 17 (.pure false 18 (.pure true 19 (.eff 20 (.eff 21 (.pure true 22 .fin) .stop) .stop))))))))))))))))))))) mixed (by kernel_rfl) (fun w4 hx2 => ?_)
          have k4 := k2.tr hx2
          have k5 := k3.tr hx2
          have k6 := K0_i2.tr hx2
          have zs1 := Nat.le_trans Z0_i2 hx2.size
          have hb4 := hb3.ext hx2
          have r19 := r17.ext hx2
          have r20 := r18.ext hx2
          have r21 := r15.ext hx2
          have r22 := r16.ext hx2
          have O2 := O1.ext hx2
          have O3 := O9_i2.ext hx2
          refine pv rfl rfl rfl (fun _ _ => xmv) (.inl rfl) <| pv rfl rfl rfl (fun _ _ => xfa l3_i2 fa25_1) (.inl rfl) <| pv rfl rfl rfl (fun _ hS => xld rfl ti23 ((Bx.cs (Bx.gr hb4 (hS.resolve_left nofun) (O9_i2.ne_old (Nat.lt_of_lt_of_le hb1.lt K0_i1.size)))).at 1 rfl)) (.inr (Ext.gro (Ext.refl _))) <| pv rfl rfl rfl (fun _ _ => xmv) (.inl rfl) <| ?_
          have hz := bs hB3; obtain ⟨x4, Ex4, hB3⟩ := hz
          have hz := (RV.els r5).ix Ex4; obtain ⟨b5, f1, cs4, e3, i3, i4, q6, hc1⟩ := hz
          cases e3
          obtain ⟨_, _, rfl, ⟨a7, cq7, rfl, p3, q7, e4⟩, ⟨a8, cq8, rfl, p4, q8, e5⟩⟩ := q6
          have r23 := RV.of1 p3 q7 e4
          have r24 := RV.of1 p4 q8 e5
          have hc2 := hc1.ext k4
          have r25 := r23.ext k4
          have r26 := r24.ext k4
          refine pv rfl rfl rfl (fun _ _ => xixs rfl l8_i2 Try.underlying23 ti57 i3 i4) (.inl rfl) <| pv rfl rfl rfl (fun _ _ => xfa rfl fa57_1) (.inl rfl) <| pv rfl rfl rfl (fun _ hS => xld rfl ti22 ((Cs.gro0 hc1 k4 (hS.resolve_left nofun) (fun q e => Nat.le_trans k1.size (O9_i2.lt q e).1)).at 1 rfl)) (.inr (Ext.gro (Ext.refl _))) <| pv rfl rfl rfl (fun _ _ => xmv) (.inl rfl) <| ?_
          have hz := bs hB3; obtain ⟨x5, Ex5, hB3⟩ := hz
          have hz := (RV.els r24).ix Ex5; obtain ⟨b6, f2, cs5, e6, i5, i6, q9, hc3⟩ := hz
          cases e6
          obtain rfl := q9
          have hc4 := hc3.ext k4
          refine pv rfl rfl rfl (fun _ _ => xixs rfl l10_i2 Try.underlying22 ti2 i5 i6) (.inl rfl) <| pv rfl rfl rfl (fun _ hS => xld rfl ti2 ((Cs.gro0 hc3 k4 (hS.resolve_left nofun) (fun q e => Nat.le_trans k1.size (O9_i2.lt q e).1)).at 0 rfl)) (.inr (Ext.gro (Ext.refl _))) <| pv rfl rfl rfl (fun _ _ => xfa l3_i2 fa25_1) (.inl rfl) <| pv rfl rfl rfl (fun _ hS => xld rfl ti23 ((Bx.cs (Bx.gr hb4 (hS.resolve_left nofun) (O9_i2.ne_old (Nat.lt_of_lt_of_le hb1.lt K0_i1.size)))).at 1 rfl)) (.inr (Ext.gro (Ext.refl _))) <| pv rfl rfl rfl (fun _ _ => xmv) (.inl rfl) <| ?_
          have hz := bs hB3; obtain ⟨x6, Ex6, hB3⟩ := hz
          have hz := ix2 r5 Ex6; obtain ⟨cs6, i7, i8, q10, hc5⟩ := hz
          obtain ⟨_, _, rfl, ⟨a9, cq9, rfl, p5, q11, e7⟩, ⟨a10, cq10, rfl, p6, q12, e8⟩⟩ := q10
          have r27 := RV.of1 p5 q11 e7
          have r28 := RV.of1 p6 q12 e8
          have hc6 := hc5.ext k4
          have r29 := r27.ext k4
          have r30 := r28.ext k4
          refine pv rfl rfl rfl (fun _ _ => xixs rfl l8_i2 Try.underlying23 ti57 i7 i8) (.inl rfl) <| pv rfl rfl rfl (fun _ _ => xfa rfl fa57_0) (.inl rfl) <| pv rfl rfl rfl (fun _ hS => xld rfl ti22 ((Cs.gro0 hc5 k4 (hS.resolve_left nofun) (fun q e => Nat.le_trans k1.size (O9_i2.lt q e).1)).at 0 rfl)) (.inr (Ext.gro (Ext.refl _))) <| pv rfl rfl rfl (fun _ _ => xmv) (.inl rfl) <| ?_
          have hz := bs hB3; obtain ⟨x7, Ex7, hB3⟩ := hz
          have hz := (RV.els r27).ix Ex7; obtain ⟨b7, f3, cs7, e9, i9, i10, q13, hc7⟩ := hz
          cases e9
          obtain rfl := q13
          have hc8 := hc7.ext k4
          refine pv rfl rfl rfl (fun _ _ => xixs rfl l10_i2 Try.underlying22 ti2 i9 i10) (.inl rfl) <| pv rfl rfl rfl (fun _ hS => xld rfl ti2 ((Cs.gro0 hc7 k4 (hS.resolve_left nofun) (fun q e => Nat.le_trans k1.size (O9_i2.lt q e).1)).at 0 rfl)) (.inr (Ext.gro (Ext.refl _))) <| pv rfl rfl rfl (fun _ _ => xsub rfl rfl) (.inl rfl) <| pe1 rfl <| sbsv (cs := [.int .i64 (w64 (x5 - x7))]) Try.underlying22 ti2 rfl (pc rfl pn) rfl rfl rfl rfl rfl fun b8 w5 hx3 hg2 hb5 => ?_
          have k7 := k4.tr hx3
          have k8 := k5.tr hx3
          have k9 := k6.tr hx3
          have zs2 := Nat.le_trans zs1 hx3.size
          have hb6 := hb4.ext hx3
          have r31 := r19.ext hx3
          have r32 := r20.ext hx3
          have r33 := r21.ext hx3
          have r34 := r22.ext hx3
          have O4 := O2.ext hx3
          have O5 := O3.ext hx3
          have o5 : Row (α := Int) 2 w4.heap.size w5 (.slice (some ⟨b8, 0, none⟩) 1 1) [w64 (x5 - x7)] := Row.lit hg2 hb5 rfl (ble rfl)
          refine nl ⟨fun _ _ => (Ext.gro hx3), ?_⟩
          have hz := bs hB3; obtain ⟨x8, Ex8, hB3⟩ := hz
          refine pe1 rfl <| sapx (l := y3) (k := ([w64 (x5 - x7)] : List Int)) l9_i2 rfl Try.underlying22 ti2 rfl rfl O5 (RV.els o5.rv) Ex8 k9.size fun v8 w6 o6 hB5 hgr1 how1 => ?_
          have k10 := Ext.grow k7 k1.size hB5
          have k11 := Ext.grow k8 K0_i1.size hB5
          have k12 : Ext w2 w6 := k9.trans hB5
          have X1 := Apart.app how1 X0_i2 O4.own_lt
          have zs3 := Nat.le_trans zs2 hgr1.size
          have gS1 := World.grownBy.tr (Ext.gro hx3) hgr1
          have hb7 := hb2.ext k12
          have r36 := r13.ext k12
          have r37 := r14.ext k12
          have r38 := r11.ext k12
          have r39 := r12.ext k12
          have O6 := O7_i1.ext k12
          have hz := RV.sl o6.rv; obtain ⟨a11, cq11, rfl, -, -, -⟩ := hz
          refine nl ⟨fun _ _ => gS1, ?_⟩
          refine pv rfl rfl rfl (fun _ _ => xas) (.inl rfl) <| rg <| vl rfl rfl xmv <| vl rfl rfl (xadd l10_i2 rfl) <| vl rfl rfl xas <| nl <| ?_
          refine lq m (Nat.lt_succ_self _) <| ?_
          exact ⟨_, _, _, hB3, rfl, o6, rfl, X1, l1_i2, l2_i2, l3_i2, l7_i2, l8_i2, zs3, k12⟩
        ·
          have hB3 := ifn hB3 h5
          refine wp_exit <| ?_
          cases hB3
          refine lf <| ?_
          exact ⟨_, l9_i2, O9_i2, X0_i2, l1_i2, l2_i2, l3_i2, l7_i2, l8_i2, Z0_i2, K0_i2⟩
      rintro L w7 ⟨v7, l9_j1, O9_j1, X0_j1, l1_j1, l2_j1, l3_j1, l7_j1, l8_j1, Z0_j1, K0_j1⟩
      have k13 := k1.tr K0_j1
      have k14 := K0_i1.tr K0_j1
      have r40 := r11.ext K0_j1
      have r41 := r12.ext K0_j1
      have r42 := r13.ext K0_j1
      have r43 := r14.ext K0_j1
      have hb8 := hb2.ext K0_j1
      have O7 := O7_i1.ext K0_j1
      have hz := RV.sl O9_j1.rv; obtain ⟨a12, cq12, rfl, -, -, -⟩ := hz
      refine rg <| vl rfl rfl xmv <| vl rfl rfl xmv <| sbsv (cs := [.slice a12 z2.length cq12]) Try.underlying101 ti22 rfl (pc l9_j1 pn) rfl rfl rfl rfl rfl fun b9 w8 hx4 hg3 hb9 => ?_
      have k15 := k13.tr hx4
      have k16 := k14.tr hx4
      have k17 := K0_j1.tr hx4
      have zs4 := Nat.le_trans Z0_j1 hx4.size
      have hb10 := hb8.ext hx4
      have r45 := r42.ext hx4
      have r46 := r43.ext hx4
      have r47 := r40.ext hx4
      have r48 := r41.ext hx4
      have O8 := O7.ext hx4
      have O9 := O9_j1.ext hx4
      have r44 : RV w8 (.slice (some ⟨b9, 0, none⟩) 1 1) ([z2] : List (List Int)) := RV.lit hb9 (css := [[.slice a12 z2.length cq12]]) rfl ⟨O9.rv.rep1, trivial⟩ rfl (ble rfl)
      have hz := bs hB1; obtain ⟨x9, Ex9, hB1⟩ := hz
      refine sapd (l := y1) (k := ([z2] : List (List Int))) l7_j1 rfl Try.underlying101 ti22 rfl rfl O8 (ElsD.lit1 hb9 (RVo.rep1 (RVo.okn (Row.rvob O9) K0_i1.size O7_i1.own_lt))) Ex9 k16.size fun v9 w9 o7 hB7 hgr2 how2 => ?_
      have k18 := Ext.grow k15 hx1.size hB7
      have k19 : Ext w1 w9 := k16.trans hB7
      have zs5 := Nat.le_trans zs4 hgr2.size
      have hb11 := hb1.ext k19
      have r49 := r8.ext k19
      have r50 := r9.ext k19
      have r51 := r6.ext k19
      have r52 := r7.ext k19
      have hz := RV.sl o7.rv; obtain ⟨a13, cq13, rfl, -, -, -⟩ := hz
      refine vl rfl rfl xas <| nl <| rg <| vl rfl rfl xmv <| vl rfl rfl (xadd l8_j1 rfl) <| vl rfl rfl xas <| nl <| ?_
      refine lq m (Nat.lt_succ_self _) <| ?_
      exact ⟨_, _, _, hB1, rfl, o7, rfl, l1_j1, l2_j1, l3_j1, k19⟩
    ·
      have hB1 := ifn hB1 h4
      refine wp_exit <| ?_
      cases hB1
      refine lf <| ?_
      exact ⟨_, l7_i1, O7_i1, l1_i1, l2_i1, K0_i1⟩
  rintro L w10 ⟨v5, l7_j2, O7_j2, l1_j2, l2_j2, K0_j2⟩
  have k20 := hx1.tr K0_j2
  have r53 := r6.ext K0_j2
  have r54 := r7.ext K0_j2
  have hz := RV.sl O7_j2.rv; obtain ⟨a14, cq14, rfl, -, -, -⟩ := hz
  refine wp_seq <| rg <| vl rfl rfl xas <| nl <| wp_seq <| wp_seq <| rg <| vl rfl rfl xas <| nl <| ?_
  have o8 : Row (α := Int) 2 w10.heap.size w10 (.slice none 0 0) [] := Row.nil
  have hz := bs hF; obtain ⟨z3, hB9, hF⟩ := hz
  refine ct (fun L w => ∃ v11 : Value, L 11 = v11 ∧ Row 2 w10.heap.size w v11 z3 ∧ Apart (v11) (.slice a14 z1.length cq14) ∧ L 7 = .slice a14 z1.length cq14 ∧ w1.heap.size ≤ w.heap.size ∧ Ext w10 w) ?_ ?_
  ·
    refine wp_block <| lp (I := fun m L w => ∃ y5 : (List Int), ∃ y6 : Int, ∃ v10 : Value, ref11_Mixed_l3 F x1 x2 m y5 y6  = some z3 ∧ L 11 = v10 ∧ Row 2 w10.heap.size w v10 y5 ∧ L 12 = .int .i64 y6 ∧ Apart (v10) (.slice a14 z1.length cq14) ∧ L 1 = .slice a3 x1.length cq3 ∧ L 2 = .slice a4 x2.length cq4 ∧ L 7 = .slice a14 z1.length cq14 ∧ w1.heap.size ≤ w.heap.size ∧ Ext w10 w) F ⟨_, _, _, hB9, rfl, o8, rfl, (Apart.symm (Apart.old' O7_j2.own_lt (fun q e => (o8.lt q e).1))), l1_j2, l2_j2, l7_j2, K0_j2.size, (Ext.refl _)⟩ ?_
    rintro m L w11 ⟨y5, y6, v10, hB9, l11_i11, O11_i11, l12_i11, X0_i11, l1_i11, l2_i11, l7_i11, Z0_i11, K0_i11⟩
    rcases m with _ | m
    · rw [ref11_Mixed_l3] at hB9; cases hB9
    rw [ref11_Mixed_l3] at hB9
    have k21 := k20.tr K0_i11
    have k22 := K0_j2.tr K0_i11
    have r55 := r53.ext K0_i11
    have r56 := r54.ext K0_i11
    have O10 := O7_j2.ext K0_i11
    have hz := RV.sl O11_i11.rv; obtain ⟨a15, cq15, rfl, -, -, -⟩ := hz
    refine wp_seq <| wp_seq <| rg <| vl rfl rfl xmv <| vl rfl rfl xmv <| vl rfl rfl (xlen l1_i11 Try.underlying22) <| vl rfl rfl (xlss l12_i11 rfl) <| nl <| cnd rfl (fun h6 => ?_) (fun h6 => ?_)
    ·
      have hB9 := ifp hB9 h6
      refine wp_skip <| wp_seq <| wp_block <| wplG (row := (Value.ownBlock (.slice a15 y5.length cq15))) [] (.pure true 0 (.pure true 1 (.pure true 2 (.pure true 3 (.pure false 4 (.pure true 5 (.pure true 6 (.pure true 7 (.pure false 8 (.pure true 9 (.eff 10 (.eff 11 (.pure true 12 .fin) .stop) .stop))))))))))) mixed (by kernel_rfl) (fun w12 hx5 => ?_)
      have k23 := k21.tr hx5
      have k24 := k22.tr hx5
      have k25 := K0_i11.tr hx5
      have zs6 := Nat.le_trans Z0_i11 hx5.size
      have r57 := r55.ext hx5
      have r58 := r56.ext hx5
      have O11 := O10.ext hx5
      have O12 := O11_i11.ext hx5
      refine pv rfl rfl rfl (fun _ _ => xmv) (.inl rfl) <| pv rfl rfl rfl (fun _ _ => xmv) (.inl rfl) <| pv rfl rfl rfl (fun _ _ => xmv) (.inl rfl) <| ?_
      have hz := bs hB9; obtain ⟨x10, Ex10, hB9⟩ := hz
      have hz := (RV.els r2).ix Ex10; obtain ⟨b10, f4, cs8, e10, i12, i13, q14, hc9⟩ := hz
      cases e10
      obtain rfl := q14
      have hc10 := hc9.ext k23
      refine pv rfl rfl rfl (fun _ _ => xixs l2_i11 l12_i11 Try.underlying22 ti2 i12 i13) (.inl rfl) <| pv rfl rfl rfl (fun _ hS => xld rfl ti2 ((Cs.gro0 hc9 k23 (hS.resolve_left nofun) (fun q e => Nat.le_trans k20.size (O11_i11.lt q e).1)).at 0 rfl)) (.inr (Ext.gro (Ext.refl _))) <| pv rfl rfl rfl (fun _ _ => xmv) (.inl rfl) <| pv rfl rfl rfl (fun _ _ => xmv) (.inl rfl) <| ?_
      have hz := bs hB9; obtain ⟨x11, Ex11, hB9⟩ := hz
      have hz := (RV.els r1).ix Ex11; obtain ⟨b11, f5, cs9, e11, i14, i15, q15, hc11⟩ := hz
      cases e11
      obtain rfl := q15
      have hc12 := hc11.ext k23
      refine pv rfl rfl rfl (fun _ _ => xixs l1_i11 l12_i11 Try.underlying22 ti2 i14 i15) (.inl rfl) <| pv rfl rfl rfl (fun _ hS => xld rfl ti2 ((Cs.gro0 hc11 k23 (hS.resolve_left nofun) (fun q e => Nat.le_trans k20.size (O11_i11.lt q e).1)).at 0 rfl)) (.inr (Ext.gro (Ext.refl _))) <| pv rfl rfl rfl (fun _ _ => xsub rfl rfl) (.inl rfl) <| pe1 rfl <| sbsv (cs := [.int .i64 (w64 (x10 - x11))]) Try.underlying22 ti2 rfl (pc rfl pn) rfl rfl rfl rfl rfl fun b12 w13 hx6 hg4 hb12 => ?_
      have k26 := k23.tr hx6
      have k27 := k24.tr hx6
      have k28 := k25.tr hx6
      have zs7 := Nat.le_trans zs6 hx6.size
      have r59 := r57.ext hx6
      have r60 := r58.ext hx6
      have O13 := O11.ext hx6
      have O14 := O12.ext hx6
      have o10 : Row (α := Int) 2 w12.heap.size w13 (.slice (some ⟨b12, 0, none⟩) 1 1) [w64 (x10 - x11)] := Row.lit hg4 hb12 rfl (ble rfl)
      refine nl ⟨fun _ _ => (Ext.gro hx6), ?_⟩
      have hz := bs hB9; obtain ⟨x12, Ex12, hB9⟩ := hz
      refine pe1 rfl <| sapx (l := y5) (k := ([w64 (x10 - x11)] : List Int)) l11_i11 rfl Try.underlying22 ti2 rfl rfl O14 (RV.els o10.rv) Ex12 k28.size fun v12 w14 o11 hB11 hgr3 how3 => ?_
      have k29 := Ext.grow k26 k20.size hB11
      have k30 := Ext.grow k27 K0_j2.size hB11
      have k31 : Ext w10 w14 := k28.trans hB11
      have X2 := Apart.app how3 X0_i11 O13.own_lt
      have zs8 := Nat.le_trans zs7 hgr3.size
      have gS2 := World.grownBy.tr (Ext.gro hx6) hgr3
      have r62 := r53.ext k31
      have r63 := r54.ext k31
      have O15 := O7_j2.ext k31
      have hz := RV.sl o11.rv; obtain ⟨a16, cq16, rfl, -, -, -⟩ := hz
      refine nl ⟨fun _ _ => gS2, ?_⟩
      refine pv rfl rfl rfl (fun _ _ => xas) (.inl rfl) <| rg <| vl rfl rfl xmv <| vl rfl rfl (xadd l12_i11 rfl) <| vl rfl rfl xas <| nl <| ?_
      refine lq m (Nat.lt_succ_self _) <| ?_
      exact ⟨_, _, _, hB9, rfl, o11, rfl, X2, l1_i11, l2_i11, l7_i11, zs8, k31⟩
    ·
      have hB9 := ifn hB9 h6
      refine wp_exit <| ?_
      cases hB9
      refine lf <| ?_
      exact ⟨_, l11_i11, O11_i11, X0_i11, l7_i11, Z0_i11, K0_i11⟩
  rintro L w15 ⟨v11, l11_j3, O11_j3, X0_j3, l7_j3, Z0_j3, K0_j3⟩
  have k32 := k20.tr K0_j3
  have k33 := K0_j2.tr K0_j3
  have O16 := O7_j2.ext K0_j3
  have hz := RV.sl O11_j3.rv; obtain ⟨a17, cq17, rfl, -, -, -⟩ := hz
  refine wp_seq <| rg <| vl rfl rfl xmv <| ?_
  have hz := bs hF; obtain ⟨x13, Ex13, hF⟩ := hz
  refine cl rfl rfl (xc cb69 (mc l7_j3 mn)) (c69 O16.rv Ex13) ?_
  rintro _ w16 ⟨rfl, hx7⟩
  have k34 := k32.tr hx7
  have k35 := k33.tr hx7
  have k36 := K0_j3.tr hx7
  have zs9 := Nat.le_trans Z0_j3 hx7.size
  have O17 := O16.ext hx7
  have O18 := O11_j3.ext hx7
  refine vl rfl rfl xas <| nl <| wp_seq <| rg <| sbsv (cs := []) Try.underlying101 ti22 rfl pn rfl rfl rfl rfl rfl fun b13 w17 hx8 hg5 hb13 => ?_
  have k37 := k34.tr hx8
  have k38 := k35.tr hx8
  have k39 := k36.tr hx8
  have zs10 := Nat.le_trans zs9 hx8.size
  have O19 := O17.ext hx8
  have O20 := O18.ext hx8
  have r64 : RV w17 (.slice (some ⟨b13, 0, none⟩) 0 0) ([] : List (List Int)) := RV.lit hb13 (css := []) rfl trivial rfl (ble rfl)
  have o12 : DRow (α := (List Int)) w16.heap.size 22 w16.heap.size w17 (.slice (some ⟨b13, 0, none⟩) 0 0) [] := ⟨[], Row.lit hg5 hb13 rfl (ble rfl), rfl, by simp⟩
  have u17 : RVo (· < w16.heap.size) w17 (.slice a14 z1.length cq14) z1 := O17.rv.old.keep (fun q hq _ => hx8.block q hq) hx8.size
  refine vl rfl rfl (xmva l7_j3) <| ?_
  have hz := bs hF; obtain ⟨x14, Ex14, hF⟩ := hz
  refine sapd (l := ([] : List (List Int))) (k := z1) rfl rfl Try.underlying101 ti22 rfl rfl o12 (ElsD.of (RVo.oko u17 (fun q hq => (o12.lt q hq).1))) Ex14 hx8.size fun v14 w18 o14 hB18 hgr18 how18 => ?_
  have k18 : Ext w0 w18 := k37.grow k34.size hB18
  refine vl rfl rfl (xmva l11_j3) <| sbsv (cs := [.slice a17 z3.length cq17]) Try.underlying101 ti22 rfl (pc rfl pn) rfl rfl rfl rfl rfl fun b19 w19 hx19 hg19 hb19 => ?_
  have u19 : RVo (· < w16.heap.size) w19 (.slice a17 z3.length cq17) z3 := O18.rv.old.keep (fun q hq _ => (hx19.block q (Nat.lt_of_lt_of_le hq (Nat.le_trans hx8.size hgr18.size))).trans ((hB18.block q hq).trans (hx8.block q hq))) (Nat.le_trans hx8.size (Nat.le_trans hgr18.size hx19.size))
  have o19 := o14.ext hx19
  have hz := bs hF; obtain ⟨x15, Ex15, hF⟩ := hz
  refine sapd (l := x14) (k := ([z3] : List (List Int))) rfl rfl Try.underlying101 ti22 rfl rfl o19 (ElsD.lit1 hb19 (RVo.rep1 (RVo.oko u19 (fun q hq => (o19.lt q hq).1)))) Ex15 (Nat.le_trans hx8.size (Nat.le_trans hgr18.size hx19.size)) fun v20 w20 o20 hB20 hgr20 how20 => ?_
  have k20 : Ext w0 w20 := (k18.tr hx19).grow k34.size hB20
  have hz := bs hF; obtain ⟨x16, Ex16, hF⟩ := hz
  refine cl rfl rfl (xc cb69 (mc rfl mn)) (c69 o20.rv Ex16) ?_
  rintro _ w21 ⟨rfl, hx21⟩
  refine vl rfl rfl xmv <| vl rfl rfl (xeql rfl rfl) <| vl rfl rfl xas <| nl ?_
  cases hF
  exact wp_ret <| rt rfl (.tmp rfl rfl .nil) ⟨rfl, k20.tr hx21⟩
end Go.Proofs.Ytboefnpnoojfpaa
