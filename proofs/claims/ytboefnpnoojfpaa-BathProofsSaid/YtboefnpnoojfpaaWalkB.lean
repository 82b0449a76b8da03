/-
  Each function of the program returns what its pure function computes, and leaves all memory that was there as it was. Condition: the pure function computes something.
-/
import Derived.Test.YtboefnpnoojfpaaFacts
import Derived.Test.YtboefnpnoojfpaaPureB
import Derived.Test.YtboefnpnoojfpaaMore
import Derived.Test.YtboefnpnoojfpaaWalkZ
import Derived.Test.YtboefnpnoojfpaaManG
import Derived.Test.YtboefnpnoojfpaaManH
namespace Go.Proofs.Ytboefnpnoojfpaa
open Go Go.Md Go.RowKit
attribute [local irreducible] Go.wpList Go.Code.wp Go.Calls Go.Md.Rnd Go.Md.Mt Go.Md.MtM Go.Md.RndM Go.Code.wpIn

set_option maxHeartbeats 4000000 in
theorem c32 {w0 : World} {v0 : Value} {x0 : ((List Int) × (List ((List Int) × (List Int))))} (r0 : RV w0 v0 x0) {v1 : Value} {x1 : (List Int)} (r1 : RV w0 v1 x1) {v2 : Value} {x2 : (List Int)} (r2 : RV w0 v2 x2) {F : Nat} {r : ((List Int) × Int)} (hF : bath_Weights F x0 x1 x2 = some r) :
    Calls Try.prog 32 [v0, v1, v2].toArray w0 (Ret fun v w' => ∃ u0 : Value, v = .tuple #[u0, .int .i64 r.2] ∧ RV w' u0 r.1 ∧ Ext w0 w') := by
  unfold bath_Weights at hF
  have hz := id r0; obtain ⟨_, rfl, ⟨_, _, rfl, ⟨a1, cq1, rfl, p1, q4, e1⟩, ⟨a2, cq2, rfl, p2, q5, e2⟩⟩⟩ := hz
  have r4 := RV.of1 p1 q4 e1
  have r5 := RV.of1 p2 q5 e2
  have hz := r1.sl; obtain ⟨a3, cq3, rfl, -, -, -⟩ := hz
  have hz := r2.sl; obtain ⟨a4, cq4, rfl, -, -, -⟩ := hz
  refine entr (n := 40) Try.func32 rfl rfl rfl <| wp_seq <| rg <| sbx rfl rfl fun b4 w1 hx1 hg1 hb1 => ?_
  have r6 := r1.ext hx1
  have r7 := r2.ext hx1
  have r8 := r4.ext hx1
  have r9 := r5.ext hx1
  have r10 := r0.ext hx1
  refine vl rfl rfl xas <| vl rfl rfl xas <| nl <| wp_seq <| rg <| vl rfl rfl (xlda rfl ti25 rfl (Bx.cs hb1)) <| vl rfl rfl xmv <| vl rfl rfl xmv <| sbsv (cs := [.slice a3 x1.length cq3, .slice a4 x2.length cq4]) Try.underlying101 ti22 rfl (pc rfl (pc rfl pn)) rfl rfl rfl rfl rfl fun b5 w2 hx2 hg2 hb2 => ?_
  have k1 := hx1.tr hx2
  have r12 := r8.ext hx2
  have r13 := r9.ext hx2
  have r14 := r6.ext hx2
  have r15 := r7.ext hx2
  have r11 : RV w2 (.slice (some ⟨b5, 0, none⟩) 2 2) ([x1, x2] : List (List Int)) := RV.lit hb2 (css := [[.slice a3 x1.length cq3], [.slice a4 x2.length cq4]]) rfl ⟨r14.rep1, r15.rep1, trivial⟩ rfl (ble rfl)
  have hz := bs hF; obtain ⟨x4, Ex4, hF⟩ := hz
  refine cl rfl rfl (xc cb45 (mc rfl (mc rfl mn))) (c45 (show RV (α := ((List Int) × (List ((List Int) × (List Int))))) _ (.agg [.slice a1 x0.1.length cq1, .slice a2 x0.2.length cq2].toArray) (x0.1, x0.2) from ⟨_, rfl, ⟨[.slice a1 x0.1.length cq1], [.slice a2 x0.2.length cq2], rfl, r12.rep1, r13.rep1⟩⟩) r11 Ex4) ?_
  rintro _ w3 ⟨u1, u2, rfl, r16, r17, hx3⟩
  have k2 := k1.tr hx3
  have k3 := hx2.tr hx3
  have hz := obPtr r16; obtain ⟨a5, rfl⟩ := hz
  have hz := RV.sl r17; obtain ⟨a6, cq5, rfl, -, -, -⟩ := hz
  refine vl rfl rfl xmv <| vl rfl rfl (xext rfl rfl) <| vl rfl rfl (xext rfl rfl) <| vl rfl rfl (xext rfl rfl) <| vl rfl rfl xas <| vl rfl rfl xas <| vl rfl rfl xas <| nl <| wp_seq <| wp_seq <| rg <| vl rfl rfl xmv <| vl rfl rfl (xneq rfl rfl) <| nl <| cnd rfl (fun h4 => ?_) (fun h4 => ?_)
  ·
    have hF := ifp hF h4
    refine wp_seq <| rg <| vl rfl rfl xmv <| vl rfl rfl xas <| vl rfl rfl xas <| nl <| ?_
    cases hF
    exact wp_ret <| rt rfl (.tmp rfl rfl (.tmp rfl rfl .nil)) ⟨_, rfl, (RVo.nil (Nat.zero_le _)), k2⟩
  ·
    have hF := ifn hF h4
    refine wp_skip <| wp_seq <| ?_
    have hz := bs hF; obtain ⟨y1, hB1, hF⟩ := hz
    refine ct (fun L w => ∃ v4 : Value, L 11 = v4 ∧ RV w v4 y1 ∧ Ext w3 w) ?_ ?_
    ·
      have hz := bs hB1; obtain ⟨x5, Ex5, hB1⟩ := hz
      have hz := bs hB1; obtain ⟨x6, Ex6, hB1⟩ := hz
      have hz := bs hB1; obtain ⟨x7, Ex7, hB1⟩ := hz
      have hz := bs hB1; obtain ⟨x8, Ex8, hB1⟩ := hz
      refine wpl [] (.pure true 0 (.pure true 1 (.pure true 2 (.pure false 3 (.pure true 4 (.pure true 5 (.pure false 6 (.eff 7 (.pure true 8 (.pure true 9 (.pure true 10 (.eff 11 (.pure true 12 (.eff 13 .fin .stop)) .stop)))) (.eff 11 (.eff 7 (.pure true 8 (.pure true 9 (.pure true 10 (.pure true 12 (.eff 13 .fin .stop))))) .stop) .stop))))))))) mixed (by kernel_rfl) (fun w8 hx7 => ?_)
      have k18 := k2.tr hx7
      have k19 := k3.tr hx7
      have r30 := r16.ext hx7
      have r31 := r17.ext hx7
      refine pv rfl rfl rfl (fun _ _ => xmv) (.inl rfl) <| pv rfl rfl rfl (fun _ _ => xmv) (.inl rfl) <| ?_
      have hz := (RV.els r17).ix Ex5; obtain ⟨b9, f2, cs7, e7, i5, i6, q12, hc7⟩ := hz
      cases e7
      obtain rfl := q12
      have hc8 := hc7.ext hx7
      refine pv rfl rfl rfl (fun _ _ => xixs rfl rfl Try.underlying73 ti79 i5 i6) (.inl rfl) <| pv rfl rfl rfl (fun _ hS => xlda rfl ti79 (arlen _) (hc8.ext (hS.resolve_left nofun))) (.inr (Ext.refl _)) <| pv rfl rfl rfl (fun _ _ => xmv) (.inl rfl) <| ?_
      have hz := ix2 r17 Ex6; obtain ⟨cs8, i7, i8, q13, hc9⟩ := hz
      obtain rfl := q13
      have hc10 := hc9.ext hx7
      refine pv rfl rfl rfl (fun _ _ => xixs rfl rfl Try.underlying73 ti79 i7 i8) (.inl rfl) <| pv rfl rfl rfl (fun _ hS => xlda rfl ti79 (arlen _) (hc10.ext (hS.resolve_left nofun))) (.inr (Ext.refl _)) <| ?_
      refine pe rfl ?_ ?_
      ·
        have hz := obGet r16 Ex7; obtain ⟨b10, cs9, e8, q14, hc11⟩ := hz
        cases e8
        obtain ⟨_, _, rfl, ⟨_, _, rfl, ⟨a12, cq10, rfl, p5, q15, e9⟩, ⟨a13, cq11, rfl, p6, q16, e10⟩⟩, ⟨a14, rfl, q17⟩⟩ := q14
        have r32 := RV.of1 p5 q15 e9
        have r33 := RV.of1 p6 q16 e10
        have hc12 := hc11.ext hx7
        have r34 := r32.ext hx7
        have r35 := r33.ext hx7
        refine cl rfl rfl (xc cb65 (mc rfl (mc rfl (mc rfl mn)))) (c65 (x0 := ((x7.1.1, x7.1.2), Opq.mk)) hc12 ⟨[.slice a12 x7.1.1.length cq10] ++ [.slice a13 x7.1.2.length cq11], [a14], rfl, ⟨[.slice a12 x7.1.1.length cq10], [.slice a13 x7.1.2.length cq11], rfl, r34.rep1, r35.rep1⟩, ⟨_, rfl, q17⟩⟩ (show RV (α := (Ar 5 Int)) _ (.agg (List.flatMap Flat.enc x5.l).toArray) x5 from ⟨_, rfl, rfl⟩) (show RV (α := (Ar 5 Int)) _ (.agg (List.flatMap Flat.enc x6.l).toArray) x6 from ⟨_, rfl, rfl⟩) Ex8) ?_
        rintro _ w9 ⟨u5, u6, rfl, r36, r37, hx8⟩
        have k20 := k18.tr hx8
        have k21 := k19.tr hx8
        have k22 := hx7.tr hx8
        have hz := RV.sl r36.rv; obtain ⟨a15, cq12, rfl, -, -, -⟩ := hz
        have hz := RV.sl r37.rv; obtain ⟨a16, cq13, rfl, -, -, -⟩ := hz
        refine nl ⟨fun _ _ => hx8, ?_⟩
        refine pv rfl rfl rfl (fun _ _ => xmv) (.inl rfl) <| pv rfl rfl rfl (fun _ _ => xext rfl rfl) (.inl rfl) <| pv rfl rfl rfl (fun _ _ => xext rfl rfl) (.inl rfl) <| pe1 rfl <| sal ti62 fun b11 w10 hx9 hg4 hb6 => ?_
        have k23 := k20.tr hx9
        have k24 := k21.tr hx9
        have k25 := k22.tr hx9
        have k26 := hx8.tr hx9
        have r38 := r36.ext hx9
        have r39 := r37.ext hx9
        refine nl ⟨fun _ _ => k26, ?_⟩
        refine pv rfl rfl rfl (fun _ _ => xas) (.inl rfl) <| pe1 rfl <| sst rfl rfl rfl ti62 hb6 rfl rfl (ble rfl) fun w11 hch2 hb7 => ?_
        have k27 := Ext.chg k23 hch2 (Nat.le_trans k20.size hg4)
        have k28 := Ext.chg k24 hch2 (Nat.le_trans k21.size hg4)
        have k29 := Ext.chg k25 hch2 (Nat.le_trans k22.size hg4)
        have k30 := Ext.chg k26 hch2 (Nat.le_trans hx8.size hg4)
        have k31 := Ext.chg hx9 hch2 (Nat.le_trans (Nat.le_refl _) hg4)
        have r40 := r36.ext k31
        have r41 := r37.ext k31
        have hb8 : Bx w11 b11 62 [.slice a16 x8.2.1.length cq13, .int .i64 x8.2.2] := hb7
        refine nl ⟨fun _ _ => k30, ?_⟩
        cases hB1
        refine lf <| ?_
        exact ⟨_, rfl, r40.rv, k29⟩
      refine pm rfl ?_ ?_
      ·
        refine sal ti62 fun b12 w12 hx10 hg5 hb9 => ?_
        have k32 := k18.tr hx10
        have k33 := k19.tr hx10
        have k34 := hx7.tr hx10
        have r42 := r30.ext hx10
        refine nl ⟨fun _ _ => hx10, ?_⟩
        have hz := obGet r16 Ex7; obtain ⟨b13, cs10, e11, q18, hc13⟩ := hz
        cases e11
        obtain ⟨_, _, rfl, ⟨_, _, rfl, ⟨a17, cq14, rfl, p7, q19, e12⟩, ⟨a18, cq15, rfl, p8, q20, e13⟩⟩, ⟨a19, rfl, q21⟩⟩ := q18
        have r43 := RV.of1 p7 q19 e12
        have r44 := RV.of1 p8 q20 e13
        have hc14 := hc13.ext k34
        have r45 := r43.ext k34
        have r46 := r44.ext k34
        refine pe1 rfl <| cl rfl rfl (xc cb65 (mc rfl (mc rfl (mc rfl mn)))) (c65 (x0 := ((x7.1.1, x7.1.2), Opq.mk)) hc14 ⟨[.slice a17 x7.1.1.length cq14] ++ [.slice a18 x7.1.2.length cq15], [a19], rfl, ⟨[.slice a17 x7.1.1.length cq14], [.slice a18 x7.1.2.length cq15], rfl, r45.rep1, r46.rep1⟩, ⟨_, rfl, q21⟩⟩ (show RV (α := (Ar 5 Int)) _ (.agg (List.flatMap Flat.enc x5.l).toArray) x5 from ⟨_, rfl, rfl⟩) (show RV (α := (Ar 5 Int)) _ (.agg (List.flatMap Flat.enc x6.l).toArray) x6 from ⟨_, rfl, rfl⟩) Ex8) ?_
        rintro _ w13 ⟨u7, u8, rfl, r47, r48, hx11⟩
        have k35 := k32.tr hx11
        have k36 := k33.tr hx11
        have k37 := k34.tr hx11
        have k38 := hx10.tr hx11
        have hb10 := hb9.ext hx11
        have hz := RV.sl r47.rv; obtain ⟨a20, cq16, rfl, -, -, -⟩ := hz
        have hz := RV.sl r48.rv; obtain ⟨a21, cq17, rfl, -, -, -⟩ := hz
        refine nl ⟨fun _ _ => k38, ?_⟩
        refine pv rfl rfl rfl (fun _ _ => xmv) (.inl rfl) <| pv rfl rfl rfl (fun _ _ => xext rfl rfl) (.inl rfl) <| pv rfl rfl rfl (fun _ _ => xext rfl rfl) (.inl rfl) <| pv rfl rfl rfl (fun _ _ => xas) (.inl rfl) <| pe1 rfl <| sst rfl rfl rfl ti62 hb10 rfl rfl (ble rfl) fun w14 hch3 hb11 => ?_
        have k39 := Ext.chg k35 hch3 (Nat.le_trans k18.size hg5)
        have k40 := Ext.chg k36 hch3 (Nat.le_trans k19.size hg5)
        have k41 := Ext.chg k37 hch3 (Nat.le_trans hx7.size hg5)
        have k42 := Ext.chg k38 hch3 (Nat.le_trans (Nat.le_refl _) hg5)
        have o1 := Row.chg r47 hch3 hb9.lt
        have o2 := Row.chg r48 hch3 hb9.lt
        have hb12 : Bx w14 b12 62 [.slice a21 x8.2.1.length cq17, .int .i64 x8.2.2] := hb11
        refine nl ⟨fun _ _ => k42, ?_⟩
        cases hB1
        refine lf <| ?_
        exact ⟨_, rfl, o1.rv, k41⟩
      trivial
    rintro L w15 ⟨v4, l11_j1, R11_j1, K0_j1⟩
    have k43 := k2.tr K0_j1
    have k44 := k3.tr K0_j1
    have hz := RV.sl R11_j1; obtain ⟨a22, cq18, rfl, -, -, -⟩ := hz
    refine wp_seq <| wp_seq <| rg <| vl rfl rfl xmv <| vl rfl rfl (xlen l11_j1 Try.underlying22) <| vl rfl rfl (xeql rfl rfl) <| nl <| cnd rfl (fun h5 => ?_) (fun h5 => ?_)
    ·
      have hF := ifp hF h5
      refine wp_seq <| rg <| vl rfl rfl xas <| vl rfl rfl xas <| nl <| ?_
      cases hF
      exact wp_ret <| rt rfl (.tmp rfl rfl (.tmp rfl rfl .nil)) ⟨_, rfl, (RVo.nil (Nat.zero_le _)), k43⟩
    ·
      have hF := ifn hF h5
      refine wp_skip <| wp_seq <| rg <| vl rfl rfl xmv <| vl rfl rfl xas <| vl rfl rfl xas <| nl <| ?_
      cases hF
      exact wp_ret <| rt rfl (.tmp l11_j1 rfl (.tmp rfl rfl .nil)) ⟨_, rfl, R11_j1, k43⟩

set_option maxHeartbeats 4000000 in
theorem c40 {w0 : World} {v0 : Value} {x0 : ((List Int) × (List ((List Int) × (List Int))))} (r0 : RV w0 v0 x0) {v1 : Value} {x1 : (List Int)} (r1 : RV w0 v1 x1) {v2 : Value} {x2 : (List Int)} (r2 : RV w0 v2 x2) {F : Nat} {r : (((List Int) × Int) × Int)} (hF : bath_Mix F x0 x1 x2 = some r) :
    Calls Try.prog 40 [v0, v1, v2].toArray w0 (Ret fun v w' => ∃ u0 : Value, v = .tuple #[u0, .int .i64 r.2] ∧ RV w' u0 r.1 ∧ Ext w0 w') := by
  unfold bath_Mix at hF
  have hz := id r0; obtain ⟨_, rfl, ⟨_, _, rfl, ⟨a1, cq1, rfl, p1, q4, e1⟩, ⟨a2, cq2, rfl, p2, q5, e2⟩⟩⟩ := hz
  have r4 := RV.of1 p1 q4 e1
  have r5 := RV.of1 p2 q5 e2
  have hz := r1.sl; obtain ⟨a3, cq3, rfl, -, -, -⟩ := hz
  have hz := r2.sl; obtain ⟨a4, cq4, rfl, -, -, -⟩ := hz
  refine entr (n := 42) Try.func40 rfl rfl rfl <| wp_seq <| rg <| sbx rfl rfl fun b4 w1 hx1 hg1 hb1 => ?_
  have r6 := r1.ext hx1
  have r7 := r2.ext hx1
  have r8 := r4.ext hx1
  have r9 := r5.ext hx1
  have r10 := r0.ext hx1
  refine sal ti62 fun b5 w2 hx2 hg2 hb2 => ?_
  have k1 := hx1.tr hx2
  have hb3 := hb1.ext hx2
  have r11 := r8.ext hx2
  have r12 := r9.ext hx2
  have r13 := r6.ext hx2
  have r14 := r7.ext hx2
  refine vl rfl rfl xas <| nl <| wp_seq <| rg <| vl rfl rfl (xlda rfl ti25 rfl (Bx.cs hb3)) <| vl rfl rfl xmv <| vl rfl rfl xmv <| sbsv (cs := [.slice a3 x1.length cq3, .slice a4 x2.length cq4]) Try.underlying101 ti22 rfl (pc rfl (pc rfl pn)) rfl rfl rfl rfl rfl fun b6 w3 hx3 hg3 hb4 => ?_
  have k2 := k1.tr hx3
  have k3 := hx2.tr hx3
  have hb5 := hb2.ext hx3
  have r16 := r11.ext hx3
  have r17 := r12.ext hx3
  have r18 := r13.ext hx3
  have r19 := r14.ext hx3
  have r15 : RV w3 (.slice (some ⟨b6, 0, none⟩) 2 2) ([x1, x2] : List (List Int)) := RV.lit hb4 (css := [[.slice a3 x1.length cq3], [.slice a4 x2.length cq4]]) rfl ⟨r18.rep1, r19.rep1, trivial⟩ rfl (ble rfl)
  have hz := bs hF; obtain ⟨x4, Ex4, hF⟩ := hz
  refine cl rfl rfl (xc cb45 (mc rfl (mc rfl mn))) (c45 (show RV (α := ((List Int) × (List ((List Int) × (List Int))))) _ (.agg [.slice a1 x0.1.length cq1, .slice a2 x0.2.length cq2].toArray) (x0.1, x0.2) from ⟨_, rfl, ⟨[.slice a1 x0.1.length cq1], [.slice a2 x0.2.length cq2], rfl, r16.rep1, r17.rep1⟩⟩) r15 Ex4) ?_
  rintro _ w4 ⟨u1, u2, rfl, r20, r21, hx4⟩
  have k4 := k2.tr hx4
  have k5 := k3.tr hx4
  have k6 := hx3.tr hx4
  have hb6 := hb5.ext hx4
  have hz := obPtr r20; obtain ⟨a5, rfl⟩ := hz
  have hz := RV.sl r21; obtain ⟨a6, cq5, rfl, -, -, -⟩ := hz
  refine vl rfl rfl xmv <| vl rfl rfl (xext rfl rfl) <| vl rfl rfl (xext rfl rfl) <| vl rfl rfl (xext rfl rfl) <| vl rfl rfl xas <| vl rfl rfl xas <| vl rfl rfl xas <| nl <| wp_seq <| wp_seq <| rg <| vl rfl rfl xmv <| vl rfl rfl (xneq rfl rfl) <| nl <| cnd rfl (fun h4 => ?_) (fun h4 => ?_)
  ·
    have hF := ifp hF h4
    refine wp_seq <| rg <| vl rfl rfl (xbdv (r := [.slice none 0 0, .int .i64 0]) ti62 sp62 pn rfl) <| vl rfl rfl xmv <| sst rfl rfl rfl ti62 hb6 rfl rfl (ble rfl) fun w5 hch1 hb7 => ?_
    have k7 := Ext.chg k4 hch1 (Nat.le_trans hx1.size hg2)
    have k8 := Ext.chg k5 hch1 (Nat.le_trans (Nat.le_refl _) hg2)
    have hb8 : Bx w5 b5 62 [.slice none 0 0, .int .i64 0] := hb7
    refine vl rfl rfl xas <| nl <| ?_
    cases hF
    exact wp_ret <| rt rfl (.cell rfl rfl ti62 rfl (Bx.cs hb8) (.tmp rfl rfl .nil)) ⟨_, rfl, (show RV (α := ((List Int) × Int)) _ (.agg [.slice none 0 0, .int .i64 0].toArray) ([], 0) from ⟨_, rfl, ⟨[.slice none 0 0], [.int .i64 0], rfl, (RVo.nil (Nat.zero_le _)).rep1, rfl⟩⟩), k7⟩
  ·
    have hF := ifn hF h4
    refine wp_skip <| wp_seq <| ?_
    have hz := bs hF; obtain ⟨⟨y1, y2⟩, hB1, hF⟩ := hz
    refine ct (fun L w => ∃ v4 v5 v6 : Value, L 11 = v4 ∧ RV w v4 y1 ∧ L 12 = v5 ∧ PX 62 w4.heap.size w v5 [v6, .int .i64 y2.2] ∧ Row 2 w4.heap.size w v6 y2.1 ∧ L 6 = .pointer (some ⟨b5, 0, none⟩) ∧ Ext w4 w) ?_ ?_
    ·
      have hz := bs hB1; obtain ⟨x5, Ex5, hB1⟩ := hz
      have hz := bs hB1; obtain ⟨x6, Ex6, hB1⟩ := hz
      have hz := bs hB1; obtain ⟨x7, Ex7, hB1⟩ := hz
      have hz := bs hB1; obtain ⟨x8, Ex8, hB1⟩ := hz
      refine wpl [] (.pure true 0 (.pure true 1 (.pure true 2 (.pure false 3 (.pure true 4 (.pure true 5 (.pure false 6 (.eff 7 (.pure true 8 (.pure true 9 (.pure true 10 (.eff 11 (.pure true 12 (.eff 13 .fin .stop)) .stop)))) (.eff 11 (.eff 7 (.pure true 8 (.pure true 9 (.pure true 10 (.pure true 12 (.eff 13 .fin .stop))))) .stop) .stop))))))))) mixed (by kernel_rfl) (fun w10 hx8 => ?_)
      have k27 := k4.tr hx8
      have k28 := k5.tr hx8
      have k29 := k6.tr hx8
      have hb16 := hb6.ext hx8
      have r34 := r20.ext hx8
      have r35 := r21.ext hx8
      refine pv rfl rfl rfl (fun _ _ => xmv) (.inl rfl) <| pv rfl rfl rfl (fun _ _ => xmv) (.inl rfl) <| ?_
      have hz := (RV.els r21).ix Ex5; obtain ⟨b10, f2, cs7, e7, i5, i6, q12, hc7⟩ := hz
      cases e7
      obtain rfl := q12
      have hc8 := hc7.ext hx8
      refine pv rfl rfl rfl (fun _ _ => xixs rfl rfl Try.underlying73 ti79 i5 i6) (.inl rfl) <| pv rfl rfl rfl (fun _ hS => xlda rfl ti79 (arlen _) (hc8.ext (hS.resolve_left nofun))) (.inr (Ext.refl _)) <| pv rfl rfl rfl (fun _ _ => xmv) (.inl rfl) <| ?_
      have hz := ix2 r21 Ex6; obtain ⟨cs8, i7, i8, q13, hc9⟩ := hz
      obtain rfl := q13
      have hc10 := hc9.ext hx8
      refine pv rfl rfl rfl (fun _ _ => xixs rfl rfl Try.underlying73 ti79 i7 i8) (.inl rfl) <| pv rfl rfl rfl (fun _ hS => xlda rfl ti79 (arlen _) (hc10.ext (hS.resolve_left nofun))) (.inr (Ext.refl _)) <| ?_
      refine pe rfl ?_ ?_
      ·
        have hz := obGet r20 Ex7; obtain ⟨b11, cs9, e8, q14, hc11⟩ := hz
        cases e8
        obtain ⟨_, _, rfl, ⟨_, _, rfl, ⟨a12, cq10, rfl, p5, q15, e9⟩, ⟨a13, cq11, rfl, p6, q16, e10⟩⟩, ⟨a14, rfl, q17⟩⟩ := q14
        have r36 := RV.of1 p5 q15 e9
        have r37 := RV.of1 p6 q16 e10
        have hc12 := hc11.ext hx8
        have r38 := r36.ext hx8
        have r39 := r37.ext hx8
        refine cl rfl rfl (xc cb65 (mc rfl (mc rfl (mc rfl mn)))) (c65 (x0 := ((x7.1.1, x7.1.2), Opq.mk)) hc12 ⟨[.slice a12 x7.1.1.length cq10] ++ [.slice a13 x7.1.2.length cq11], [a14], rfl, ⟨[.slice a12 x7.1.1.length cq10], [.slice a13 x7.1.2.length cq11], rfl, r38.rep1, r39.rep1⟩, ⟨_, rfl, q17⟩⟩ (show RV (α := (Ar 5 Int)) _ (.agg (List.flatMap Flat.enc x5.l).toArray) x5 from ⟨_, rfl, rfl⟩) (show RV (α := (Ar 5 Int)) _ (.agg (List.flatMap Flat.enc x6.l).toArray) x6 from ⟨_, rfl, rfl⟩) Ex8) ?_
        rintro _ w11 ⟨u5, u6, rfl, r40, r41, hx9⟩
        have k30 := k27.tr hx9
        have k31 := k28.tr hx9
        have k32 := k29.tr hx9
        have k33 := hx8.tr hx9
        have hb17 := hb16.ext hx9
        have hz := RV.sl r40.rv; obtain ⟨a15, cq12, rfl, -, -, -⟩ := hz
        have hz := RV.sl r41.rv; obtain ⟨a16, cq13, rfl, -, -, -⟩ := hz
        refine nl ⟨fun _ _ => hx9, ?_⟩
        refine pv rfl rfl rfl (fun _ _ => xmv) (.inl rfl) <| pv rfl rfl rfl (fun _ _ => xext rfl rfl) (.inl rfl) <| pv rfl rfl rfl (fun _ _ => xext rfl rfl) (.inl rfl) <| pe1 rfl <| sal ti62 fun b12 w12 hx10 hg5 hb18 => ?_
        have k34 := k30.tr hx10
        have k35 := k31.tr hx10
        have k36 := k32.tr hx10
        have k37 := k33.tr hx10
        have k38 := hx9.tr hx10
        have hb19 := hb17.ext hx10
        have r42 := r40.ext hx10
        have r43 := r41.ext hx10
        refine nl ⟨fun _ _ => k38, ?_⟩
        refine pv rfl rfl rfl (fun _ _ => xas) (.inl rfl) <| pe1 rfl <| sst rfl rfl rfl ti62 hb18 rfl rfl (ble rfl) fun w13 hch3 hb20 => ?_
        have k39 := Ext.chg k34 hch3 (Nat.le_trans k30.size hg5)
        have k40 := Ext.chg k35 hch3 (Nat.le_trans k31.size hg5)
        have k41 := Ext.chg k36 hch3 (Nat.le_trans k32.size hg5)
        have k42 := Ext.chg k37 hch3 (Nat.le_trans k33.size hg5)
        have k43 := Ext.chg k38 hch3 (Nat.le_trans hx9.size hg5)
        have k44 := Ext.chg hx10 hch3 (Nat.le_trans (Nat.le_refl _) hg5)
        have hb21 := hb17.ext k44
        have r44 := r40.ext k44
        have r45 := r41.ext k44
        have hb22 : Bx w13 b12 62 [.slice a16 x8.2.1.length cq13, .int .i64 x8.2.2] := hb20
        refine nl ⟨fun _ _ => k43, ?_⟩
        cases hB1
        refine lf <| ?_
        exact ⟨_, _, _, rfl, r44.rv, rfl, ⟨_, rfl, (Nat.le_trans k33.size hg5), hb22⟩, (r45.bnd hx8.size), rfl, k42⟩
      refine pm rfl ?_ ?_
      ·
        refine sal ti62 fun b13 w14 hx11 hg6 hb23 => ?_
        have k45 := k27.tr hx11
        have k46 := k28.tr hx11
        have k47 := k29.tr hx11
        have k48 := hx8.tr hx11
        have hb24 := hb16.ext hx11
        have r46 := r34.ext hx11
        refine nl ⟨fun _ _ => hx11, ?_⟩
        have hz := obGet r20 Ex7; obtain ⟨b14, cs10, e11, q18, hc13⟩ := hz
        cases e11
        obtain ⟨_, _, rfl, ⟨_, _, rfl, ⟨a17, cq14, rfl, p7, q19, e12⟩, ⟨a18, cq15, rfl, p8, q20, e13⟩⟩, ⟨a19, rfl, q21⟩⟩ := q18
        have r47 := RV.of1 p7 q19 e12
        have r48 := RV.of1 p8 q20 e13
        have hc14 := hc13.ext k48
        have r49 := r47.ext k48
        have r50 := r48.ext k48
        refine pe1 rfl <| cl rfl rfl (xc cb65 (mc rfl (mc rfl (mc rfl mn)))) (c65 (x0 := ((x7.1.1, x7.1.2), Opq.mk)) hc14 ⟨[.slice a17 x7.1.1.length cq14] ++ [.slice a18 x7.1.2.length cq15], [a19], rfl, ⟨[.slice a17 x7.1.1.length cq14], [.slice a18 x7.1.2.length cq15], rfl, r49.rep1, r50.rep1⟩, ⟨_, rfl, q21⟩⟩ (show RV (α := (Ar 5 Int)) _ (.agg (List.flatMap Flat.enc x5.l).toArray) x5 from ⟨_, rfl, rfl⟩) (show RV (α := (Ar 5 Int)) _ (.agg (List.flatMap Flat.enc x6.l).toArray) x6 from ⟨_, rfl, rfl⟩) Ex8) ?_
        rintro _ w15 ⟨u7, u8, rfl, r51, r52, hx12⟩
        have k49 := k45.tr hx12
        have k50 := k46.tr hx12
        have k51 := k47.tr hx12
        have k52 := k48.tr hx12
        have k53 := hx11.tr hx12
        have hb25 := hb24.ext hx12
        have hb26 := hb23.ext hx12
        have hz := RV.sl r51.rv; obtain ⟨a20, cq16, rfl, -, -, -⟩ := hz
        have hz := RV.sl r52.rv; obtain ⟨a21, cq17, rfl, -, -, -⟩ := hz
        refine nl ⟨fun _ _ => k53, ?_⟩
        refine pv rfl rfl rfl (fun _ _ => xmv) (.inl rfl) <| pv rfl rfl rfl (fun _ _ => xext rfl rfl) (.inl rfl) <| pv rfl rfl rfl (fun _ _ => xext rfl rfl) (.inl rfl) <| pv rfl rfl rfl (fun _ _ => xas) (.inl rfl) <| pe1 rfl <| sst rfl rfl rfl ti62 hb26 rfl rfl (ble rfl) fun w16 hch4 hb27 => ?_
        have k54 := Ext.chg k49 hch4 (Nat.le_trans k27.size hg6)
        have k55 := Ext.chg k50 hch4 (Nat.le_trans k28.size hg6)
        have k56 := Ext.chg k51 hch4 (Nat.le_trans k29.size hg6)
        have k57 := Ext.chg k52 hch4 (Nat.le_trans hx8.size hg6)
        have k58 := Ext.chg k53 hch4 (Nat.le_trans (Nat.le_refl _) hg6)
        have hb28 := hb16.ext k58
        have o1 := Row.chg r51 hch4 hb23.lt
        have o2 := Row.chg r52 hch4 hb23.lt
        have hb29 : Bx w16 b13 62 [.slice a21 x8.2.1.length cq17, .int .i64 x8.2.2] := hb27
        refine nl ⟨fun _ _ => k58, ?_⟩
        cases hB1
        refine lf <| ?_
        exact ⟨_, _, _, rfl, o1.rv, rfl, ⟨_, rfl, (Nat.le_trans hx8.size hg6), hb29⟩, (o2.bnd k48.size), rfl, k57⟩
      trivial
    rintro L w17 ⟨v4, v5, v6, l11_j1, R11_j1, l12_j1, P12_j1, O12n1_j1, l6_j1, K0_j1⟩
    have k59 := k4.tr K0_j1
    have k60 := k5.tr K0_j1
    have k61 := k6.tr K0_j1
    have hb30 := hb6.ext K0_j1
    have hz := RV.sl R11_j1; obtain ⟨a22, cq18, rfl, -, -, -⟩ := hz
    obtain ⟨b15, rfl, hg7, hb31⟩ := P12_j1
    have hz := RV.sl O12n1_j1.rv; obtain ⟨a23, cq19, rfl, -, -, -⟩ := hz
    refine wp_seq <| wp_seq <| rg <| vl rfl rfl xmv <| vl rfl rfl (xlen l11_j1 Try.underlying22) <| vl rfl rfl (xgtr rfl rfl) <| nl <| cnd rfl (fun h5 => ?_) (fun h5 => ?_)
    ·
      have hF := ifp hF h5
      refine wp_seq <| rg <| vl rfl rfl (xbdv (r := [.slice none 0 0, .int .i64 0]) ti62 sp62 pn rfl) <| sst l6_j1 rfl rfl ti62 hb30 rfl rfl (ble rfl) fun w18 hch5 hb32 => ?_
      have k62 := Ext.chg k59 hch5 (Nat.le_trans hx1.size hg2)
      have k63 := Ext.chg k60 hch5 (Nat.le_trans (Nat.le_refl _) hg2)
      have hb33 : Bx w18 b5 62 [.slice none 0 0, .int .i64 0] := hb32
      refine vl rfl rfl xas <| nl <| ?_
      cases hF
      exact wp_ret <| rt rfl (.cell l6_j1 rfl ti62 rfl (Bx.cs hb33) (.tmp rfl rfl .nil)) ⟨_, rfl, (show RV (α := ((List Int) × Int)) _ (.agg [.slice none 0 0, .int .i64 0].toArray) ([], 0) from ⟨_, rfl, ⟨[.slice none 0 0], [.int .i64 0], rfl, (RVo.nil (Nat.zero_le _)).rep1, rfl⟩⟩), k62⟩
    ·
      have hF := ifn hF h5
      refine wp_skip <| wp_seq <| rg <| vl rfl rfl (xlda l12_j1 ti62 rfl (Bx.cs hb31)) <| sst l6_j1 rfl rfl ti62 hb30 rfl rfl (ble rfl) fun w19 hch6 hb34 => ?_
      have k64 := Ext.chg k59 hch6 (Nat.le_trans hx1.size hg2)
      have k65 := Ext.chg k60 hch6 (Nat.le_trans (Nat.le_refl _) hg2)
      have o3 := Row.chg O12n1_j1 hch6 (Nat.lt_of_lt_of_le hb2.lt k6.size)
      have hb35 : Bx w19 b5 62 [.slice a23 y2.1.length cq19, .int .i64 y2.2] := hb34
      refine vl rfl rfl xas <| nl <| ?_
      cases hF
      exact wp_ret <| rt rfl (.cell l6_j1 rfl ti62 rfl (Bx.cs hb35) (.tmp rfl rfl .nil)) ⟨_, rfl, (show RV (α := ((List Int) × Int)) _ (.agg [.slice a23 y2.1.length cq19, .int .i64 y2.2].toArray) (y2.1, y2.2) from ⟨_, rfl, ⟨[.slice a23 y2.1.length cq19], [.int .i64 y2.2], rfl, o3.rv.rep1, rfl⟩⟩), k64⟩

set_option maxHeartbeats 4000000 in
theorem c13 {w0 : World}  {F : Nat} {r : Bool} (hF : law11_Works F = some r) :
    Calls Try.prog 13 [].toArray w0 (Ret fun v w' => v = .bool r ∧ Ext w0 w') := by
  unfold law11_Works at hF
  refine entr (n := 186) Try.func13 rfl rfl rfl <| wp_seq <| rg <| vl rfl rfl xas <| nl <| wp_seq <| rg <| ?_
  have hz := bs hF; obtain ⟨x1, Ex1, hF⟩ := hz
  refine cl rfl rfl (xc cb43 mn) (c43 Ex1) ?_
  rintro _ w1 ⟨u1, rfl, r1, hx1⟩
  have hz := id r1; obtain ⟨_, rfl, ⟨_, _, rfl, ⟨a1, cq1, rfl, p1, q1, e1⟩, ⟨a2, cq2, rfl, p2, q2, e2⟩⟩⟩ := hz
  have r2 := RV.of1 p1 q1 e1
  have r3 := RV.of1 p2 q2 e2
  refine sal ti25 fun b1 w2 hx2 hg1 hb1 => ?_
  have k1 := hx1.tr hx2
  have r4 := r2.ext hx2
  have r5 := r3.ext hx2
  have r6 := r1.ext hx2
  refine sst rfl rfl rfl ti25 hb1 rfl rfl (ble rfl) fun w3 hch1 hb2 => ?_
  have k2 := Ext.chg k1 hch1 (Nat.le_trans hx1.size hg1)
  have k3 := Ext.chg hx2 hch1 (Nat.le_trans (Nat.le_refl _) hg1)
  have r7 := r2.ext k3
  have r8 := r3.ext k3
  have hb3 : Bx w3 b1 25 [.slice a1 x1.1.length cq1, .slice a2 x1.2.length cq2] := hb2
  refine nl <| wp_seq <| rg <| sbsv (cs := [.int .i64 5, .int .i64 0, .int .i64 0]) Try.underlying22 ti2 rfl (pc rfl (pc rfl (pc rfl pn))) rfl rfl rfl rfl rfl fun b2 w4 hx3 hg2 hb4 => ?_
  have k4 := k2.tr hx3
  have k5 := k3.tr hx3
  have hb5 := hb3.ext hx3
  have r9 := r7.ext hx3
  have r10 := r8.ext hx3
  have o1 : Row (α := Int) 2 w3.heap.size w4 (.slice (some ⟨b2, 0, none⟩) 3 3) [5, 0, 0] := Row.lit hg2 hb4 rfl (ble rfl)
  refine sbsv (cs := [.int .i64 0, .int .i64 1, .int .i64 3]) Try.underlying22 ti2 rfl (pc rfl (pc rfl (pc rfl pn))) rfl rfl rfl rfl rfl fun b3 w5 hx4 hg3 hb6 => ?_
  have k6 := k4.tr hx4
  have k7 := k5.tr hx4
  have k8 := hx3.tr hx4
  have hb7 := hb5.ext hx4
  have r12 := r9.ext hx4
  have r13 := r10.ext hx4
  have o2 := o1.ext hx4
  have o3 : Row (α := Int) 2 w4.heap.size w5 (.slice (some ⟨b3, 0, none⟩) 3 3) [0, 1, 3] := Row.lit hg3 hb6 rfl (ble rfl)
  refine sbsv (cs := [.int .i64 0, .int .i64 1, .int .i64 4]) Try.underlying22 ti2 rfl (pc rfl (pc rfl (pc rfl pn))) rfl rfl rfl rfl rfl fun b4 w6 hx5 hg4 hb8 => ?_
  have k9 := k6.tr hx5
  have k10 := k7.tr hx5
  have k11 := k8.tr hx5
  have k12 := hx4.tr hx5
  have hb9 := hb7.ext hx5
  have r15 := r12.ext hx5
  have r16 := r13.ext hx5
  have o4 := o2.ext hx5
  have o5 := o3.ext hx5
  have o6 : Row (α := Int) 2 w5.heap.size w6 (.slice (some ⟨b4, 0, none⟩) 3 3) [0, 1, 4] := Row.lit hg4 hb8 rfl (ble rfl)
  refine vl rfl rfl xas <| vl rfl rfl xas <| vl rfl rfl xas <| nl <| wp_seq <| rg <| vl rfl rfl (xlda rfl ti25 rfl (Bx.cs hb9)) <| vl rfl rfl xmv <| sbsv (cs := [.int .i64 0, .int .i64 1, .int .i64 1, .int .i64 2]) Try.underlying26 ti3 rfl (pc rfl (pc rfl (pc rfl (pc rfl pn)))) rfl rfl rfl rfl rfl fun b5 w7 hx6 hg5 hb10 => ?_
  have k13 := k9.tr hx6
  have k14 := k10.tr hx6
  have k15 := k11.tr hx6
  have k16 := k12.tr hx6
  have k17 := hx5.tr hx6
  have hb11 := hb9.ext hx6
  have r18 := r15.ext hx6
  have r19 := r16.ext hx6
  have o7 := o4.ext hx6
  have o8 := o5.ext hx6
  have o9 := o6.ext hx6
  have o10 : Row (α := Int) 3 w6.heap.size w7 (.slice (some ⟨b5, 0, none⟩) 4 4) [0, 1, 1, 2] := Row.lit hg5 hb10 rfl (ble rfl)
  have hz := bs hF; obtain ⟨x2, Ex2, hF⟩ := hz
  refine cl rfl rfl (xc cb14 (mc rfl (mc rfl (mc rfl mn)))) (c14 (show RV (α := ((List Int) × (List ((List Int) × (List Int))))) _ (.agg [.slice a1 x1.1.length cq1, .slice a2 x1.2.length cq2].toArray) (x1.1, x1.2) from ⟨_, rfl, ⟨[.slice a1 x1.1.length cq1], [.slice a2 x1.2.length cq2], rfl, r18.rep1, r19.rep1⟩⟩) o7.rv o10.rv Ex2) ?_
  rintro _ w8 ⟨u2, rfl, r21, hx7⟩
  have k18 := k13.tr hx7
  have k19 := k14.tr hx7
  have k20 := k15.tr hx7
  have k21 := k16.tr hx7
  have k22 := k17.tr hx7
  have k23 := hx6.tr hx7
  have hb12 := hb11.ext hx7
  have r22 := r18.ext hx7
  have r23 := r19.ext hx7
  have o11 := o7.ext hx7
  have o12 := o8.ext hx7
  have o13 := o9.ext hx7
  have hz := RV.sl r21; obtain ⟨a3, cq3, rfl, -, -, -⟩ := hz
  refine vl rfl rfl xmv <| vl rfl rfl (xext rfl rfl) <| vl rfl rfl (xext rfl rfl) <| vl rfl rfl xas <| vl rfl rfl xas <| nl <| wp_seq <| rg <| vl rfl rfl (xlda rfl ti25 rfl (Bx.cs hb12)) <| vl rfl rfl xmv <| vl rfl rfl xmv <| ?_
  have hz := bs hF; obtain ⟨x3, Ex3, hF⟩ := hz
  refine cl rfl rfl (xc cb20 (mc rfl (mc rfl (mc rfl mn)))) (c20 (show RV (α := ((List Int) × (List ((List Int) × (List Int))))) _ (.agg [.slice a1 x1.1.length cq1, .slice a2 x1.2.length cq2].toArray) (x1.1, x1.2) from ⟨_, rfl, ⟨[.slice a1 x1.1.length cq1], [.slice a2 x1.2.length cq2], rfl, r22.rep1, r23.rep1⟩⟩) o11.rv o12.rv Ex3) ?_
  rintro _ w9 ⟨u3, rfl, r24, hx8⟩
  have k24 := k18.tr hx8
  have k25 := k19.tr hx8
  have k26 := k20.tr hx8
  have k27 := k21.tr hx8
  have k28 := k22.tr hx8
  have k29 := k23.tr hx8
  have hb13 := hb12.ext hx8
  have r25 := r22.ext hx8
  have r26 := r23.ext hx8
  have o14 := o11.ext hx8
  have o15 := o12.ext hx8
  have o16 := o13.ext hx8
  have r27 := r21.ext hx8
  have hz := RV.sl r24; obtain ⟨a4, cq4, rfl, -, -, -⟩ := hz
  refine vl rfl rfl xmv <| vl rfl rfl (xext rfl rfl) <| vl rfl rfl (xext rfl rfl) <| vl rfl rfl xas <| vl rfl rfl xas <| nl <| wp_seq <| rg <| vl rfl rfl (xlda rfl ti25 rfl (Bx.cs hb13)) <| vl rfl rfl xmv <| vl rfl rfl xmv <| ?_
  have hz := bs hF; obtain ⟨x4, Ex4, hF⟩ := hz
  refine cl rfl rfl (xc cb20 (mc rfl (mc rfl (mc rfl mn)))) (c20 (show RV (α := ((List Int) × (List ((List Int) × (List Int))))) _ (.agg [.slice a1 x1.1.length cq1, .slice a2 x1.2.length cq2].toArray) (x1.1, x1.2) from ⟨_, rfl, ⟨[.slice a1 x1.1.length cq1], [.slice a2 x1.2.length cq2], rfl, r25.rep1, r26.rep1⟩⟩) o14.rv o16.rv Ex4) ?_
  rintro _ w10 ⟨u4, rfl, r28, hx9⟩
  have k30 := k24.tr hx9
  have k31 := k25.tr hx9
  have k32 := k26.tr hx9
  have k33 := k27.tr hx9
  have k34 := k28.tr hx9
  have k35 := k29.tr hx9
  have hb14 := hb13.ext hx9
  have r29 := r25.ext hx9
  have r30 := r26.ext hx9
  have o17 := o14.ext hx9
  have o18 := o15.ext hx9
  have o19 := o16.ext hx9
  have r31 := r27.ext hx9
  have r32 := r24.ext hx9
  have hz := RV.sl r28; obtain ⟨a5, cq5, rfl, -, -, -⟩ := hz
  refine vl rfl rfl xmv <| vl rfl rfl (xext rfl rfl) <| vl rfl rfl (xext rfl rfl) <| vl rfl rfl xas <| vl rfl rfl xas <| nl <| wp_seq <| rg <| vl rfl rfl (xlda rfl ti25 rfl (Bx.cs hb14)) <| sbsv (cs := [.int .i64 1, .int .i64 2, .int .i64 1]) Try.underlying22 ti2 rfl (pc rfl (pc rfl (pc rfl pn))) rfl rfl rfl rfl rfl fun b6 w11 hx10 hg6 hb15 => ?_
  have k36 := k30.tr hx10
  have k37 := k31.tr hx10
  have k38 := k32.tr hx10
  have k39 := k33.tr hx10
  have k40 := k34.tr hx10
  have k41 := k35.tr hx10
  have hb16 := hb14.ext hx10
  have r33 := r29.ext hx10
  have r34 := r30.ext hx10
  have o20 := o17.ext hx10
  have o21 := o18.ext hx10
  have o22 := o19.ext hx10
  have r35 := r31.ext hx10
  have r36 := r32.ext hx10
  have o23 : Row (α := Int) 2 w10.heap.size w11 (.slice (some ⟨b6, 0, none⟩) 3 3) [1, 2, 1] := Row.lit hg6 hb15 rfl (ble rfl)
  have hz := bs hF; obtain ⟨x5, Ex5, hF⟩ := hz
  refine cl rfl rfl (xc cb33 (mc rfl (mc rfl mn))) (c33 (show RV (α := ((List Int) × (List ((List Int) × (List Int))))) _ (.agg [.slice a1 x1.1.length cq1, .slice a2 x1.2.length cq2].toArray) (x1.1, x1.2) from ⟨_, rfl, ⟨[.slice a1 x1.1.length cq1], [.slice a2 x1.2.length cq2], rfl, r33.rep1, r34.rep1⟩⟩) o23.rv Ex5) ?_
  rintro _ w12 ⟨rfl, hx11⟩
  have k42 := k36.tr hx11
  have k43 := k37.tr hx11
  have k44 := k38.tr hx11
  have k45 := k39.tr hx11
  have k46 := k40.tr hx11
  have k47 := k41.tr hx11
  have k48 := hx10.tr hx11
  have hb17 := hb16.ext hx11
  have r38 := r33.ext hx11
  have r39 := r34.ext hx11
  have o24 := o20.ext hx11
  have o25 := o21.ext hx11
  have o26 := o22.ext hx11
  have r40 := r35.ext hx11
  have r41 := r36.ext hx11
  refine vl rfl rfl xas <| nl <| wp_seq <| rg <| vl rfl rfl (xlda rfl ti25 rfl (Bx.cs hb17)) <| vl rfl rfl xmv <| vl rfl rfl xmv <| ?_
  have hz := bs hF; obtain ⟨x6, Ex6, hF⟩ := hz
  refine cl rfl rfl (xc cb32 (mc rfl (mc rfl (mc rfl mn)))) (c32 (show RV (α := ((List Int) × (List ((List Int) × (List Int))))) _ (.agg [.slice a1 x1.1.length cq1, .slice a2 x1.2.length cq2].toArray) (x1.1, x1.2) from ⟨_, rfl, ⟨[.slice a1 x1.1.length cq1], [.slice a2 x1.2.length cq2], rfl, r38.rep1, r39.rep1⟩⟩) o24.rv o26.rv Ex6) ?_
  rintro _ w13 ⟨u5, rfl, r42, hx12⟩
  have k49 := k42.tr hx12
  have k50 := k43.tr hx12
  have k51 := k44.tr hx12
  have k52 := k45.tr hx12
  have k53 := k46.tr hx12
  have k54 := k47.tr hx12
  have k55 := k48.tr hx12
  have hb18 := hb17.ext hx12
  have r43 := r38.ext hx12
  have r44 := r39.ext hx12
  have o27 := o24.ext hx12
  have o28 := o25.ext hx12
  have o29 := o26.ext hx12
  have r45 := r40.ext hx12
  have r46 := r41.ext hx12
  have hz := RV.sl r42; obtain ⟨a6, cq6, rfl, -, -, -⟩ := hz
  refine vl rfl rfl xmv <| vl rfl rfl (xext rfl rfl) <| vl rfl rfl (xext rfl rfl) <| vl rfl rfl xas <| vl rfl rfl xas <| nl <| wp_seq <| rg <| vl rfl rfl (xlda rfl ti25 rfl (Bx.cs hb18)) <| vl rfl rfl xmv <| vl rfl rfl xmv <| ?_
  have hz := bs hF; obtain ⟨x7, Ex7, hF⟩ := hz
  refine cl rfl rfl (xc cb32 (mc rfl (mc rfl (mc rfl mn)))) (c32 (show RV (α := ((List Int) × (List ((List Int) × (List Int))))) _ (.agg [.slice a1 x1.1.length cq1, .slice a2 x1.2.length cq2].toArray) (x1.1, x1.2) from ⟨_, rfl, ⟨[.slice a1 x1.1.length cq1], [.slice a2 x1.2.length cq2], rfl, r43.rep1, r44.rep1⟩⟩) o27.rv o28.rv Ex7) ?_
  rintro _ w14 ⟨u6, rfl, r47, hx13⟩
  have k56 := k49.tr hx13
  have k57 := k50.tr hx13
  have k58 := k51.tr hx13
  have k59 := k52.tr hx13
  have k60 := k53.tr hx13
  have k61 := k54.tr hx13
  have k62 := k55.tr hx13
  have hb19 := hb18.ext hx13
  have r48 := r43.ext hx13
  have r49 := r44.ext hx13
  have o30 := o27.ext hx13
  have o31 := o28.ext hx13
  have o32 := o29.ext hx13
  have r50 := r45.ext hx13
  have r51 := r46.ext hx13
  have r52 := r42.ext hx13
  have hz := RV.sl r47; obtain ⟨a7, cq7, rfl, -, -, -⟩ := hz
  refine vl rfl rfl xmv <| vl rfl rfl (xext rfl rfl) <| vl rfl rfl (xext rfl rfl) <| vl rfl rfl xas <| vl rfl rfl xas <| nl <| wp_seq <| rg <| vl rfl rfl (xlda rfl ti25 rfl (Bx.cs hb19)) <| vl rfl rfl xmv <| vl rfl rfl xmv <| ?_
  have hz := bs hF; obtain ⟨x8, Ex8, hF⟩ := hz
  refine cl rfl rfl (xc cb40 (mc rfl (mc rfl (mc rfl mn)))) (c40 (show RV (α := ((List Int) × (List ((List Int) × (List Int))))) _ (.agg [.slice a1 x1.1.length cq1, .slice a2 x1.2.length cq2].toArray) (x1.1, x1.2) from ⟨_, rfl, ⟨[.slice a1 x1.1.length cq1], [.slice a2 x1.2.length cq2], rfl, r48.rep1, r49.rep1⟩⟩) o30.rv o31.rv Ex8) ?_
  rintro _ w15 ⟨u7, rfl, r53, hx14⟩
  have k63 := k56.tr hx14
  have k64 := k57.tr hx14
  have k65 := k58.tr hx14
  have k66 := k59.tr hx14
  have k67 := k60.tr hx14
  have k68 := k61.tr hx14
  have k69 := k62.tr hx14
  have hb20 := hb19.ext hx14
  have r54 := r48.ext hx14
  have r55 := r49.ext hx14
  have o33 := o30.ext hx14
  have o34 := o31.ext hx14
  have o35 := o32.ext hx14
  have r56 := r50.ext hx14
  have r57 := r51.ext hx14
  have r58 := r52.ext hx14
  have hz := id r53; obtain ⟨_, rfl, ⟨_, _, rfl, ⟨a8, cq8, rfl, p3, q3, e3⟩, rfl⟩⟩ := hz
  have r59 := RV.of1 p3 q3 e3
  refine vl rfl rfl xmv <| vl rfl rfl (xext rfl rfl) <| vl rfl rfl (xext rfl rfl) <| sal ti62 fun b7 w16 hx15 hg7 hb21 => ?_
  have k70 := k63.tr hx15
  have k71 := k64.tr hx15
  have k72 := k65.tr hx15
  have k73 := k66.tr hx15
  have k74 := k67.tr hx15
  have k75 := k68.tr hx15
  have k76 := k69.tr hx15
  have hb22 := hb20.ext hx15
  have r60 := r54.ext hx15
  have r61 := r55.ext hx15
  have o36 := o33.ext hx15
  have o37 := o34.ext hx15
  have o38 := o35.ext hx15
  have r62 := r56.ext hx15
  have r63 := r57.ext hx15
  have r64 := r58.ext hx15
  have r65 := r59.ext hx15
  have r66 := r53.ext hx15
  refine sst rfl rfl rfl ti62 hb21 rfl rfl (ble rfl) fun w17 hch2 hb23 => ?_
  have k77 := Ext.chg k70 hch2 (Nat.le_trans k63.size hg7)
  have k78 := Ext.chg k71 hch2 (Nat.le_trans k64.size hg7)
  have k79 := Ext.chg k72 hch2 (Nat.le_trans k65.size hg7)
  have k80 := Ext.chg k73 hch2 (Nat.le_trans k66.size hg7)
  have k81 := Ext.chg k74 hch2 (Nat.le_trans k67.size hg7)
  have k82 := Ext.chg k75 hch2 (Nat.le_trans k68.size hg7)
  have k83 := Ext.chg k76 hch2 (Nat.le_trans k69.size hg7)
  have k84 := Ext.chg hx15 hch2 (Nat.le_trans (Nat.le_refl _) hg7)
  have hb24 := hb20.ext k84
  have r67 := r54.ext k84
  have r68 := r55.ext k84
  have o39 := o33.ext k84
  have o40 := o34.ext k84
  have o41 := o35.ext k84
  have r69 := r56.ext k84
  have r70 := r57.ext k84
  have r71 := r58.ext k84
  have r72 := r59.ext k84
  have hb25 : Bx w17 b7 62 [.slice a8 x8.1.1.length cq8, .int .i64 x8.1.2] := hb23
  refine vl rfl rfl xas <| nl <| wp_seq <| rg <| vl rfl rfl (xlda rfl ti25 rfl (Bx.cs hb24)) <| vl rfl rfl xmv <| ?_
  have hz := bs hF; obtain ⟨x9, Ex9, hF⟩ := hz
  refine cl rfl rfl (xc cb22 (mc rfl (mc rfl mn))) (c22 (show RV (α := ((List Int) × (List ((List Int) × (List Int))))) _ (.agg [.slice a1 x1.1.length cq1, .slice a2 x1.2.length cq2].toArray) (x1.1, x1.2) from ⟨_, rfl, ⟨[.slice a1 x1.1.length cq1], [.slice a2 x1.2.length cq2], rfl, r67.rep1, r68.rep1⟩⟩) o39.rv Ex9) ?_
  rintro _ w18 ⟨rfl, hx16⟩
  have k85 := k77.tr hx16
  have k86 := k78.tr hx16
  have k87 := k79.tr hx16
  have k88 := k80.tr hx16
  have k89 := k81.tr hx16
  have k90 := k82.tr hx16
  have k91 := k83.tr hx16
  have k92 := k84.tr hx16
  have hb26 := hb24.ext hx16
  have r73 := r67.ext hx16
  have r74 := r68.ext hx16
  have hb27 := hb25.ext hx16
  have r75 := r72.ext hx16
  have o42 := o39.ext hx16
  have o43 := o40.ext hx16
  have o44 := o41.ext hx16
  have r76 := r69.ext hx16
  have r77 := r70.ext hx16
  have r78 := r71.ext hx16
  refine vl rfl rfl xmv <| vl rfl rfl (xext rfl rfl) <| vl rfl rfl (xext rfl rfl) <| vl rfl rfl xas <| vl rfl rfl xas <| nl <| wp_seq <| rg <| vl rfl rfl (xlda rfl ti25 rfl (Bx.cs hb26)) <| vl rfl rfl xmv <| ?_
  have hz := bs hF; obtain ⟨x10, Ex10, hF⟩ := hz
  refine cl rfl rfl (xc cb24 (mc rfl (mc rfl (mc rfl mn)))) (c24 (show RV (α := ((List Int) × (List ((List Int) × (List Int))))) _ (.agg [.slice a1 x1.1.length cq1, .slice a2 x1.2.length cq2].toArray) (x1.1, x1.2) from ⟨_, rfl, ⟨[.slice a1 x1.1.length cq1], [.slice a2 x1.2.length cq2], rfl, r73.rep1, r74.rep1⟩⟩) o42.rv Ex10) ?_
  rintro _ w19 ⟨u8, rfl, r79, hx17⟩
  have k93 := k85.tr hx17
  have k94 := k86.tr hx17
  have k95 := k87.tr hx17
  have k96 := k88.tr hx17
  have k97 := k89.tr hx17
  have k98 := k90.tr hx17
  have k99 := k91.tr hx17
  have k100 := k92.tr hx17
  have hb28 := hb26.ext hx17
  have r80 := r73.ext hx17
  have r81 := r74.ext hx17
  have hb29 := hb27.ext hx17
  have r82 := r75.ext hx17
  have o45 := o42.ext hx17
  have o46 := o43.ext hx17
  have o47 := o44.ext hx17
  have r83 := r76.ext hx17
  have r84 := r77.ext hx17
  have r85 := r78.ext hx17
  have hz := RV.sl r79; obtain ⟨a9, cq9, rfl, -, -, -⟩ := hz
  refine vl rfl rfl xmv <| vl rfl rfl (xext rfl rfl) <| vl rfl rfl (xext rfl rfl) <| vl rfl rfl (xext rfl rfl) <| vl rfl rfl xas <| vl rfl rfl xas <| vl rfl rfl xas <| nl <| wp_seq <| rg <| vl rfl rfl (xlda rfl ti25 rfl (Bx.cs hb28)) <| vl rfl rfl xmv <| ?_
  have hz := bs hF; obtain ⟨x11, Ex11, hF⟩ := hz
  refine cl rfl rfl (xc cb26 (mc rfl (mc rfl mn))) (c26 (show RV (α := ((List Int) × (List ((List Int) × (List Int))))) _ (.agg [.slice a1 x1.1.length cq1, .slice a2 x1.2.length cq2].toArray) (x1.1, x1.2) from ⟨_, rfl, ⟨[.slice a1 x1.1.length cq1], [.slice a2 x1.2.length cq2], rfl, r80.rep1, r81.rep1⟩⟩) o45.rv Ex11) ?_
  rintro _ w20 ⟨u9, rfl, r86, hx18⟩
  have k101 := k93.tr hx18
  have k102 := k94.tr hx18
  have k103 := k95.tr hx18
  have k104 := k96.tr hx18
  have k105 := k97.tr hx18
  have k106 := k98.tr hx18
  have k107 := k99.tr hx18
  have k108 := k100.tr hx18
  have hb30 := hb28.ext hx18
  have r87 := r80.ext hx18
  have r88 := r81.ext hx18
  have hb31 := hb29.ext hx18
  have r89 := r82.ext hx18
  have o48 := o45.ext hx18
  have o49 := o46.ext hx18
  have o50 := o47.ext hx18
  have r90 := r83.ext hx18
  have r91 := r84.ext hx18
  have r92 := r85.ext hx18
  have r93 := r79.ext hx18
  have hz := RV.sl r86; obtain ⟨a10, cq10, rfl, -, -, -⟩ := hz
  refine vl rfl rfl xmv <| vl rfl rfl (xext rfl rfl) <| vl rfl rfl (xext rfl rfl) <| vl rfl rfl xas <| vl rfl rfl xas <| nl <| wp_seq <| rg <| vl rfl rfl (xlda rfl ti25 rfl (Bx.cs hb30)) <| sbsv (cs := [.int .i64 1, .int .i64 0, .int .i64 4]) Try.underlying22 ti2 rfl (pc rfl (pc rfl (pc rfl pn))) rfl rfl rfl rfl rfl fun b8 w21 hx19 hg8 hb32 => ?_
  have k109 := k101.tr hx19
  have k110 := k102.tr hx19
  have k111 := k103.tr hx19
  have k112 := k104.tr hx19
  have k113 := k105.tr hx19
  have k114 := k106.tr hx19
  have k115 := k107.tr hx19
  have k116 := k108.tr hx19
  have hb33 := hb30.ext hx19
  have r94 := r87.ext hx19
  have r95 := r88.ext hx19
  have hb34 := hb31.ext hx19
  have r96 := r89.ext hx19
  have o51 := o48.ext hx19
  have o52 := o49.ext hx19
  have o53 := o50.ext hx19
  have r97 := r90.ext hx19
  have r98 := r91.ext hx19
  have r99 := r92.ext hx19
  have r100 := r93.ext hx19
  have o54 : Row (α := Int) 2 w20.heap.size w21 (.slice (some ⟨b8, 0, none⟩) 3 3) [1, 0, 4] := Row.lit hg8 hb32 rfl (ble rfl)
  have hz := bs hF; obtain ⟨x12, Ex12, hF⟩ := hz
  refine cl rfl rfl (xc cb26 (mc rfl (mc rfl mn))) (c26 (show RV (α := ((List Int) × (List ((List Int) × (List Int))))) _ (.agg [.slice a1 x1.1.length cq1, .slice a2 x1.2.length cq2].toArray) (x1.1, x1.2) from ⟨_, rfl, ⟨[.slice a1 x1.1.length cq1], [.slice a2 x1.2.length cq2], rfl, r94.rep1, r95.rep1⟩⟩) o54.rv Ex12) ?_
  rintro _ w22 ⟨u10, rfl, r102, hx20⟩
  have k117 := k109.tr hx20
  have k118 := k110.tr hx20
  have k119 := k111.tr hx20
  have k120 := k112.tr hx20
  have k121 := k113.tr hx20
  have k122 := k114.tr hx20
  have k123 := k115.tr hx20
  have k124 := k116.tr hx20
  have k125 := hx19.tr hx20
  have hb35 := hb33.ext hx20
  have r103 := r94.ext hx20
  have r104 := r95.ext hx20
  have hb36 := hb34.ext hx20
  have r105 := r96.ext hx20
  have o55 := o51.ext hx20
  have o56 := o52.ext hx20
  have o57 := o53.ext hx20
  have r106 := r97.ext hx20
  have r107 := r98.ext hx20
  have r108 := r99.ext hx20
  have r109 := r100.ext hx20
  have hz := RV.sl r102; obtain ⟨a11, cq11, rfl, -, -, -⟩ := hz
  refine vl rfl rfl xmv <| vl rfl rfl (xext rfl rfl) <| vl rfl rfl (xext rfl rfl) <| vl rfl rfl xas <| vl rfl rfl xas <| nl <| wp_seq <| rg <| vl rfl rfl xmv <| vl rfl rfl (xeql rfl rfl) <| vl rfl rfl xmv <| gv rfl rfl rfl rfl (gw1 rfl) rfl (fun hc => xmva rfl) <| gv rfl rfl rfl rfl (gw1 rfl) rfl (fun hc => xeql (mv hc rfl) rfl) <| vl rfl rfl (xpa rfl rfl rfl) <| vl rfl rfl xmv <| gv rfl rfl rfl rfl (gw1 rfl) rfl (fun hc => xmva rfl) <| gv rfl rfl rfl rfl (gw1 rfl) rfl (fun hc => xeql (mv hc rfl) rfl) <| vl rfl rfl (xpa rfl rfl rfl) <| vl rfl rfl xmv <| gv rfl rfl rfl rfl (gw1 rfl) rfl (fun hc => xmva rfl) <| gv rfl rfl rfl rfl (gw1 rfl) rfl (fun hc => xeql (mv hc rfl) rfl) <| vl rfl rfl (xpa rfl rfl rfl) <| vl rfl rfl xmv <| gv rfl rfl rfl rfl (gw1 rfl) rfl (fun hc => xmva rfl) <| gv rfl rfl rfl rfl (gw1 rfl) rfl (fun hc => xeql (mv hc rfl) rfl) <| vl rfl rfl (xpa rfl rfl rfl) <| vl rfl rfl xmv <| gv rfl rfl rfl rfl (gw1 rfl) rfl (fun hc => xmva rfl) <| gv rfl rfl rfl rfl (gw1 rfl) rfl (fun hc => xeql (mv hc rfl) rfl) <| vl rfl rfl (xpa rfl rfl rfl) <| vl rfl rfl xmv <| gv rfl rfl rfl rfl (gw1 rfl) rfl (fun hc => xmva rfl) <| gv rfl rfl rfl rfl (gw1 rfl) rfl (fun hc => xeql (mv hc rfl) rfl) <| vl rfl rfl (xpa rfl rfl rfl) <| vl rfl rfl xmv <| gv rfl rfl rfl rfl (gw1 rfl) rfl (fun hc => xmva rfl) <| gv rfl rfl rfl rfl (gw1 rfl) rfl (fun hc => xeql (mv hc rfl) rfl) <| vl rfl rfl (xpa rfl rfl rfl) <| vl rfl rfl xmv <| gv rfl rfl rfl rfl (gw1 rfl) rfl (fun hc => xmva rfl) <| gv rfl rfl rfl rfl (gw1 rfl) rfl (fun hc => xeql (mv hc rfl) rfl) <| vl rfl rfl (xpa rfl rfl rfl) <| vl rfl rfl xmv <| gv rfl rfl rfl rfl (gw1 rfl) rfl (fun hc => xmva rfl) <| gv rfl rfl rfl rfl (gw1 rfl) rfl (fun hc => xeql (mv hc rfl) rfl) <| vl rfl rfl (xpa rfl rfl rfl) <| vl rfl rfl xmv <| gv rfl rfl rfl rfl (gw1 rfl) rfl (fun hc => xmva rfl) <| gv rfl rfl rfl rfl (gw1 rfl) rfl (fun hc => xeql (mv hc rfl) rfl) <| vl rfl rfl (xpa rfl rfl rfl) <| vl rfl rfl xmv <| gv rfl rfl rfl rfl (gw1 rfl) rfl (fun hc => xmva rfl) <| gm (fun v w => RV w v ([3, 0, 2] : List Int) ∧ Ext w22 w) rfl rfl rfl rfl (gw1 rfl) rfl (fun hc => sbsv (cs := [.int .i64 3, .int .i64 0, .int .i64 2]) Try.underlying22 ti2 rfl (pc rfl (pc rfl (pc rfl pn))) rfl rfl rfl rfl rfl fun b w' hx hg hb => nl ⟨_, rfl, (Row.lit (base := 0) (l := ([3, 0, 2] : List Int)) (Nat.zero_le _) hb rfl (ble rfl)).rv, hx⟩) (fun v1 w23 hy1 hn1 => ?_)
  have hx21 : Ext w22 w23 := gx (fun h => (hy1 h).2) (fun h => (hn1 h).2 ▸ Ext.refl _)
  have k126 := k117.tr hx21
  have k127 := k118.tr hx21
  have k128 := k119.tr hx21
  have k129 := k120.tr hx21
  have k130 := k121.tr hx21
  have k131 := k122.tr hx21
  have k132 := k123.tr hx21
  have k133 := k124.tr hx21
  have k134 := k125.tr hx21
  have hb37 := hb35.ext hx21
  have r110 := r103.ext hx21
  have r111 := r104.ext hx21
  have hb38 := hb36.ext hx21
  have r112 := r105.ext hx21
  have o58 := o55.ext hx21
  have o59 := o56.ext hx21
  have o60 := o57.ext hx21
  have r113 := r107.ext hx21
  have r114 := r108.ext hx21
  have r115 := r109.ext hx21
  have r116 := r102.ext hx21
  have r117 := r106.ext hx21
  have hz := bs hF; obtain ⟨x13, Ex13, hF⟩ := hz
  refine gc rfl rfl rfl rfl (gw1 rfl) rfl (fun hc => xc cb18 (mc (mv hc rfl) (mc rfl mn))) (fun hc => (c18 r117 ((hy1 hc).1) (gdp Ex13 hc))) (fun v2 w24 hy2 hn2 => ?_)
  have hx22 : Ext w23 w24 := gx (fun h => (hy2 h).2) (fun h => (hn2 h).2 ▸ Ext.refl _)
  have e4 := mkw (fun h => (hy2 h).1) (fun h => (hn2 h).1)
  have k135 := k126.tr hx22
  have k136 := k127.tr hx22
  have k137 := k128.tr hx22
  have k138 := k129.tr hx22
  have k139 := k130.tr hx22
  have k140 := k131.tr hx22
  have k141 := k132.tr hx22
  have k142 := k133.tr hx22
  have k143 := k134.tr hx22
  have hb39 := hb37.ext hx22
  have r118 := r110.ext hx22
  have r119 := r111.ext hx22
  have hb40 := hb38.ext hx22
  have r120 := r112.ext hx22
  have o61 := o58.ext hx22
  have o62 := o59.ext hx22
  have o63 := o60.ext hx22
  have r121 := r113.ext hx22
  have r122 := r114.ext hx22
  have r123 := r115.ext hx22
  have r124 := r116.ext hx22
  refine vl rfl rfl (xpa rfl e4 rfl) <| vl rfl rfl xmv <| gv rfl rfl rfl rfl (gw1 rfl) rfl (fun hc => xmva rfl) <| gm (fun v w => RV w v ([0, 1, 1, 1] : List Int) ∧ Ext w24 w) rfl rfl rfl rfl (gw1 rfl) rfl (fun hc => sbsv (cs := [.int .i64 0, .int .i64 1, .int .i64 1, .int .i64 1]) Try.underlying26 ti3 rfl (pc rfl (pc rfl (pc rfl (pc rfl pn)))) rfl rfl rfl rfl rfl fun b w' hx hg hb => nl ⟨_, rfl, (Row.lit (base := 0) (l := ([0, 1, 1, 1] : List Int)) (Nat.zero_le _) hb rfl (ble rfl)).rv, hx⟩) (fun v3 w25 hy3 hn3 => ?_)
  have hx23 : Ext w24 w25 := gx (fun h => (hy3 h).2) (fun h => (hn3 h).2 ▸ Ext.refl _)
  have k144 := k135.tr hx23
  have k145 := k136.tr hx23
  have k146 := k137.tr hx23
  have k147 := k138.tr hx23
  have k148 := k139.tr hx23
  have k149 := k140.tr hx23
  have k150 := k141.tr hx23
  have k151 := k142.tr hx23
  have k152 := k143.tr hx23
  have hb41 := hb39.ext hx23
  have r125 := r118.ext hx23
  have r126 := r119.ext hx23
  have hb42 := hb40.ext hx23
  have r127 := r120.ext hx23
  have o64 := o61.ext hx23
  have o65 := o62.ext hx23
  have o66 := o63.ext hx23
  have r128 := r122.ext hx23
  have r129 := r123.ext hx23
  have r130 := r124.ext hx23
  have r131 := r121.ext hx23
  have hz := bs hF; obtain ⟨x14, Ex14, hF⟩ := hz
  refine gc rfl rfl rfl rfl (gw1 rfl) rfl (fun hc => xc cb44 (mc (mv hc rfl) (mc rfl mn))) (fun hc => (c44 r131 ((hy3 hc).1) (gdp Ex14 hc))) (fun v4 w26 hy4 hn4 => ?_)
  have hx24 : Ext w25 w26 := gx (fun h => (hy4 h).2) (fun h => (hn4 h).2 ▸ Ext.refl _)
  have e5 := mkw (fun h => (hy4 h).1) (fun h => (hn4 h).1)
  have k153 := k144.tr hx24
  have k154 := k145.tr hx24
  have k155 := k146.tr hx24
  have k156 := k147.tr hx24
  have k157 := k148.tr hx24
  have k158 := k149.tr hx24
  have k159 := k150.tr hx24
  have k160 := k151.tr hx24
  have k161 := k152.tr hx24
  have hb43 := hb41.ext hx24
  have r132 := r125.ext hx24
  have r133 := r126.ext hx24
  have hb44 := hb42.ext hx24
  have r134 := r127.ext hx24
  have o67 := o64.ext hx24
  have o68 := o65.ext hx24
  have o69 := o66.ext hx24
  have r135 := r128.ext hx24
  have r136 := r129.ext hx24
  have r137 := r130.ext hx24
  refine vl rfl rfl (xpa rfl e5 rfl) <| vl rfl rfl xmv <| gv rfl rfl rfl rfl (gw1 rfl) rfl (fun hc => xlda rfl ti25 rfl (Bx.cs hb43)) <| gv rfl rfl rfl rfl (gw1 rfl) rfl (fun hc => xmva rfl) <| gv rfl rfl rfl rfl (gw1 rfl) rfl (fun hc => xmva rfl) <| gv rfl rfl rfl rfl (gw1 rfl) rfl (fun hc => xmva rfl) <| ?_
  have hz := bs hF; obtain ⟨x15, Ex15, hF⟩ := hz
  refine gc rfl rfl rfl rfl (gw1 rfl) rfl (fun hc => xc cb35 (mc (mv hc rfl) (mc (mv hc rfl) (mc (mv hc rfl) (mc (mv hc rfl) mn))))) (fun hc => (c35 (show RV (α := ((List Int) × (List ((List Int) × (List Int))))) _ (.agg [.slice a1 x1.1.length cq1, .slice a2 x1.2.length cq2].toArray) (x1.1, x1.2) from ⟨_, rfl, ⟨[.slice a1 x1.1.length cq1], [.slice a2 x1.2.length cq2], rfl, r132.rep1, r133.rep1⟩⟩) r135 o67.rv o69.rv (gdp Ex15 hc))) (fun v5 w27 hy5 hn5 => ?_)
  have hx25 : Ext w26 w27 := gx (fun h => (hy5 h).2) (fun h => (hn5 h).2 ▸ Ext.refl _)
  have e6 := mkw (fun h => (hy5 h).1) (fun h => (hn5 h).1)
  have k162 := k153.tr hx25
  have k163 := k154.tr hx25
  have k164 := k155.tr hx25
  have k165 := k156.tr hx25
  have k166 := k157.tr hx25
  have k167 := k158.tr hx25
  have k168 := k159.tr hx25
  have k169 := k160.tr hx25
  have k170 := k161.tr hx25
  have hb45 := hb43.ext hx25
  have r138 := r132.ext hx25
  have r139 := r133.ext hx25
  have hb46 := hb44.ext hx25
  have r140 := r134.ext hx25
  have o70 := o67.ext hx25
  have o71 := o68.ext hx25
  have r141 := r136.ext hx25
  have r142 := r137.ext hx25
  refine vl rfl rfl (xpa rfl e6 rfl) <| vl rfl rfl xmv <| gv rfl rfl rfl rfl (gw1 rfl) rfl (fun hc => xlda rfl ti25 rfl (Bx.cs hb45)) <| gv rfl rfl rfl rfl (gw1 rfl) rfl (fun hc => xmva rfl) <| gv rfl rfl rfl rfl (gw1 rfl) rfl (fun hc => xmva rfl) <| gv rfl rfl rfl rfl (gw1 rfl) rfl (fun hc => xlda rfl ti62 rfl (Bx.cs hb46)) <| ?_
  have hz := bs hF; obtain ⟨x16, Ex16, hF⟩ := hz
  refine gc rfl rfl rfl rfl (gw1 rfl) rfl (fun hc => xc cb39 (mc (mv hc rfl) (mc (mv hc rfl) (mc (mv hc rfl) (mc (mv hc rfl) mn))))) (fun hc => (c39 (show RV (α := ((List Int) × (List ((List Int) × (List Int))))) _ (.agg [.slice a1 x1.1.length cq1, .slice a2 x1.2.length cq2].toArray) (x1.1, x1.2) from ⟨_, rfl, ⟨[.slice a1 x1.1.length cq1], [.slice a2 x1.2.length cq2], rfl, r138.rep1, r139.rep1⟩⟩) o70.rv o71.rv (show RV (α := ((List Int) × Int)) _ (.agg [.slice a8 x8.1.1.length cq8, .int .i64 x8.1.2].toArray) (x8.1.1, x8.1.2) from ⟨_, rfl, ⟨[.slice a8 x8.1.1.length cq8], [.int .i64 x8.1.2], rfl, r140.rep1, rfl⟩⟩) (gdp Ex16 hc))) (fun v6 w28 hy6 hn6 => ?_)
  have hx26 : Ext w27 w28 := gx (fun h => (hy6 h).2) (fun h => (hn6 h).2 ▸ Ext.refl _)
  have e7 := mkw (fun h => (hy6 h).1) (fun h => (hn6 h).1)
  have k171 := k162.tr hx26
  have k172 := k163.tr hx26
  have k173 := k164.tr hx26
  have k174 := k165.tr hx26
  have k175 := k166.tr hx26
  have k176 := k167.tr hx26
  have k177 := k168.tr hx26
  have k178 := k169.tr hx26
  have k179 := k170.tr hx26
  have r143 := r141.ext hx26
  have r144 := r142.ext hx26
  refine gv rfl rfl rfl rfl (gw1 rfl) rfl (fun hc => xeql (mv hc e7) rfl) <| vl rfl rfl (xpa rfl rfl rfl) <| vl rfl rfl xmv <| gv rfl rfl rfl rfl (gw1 rfl) rfl (fun hc => xmva rfl) <| gv rfl rfl rfl rfl (gw1 rfl) rfl (fun hc => xeql (mv hc rfl) rfl) <| vl rfl rfl (xpa rfl rfl rfl) <| vl rfl rfl xmv <| gv rfl rfl rfl rfl (gw1 rfl) rfl (fun hc => xmva rfl) <| gv rfl rfl rfl rfl (gw1 rfl) rfl (fun hc => xeql (mv hc rfl) rfl) <| vl rfl rfl (xpa rfl rfl rfl) <| vl rfl rfl xmv <| gv rfl rfl rfl rfl (gw1 rfl) rfl (fun hc => xmva rfl) <| gm (fun v w => RV w v ([0, 1, 1, 1] : List Int) ∧ Ext w28 w) rfl rfl rfl rfl (gw1 rfl) rfl (fun hc => sbsv (cs := [.int .i64 0, .int .i64 1, .int .i64 1, .int .i64 1]) Try.underlying26 ti3 rfl (pc rfl (pc rfl (pc rfl (pc rfl pn)))) rfl rfl rfl rfl rfl fun b w' hx hg hb => nl ⟨_, rfl, (Row.lit (base := 0) (l := ([0, 1, 1, 1] : List Int)) (Nat.zero_le _) hb rfl (ble rfl)).rv, hx⟩) (fun v7 w29 hy7 hn7 => ?_)
  have hx27 : Ext w28 w29 := gx (fun h => (hy7 h).2) (fun h => (hn7 h).2 ▸ Ext.refl _)
  have k180 := k171.tr hx27
  have k181 := k172.tr hx27
  have k182 := k173.tr hx27
  have k183 := k174.tr hx27
  have k184 := k175.tr hx27
  have k185 := k176.tr hx27
  have k186 := k177.tr hx27
  have k187 := k178.tr hx27
  have k188 := k179.tr hx27
  have r145 := r144.ext hx27
  have r146 := r143.ext hx27
  have hz := bs hF; obtain ⟨x17, Ex17, hF⟩ := hz
  refine gc rfl rfl rfl rfl (gw1 rfl) rfl (fun hc => xc cb44 (mc (mv hc rfl) (mc rfl mn))) (fun hc => (c44 r146 ((hy7 hc).1) (gdp Ex17 hc))) (fun v8 w30 hy8 hn8 => ?_)
  have hx28 : Ext w29 w30 := gx (fun h => (hy8 h).2) (fun h => (hn8 h).2 ▸ Ext.refl _)
  have e8 := mkw (fun h => (hy8 h).1) (fun h => (hn8 h).1)
  have k189 := k180.tr hx28
  have k190 := k181.tr hx28
  have k191 := k182.tr hx28
  have k192 := k183.tr hx28
  have k193 := k184.tr hx28
  have k194 := k185.tr hx28
  have k195 := k186.tr hx28
  have k196 := k187.tr hx28
  have k197 := k188.tr hx28
  have r147 := r145.ext hx28
  refine vl rfl rfl (xpa rfl e8 rfl) <| vl rfl rfl xmv <| gv rfl rfl rfl rfl (gw1 rfl) rfl (fun hc => xmva rfl) <| gv rfl rfl rfl rfl (gw1 rfl) rfl (fun hc => xlen (mv hc rfl) Try.underlying26) <| gv rfl rfl rfl rfl (gw1 rfl) rfl (fun hc => xeql (mv hc rfl) rfl) <| vl rfl rfl (xpa rfl rfl rfl) <| vl rfl rfl xas <| nl <| ?_
  cases hF
  exact wp_ret <| rt rfl (.tmp rfl rfl .nil) ⟨rfl, k189⟩
end Go.Proofs.Ytboefnpnoojfpaa
