/-
  Each function of the program returns what its pure function computes, and leaves all memory that was there as it was. Condition: the pure function computes something.
-/
import Derived.Test.YtboefnpnoojfpaaFacts
import Derived.Test.YtboefnpnoojfpaaPureD
import Derived.Test.YtboefnpnoojfpaaMore
import Derived.Test.YtboefnpnoojfpaaWalkB
import Derived.Test.YtboefnpnoojfpaaManI
namespace Go.Proofs.Ytboefnpnoojfpaa
open Go Go.Md Go.RowKit
attribute [local irreducible] Go.wpList Go.Code.wp Go.Calls Go.Md.Rnd Go.Md.Mt Go.Md.MtM Go.Md.RndM Go.Code.wpIn

set_option maxHeartbeats 4000000 in
theorem c9 {w0 : World} {v0 : Value} {x0 : ((List Int) × (List ((List Int) × (List Int))))} (r0 : RV w0 v0 x0) {v1 : Value} {x1 : (List Int)} (r1 : RV w0 v1 x1) {v2 : Value} {x2 : (List Int)} (r2 : RV w0 v2 x2) {v3 : Value} {x3 : (List Int)} (r3 : RV w0 v3 x3) {v4 : Value} {x4 : ((List Int) × Int)} (r4 : RV w0 v4 x4) {F : Nat} {r : Bool} (hF : law11_BathProofs F x0 x1 x2 x3 x4 = some r) :
    Calls Try.prog 9 [v0, v1, v2, v3, v4].toArray w0 (Ret fun v w' => v = .bool r ∧ Ext w0 w') := by
  unfold law11_BathProofs at hF
  have hz := id r0; obtain ⟨_, rfl, ⟨_, _, rfl, ⟨a1, cq1, rfl, p1, q6, e1⟩, ⟨a2, cq2, rfl, p2, q7, e2⟩⟩⟩ := hz
  have r6 := RV.of1 p1 q6 e1
  have r7 := RV.of1 p2 q7 e2
  have hz := r1.sl; obtain ⟨a3, cq3, rfl, -, -, -⟩ := hz
  have hz := r2.sl; obtain ⟨a4, cq4, rfl, -, -, -⟩ := hz
  have hz := r3.sl; obtain ⟨a5, cq5, rfl, -, -, -⟩ := hz
  have hz := id r4; obtain ⟨_, rfl, ⟨_, _, rfl, ⟨a6, cq6, rfl, p3, q8, e3⟩, rfl⟩⟩ := hz
  have r8 := RV.of1 p3 q8 e3
  refine entr (n := 160) Try.func9 rfl rfl rfl <| wp_seq <| rg <| sbx rfl rfl fun b6 w1 hx1 hg1 hb1 => ?_
  have r9 := r1.ext hx1
  have r10 := r2.ext hx1
  have r11 := r3.ext hx1
  have r12 := r8.ext hx1
  have r13 := r4.ext hx1
  have r14 := r6.ext hx1
  have r15 := r7.ext hx1
  have r16 := r0.ext hx1
  refine sbx rfl rfl fun b7 w2 hx2 hg2 hb2 => ?_
  have k1 := hx1.tr hx2
  have hb3 := hb1.ext hx2
  have r17 := r14.ext hx2
  have r18 := r15.ext hx2
  have r19 := r9.ext hx2
  have r20 := r10.ext hx2
  have r21 := r11.ext hx2
  have r22 := r12.ext hx2
  have r23 := r13.ext hx2
  refine vl rfl rfl xas <| nl <| wp_seq <| wp_seq <| rg <| vl rfl rfl (xlda rfl ti25 rfl (Bx.cs hb3)) <| ?_
  have hz := bs hF; obtain ⟨x6, Ex6, hF⟩ := hz
  refine cl rfl rfl (xc cb12 (mc rfl mn)) (c12 (show RV (α := ((List Int) × (List ((List Int) × (List Int))))) _ (.agg [.slice a1 x0.1.length cq1, .slice a2 x0.2.length cq2].toArray) (x0.1, x0.2) from ⟨_, rfl, ⟨[.slice a1 x0.1.length cq1], [.slice a2 x0.2.length cq2], rfl, r17.rep1, r18.rep1⟩⟩) Ex6) ?_
  rintro _ w3 ⟨rfl, hx3⟩
  have k2 := k1.tr hx3
  have k3 := hx2.tr hx3
  have hb4 := hb3.ext hx3
  have r24 := r17.ext hx3
  have r25 := r18.ext hx3
  have hb5 := hb2.ext hx3
  have r26 := r22.ext hx3
  have r27 := r19.ext hx3
  have r28 := r20.ext hx3
  have r29 := r21.ext hx3
  refine vl rfl rfl xmv <| gv rfl rfl rfl rfl (gw0 rfl) rfl (fun hc => xmva rfl) <| gv rfl rfl rfl rfl (gw0 rfl) rfl (fun hc => xlen (mv hc rfl) Try.underlying22) <| gv rfl rfl rfl rfl (gw0 rfl) rfl (fun hc => xgtr (mv hc rfl) rfl) <| vl rfl rfl (xpo rfl rfl rfl) <| vl rfl rfl xmv <| gv rfl rfl rfl rfl (gw0 rfl) rfl (fun hc => xmva rfl) <| gv rfl rfl rfl rfl (gw0 rfl) rfl (fun hc => xlen (mv hc rfl) Try.underlying22) <| gv rfl rfl rfl rfl (gw0 rfl) rfl (fun hc => xgtr (mv hc rfl) rfl) <| vl rfl rfl (xpo rfl rfl rfl) <| vl rfl rfl xmv <| gv rfl rfl rfl rfl (gw0 rfl) rfl (fun hc => xmva rfl) <| gv rfl rfl rfl rfl (gw0 rfl) rfl (fun hc => xlen (mv hc rfl) Try.underlying22) <| gv rfl rfl rfl rfl (gw0 rfl) rfl (fun hc => xgtr (mv hc rfl) rfl) <| vl rfl rfl (xpo rfl rfl rfl) <| vl rfl rfl xmv <| gv rfl rfl rfl rfl (gw0 rfl) rfl (fun hc => xfa rfl fa62_0) <| gv rfl rfl rfl rfl (gw0 rfl) rfl (fun hc => xld (mv hc rfl) ti22 ((Bx.cs hb5).at 0 rfl)) <| gv rfl rfl rfl rfl (gw0 rfl) rfl (fun hc => xlen (mv hc rfl) Try.underlying22) <| gv rfl rfl rfl rfl (gw0 rfl) rfl (fun hc => xgtr (mv hc rfl) rfl) <| vl rfl rfl (xpo rfl rfl rfl) <| nl <| cnd rfl (fun h6 => ?_) (fun h6 => ?_)
  ·
    have hF := ifp hF h6
    refine wp_seq <| rg <| ?_
    have hz := bs hF; obtain ⟨x7, Ex7, hF⟩ := hz
    refine cl rfl rfl (xc cb13 mn) (c13 Ex7) ?_
    rintro _ w4 ⟨rfl, hx4⟩
    have k4 := k2.tr hx4
    have k5 := k3.tr hx4
    refine vl rfl rfl xas <| nl <| ?_
    cases hF
    exact wp_ret <| rt rfl (.tmp rfl rfl .nil) ⟨rfl, k4⟩
  ·
    have hF := ifn hF h6
    refine wp_skip <| wp_seq <| wp_seq <| wpl [] (.pure false 0 (.pure true 1 (.pure false 3 (.pure true 4 (.eff 2 (.eff 5 (.pure true 6 (.pure true 7 (.pure false 8 (.pure true 9 (.pure true 10 (.pure false 11 (.pure false 13 (.pure true 14 (.pure true 15 (.pure false 16 (.eff 12 (.eff 17 (.pure true 18 (.pure true 19 .fin)) .stop) .stop))))))))))) .stop) .stop))))) mixed (by kernel_rfl) (fun w5 hx5 => ?_)
    have k6 := k2.tr hx5
    have k7 := k3.tr hx5
    have hb6 := hb4.ext hx5
    have r30 := r24.ext hx5
    have r31 := r25.ext hx5
    have hb7 := hb5.ext hx5
    have r32 := r26.ext hx5
    have r33 := r27.ext hx5
    have r34 := r28.ext hx5
    have r35 := r29.ext hx5
    refine pv rfl rfl rfl (fun _ hS => xlda rfl ti25 rfl (Bx.cs (hb6.ext (hS.resolve_left nofun)))) (.inr (Ext.refl _)) <| pv rfl rfl rfl (fun _ _ => xmv) (.inl rfl) <| pv rfl rfl rfl (fun _ hS => xlda rfl ti25 rfl (Bx.cs (hb6.ext (hS.resolve_left nofun)))) (.inr (Ext.refl _)) <| pv rfl rfl rfl (fun _ _ => xmv) (.inl rfl) <| ?_
    have hz := bs hF; obtain ⟨x8, Ex8, hF⟩ := hz
    refine pe1 rfl <| cl rfl rfl (xc cb33 (mc rfl (mc rfl mn))) (c33 (show RV (α := ((List Int) × (List ((List Int) × (List Int))))) _ (.agg [.slice a1 x0.1.length cq1, .slice a2 x0.2.length cq2].toArray) (x0.1, x0.2) from ⟨_, rfl, ⟨[.slice a1 x0.1.length cq1], [.slice a2 x0.2.length cq2], rfl, r30.rep1, r31.rep1⟩⟩) r35 Ex8) ?_
    rintro _ w6 ⟨rfl, hx6⟩
    have k8 := k6.tr hx6
    have k9 := k7.tr hx6
    have hb8 := hb6.ext hx6
    have r36 := r30.ext hx6
    have r37 := r31.ext hx6
    have hb9 := hb7.ext hx6
    have r38 := r32.ext hx6
    have r39 := r33.ext hx6
    have r40 := r34.ext hx6
    have r41 := r35.ext hx6
    refine nl ⟨fun _ _ => hx6, ?_⟩
    have hz := bs hF; obtain ⟨x9, Ex9, hF⟩ := hz
    refine pe1 rfl <| cl rfl rfl (xc cb37 (mc rfl (mc rfl mn))) (c37 (show RV (α := ((List Int) × (List ((List Int) × (List Int))))) _ (.agg [.slice a1 x0.1.length cq1, .slice a2 x0.2.length cq2].toArray) (x0.1, x0.2) from ⟨_, rfl, ⟨[.slice a1 x0.1.length cq1], [.slice a2 x0.2.length cq2], rfl, r36.rep1, r37.rep1⟩⟩) r41 Ex9) ?_
    rintro _ w7 ⟨rfl, hx7⟩
    have k10 := k8.tr hx7
    have k11 := k9.tr hx7
    have k12 := hx6.tr hx7
    have hb10 := hb8.ext hx7
    have r42 := r36.ext hx7
    have r43 := r37.ext hx7
    have hb11 := hb9.ext hx7
    have r44 := r38.ext hx7
    have r45 := r39.ext hx7
    have r46 := r40.ext hx7
    refine nl ⟨fun _ _ => k12, ?_⟩
    refine pv rfl rfl rfl (fun _ _ => xneq rfl rfl) (.inl rfl) <| pv rfl rfl rfl (fun _ _ => xmv) (.inl rfl) <| pgv rfl rfl rfl rfl rfl (gw0 rfl) rfl (fun hc => (fun _ hS => xlda rfl ti25 rfl (Bx.cs (hb6.ext (hS.resolve_left nofun))))) (.inr k12) <| pgv rfl rfl rfl rfl rfl (gw0 rfl) rfl (fun hc => (fun _ _ => xmva rfl)) (.inl rfl) <| pgv rfl rfl rfl rfl rfl (gw0 rfl) rfl (fun hc => (fun _ _ => xmva rfl)) (.inl rfl) <| pgv rfl rfl rfl rfl rfl (gw0 rfl) rfl (fun hc => (fun _ hS => xlda rfl ti62 rfl (Bx.cs (hb7.ext (hS.resolve_left nofun))))) (.inr k12) <| pgv rfl rfl rfl rfl rfl (gw0 rfl) rfl (fun hc => (fun _ hS => xlda rfl ti25 rfl (Bx.cs (hb6.ext (hS.resolve_left nofun))))) (.inr k12) <| pgv rfl rfl rfl rfl rfl (gw0 rfl) rfl (fun hc => (fun _ _ => xmva rfl)) (.inl rfl) <| pgv rfl rfl rfl rfl rfl (gw0 rfl) rfl (fun hc => (fun _ _ => xmva rfl)) (.inl rfl) <| pgv rfl rfl rfl rfl rfl (gw0 rfl) rfl (fun hc => (fun _ hS => xlda rfl ti62 rfl (Bx.cs (hb7.ext (hS.resolve_left nofun))))) (.inr k12) <| ?_
    have hz := bs hF; obtain ⟨x10, Ex10, hF⟩ := hz
    refine pe1 rfl <| gc rfl rfl rfl rfl (gw0 rfl) rfl (fun hc => xc cb38 (mc (mv hc rfl) (mc (mv hc rfl) (mc (mv hc rfl) (mc (mv hc rfl) mn))))) (fun hc => (c38 (show RV (α := ((List Int) × (List ((List Int) × (List Int))))) _ (.agg [.slice a1 x0.1.length cq1, .slice a2 x0.2.length cq2].toArray) (x0.1, x0.2) from ⟨_, rfl, ⟨[.slice a1 x0.1.length cq1], [.slice a2 x0.2.length cq2], rfl, r42.rep1, r43.rep1⟩⟩) r45 r46 (show RV (α := ((List Int) × Int)) _ (.agg [.slice a6 x4.1.length cq6, .int .i64 x4.2].toArray) (x4.1, x4.2) from ⟨_, rfl, ⟨[.slice a6 x4.1.length cq6], [.int .i64 x4.2], rfl, r44.rep1, rfl⟩⟩) (gdp Ex10 hc))) (fun v6 w8 hy1 hn1 => ?_)
    have hx8 : Ext w7 w8 := gx (fun h => (hy1 h).2) (fun h => (hn1 h).2 ▸ Ext.refl _)
    have e4 := mkw (fun h => (hy1 h).1) (fun h => (hn1 h).1)
    have k13 := k10.tr hx8
    have k14 := k11.tr hx8
    have k15 := k12.tr hx8
    have hb12 := hb10.ext hx8
    have r47 := r42.ext hx8
    have r48 := r43.ext hx8
    have r49 := r45.ext hx8
    have r50 := r46.ext hx8
    have r51 := r44.ext hx8
    refine nl ⟨fun _ _ => k15, ?_⟩
    have hz := bs hF; obtain ⟨x11, Ex11, hF⟩ := hz
    refine pe1 rfl <| gc rfl rfl rfl rfl (gw0 rfl) rfl (fun hc => xc cb39 (mc (mv hc rfl) (mc (mv hc rfl) (mc (mv hc rfl) (mc (mv hc rfl) mn))))) (fun hc => (c39 (show RV (α := ((List Int) × (List ((List Int) × (List Int))))) _ (.agg [.slice a1 x0.1.length cq1, .slice a2 x0.2.length cq2].toArray) (x0.1, x0.2) from ⟨_, rfl, ⟨[.slice a1 x0.1.length cq1], [.slice a2 x0.2.length cq2], rfl, r47.rep1, r48.rep1⟩⟩) r49 r50 (show RV (α := ((List Int) × Int)) _ (.agg [.slice a6 x4.1.length cq6, .int .i64 x4.2].toArray) (x4.1, x4.2) from ⟨_, rfl, ⟨[.slice a6 x4.1.length cq6], [.int .i64 x4.2], rfl, r51.rep1, rfl⟩⟩) (gdp Ex11 hc))) (fun v7 w9 hy2 hn2 => ?_)
    have hx9 : Ext w8 w9 := gx (fun h => (hy2 h).2) (fun h => (hn2 h).2 ▸ Ext.refl _)
    have e5 := mkw (fun h => (hy2 h).1) (fun h => (hn2 h).1)
    have k16 := k13.tr hx9
    have k17 := k14.tr hx9
    have k18 := k15.tr hx9
    have hb13 := hb12.ext hx9
    have r52 := r47.ext hx9
    have r53 := r48.ext hx9
    have r54 := r49.ext hx9
    have r55 := r50.ext hx9
    refine nl ⟨fun _ _ => k18, ?_⟩
    refine pgv rfl rfl rfl rfl rfl (gw0 rfl) rfl (fun hc => (fun _ _ => xneq (mv hc e4) (mv hc e5))) (.inl rfl) <| pv rfl rfl rfl (fun _ _ => xpo rfl rfl rfl) (.inl rfl) <| cnd rfl (fun h7 => ?_) (fun h7 => ?_)
    ·
      have hF := ifp hF h7
      refine wp_seq <| rg <| vl rfl rfl xas <| nl <| ?_
      cases hF
      exact wp_ret <| rt rfl (.tmp rfl rfl .nil) ⟨rfl, k16⟩
    ·
      have hF := ifn hF h7
      refine wp_skip <| wp_seq <| rg <| vl rfl rfl (xlda rfl ti25 rfl (Bx.cs hb13)) <| vl rfl rfl xmv <| vl rfl rfl xmv <| ?_
      have hz := bs hF; obtain ⟨x12, Ex12, hF⟩ := hz
      refine cl rfl rfl (xc cb32 (mc rfl (mc rfl (mc rfl mn)))) (c32 (show RV (α := ((List Int) × (List ((List Int) × (List Int))))) _ (.agg [.slice a1 x0.1.length cq1, .slice a2 x0.2.length cq2].toArray) (x0.1, x0.2) from ⟨_, rfl, ⟨[.slice a1 x0.1.length cq1], [.slice a2 x0.2.length cq2], rfl, r52.rep1, r53.rep1⟩⟩) r54 r55 Ex12) ?_
      rintro _ w10 ⟨u1, rfl, r56, hx10⟩
      have k19 := k16.tr hx10
      have k20 := k17.tr hx10
      have k21 := k18.tr hx10
      have hb14 := hb13.ext hx10
      have r57 := r52.ext hx10
      have r58 := r53.ext hx10
      have r59 := r54.ext hx10
      have r60 := r55.ext hx10
      have hz := RV.sl r56; obtain ⟨a7, cq7, rfl, -, -, -⟩ := hz
      refine vl rfl rfl xmv <| vl rfl rfl (xext rfl rfl) <| vl rfl rfl (xext rfl rfl) <| vl rfl rfl xas <| vl rfl rfl xas <| nl <| wp_seq <| rg <| vl rfl rfl (xlda rfl ti25 rfl (Bx.cs hb14)) <| vl rfl rfl xmv <| vl rfl rfl xmv <| ?_
      have hz := bs hF; obtain ⟨x13, Ex13, hF⟩ := hz
      refine cl rfl rfl (xc cb40 (mc rfl (mc rfl (mc rfl mn)))) (c40 (show RV (α := ((List Int) × (List ((List Int) × (List Int))))) _ (.agg [.slice a1 x0.1.length cq1, .slice a2 x0.2.length cq2].toArray) (x0.1, x0.2) from ⟨_, rfl, ⟨[.slice a1 x0.1.length cq1], [.slice a2 x0.2.length cq2], rfl, r57.rep1, r58.rep1⟩⟩) r59 r60 Ex13) ?_
      rintro _ w11 ⟨u2, rfl, r61, hx11⟩
      have k22 := k19.tr hx11
      have k23 := k20.tr hx11
      have k24 := k21.tr hx11
      have hb15 := hb14.ext hx11
      have r62 := r57.ext hx11
      have r63 := r58.ext hx11
      have r64 := r59.ext hx11
      have r65 := r60.ext hx11
      have r66 := r56.ext hx11
      have hz := id r61; obtain ⟨_, rfl, ⟨_, _, rfl, ⟨a8, cq8, rfl, p4, q9, e6⟩, rfl⟩⟩ := hz
      have r67 := RV.of1 p4 q9 e6
      refine vl rfl rfl xmv <| vl rfl rfl (xext rfl rfl) <| vl rfl rfl (xext rfl rfl) <| sal ti62 fun b8 w12 hx12 hg3 hb16 => ?_
      have k25 := k22.tr hx12
      have k26 := k23.tr hx12
      have k27 := k24.tr hx12
      have hb17 := hb15.ext hx12
      have r68 := r62.ext hx12
      have r69 := r63.ext hx12
      have r70 := r64.ext hx12
      have r71 := r65.ext hx12
      have r72 := r66.ext hx12
      have r73 := r67.ext hx12
      have r74 := r61.ext hx12
      refine sst rfl rfl rfl ti62 hb16 rfl rfl (ble rfl) fun w13 hch1 hb18 => ?_
      have k28 := Ext.chg k25 hch1 (Nat.le_trans k22.size hg3)
      have k29 := Ext.chg k26 hch1 (Nat.le_trans k23.size hg3)
      have k30 := Ext.chg k27 hch1 (Nat.le_trans k24.size hg3)
      have k31 := Ext.chg hx12 hch1 (Nat.le_trans (Nat.le_refl _) hg3)
      have hb19 := hb15.ext k31
      have r75 := r62.ext k31
      have r76 := r63.ext k31
      have r77 := r64.ext k31
      have r78 := r65.ext k31
      have r79 := r66.ext k31
      have r80 := r67.ext k31
      have hb20 : Bx w13 b8 62 [.slice a8 x13.1.1.length cq8, .int .i64 x13.1.2] := hb18
      refine vl rfl rfl xas <| nl <| wp_seq <| rg <| vl rfl rfl (xlda rfl ti25 rfl (Bx.cs hb19)) <| vl rfl rfl xmv <| vl rfl rfl xmv <| ?_
      have hz := bs hF; obtain ⟨x14, Ex14, hF⟩ := hz
      refine cl rfl rfl (xc cb41 (mc rfl (mc rfl (mc rfl mn)))) (c41 (show RV (α := ((List Int) × (List ((List Int) × (List Int))))) _ (.agg [.slice a1 x0.1.length cq1, .slice a2 x0.2.length cq2].toArray) (x0.1, x0.2) from ⟨_, rfl, ⟨[.slice a1 x0.1.length cq1], [.slice a2 x0.2.length cq2], rfl, r75.rep1, r76.rep1⟩⟩) r77 r78 Ex14) ?_
      rintro _ w14 ⟨rfl, hx13⟩
      have k32 := k28.tr hx13
      have k33 := k29.tr hx13
      have k34 := k30.tr hx13
      have k35 := k31.tr hx13
      have hb21 := hb19.ext hx13
      have r81 := r75.ext hx13
      have r82 := r76.ext hx13
      have hb22 := hb20.ext hx13
      have r83 := r80.ext hx13
      have r84 := r77.ext hx13
      have r85 := r78.ext hx13
      have r86 := r79.ext hx13
      refine vl rfl rfl xas <| nl <| wp_seq <| wp_seq <| rg <| vl rfl rfl xmv <| vl rfl rfl (xneq rfl rfl) <| nl <| cnd rfl (fun h8 => ?_) (fun h8 => ?_)
      ·
        have hF := ifp hF h8
        refine wp_seq <| rg <| vl rfl rfl xmv <| vl rfl rfl xmv <| vl rfl rfl (xeql rfl rfl) <| vl rfl rfl xmv <| gv rfl rfl rfl rfl (gw1 rfl) rfl (fun hc => xmva rfl) <| gv rfl rfl rfl rfl (gw1 rfl) rfl (fun hc => xmva rfl) <| gv rfl rfl rfl rfl (gw1 rfl) rfl (fun hc => xeql (mv hc rfl) (mv hc rfl)) <| vl rfl rfl (xpa rfl rfl rfl) <| vl rfl rfl xmv <| gv rfl rfl rfl rfl (gw1 rfl) rfl (fun hc => xmva rfl) <| gv rfl rfl rfl rfl (gw1 rfl) rfl (fun hc => xlen (mv hc rfl) Try.underlying22) <| gv rfl rfl rfl rfl (gw1 rfl) rfl (fun hc => xeql (mv hc rfl) rfl) <| vl rfl rfl (xpa rfl rfl rfl) <| vl rfl rfl xmv <| gv rfl rfl rfl rfl (gw1 rfl) rfl (fun hc => xfa rfl fa62_0) <| gv rfl rfl rfl rfl (gw1 rfl) rfl (fun hc => xld (mv hc rfl) ti22 ((Bx.cs hb22).at 0 rfl)) <| gv rfl rfl rfl rfl (gw1 rfl) rfl (fun hc => xlen (mv hc rfl) Try.underlying22) <| gv rfl rfl rfl rfl (gw1 rfl) rfl (fun hc => xeql (mv hc rfl) rfl) <| vl rfl rfl (xpa rfl rfl rfl) <| vl rfl rfl xmv <| gv rfl rfl rfl rfl (gw1 rfl) rfl (fun hc => xfa rfl fa62_1) <| gv rfl rfl rfl rfl (gw1 rfl) rfl (fun hc => xld (mv hc rfl) ti2 ((Bx.cs hb22).at 1 rfl)) <| gv rfl rfl rfl rfl (gw1 rfl) rfl (fun hc => xeql (mv hc rfl) rfl) <| vl rfl rfl (xpa rfl rfl rfl) <| vl rfl rfl xmv <| ?_
        have hz := bs hF; obtain ⟨x15, Ex15, hF⟩ := hz
        refine gc rfl rfl rfl rfl (gw1 rfl) rfl (fun hc => xc cb13 mn) (fun hc => (c13 (gdp Ex15 hc))) (fun v8 w15 hy3 hn3 => ?_)
        have hx14 : Ext w14 w15 := gx (fun h => (hy3 h).2) (fun h => (hn3 h).2 ▸ Ext.refl _)
        have e7 := mkw (fun h => (hy3 h).1) (fun h => (hn3 h).1)
        have k36 := k32.tr hx14
        have k37 := k33.tr hx14
        have k38 := k34.tr hx14
        have k39 := k35.tr hx14
        refine vl rfl rfl (xpa rfl e7 rfl) <| vl rfl rfl xas <| nl <| ?_
        cases hF
        exact wp_ret <| rt rfl (.tmp rfl rfl .nil) ⟨rfl, k36⟩
      ·
        have hF := ifn hF h8
        refine wp_skip <| wp_seq <| wp_seq <| rg <| vl rfl rfl (xlda rfl ti25 rfl (Bx.cs hb21)) <| vl rfl rfl xmv <| vl rfl rfl xmv <| ?_
        have hz := bs hF; obtain ⟨x16, Ex16, hF⟩ := hz
        refine cl rfl rfl (xc cb42 (mc rfl (mc rfl (mc rfl mn)))) (c42 (show RV (α := ((List Int) × (List ((List Int) × (List Int))))) _ (.agg [.slice a1 x0.1.length cq1, .slice a2 x0.2.length cq2].toArray) (x0.1, x0.2) from ⟨_, rfl, ⟨[.slice a1 x0.1.length cq1], [.slice a2 x0.2.length cq2], rfl, r81.rep1, r82.rep1⟩⟩) r84 r85 Ex16) ?_
        rintro _ w16 ⟨rfl, hx15⟩
        have k40 := k32.tr hx15
        have k41 := k33.tr hx15
        have k42 := k34.tr hx15
        have k43 := k35.tr hx15
        have hb23 := hb21.ext hx15
        have r87 := r81.ext hx15
        have r88 := r82.ext hx15
        have hb24 := hb22.ext hx15
        have r89 := r83.ext hx15
        have r90 := r84.ext hx15
        have r91 := r85.ext hx15
        have r92 := r86.ext hx15
        refine nl <| cnd rfl (fun h9 => ?_) (fun h9 => ?_)
        ·
          have hF := ifp hF h9
          refine wp_seq <| rg <| vl rfl rfl xmv <| vl rfl rfl (xeql rfl rfl) <| vl rfl rfl xmv <| gv rfl rfl rfl rfl (gw1 rfl) rfl (fun hc => xmva rfl) <| gv rfl rfl rfl rfl (gw1 rfl) rfl (fun hc => xeql (mv hc rfl) rfl) <| vl rfl rfl (xpa rfl rfl rfl) <| vl rfl rfl xmv <| gv rfl rfl rfl rfl (gw1 rfl) rfl (fun hc => xmva rfl) <| gv rfl rfl rfl rfl (gw1 rfl) rfl (fun hc => xlen (mv hc rfl) Try.underlying22) <| gv rfl rfl rfl rfl (gw1 rfl) rfl (fun hc => xeql (mv hc rfl) rfl) <| vl rfl rfl (xpa rfl rfl rfl) <| vl rfl rfl xmv <| gv rfl rfl rfl rfl (gw1 rfl) rfl (fun hc => xlda rfl ti25 rfl (Bx.cs hb23)) <| gv rfl rfl rfl rfl (gw1 rfl) rfl (fun hc => xmva rfl) <| gv rfl rfl rfl rfl (gw1 rfl) rfl (fun hc => xmva rfl) <| gv rfl rfl rfl rfl (gw1 rfl) rfl (fun hc => xlda rfl ti62 rfl (Bx.cs hb24)) <| ?_
          have hz := bs hF; obtain ⟨x17, Ex17, hF⟩ := hz
          refine gc rfl rfl rfl rfl (gw1 rfl) rfl (fun hc => xc cb39 (mc (mv hc rfl) (mc (mv hc rfl) (mc (mv hc rfl) (mc (mv hc rfl) mn))))) (fun hc => (c39 (show RV (α := ((List Int) × (List ((List Int) × (List Int))))) _ (.agg [.slice a1 x0.1.length cq1, .slice a2 x0.2.length cq2].toArray) (x0.1, x0.2) from ⟨_, rfl, ⟨[.slice a1 x0.1.length cq1], [.slice a2 x0.2.length cq2], rfl, r87.rep1, r88.rep1⟩⟩) r90 r91 (show RV (α := ((List Int) × Int)) _ (.agg [.slice a8 x13.1.1.length cq8, .int .i64 x13.1.2].toArray) (x13.1.1, x13.1.2) from ⟨_, rfl, ⟨[.slice a8 x13.1.1.length cq8], [.int .i64 x13.1.2], rfl, r89.rep1, rfl⟩⟩) (gdp Ex17 hc))) (fun v9 w17 hy4 hn4 => ?_)
          have hx16 : Ext w16 w17 := gx (fun h => (hy4 h).2) (fun h => (hn4 h).2 ▸ Ext.refl _)
          have e8 := mkw (fun h => (hy4 h).1) (fun h => (hn4 h).1)
          have k44 := k40.tr hx16
          have k45 := k41.tr hx16
          have k46 := k42.tr hx16
          have k47 := k43.tr hx16
          refine gv rfl rfl rfl rfl (gw1 rfl) rfl (fun hc => xeql (mv hc e8) rfl) <| vl rfl rfl (xpa rfl rfl rfl) <| vl rfl rfl xmv <| ?_
          have hz := bs hF; obtain ⟨x18, Ex18, hF⟩ := hz
          refine gc rfl rfl rfl rfl (gw1 rfl) rfl (fun hc => xc cb13 mn) (fun hc => (c13 (gdp Ex18 hc))) (fun v10 w18 hy5 hn5 => ?_)
          have hx17 : Ext w17 w18 := gx (fun h => (hy5 h).2) (fun h => (hn5 h).2 ▸ Ext.refl _)
          have e9 := mkw (fun h => (hy5 h).1) (fun h => (hn5 h).1)
          have k48 := k44.tr hx17
          have k49 := k45.tr hx17
          have k50 := k46.tr hx17
          have k51 := k47.tr hx17
          refine vl rfl rfl (xpa rfl e9 rfl) <| vl rfl rfl xas <| nl <| ?_
          cases hF
          exact wp_ret <| rt rfl (.tmp rfl rfl .nil) ⟨rfl, k48⟩
        ·
          have hF := ifn hF h9
          refine wp_skip <| wp_seq <| rg <| vl rfl rfl xmv <| vl rfl rfl (xeql rfl rfl) <| vl rfl rfl xmv <| gv rfl rfl rfl rfl (gw1 rfl) rfl (fun hc => xmva rfl) <| gv rfl rfl rfl rfl (gw1 rfl) rfl (fun hc => xeql (mv hc rfl) rfl) <| vl rfl rfl (xpa rfl rfl rfl) <| vl rfl rfl xmv <| gv rfl rfl rfl rfl (gw1 rfl) rfl (fun hc => xlda rfl ti25 rfl (Bx.cs hb23)) <| gv rfl rfl rfl rfl (gw1 rfl) rfl (fun hc => xmva rfl) <| gv rfl rfl rfl rfl (gw1 rfl) rfl (fun hc => xmva rfl) <| gv rfl rfl rfl rfl (gw1 rfl) rfl (fun hc => xmva rfl) <| ?_
          have hz := bs hF; obtain ⟨x19, Ex19, hF⟩ := hz
          refine gc rfl rfl rfl rfl (gw1 rfl) rfl (fun hc => xc cb35 (mc (mv hc rfl) (mc (mv hc rfl) (mc (mv hc rfl) (mc (mv hc rfl) mn))))) (fun hc => (c35 (show RV (α := ((List Int) × (List ((List Int) × (List Int))))) _ (.agg [.slice a1 x0.1.length cq1, .slice a2 x0.2.length cq2].toArray) (x0.1, x0.2) from ⟨_, rfl, ⟨[.slice a1 x0.1.length cq1], [.slice a2 x0.2.length cq2], rfl, r87.rep1, r88.rep1⟩⟩) r92 r90 r91 (gdp Ex19 hc))) (fun v11 w19 hy6 hn6 => ?_)
          have hx18 : Ext w16 w19 := gx (fun h => (hy6 h).2) (fun h => (hn6 h).2 ▸ Ext.refl _)
          have e10 := mkw (fun h => (hy6 h).1) (fun h => (hn6 h).1)
          have k52 := k40.tr hx18
          have k53 := k41.tr hx18
          have k54 := k42.tr hx18
          have k55 := k43.tr hx18
          have hb25 := hb24.ext hx18
          have r93 := r89.ext hx18
          refine vl rfl rfl (xpa rfl e10 rfl) <| vl rfl rfl xmv <| gv rfl rfl rfl rfl (gw1 rfl) rfl (fun hc => xfa rfl fa62_0) <| gv rfl rfl rfl rfl (gw1 rfl) rfl (fun hc => xld (mv hc rfl) ti22 ((Bx.cs hb25).at 0 rfl)) <| gv rfl rfl rfl rfl (gw1 rfl) rfl (fun hc => xlen (mv hc rfl) Try.underlying22) <| gv rfl rfl rfl rfl (gw1 rfl) rfl (fun hc => xeql (mv hc rfl) rfl) <| vl rfl rfl (xpa rfl rfl rfl) <| vl rfl rfl xmv <| gv rfl rfl rfl rfl (gw1 rfl) rfl (fun hc => xfa rfl fa62_1) <| gv rfl rfl rfl rfl (gw1 rfl) rfl (fun hc => xld (mv hc rfl) ti2 ((Bx.cs hb25).at 1 rfl)) <| gv rfl rfl rfl rfl (gw1 rfl) rfl (fun hc => xeql (mv hc rfl) rfl) <| vl rfl rfl (xpa rfl rfl rfl) <| vl rfl rfl xmv <| ?_
          have hz := bs hF; obtain ⟨x20, Ex20, hF⟩ := hz
          refine gc rfl rfl rfl rfl (gw1 rfl) rfl (fun hc => xc cb13 mn) (fun hc => (c13 (gdp Ex20 hc))) (fun v12 w20 hy7 hn7 => ?_)
          have hx19 : Ext w19 w20 := gx (fun h => (hy7 h).2) (fun h => (hn7 h).2 ▸ Ext.refl _)
          have e11 := mkw (fun h => (hy7 h).1) (fun h => (hn7 h).1)
          have k56 := k52.tr hx19
          have k57 := k53.tr hx19
          have k58 := k54.tr hx19
          have k59 := k55.tr hx19
          refine vl rfl rfl (xpa rfl e11 rfl) <| vl rfl rfl xas <| nl <| ?_
          cases hF
          exact wp_ret <| rt rfl (.tmp rfl rfl .nil) ⟨rfl, k56⟩
end Go.Proofs.Ytboefnpnoojfpaa
