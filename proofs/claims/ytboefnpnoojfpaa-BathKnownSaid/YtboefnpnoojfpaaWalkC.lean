/-
  Each function of the program returns what its pure function computes, and leaves all memory that was there as it was. Condition: the pure function computes something.
-/
import Derived.Test.YtboefnpnoojfpaaFacts
import Derived.Test.YtboefnpnoojfpaaPureC
import Derived.Test.YtboefnpnoojfpaaMore
import Derived.Test.YtboefnpnoojfpaaWalkB
namespace Go.Proofs.Ytboefnpnoojfpaa
open Go Go.Md Go.RowKit
attribute [local irreducible] Go.wpList Go.Code.wp Go.Calls Go.Md.Rnd Go.Md.Mt Go.Md.MtM Go.Md.RndM Go.Code.wpIn

set_option maxHeartbeats 4000000 in
theorem c3 {w0 : World} {v0 : Value} {x0 : ((List Int) × (List ((List Int) × (List Int))))} (r0 : RV w0 v0 x0) {v1 : Value} {x1 : (List Int)} (r1 : RV w0 v1 x1) {v2 : Value} {x2 : (List Int)} (r2 : RV w0 v2 x2) {F : Nat} {r : Bool} (hF : law11_BathBaths F x0 x1 x2 = some r) :
    Calls Try.prog 3 [v0, v1, v2].toArray w0 (Ret fun v w' => v = .bool r ∧ Ext w0 w') := by
  unfold law11_BathBaths at hF
  have hz := id r0; obtain ⟨_, rfl, ⟨_, _, rfl, ⟨a1, cq1, rfl, p1, q4, e1⟩, ⟨a2, cq2, rfl, p2, q5, e2⟩⟩⟩ := hz
  have r4 := RV.of1 p1 q4 e1
  have r5 := RV.of1 p2 q5 e2
  have hz := r1.sl; obtain ⟨a3, cq3, rfl, -, -, -⟩ := hz
  have hz := r2.sl; obtain ⟨a4, cq4, rfl, -, -, -⟩ := hz
  refine entr (n := 66) Try.func3 rfl rfl rfl <| wp_seq <| rg <| sbx rfl rfl fun b4 w1 hx1 hg1 hb1 => ?_
  have r6 := r1.ext hx1
  have r7 := r2.ext hx1
  have r8 := r4.ext hx1
  have r9 := r5.ext hx1
  have r10 := r0.ext hx1
  refine vl rfl rfl xas <| nl <| wp_seq <| wp_seq <| rg <| vl rfl rfl (xlda rfl ti25 rfl (Bx.cs hb1)) <| ?_
  have hz := bs hF; obtain ⟨x4, Ex4, hF⟩ := hz
  refine cl rfl rfl (xc cb12 (mc rfl mn)) (c12 (show RV (α := ((List Int) × (List ((List Int) × (List Int))))) _ (.agg [.slice a1 x0.1.length cq1, .slice a2 x0.2.length cq2].toArray) (x0.1, x0.2) from ⟨_, rfl, ⟨[.slice a1 x0.1.length cq1], [.slice a2 x0.2.length cq2], rfl, r8.rep1, r9.rep1⟩⟩) Ex4) ?_
  rintro _ w2 ⟨rfl, hx2⟩
  have k1 := hx1.tr hx2
  have hb2 := hb1.ext hx2
  have r11 := r8.ext hx2
  have r12 := r9.ext hx2
  have r13 := r6.ext hx2
  have r14 := r7.ext hx2
  refine vl rfl rfl xmv <| gv rfl rfl rfl rfl (gw0 rfl) rfl (fun hc => xmva rfl) <| gv rfl rfl rfl rfl (gw0 rfl) rfl (fun hc => xlen (mv hc rfl) Try.underlying22) <| gv rfl rfl rfl rfl (gw0 rfl) rfl (fun hc => xgtr (mv hc rfl) rfl) <| vl rfl rfl (xpo rfl rfl rfl) <| vl rfl rfl xmv <| gv rfl rfl rfl rfl (gw0 rfl) rfl (fun hc => xmva rfl) <| gv rfl rfl rfl rfl (gw0 rfl) rfl (fun hc => xlen (mv hc rfl) Try.underlying26) <| gv rfl rfl rfl rfl (gw0 rfl) rfl (fun hc => xgtr (mv hc rfl) rfl) <| gv rfl rfl rfl rfl (gw0 rfl) rfl (fun hc => xmva (mv hc rfl)) <| gv rfl rfl rfl rfl (gn1 rfl) rfl (fun hc => xmva rfl) <| gv rfl rfl rfl rfl (gn1 rfl) rfl (fun hc => xlen (mv hc rfl) Try.underlying26) <| gv rfl rfl rfl rfl (gn1 rfl) rfl (fun hc => xleq (mv hc rfl) rfl) <| gv rfl rfl rfl rfl (gw0 rfl) rfl (fun hc => xpa (mv hc rfl) (mvn hc rfl) rfl) <| vl rfl rfl (xpo rfl rfl rfl) <| vl rfl rfl xmv <| gv rfl rfl rfl rfl (gw0 rfl) rfl (fun hc => xmva rfl) <| gv rfl rfl rfl rfl (gw0 rfl) rfl (fun hc => xlen (mv hc rfl) Try.underlying26) <| gv rfl rfl rfl rfl (gw0 rfl) rfl (fun hc => xgtr (mv hc rfl) rfl) <| vl rfl rfl (xpo rfl rfl rfl) <| nl <| cnd rfl (fun h4 => ?_) (fun h4 => ?_)
  ·
    have hF := ifp hF h4
    refine wp_seq <| rg <| ?_
    have hz := bs hF; obtain ⟨x5, Ex5, hF⟩ := hz
    refine cl rfl rfl (xc cb13 mn) (c13 Ex5) ?_
    rintro _ w3 ⟨rfl, hx3⟩
    have k2 := k1.tr hx3
    refine vl rfl rfl xas <| nl <| ?_
    cases hF
    exact wp_ret <| rt rfl (.tmp rfl rfl .nil) ⟨rfl, k2⟩
  ·
    have hF := ifn hF h4
    refine wp_skip <| wp_seq <| rg <| vl rfl rfl (xlda rfl ti25 rfl (Bx.cs hb2)) <| vl rfl rfl xmv <| vl rfl rfl xmv <| ?_
    have hz := bs hF; obtain ⟨x6, Ex6, hF⟩ := hz
    refine cl rfl rfl (xc cb14 (mc rfl (mc rfl (mc rfl mn)))) (c14 (show RV (α := ((List Int) × (List ((List Int) × (List Int))))) _ (.agg [.slice a1 x0.1.length cq1, .slice a2 x0.2.length cq2].toArray) (x0.1, x0.2) from ⟨_, rfl, ⟨[.slice a1 x0.1.length cq1], [.slice a2 x0.2.length cq2], rfl, r11.rep1, r12.rep1⟩⟩) r13 r14 Ex6) ?_
    rintro _ w4 ⟨u1, rfl, r15, hx4⟩
    have k3 := k1.tr hx4
    have hb3 := hb2.ext hx4
    have r16 := r11.ext hx4
    have r17 := r12.ext hx4
    have r18 := r13.ext hx4
    have r19 := r14.ext hx4
    have hz := RV.sl r15; obtain ⟨a5, cq5, rfl, -, -, -⟩ := hz
    refine vl rfl rfl xmv <| vl rfl rfl (xext rfl rfl) <| vl rfl rfl (xext rfl rfl) <| vl rfl rfl xas <| vl rfl rfl xas <| nl <| wp_seq <| rg <| vl rfl rfl (xlda rfl ti25 rfl (Bx.cs hb3)) <| vl rfl rfl xmv <| vl rfl rfl xmv <| ?_
    have hz := bs hF; obtain ⟨x7, Ex7, hF⟩ := hz
    refine cl rfl rfl (xc cb15 (mc rfl (mc rfl (mc rfl mn)))) (c15 (show RV (α := ((List Int) × (List ((List Int) × (List Int))))) _ (.agg [.slice a1 x0.1.length cq1, .slice a2 x0.2.length cq2].toArray) (x0.1, x0.2) from ⟨_, rfl, ⟨[.slice a1 x0.1.length cq1], [.slice a2 x0.2.length cq2], rfl, r16.rep1, r17.rep1⟩⟩) r18 r19 Ex7) ?_
    rintro _ w5 ⟨u2, rfl, r20, hx5⟩
    have k4 := k3.tr hx5
    have hb4 := hb3.ext hx5
    have r21 := r16.ext hx5
    have r22 := r17.ext hx5
    have r23 := r15.ext hx5
    have hz := RV.sl r20; obtain ⟨a6, cq6, rfl, -, -, -⟩ := hz
    refine vl rfl rfl xmv <| vl rfl rfl (xext rfl rfl) <| vl rfl rfl (xext rfl rfl) <| vl rfl rfl xas <| vl rfl rfl xas <| nl <| wp_seq <| wpl [] (.pure false 0 (.pure false 2 (.eff 1 (.eff 3 (.pure true 4 (.pure true 5 (.pure true 6 (.pure true 7 (.eff 8 (.pure true 9 (.pure true 10 (.pure true 11 (.pure true 12 (.pure true 13 (.pure true 14 (.pure true 15 (.eff 16 (.pure true 17 (.pure true 18 .fin)) .stop)))))))) .stop))))) .stop) .stop))) mixed (by kernel_rfl) (fun w6 hx6 => ?_)
    have k5 := k4.tr hx6
    have hb5 := hb4.ext hx6
    have r24 := r21.ext hx6
    have r25 := r22.ext hx6
    have r26 := r23.ext hx6
    have r27 := r20.ext hx6
    refine pv rfl rfl rfl (fun _ hS => xlda rfl ti25 rfl (Bx.cs (hb5.ext (hS.resolve_left nofun)))) (.inr (Ext.refl _)) <| pv rfl rfl rfl (fun _ hS => xlda rfl ti25 rfl (Bx.cs (hb5.ext (hS.resolve_left nofun)))) (.inr (Ext.refl _)) <| ?_
    have hz := bs hF; obtain ⟨x8, Ex8, hF⟩ := hz
    refine pe1 rfl <| cl rfl rfl (xc cb16 (mc rfl mn)) (c16 (show RV (α := ((List Int) × (List ((List Int) × (List Int))))) _ (.agg [.slice a1 x0.1.length cq1, .slice a2 x0.2.length cq2].toArray) (x0.1, x0.2) from ⟨_, rfl, ⟨[.slice a1 x0.1.length cq1], [.slice a2 x0.2.length cq2], rfl, r24.rep1, r25.rep1⟩⟩) Ex8) ?_
    rintro _ w7 ⟨rfl, hx7⟩
    have k6 := k5.tr hx7
    have r28 := r26.ext hx7
    have r29 := r27.ext hx7
    have r30 := r24.ext hx7
    have r31 := r25.ext hx7
    refine nl ⟨fun _ _ => hx7, ?_⟩
    have hz := bs hF; obtain ⟨x9, Ex9, hF⟩ := hz
    refine pe1 rfl <| cl rfl rfl (xc cb17 (mc rfl mn)) (c17 (show RV (α := ((List Int) × (List ((List Int) × (List Int))))) _ (.agg [.slice a1 x0.1.length cq1, .slice a2 x0.2.length cq2].toArray) (x0.1, x0.2) from ⟨_, rfl, ⟨[.slice a1 x0.1.length cq1], [.slice a2 x0.2.length cq2], rfl, r30.rep1, r31.rep1⟩⟩) Ex9) ?_
    rintro _ w8 ⟨rfl, hx8⟩
    have k7 := k6.tr hx8
    have k8 := hx7.tr hx8
    have r32 := r28.ext hx8
    have r33 := r29.ext hx8
    refine nl ⟨fun _ _ => k8, ?_⟩
    refine pv rfl rfl rfl (fun _ _ => xeql rfl rfl) (.inl rfl) <| pv rfl rfl rfl (fun _ _ => xmv) (.inl rfl) <| pgv rfl rfl rfl rfl rfl (gw1 rfl) rfl (fun hc => (fun _ _ => xmva rfl)) (.inl rfl) <| pgv rfl rfl rfl rfl rfl (gw1 rfl) rfl (fun hc => (fun _ _ => xmva rfl)) (.inl rfl) <| ?_
    have hz := bs hF; obtain ⟨x10, Ex10, hF⟩ := hz
    refine pe1 rfl <| gc rfl rfl rfl rfl (gw1 rfl) rfl (fun hc => xc cb18 (mc (mv hc rfl) (mc (mv hc rfl) mn))) (fun hc => (c18 r32 r33 (gdp Ex10 hc))) (fun v4 w9 hy1 hn1 => ?_)
    have hx9 : Ext w8 w9 := gx (fun h => (hy1 h).2) (fun h => (hn1 h).2 ▸ Ext.refl _)
    have e3 := mkw (fun h => (hy1 h).1) (fun h => (hn1 h).1)
    have k9 := k7.tr hx9
    have k10 := k8.tr hx9
    refine nl ⟨fun _ _ => k10, ?_⟩
    refine pv rfl rfl rfl (fun _ _ => xpa rfl e3 rfl) (.inl rfl) <| pv rfl rfl rfl (fun _ _ => xmv) (.inl rfl) <| pgv rfl rfl rfl rfl rfl (gw1 rfl) rfl (fun hc => (fun _ _ => xmva rfl)) (.inl rfl) <| pgv rfl rfl rfl rfl rfl (gw1 rfl) rfl (fun hc => (fun _ _ => xmva rfl)) (.inl rfl) <| pgv rfl rfl rfl rfl rfl (gw1 rfl) rfl (fun hc => (fun _ _ => xeql (mv hc rfl) (mv hc rfl))) (.inl rfl) <| pv rfl rfl rfl (fun _ _ => xpa rfl rfl rfl) (.inl rfl) <| pv rfl rfl rfl (fun _ _ => xmv) (.inl rfl) <| ?_
    have hz := bs hF; obtain ⟨x11, Ex11, hF⟩ := hz
    refine pe1 rfl <| gc rfl rfl rfl rfl (gw1 rfl) rfl (fun hc => xc cb13 mn) (fun hc => (c13 (gdp Ex11 hc))) (fun v5 w10 hy2 hn2 => ?_)
    have hx10 : Ext w9 w10 := gx (fun h => (hy2 h).2) (fun h => (hn2 h).2 ▸ Ext.refl _)
    have e4 := mkw (fun h => (hy2 h).1) (fun h => (hn2 h).1)
    have k11 := k9.tr hx10
    have k12 := k10.tr hx10
    refine nl ⟨fun _ _ => k12, ?_⟩
    refine pv rfl rfl rfl (fun _ _ => xpa rfl e4 rfl) (.inl rfl) <| pv rfl rfl rfl (fun _ _ => xas) (.inl rfl) <| ?_
    cases hF
    exact wp_ret <| rt rfl (.tmp rfl rfl .nil) ⟨rfl, k11⟩

set_option maxHeartbeats 4000000 in
theorem c11 {w0 : World}  {F : Nat} {r : Bool} (hF : law11_BathKnown F = some r) :
    Calls Try.prog 11 [].toArray w0 (Ret fun v w' => v = .bool r ∧ Ext w0 w') := by
  unfold law11_BathKnown at hF
  refine entr (n := 58) Try.func11 rfl rfl rfl <| wp_seq <| rg <| vl rfl rfl xas <| nl <| wp_seq <| rg <| ?_
  have hz := bs hF; obtain ⟨x1, Ex1, hF⟩ := hz
  refine cl rfl rfl (xc cb43 mn) (c43 Ex1) ?_
  rintro _ w1 ⟨u1, rfl, r1, hx1⟩
  have hz := id r1; obtain ⟨_, rfl, ⟨_, _, rfl, ⟨a1, cq1, rfl, p1, q1, e1⟩, ⟨a2, cq2, rfl, p2, q2, e2⟩⟩⟩ := hz
  have r2 := RV.of1 p1 q1 e1
  have r3 := RV.of1 p2 q2 e2
  refine sal ti25 fun b1 w2 hx2 hg1 hb1 => ?_
  have k1 := hx1.tr hx2
  have r4 := r2.ext hx2
  have r5 := r3.ext hx2
  have r6 := r1.ext hx2
  refine sst rfl rfl rfl ti25 hb1 rfl rfl (ble rfl) fun w3 hch1 hb2 => ?_
  have k2 := Ext.chg k1 hch1 (Nat.le_trans hx1.size hg1)
  have k3 := Ext.chg hx2 hch1 (Nat.le_trans (Nat.le_refl _) hg1)
  have r7 := r2.ext k3
  have r8 := r3.ext k3
  have hb3 : Bx w3 b1 25 [.slice a1 x1.1.length cq1, .slice a2 x1.2.length cq2] := hb2
  refine nl <| wp_seq <| rg <| vl rfl rfl (xlda rfl ti25 rfl (Bx.cs hb3)) <| sbsv (cs := [.int .i64 5, .int .i64 0, .int .i64 0]) Try.underlying22 ti2 rfl (pc rfl (pc rfl (pc rfl pn))) rfl rfl rfl rfl rfl fun b2 w4 hx3 hg2 hb4 => ?_
  have k4 := k2.tr hx3
  have k5 := k3.tr hx3
  have hb5 := hb3.ext hx3
  have r9 := r7.ext hx3
  have r10 := r8.ext hx3
  have o1 : Row (α := Int) 2 w3.heap.size w4 (.slice (some ⟨b2, 0, none⟩) 3 3) [5, 0, 0] := Row.lit hg2 hb4 rfl (ble rfl)
  refine sbsv (cs := [.int .i64 1]) Try.underlying26 ti3 rfl (pc rfl pn) rfl rfl rfl rfl rfl fun b3 w5 hx4 hg3 hb6 => ?_
  have k6 := k4.tr hx4
  have k7 := k5.tr hx4
  have k8 := hx3.tr hx4
  have hb7 := hb5.ext hx4
  have r12 := r9.ext hx4
  have r13 := r10.ext hx4
  have o2 := o1.ext hx4
  have o3 : Row (α := Int) 3 w4.heap.size w5 (.slice (some ⟨b3, 0, none⟩) 1 1) [1] := Row.lit hg3 hb6 rfl (ble rfl)
  have hz := bs hF; obtain ⟨x2, Ex2, hF⟩ := hz
  refine cl rfl rfl (xc cb14 (mc rfl (mc rfl (mc rfl mn)))) (c14 (show RV (α := ((List Int) × (List ((List Int) × (List Int))))) _ (.agg [.slice a1 x1.1.length cq1, .slice a2 x1.2.length cq2].toArray) (x1.1, x1.2) from ⟨_, rfl, ⟨[.slice a1 x1.1.length cq1], [.slice a2 x1.2.length cq2], rfl, r12.rep1, r13.rep1⟩⟩) o2.rv o3.rv Ex2) ?_
  rintro _ w6 ⟨u2, rfl, r15, hx5⟩
  have k9 := k6.tr hx5
  have k10 := k7.tr hx5
  have k11 := k8.tr hx5
  have k12 := hx4.tr hx5
  have hb8 := hb7.ext hx5
  have r16 := r12.ext hx5
  have r17 := r13.ext hx5
  have hz := RV.sl r15; obtain ⟨a3, cq3, rfl, -, -, -⟩ := hz
  refine vl rfl rfl xmv <| vl rfl rfl (xext rfl rfl) <| vl rfl rfl (xext rfl rfl) <| vl rfl rfl xas <| vl rfl rfl xas <| nl <| wp_seq <| rg <| vl rfl rfl (xlda rfl ti25 rfl (Bx.cs hb8)) <| sbsv (cs := [.int .i64 1, .int .i64 1, .int .i64 1]) Try.underlying22 ti2 rfl (pc rfl (pc rfl (pc rfl pn))) rfl rfl rfl rfl rfl fun b4 w7 hx6 hg4 hb9 => ?_
  have k13 := k9.tr hx6
  have k14 := k10.tr hx6
  have k15 := k11.tr hx6
  have k16 := k12.tr hx6
  have hb10 := hb8.ext hx6
  have r18 := r16.ext hx6
  have r19 := r17.ext hx6
  have o4 : Row (α := Int) 2 w6.heap.size w7 (.slice (some ⟨b4, 0, none⟩) 3 3) [1, 1, 1] := Row.lit hg4 hb9 rfl (ble rfl)
  have hz := bs hF; obtain ⟨x3, Ex3, hF⟩ := hz
  refine cl rfl rfl (xc cb33 (mc rfl (mc rfl mn))) (c33 (show RV (α := ((List Int) × (List ((List Int) × (List Int))))) _ (.agg [.slice a1 x1.1.length cq1, .slice a2 x1.2.length cq2].toArray) (x1.1, x1.2) from ⟨_, rfl, ⟨[.slice a1 x1.1.length cq1], [.slice a2 x1.2.length cq2], rfl, r18.rep1, r19.rep1⟩⟩) o4.rv Ex3) ?_
  rintro _ w8 ⟨rfl, hx7⟩
  have k17 := k13.tr hx7
  have k18 := k14.tr hx7
  have k19 := k15.tr hx7
  have k20 := k16.tr hx7
  have k21 := hx6.tr hx7
  have hb11 := hb10.ext hx7
  have r21 := r18.ext hx7
  have r22 := r19.ext hx7
  refine vl rfl rfl xas <| nl <| wp_seq <| rg <| vl rfl rfl (xlda rfl ti25 rfl (Bx.cs hb11)) <| sbsv (cs := [.int .i64 5, .int .i64 0, .int .i64 0]) Try.underlying22 ti2 rfl (pc rfl (pc rfl (pc rfl pn))) rfl rfl rfl rfl rfl fun b5 w9 hx8 hg5 hb12 => ?_
  have k22 := k17.tr hx8
  have k23 := k18.tr hx8
  have k24 := k19.tr hx8
  have k25 := k20.tr hx8
  have k26 := k21.tr hx8
  have hb13 := hb11.ext hx8
  have r23 := r21.ext hx8
  have r24 := r22.ext hx8
  have o5 : Row (α := Int) 2 w8.heap.size w9 (.slice (some ⟨b5, 0, none⟩) 3 3) [5, 0, 0] := Row.lit hg5 hb12 rfl (ble rfl)
  refine sbsv (cs := [.int .i64 0, .int .i64 1, .int .i64 3]) Try.underlying22 ti2 rfl (pc rfl (pc rfl (pc rfl pn))) rfl rfl rfl rfl rfl fun b6 w10 hx9 hg6 hb14 => ?_
  have k27 := k22.tr hx9
  have k28 := k23.tr hx9
  have k29 := k24.tr hx9
  have k30 := k25.tr hx9
  have k31 := k26.tr hx9
  have k32 := hx8.tr hx9
  have hb15 := hb13.ext hx9
  have r26 := r23.ext hx9
  have r27 := r24.ext hx9
  have o6 := o5.ext hx9
  have o7 : Row (α := Int) 2 w9.heap.size w10 (.slice (some ⟨b6, 0, none⟩) 3 3) [0, 1, 3] := Row.lit hg6 hb14 rfl (ble rfl)
  refine sbsv (cs := [.int .i64 1, .int .i64 3, .int .i64 0]) Try.underlying22 ti2 rfl (pc rfl (pc rfl (pc rfl pn))) rfl rfl rfl rfl rfl fun b7 w11 hx10 hg7 hb16 => ?_
  have k33 := k27.tr hx10
  have k34 := k28.tr hx10
  have k35 := k29.tr hx10
  have k36 := k30.tr hx10
  have k37 := k31.tr hx10
  have k38 := k32.tr hx10
  have k39 := hx9.tr hx10
  have hb17 := hb15.ext hx10
  have r29 := r26.ext hx10
  have r30 := r27.ext hx10
  have o8 := o6.ext hx10
  have o9 := o7.ext hx10
  have o10 : Row (α := Int) 2 w10.heap.size w11 (.slice (some ⟨b7, 0, none⟩) 3 3) [1, 3, 0] := Row.lit hg7 hb16 rfl (ble rfl)
  refine vl rfl rfl (xbdv (r := [.slice (some ⟨b7, 0, none⟩) ([1, 3, 0] : List Int).length 3, .int .i64 1]) ti62 sp62 (pc rfl (pc rfl pn)) rfl) <| ?_
  have hz := bs hF; obtain ⟨x4, Ex4, hF⟩ := hz
  refine cl rfl rfl (xc cb38 (mc rfl (mc rfl (mc rfl (mc rfl mn))))) (c38 (show RV (α := ((List Int) × (List ((List Int) × (List Int))))) _ (.agg [.slice a1 x1.1.length cq1, .slice a2 x1.2.length cq2].toArray) (x1.1, x1.2) from ⟨_, rfl, ⟨[.slice a1 x1.1.length cq1], [.slice a2 x1.2.length cq2], rfl, r29.rep1, r30.rep1⟩⟩) o8.rv o9.rv (show RV (α := ((List Int) × Int)) _ (.agg [.slice (some ⟨b7, 0, none⟩) ([1, 3, 0] : List Int).length 3, .int .i64 1].toArray) (([1, 3, 0] : List Int), 1) from ⟨_, rfl, ⟨[.slice (some ⟨b7, 0, none⟩) ([1, 3, 0] : List Int).length 3], [.int .i64 1], rfl, o10.rv.rep1, rfl⟩⟩) Ex4) ?_
  rintro _ w12 ⟨rfl, hx11⟩
  have k40 := k33.tr hx11
  have k41 := k34.tr hx11
  have k42 := k35.tr hx11
  have k43 := k36.tr hx11
  have k44 := k37.tr hx11
  have k45 := k38.tr hx11
  have k46 := k39.tr hx11
  have k47 := hx10.tr hx11
  have hb18 := hb17.ext hx11
  have r32 := r29.ext hx11
  have r33 := r30.ext hx11
  refine vl rfl rfl xas <| nl <| wp_seq <| rg <| vl rfl rfl (xlda rfl ti25 rfl (Bx.cs hb18)) <| sbsv (cs := [.int .i64 5, .int .i64 0, .int .i64 0]) Try.underlying22 ti2 rfl (pc rfl (pc rfl (pc rfl pn))) rfl rfl rfl rfl rfl fun b8 w13 hx12 hg8 hb19 => ?_
  have k48 := k40.tr hx12
  have k49 := k41.tr hx12
  have k50 := k42.tr hx12
  have k51 := k43.tr hx12
  have k52 := k44.tr hx12
  have k53 := k45.tr hx12
  have k54 := k46.tr hx12
  have k55 := k47.tr hx12
  have hb20 := hb18.ext hx12
  have r34 := r32.ext hx12
  have r35 := r33.ext hx12
  have o11 : Row (α := Int) 2 w12.heap.size w13 (.slice (some ⟨b8, 0, none⟩) 3 3) [5, 0, 0] := Row.lit hg8 hb19 rfl (ble rfl)
  refine sbsv (cs := [.int .i64 0, .int .i64 1, .int .i64 3]) Try.underlying22 ti2 rfl (pc rfl (pc rfl (pc rfl pn))) rfl rfl rfl rfl rfl fun b9 w14 hx13 hg9 hb21 => ?_
  have k56 := k48.tr hx13
  have k57 := k49.tr hx13
  have k58 := k50.tr hx13
  have k59 := k51.tr hx13
  have k60 := k52.tr hx13
  have k61 := k53.tr hx13
  have k62 := k54.tr hx13
  have k63 := k55.tr hx13
  have k64 := hx12.tr hx13
  have hb22 := hb20.ext hx13
  have r37 := r34.ext hx13
  have r38 := r35.ext hx13
  have o12 := o11.ext hx13
  have o13 : Row (α := Int) 2 w13.heap.size w14 (.slice (some ⟨b9, 0, none⟩) 3 3) [0, 1, 3] := Row.lit hg9 hb21 rfl (ble rfl)
  refine sbsv (cs := [.int .i64 2, .int .i64 6, .int .i64 0]) Try.underlying22 ti2 rfl (pc rfl (pc rfl (pc rfl pn))) rfl rfl rfl rfl rfl fun b10 w15 hx14 hg10 hb23 => ?_
  have k65 := k56.tr hx14
  have k66 := k57.tr hx14
  have k67 := k58.tr hx14
  have k68 := k59.tr hx14
  have k69 := k60.tr hx14
  have k70 := k61.tr hx14
  have k71 := k62.tr hx14
  have k72 := k63.tr hx14
  have k73 := k64.tr hx14
  have k74 := hx13.tr hx14
  have hb24 := hb22.ext hx14
  have r40 := r37.ext hx14
  have r41 := r38.ext hx14
  have o14 := o12.ext hx14
  have o15 := o13.ext hx14
  have o16 : Row (α := Int) 2 w14.heap.size w15 (.slice (some ⟨b10, 0, none⟩) 3 3) [2, 6, 0] := Row.lit hg10 hb23 rfl (ble rfl)
  refine vl rfl rfl (xbdv (r := [.slice (some ⟨b10, 0, none⟩) ([2, 6, 0] : List Int).length 3, .int .i64 2]) ti62 sp62 (pc rfl (pc rfl pn)) rfl) <| ?_
  have hz := bs hF; obtain ⟨x5, Ex5, hF⟩ := hz
  refine cl rfl rfl (xc cb38 (mc rfl (mc rfl (mc rfl (mc rfl mn))))) (c38 (show RV (α := ((List Int) × (List ((List Int) × (List Int))))) _ (.agg [.slice a1 x1.1.length cq1, .slice a2 x1.2.length cq2].toArray) (x1.1, x1.2) from ⟨_, rfl, ⟨[.slice a1 x1.1.length cq1], [.slice a2 x1.2.length cq2], rfl, r40.rep1, r41.rep1⟩⟩) o14.rv o15.rv (show RV (α := ((List Int) × Int)) _ (.agg [.slice (some ⟨b10, 0, none⟩) ([2, 6, 0] : List Int).length 3, .int .i64 2].toArray) (([2, 6, 0] : List Int), 2) from ⟨_, rfl, ⟨[.slice (some ⟨b10, 0, none⟩) ([2, 6, 0] : List Int).length 3], [.int .i64 2], rfl, o16.rv.rep1, rfl⟩⟩) Ex5) ?_
  rintro _ w16 ⟨rfl, hx15⟩
  have k75 := k65.tr hx15
  have k76 := k66.tr hx15
  have k77 := k67.tr hx15
  have k78 := k68.tr hx15
  have k79 := k69.tr hx15
  have k80 := k70.tr hx15
  have k81 := k71.tr hx15
  have k82 := k72.tr hx15
  have k83 := k73.tr hx15
  have k84 := k74.tr hx15
  have k85 := hx14.tr hx15
  have hb25 := hb24.ext hx15
  have r43 := r40.ext hx15
  have r44 := r41.ext hx15
  refine vl rfl rfl xas <| nl <| wp_seq <| rg <| vl rfl rfl (xlda rfl ti25 rfl (Bx.cs hb25)) <| sbsv (cs := [.int .i64 5, .int .i64 0, .int .i64 0]) Try.underlying22 ti2 rfl (pc rfl (pc rfl (pc rfl pn))) rfl rfl rfl rfl rfl fun b11 w17 hx16 hg11 hb26 => ?_
  have k86 := k75.tr hx16
  have k87 := k76.tr hx16
  have k88 := k77.tr hx16
  have k89 := k78.tr hx16
  have k90 := k79.tr hx16
  have k91 := k80.tr hx16
  have k92 := k81.tr hx16
  have k93 := k82.tr hx16
  have k94 := k83.tr hx16
  have k95 := k84.tr hx16
  have k96 := k85.tr hx16
  have r45 := r43.ext hx16
  have r46 := r44.ext hx16
  have o17 : Row (α := Int) 2 w16.heap.size w17 (.slice (some ⟨b11, 0, none⟩) 3 3) [5, 0, 0] := Row.lit hg11 hb26 rfl (ble rfl)
  refine sbsv (cs := [.int .i64 0, .int .i64 1, .int .i64 3]) Try.underlying22 ti2 rfl (pc rfl (pc rfl (pc rfl pn))) rfl rfl rfl rfl rfl fun b12 w18 hx17 hg12 hb27 => ?_
  have k97 := k86.tr hx17
  have k98 := k87.tr hx17
  have k99 := k88.tr hx17
  have k100 := k89.tr hx17
  have k101 := k90.tr hx17
  have k102 := k91.tr hx17
  have k103 := k92.tr hx17
  have k104 := k93.tr hx17
  have k105 := k94.tr hx17
  have k106 := k95.tr hx17
  have k107 := k96.tr hx17
  have k108 := hx16.tr hx17
  have r48 := r45.ext hx17
  have r49 := r46.ext hx17
  have o18 := o17.ext hx17
  have o19 : Row (α := Int) 2 w17.heap.size w18 (.slice (some ⟨b12, 0, none⟩) 3 3) [0, 1, 3] := Row.lit hg12 hb27 rfl (ble rfl)
  refine sbsv (cs := [.int .i64 2, .int .i64 6, .int .i64 0]) Try.underlying22 ti2 rfl (pc rfl (pc rfl (pc rfl pn))) rfl rfl rfl rfl rfl fun b13 w19 hx18 hg13 hb28 => ?_
  have k109 := k97.tr hx18
  have k110 := k98.tr hx18
  have k111 := k99.tr hx18
  have k112 := k100.tr hx18
  have k113 := k101.tr hx18
  have k114 := k102.tr hx18
  have k115 := k103.tr hx18
  have k116 := k104.tr hx18
  have k117 := k105.tr hx18
  have k118 := k106.tr hx18
  have k119 := k107.tr hx18
  have k120 := k108.tr hx18
  have k121 := hx17.tr hx18
  have r51 := r48.ext hx18
  have r52 := r49.ext hx18
  have o20 := o18.ext hx18
  have o21 := o19.ext hx18
  have o22 : Row (α := Int) 2 w18.heap.size w19 (.slice (some ⟨b13, 0, none⟩) 3 3) [2, 6, 0] := Row.lit hg13 hb28 rfl (ble rfl)
  refine vl rfl rfl (xbdv (r := [.slice (some ⟨b13, 0, none⟩) ([2, 6, 0] : List Int).length 3, .int .i64 1]) ti62 sp62 (pc rfl (pc rfl pn)) rfl) <| ?_
  have hz := bs hF; obtain ⟨x6, Ex6, hF⟩ := hz
  refine cl rfl rfl (xc cb38 (mc rfl (mc rfl (mc rfl (mc rfl mn))))) (c38 (show RV (α := ((List Int) × (List ((List Int) × (List Int))))) _ (.agg [.slice a1 x1.1.length cq1, .slice a2 x1.2.length cq2].toArray) (x1.1, x1.2) from ⟨_, rfl, ⟨[.slice a1 x1.1.length cq1], [.slice a2 x1.2.length cq2], rfl, r51.rep1, r52.rep1⟩⟩) o20.rv o21.rv (show RV (α := ((List Int) × Int)) _ (.agg [.slice (some ⟨b13, 0, none⟩) ([2, 6, 0] : List Int).length 3, .int .i64 1].toArray) (([2, 6, 0] : List Int), 1) from ⟨_, rfl, ⟨[.slice (some ⟨b13, 0, none⟩) ([2, 6, 0] : List Int).length 3], [.int .i64 1], rfl, o22.rv.rep1, rfl⟩⟩) Ex6) ?_
  rintro _ w20 ⟨rfl, hx19⟩
  have k122 := k109.tr hx19
  have k123 := k110.tr hx19
  have k124 := k111.tr hx19
  have k125 := k112.tr hx19
  have k126 := k113.tr hx19
  have k127 := k114.tr hx19
  have k128 := k115.tr hx19
  have k129 := k116.tr hx19
  have k130 := k117.tr hx19
  have k131 := k118.tr hx19
  have k132 := k119.tr hx19
  have k133 := k120.tr hx19
  have k134 := k121.tr hx19
  have k135 := hx18.tr hx19
  refine vl rfl rfl xas <| nl <| wp_seq <| rg <| vl rfl rfl xmv <| vl rfl rfl (xeql rfl rfl) <| vl rfl rfl xmv <| gv rfl rfl rfl rfl (gw1 rfl) rfl (fun hc => xmva rfl) <| gv rfl rfl rfl rfl (gw1 rfl) rfl (fun hc => xeql (mv hc rfl) rfl) <| vl rfl rfl (xpa rfl rfl rfl) <| vl rfl rfl xmv <| gv rfl rfl rfl rfl (gw1 rfl) rfl (fun hc => xmva rfl) <| gv rfl rfl rfl rfl (gw1 rfl) rfl (fun hc => xeql (mv hc rfl) rfl) <| vl rfl rfl (xpa rfl rfl rfl) <| vl rfl rfl xmv <| gv rfl rfl rfl rfl (gw1 rfl) rfl (fun hc => xmva rfl) <| gv rfl rfl rfl rfl (gw1 rfl) rfl (fun hc => xeql (mv hc rfl) rfl) <| vl rfl rfl (xpa rfl rfl rfl) <| vl rfl rfl xmv <| gv rfl rfl rfl rfl (gw1 rfl) rfl (fun hc => xmva rfl) <| gv rfl rfl rfl rfl (gw1 rfl) rfl (fun hc => xeql (mv hc rfl) rfl) <| vl rfl rfl (xpa rfl rfl rfl) <| vl rfl rfl xmv <| ?_
  have hz := bs hF; obtain ⟨x7, Ex7, hF⟩ := hz
  refine gc rfl rfl rfl rfl (gw1 rfl) rfl (fun hc => xc cb13 mn) (fun hc => (c13 (gdp Ex7 hc))) (fun v1 w21 hy1 hn1 => ?_)
  have hx20 : Ext w20 w21 := gx (fun h => (hy1 h).2) (fun h => (hn1 h).2 ▸ Ext.refl _)
  have e3 := mkw (fun h => (hy1 h).1) (fun h => (hn1 h).1)
  have k136 := k122.tr hx20
  have k137 := k123.tr hx20
  have k138 := k124.tr hx20
  have k139 := k125.tr hx20
  have k140 := k126.tr hx20
  have k141 := k127.tr hx20
  have k142 := k128.tr hx20
  have k143 := k129.tr hx20
  have k144 := k130.tr hx20
  have k145 := k131.tr hx20
  have k146 := k132.tr hx20
  have k147 := k133.tr hx20
  have k148 := k134.tr hx20
  have k149 := k135.tr hx20
  refine vl rfl rfl (xpa rfl e3 rfl) <| vl rfl rfl xas <| nl <| ?_
  cases hF
  exact wp_ret <| rt rfl (.tmp rfl rfl .nil) ⟨rfl, k136⟩
end Go.Proofs.Ytboefnpnoojfpaa
