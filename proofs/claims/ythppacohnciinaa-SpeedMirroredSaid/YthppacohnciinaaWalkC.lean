/-
  Each function of the program returns what its pure function computes, and leaves all memory that was there as it was. Condition: the pure function computes something.
-/
import Derived.Test.YthppacohnciinaaFacts
import Derived.Test.YthppacohnciinaaPureC
import Derived.Test.YthppacohnciinaaWalkB
import Derived.Test.YthppacohnciinaaManD
namespace Go.Proofs.Ythppacohnciinaa
open Go Go.Md Go.RowKit
attribute [local irreducible] Go.wpList Go.Code.wp Go.Calls Go.Md.Rnd Go.Md.Mt Go.Md.MtM Go.Md.RndM Go.Code.wpIn

set_option maxHeartbeats 4000000 in
theorem c54 {w0 : World} {v0 : Value} {x0 : (Int × (List (Int × Int × Int)))} (r0 : RV w0 v0 x0) {F : Nat} {r : ((Ob ((Int × (List (Int × Int × Int))) × (List (Int × Int × Int)))) × Int)} (hF : speed_open F x0 = some r) :
    Calls Try.prog 54 [v0].toArray w0 (Ret fun v w' => ∃ u0 : Value, v = .tuple #[u0, .int .i64 r.2] ∧ RV w' u0 r.1 ∧ Ext w0 w') := by
  unfold speed_open at hF
  have hz := id r0; obtain ⟨_, rfl, ⟨_, _, rfl, rfl, ⟨a1, cq1, rfl, p1, q2, e1⟩⟩⟩ := hz
  have r2 := RV.of1 p1 q2 e1
  refine entr (n := 18) Try.func54 rfl rfl rfl <| wp_seq <| rg <| sbx rfl rfl fun b2 w1 hx1 hg1 hb1 => ?_
  have r3 := r2.ext hx1
  have r4 := r0.ext hx1
  refine vl rfl rfl xas <| vl rfl rfl xas <| nl <| wp_seq <| wp_seq <| rg <| vl rfl rfl (xlda rfl ti24 rfl (Bx.cs hb1)) <| ?_
  have hz := bs hF; obtain ⟨x2, Ex2, hF⟩ := hz
  refine cl rfl rfl (xc cb43 (mc rfl mn)) (c43 (show RV (α := (Int × (List (Int × Int × Int)))) _ (.agg [.int .i64 x0.1, .slice a1 x0.2.length cq1].toArray) (x0.1, x0.2) from ⟨_, rfl, ⟨[.int .i64 x0.1], [.slice a1 x0.2.length cq1], rfl, rfl, r3.rep1⟩⟩) Ex2) ?_
  rintro _ w2 ⟨rfl, hx2⟩
  have k1 := hx1.tr hx2
  have hb2 := hb1.ext hx2
  have r5 := r3.ext hx2
  refine vl rfl rfl xas <| nl <| wp_seq <| rg <| vl rfl rfl xmv <| vl rfl rfl (xneq rfl rfl) <| nl <| cnd rfl (fun h2 => ?_) (fun h2 => ?_)
  ·
    have hF := ifp hF h2
    refine wp_seq <| rg <| vl rfl rfl xmv <| vl rfl rfl xas <| vl rfl rfl xas <| nl <| ?_
    cases hF
    exact wp_ret <| rt rfl (.tmp rfl rfl (.tmp rfl rfl .nil)) ⟨_, rfl, obNil, k1⟩
  ·
    have hF := ifn hF h2
    refine wp_skip <| wp_seq <| rg <| vl rfl rfl (xlda rfl ti24 rfl (Bx.cs hb2)) <| ?_
    have hz := bs hF; obtain ⟨x3, Ex3, hF⟩ := hz
    refine cl rfl rfl (xc cb67 (mc rfl mn)) (c67 (show RV (α := (Int × (List (Int × Int × Int)))) _ (.agg [.int .i64 x0.1, .slice a1 x0.2.length cq1].toArray) (x0.1, x0.2) from ⟨_, rfl, ⟨[.int .i64 x0.1], [.slice a1 x0.2.length cq1], rfl, rfl, r5.rep1⟩⟩) Ex3) ?_
    rintro _ w3 ⟨u1, rfl, r6, hx3⟩
    have k2 := k1.tr hx3
    have hz := obPtr r6; obtain ⟨a2, rfl⟩ := hz
    refine vl rfl rfl xas <| nl <| wp_seq <| wp_seq <| rg <| vl rfl rfl xmv <| ?_
    have hz := bs hF; obtain ⟨x4, Ex4, hF⟩ := hz
    have hz := obGet r6 Ex4; obtain ⟨b3, cs2, e2, q3, hc1⟩ := hz
    cases e2
    obtain ⟨_, _, rfl, ⟨_, _, rfl, rfl, ⟨a3, cq2, rfl, p2, q4, e3⟩⟩, ⟨a4, cq3, rfl, p3, q5, e4⟩⟩ := q3
    have r7 := RV.of1 p2 q4 e3
    have r8 := RV.of1 p3 q5 e4
    have hz := bs hF; obtain ⟨x5, Ex5, hF⟩ := hz
    refine cl rfl rfl (xc cb70 (mc rfl mn)) (c70 (x0 := ((x4.1.1, x4.1.2), x4.2)) hc1 ⟨[.int .i64 x4.1.1] ++ [.slice a3 x4.1.2.length cq2], [.slice a4 x4.2.length cq3], rfl, ⟨[.int .i64 x4.1.1], [.slice a3 x4.1.2.length cq2], rfl, rfl, r7.rep1⟩, r8.rep1⟩ Ex5) ?_
    rintro _ w4 ⟨u2, rfl, r9, hx4⟩
    have k3 := k2.tr hx4
    have r10 := r7.ext hx4
    have r11 := r8.ext hx4
    have hc2 := hc1.ext hx4
    have hz := RV.sl r9; obtain ⟨a5, cq4, rfl, -, -, -⟩ := hz
    refine vl rfl rfl (xlen rfl Try.underlying36) <| vl rfl rfl (xgtr rfl rfl) <| nl <| cnd rfl (fun h3 => ?_) (fun h3 => ?_)
    ·
      have hF := ifp hF h3
      refine wp_seq <| rg <| vl rfl rfl xas <| vl rfl rfl xas <| nl <| ?_
      cases hF
      exact wp_ret <| rt rfl (.tmp rfl rfl (.tmp rfl rfl .nil)) ⟨_, rfl, obNil, k3⟩
    ·
      have hF := ifn hF h3
      refine wp_skip <| wp_seq <| rg <| vl rfl rfl xmv <| vl rfl rfl xas <| vl rfl rfl xas <| nl <| ?_
      have r12 : RV w4 (.pointer (some ⟨b3, 0, none⟩)) (⟨some ((x4.1.1, x4.1.2), x4.2)⟩ : (Ob ((Int × (List (Int × Int × Int))) × (List (Int × Int × Int))))) := obNew hc2 rfl ⟨[.int .i64 x4.1.1] ++ [.slice a3 x4.1.2.length cq2], [.slice a4 x4.2.length cq3], rfl, ⟨[.int .i64 x4.1.1], [.slice a3 x4.1.2.length cq2], rfl, rfl, r10.rep1⟩, r11.rep1⟩
      cases hF
      exact wp_ret <| rt rfl (.tmp rfl rfl (.tmp rfl rfl .nil)) ⟨_, rfl, r12, k3⟩

set_option maxHeartbeats 4000000 in
theorem c44 {w0 : World} {v0 : Value} {x0 : (Int × (List (Int × Int × Int)))} (r0 : RV w0 v0 x0) {F : Nat} {r : ((List Int) × Int)} (hF : speed_Circle F x0 = some r) :
    Calls Try.prog 44 [v0].toArray w0 (Ret fun v w' => ∃ u0 : Value, v = .tuple #[u0, .int .i64 r.2] ∧ RV w' u0 r.1 ∧ Ext w0 w') := by
  unfold speed_Circle at hF
  have hz := id r0; obtain ⟨_, rfl, ⟨_, _, rfl, rfl, ⟨a1, cq1, rfl, p1, q2, e1⟩⟩⟩ := hz
  have r2 := RV.of1 p1 q2 e1
  refine entr (n := 18) Try.func44 rfl rfl rfl <| wp_seq <| rg <| sbx rfl rfl fun b2 w1 hx1 hg1 hb1 => ?_
  have r3 := r2.ext hx1
  have r4 := r0.ext hx1
  refine vl rfl rfl xas <| vl rfl rfl xas <| nl <| wp_seq <| wp_seq <| rg <| vl rfl rfl (xlda rfl ti24 rfl (Bx.cs hb1)) <| ?_
  have hz := bs hF; obtain ⟨x2, Ex2, hF⟩ := hz
  refine cl rfl rfl (xc cb43 (mc rfl mn)) (c43 (show RV (α := (Int × (List (Int × Int × Int)))) _ (.agg [.int .i64 x0.1, .slice a1 x0.2.length cq1].toArray) (x0.1, x0.2) from ⟨_, rfl, ⟨[.int .i64 x0.1], [.slice a1 x0.2.length cq1], rfl, rfl, r3.rep1⟩⟩) Ex2) ?_
  rintro _ w2 ⟨rfl, hx2⟩
  have k1 := hx1.tr hx2
  have hb2 := hb1.ext hx2
  have r5 := r3.ext hx2
  refine vl rfl rfl xas <| nl <| wp_seq <| rg <| vl rfl rfl xmv <| vl rfl rfl (xneq rfl rfl) <| nl <| cnd rfl (fun h2 => ?_) (fun h2 => ?_)
  ·
    have hF := ifp hF h2
    refine wp_seq <| rg <| vl rfl rfl xmv <| vl rfl rfl xas <| vl rfl rfl xas <| nl <| ?_
    cases hF
    exact wp_ret <| rt rfl (.tmp rfl rfl (.tmp rfl rfl .nil)) ⟨_, rfl, (RVo.nil (Nat.zero_le _)), k1⟩
  ·
    have hF := ifn hF h2
    refine wp_skip <| wp_seq <| rg <| vl rfl rfl (xlda rfl ti24 rfl (Bx.cs hb2)) <| ?_
    have hz := bs hF; obtain ⟨x3, Ex3, hF⟩ := hz
    refine cl rfl rfl (xc cb67 (mc rfl mn)) (c67 (show RV (α := (Int × (List (Int × Int × Int)))) _ (.agg [.int .i64 x0.1, .slice a1 x0.2.length cq1].toArray) (x0.1, x0.2) from ⟨_, rfl, ⟨[.int .i64 x0.1], [.slice a1 x0.2.length cq1], rfl, rfl, r5.rep1⟩⟩) Ex3) ?_
    rintro _ w3 ⟨u1, rfl, r6, hx3⟩
    have k2 := k1.tr hx3
    have hz := obPtr r6; obtain ⟨a2, rfl⟩ := hz
    have hz := bs hF; obtain ⟨x4, Ex4, hF⟩ := hz
    have hz := obGet r6 Ex4; obtain ⟨b3, cs2, e2, q3, hc1⟩ := hz
    cases e2
    obtain ⟨_, _, rfl, ⟨_, _, rfl, rfl, ⟨a3, cq2, rfl, p2, q4, e3⟩⟩, ⟨a4, cq3, rfl, p3, q5, e4⟩⟩ := q3
    have r7 := RV.of1 p2 q4 e3
    have r8 := RV.of1 p3 q5 e4
    have hz := bs hF; obtain ⟨x5, Ex5, hF⟩ := hz
    refine cl rfl rfl (xc cb70 (mc rfl mn)) (c70 (x0 := ((x4.1.1, x4.1.2), x4.2)) hc1 ⟨[.int .i64 x4.1.1] ++ [.slice a3 x4.1.2.length cq2], [.slice a4 x4.2.length cq3], rfl, ⟨[.int .i64 x4.1.1], [.slice a3 x4.1.2.length cq2], rfl, rfl, r7.rep1⟩, r8.rep1⟩ Ex5) ?_
    rintro _ w4 ⟨u2, rfl, r9, hx4⟩
    have k3 := k2.tr hx4
    have hz := RV.sl r9; obtain ⟨a5, cq4, rfl, -, -, -⟩ := hz
    refine vl rfl rfl xas <| nl <| wp_seq <| wp_seq <| rg <| vl rfl rfl xmv <| vl rfl rfl (xlen rfl Try.underlying36) <| vl rfl rfl (xeql rfl rfl) <| nl <| cnd rfl (fun h3 => ?_) (fun h3 => ?_)
    ·
      have hF := ifp hF h3
      refine wp_seq <| rg <| vl rfl rfl xas <| vl rfl rfl xas <| nl <| ?_
      cases hF
      exact wp_ret <| rt rfl (.tmp rfl rfl (.tmp rfl rfl .nil)) ⟨_, rfl, (RVo.nil (Nat.zero_le _)), k3⟩
    ·
      have hF := ifn hF h3
      refine wp_skip <| wp_seq <| rg <| vl rfl rfl xmv <| vl rfl rfl xas <| vl rfl rfl xas <| nl <| ?_
      cases hF
      exact wp_ret <| rt rfl (.tmp rfl rfl (.tmp rfl rfl .nil)) ⟨_, rfl, r9, k3⟩

set_option maxHeartbeats 4000000 in
theorem c57 {w0 : World} {x0 : Int} {b1 : Nat} {cs1 : List Value} {x1 : (Ob ((Int × (List (Int × Int × Int))) × (List (Int × Int × Int))))} (h1 : Cs w0 b1 0 cs1) (q1 : Enc.rep (fun _ => True) w0 cs1 x1) {F : Nat} {r : Int} (hF : speed_Ends_2 F x0 x1 = some r) :
    Calls Try.prog 57 [.int .i64 x0, .pointer (some ⟨b1, 0, none⟩)].toArray w0 (Ret fun v w' => v = .int .i64 r ∧ Ext w0 w') := by
  unfold speed_Ends_2 at hF
  have q3 := q1
  have hz := obRep q3; obtain ⟨a1, rfl, r3⟩ := hz
  refine entr (n := 15) Try.func57 rfl rfl rfl <| wp_seq <| rg <| vl rfl rfl xas <| nl <| wp_seq <| rg <| vl rfl rfl (xld rfl ti79 (h1.at 0 rfl)) <| vl rfl rfl xmv <| ?_
  have hz := bs hF; obtain ⟨x3, Ex3, hF⟩ := hz
  have hz := obGet r3 Ex3; obtain ⟨b3, cs3, e1, q4, hc1⟩ := hz
  cases e1
  obtain ⟨_, _, rfl, ⟨_, _, rfl, rfl, ⟨a2, cq1, rfl, p1, q5, e2⟩⟩, ⟨a3, cq2, rfl, p2, q6, e3⟩⟩ := q4
  have r4 := RV.of1 p1 q5 e2
  have r5 := RV.of1 p2 q6 e3
  have hz := bs hF; obtain ⟨x4, Ex4, hF⟩ := hz
  refine cl rfl rfl (xc cb55 (mc rfl (mc rfl mn))) (c55 (x0 := ((x3.1.1, x3.1.2), x3.2)) hc1 ⟨[.int .i64 x3.1.1] ++ [.slice a2 x3.1.2.length cq1], [.slice a3 x3.2.length cq2], rfl, ⟨[.int .i64 x3.1.1], [.slice a2 x3.1.2.length cq1], rfl, rfl, r4.rep1⟩, r5.rep1⟩ Ex4) ?_
  rintro _ w1 ⟨u1, u2, rfl, r6, r7, hx1⟩
  have hz := id r6; obtain ⟨_, rfl, rfl⟩ := hz
  refine vl rfl rfl xmv <| vl rfl rfl (xext rfl rfl) <| vl rfl rfl (xext rfl rfl) <| sal ti83 fun b4 w2 hx2 hg1 hb1 => ?_
  have k1 := hx1.tr hx2
  have r8 := r6.ext hx2
  have hb2 : Bx w2 b4 83 (List.flatMap Flat.enc ((Ar.fill 21 0 : (Ar 21 Int))).l) := hb1
  refine sstw rfl rfl ti83 hb2 (arlen _) (arlen _) (flat_one _) fun w3 hch1 hb3 => ?_
  have k2 := Ext.chg k1 hch1 (Nat.le_trans hx1.size hg1)
  have k3 := Ext.chg hx2 hch1 (Nat.le_trans (Nat.le_refl _) hg1)
  have hb4 : Bx w3 b4 83 (List.flatMap Flat.enc x4.1.l) := hb3
  refine vl rfl rfl xas <| nl <| wp_seq <| rg <| ?_
  have hz := bs hF; obtain ⟨x5, Ex5, hF⟩ := hz
  have hz := ixar (Bx.cs hb4) Ex5; obtain ⟨i1, i2, hc2⟩ := hz
  refine vl rfl rfl (xixa rfl rfl Try.underlying83 ti2 i1 i2) <| vl rfl rfl (xld rfl ti2 (hc2.at 0 rfl)) <| vl rfl rfl (xneg rfl) <| vl rfl rfl xas <| nl <| ?_
  cases hF
  exact wp_ret <| rt rfl (.tmp rfl rfl .nil) ⟨rfl, k2⟩

set_option maxHeartbeats 4000000 in
theorem c16 {w0 : World} {v0 : Value} {x0 : (Int × (List (Int × Int × Int)))} (r0 : RV w0 v0 x0) {x1 : Int} {F : Nat} {r : ((Int × Int) × Int)} (hF : speed_Span F x0 x1 = some r) :
    Calls Try.prog 16 [v0, .int .i64 x1].toArray w0 (Ret fun v w' => ∃ u0 : Value, v = .tuple #[u0, .int .i64 r.2] ∧ RV w' u0 r.1 ∧ Ext w0 w') := by
  unfold speed_Span at hF
  have hz := id r0; obtain ⟨_, rfl, ⟨_, _, rfl, rfl, ⟨a1, cq1, rfl, p1, q3, e1⟩⟩⟩ := hz
  have r3 := RV.of1 p1 q3 e1
  refine entr (n := 54) Try.func16 rfl rfl rfl <| wp_seq <| rg <| sbx rfl rfl fun b3 w1 hx1 hg1 hb1 => ?_
  have r4 := r3.ext hx1
  have r5 := r0.ext hx1
  refine sal ti28 fun b4 w2 hx2 hg2 hb2 => ?_
  have k1 := hx1.tr hx2
  have hb3 := hb1.ext hx2
  have r6 := r4.ext hx2
  refine vl rfl rfl xas <| nl <| wp_seq <| rg <| vl rfl rfl (xlda rfl ti24 rfl (Bx.cs hb3)) <| ?_
  have hz := bs hF; obtain ⟨x3, Ex3, hF⟩ := hz
  refine cl rfl rfl (xc cb43 (mc rfl mn)) (c43 (show RV (α := (Int × (List (Int × Int × Int)))) _ (.agg [.int .i64 x0.1, .slice a1 x0.2.length cq1].toArray) (x0.1, x0.2) from ⟨_, rfl, ⟨[.int .i64 x0.1], [.slice a1 x0.2.length cq1], rfl, rfl, r6.rep1⟩⟩) Ex3) ?_
  rintro _ w3 ⟨rfl, hx3⟩
  have k2 := k1.tr hx3
  have k3 := hx2.tr hx3
  have hb4 := hb3.ext hx3
  have r7 := r6.ext hx3
  have hb5 := hb2.ext hx3
  refine vl rfl rfl xas <| nl <| wp_seq <| wp_block <| wp_seq <| rg <| vl rfl rfl xmv <| vl rfl rfl (xneq rfl rfl) <| vl rfl rfl xas <| nl <| cnd rfl (fun h3 => ?_) (fun h3 => ?_)
  ·
    have hF := ifp hF h3
    refine wp_seq <| rg <| vl rfl rfl (xbdv (r := [.int .i64 0, .int .i64 0]) ti28 sp28 pn rfl) <| vl rfl rfl xmv <| sst rfl rfl rfl ti28 hb5 rfl rfl (ble rfl) fun w4 hch1 hb6 => ?_
    have k4 := Ext.chg k2 hch1 (Nat.le_trans hx1.size hg2)
    have k5 := Ext.chg k3 hch1 (Nat.le_trans (Nat.le_refl _) hg2)
    have hb7 : Bx w4 b4 28 [.int .i64 0, .int .i64 0] := hb6
    refine vl rfl rfl xas <| nl <| ?_
    cases hF
    exact wp_ret <| rt rfl (.cell rfl rfl ti28 rfl (Bx.cs hb7) (.tmp rfl rfl .nil)) ⟨_, rfl, (show RV (α := (Int × Int)) _ (.agg [.int .i64 0, .int .i64 0].toArray) (0, 0) from ⟨_, rfl, ⟨[.int .i64 0], [.int .i64 0], rfl, rfl, rfl⟩⟩), k4⟩
  ·
    have hF := ifn hF h3
    refine wp_seq <| rg <| vl rfl rfl (xfa rfl fa24_0) <| vl rfl rfl (xld rfl ti3 ((Bx.cs hb4).at 0 rfl)) <| vl rfl rfl xmv <| sbsv (cs := [.int .i64 x1]) Try.underlying36 ti3 rfl (pc rfl pn) rfl rfl rfl rfl rfl fun b5 w5 hx4 hg3 hb8 => ?_
    have k6 := k2.tr hx4
    have k7 := k3.tr hx4
    have hb9 := hb4.ext hx4
    have r8 := r7.ext hx4
    have hb10 := hb5.ext hx4
    have o1 : Row (α := Int) 3 w3.heap.size w5 (.slice (some ⟨b5, 0, none⟩) 1 1) [x1] := Row.lit hg3 hb8 rfl (ble rfl)
    have hz := bs hF; obtain ⟨x4, Ex4, hF⟩ := hz
    refine cl rfl rfl (xc cb53 (mc rfl (mc rfl (mc rfl mn)))) (c53 o1.rv Ex4) ?_
    rintro _ w6 ⟨rfl, hx5⟩
    have k8 := k6.tr hx5
    have k9 := k7.tr hx5
    have k10 := hx4.tr hx5
    have hb11 := hb9.ext hx5
    have r10 := r8.ext hx5
    have hb12 := hb10.ext hx5
    refine vl rfl rfl (xnot rfl) <| vl rfl rfl xas <| nl <| cnd rfl (fun h4 => ?_) (fun h4 => ?_)
    ·
      have hF := ifp hF h4
      refine wp_seq <| rg <| vl rfl rfl (xbdv (r := [.int .i64 0, .int .i64 0]) ti28 sp28 pn rfl) <| sst rfl rfl rfl ti28 hb12 rfl rfl (ble rfl) fun w7 hch2 hb13 => ?_
      have k11 := Ext.chg k8 hch2 (Nat.le_trans hx1.size hg2)
      have k12 := Ext.chg k9 hch2 (Nat.le_trans (Nat.le_refl _) hg2)
      have hb14 : Bx w7 b4 28 [.int .i64 0, .int .i64 0] := hb13
      refine vl rfl rfl xas <| nl <| ?_
      cases hF
      exact wp_ret <| rt rfl (.cell rfl rfl ti28 rfl (Bx.cs hb14) (.tmp rfl rfl .nil)) ⟨_, rfl, (show RV (α := (Int × Int)) _ (.agg [.int .i64 0, .int .i64 0].toArray) (0, 0) from ⟨_, rfl, ⟨[.int .i64 0], [.int .i64 0], rfl, rfl, rfl⟩⟩), k11⟩
    ·
      have hF := ifn hF h4
      refine wp_skip <| wp_seq <| rg <| vl rfl rfl (xlda rfl ti24 rfl (Bx.cs hb11)) <| ?_
      have hz := bs hF; obtain ⟨x5, Ex5, hF⟩ := hz
      refine cl rfl rfl (xc cb54 (mc rfl mn)) (c54 (show RV (α := (Int × (List (Int × Int × Int)))) _ (.agg [.int .i64 x0.1, .slice a1 x0.2.length cq1].toArray) (x0.1, x0.2) from ⟨_, rfl, ⟨[.int .i64 x0.1], [.slice a1 x0.2.length cq1], rfl, rfl, r10.rep1⟩⟩) Ex5) ?_
      rintro _ w8 ⟨u1, rfl, r11, hx6⟩
      have k13 := k8.tr hx6
      have k14 := k9.tr hx6
      have k15 := k10.tr hx6
      have hb15 := hb12.ext hx6
      have hz := obPtr r11; obtain ⟨a2, rfl⟩ := hz
      refine vl rfl rfl xmv <| vl rfl rfl (xext rfl rfl) <| vl rfl rfl (xext rfl rfl) <| vl rfl rfl xas <| vl rfl rfl xas <| nl <| wp_seq <| wp_seq <| rg <| vl rfl rfl xmv <| vl rfl rfl (xneq rfl rfl) <| nl <| cnd rfl (fun h5 => ?_) (fun h5 => ?_)
      ·
        have hF := ifp hF h5
        refine wp_seq <| rg <| vl rfl rfl (xbdv (r := [.int .i64 0, .int .i64 0]) ti28 sp28 pn rfl) <| vl rfl rfl xmv <| sst rfl rfl rfl ti28 hb15 rfl rfl (ble rfl) fun w9 hch3 hb16 => ?_
        have k16 := Ext.chg k13 hch3 (Nat.le_trans hx1.size hg2)
        have k17 := Ext.chg k14 hch3 (Nat.le_trans (Nat.le_refl _) hg2)
        have hb17 : Bx w9 b4 28 [.int .i64 0, .int .i64 0] := hb16
        refine vl rfl rfl xas <| nl <| ?_
        cases hF
        exact wp_ret <| rt rfl (.cell rfl rfl ti28 rfl (Bx.cs hb17) (.tmp rfl rfl .nil)) ⟨_, rfl, (show RV (α := (Int × Int)) _ (.agg [.int .i64 0, .int .i64 0].toArray) (0, 0) from ⟨_, rfl, ⟨[.int .i64 0], [.int .i64 0], rfl, rfl, rfl⟩⟩), k16⟩
      ·
        have hF := ifn hF h5
        refine wp_skip <| wp_seq <| rg <| vl rfl rfl xmv <| ?_
        have hz := bs hF; obtain ⟨x6, Ex6, hF⟩ := hz
        have hz := obGet r11 Ex6; obtain ⟨b6, cs3, e2, q4, hc1⟩ := hz
        cases e2
        obtain ⟨_, _, rfl, ⟨_, _, rfl, rfl, ⟨a3, cq2, rfl, p2, q5, e3⟩⟩, ⟨a4, cq3, rfl, p3, q6, e4⟩⟩ := q4
        have r12 := RV.of1 p2 q5 e3
        have r13 := RV.of1 p3 q6 e4
        have hz := bs hF; obtain ⟨x7, Ex7, hF⟩ := hz
        refine cl rfl rfl (xc cb55 (mc rfl (mc rfl mn))) (c55 (x0 := ((x6.1.1, x6.1.2), x6.2)) hc1 ⟨[.int .i64 x6.1.1] ++ [.slice a3 x6.1.2.length cq2], [.slice a4 x6.2.length cq3], rfl, ⟨[.int .i64 x6.1.1], [.slice a3 x6.1.2.length cq2], rfl, rfl, r12.rep1⟩, r13.rep1⟩ Ex7) ?_
        rintro _ w10 ⟨u2, u3, rfl, r14, r15, hx7⟩
        have k18 := k13.tr hx7
        have k19 := k14.tr hx7
        have k20 := k15.tr hx7
        have hb18 := hb15.ext hx7
        have r16 := r12.ext hx7
        have r17 := r13.ext hx7
        have hc2 := hc1.ext hx7
        have hz := id r14; obtain ⟨_, rfl, rfl⟩ := hz
        refine vl rfl rfl xmv <| vl rfl rfl (xext rfl rfl) <| vl rfl rfl (xext rfl rfl) <| sal ti83 fun b7 w11 hx8 hg4 hb19 => ?_
        have k21 := k18.tr hx8
        have k22 := k19.tr hx8
        have k23 := k20.tr hx8
        have hb20 := hb18.ext hx8
        have r18 := r16.ext hx8
        have r19 := r17.ext hx8
        have hc3 := hc2.ext hx8
        have r20 := r14.ext hx8
        have hb21 : Bx w11 b7 83 (List.flatMap Flat.enc ((Ar.fill 21 0 : (Ar 21 Int))).l) := hb19
        refine sstw rfl rfl ti83 hb21 (arlen _) (arlen _) (flat_one _) fun w12 hch4 hb22 => ?_
        have k24 := Ext.chg k21 hch4 (Nat.le_trans k18.size hg4)
        have k25 := Ext.chg k22 hch4 (Nat.le_trans k19.size hg4)
        have k26 := Ext.chg k23 hch4 (Nat.le_trans k20.size hg4)
        have k27 := Ext.chg hx8 hch4 (Nat.le_trans (Nat.le_refl _) hg4)
        have hb23 := hb18.ext k27
        have r21 := r16.ext k27
        have r22 := r17.ext k27
        have hc4 := hc2.ext k27
        have hb24 : Bx w12 b7 83 (List.flatMap Flat.enc x7.1.l) := hb22
        refine vl rfl rfl xas <| nl <| wp_seq <| rg <| vl rfl rfl xmv <| vl rfl rfl xmv <| ?_
        have hz := bs hF; obtain ⟨x8, Ex8, hF⟩ := hz
        refine cl rfl rfl (xc cb55 (mc rfl (mc rfl mn))) (c55 (x0 := ((x6.1.1, x6.1.2), x6.2)) hc4 ⟨[.int .i64 x6.1.1] ++ [.slice a3 x6.1.2.length cq2], [.slice a4 x6.2.length cq3], rfl, ⟨[.int .i64 x6.1.1], [.slice a3 x6.1.2.length cq2], rfl, rfl, r21.rep1⟩, r22.rep1⟩ Ex8) ?_
        rintro _ w13 ⟨u4, u5, rfl, r23, r24, hx9⟩
        have k28 := k24.tr hx9
        have k29 := k25.tr hx9
        have k30 := k26.tr hx9
        have k31 := k27.tr hx9
        have hb25 := hb23.ext hx9
        have hb26 := hb24.ext hx9
        have hz := id r23; obtain ⟨_, rfl, rfl⟩ := hz
        refine vl rfl rfl xmv <| vl rfl rfl (xext rfl rfl) <| vl rfl rfl (xext rfl rfl) <| sal ti83 fun b8 w14 hx10 hg5 hb27 => ?_
        have k32 := k28.tr hx10
        have k33 := k29.tr hx10
        have k34 := k30.tr hx10
        have k35 := k31.tr hx10
        have hb28 := hb25.ext hx10
        have hb29 := hb26.ext hx10
        have r25 := r23.ext hx10
        have hb30 : Bx w14 b8 83 (List.flatMap Flat.enc ((Ar.fill 21 0 : (Ar 21 Int))).l) := hb27
        refine sstw rfl rfl ti83 hb30 (arlen _) (arlen _) (flat_one _) fun w15 hch5 hb31 => ?_
        have k36 := Ext.chg k32 hch5 (Nat.le_trans k28.size hg5)
        have k37 := Ext.chg k33 hch5 (Nat.le_trans k29.size hg5)
        have k38 := Ext.chg k34 hch5 (Nat.le_trans k30.size hg5)
        have k39 := Ext.chg k35 hch5 (Nat.le_trans k31.size hg5)
        have k40 := Ext.chg hx10 hch5 (Nat.le_trans (Nat.le_refl _) hg5)
        have hb32 := hb25.ext k40
        have hb33 := hb26.ext k40
        have hb34 : Bx w15 b8 83 (List.flatMap Flat.enc x8.1.l) := hb31
        refine vl rfl rfl xas <| nl <| wp_seq <| wpl [7] (.pure true 0 (.pure false 1 (.pure true 2 (.pure true 3 (.pure true 4 (.pure false 5 (.pure true 6 (.eff 7 (.pure true 8 .fin) .stop)))))))) mixed (by kernel_rfl) (fun w16 hx11 => ?_)
        have k41 := k36.tr hx11
        have k42 := k37.tr hx11
        have k43 := k38.tr hx11
        have k44 := k39.tr hx11
        have k45 := k40.tr hx11
        have hb35 := hb32.ext hx11
        have hb36 := hb33.ext hx11
        have hb37 := hb34.ext hx11
        have hz := bs hF; obtain ⟨x9, Ex9, hF⟩ := hz
        have hz := ixar (Bx.cs hb37) Ex9; obtain ⟨i1, i2, hc5⟩ := hz
        refine pv rfl rfl rfl (fun _ _ => xixa rfl rfl Try.underlying83 ti2 i1 i2) (.inl rfl) <| pv rfl rfl rfl (fun _ hS => xld rfl ti2 ((hc5.ext (hS.resolve_left nofun)).at 0 rfl)) (.inr (Ext.refl _)) <| pv rfl rfl rfl (fun _ _ => xneg rfl) (.inl rfl) <| pv rfl rfl rfl (fun _ _ => xmv) (.inl rfl) <| ?_
        have hz := bs hF; obtain ⟨x10, Ex10, hF⟩ := hz
        have hz := ixar (Bx.cs hb36) Ex10; obtain ⟨i3, i4, hc6⟩ := hz
        refine pv rfl rfl rfl (fun _ _ => xixa rfl rfl Try.underlying83 ti2 i3 i4) (.inl rfl) <| pv rfl rfl rfl (fun _ hS => xld rfl ti2 ((hc6.ext (hS.resolve_left nofun)).at 0 rfl)) (.inr (Ext.refl _)) <| pv rfl rfl rfl (fun _ _ => xbdv (r := [.int .i64 (w64 (0 - x9)), .int .i64 x10]) ti28 sp28 (pc rfl (pc rfl pn)) rfl) (.inl rfl) <| pe1 rfl <| sst rfl rfl rfl ti28 hb35 rfl rfl (ble rfl) fun w17 hch6 hb38 => ?_
        have k46 := Ext.chg k41 hch6 (Nat.le_trans hx1.size hg2)
        have k47 := Ext.chg k42 hch6 (Nat.le_trans (Nat.le_refl _) hg2)
        have hb39 : Bx w17 b4 28 [.int .i64 (w64 (0 - x9)), .int .i64 x10] := hb38
        refine nl ⟨fun h => (h (by decide)).elim, ?_⟩
        refine pv rfl rfl rfl (fun _ _ => xas) (.inl rfl) <| ?_
        cases hF
        exact wp_ret <| rt rfl (.cell rfl rfl ti28 rfl (Bx.cs hb39) (.tmp rfl rfl .nil)) ⟨_, rfl, (show RV (α := (Int × Int)) _ (.agg [.int .i64 (w64 (0 - x9)), .int .i64 x10].toArray) (w64 (0 - x9), x10) from ⟨_, rfl, ⟨[.int .i64 (w64 (0 - x9))], [.int .i64 x10], rfl, rfl, rfl⟩⟩), k46⟩

set_option maxHeartbeats 4000000 in
theorem c18 {w0 : World} {v0 : Value} {x0 : (Int × (List (Int × Int × Int)))} (r0 : RV w0 v0 x0) {x1 : Bool} {F : Nat} {r : ((List Int) × Int)} (hF : speed_Ends F x0 x1 = some r) :
    Calls Try.prog 18 [v0, .bool x1].toArray w0 (Ret fun v w' => ∃ u0 : Value, v = .tuple #[u0, .int .i64 r.2] ∧ RV w' u0 r.1 ∧ Ext w0 w') := by
  unfold speed_Ends at hF
  have hz := id r0; obtain ⟨_, rfl, ⟨_, _, rfl, rfl, ⟨a1, cq1, rfl, p1, q3, e1⟩⟩⟩ := hz
  have r3 := RV.of1 p1 q3 e1
  refine entr (n := 49) Try.func18 rfl rfl rfl <| wp_seq <| rg <| sbx rfl rfl fun b3 w1 hx1 hg1 hb1 => ?_
  have r4 := r3.ext hx1
  have r5 := r0.ext hx1
  refine vl rfl rfl xas <| vl rfl rfl xas <| nl <| wp_seq <| rg <| vl rfl rfl (xlda rfl ti24 rfl (Bx.cs hb1)) <| ?_
  have hz := bs hF; obtain ⟨x3, Ex3, hF⟩ := hz
  refine cl rfl rfl (xc cb54 (mc rfl mn)) (c54 (show RV (α := (Int × (List (Int × Int × Int)))) _ (.agg [.int .i64 x0.1, .slice a1 x0.2.length cq1].toArray) (x0.1, x0.2) from ⟨_, rfl, ⟨[.int .i64 x0.1], [.slice a1 x0.2.length cq1], rfl, rfl, r4.rep1⟩⟩) Ex3) ?_
  rintro _ w2 ⟨u1, rfl, r6, hx2⟩
  have k1 := hx1.tr hx2
  have hb2 := hb1.ext hx2
  have r7 := r4.ext hx2
  have hz := obPtr r6; obtain ⟨a2, rfl⟩ := hz
  refine vl rfl rfl xmv <| vl rfl rfl (xext rfl rfl) <| vl rfl rfl (xext rfl rfl) <| sal ti79 fun b4 w3 hx3 hg2 hb3 => ?_
  have k2 := k1.tr hx3
  have hb4 := hb2.ext hx3
  have r8 := r7.ext hx3
  have r9 := r6.ext hx3
  refine sst rfl rfl rfl ti79 hb3 rfl rfl (ble rfl) fun w4 hch1 hb5 => ?_
  have k3 := Ext.chg k2 hch1 (Nat.le_trans k1.size hg2)
  have k4 := Ext.chg hx3 hch1 (Nat.le_trans (Nat.le_refl _) hg2)
  have hb6 := hb2.ext k4
  have r10 := r7.ext k4
  have r11 := r6.ext k4
  have hb7 : Bx w4 b4 79 [.pointer a2] := hb5
  refine vl rfl rfl xas <| nl <| wp_seq <| wp_seq <| rg <| vl rfl rfl xmv <| vl rfl rfl (xneq rfl rfl) <| nl <| cnd rfl (fun h3 => ?_) (fun h3 => ?_)
  ·
    have hF := ifp hF h3
    refine wp_seq <| rg <| vl rfl rfl xmv <| vl rfl rfl xas <| vl rfl rfl xas <| nl <| ?_
    cases hF
    exact wp_ret <| rt rfl (.tmp rfl rfl (.tmp rfl rfl .nil)) ⟨_, rfl, (RVo.nil (Nat.zero_le _)), k3⟩
  ·
    have hF := ifn hF h3
    refine wp_skip <| wp_seq <| rg <| vl rfl rfl (xld rfl ti79 ((Bx.cs hb7).at 0 rfl)) <| ?_
    have hz := bs hF; obtain ⟨x4, Ex4, hF⟩ := hz
    have hz := obGet r6 Ex4; obtain ⟨b5, cs3, e2, q4, hc1⟩ := hz
    cases e2
    obtain ⟨_, _, rfl, ⟨_, _, rfl, rfl, ⟨a3, cq2, rfl, p2, q5, e3⟩⟩, ⟨a4, cq3, rfl, p3, q6, e4⟩⟩ := q4
    have r12 := RV.of1 p2 q5 e3
    have r13 := RV.of1 p3 q6 e4
    have hc2 := hc1.ext k4
    have r14 := r12.ext k4
    have r15 := r13.ext k4
    have hz := bs hF; obtain ⟨x5, Ex5, hF⟩ := hz
    refine cl rfl rfl (xc cb55 (mc rfl (mc rfl mn))) (c55 (x0 := ((x4.1.1, x4.1.2), x4.2)) hc2 ⟨[.int .i64 x4.1.1] ++ [.slice a3 x4.1.2.length cq2], [.slice a4 x4.2.length cq3], rfl, ⟨[.int .i64 x4.1.1], [.slice a3 x4.1.2.length cq2], rfl, rfl, r14.rep1⟩, r15.rep1⟩ Ex5) ?_
    rintro _ w5 ⟨u2, u3, rfl, r16, r17, hx4⟩
    have k5 := k3.tr hx4
    have k6 := k4.tr hx4
    have hb8 := hb6.ext hx4
    have r18 := r10.ext hx4
    have hb9 := hb7.ext hx4
    have r19 := r14.ext hx4
    have r20 := r15.ext hx4
    have hc3 := hc2.ext hx4
    have hz := id r16; obtain ⟨_, rfl, rfl⟩ := hz
    refine vl rfl rfl xmv <| vl rfl rfl (xext rfl rfl) <| vl rfl rfl (xext rfl rfl) <| sal ti83 fun b6 w6 hx5 hg3 hb10 => ?_
    have k7 := k5.tr hx5
    have k8 := k6.tr hx5
    have hb11 := hb8.ext hx5
    have r21 := r18.ext hx5
    have hb12 := hb9.ext hx5
    have r22 := r19.ext hx5
    have r23 := r20.ext hx5
    have hc4 := hc3.ext hx5
    have r24 := r16.ext hx5
    have hb13 : Bx w6 b6 83 (List.flatMap Flat.enc ((Ar.fill 21 0 : (Ar 21 Int))).l) := hb10
    refine sstw rfl rfl ti83 hb13 (arlen _) (arlen _) (flat_one _) fun w7 hch2 hb14 => ?_
    have k9 := Ext.chg k7 hch2 (Nat.le_trans k5.size hg3)
    have k10 := Ext.chg k8 hch2 (Nat.le_trans k6.size hg3)
    have k11 := Ext.chg hx5 hch2 (Nat.le_trans (Nat.le_refl _) hg3)
    have hb15 := hb8.ext k11
    have r25 := r18.ext k11
    have hb16 := hb9.ext k11
    have r26 := r19.ext k11
    have r27 := r20.ext k11
    have hc5 := hc3.ext k11
    have hb17 : Bx w7 b6 83 (List.flatMap Flat.enc x5.1.l) := hb14
    refine vl rfl rfl xas <| nl <| wp_seq <| rg <| vl rfl rfl (xmf mn (mc rfl mn)) <| vl rfl rfl xas <| nl <| wp_seq <| wp_seq <| rg <| vl rfl rfl xmv <| vl rfl rfl (xnot rfl) <| nl <| ?_
    have hz := bs hF; obtain ⟨y1, hB1, hF⟩ := hz
    refine ct (fun L w => ∃ v3 : Value, L 10 = v3 ∧ FnI Try.prog Int w v3 y1 ∧ L 2 = .pointer (some ⟨b3, 0, none⟩) ∧ Ext w7 w) ?_ ?_
    ·
      refine cnd rfl (fun h4 => ?_) (fun h4 => ?_)
      ·
        have hB1 := ifp hB1 h4
        refine rg <| vl rfl rfl (xmf mn (mc rfl mn)) <| vl rfl rfl xas <| nl <| ?_
        cases hB1
        refine lf <| ?_
        exact ⟨_, rfl, ⟨57, [], [.pointer (some ⟨b4, 0, none⟩)], rfl, cb57, fun w' u x b hk hu hp => by cases RVo.int.1 hu; exact c57 (Bx.cs (hb16.ext hk)) (obRep1 (obNew (hc5.ext hk) rfl ⟨[.int .i64 x4.1.1] ++ [.slice a3 x4.1.2.length cq2], [.slice a4 x4.2.length cq3], rfl, ⟨[.int .i64 x4.1.1], [.slice a3 x4.1.2.length cq2], rfl, rfl, (r26.ext hk).rep1⟩, (r27.ext hk).rep1⟩)) hp⟩, rfl, (Ext.refl _)⟩
      ·
        have hB1 := ifn hB1 h4
        refine wp_skip <| ?_
        cases hB1
        refine lf <| ?_
        exact ⟨_, rfl, ⟨56, [], [.pointer (some ⟨b6, 0, none⟩)], rfl, cb56, fun w' u x b hk hu hp => by cases RVo.int.1 hu; exact c56 (Bx.cs (hb17.ext hk)) rfl hp⟩, rfl, (Ext.refl _)⟩
    rintro L w8 ⟨v3, l10_j1, R10_j1, l2_j1, K0_j1⟩
    have k12 := k9.tr K0_j1
    have k13 := k10.tr K0_j1
    have k14 := k11.tr K0_j1
    have r28 := r25.ext K0_j1
    have hb18 := hb15.ext K0_j1
    refine wp_seq <| rg <| vl rfl rfl xas <| nl <| wp_seq <| wp_seq <| rg <| vl rfl rfl (xfa l2_j1 fa24_0) <| vl rfl rfl (xld rfl ti3 ((Bx.cs hb18).at 0 rfl)) <| vl rfl rfl xmv <| nl <| ?_
    have o1 : Row (α := Int) 2 w8.heap.size w8 (.slice none 0 0) [] := Row.nil
    have hz := bs hF; obtain ⟨z1, hB4, hF⟩ := hz
    refine ct (fun L w => ∃ v5 : Value, L 11 = v5 ∧ Row 2 w8.heap.size w v5 z1 ∧ Ext w8 w) ?_ ?_
    ·
      refine wp_block <| lp (I := fun m L w => ∃ y2 : (List Int), ∃ y3 : Int, ∃ v4 : Value, speed_Ends_l1 F x0 y1 m y2 y3  = some z1 ∧ L 11 = v4 ∧ Row 2 w8.heap.size w v4 y2 ∧ L 32 = .int .i64 y3 ∧ L 10 = v3 ∧ L 31 = .int .i64 x0.1 ∧ Ext w8 w) F ⟨_, _, _, hB4, rfl, o1, rfl, l10_j1, rfl, (Ext.refl _)⟩ ?_
      rintro m L w9 ⟨y2, y3, v4, hB4, l11_i1, O11_i1, l32_i1, l10_i1, l31_i1, K0_i1⟩
      rcases m with _ | m
      · rw [speed_Ends_l1] at hB4; cases hB4
      rw [speed_Ends_l1] at hB4
      have k15 := k12.tr K0_i1
      have k16 := k13.tr K0_i1
      have k17 := k14.tr K0_i1
      have k18 := K0_j1.tr K0_i1
      have R1 := R10_j1.ext K0_i1
      have hz := RV.sl O11_i1.rv; obtain ⟨a5, cq4, rfl, -, -, -⟩ := hz
      refine wp_seq <| rg <| vl rfl rfl (xlss l32_i1 l31_i1) <| nl <| wp_seq <| cnd rfl (fun h5 => ?_) (fun h5 => ?_)
      ·
        have hB4 := ifp hB4 h5
        refine wp_skip <| wp_seq <| wp_block <| wp_seq <| rg <| vl rfl rfl xmv <| vl rfl rfl xas <| nl <| wpl [] (.pure true 0 (.pure true 1 (.pure false 2 (.pure true 3 (.pure false 4 (.pure true 5 (.pure true 6 (.pure true 7 (.pure true 8 (.eff 9 (.eff 10 (.eff 11 (.pure true 12 .fin) .stop) .stop) .stop)))))))))) mixed (by kernel_rfl) (fun w10 hx6 => ?_)
        have k19 := k15.tr hx6
        have k20 := k16.tr hx6
        have k21 := k17.tr hx6
        have k22 := k18.tr hx6
        have k23 := K0_i1.tr hx6
        have R2 := R1.ext hx6
        have O1 := O11_i1.ext hx6
        refine pv rfl rfl rfl (fun _ _ => xmv) (.inl rfl) <| pv rfl rfl rfl (fun _ _ => xmv) (.inl rfl) <| pv rfl rfl rfl (fun _ hS => xlen l11_i1 Try.underlying32) (.inr (Ext.refl _)) <| pv rfl rfl rfl (fun _ _ => xmv) (.inl rfl) <| pv rfl rfl rfl (fun _ hS => xlen l11_i1 Try.underlying32) (.inr (Ext.refl _)) <| ?_
        have r29 := RV.full O1.rv
        refine pv rfl rfl rfl (fun _ _ => xslf l11_i1 (RV.cap O1.rv).2.1 Try.underlying32 ti2 rfl rfl) (.inl rfl) <| pv rfl rfl rfl (fun _ _ => xmv) (.inl rfl) <| pv rfl rfl rfl (fun _ _ => xmv) (.inl rfl) <| pv rfl rfl rfl (fun _ _ => xadd l32_i1 rfl) (.inl rfl) <| ?_
        have hz := bs hB4; obtain ⟨x6, Ex6, hB4⟩ := hz
        have hz := id R2; obtain ⟨g1, fs1, cs4, e5, hg4, hu1⟩ := hz
        refine pe1 rfl <| cl rfl rfl (xcv (l10_i1.trans e5) hg4 (mc rfl mn) rfl) (hu1 _ _ _ _ (Ext.refl _) (RVo.int.2 rfl) Ex6) ?_
        rintro _ w11 ⟨rfl, hx7⟩
        have k24 := k19.tr hx7
        have k25 := k20.tr hx7
        have k26 := k21.tr hx7
        have k27 := k22.tr hx7
        have k28 := k23.tr hx7
        have R3 := R2.ext hx7
        have r30 := r29.ext hx7
        refine nl ⟨fun _ _ => hx7, ?_⟩
        refine pe1 rfl <| sbsv (cs := [.int .i64 x6]) Try.underlying32 ti2 rfl (pc rfl pn) rfl rfl rfl rfl rfl fun b7 w12 hx8 hg5 hb19 => ?_
        have k29 := k24.tr hx8
        have k30 := k25.tr hx8
        have k31 := k26.tr hx8
        have k32 := k27.tr hx8
        have k33 := k28.tr hx8
        have k34 := hx7.tr hx8
        have R4 := R3.ext hx8
        have r31 := r30.ext hx8
        have o3 : Row (α := Int) 2 w11.heap.size w12 (.slice (some ⟨b7, 0, none⟩) 1 1) [x6] := Row.lit hg5 hb19 rfl (ble rfl)
        refine nl ⟨fun _ _ => k34, ?_⟩
        have hz := bs hB4; obtain ⟨x7, Ex7, hB4⟩ := hz
        refine pe1 rfl <| sapf (l := y2) (k := ([x6] : List Int)) rfl rfl Try.underlying32 ti2 rfl rfl r31 o3.rv rfl Ex7 fun v6 w13 o4 hx9 => ?_
        have k35 := k29.tr hx9
        have k36 := k30.tr hx9
        have k37 := k31.tr hx9
        have k38 := k32.tr hx9
        have k39 := k33.tr hx9
        have k40 := k34.tr hx9
        have k41 := hx8.tr hx9
        have R5 := R4.ext hx9
        have hz := RV.sl o4.rv; obtain ⟨a6, cq5, rfl, -, -, -⟩ := hz
        refine nl ⟨fun _ _ => k40, ?_⟩
        refine pv rfl rfl rfl (fun _ _ => xas) (.inl rfl) <| rg <| vl rfl rfl (xadd l32_i1 rfl) <| vl rfl rfl xmv <| nl <| ?_
        refine lq m (Nat.lt_succ_self _) <| ?_
        exact ⟨_, _, _, hB4, rfl, (o4.bnd k33.size), rfl, l10_i1, l31_i1, k39⟩
      ·
        have hB4 := ifn hB4 h5
        refine wp_exit <| ?_
        cases hB4
        refine lf <| ?_
        exact ⟨_, l11_i1, O11_i1, K0_i1⟩
    rintro L w14 ⟨v5, l11_j2, O11_j2, K0_j2⟩
    have k42 := k12.tr K0_j2
    have k43 := k13.tr K0_j2
    have k44 := k14.tr K0_j2
    have k45 := K0_j1.tr K0_j2
    have hz := RV.sl O11_j2.rv; obtain ⟨a7, cq6, rfl, -, -, -⟩ := hz
    refine wp_seq <| rg <| vl rfl rfl xmv <| vl rfl rfl xas <| vl rfl rfl xas <| nl <| ?_
    cases hF
    exact wp_ret <| rt rfl (.tmp l11_j2 rfl (.tmp rfl rfl .nil)) ⟨_, rfl, O11_j2.rv, k42⟩

set_option maxHeartbeats 4000000 in
theorem c20 {w0 : World} {v0 : Value} {x0 : (Int × (List (Int × Int × Int)))} (r0 : RV w0 v0 x0) {x1 : Int} {x2 : Int} {F : Nat} {r : ((Int × Int) × Int)} (hF : speed_Sung F x0 x1 x2 = some r) :
    Calls Try.prog 20 [v0, .int .i64 x1, .int .i64 x2].toArray w0 (Ret fun v w' => ∃ u0 : Value, v = .tuple #[u0, .int .i64 r.2] ∧ RV w' u0 r.1 ∧ Ext w0 w') := by
  unfold speed_Sung at hF
  have hz := id r0; obtain ⟨_, rfl, ⟨_, _, rfl, rfl, ⟨a1, cq1, rfl, p1, q4, e1⟩⟩⟩ := hz
  have r4 := RV.of1 p1 q4 e1
  refine entr (n := 52) Try.func20 rfl rfl rfl <| wp_seq <| rg <| sbx rfl rfl fun b4 w1 hx1 hg1 hb1 => ?_
  have r5 := r4.ext hx1
  have r6 := r0.ext hx1
  refine sal ti28 fun b5 w2 hx2 hg2 hb2 => ?_
  have k1 := hx1.tr hx2
  have hb3 := hb1.ext hx2
  have r7 := r5.ext hx2
  refine vl rfl rfl xas <| nl <| wp_seq <| rg <| vl rfl rfl (xlda rfl ti24 rfl (Bx.cs hb3)) <| ?_
  have hz := bs hF; obtain ⟨x4, Ex4, hF⟩ := hz
  refine cl rfl rfl (xc cb43 (mc rfl mn)) (c43 (show RV (α := (Int × (List (Int × Int × Int)))) _ (.agg [.int .i64 x0.1, .slice a1 x0.2.length cq1].toArray) (x0.1, x0.2) from ⟨_, rfl, ⟨[.int .i64 x0.1], [.slice a1 x0.2.length cq1], rfl, rfl, r7.rep1⟩⟩) Ex4) ?_
  rintro _ w3 ⟨rfl, hx3⟩
  have k2 := k1.tr hx3
  have k3 := hx2.tr hx3
  have hb4 := hb3.ext hx3
  have r8 := r7.ext hx3
  have hb5 := hb2.ext hx3
  refine vl rfl rfl xas <| nl <| wp_seq <| wp_block <| wp_seq <| rg <| vl rfl rfl xmv <| vl rfl rfl (xneq rfl rfl) <| vl rfl rfl xas <| nl <| cnd rfl (fun h4 => ?_) (fun h4 => ?_)
  ·
    have hF := ifp hF h4
    refine wp_seq <| rg <| vl rfl rfl (xbdv (r := [.int .i64 0, .int .i64 0]) ti28 sp28 pn rfl) <| vl rfl rfl xmv <| sst rfl rfl rfl ti28 hb5 rfl rfl (ble rfl) fun w4 hch1 hb6 => ?_
    have k4 := Ext.chg k2 hch1 (Nat.le_trans hx1.size hg2)
    have k5 := Ext.chg k3 hch1 (Nat.le_trans (Nat.le_refl _) hg2)
    have hb7 : Bx w4 b5 28 [.int .i64 0, .int .i64 0] := hb6
    refine vl rfl rfl xas <| nl <| ?_
    cases hF
    exact wp_ret <| rt rfl (.cell rfl rfl ti28 rfl (Bx.cs hb7) (.tmp rfl rfl .nil)) ⟨_, rfl, (show RV (α := (Int × Int)) _ (.agg [.int .i64 0, .int .i64 0].toArray) (0, 0) from ⟨_, rfl, ⟨[.int .i64 0], [.int .i64 0], rfl, rfl, rfl⟩⟩), k4⟩
  ·
    have hF := ifn hF h4
    refine wp_seq <| rg <| vl rfl rfl (xfa rfl fa24_0) <| vl rfl rfl (xld rfl ti3 ((Bx.cs hb4).at 0 rfl)) <| vl rfl rfl xmv <| sbsv (cs := [.int .i64 x1]) Try.underlying36 ti3 rfl (pc rfl pn) rfl rfl rfl rfl rfl fun b6 w5 hx4 hg3 hb8 => ?_
    have k6 := k2.tr hx4
    have k7 := k3.tr hx4
    have hb9 := hb4.ext hx4
    have r9 := r8.ext hx4
    have hb10 := hb5.ext hx4
    have o1 : Row (α := Int) 3 w3.heap.size w5 (.slice (some ⟨b6, 0, none⟩) 1 1) [x1] := Row.lit hg3 hb8 rfl (ble rfl)
    have hz := bs hF; obtain ⟨x5, Ex5, hF⟩ := hz
    refine cl rfl rfl (xc cb53 (mc rfl (mc rfl (mc rfl mn)))) (c53 o1.rv Ex5) ?_
    rintro _ w6 ⟨rfl, hx5⟩
    have k8 := k6.tr hx5
    have k9 := k7.tr hx5
    have k10 := hx4.tr hx5
    have hb11 := hb9.ext hx5
    have r11 := r9.ext hx5
    have hb12 := hb10.ext hx5
    refine vl rfl rfl (xnot rfl) <| vl rfl rfl xmv <| gv rfl rfl rfl rfl (gw0 rfl) rfl (fun hc => xmva rfl) <| gm (fun v w => RV w v ([x2] : List Int) ∧ Ext w6 w) rfl rfl rfl rfl (gw0 rfl) rfl (fun hc => sbsv (cs := [.int .i64 x2]) Try.underlying32 ti2 rfl (pc (mv hc rfl) pn) rfl rfl rfl rfl rfl fun b w' hx hg hb => nl ⟨_, rfl, (Row.lit (base := 0) (l := ([x2] : List Int)) (Nat.zero_le _) hb rfl (ble rfl)).rv, hx⟩) (fun v4 w7 hy1 hn1 => ?_)
    have hx6 : Ext w6 w7 := gx (fun h => (hy1 h).2) (fun h => (hn1 h).2 ▸ Ext.refl _)
    have k11 := k8.tr hx6
    have k12 := k9.tr hx6
    have k13 := k10.tr hx6
    have hb13 := hb11.ext hx6
    have r12 := r11.ext hx6
    have hb14 := hb12.ext hx6
    have hz := bs hF; obtain ⟨x6, Ex6, hF⟩ := hz
    refine gc rfl rfl rfl rfl (gw0 rfl) rfl (fun hc => xc cb58 (mc rfl mn)) (fun hc => (c58 ((hy1 hc).1) (gdp Ex6 hc))) (fun v5 w8 hy2 hn2 => ?_)
    have hx7 : Ext w7 w8 := gx (fun h => (hy2 h).2) (fun h => (hn2 h).2 ▸ Ext.refl _)
    have e2 := mkw (fun h => (hy2 h).1) (fun h => (hn2 h).1)
    have k14 := k11.tr hx7
    have k15 := k12.tr hx7
    have k16 := k13.tr hx7
    have hb15 := hb13.ext hx7
    have r13 := r12.ext hx7
    have hb16 := hb14.ext hx7
    refine gv rfl rfl rfl rfl (gw0 rfl) rfl (fun hc => xnot (mv hc e2)) <| vl rfl rfl (xpo rfl rfl rfl) <| vl rfl rfl xas <| nl <| cnd rfl (fun h5 => ?_) (fun h5 => ?_)
    ·
      have hF := ifp hF h5
      refine wp_seq <| rg <| vl rfl rfl (xbdv (r := [.int .i64 0, .int .i64 0]) ti28 sp28 pn rfl) <| sst rfl rfl rfl ti28 hb16 rfl rfl (ble rfl) fun w9 hch2 hb17 => ?_
      have k17 := Ext.chg k14 hch2 (Nat.le_trans hx1.size hg2)
      have k18 := Ext.chg k15 hch2 (Nat.le_trans (Nat.le_refl _) hg2)
      have hb18 : Bx w9 b5 28 [.int .i64 0, .int .i64 0] := hb17
      refine vl rfl rfl xas <| nl <| ?_
      cases hF
      exact wp_ret <| rt rfl (.cell rfl rfl ti28 rfl (Bx.cs hb18) (.tmp rfl rfl .nil)) ⟨_, rfl, (show RV (α := (Int × Int)) _ (.agg [.int .i64 0, .int .i64 0].toArray) (0, 0) from ⟨_, rfl, ⟨[.int .i64 0], [.int .i64 0], rfl, rfl, rfl⟩⟩), k17⟩
    ·
      have hF := ifn hF h5
      refine wp_skip <| wp_seq <| rg <| vl rfl rfl (xlda rfl ti24 rfl (Bx.cs hb15)) <| vl rfl rfl xmv <| ?_
      have hz := bs hF; obtain ⟨x7, Ex7, hF⟩ := hz
      refine cl rfl rfl (xc cb16 (mc rfl (mc rfl mn))) (c16 (show RV (α := (Int × (List (Int × Int × Int)))) _ (.agg [.int .i64 x0.1, .slice a1 x0.2.length cq1].toArray) (x0.1, x0.2) from ⟨_, rfl, ⟨[.int .i64 x0.1], [.slice a1 x0.2.length cq1], rfl, rfl, r13.rep1⟩⟩) Ex7) ?_
      rintro _ w10 ⟨u1, rfl, r14, hx8⟩
      have k19 := k14.tr hx8
      have k20 := k15.tr hx8
      have k21 := k16.tr hx8
      have hb19 := hb16.ext hx8
      have hz := id r14; obtain ⟨_, rfl, ⟨_, _, rfl, rfl, rfl⟩⟩ := hz
      refine vl rfl rfl xmv <| vl rfl rfl (xext rfl rfl) <| vl rfl rfl (xext rfl rfl) <| sal ti28 fun b7 w11 hx9 hg4 hb20 => ?_
      have k22 := k19.tr hx9
      have k23 := k20.tr hx9
      have k24 := k21.tr hx9
      have hb21 := hb19.ext hx9
      have r15 := r14.ext hx9
      refine sst rfl rfl rfl ti28 hb20 rfl rfl (ble rfl) fun w12 hch3 hb22 => ?_
      have k25 := Ext.chg k22 hch3 (Nat.le_trans k19.size hg4)
      have k26 := Ext.chg k23 hch3 (Nat.le_trans k20.size hg4)
      have k27 := Ext.chg k24 hch3 (Nat.le_trans k21.size hg4)
      have k28 := Ext.chg hx9 hch3 (Nat.le_trans (Nat.le_refl _) hg4)
      have hb23 := hb19.ext k28
      have hb24 : Bx w12 b7 28 [.int .i64 x7.1.1, .int .i64 x7.1.2] := hb22
      refine vl rfl rfl xas <| nl <| wp_seq <| wp_seq <| rg <| vl rfl rfl xmv <| vl rfl rfl (xneq rfl rfl) <| nl <| cnd rfl (fun h6 => ?_) (fun h6 => ?_)
      ·
        have hF := ifp hF h6
        refine wp_seq <| rg <| vl rfl rfl (xbdv (r := [.int .i64 0, .int .i64 0]) ti28 sp28 pn rfl) <| vl rfl rfl xmv <| sst rfl rfl rfl ti28 hb23 rfl rfl (ble rfl) fun w13 hch4 hb25 => ?_
        have k29 := Ext.chg k25 hch4 (Nat.le_trans hx1.size hg2)
        have k30 := Ext.chg k26 hch4 (Nat.le_trans (Nat.le_refl _) hg2)
        have hb26 : Bx w13 b5 28 [.int .i64 0, .int .i64 0] := hb25
        refine vl rfl rfl xas <| nl <| ?_
        cases hF
        exact wp_ret <| rt rfl (.cell rfl rfl ti28 rfl (Bx.cs hb26) (.tmp rfl rfl .nil)) ⟨_, rfl, (show RV (α := (Int × Int)) _ (.agg [.int .i64 0, .int .i64 0].toArray) (0, 0) from ⟨_, rfl, ⟨[.int .i64 0], [.int .i64 0], rfl, rfl, rfl⟩⟩), k29⟩
      ·
        have hF := ifn hF h6
        refine wp_skip <| wp_seq <| rg <| vl rfl rfl xmv <| vl rfl rfl (xfa rfl fa28_0) <| vl rfl rfl (xld rfl ti2 ((Bx.cs hb24).at 0 rfl)) <| vl rfl rfl (xmul rfl rfl) <| vl rfl rfl (xquo rfl rfl (by decide)) <| vl rfl rfl xmv <| vl rfl rfl (xfa rfl fa28_1) <| vl rfl rfl (xld rfl ti2 ((Bx.cs hb24).at 1 rfl)) <| vl rfl rfl (xmul rfl rfl) <| vl rfl rfl (xquo rfl rfl (by decide)) <| vl rfl rfl (xbdv (r := [.int .i64 (w64 (Int.tdiv (w64 (x2 * x7.1.1)) 16000)), .int .i64 (w64 (Int.tdiv (w64 (x2 * x7.1.2)) 16000))]) ti28 sp28 (pc rfl (pc rfl pn)) rfl) <| sst rfl rfl rfl ti28 hb23 rfl rfl (ble rfl) fun w14 hch5 hb27 => ?_
        have k31 := Ext.chg k25 hch5 (Nat.le_trans hx1.size hg2)
        have k32 := Ext.chg k26 hch5 (Nat.le_trans (Nat.le_refl _) hg2)
        have hb28 : Bx w14 b5 28 [.int .i64 (w64 (Int.tdiv (w64 (x2 * x7.1.1)) 16000)), .int .i64 (w64 (Int.tdiv (w64 (x2 * x7.1.2)) 16000))] := hb27
        refine vl rfl rfl xas <| nl <| ?_
        cases hF
        exact wp_ret <| rt rfl (.cell rfl rfl ti28 rfl (Bx.cs hb28) (.tmp rfl rfl .nil)) ⟨_, rfl, (show RV (α := (Int × Int)) _ (.agg [.int .i64 (w64 (Int.tdiv (w64 (x2 * x7.1.1)) 16000)), .int .i64 (w64 (Int.tdiv (w64 (x2 * x7.1.2)) 16000))].toArray) (w64 (Int.tdiv (w64 (x2 * x7.1.1)) 16000), w64 (Int.tdiv (w64 (x2 * x7.1.2)) 16000)) from ⟨_, rfl, ⟨[.int .i64 (w64 (Int.tdiv (w64 (x2 * x7.1.1)) 16000))], [.int .i64 (w64 (Int.tdiv (w64 (x2 * x7.1.2)) 16000))], rfl, rfl, rfl⟩⟩), k31⟩
end Go.Proofs.Ythppacohnciinaa
