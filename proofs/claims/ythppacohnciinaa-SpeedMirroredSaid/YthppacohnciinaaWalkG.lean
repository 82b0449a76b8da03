/-
  Each function of the program returns what its pure function computes, and leaves all memory that was there as it was. Condition: the pure function computes something.
-/
import Derived.Test.YthppacohnciinaaFacts
import Derived.Test.YthppacohnciinaaPureG
import Derived.Test.YthppacohnciinaaWalkE
import Derived.Test.YthppacohnciinaaManF
namespace Go.Proofs.Ythppacohnciinaa
open Go Go.Md Go.RowKit
attribute [local irreducible] Go.wpList Go.Code.wp Go.Calls Go.Md.Rnd Go.Md.Mt Go.Md.MtM Go.Md.RndM Go.Code.wpIn

set_option maxHeartbeats 4000000 in
theorem c37 {w0 : World} {v0 : Value} {x0 : (Int × (List (Int × Int × Int)))} (r0 : RV w0 v0 x0) {F : Nat} {r : Bool} (hF : ref01_Clashes F x0 = some r) :
    Calls Try.prog 37 [v0].toArray w0 (Ret fun v w' => v = .bool r ∧ Ext w0 w') := by
  unfold ref01_Clashes at hF
  have hz := id r0; obtain ⟨_, rfl, ⟨_, _, rfl, rfl, ⟨a1, cq1, rfl, p1, q2, e1⟩⟩⟩ := hz
  have r2 := RV.of1 p1 q2 e1
  refine entr (n := 21) Try.func37 rfl rfl rfl <| wp_seq <| rg <| sbx rfl rfl fun b2 w1 hx1 hg1 hb1 => ?_
  have r3 := r2.ext hx1
  have r4 := r0.ext hx1
  refine vl rfl rfl xas <| nl <| wp_seq <| rg <| vl rfl rfl (xlda rfl ti24 rfl (Bx.cs hb1)) <| ?_
  have hz := bs hF; obtain ⟨x2, Ex2, hF⟩ := hz
  refine cl rfl rfl (xc cb51 (mc rfl mn)) (c51 (show RV (α := (Int × (List (Int × Int × Int)))) _ (.agg [.int .i64 x0.1, .slice a1 x0.2.length cq1].toArray) (x0.1, x0.2) from ⟨_, rfl, ⟨[.int .i64 x0.1], [.slice a1 x0.2.length cq1], rfl, rfl, r3.rep1⟩⟩) Ex2) ?_
  rintro _ w2 ⟨u1, rfl, r5, hx2⟩
  have k1 := hx1.tr hx2
  have hz := RV.sl r5; obtain ⟨a2, cq2, rfl, -, -, -⟩ := hz
  refine vl rfl rfl xas <| nl <| wp_seq <| wp_seq <| rg <| vl rfl rfl xas <| nl <| ?_
  have hz := bs hF; obtain ⟨o1, hB1, hF⟩ := hz
  refine ct (fun L w => o1 = .inr () ∧ Ext w2 w) ?_ ?_
  ·
    refine wp_block <| lp (I := fun m L w => ∃ y1 : Int, ref01_Clashes_l1 F x2 m y1  = some o1 ∧ L 4 = .int .i64 y1 ∧ L 3 = .slice a2 x2.length cq2 ∧ Ext w2 w) F ⟨_, hB1, rfl, rfl, (Ext.refl _)⟩ ?_
    rintro m L w3 ⟨y1, hB1, l4_i1, l3_i1, K0_i1⟩
    rcases m with _ | m
    · rw [ref01_Clashes_l1] at hB1; cases hB1
    rw [ref01_Clashes_l1] at hB1
    have k2 := k1.tr K0_i1
    have r6 := r5.ext K0_i1
    refine wp_seq <| wp_seq <| rg <| vl rfl rfl xmv <| vl rfl rfl xmv <| vl rfl rfl (xlen l3_i1 Try.underlying53) <| vl rfl rfl (xlss l4_i1 rfl) <| nl <| cnd rfl (fun h2 => ?_) (fun h2 => ?_)
    ·
      have hB1 := ifp hB1 h2
      refine wp_skip <| wp_seq <| wp_block <| wp_seq <| rg <| vl rfl rfl xmv <| vl rfl rfl xmv <| ?_
      have hz := bs hB1; obtain ⟨x3, Ex3, hB1⟩ := hz
      have hz := (RV.els r5).ix Ex3; obtain ⟨b3, f1, cs2, e2, i2, i3, q3, hc1⟩ := hz
      cases e2
      obtain ⟨a3, cq3, rfl, p2, q4, e3⟩ := q3
      have r7 := RV.of1 p2 q4 e3
      have hc2 := hc1.ext K0_i1
      have r8 := r7.ext K0_i1
      refine vl rfl rfl (xixs l3_i1 l4_i1 Try.underlying53 ti32 i2 i3) <| vl rfl rfl (xld rfl ti32 (hc2.at 0 rfl)) <| vl rfl rfl xmv <| ?_
      have hz := bs hB1; obtain ⟨x4, Ex4, hB1⟩ := hz
      have hz := (RV.els r7).ix Ex4; obtain ⟨b4, f2, cs3, e4, i4, i5, q5, hc3⟩ := hz
      cases e4
      obtain rfl := q5
      have hc4 := hc3.ext K0_i1
      refine vl rfl rfl (xixs rfl l4_i1 Try.underlying32 ti2 i4 i5) <| vl rfl rfl (xld rfl ti2 (hc4.at 0 rfl)) <| vl rfl rfl (xlss rfl rfl) <| nl <| cnd rfl (fun h3 => ?_) (fun h3 => ?_)
      ·
        have hB1 := ifp hB1 h3
        refine wp_seq <| rg <| vl rfl rfl xas <| nl <| ?_
        cases hB1
        have hF := (show some _ = some _ from hF); cases hF
        exact wp_ret <| rt rfl (.tmp rfl rfl .nil) ⟨rfl, k2⟩
      ·
        have hB1 := ifn hB1 h3
        refine wp_skip <| rg <| vl rfl rfl xmv <| vl rfl rfl (xadd l4_i1 rfl) <| vl rfl rfl xas <| nl <| ?_
        refine lq m (Nat.lt_succ_self _) <| ?_
        exact ⟨_, hB1, rfl, l3_i1, K0_i1⟩
    ·
      have hB1 := ifn hB1 h2
      refine wp_exit <| ?_
      cases hB1
      refine lf <| ?_
      exact ⟨rfl, K0_i1⟩
  rintro L w4 ⟨rfl, K0_j1⟩
  have k3 := k1.tr K0_j1
  refine wp_seq <| rg <| vl rfl rfl xas <| nl <| ?_
  cases hF
  exact wp_ret <| rt rfl (.tmp rfl rfl .nil) ⟨rfl, k3⟩

set_option maxHeartbeats 4000000 in
theorem c17 {w0 : World} {v0 : Value} {x0 : (Int × (List (Int × Int × Int)))} (r0 : RV w0 v0 x0) {x1 : Int} {F : Nat} {r : ((Int × Int) × Int)} (hF : ref01_Span F x0 x1 = some r) :
    Calls Try.prog 17 [v0, .int .i64 x1].toArray w0 (Ret fun v w' => ∃ u0 : Value, v = .tuple #[u0, .int .i64 r.2] ∧ RV w' u0 r.1 ∧ Ext w0 w') := by
  unfold ref01_Span at hF
  have hz := id r0; obtain ⟨_, rfl, ⟨_, _, rfl, rfl, ⟨a1, cq1, rfl, p1, q3, e1⟩⟩⟩ := hz
  have r3 := RV.of1 p1 q3 e1
  refine entr (n := 41) Try.func17 rfl rfl rfl <| wp_seq <| rg <| sbx rfl rfl fun b3 w1 hx1 hg1 hb1 => ?_
  have r4 := r3.ext hx1
  have r5 := r0.ext hx1
  refine sal ti28 fun b4 w2 hx2 hg2 hb2 => ?_
  have k1 := hx1.tr hx2
  have hb3 := hb1.ext hx2
  have r6 := r4.ext hx2
  refine vl rfl rfl xas <| nl <| wp_seq <| wp_seq <| rg <| vl rfl rfl (xlda rfl ti24 rfl (Bx.cs hb3)) <| ?_
  have hz := bs hF; obtain ⟨x3, Ex3, hF⟩ := hz
  refine cl rfl rfl (xc cb36 (mc rfl mn)) (c36 (show RV (α := (Int × (List (Int × Int × Int)))) _ (.agg [.int .i64 x0.1, .slice a1 x0.2.length cq1].toArray) (x0.1, x0.2) from ⟨_, rfl, ⟨[.int .i64 x0.1], [.slice a1 x0.2.length cq1], rfl, rfl, r6.rep1⟩⟩) Ex3) ?_
  rintro _ w3 ⟨rfl, hx3⟩
  have k2 := k1.tr hx3
  have k3 := hx2.tr hx3
  have hb4 := hb3.ext hx3
  have r7 := r6.ext hx3
  have hb5 := hb2.ext hx3
  refine vl rfl rfl (xneq rfl rfl) <| nl <| cnd rfl (fun h3 => ?_) (fun h3 => ?_)
  ·
    have hF := ifp hF h3
    refine wp_seq <| rg <| vl rfl rfl (xbdv (r := [.int .i64 0, .int .i64 0]) ti28 sp28 pn rfl) <| vl rfl rfl (xlda rfl ti24 rfl (Bx.cs hb4)) <| ?_
    have hz := bs hF; obtain ⟨x4, Ex4, hF⟩ := hz
    refine cl rfl rfl (xc cb36 (mc rfl mn)) (c36 (show RV (α := (Int × (List (Int × Int × Int)))) _ (.agg [.int .i64 x0.1, .slice a1 x0.2.length cq1].toArray) (x0.1, x0.2) from ⟨_, rfl, ⟨[.int .i64 x0.1], [.slice a1 x0.2.length cq1], rfl, rfl, r7.rep1⟩⟩) Ex4) ?_
    rintro _ w4 ⟨rfl, hx4⟩
    have k4 := k2.tr hx4
    have k5 := k3.tr hx4
    have hb6 := hb5.ext hx4
    refine sst rfl rfl rfl ti28 hb6 rfl rfl (ble rfl) fun w5 hch1 hb7 => ?_
    have k6 := Ext.chg k4 hch1 (Nat.le_trans hx1.size hg2)
    have k7 := Ext.chg k5 hch1 (Nat.le_trans (Nat.le_refl _) hg2)
    have hb8 : Bx w5 b4 28 [.int .i64 0, .int .i64 0] := hb7
    refine vl rfl rfl xas <| nl <| ?_
    cases hF
    exact wp_ret <| rt rfl (.cell rfl rfl ti28 rfl (Bx.cs hb8) (.tmp rfl rfl .nil)) ⟨_, rfl, (show RV (α := (Int × Int)) _ (.agg [.int .i64 0, .int .i64 0].toArray) (0, 0) from ⟨_, rfl, ⟨[.int .i64 0], [.int .i64 0], rfl, rfl, rfl⟩⟩), k6⟩
  ·
    have hF := ifn hF h3
    refine wp_skip <| wp_seq <| wp_seq <| rg <| vl rfl rfl xmv <| vl rfl rfl (xlss rfl rfl) <| vl rfl rfl xmv <| gv rfl rfl rfl rfl (gw0 rfl) rfl (fun hc => xmva rfl) <| gv rfl rfl rfl rfl (gw0 rfl) rfl (fun hc => xfa rfl fa24_0) <| gv rfl rfl rfl rfl (gw0 rfl) rfl (fun hc => xld (mv hc rfl) ti3 ((Bx.cs hb4).at 0 rfl)) <| gv rfl rfl rfl rfl (gw0 rfl) rfl (fun hc => xgtr (mv hc rfl) (mv hc rfl)) <| vl rfl rfl (xpo rfl rfl rfl) <| nl <| cnd rfl (fun h4 => ?_) (fun h4 => ?_)
    ·
      have hF := ifp hF h4
      refine wp_seq <| rg <| vl rfl rfl (xbdv (r := [.int .i64 0, .int .i64 0]) ti28 sp28 pn rfl) <| sst rfl rfl rfl ti28 hb5 rfl rfl (ble rfl) fun w6 hch2 hb9 => ?_
      have k8 := Ext.chg k2 hch2 (Nat.le_trans hx1.size hg2)
      have k9 := Ext.chg k3 hch2 (Nat.le_trans (Nat.le_refl _) hg2)
      have hb10 : Bx w6 b4 28 [.int .i64 0, .int .i64 0] := hb9
      refine vl rfl rfl xas <| nl <| ?_
      cases hF
      exact wp_ret <| rt rfl (.cell rfl rfl ti28 rfl (Bx.cs hb10) (.tmp rfl rfl .nil)) ⟨_, rfl, (show RV (α := (Int × Int)) _ (.agg [.int .i64 0, .int .i64 0].toArray) (0, 0) from ⟨_, rfl, ⟨[.int .i64 0], [.int .i64 0], rfl, rfl, rfl⟩⟩), k8⟩
    ·
      have hF := ifn hF h4
      refine wp_skip <| wp_seq <| wp_seq <| rg <| vl rfl rfl (xlda rfl ti24 rfl (Bx.cs hb4)) <| ?_
      have hz := bs hF; obtain ⟨x5, Ex5, hF⟩ := hz
      refine cl rfl rfl (xc cb37 (mc rfl mn)) (c37 (show RV (α := (Int × (List (Int × Int × Int)))) _ (.agg [.int .i64 x0.1, .slice a1 x0.2.length cq1].toArray) (x0.1, x0.2) from ⟨_, rfl, ⟨[.int .i64 x0.1], [.slice a1 x0.2.length cq1], rfl, rfl, r7.rep1⟩⟩) Ex5) ?_
      rintro _ w7 ⟨rfl, hx5⟩
      have k10 := k2.tr hx5
      have k11 := k3.tr hx5
      have hb11 := hb4.ext hx5
      have r8 := r7.ext hx5
      have hb12 := hb5.ext hx5
      refine nl <| cnd rfl (fun h5 => ?_) (fun h5 => ?_)
      ·
        have hF := ifp hF h5
        refine wp_seq <| rg <| vl rfl rfl (xbdv (r := [.int .i64 0, .int .i64 0]) ti28 sp28 pn rfl) <| sst rfl rfl rfl ti28 hb12 rfl rfl (ble rfl) fun w8 hch3 hb13 => ?_
        have k12 := Ext.chg k10 hch3 (Nat.le_trans hx1.size hg2)
        have k13 := Ext.chg k11 hch3 (Nat.le_trans (Nat.le_refl _) hg2)
        have hb14 : Bx w8 b4 28 [.int .i64 0, .int .i64 0] := hb13
        refine vl rfl rfl xas <| nl <| ?_
        cases hF
        exact wp_ret <| rt rfl (.cell rfl rfl ti28 rfl (Bx.cs hb14) (.tmp rfl rfl .nil)) ⟨_, rfl, (show RV (α := (Int × Int)) _ (.agg [.int .i64 0, .int .i64 0].toArray) (0, 0) from ⟨_, rfl, ⟨[.int .i64 0], [.int .i64 0], rfl, rfl, rfl⟩⟩), k12⟩
      ·
        have hF := ifn hF h5
        refine wp_skip <| wp_seq <| rg <| vl rfl rfl (xlda rfl ti24 rfl (Bx.cs hb11)) <| ?_
        have hz := bs hF; obtain ⟨x6, Ex6, hF⟩ := hz
        refine cl rfl rfl (xc cb51 (mc rfl mn)) (c51 (show RV (α := (Int × (List (Int × Int × Int)))) _ (.agg [.int .i64 x0.1, .slice a1 x0.2.length cq1].toArray) (x0.1, x0.2) from ⟨_, rfl, ⟨[.int .i64 x0.1], [.slice a1 x0.2.length cq1], rfl, rfl, r8.rep1⟩⟩) Ex6) ?_
        rintro _ w9 ⟨u1, rfl, r9, hx6⟩
        have k14 := k10.tr hx6
        have k15 := k11.tr hx6
        have hb15 := hb12.ext hx6
        have hz := RV.sl r9; obtain ⟨a2, cq2, rfl, -, -, -⟩ := hz
        refine vl rfl rfl xas <| nl <| wp_seq <| wpl [14] (.pure true 0 (.pure true 1 (.pure true 2 (.pure false 3 (.pure true 4 (.pure false 5 (.pure true 6 (.pure true 7 (.pure true 8 (.pure false 9 (.pure true 10 (.pure true 11 (.pure false 12 (.pure true 13 (.eff 14 (.pure true 15 .fin) .stop))))))))))))))) mixed (by kernel_rfl) (fun w10 hx7 => ?_)
        have k16 := k14.tr hx7
        have k17 := k15.tr hx7
        have hb16 := hb15.ext hx7
        have r10 := r9.ext hx7
        refine pv rfl rfl rfl (fun _ _ => xmv) (.inl rfl) <| pv rfl rfl rfl (fun _ _ => xmv) (.inl rfl) <| ?_
        have hz := bs hF; obtain ⟨x7, Ex7, hF⟩ := hz
        have hz := (RV.els r10).ix Ex7; obtain ⟨b5, f1, cs3, e2, i1, i2, q4, hc1⟩ := hz
        cases e2
        obtain ⟨a3, cq3, rfl, p2, q5, e3⟩ := q4
        have r11 := RV.of1 p2 q5 e3
        refine pv rfl rfl rfl (fun _ _ => xixs rfl rfl Try.underlying53 ti32 i1 i2) (.inl rfl) <| pv rfl rfl rfl (fun _ hS => xld rfl ti32 ((hc1.ext (hS.resolve_left nofun)).at 0 rfl)) (.inr (Ext.refl _)) <| ?_
        have hz := bs hF; obtain ⟨x8, Ex8, hF⟩ := hz
        have hz := (RV.els r11).ix Ex8; obtain ⟨b6, f2, cs4, e4, i3, i4, q6, hc2⟩ := hz
        cases e4
        obtain rfl := q6
        refine pv rfl rfl rfl (fun _ _ => xixs rfl rfl Try.underlying32 ti2 i3 i4) (.inl rfl) <| pv rfl rfl rfl (fun _ hS => xld rfl ti2 ((hc2.ext (hS.resolve_left nofun)).at 0 rfl)) (.inr (Ext.refl _)) <| pv rfl rfl rfl (fun _ _ => xneg rfl) (.inl rfl) <| pv rfl rfl rfl (fun _ _ => xmv) (.inl rfl) <| ?_
        have hz := bs hF; obtain ⟨x9, Ex9, hF⟩ := hz
        have hz := ix2 r10 Ex9; obtain ⟨cs5, i5, i6, q7, hc3⟩ := hz
        obtain ⟨a4, cq4, rfl, p3, q8, e5⟩ := q7
        have r12 := RV.of1 p3 q8 e5
        refine pv rfl rfl rfl (fun _ _ => xixs rfl rfl Try.underlying53 ti32 i5 i6) (.inl rfl) <| pv rfl rfl rfl (fun _ hS => xld rfl ti32 ((hc3.ext (hS.resolve_left nofun)).at 0 rfl)) (.inr (Ext.refl _)) <| pv rfl rfl rfl (fun _ _ => xmv) (.inl rfl) <| ?_
        have hz := bs hF; obtain ⟨x10, Ex10, hF⟩ := hz
        have hz := (RV.els r12).ix Ex10; obtain ⟨b7, f3, cs6, e6, i7, i8, q9, hc4⟩ := hz
        cases e6
        obtain rfl := q9
        refine pv rfl rfl rfl (fun _ _ => xixs rfl rfl Try.underlying32 ti2 i7 i8) (.inl rfl) <| pv rfl rfl rfl (fun _ hS => xld rfl ti2 ((hc4.ext (hS.resolve_left nofun)).at 0 rfl)) (.inr (Ext.refl _)) <| pv rfl rfl rfl (fun _ _ => xbdv (r := [.int .i64 (w64 (0 - x8)), .int .i64 x10]) ti28 sp28 (pc rfl (pc rfl pn)) rfl) (.inl rfl) <| pe1 rfl <| sst rfl rfl rfl ti28 hb16 rfl rfl (ble rfl) fun w11 hch4 hb17 => ?_
        have k18 := Ext.chg k16 hch4 (Nat.le_trans hx1.size hg2)
        have k19 := Ext.chg k17 hch4 (Nat.le_trans (Nat.le_refl _) hg2)
        have hb18 : Bx w11 b4 28 [.int .i64 (w64 (0 - x8)), .int .i64 x10] := hb17
        refine nl ⟨fun h => (h (by decide)).elim, ?_⟩
        refine pv rfl rfl rfl (fun _ _ => xas) (.inl rfl) <| ?_
        cases hF
        exact wp_ret <| rt rfl (.cell rfl rfl ti28 rfl (Bx.cs hb18) (.tmp rfl rfl .nil)) ⟨_, rfl, (show RV (α := (Int × Int)) _ (.agg [.int .i64 (w64 (0 - x8)), .int .i64 x10].toArray) (w64 (0 - x8), x10) from ⟨_, rfl, ⟨[.int .i64 (w64 (0 - x8))], [.int .i64 x10], rfl, rfl, rfl⟩⟩), k18⟩

set_option maxHeartbeats 4000000 in
theorem c19 {w0 : World} {v0 : Value} {x0 : (Int × (List (Int × Int × Int)))} (r0 : RV w0 v0 x0) {x1 : Bool} {F : Nat} {r : ((List Int) × Int)} (hF : ref01_Ends F x0 x1 = some r) :
    Calls Try.prog 19 [v0, .bool x1].toArray w0 (Ret fun v w' => ∃ u0 : Value, v = .tuple #[u0, .int .i64 r.2] ∧ RV w' u0 r.1 ∧ Ext w0 w') := by
  unfold ref01_Ends at hF
  have hz := id r0; obtain ⟨_, rfl, ⟨_, _, rfl, rfl, ⟨a1, cq1, rfl, p1, q3, e1⟩⟩⟩ := hz
  have r3 := RV.of1 p1 q3 e1
  refine entr (n := 45) Try.func19 rfl rfl rfl <| wp_seq <| rg <| sbx rfl rfl fun b3 w1 hx1 hg1 hb1 => ?_
  have r4 := r3.ext hx1
  have r5 := r0.ext hx1
  refine vl rfl rfl xas <| vl rfl rfl xas <| nl <| wp_seq <| wp_seq <| rg <| vl rfl rfl (xlda rfl ti24 rfl (Bx.cs hb1)) <| ?_
  have hz := bs hF; obtain ⟨x3, Ex3, hF⟩ := hz
  refine cl rfl rfl (xc cb36 (mc rfl mn)) (c36 (show RV (α := (Int × (List (Int × Int × Int)))) _ (.agg [.int .i64 x0.1, .slice a1 x0.2.length cq1].toArray) (x0.1, x0.2) from ⟨_, rfl, ⟨[.int .i64 x0.1], [.slice a1 x0.2.length cq1], rfl, rfl, r4.rep1⟩⟩) Ex3) ?_
  rintro _ w2 ⟨rfl, hx2⟩
  have k1 := hx1.tr hx2
  have hb2 := hb1.ext hx2
  have r6 := r4.ext hx2
  refine vl rfl rfl (xneq rfl rfl) <| nl <| cnd rfl (fun h3 => ?_) (fun h3 => ?_)
  ·
    have hF := ifp hF h3
    refine wp_seq <| rg <| vl rfl rfl (xlda rfl ti24 rfl (Bx.cs hb2)) <| ?_
    have hz := bs hF; obtain ⟨x4, Ex4, hF⟩ := hz
    refine cl rfl rfl (xc cb36 (mc rfl mn)) (c36 (show RV (α := (Int × (List (Int × Int × Int)))) _ (.agg [.int .i64 x0.1, .slice a1 x0.2.length cq1].toArray) (x0.1, x0.2) from ⟨_, rfl, ⟨[.int .i64 x0.1], [.slice a1 x0.2.length cq1], rfl, rfl, r6.rep1⟩⟩) Ex4) ?_
    rintro _ w3 ⟨rfl, hx3⟩
    have k2 := k1.tr hx3
    refine vl rfl rfl xas <| vl rfl rfl xas <| nl <| ?_
    cases hF
    exact wp_ret <| rt rfl (.tmp rfl rfl (.tmp rfl rfl .nil)) ⟨_, rfl, (RVo.nil (Nat.zero_le _)), k2⟩
  ·
    have hF := ifn hF h3
    refine wp_skip <| wp_seq <| wp_seq <| rg <| vl rfl rfl (xlda rfl ti24 rfl (Bx.cs hb2)) <| ?_
    have hz := bs hF; obtain ⟨x5, Ex5, hF⟩ := hz
    refine cl rfl rfl (xc cb37 (mc rfl mn)) (c37 (show RV (α := (Int × (List (Int × Int × Int)))) _ (.agg [.int .i64 x0.1, .slice a1 x0.2.length cq1].toArray) (x0.1, x0.2) from ⟨_, rfl, ⟨[.int .i64 x0.1], [.slice a1 x0.2.length cq1], rfl, rfl, r6.rep1⟩⟩) Ex5) ?_
    rintro _ w4 ⟨rfl, hx4⟩
    have k3 := k1.tr hx4
    have hb3 := hb2.ext hx4
    have r7 := r6.ext hx4
    refine nl <| cnd rfl (fun h4 => ?_) (fun h4 => ?_)
    ·
      have hF := ifp hF h4
      refine wp_seq <| rg <| vl rfl rfl xas <| vl rfl rfl xas <| nl <| ?_
      cases hF
      exact wp_ret <| rt rfl (.tmp rfl rfl (.tmp rfl rfl .nil)) ⟨_, rfl, (RVo.nil (Nat.zero_le _)), k3⟩
    ·
      have hF := ifn hF h4
      refine wp_skip <| wp_seq <| rg <| vl rfl rfl (xlda rfl ti24 rfl (Bx.cs hb3)) <| ?_
      have hz := bs hF; obtain ⟨x6, Ex6, hF⟩ := hz
      refine cl rfl rfl (xc cb51 (mc rfl mn)) (c51 (show RV (α := (Int × (List (Int × Int × Int)))) _ (.agg [.int .i64 x0.1, .slice a1 x0.2.length cq1].toArray) (x0.1, x0.2) from ⟨_, rfl, ⟨[.int .i64 x0.1], [.slice a1 x0.2.length cq1], rfl, rfl, r7.rep1⟩⟩) Ex6) ?_
      rintro _ w5 ⟨u1, rfl, r8, hx5⟩
      have k4 := k3.tr hx5
      have hb4 := hb3.ext hx5
      have r9 := r7.ext hx5
      have hz := RV.sl r8; obtain ⟨a2, cq2, rfl, -, -, -⟩ := hz
      refine vl rfl rfl xas <| nl <| wp_seq <| rg <| vl rfl rfl xas <| nl <| wp_seq <| wp_seq <| rg <| vl rfl rfl xas <| nl <| ?_
      have o1 : Row (α := Int) 2 w5.heap.size w5 (.slice none 0 0) [] := Row.nil
      have hz := bs hF; obtain ⟨z1, hB1, hF⟩ := hz
      refine ct (fun L w => ∃ v4 : Value, L 7 = v4 ∧ Row 2 w5.heap.size w v4 z1 ∧ Ext w5 w) ?_ ?_
      ·
        refine wp_block <| lp (I := fun m L w => ∃ y1 : (List Int), ∃ y2 : Int, ∃ v3 : Value, ref01_Ends_l1 F x0 x1 x6 m y1 y2  = some z1 ∧ L 7 = v3 ∧ Row 2 w5.heap.size w v3 y1 ∧ L 8 = .int .i64 y2 ∧ L 1 = .bool x1 ∧ L 2 = .pointer (some ⟨b3, 0, none⟩) ∧ L 6 = .slice a2 x6.length cq2 ∧ Ext w5 w) F ⟨_, _, _, hB1, rfl, o1, rfl, rfl, rfl, rfl, (Ext.refl _)⟩ ?_
        rintro m L w6 ⟨y1, y2, v3, hB1, l7_i1, O7_i1, l8_i1, l1_i1, l2_i1, l6_i1, K0_i1⟩
        rcases m with _ | m
        · rw [ref01_Ends_l1] at hB1; cases hB1
        rw [ref01_Ends_l1] at hB1
        have k5 := k4.tr K0_i1
        have r10 := r9.ext K0_i1
        have hb5 := hb4.ext K0_i1
        have r11 := r8.ext K0_i1
        have hz := RV.sl O7_i1.rv; obtain ⟨a3, cq3, rfl, -, -, -⟩ := hz
        refine wp_seq <| wp_seq <| rg <| vl rfl rfl xmv <| vl rfl rfl (xfa l2_i1 fa24_0) <| vl rfl rfl (xld rfl ti3 ((Bx.cs hb5).at 0 rfl)) <| vl rfl rfl (xleq l8_i1 rfl) <| nl <| cnd rfl (fun h5 => ?_) (fun h5 => ?_)
        ·
          have hB1 := ifp hB1 h5
          refine wp_skip <| wp_seq <| ?_
          have hz := bs hB1; obtain ⟨y3, hB3, hB1⟩ := hz
          refine ct (fun L w => ∃ v5 : Value, L 7 = v5 ∧ Row 2 w5.heap.size w v5 y3 ∧ L 1 = .bool x1 ∧ L 2 = .pointer (some ⟨b3, 0, none⟩) ∧ L 6 = .slice a2 x6.length cq2 ∧ L 8 = .int .i64 y2 ∧ Ext w5 w) ?_ ?_
          ·
            refine wp_block <| wp_seq <| rg <| vl rfl rfl xmv <| nl <| ?_
            have hz := bs hB3; obtain ⟨y4, hB4, hB3⟩ := hz
            refine ct (fun L w => ∃ v6 : Value, L 7 = v6 ∧ Row 2 w5.heap.size w v6 y4 ∧ L 1 = .bool x1 ∧ L 2 = .pointer (some ⟨b3, 0, none⟩) ∧ L 6 = .slice a2 x6.length cq2 ∧ L 8 = .int .i64 y2 ∧ Ext w5 w) ?_ ?_
            ·
              refine cnd l1_i1 (fun h6 => ?_) (fun h6 => ?_)
              ·
                have hB4 := ifp hB4 h6
                refine rg <| vl rfl rfl xmv <| vl rfl rfl xmv <| ?_
                have hz := bs hB4; obtain ⟨x7, Ex7, hB4⟩ := hz
                have hz := (RV.els r8).ix Ex7; obtain ⟨b4, f1, cs3, e2, i2, i3, q4, hc1⟩ := hz
                cases e2
                obtain ⟨a4, cq4, rfl, p2, q5, e3⟩ := q4
                have r12 := RV.of1 p2 q5 e3
                have hc2 := hc1.ext K0_i1
                have r13 := r12.ext K0_i1
                refine vl rfl rfl (xixs l6_i1 rfl Try.underlying53 ti32 i2 i3) <| vl rfl rfl (xld rfl ti32 (hc2.at 0 rfl)) <| vl rfl rfl xmv <| ?_
                have hz := bs hB4; obtain ⟨x8, Ex8, hB4⟩ := hz
                have hz := (RV.els r12).ix Ex8; obtain ⟨b5, f2, cs4, e4, i4, i5, q6, hc3⟩ := hz
                cases e4
                obtain rfl := q6
                have hc4 := hc3.ext K0_i1
                refine vl rfl rfl (xixs rfl l8_i1 Try.underlying32 ti2 i4 i5) <| vl rfl rfl (xld rfl ti2 (hc4.at 0 rfl)) <| sbsv (cs := [.int .i64 x8]) Try.underlying32 ti2 rfl (pc rfl pn) rfl rfl rfl rfl rfl fun b6 w7 hx6 hg2 hb6 => ?_
                have k6 := k5.tr hx6
                have k7 := K0_i1.tr hx6
                have hb7 := hb5.ext hx6
                have r14 := r10.ext hx6
                have r15 := r11.ext hx6
                have O1 := O7_i1.ext hx6
                have o3 : Row (α := Int) 2 w6.heap.size w7 (.slice (some ⟨b6, 0, none⟩) 1 1) [x8] := Row.lit hg2 hb6 rfl (ble rfl)
                have hz := bs hB4; obtain ⟨x9, Ex9, hB4⟩ := hz
                refine sapx (l := y1) (k := ([x8] : List Int)) l7_i1 rfl Try.underlying32 ti2 rfl rfl O1 (RV.els o3.rv) Ex9 k7.size fun v7 w8 o4 hB6 hgr1 how1 => ?_
                have k8 := Ext.grow k6 k4.size hB6
                have k9 : Ext w5 w8 := k7.trans hB6
                have hb8 := hb4.ext k9
                have r17 := r9.ext k9
                have r18 := r8.ext k9
                have hz := RV.sl o4.rv; obtain ⟨a5, cq5, rfl, -, -, -⟩ := hz
                refine vl rfl rfl xas <| nl <| ?_
                cases hB4
                refine lf <| ?_
                exact ⟨_, rfl, o4, l1_i1, l2_i1, l6_i1, l8_i1, k9⟩
              ·
                have hB4 := ifn hB4 h6
                refine rg <| vl rfl rfl xmv <| vl rfl rfl xmv <| vl rfl rfl xmv <| ?_
                have hz := bs hB4; obtain ⟨x10, Ex10, hB4⟩ := hz
                have hz := (RV.els r8).ix Ex10; obtain ⟨b7, f3, cs5, e5, i6, i7, q7, hc5⟩ := hz
                cases e5
                obtain ⟨a6, cq6, rfl, p3, q8, e6⟩ := q7
                have r19 := RV.of1 p3 q8 e6
                have hc6 := hc5.ext K0_i1
                have r20 := r19.ext K0_i1
                refine vl rfl rfl (xixs l6_i1 l8_i1 Try.underlying53 ti32 i6 i7) <| vl rfl rfl (xld rfl ti32 (hc6.at 0 rfl)) <| ?_
                have hz := bs hB4; obtain ⟨x11, Ex11, hB4⟩ := hz
                have hz := (RV.els r19).ix Ex11; obtain ⟨b8, f4, cs6, e7, i8, i9, q9, hc7⟩ := hz
                cases e7
                obtain rfl := q9
                have hc8 := hc7.ext K0_i1
                refine vl rfl rfl (xixs rfl rfl Try.underlying32 ti2 i8 i9) <| vl rfl rfl (xld rfl ti2 (hc8.at 0 rfl)) <| vl rfl rfl (xneg rfl) <| sbsv (cs := [.int .i64 (w64 (0 - x11))]) Try.underlying32 ti2 rfl (pc rfl pn) rfl rfl rfl rfl rfl fun b9 w9 hx7 hg3 hb9 => ?_
                have k10 := k5.tr hx7
                have k11 := K0_i1.tr hx7
                have hb10 := hb5.ext hx7
                have r21 := r10.ext hx7
                have r22 := r11.ext hx7
                have O2 := O7_i1.ext hx7
                have o5 : Row (α := Int) 2 w6.heap.size w9 (.slice (some ⟨b9, 0, none⟩) 1 1) [w64 (0 - x11)] := Row.lit hg3 hb9 rfl (ble rfl)
                have hz := bs hB4; obtain ⟨x12, Ex12, hB4⟩ := hz
                refine sapx (l := y1) (k := ([w64 (0 - x11)] : List Int)) l7_i1 rfl Try.underlying32 ti2 rfl rfl O2 (RV.els o5.rv) Ex12 k11.size fun v8 w10 o6 hB8 hgr2 how2 => ?_
                have k12 := Ext.grow k10 k4.size hB8
                have k13 : Ext w5 w10 := k11.trans hB8
                have hb11 := hb4.ext k13
                have r24 := r9.ext k13
                have r25 := r8.ext k13
                have hz := RV.sl o6.rv; obtain ⟨a7, cq7, rfl, -, -, -⟩ := hz
                refine vl rfl rfl xas <| nl <| ?_
                cases hB4
                refine lf <| ?_
                exact ⟨_, rfl, o6, l1_i1, l2_i1, l6_i1, l8_i1, k13⟩
            rintro L w11 ⟨v6, l7_j1, O7_j1, l1_j1, l2_j1, l6_j1, l8_j1, K0_j1⟩
            have k14 := k4.tr K0_j1
            have r26 := r9.ext K0_j1
            have hb12 := hb4.ext K0_j1
            have r27 := r8.ext K0_j1
            have hz := RV.sl O7_j1.rv; obtain ⟨a8, cq8, rfl, -, -, -⟩ := hz
            cases hB3
            refine lf <| ?_
            exact ⟨_, l7_j1, O7_j1, l1_j1, l2_j1, l6_j1, l8_j1, K0_j1⟩
          rintro L w12 ⟨v5, l7_j2, O7_j2, l1_j2, l2_j2, l6_j2, l8_j2, K0_j2⟩
          have k15 := k4.tr K0_j2
          have r28 := r9.ext K0_j2
          have hb13 := hb4.ext K0_j2
          have r29 := r8.ext K0_j2
          have hz := RV.sl O7_j2.rv; obtain ⟨a9, cq9, rfl, -, -, -⟩ := hz
          refine rg <| vl rfl rfl xmv <| vl rfl rfl (xadd l8_j2 rfl) <| vl rfl rfl xas <| nl <| ?_
          refine lq m (Nat.lt_succ_self _) <| ?_
          exact ⟨_, _, _, hB1, l7_j2, O7_j2, rfl, l1_j2, l2_j2, l6_j2, K0_j2⟩
        ·
          have hB1 := ifn hB1 h5
          refine wp_exit <| ?_
          cases hB1
          refine lf <| ?_
          exact ⟨_, l7_i1, O7_i1, K0_i1⟩
      rintro L w13 ⟨v4, l7_j3, O7_j3, K0_j3⟩
      have k16 := k4.tr K0_j3
      have hz := RV.sl O7_j3.rv; obtain ⟨a10, cq10, rfl, -, -, -⟩ := hz
      refine wp_seq <| rg <| vl rfl rfl xmv <| vl rfl rfl xas <| vl rfl rfl xas <| nl <| ?_
      cases hF
      exact wp_ret <| rt rfl (.tmp l7_j3 rfl (.tmp rfl rfl .nil)) ⟨_, rfl, O7_j3.rv, k16⟩

set_option maxHeartbeats 4000000 in
theorem c21 {w0 : World} {v0 : Value} {x0 : (Int × (List (Int × Int × Int)))} (r0 : RV w0 v0 x0) {x1 : Int} {x2 : Int} {F : Nat} {r : ((Int × Int) × Int)} (hF : ref01_Sung F x0 x1 x2 = some r) :
    Calls Try.prog 21 [v0, .int .i64 x1, .int .i64 x2].toArray w0 (Ret fun v w' => ∃ u0 : Value, v = .tuple #[u0, .int .i64 r.2] ∧ RV w' u0 r.1 ∧ Ext w0 w') := by
  unfold ref01_Sung at hF
  have hz := id r0; obtain ⟨_, rfl, ⟨_, _, rfl, rfl, ⟨a1, cq1, rfl, p1, q4, e1⟩⟩⟩ := hz
  have r4 := RV.of1 p1 q4 e1
  refine entr (n := 51) Try.func21 rfl rfl rfl <| wp_seq <| rg <| sbx rfl rfl fun b4 w1 hx1 hg1 hb1 => ?_
  have r5 := r4.ext hx1
  have r6 := r0.ext hx1
  refine sal ti28 fun b5 w2 hx2 hg2 hb2 => ?_
  have k1 := hx1.tr hx2
  have hb3 := hb1.ext hx2
  have r7 := r5.ext hx2
  refine vl rfl rfl xas <| nl <| wp_seq <| wp_seq <| rg <| vl rfl rfl (xlda rfl ti24 rfl (Bx.cs hb3)) <| ?_
  have hz := bs hF; obtain ⟨x4, Ex4, hF⟩ := hz
  refine cl rfl rfl (xc cb36 (mc rfl mn)) (c36 (show RV (α := (Int × (List (Int × Int × Int)))) _ (.agg [.int .i64 x0.1, .slice a1 x0.2.length cq1].toArray) (x0.1, x0.2) from ⟨_, rfl, ⟨[.int .i64 x0.1], [.slice a1 x0.2.length cq1], rfl, rfl, r7.rep1⟩⟩) Ex4) ?_
  rintro _ w3 ⟨rfl, hx3⟩
  have k2 := k1.tr hx3
  have k3 := hx2.tr hx3
  have hb4 := hb3.ext hx3
  have r8 := r7.ext hx3
  have hb5 := hb2.ext hx3
  refine vl rfl rfl (xneq rfl rfl) <| nl <| cnd rfl (fun h4 => ?_) (fun h4 => ?_)
  ·
    have hF := ifp hF h4
    refine wp_seq <| rg <| vl rfl rfl (xbdv (r := [.int .i64 0, .int .i64 0]) ti28 sp28 pn rfl) <| vl rfl rfl (xlda rfl ti24 rfl (Bx.cs hb4)) <| ?_
    have hz := bs hF; obtain ⟨x5, Ex5, hF⟩ := hz
    refine cl rfl rfl (xc cb36 (mc rfl mn)) (c36 (show RV (α := (Int × (List (Int × Int × Int)))) _ (.agg [.int .i64 x0.1, .slice a1 x0.2.length cq1].toArray) (x0.1, x0.2) from ⟨_, rfl, ⟨[.int .i64 x0.1], [.slice a1 x0.2.length cq1], rfl, rfl, r8.rep1⟩⟩) Ex5) ?_
    rintro _ w4 ⟨rfl, hx4⟩
    have k4 := k2.tr hx4
    have k5 := k3.tr hx4
    have hb6 := hb5.ext hx4
    refine sst rfl rfl rfl ti28 hb6 rfl rfl (ble rfl) fun w5 hch1 hb7 => ?_
    have k6 := Ext.chg k4 hch1 (Nat.le_trans hx1.size hg2)
    have k7 := Ext.chg k5 hch1 (Nat.le_trans (Nat.le_refl _) hg2)
    have hb8 : Bx w5 b5 28 [.int .i64 0, .int .i64 0] := hb7
    refine vl rfl rfl xas <| nl <| ?_
    cases hF
    exact wp_ret <| rt rfl (.cell rfl rfl ti28 rfl (Bx.cs hb8) (.tmp rfl rfl .nil)) ⟨_, rfl, (show RV (α := (Int × Int)) _ (.agg [.int .i64 0, .int .i64 0].toArray) (0, 0) from ⟨_, rfl, ⟨[.int .i64 0], [.int .i64 0], rfl, rfl, rfl⟩⟩), k6⟩
  ·
    have hF := ifn hF h4
    refine wp_skip <| wp_seq <| wp_seq <| rg <| vl rfl rfl xmv <| vl rfl rfl (xlss rfl rfl) <| vl rfl rfl xmv <| gv rfl rfl rfl rfl (gw0 rfl) rfl (fun hc => xmva rfl) <| gv rfl rfl rfl rfl (gw0 rfl) rfl (fun hc => xfa rfl fa24_0) <| gv rfl rfl rfl rfl (gw0 rfl) rfl (fun hc => xld (mv hc rfl) ti3 ((Bx.cs hb4).at 0 rfl)) <| gv rfl rfl rfl rfl (gw0 rfl) rfl (fun hc => xgtr (mv hc rfl) (mv hc rfl)) <| vl rfl rfl (xpo rfl rfl rfl) <| vl rfl rfl xmv <| gv rfl rfl rfl rfl (gw0 rfl) rfl (fun hc => xmva rfl) <| ?_
    have hz := bs hF; obtain ⟨x6, Ex6, hF⟩ := hz
    refine gc rfl rfl rfl rfl (gw0 rfl) rfl (fun hc => xc cb59 (mc (mv hc rfl) mn)) (fun hc => (c59 (gdp Ex6 hc))) (fun v4 w6 hy1 hn1 => ?_)
    have hx5 : Ext w3 w6 := gx (fun h => (hy1 h).2) (fun h => (hn1 h).2 ▸ Ext.refl _)
    have e2 := mkw (fun h => (hy1 h).1) (fun h => (hn1 h).1)
    have k8 := k2.tr hx5
    have k9 := k3.tr hx5
    have hb9 := hb4.ext hx5
    have r9 := r8.ext hx5
    have hb10 := hb5.ext hx5
    refine gv rfl rfl rfl rfl (gw0 rfl) rfl (fun hc => xnot (mv hc e2)) <| vl rfl rfl (xpo rfl rfl rfl) <| nl <| cnd rfl (fun h5 => ?_) (fun h5 => ?_)
    ·
      have hF := ifp hF h5
      refine wp_seq <| rg <| vl rfl rfl (xbdv (r := [.int .i64 0, .int .i64 0]) ti28 sp28 pn rfl) <| sst rfl rfl rfl ti28 hb10 rfl rfl (ble rfl) fun w7 hch2 hb11 => ?_
      have k10 := Ext.chg k8 hch2 (Nat.le_trans hx1.size hg2)
      have k11 := Ext.chg k9 hch2 (Nat.le_trans (Nat.le_refl _) hg2)
      have hb12 : Bx w7 b5 28 [.int .i64 0, .int .i64 0] := hb11
      refine vl rfl rfl xas <| nl <| ?_
      cases hF
      exact wp_ret <| rt rfl (.cell rfl rfl ti28 rfl (Bx.cs hb12) (.tmp rfl rfl .nil)) ⟨_, rfl, (show RV (α := (Int × Int)) _ (.agg [.int .i64 0, .int .i64 0].toArray) (0, 0) from ⟨_, rfl, ⟨[.int .i64 0], [.int .i64 0], rfl, rfl, rfl⟩⟩), k10⟩
    ·
      have hF := ifn hF h5
      refine wp_skip <| wp_seq <| rg <| vl rfl rfl (xlda rfl ti24 rfl (Bx.cs hb9)) <| vl rfl rfl xmv <| ?_
      have hz := bs hF; obtain ⟨x7, Ex7, hF⟩ := hz
      refine cl rfl rfl (xc cb17 (mc rfl (mc rfl mn))) (c17 (show RV (α := (Int × (List (Int × Int × Int)))) _ (.agg [.int .i64 x0.1, .slice a1 x0.2.length cq1].toArray) (x0.1, x0.2) from ⟨_, rfl, ⟨[.int .i64 x0.1], [.slice a1 x0.2.length cq1], rfl, rfl, r9.rep1⟩⟩) Ex7) ?_
      rintro _ w8 ⟨u1, rfl, r10, hx6⟩
      have k12 := k8.tr hx6
      have k13 := k9.tr hx6
      have hb13 := hb10.ext hx6
      have hz := id r10; obtain ⟨_, rfl, ⟨_, _, rfl, rfl, rfl⟩⟩ := hz
      refine vl rfl rfl xmv <| vl rfl rfl (xext rfl rfl) <| vl rfl rfl (xext rfl rfl) <| sal ti28 fun b6 w9 hx7 hg3 hb14 => ?_
      have k14 := k12.tr hx7
      have k15 := k13.tr hx7
      have hb15 := hb13.ext hx7
      have r11 := r10.ext hx7
      refine sst rfl rfl rfl ti28 hb14 rfl rfl (ble rfl) fun w10 hch3 hb16 => ?_
      have k16 := Ext.chg k14 hch3 (Nat.le_trans k12.size hg3)
      have k17 := Ext.chg k15 hch3 (Nat.le_trans k13.size hg3)
      have k18 := Ext.chg hx7 hch3 (Nat.le_trans (Nat.le_refl _) hg3)
      have hb17 := hb13.ext k18
      have hb18 : Bx w10 b6 28 [.int .i64 x7.1.1, .int .i64 x7.1.2] := hb16
      refine vl rfl rfl xas <| nl <| wp_seq <| wp_seq <| rg <| vl rfl rfl xmv <| vl rfl rfl (xneq rfl rfl) <| nl <| cnd rfl (fun h6 => ?_) (fun h6 => ?_)
      ·
        have hF := ifp hF h6
        refine wp_seq <| rg <| vl rfl rfl (xbdv (r := [.int .i64 0, .int .i64 0]) ti28 sp28 pn rfl) <| vl rfl rfl xmv <| sst rfl rfl rfl ti28 hb17 rfl rfl (ble rfl) fun w11 hch4 hb19 => ?_
        have k19 := Ext.chg k16 hch4 (Nat.le_trans hx1.size hg2)
        have k20 := Ext.chg k17 hch4 (Nat.le_trans (Nat.le_refl _) hg2)
        have hb20 : Bx w11 b5 28 [.int .i64 0, .int .i64 0] := hb19
        refine vl rfl rfl xas <| nl <| ?_
        cases hF
        exact wp_ret <| rt rfl (.cell rfl rfl ti28 rfl (Bx.cs hb20) (.tmp rfl rfl .nil)) ⟨_, rfl, (show RV (α := (Int × Int)) _ (.agg [.int .i64 0, .int .i64 0].toArray) (0, 0) from ⟨_, rfl, ⟨[.int .i64 0], [.int .i64 0], rfl, rfl, rfl⟩⟩), k19⟩
      ·
        have hF := ifn hF h6
        refine wp_skip <| wp_seq <| rg <| vl rfl rfl xmv <| vl rfl rfl (xfa rfl fa28_0) <| vl rfl rfl (xld rfl ti2 ((Bx.cs hb18).at 0 rfl)) <| vl rfl rfl (xmul rfl rfl) <| vl rfl rfl (xquo rfl rfl (by decide)) <| vl rfl rfl xmv <| vl rfl rfl (xfa rfl fa28_1) <| vl rfl rfl (xld rfl ti2 ((Bx.cs hb18).at 1 rfl)) <| vl rfl rfl (xmul rfl rfl) <| vl rfl rfl (xquo rfl rfl (by decide)) <| vl rfl rfl (xbdv (r := [.int .i64 (w64 (Int.tdiv (w64 (x2 * x7.1.1)) 16000)), .int .i64 (w64 (Int.tdiv (w64 (x2 * x7.1.2)) 16000))]) ti28 sp28 (pc rfl (pc rfl pn)) rfl) <| sst rfl rfl rfl ti28 hb17 rfl rfl (ble rfl) fun w12 hch5 hb21 => ?_
        have k21 := Ext.chg k16 hch5 (Nat.le_trans hx1.size hg2)
        have k22 := Ext.chg k17 hch5 (Nat.le_trans (Nat.le_refl _) hg2)
        have hb22 : Bx w12 b5 28 [.int .i64 (w64 (Int.tdiv (w64 (x2 * x7.1.1)) 16000)), .int .i64 (w64 (Int.tdiv (w64 (x2 * x7.1.2)) 16000))] := hb21
        refine vl rfl rfl xas <| nl <| ?_
        cases hF
        exact wp_ret <| rt rfl (.cell rfl rfl ti28 rfl (Bx.cs hb22) (.tmp rfl rfl .nil)) ⟨_, rfl, (show RV (α := (Int × Int)) _ (.agg [.int .i64 (w64 (Int.tdiv (w64 (x2 * x7.1.1)) 16000)), .int .i64 (w64 (Int.tdiv (w64 (x2 * x7.1.2)) 16000))].toArray) (w64 (Int.tdiv (w64 (x2 * x7.1.1)) 16000), w64 (Int.tdiv (w64 (x2 * x7.1.2)) 16000)) from ⟨_, rfl, ⟨[.int .i64 (w64 (Int.tdiv (w64 (x2 * x7.1.1)) 16000))], [.int .i64 (w64 (Int.tdiv (w64 (x2 * x7.1.2)) 16000))], rfl, rfl, rfl⟩⟩), k21⟩

set_option maxHeartbeats 4000000 in
theorem c23 {w0 : World} {v0 : Value} {x0 : (Int × (List (Int × Int × Int)))} (r0 : RV w0 v0 x0) {x1 : Int} {x2 : Int} {F : Nat} {r : (Int × Int)} (hF : ref01_Cost F x0 x1 x2 = some r) :
    Calls Try.prog 23 [v0, .int .i64 x1, .int .i64 x2].toArray w0 (Ret fun v w' => v = .tuple #[.int .i64 r.1, .int .i64 r.2] ∧ Ext w0 w') := by
  unfold ref01_Cost at hF
  have hz := id r0; obtain ⟨_, rfl, ⟨_, _, rfl, rfl, ⟨a1, cq1, rfl, p1, q4, e1⟩⟩⟩ := hz
  have r4 := RV.of1 p1 q4 e1
  refine entr (n := 41) Try.func23 rfl rfl rfl <| wp_seq <| rg <| sbx rfl rfl fun b4 w1 hx1 hg1 hb1 => ?_
  have r5 := r4.ext hx1
  have r6 := r0.ext hx1
  refine vl rfl rfl xas <| vl rfl rfl xas <| nl <| wp_seq <| wp_seq <| rg <| vl rfl rfl (xlda rfl ti24 rfl (Bx.cs hb1)) <| ?_
  have hz := bs hF; obtain ⟨x4, Ex4, hF⟩ := hz
  refine cl rfl rfl (xc cb36 (mc rfl mn)) (c36 (show RV (α := (Int × (List (Int × Int × Int)))) _ (.agg [.int .i64 x0.1, .slice a1 x0.2.length cq1].toArray) (x0.1, x0.2) from ⟨_, rfl, ⟨[.int .i64 x0.1], [.slice a1 x0.2.length cq1], rfl, rfl, r5.rep1⟩⟩) Ex4) ?_
  rintro _ w2 ⟨rfl, hx2⟩
  have k1 := hx1.tr hx2
  have hb2 := hb1.ext hx2
  have r7 := r5.ext hx2
  refine vl rfl rfl (xneq rfl rfl) <| nl <| cnd rfl (fun h4 => ?_) (fun h4 => ?_)
  ·
    have hF := ifp hF h4
    refine wp_seq <| rg <| vl rfl rfl (xlda rfl ti24 rfl (Bx.cs hb2)) <| ?_
    have hz := bs hF; obtain ⟨x5, Ex5, hF⟩ := hz
    refine cl rfl rfl (xc cb36 (mc rfl mn)) (c36 (show RV (α := (Int × (List (Int × Int × Int)))) _ (.agg [.int .i64 x0.1, .slice a1 x0.2.length cq1].toArray) (x0.1, x0.2) from ⟨_, rfl, ⟨[.int .i64 x0.1], [.slice a1 x0.2.length cq1], rfl, rfl, r7.rep1⟩⟩) Ex5) ?_
    rintro _ w3 ⟨rfl, hx3⟩
    have k2 := k1.tr hx3
    refine vl rfl rfl xas <| vl rfl rfl xas <| nl <| ?_
    cases hF
    exact wp_ret <| rt rfl (.tmp rfl rfl (.tmp rfl rfl .nil)) ⟨rfl, k2⟩
  ·
    have hF := ifn hF h4
    refine wp_skip <| wp_seq <| wp_seq <| rg <| vl rfl rfl xmv <| vl rfl rfl (xlss rfl rfl) <| vl rfl rfl xmv <| gv rfl rfl rfl rfl (gw0 rfl) rfl (fun hc => xmva rfl) <| gv rfl rfl rfl rfl (gw0 rfl) rfl (fun hc => xfa rfl fa24_0) <| gv rfl rfl rfl rfl (gw0 rfl) rfl (fun hc => xld (mv hc rfl) ti3 ((Bx.cs hb2).at 0 rfl)) <| gv rfl rfl rfl rfl (gw0 rfl) rfl (fun hc => xgtr (mv hc rfl) (mv hc rfl)) <| vl rfl rfl (xpo rfl rfl rfl) <| vl rfl rfl xmv <| gv rfl rfl rfl rfl (gw0 rfl) rfl (fun hc => xmva rfl) <| gv rfl rfl rfl rfl (gw0 rfl) rfl (fun hc => xlss (mv hc rfl) rfl) <| vl rfl rfl (xpo rfl rfl rfl) <| vl rfl rfl xmv <| gv rfl rfl rfl rfl (gw0 rfl) rfl (fun hc => xmva rfl) <| gv rfl rfl rfl rfl (gw0 rfl) rfl (fun hc => xfa rfl fa24_0) <| gv rfl rfl rfl rfl (gw0 rfl) rfl (fun hc => xld (mv hc rfl) ti3 ((Bx.cs hb2).at 0 rfl)) <| gv rfl rfl rfl rfl (gw0 rfl) rfl (fun hc => xgtr (mv hc rfl) (mv hc rfl)) <| vl rfl rfl (xpo rfl rfl rfl) <| nl <| cnd rfl (fun h5 => ?_) (fun h5 => ?_)
    ·
      have hF := ifp hF h5
      refine wp_seq <| rg <| vl rfl rfl xas <| vl rfl rfl xas <| nl <| ?_
      cases hF
      exact wp_ret <| rt rfl (.tmp rfl rfl (.tmp rfl rfl .nil)) ⟨rfl, k1⟩
    ·
      have hF := ifn hF h5
      refine wp_skip <| wp_seq <| wp_seq <| rg <| vl rfl rfl (xlda rfl ti24 rfl (Bx.cs hb2)) <| ?_
      have hz := bs hF; obtain ⟨x6, Ex6, hF⟩ := hz
      refine cl rfl rfl (xc cb37 (mc rfl mn)) (c37 (show RV (α := (Int × (List (Int × Int × Int)))) _ (.agg [.int .i64 x0.1, .slice a1 x0.2.length cq1].toArray) (x0.1, x0.2) from ⟨_, rfl, ⟨[.int .i64 x0.1], [.slice a1 x0.2.length cq1], rfl, rfl, r7.rep1⟩⟩) Ex6) ?_
      rintro _ w4 ⟨rfl, hx4⟩
      have k3 := k1.tr hx4
      have hb3 := hb2.ext hx4
      have r8 := r7.ext hx4
      refine nl <| cnd rfl (fun h6 => ?_) (fun h6 => ?_)
      ·
        have hF := ifp hF h6
        refine wp_seq <| rg <| vl rfl rfl xas <| vl rfl rfl xas <| nl <| ?_
        cases hF
        exact wp_ret <| rt rfl (.tmp rfl rfl (.tmp rfl rfl .nil)) ⟨rfl, k3⟩
      ·
        have hF := ifn hF h6
        refine wp_skip <| wp_seq <| rg <| vl rfl rfl (xlda rfl ti24 rfl (Bx.cs hb3)) <| ?_
        have hz := bs hF; obtain ⟨x7, Ex7, hF⟩ := hz
        refine cl rfl rfl (xc cb51 (mc rfl mn)) (c51 (show RV (α := (Int × (List (Int × Int × Int)))) _ (.agg [.int .i64 x0.1, .slice a1 x0.2.length cq1].toArray) (x0.1, x0.2) from ⟨_, rfl, ⟨[.int .i64 x0.1], [.slice a1 x0.2.length cq1], rfl, rfl, r8.rep1⟩⟩) Ex7) ?_
        rintro _ w5 ⟨u1, rfl, r9, hx5⟩
        have k4 := k3.tr hx5
        have hz := RV.sl r9; obtain ⟨a2, cq2, rfl, -, -, -⟩ := hz
        refine vl rfl rfl xmv <| ?_
        have hz := bs hF; obtain ⟨x8, Ex8, hF⟩ := hz
        have hz := (RV.els r9).ix Ex8; obtain ⟨b5, f1, cs4, e2, i1, i2, q5, hc1⟩ := hz
        cases e2
        obtain ⟨a3, cq3, rfl, p2, q6, e3⟩ := q5
        have r10 := RV.of1 p2 q6 e3
        refine vl rfl rfl (xixs rfl rfl Try.underlying53 ti32 i1 i2) <| vl rfl rfl (xld rfl ti32 (hc1.at 0 rfl)) <| vl rfl rfl xmv <| ?_
        have hz := bs hF; obtain ⟨x9, Ex9, hF⟩ := hz
        have hz := (RV.els r10).ix Ex9; obtain ⟨b6, f2, cs5, e4, i3, i4, q7, hc2⟩ := hz
        cases e4
        obtain rfl := q7
        refine vl rfl rfl (xixs rfl rfl Try.underlying32 ti2 i3 i4) <| vl rfl rfl (xld rfl ti2 (hc2.at 0 rfl)) <| vl rfl rfl xas <| vl rfl rfl xas <| nl <| ?_
        cases hF
        exact wp_ret <| rt rfl (.tmp rfl rfl (.tmp rfl rfl .nil)) ⟨rfl, k4⟩

set_option maxHeartbeats 4000000 in
theorem c31 {w0 : World} {v0 : Value} {x0 : (Int × (List (Int × Int × Int)))} (r0 : RV w0 v0 x0) {F : Nat} {r : Bool} (hF : law01_fine F x0 = some r) :
    Calls Try.prog 31 [v0].toArray w0 (Ret fun v w' => v = .bool r ∧ Ext w0 w') := by
  unfold law01_fine at hF
  have hz := id r0; obtain ⟨_, rfl, ⟨_, _, rfl, rfl, ⟨a1, cq1, rfl, p1, q2, e1⟩⟩⟩ := hz
  have r2 := RV.of1 p1 q2 e1
  refine entr (n := 16) Try.func31 rfl rfl rfl <| wp_seq <| rg <| sbx rfl rfl fun b2 w1 hx1 hg1 hb1 => ?_
  have r3 := r2.ext hx1
  have r4 := r0.ext hx1
  refine vl rfl rfl xas <| nl <| wp_seq <| rg <| vl rfl rfl (xlda rfl ti24 rfl (Bx.cs hb1)) <| ?_
  have hz := bs hF; obtain ⟨x2, Ex2, hF⟩ := hz
  refine cl rfl rfl (xc cb14 (mc rfl mn)) (c14 (show RV (α := (Int × (List (Int × Int × Int)))) _ (.agg [.int .i64 x0.1, .slice a1 x0.2.length cq1].toArray) (x0.1, x0.2) from ⟨_, rfl, ⟨[.int .i64 x0.1], [.slice a1 x0.2.length cq1], rfl, rfl, r3.rep1⟩⟩) Ex2) ?_
  rintro _ w2 ⟨rfl, hx2⟩
  have k1 := hx1.tr hx2
  have hb2 := hb1.ext hx2
  have r5 := r3.ext hx2
  refine vl rfl rfl (xnot rfl) <| vl rfl rfl xmv <| gv rfl rfl rfl rfl (gw1 rfl) rfl (fun hc => xlda rfl ti24 rfl (Bx.cs hb2)) <| ?_
  have hz := bs hF; obtain ⟨x3, Ex3, hF⟩ := hz
  refine gc rfl rfl rfl rfl (gw1 rfl) rfl (fun hc => xc cb36 (mc (mv hc rfl) mn)) (fun hc => (c36 (show RV (α := (Int × (List (Int × Int × Int)))) _ (.agg [.int .i64 x0.1, .slice a1 x0.2.length cq1].toArray) (x0.1, x0.2) from ⟨_, rfl, ⟨[.int .i64 x0.1], [.slice a1 x0.2.length cq1], rfl, rfl, r5.rep1⟩⟩) (gdp Ex3 hc))) (fun v2 w3 hy1 hn1 => ?_)
  have hx3 : Ext w2 w3 := gx (fun h => (hy1 h).2) (fun h => (hn1 h).2 ▸ Ext.refl _)
  have e2 := mkw (fun h => (hy1 h).1) (fun h => (hn1 h).1)
  have k2 := k1.tr hx3
  have hb3 := hb2.ext hx3
  have r6 := r5.ext hx3
  refine gv rfl rfl rfl rfl (gw1 rfl) rfl (fun hc => xeql (mv hc e2) rfl) <| vl rfl rfl (xpa rfl rfl rfl) <| vl rfl rfl xmv <| gv rfl rfl rfl rfl (gw1 rfl) rfl (fun hc => xlda rfl ti24 rfl (Bx.cs hb3)) <| ?_
  have hz := bs hF; obtain ⟨x4, Ex4, hF⟩ := hz
  refine gc rfl rfl rfl rfl (gw1 rfl) rfl (fun hc => xc cb37 (mc (mv hc rfl) mn)) (fun hc => (c37 (show RV (α := (Int × (List (Int × Int × Int)))) _ (.agg [.int .i64 x0.1, .slice a1 x0.2.length cq1].toArray) (x0.1, x0.2) from ⟨_, rfl, ⟨[.int .i64 x0.1], [.slice a1 x0.2.length cq1], rfl, rfl, r6.rep1⟩⟩) (gdp Ex4 hc))) (fun v3 w4 hy2 hn2 => ?_)
  have hx4 : Ext w3 w4 := gx (fun h => (hy2 h).2) (fun h => (hn2 h).2 ▸ Ext.refl _)
  have e3 := mkw (fun h => (hy2 h).1) (fun h => (hn2 h).1)
  have k3 := k2.tr hx4
  refine gv rfl rfl rfl rfl (gw1 rfl) rfl (fun hc => xnot (mv hc e3)) <| vl rfl rfl (xpa rfl rfl rfl) <| vl rfl rfl xas <| nl <| ?_
  cases hF
  exact wp_ret <| rt rfl (.tmp rfl rfl .nil) ⟨rfl, k3⟩

set_option maxHeartbeats 4000000 in
theorem c35 {w0 : World} {v0 : Value} {x0 : (Int × (List (Int × Int × Int)))} (r0 : RV w0 v0 x0) {v1 : Value} {x1 : (List (KI .u16))} (r1 : RV w0 v1 x1) {F : Nat} {r : (List Int)} (hF : law01_True F x0 x1 = some r) :
    Calls Try.prog 35 [v0, v1].toArray w0 (Ret fun v w' => ∃ u0 : Value, v = u0 ∧ RV w' u0 r ∧ Ext w0 w') := by
  unfold law01_True at hF
  have hz := id r0; obtain ⟨_, rfl, ⟨_, _, rfl, rfl, ⟨a1, cq1, rfl, p1, q3, e1⟩⟩⟩ := hz
  have r3 := RV.of1 p1 q3 e1
  have hz := r1.sl; obtain ⟨a2, cq2, rfl, -, -, -⟩ := hz
  refine entr (n := 92) Try.func35 rfl rfl rfl <| wp_seq <| rg <| sbx rfl rfl fun b3 w1 hx1 hg1 hb1 => ?_
  have r4 := r1.ext hx1
  have r5 := r3.ext hx1
  have r6 := r0.ext hx1
  refine vl rfl rfl xas <| nl <| wp_seq <| rg <| vl rfl rfl (xlda rfl ti24 rfl (Bx.cs hb1)) <| ?_
  have hz := bs hF; obtain ⟨x3, Ex3, hF⟩ := hz
  refine cl rfl rfl (xc cb51 (mc rfl mn)) (c51 (show RV (α := (Int × (List (Int × Int × Int)))) _ (.agg [.int .i64 x0.1, .slice a1 x0.2.length cq1].toArray) (x0.1, x0.2) from ⟨_, rfl, ⟨[.int .i64 x0.1], [.slice a1 x0.2.length cq1], rfl, rfl, r5.rep1⟩⟩) Ex3) ?_
  rintro _ w2 ⟨u1, rfl, r7, hx2⟩
  have k1 := hx1.tr hx2
  have hb2 := hb1.ext hx2
  have r8 := r5.ext hx2
  have r9 := r4.ext hx2
  have hz := RV.sl r7; obtain ⟨a3, cq3, rfl, -, -, -⟩ := hz
  refine vl rfl rfl xas <| nl <| wp_seq <| rg <| vl rfl rfl xas <| nl <| wp_seq <| wp_seq <| rg <| vl rfl rfl xas <| nl <| ?_
  have o1 : Row (α := Int) 2 w2.heap.size w2 (.slice none 0 0) [] := Row.nil
  have hz := bs hF; obtain ⟨z1, hB1, hF⟩ := hz
  refine ct (fun L w => ∃ v4 : Value, L 6 = v4 ∧ Row 2 w2.heap.size w v4 z1 ∧ Ext w2 w) ?_ ?_
  ·
    refine wp_block <| lp (I := fun m L w => ∃ y1 : (List Int), ∃ y2 : Int, ∃ v3 : Value, law01_True_l1 F x0 x1 x3 m y1 y2  = some z1 ∧ L 6 = v3 ∧ Row 2 w2.heap.size w v3 y1 ∧ L 7 = .int .i64 y2 ∧ L 1 = .slice a2 x1.length cq2 ∧ L 2 = .pointer (some ⟨b3, 0, none⟩) ∧ L 5 = .slice a3 x3.length cq3 ∧ Ext w2 w) F ⟨_, _, _, hB1, rfl, o1, rfl, rfl, rfl, rfl, (Ext.refl _)⟩ ?_
    rintro m L w3 ⟨y1, y2, v3, hB1, l6_i1, O6_i1, l7_i1, l1_i1, l2_i1, l5_i1, K0_i1⟩
    rcases m with _ | m
    · rw [law01_True_l1] at hB1; cases hB1
    rw [law01_True_l1] at hB1
    have k2 := k1.tr K0_i1
    have r10 := r9.ext K0_i1
    have r11 := r8.ext K0_i1
    have hb3 := hb2.ext K0_i1
    have r12 := r7.ext K0_i1
    have hz := RV.sl O6_i1.rv; obtain ⟨a4, cq4, rfl, -, -, -⟩ := hz
    refine wp_seq <| wp_seq <| rg <| vl rfl rfl xmv <| vl rfl rfl (xfa l2_i1 fa24_0) <| vl rfl rfl (xld rfl ti3 ((Bx.cs hb3).at 0 rfl)) <| vl rfl rfl (xleq l7_i1 rfl) <| nl <| cnd rfl (fun h3 => ?_) (fun h3 => ?_)
    ·
      have hB1 := ifp hB1 h3
      refine wp_skip <| wp_seq <| wp_block <| wp_seq <| wpl [] (.pure true 0 (.pure true 1 (.pure true 2 (.pure false 3 (.pure true 4 (.pure false 5 (.pure true 6 (.pure true 7 (.pure true 8 (.pure false 9 (.pure true 10 (.pure true 11 (.pure false 12 (.pure true 13 (.pure true 14 .fin))))))))))))))) mixed (by kernel_rfl) (fun w4 hx3 => ?_)
      have k3 := k2.tr hx3
      have k4 := K0_i1.tr hx3
      have hb4 := hb3.ext hx3
      have r13 := r11.ext hx3
      have r14 := r10.ext hx3
      have r15 := r12.ext hx3
      have O1 := O6_i1.ext hx3
      refine pv rfl rfl rfl (fun _ _ => xmv) (.inl rfl) <| pv rfl rfl rfl (fun _ _ => xmv) (.inl rfl) <| ?_
      have hz := bs hB1; obtain ⟨x4, Ex4, hB1⟩ := hz
      have hz := (RV.els r7).ix Ex4; obtain ⟨b4, f1, cs3, e2, i2, i3, q4, hc1⟩ := hz
      cases e2
      obtain ⟨a5, cq5, rfl, p2, q5, e3⟩ := q4
      have r16 := RV.of1 p2 q5 e3
      have hc2 := hc1.ext k4
      have r17 := r16.ext k4
      refine pv rfl rfl rfl (fun _ _ => xixs l5_i1 l7_i1 Try.underlying53 ti32 i2 i3) (.inl rfl) <| pv rfl rfl rfl (fun _ hS => xld rfl ti32 ((hc2.ext (hS.resolve_left nofun)).at 0 rfl)) (.inr (Ext.refl _)) <| ?_
      have hz := bs hB1; obtain ⟨x5, Ex5, hB1⟩ := hz
      have hz := (RV.els r16).ix Ex5; obtain ⟨b5, f2, cs4, e4, i4, i5, q6, hc3⟩ := hz
      cases e4
      obtain rfl := q6
      have hc4 := hc3.ext k4
      refine pv rfl rfl rfl (fun _ _ => xixs rfl rfl Try.underlying32 ti2 i4 i5) (.inl rfl) <| pv rfl rfl rfl (fun _ hS => xld rfl ti2 ((hc4.ext (hS.resolve_left nofun)).at 0 rfl)) (.inr (Ext.refl _)) <| pv rfl rfl rfl (fun _ _ => xneg rfl) (.inl rfl) <| pv rfl rfl rfl (fun _ _ => xmv) (.inl rfl) <| ?_
      have hz := bs hB1; obtain ⟨x6, Ex6, hB1⟩ := hz
      have hz := ix2 r7 Ex6; obtain ⟨cs5, i6, i7, q7, hc5⟩ := hz
      obtain ⟨a6, cq6, rfl, p3, q8, e5⟩ := q7
      have r18 := RV.of1 p3 q8 e5
      have hc6 := hc5.ext k4
      have r19 := r18.ext k4
      refine pv rfl rfl rfl (fun _ _ => xixs l5_i1 rfl Try.underlying53 ti32 i6 i7) (.inl rfl) <| pv rfl rfl rfl (fun _ hS => xld rfl ti32 ((hc6.ext (hS.resolve_left nofun)).at 0 rfl)) (.inr (Ext.refl _)) <| pv rfl rfl rfl (fun _ _ => xmv) (.inl rfl) <| ?_
      have hz := bs hB1; obtain ⟨x7, Ex7, hB1⟩ := hz
      have hz := (RV.els r18).ix Ex7; obtain ⟨b6, f3, cs6, e6, i8, i9, q9, hc7⟩ := hz
      cases e6
      obtain rfl := q9
      have hc8 := hc7.ext k4
      refine pv rfl rfl rfl (fun _ _ => xixs rfl l7_i1 Try.underlying32 ti2 i8 i9) (.inl rfl) <| pv rfl rfl rfl (fun _ hS => xld rfl ti2 ((hc8.ext (hS.resolve_left nofun)).at 0 rfl)) (.inr (Ext.refl _)) <| pv rfl rfl rfl (fun _ _ => xas) (.inl rfl) <| pv rfl rfl rfl (fun _ _ => xas) (.inl rfl) <| wp_seq <| wp_seq <| rg <| vl rfl rfl xas <| nl <| ?_
      have hz := bs hB1; obtain ⟨⟨z2, z3⟩, hB3, hB1⟩ := hz
      refine ct (fun L w => L 8 = .int .i64 z2 ∧ L 9 = .int .i64 z3 ∧ L 1 = .slice a2 x1.length cq2 ∧ L 2 = .pointer (some ⟨b3, 0, none⟩) ∧ L 5 = .slice (some ⟨b4, f1, none⟩) x3.length cq3 ∧ L 6 = .slice a4 y1.length cq4 ∧ L 7 = .int .i64 y2 ∧ w2.heap.size ≤ w.heap.size ∧ Ext w4 w) ?_ ?_
      ·
        refine wp_block <| lp (I := fun m L w => ∃ y3 : Int, ∃ y4 : Int, ∃ y5 : Int, law01_True_l2 F x3 y1 y2 m y3 y4 y5  = some (z2, z3) ∧ L 8 = .int .i64 y3 ∧ L 9 = .int .i64 y4 ∧ L 10 = .int .i64 y5 ∧ L 1 = .slice a2 x1.length cq2 ∧ L 2 = .pointer (some ⟨b3, 0, none⟩) ∧ L 5 = .slice (some ⟨b4, f1, none⟩) x3.length cq3 ∧ L 6 = .slice a4 y1.length cq4 ∧ L 7 = .int .i64 y2 ∧ w2.heap.size ≤ w.heap.size ∧ Ext w4 w) F ⟨_, _, _, hB3, rfl, rfl, rfl, l1_i1, l2_i1, l5_i1, l6_i1, l7_i1, k4.size, (Ext.refl _)⟩ ?_
        rintro m L w5 ⟨y3, y4, y5, hB3, l8_i10, l9_i10, l10_i10, l1_i10, l2_i10, l5_i10, l6_i10, l7_i10, Z0_i10, K0_i10⟩
        rcases m with _ | m
        · rw [law01_True_l2] at hB3; cases hB3
        rw [law01_True_l2] at hB3
        have k5 := k3.tr K0_i10
        have k6 := k4.tr K0_i10
        have r20 := r14.ext K0_i10
        have r21 := r13.ext K0_i10
        have hb5 := hb4.ext K0_i10
        have r22 := r15.ext K0_i10
        have O2 := O1.ext K0_i10
        refine wp_seq <| wp_seq <| rg <| vl rfl rfl xmv <| vl rfl rfl xmv <| vl rfl rfl (xlss l10_i10 l7_i10) <| nl <| cnd rfl (fun h4 => ?_) (fun h4 => ?_)
        ·
          have hB3 := ifp hB3 h4
          refine wp_skip <| wp_seq <| wp_block <| wpl [] (.pure true 0 (.pure true 1 (.pure true 2 (.pure true 3 (.pure true 4 (.pure false 5 (.pure true 6 (.pure true 7 (.pure true 8 (.pure false 9 (.pure true 10 (.pure true 11 (.pure false 12 (.pure true 13 (.pure false 14 (.pure true 15 (.pure true 16 (.pure true 17 (.pure true 18 (.pure true 19 (.pure false 20 (.pure true 21 (.pure true 22 (.pure true 23 (.pure false 24 (.pure true 25 (.pure true 26 (.pure false 27 (.pure true 28 (.pure false 29 (.pure true 30 (.pure true 31 .fin)))))))))))))))))))))))))))))))) mixed (by kernel_rfl) (fun w6 hx4 => ?_)
          have k7 := k5.tr hx4
          have k8 := k6.tr hx4
          have k9 := K0_i10.tr hx4
          have zs1 := Nat.le_trans Z0_i10 hx4.size
          have hb6 := hb5.ext hx4
          have r23 := r21.ext hx4
          have r24 := r20.ext hx4
          have r25 := r22.ext hx4
          have O3 := O2.ext hx4
          refine pv rfl rfl rfl (fun _ _ => xmv) (.inl rfl) <| pv rfl rfl rfl (fun _ _ => xmv) (.inl rfl) <| pv rfl rfl rfl (fun _ _ => xmv) (.inl rfl) <| pv rfl rfl rfl (fun _ _ => xsub l10_i10 rfl) (.inl rfl) <| ?_
          have hz := bs hB3; obtain ⟨x8, Ex8, hB3⟩ := hz
          have hz := (RV.els O3.rv).ix Ex8; obtain ⟨b7, f4, cs7, e7, i11, i12, q10, hc9⟩ := hz
          cases e7
          obtain rfl := q10
          refine pv rfl rfl rfl (fun _ _ => xixs l6_i10 rfl Try.underlying32 ti2 i11 i12) (.inl rfl) <| pv rfl rfl rfl (fun _ hS => xld rfl ti2 ((hc9.ext (hS.resolve_left nofun)).at 0 rfl)) (.inr (Ext.refl _)) <| pv rfl rfl rfl (fun _ _ => xmv) (.inl rfl) <| pv rfl rfl rfl (fun _ _ => xmv) (.inl rfl) <| ?_
          have hz := bs hB3; obtain ⟨x9, Ex9, hB3⟩ := hz
          have hz := ix2 r7 Ex9; obtain ⟨cs8, i13, i14, q11, hc10⟩ := hz
          obtain ⟨a7, cq7, rfl, p4, q12, e8⟩ := q11
          have r26 := RV.of1 p4 q12 e8
          have hc11 := hc10.ext k8
          have r27 := r26.ext k8
          refine pv rfl rfl rfl (fun _ _ => xixs l5_i10 l7_i10 Try.underlying53 ti32 i13 i14) (.inl rfl) <| pv rfl rfl rfl (fun _ hS => xld rfl ti32 ((hc11.ext (hS.resolve_left nofun)).at 0 rfl)) (.inr (Ext.refl _)) <| pv rfl rfl rfl (fun _ _ => xmv) (.inl rfl) <| ?_
          have hz := bs hB3; obtain ⟨x10, Ex10, hB3⟩ := hz
          have hz := (RV.els r26).ix Ex10; obtain ⟨b8, f5, cs9, e9, i15, i16, q13, hc12⟩ := hz
          cases e9
          obtain rfl := q13
          have hc13 := hc12.ext k8
          refine pv rfl rfl rfl (fun _ _ => xixs rfl l10_i10 Try.underlying32 ti2 i15 i16) (.inl rfl) <| pv rfl rfl rfl (fun _ hS => xld rfl ti2 ((hc13.ext (hS.resolve_left nofun)).at 0 rfl)) (.inr (Ext.refl _)) <| pv rfl rfl rfl (fun _ _ => xsub rfl rfl) (.inl rfl) <| pv rfl rfl rfl (fun _ hS => xmax l8_i10 rfl) (.inr (Ext.refl _)) <| pv rfl rfl rfl (fun _ _ => xmv) (.inl rfl) <| pv rfl rfl rfl (fun _ _ => xmv) (.inl rfl) <| pv rfl rfl rfl (fun _ _ => xmv) (.inl rfl) <| pv rfl rfl rfl (fun _ _ => xsub l10_i10 rfl) (.inl rfl) <| ?_
          have hz := bs hB3; obtain ⟨x11, Ex11, hB3⟩ := hz
          have hz := ix2 O3.rv Ex11; obtain ⟨cs10, i17, i18, q14, hc14⟩ := hz
          obtain rfl := q14
          refine pv rfl rfl rfl (fun _ _ => xixs l6_i10 rfl Try.underlying32 ti2 i17 i18) (.inl rfl) <| pv rfl rfl rfl (fun _ hS => xld rfl ti2 ((hc14.ext (hS.resolve_left nofun)).at 0 rfl)) (.inr (Ext.refl _)) <| pv rfl rfl rfl (fun _ _ => xmv) (.inl rfl) <| pv rfl rfl rfl (fun _ _ => xmv) (.inl rfl) <| ?_
          have hz := bs hB3; obtain ⟨x12, Ex12, hB3⟩ := hz
          have hz := ix2 r7 Ex12; obtain ⟨cs11, i19, i20, q15, hc15⟩ := hz
          obtain ⟨a8, cq8, rfl, p5, q16, e10⟩ := q15
          have r28 := RV.of1 p5 q16 e10
          have hc16 := hc15.ext k8
          have r29 := r28.ext k8
          refine pv rfl rfl rfl (fun _ _ => xixs l5_i10 l10_i10 Try.underlying53 ti32 i19 i20) (.inl rfl) <| pv rfl rfl rfl (fun _ hS => xld rfl ti32 ((hc16.ext (hS.resolve_left nofun)).at 0 rfl)) (.inr (Ext.refl _)) <| pv rfl rfl rfl (fun _ _ => xmv) (.inl rfl) <| ?_
          have hz := bs hB3; obtain ⟨x13, Ex13, hB3⟩ := hz
          have hz := (RV.els r28).ix Ex13; obtain ⟨b9, f6, cs12, e11, i21, i22, q17, hc17⟩ := hz
          cases e11
          obtain rfl := q17
          have hc18 := hc17.ext k8
          refine pv rfl rfl rfl (fun _ _ => xixs rfl l7_i10 Try.underlying32 ti2 i21 i22) (.inl rfl) <| pv rfl rfl rfl (fun _ hS => xld rfl ti2 ((hc18.ext (hS.resolve_left nofun)).at 0 rfl)) (.inr (Ext.refl _)) <| pv rfl rfl rfl (fun _ _ => xadd rfl rfl) (.inl rfl) <| pv rfl rfl rfl (fun _ hS => xmin l9_i10 rfl) (.inr (Ext.refl _)) <| pv rfl rfl rfl (fun _ _ => xas) (.inl rfl) <| pv rfl rfl rfl (fun _ _ => xas) (.inl rfl) <| rg <| vl rfl rfl xmv <| vl rfl rfl (xadd l10_i10 rfl) <| vl rfl rfl xas <| nl <| ?_
          refine lq m (Nat.lt_succ_self _) <| ?_
          exact ⟨_, _, _, hB3, rfl, rfl, rfl, l1_i10, l2_i10, l5_i10, l6_i10, l7_i10, zs1, k9⟩
        ·
          have hB3 := ifn hB3 h4
          refine wp_exit <| ?_
          cases hB3
          refine lf <| ?_
          exact ⟨l8_i10, l9_i10, l1_i10, l2_i10, l5_i10, l6_i10, l7_i10, Z0_i10, K0_i10⟩
      rintro L w7 ⟨l8_j1, l9_j1, l1_j1, l2_j1, l5_j1, l6_j1, l7_j1, Z0_j1, K0_j1⟩
      have k10 := k3.tr K0_j1
      have k11 := k4.tr K0_j1
      have r30 := r14.ext K0_j1
      have r31 := r13.ext K0_j1
      have hb7 := hb4.ext K0_j1
      have r32 := r15.ext K0_j1
      have O4 := O1.ext K0_j1
      refine wp_seq <| rg <| vl rfl rfl xmv <| vl rfl rfl xas <| nl <| wp_seq <| wp_seq <| rg <| vl rfl rfl xmv <| vl rfl rfl (xlen l1_j1 Try.underlying49) <| vl rfl rfl (xgtr rfl rfl) <| nl <| ?_
      have hz := bs hB1; obtain ⟨y6, hB6, hB1⟩ := hz
      refine ct (fun L w => L 11 = .int .i64 y6 ∧ L 1 = .slice a2 x1.length cq2 ∧ L 2 = .pointer (some ⟨b3, 0, none⟩) ∧ L 5 = .slice (some ⟨b4, f1, none⟩) x3.length cq3 ∧ L 6 = .slice a4 y1.length cq4 ∧ L 7 = .int .i64 y2 ∧ w2.heap.size ≤ w.heap.size ∧ Ext w7 w) ?_ ?_
      ·
        refine cnd rfl (fun h5 => ?_) (fun h5 => ?_)
        ·
          have hB6 := ifp hB6 h5
          refine rg <| vl rfl rfl xmv <| vl rfl rfl xmv <| vl rfl rfl xmv <| vl rfl rfl xmv <| vl rfl rfl (xlen l1_j1 Try.underlying49) <| ?_
          have hz := bs hB6; obtain ⟨x14, Ex14, hB6⟩ := hz
          refine vl rfl rfl (xremv l7_j1 rfl Ex14) <| ?_
          have hz := bs hB6; obtain ⟨x15, Ex15, hB6⟩ := hz
          have hz := (RV.els r1).ix Ex15; obtain ⟨b10, f7, cs13, e12, i23, i24, q18, hc19⟩ := hz
          cases e12
          obtain rfl := q18
          have hc20 := hc19.ext k10
          refine vl rfl rfl (xixs l1_j1 rfl Try.underlying49 ti98 i23 i24) <| vl rfl rfl (xld rfl ti98 (hc20.at 0 rfl)) <| vl rfl rfl (xcvt rfl Try.underlying98 Try.underlying2) <| vl rfl rfl xmv <| vl rfl rfl xmv <| vl rfl rfl (xsub l9_j1 l8_j1) <| vl rfl rfl (xadd rfl rfl) <| ?_
          have hz := bs hB6; obtain ⟨x16, Ex16, hB6⟩ := hz
          refine vl rfl rfl (xremv rfl rfl Ex16) <| vl rfl rfl (xadd l8_j1 rfl) <| vl rfl rfl xas <| nl <| ?_
          cases hB6
          refine lf <| ?_
          exact ⟨rfl, l1_j1, l2_j1, l5_j1, l6_j1, l7_j1, Z0_j1, (Ext.refl _)⟩
        ·
          have hB6 := ifn hB6 h5
          refine wp_skip <| ?_
          cases hB6
          refine lf <| ?_
          exact ⟨l8_j1, l1_j1, l2_j1, l5_j1, l6_j1, l7_j1, Z0_j1, (Ext.refl _)⟩
      rintro L w8 ⟨l11_j2, l1_j2, l2_j2, l5_j2, l6_j2, l7_j2, Z0_j2, K0_j2⟩
      have k12 := k10.tr K0_j2
      have k13 := k11.tr K0_j2
      have k14 := K0_j1.tr K0_j2
      have r33 := r30.ext K0_j2
      have r34 := r31.ext K0_j2
      have hb8 := hb7.ext K0_j2
      have r35 := r32.ext K0_j2
      have O5 := O4.ext K0_j2
      refine rg <| vl rfl rfl xmv <| vl rfl rfl xmv <| sbsv (cs := [.int .i64 y6]) Try.underlying32 ti2 rfl (pc l11_j2 pn) rfl rfl rfl rfl rfl fun b11 w9 hx5 hg2 hb9 => ?_
      have k15 := k12.tr hx5
      have k16 := k13.tr hx5
      have k17 := k14.tr hx5
      have k18 := K0_j2.tr hx5
      have zs2 := Nat.le_trans Z0_j2 hx5.size
      have hb10 := hb8.ext hx5
      have r36 := r34.ext hx5
      have r37 := r33.ext hx5
      have r38 := r35.ext hx5
      have O6 := O5.ext hx5
      have o4 : Row (α := Int) 2 w8.heap.size w9 (.slice (some ⟨b11, 0, none⟩) 1 1) [y6] := Row.lit hg2 hb9 rfl (ble rfl)
      have hz := bs hB1; obtain ⟨x17, Ex17, hB1⟩ := hz
      refine sapx (l := y1) (k := ([y6] : List Int)) l6_j2 rfl Try.underlying32 ti2 rfl rfl O6 (RV.els o4.rv) Ex17 k16.size fun v5 w10 o5 hB9 hgr1 how1 => ?_
      have k19 := Ext.grow k15 k1.size hB9
      have k20 : Ext w2 w10 := k16.trans hB9
      have zs3 := Nat.le_trans zs2 hgr1.size
      have hb11 := hb2.ext k20
      have r40 := r8.ext k20
      have r41 := r9.ext k20
      have r42 := r7.ext k20
      have hz := RV.sl o5.rv; obtain ⟨a9, cq9, rfl, -, -, -⟩ := hz
      refine vl rfl rfl xas <| nl <| rg <| vl rfl rfl xmv <| vl rfl rfl (xadd l7_j2 rfl) <| vl rfl rfl xas <| nl <| ?_
      refine lq m (Nat.lt_succ_self _) <| ?_
      exact ⟨_, _, _, hB1, rfl, o5, rfl, l1_j2, l2_j2, l5_j2, k20⟩
    ·
      have hB1 := ifn hB1 h3
      refine wp_exit <| ?_
      cases hB1
      refine lf <| ?_
      exact ⟨_, l6_i1, O6_i1, K0_i1⟩
  rintro L w11 ⟨v4, l6_j3, O6_j3, K0_j3⟩
  have k21 := k1.tr K0_j3
  have hz := RV.sl O6_j3.rv; obtain ⟨a10, cq10, rfl, -, -, -⟩ := hz
  refine wp_seq <| rg <| vl rfl rfl xmv <| vl rfl rfl xas <| nl <| ?_
  cases hF
  exact wp_ret <| rt rfl (.tmp l6_j3 rfl .nil) ⟨_, rfl, O6_j3.rv, k21⟩
end Go.Proofs.Ythppacohnciinaa
